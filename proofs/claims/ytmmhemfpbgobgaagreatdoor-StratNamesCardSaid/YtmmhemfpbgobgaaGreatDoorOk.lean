/-
  Each of the functions compiles to its text in the language of Go.Ads. No condition.
-/
import Derived.Test.YtmmhemfpbgobgaaGreatDoorTab
import Derived.Test.YtmmhemfpbgobgaaGreatDoorCode2
set_option linter.unusedVariables false
set_option linter.unusedSimpArgs false
set_option linter.unusedSectionVars false
set_option linter.unusedVariables false
set_option maxRecDepth 100000
namespace Go.Ads
open Go.Proofs
def tn3 : List Nat := [1, 4, 10, 14, 16, 3, 5, 7, 9, 11, 13, 18, 6, 12, 132, 2, 19, 8, 21, 17, 23, 181, 25, 27, 26, 29, 0]
def hi3 (k : Nat) : List Nat := bif Nat.beq k 2 then [0, 1, 2, 3, 4, 5, 6, 7, 8] else bif Nat.beq k 3 then [0, 1, 2, 3, 4, 5, 6, 7, 8, 9, 10, 11] else bif Nat.beq k 5 then [0, 1, 2, 3, 4, 5, 6, 7, 8, 9, 10, 11, 12] else bif Nat.beq k 6 then [0, 1, 2, 3, 4, 5, 6, 7, 8, 9, 10, 11, 12, 13] else bif Nat.beq k 10 then [0, 1, 2, 3, 4, 5, 6, 7, 8, 9, 10, 11, 12, 13, 14] else bif Nat.beq k 16 then [0, 1, 2, 3, 4, 5, 6, 7, 8, 9, 10, 11, 12, 13, 14, 15, 16, 17, 18, 19, 20, 21, 22, 23, 24, 25, 26, 27, 28, 29, 30, 31] else bif Nat.beq k 18 then [0, 1, 2, 3, 4, 5, 6] else []
theorem ok3 : compF tt tn3 hi3 Tryz.f3 = some c3 := by kernel_rfl
def tn4 : List Nat := [1, 0]
def hi4 (k : Nat) : List Nat := []
theorem ok4 : compF tt tn4 hi4 Tryz.f4 = some c4 := by kernel_rfl
def tn5 : List Nat := [0, 1, 2, 3, 6, 11, 4, 5]
def hi5 (k : Nat) : List Nat := []
theorem ok5 : compF tt tn5 hi5 Tryz.f5 = some c5 := by kernel_rfl
def tn6 : List Nat := [0, 1, 4]
def hi6 (k : Nat) : List Nat := []
theorem ok6 : compF tt tn6 hi6 Tryz.f6 = some c6 := by kernel_rfl
def tn7 : List Nat := [0, 1, 2, 3, 8]
def hi7 (k : Nat) : List Nat := []
theorem ok7 : compF tt tn7 hi7 Tryz.f7 = some c7 := by kernel_rfl
def tn8 : List Nat := [0, 1, 2, 6, 14, 21, 28, 29, 7, 8, 10, 52, 4, 5]
def hi8 (k : Nat) : List Nat := bif Nat.beq k 6 then [0, 1, 3, 2, 4, 5, 6] else []
theorem ok8 : compF tt tn8 hi8 Tryz.f8 = some c8 := by kernel_rfl
def tn9 : List Nat := [0, 1, 2, 3, 4]
def hi9 (k : Nat) : List Nat := []
theorem ok9 : compF tt tn9 hi9 Tryz.f9 = some c9 := by kernel_rfl
def tn10 : List Nat := [0, 1, 4]
def hi10 (k : Nat) : List Nat := []
theorem ok10 : compF tt tn10 hi10 Tryz.f10 = some c10 := by kernel_rfl
def tn11 : List Nat := [0, 1, 2, 3, 4]
def hi11 (k : Nat) : List Nat := []
theorem ok11 : compF tt tn11 hi11 Tryz.f11 = some c11 := by kernel_rfl
def tn12 : List Nat := [0]
def hi12 (k : Nat) : List Nat := []
theorem ok12 : compF tt tn12 hi12 Tryz.f12 = some c12 := by kernel_rfl
def tn13 : List Nat := [0, 4, 6, 19, 33, 5, 8, 7, 56, 2, 3]
def hi13 (k : Nat) : List Nat := bif Nat.beq k 8 then [0, 1, 2, 3, 4, 5, 6, 7, 8, 9, 10] else []
theorem ok13 : compF tt tn13 hi13 Tryz.f13 = some c13 := by kernel_rfl
def tn14 : List Nat := [0, 2]
def hi14 (k : Nat) : List Nat := []
theorem ok14 : compF tt tn14 hi14 Tryz.f14 = some c14 := by kernel_rfl
def tn15 : List Nat := [0, 14, 2, 4, 19, 27, 6, 33, 8, 42, 10, 5, 7, 52, 71, 9, 82, 11, 124, 3]
def hi15 (k : Nat) : List Nat := bif Nat.beq k 20 then [0, 1, 2, 3, 4, 5, 6, 7, 8, 9, 10, 11, 12, 13, 14, 15, 16] else bif Nat.beq k 24 then [0, 1, 2, 3, 4, 5, 6, 7, 8, 9, 10, 11, 12, 13, 14, 15, 16, 17, 18, 19, 20] else bif Nat.beq k 25 then [0, 1, 4, 5, 2, 3, 8, 6, 7, 9, 10, 11] else []
theorem ok15 : compF tt tn15 hi15 Tryz.f15 = some c15 := by kernel_rfl
def tn16 : List Nat := [0, 3, 2]
def hi16 (k : Nat) : List Nat := []
theorem ok16 : compF tt tn16 hi16 Tryz.f16 = some c16 := by kernel_rfl
def tn17 : List Nat := [0, 6, 5, 23, 9, 7, 34, 10, 8, 11, 13, 4, 16, 15, 104, 2, 3]
def hi17 (k : Nat) : List Nat := bif Nat.beq k 16 then [0, 1, 2, 3, 4, 5, 6, 7, 8, 9, 10, 11, 12, 13, 14, 15, 16, 17, 18, 19, 20, 21, 22] else []
theorem ok17 : compF tt tn17 hi17 Tryz.f17 = some c17 := by kernel_rfl
def tn18 : List Nat := [0, 1, 2, 3, 23, 5, 28, 41, 6, 46, 61, 7, 69, 88, 4]
def hi18 (k : Nat) : List Nat := bif Nat.beq k 6 then [0, 1, 2, 3, 4, 5, 6, 7, 8, 9, 10] else bif Nat.beq k 11 then [0, 1, 2, 3, 4, 5, 6, 7, 8, 9, 10, 11, 12] else bif Nat.beq k 16 then [0, 1, 2, 3, 4, 5, 6, 7, 8, 9, 10, 11, 12, 13, 14, 15, 16] else []
theorem ok18 : compF tt tn18 hi18 Tryz.f18 = some c18 := by kernel_rfl
def tn19 : List Nat := [0, 1, 10, 5, 14, 25, 4]
def hi19 (k : Nat) : List Nat := bif Nat.beq k 6 then [0, 1, 2, 3, 4, 5, 6, 7, 8] else []
theorem ok19 : compF tt tn19 hi19 Tryz.f19 = some c19 := by kernel_rfl
def tn20 : List Nat := [0, 1, 2, 6, 19, 4, 7, 30, 29, 31, 28, 12, 35, 39, 10, 9, 5]
def hi20 (k : Nat) : List Nat := []
theorem ok20 : compF tt tn20 hi20 Tryz.f20 = some c20 := by kernel_rfl
def tn21 : List Nat := [0, 1, 2, 6, 14, 4, 18, 22, 7, 9, 33, 10, 8, 5]
def hi21 (k : Nat) : List Nat := bif Nat.beq k 9 then [0, 1, 2, 3, 4, 5, 6, 7, 8] else []
theorem ok21 : compF tt tn21 hi21 Tryz.f21 = some c21 := by kernel_rfl
def tn22 : List Nat := [0, 1, 2, 6, 11, 4, 3, 38, 5]
def hi22 (k : Nat) : List Nat := []
theorem ok22 : compF tt tn22 hi22 Tryz.f22 = some c22 := by kernel_rfl
def tn23 : List Nat := [0, 1, 4, 10, 6, 18, 5, 2, 3]
def hi23 (k : Nat) : List Nat := []
theorem ok23 : compF tt tn23 hi23 Tryz.f23 = some c23 := by kernel_rfl
def tn24 : List Nat := [0, 1, 10, 5, 14, 25, 4]
def hi24 (k : Nat) : List Nat := bif Nat.beq k 6 then [0, 1, 2, 3, 4, 5, 6, 7, 8] else []
theorem ok24 : compF tt tn24 hi24 Tryz.f24 = some c24 := by kernel_rfl
def tn25 : List Nat := [3, 4, 1, 2, 6, 8, 7, 10, 9, 12, 11, 99, 13, 5, 15, 0]
def hi25 (k : Nat) : List Nat := bif Nat.beq k 4 then [1, 0, 2, 3, 4, 5, 6, 7, 8] else bif Nat.beq k 6 then [0, 1, 2, 3, 4, 5, 6, 7] else []
theorem ok25 : compF tt tn25 hi25 Tryz.f25 = some c25 := by kernel_rfl
def tn26 : List Nat := [0, 1, 2, 5, 12, 3, 16, 25, 24, 26, 23, 6, 8, 42, 4]
def hi26 (k : Nat) : List Nat := bif Nat.beq k 6 then [0, 1, 2, 3, 4, 5, 6] else []
theorem ok26 : compF tt tn26 hi26 Tryz.f26 = some c26 := by kernel_rfl
def tn27 : List Nat := [0, 1, 6, 2, 3]
def hi27 (k : Nat) : List Nat := []
theorem ok27 : compF tt tn27 hi27 Tryz.f27 = some c27 := by kernel_rfl
def tn28 : List Nat := [0, 1, 5, 2, 19, 18, 20, 17, 3, 7, 8, 32, 4]
def hi28 (k : Nat) : List Nat := bif Nat.beq k 9 then [0, 1, 3, 4, 5, 2, 6, 7] else []
theorem ok28 : compF tt tn28 hi28 Tryz.f28 = some c28 := by kernel_rfl
def tn29 : List Nat := [0, 1, 4, 3, 7, 2]
def hi29 (k : Nat) : List Nat := bif Nat.beq k 4 then [0, 1, 2, 3, 4, 5, 6, 7, 8, 9, 10, 11, 12, 13, 14, 15, 16, 17] else []
theorem ok29 : compF tt tn29 hi29 Tryz.f29 = some c29 := by kernel_rfl
def tn30 : List Nat := [0, 1, 2, 14, 13, 15, 24, 23, 25, 22, 7, 8, 9, 5, 6, 4]
def hi30 (k : Nat) : List Nat := []
theorem ok30 : compF tt tn30 hi30 Tryz.f30 = some c30 := by kernel_rfl
def tn31 : List Nat := [0, 1, 2, 3, 10, 34, 57, 56, 58, 55, 9]
def hi31 (k : Nat) : List Nat := bif Nat.beq k 0 then [0, 1, 2, 3, 4, 5, 6, 7, 8, 9, 10, 11, 12, 13, 14, 15, 16, 17, 18, 19, 20, 21, 22, 23] else bif Nat.beq k 2 then [0, 1, 2, 3, 4, 5, 6, 7, 8, 9, 10, 11] else bif Nat.beq k 6 then [0, 1, 2, 3, 4, 5, 6, 7, 8, 9, 10] else []
theorem ok31 : compF tt tn31 hi31 Tryz.f31 = some c31 := by kernel_rfl
def tn32 : List Nat := [0, 1, 5, 16, 24, 23, 25, 29, 28, 30, 27, 8, 36, 35, 37, 34, 6, 10, 7, 2, 3]
def hi32 (k : Nat) : List Nat := bif Nat.beq k 13 then [0, 1, 2, 3, 4, 5, 6, 7, 8, 9, 10, 11, 12, 13, 14, 15] else []
theorem ok32 : compF tt tn32 hi32 Tryz.f32 = some c32 := by kernel_rfl
def tn33 : List Nat := [0, 1, 7, 14, 25, 5, 6, 4]
def hi33 (k : Nat) : List Nat := []
theorem ok33 : compF tt tn33 hi33 Tryz.f33 = some c33 := by kernel_rfl
def tn34 : List Nat := [0, 3, 8, 17, 2]
def hi34 (k : Nat) : List Nat := []
theorem ok34 : compF tt tn34 hi34 Tryz.f34 = some c34 := by kernel_rfl
def tn35 : List Nat := [0, 3, 18, 6, 5, 27, 4, 2]
def hi35 (k : Nat) : List Nat := bif Nat.beq k 8 then [0, 1, 2, 3, 4, 5, 6, 7, 8, 9, 10] else []
theorem ok35 : compF tt tn35 hi35 Tryz.f35 = some c35 := by kernel_rfl
def tn36 : List Nat := [0, 1, 4, 10, 6, 19, 5, 32, 2, 3]
def hi36 (k : Nat) : List Nat := []
theorem ok36 : compF tt tn36 hi36 Tryz.f36 = some c36 := by kernel_rfl
def tn37 : List Nat := [0]
def hi37 (k : Nat) : List Nat := []
theorem ok37 : compF tt tn37 hi37 Tryz.f37 = some c37 := by kernel_rfl
def tn38 : List Nat := [0, 1, 3, 20, 2, 4, 26, 7, 6, 33, 10, 9, 48, 12, 61, 13, 88, 11, 92, 14, 110, 116, 8, 5]
def hi38 (k : Nat) : List Nat := bif Nat.beq k 13 then [0, 1, 2, 3, 4, 5, 6, 7, 8, 9] else bif Nat.beq k 19 then [0, 1, 2, 3, 4, 5, 6, 7, 8, 9, 10] else bif Nat.beq k 21 then [0, 1, 2, 3, 4, 5, 6, 7, 8, 9, 10, 11, 12] else bif Nat.beq k 22 then [0, 1, 2, 3, 4, 5, 6, 7, 8, 9, 10, 11, 12, 13] else bif Nat.beq k 26 then [0, 1, 2, 3, 4, 5, 6, 7, 8, 9, 10, 11, 12, 13, 14, 15, 16, 17] else bif Nat.beq k 31 then [0, 1, 2, 5, 6, 7, 8, 9, 10, 11, 12, 13, 14, 3, 4, 17, 15, 16, 18, 19, 20] else []
theorem ok38 : compF tt tn38 hi38 Tryz.f38 = some c38 := by kernel_rfl
def tn39 : List Nat := [0, 1, 2]
def hi39 (k : Nat) : List Nat := []
theorem ok39 : compF tt tn39 hi39 Tryz.f39 = some c39 := by kernel_rfl
def tn40 : List Nat := [0, 5, 14, 20, 4, 24, 26, 8, 6, 32, 10, 44, 7, 9, 2, 3]
def hi40 (k : Nat) : List Nat := []
theorem ok40 : compF tt tn40 hi40 Tryz.f40 = some c40 := by kernel_rfl
def tn41 : List Nat := [0, 5, 6, 7, 4, 28, 42, 2, 45, 46, 49, 52, 63, 9, 8, 76, 3]
def hi41 (k : Nat) : List Nat := bif Nat.beq k 4 then [0, 1, 2, 4, 5, 3, 6] else bif Nat.beq k 7 then [0, 1, 2, 3, 5, 6, 4, 7] else []
theorem ok41 : compF tt tn41 hi41 Tryz.f41 = some c41 := by kernel_rfl
def tn42 : List Nat := [0, 5, 25, 4, 2, 3]
def hi42 (k : Nat) : List Nat := []
theorem ok42 : compF tt tn42 hi42 Tryz.f42 = some c42 := by kernel_rfl
def tn43 : List Nat := [0, 1, 4, 13, 6, 19, 5, 30, 7, 40, 9, 57, 8, 2, 3]
def hi43 (k : Nat) : List Nat := []
theorem ok43 : compF tt tn43 hi43 Tryz.f43 = some c43 := by kernel_rfl
def tn44 : List Nat := [0, 12, 11, 13, 10, 4, 5, 19, 24, 23, 25, 22, 7, 9, 34, 2]
def hi44 (k : Nat) : List Nat := []
theorem ok44 : compF tt tn44 hi44 Tryz.f44 = some c44 := by kernel_rfl
def tn45 : List Nat := [0, 1, 11, 15, 14, 16, 13, 5, 21, 20, 22, 19, 7, 52, 55, 2, 3]
def hi45 (k : Nat) : List Nat := bif Nat.beq k 9 then [0, 1, 3, 4, 5, 6, 7, 8, 2, 9, 10, 11, 12, 13, 14, 15, 16, 17, 18, 19, 20, 21, 22, 23, 24, 25, 26, 27] else []
theorem ok45 : compF tt tn45 hi45 Tryz.f45 = some c45 := by kernel_rfl
def tn46 : List Nat := [0, 3, 4, 2]
def hi46 (k : Nat) : List Nat := []
theorem ok46 : compF tt tn46 hi46 Tryz.f46 = some c46 := by kernel_rfl
def tn47 : List Nat := [0, 1, 2, 7, 3, 5, 8, 23, 22, 24, 21, 9, 11, 36, 35, 37, 34, 13, 6]
def hi47 (k : Nat) : List Nat := bif Nat.beq k 13 then [0, 1, 2, 3, 4, 5, 6, 7, 8] else []
theorem ok47 : compF tt tn47 hi47 Tryz.f47 = some c47 := by kernel_rfl
def tn48 : List Nat := [0, 1, 3, 4]
def hi48 (k : Nat) : List Nat := []
theorem ok48 : compF tt tn48 hi48 Tryz.f48 = some c48 := by kernel_rfl
def tn49 : List Nat := [0]
def hi49 (k : Nat) : List Nat := []
theorem ok49 : compF tt tn49 hi49 Tryz.f49 = some c49 := by kernel_rfl
def tn50 : List Nat := [0, 1, 2, 3, 16, 15, 17, 14, 9, 5, 23, 6, 7]
def hi50 (k : Nat) : List Nat := []
theorem ok50 : compF tt tn50 hi50 Tryz.f50 = some c50 := by kernel_rfl
def tn51 : List Nat := [0, 1, 2, 3, 6]
def hi51 (k : Nat) : List Nat := []
theorem ok51 : compF tt tn51 hi51 Tryz.f51 = some c51 := by kernel_rfl
def tn52 : List Nat := [0]
def hi52 (k : Nat) : List Nat := []
theorem ok52 : compF tt tn52 hi52 Tryz.f52 = some c52 := by kernel_rfl
def tn53 : List Nat := [0, 1, 2, 4, 22, 21, 23, 20, 9, 33, 32, 34, 31, 11, 40, 39, 41, 38, 13, 7, 10, 62, 6]
def hi53 (k : Nat) : List Nat := []
theorem ok53 : compF tt tn53 hi53 Tryz.f53 = some c53 := by kernel_rfl
def tn54 : List Nat := [0, 1, 2, 6]
def hi54 (k : Nat) : List Nat := []
theorem ok54 : compF tt tn54 hi54 Tryz.f54 = some c54 := by kernel_rfl
def tn55 : List Nat := [0, 1, 3, 2, 27, 26, 28, 25, 33, 32, 34, 5, 7, 44, 43, 45, 42, 10, 51, 50, 52, 49, 57, 56, 58, 12, 65, 8, 9, 13, 84, 15, 18, 16, 14, 128, 17, 4]
def hi55 (k : Nat) : List Nat := bif Nat.beq k 21 then [0, 1, 2, 3, 5, 6, 7, 8, 9, 10, 4, 11, 12] else bif Nat.beq k 26 then [0, 1, 2, 3, 4, 5, 6, 7, 8, 9, 10, 11, 12] else []
theorem ok55 : compF tt tn55 hi55 Tryz.f55 = some c55 := by kernel_rfl
def tn56 : List Nat := [0, 1, 2, 3, 4, 9, 17, 8, 6, 7]
def hi56 (k : Nat) : List Nat := []
theorem ok56 : compF tt tn56 hi56 Tryz.f56 = some c56 := by kernel_rfl
def tn57 : List Nat := [0, 1, 2, 6, 17, 21, 24, 23, 25, 22, 7, 9, 11, 36, 10, 45, 44, 46, 43, 4, 13, 5]
def hi57 (k : Nat) : List Nat := []
theorem ok57 : compF tt tn57 hi57 Tryz.f57 = some c57 := by kernel_rfl
def tn58 : List Nat := [0, 1, 3, 5, 4, 16, 2]
def hi58 (k : Nat) : List Nat := []
theorem ok58 : compF tt tn58 hi58 Tryz.f58 = some c58 := by kernel_rfl
def tn59 : List Nat := [0, 1, 9, 8, 10, 7, 3, 14, 5, 2]
def hi59 (k : Nat) : List Nat := []
theorem ok59 : compF tt tn59 hi59 Tryz.f59 = some c59 := by kernel_rfl
def tn60 : List Nat := [0]
def hi60 (k : Nat) : List Nat := []
theorem ok60 : compF tt tn60 hi60 Tryz.f60 = some c60 := by kernel_rfl
def tn61 : List Nat := [0, 1, 2, 5, 11, 3, 4, 20, 22, 23, 8, 7, 39, 6]
def hi61 (k : Nat) : List Nat := bif Nat.beq k 10 then [0, 1, 2, 3, 4, 5, 6, 7, 8, 9, 10, 11, 12, 13, 14, 16, 17, 18, 19, 15, 20, 21, 22] else []
theorem ok61 : compF tt tn61 hi61 Tryz.f61 = some c61 := by kernel_rfl
def tn62 : List Nat := [0, 1, 4]
def hi62 (k : Nat) : List Nat := []
theorem ok62 : compF tt tn62 hi62 Tryz.f62 = some c62 := by kernel_rfl
def tn63 : List Nat := [0, 1, 4, 14, 3, 2]
def hi63 (k : Nat) : List Nat := []
theorem ok63 : compF tt tn63 hi63 Tryz.f63 = some c63 := by kernel_rfl
def tn64 : List Nat := [0, 1, 2, 3, 5, 12, 4, 6, 8, 7, 19, 33, 9, 10, 11, 61]
def hi64 (k : Nat) : List Nat := bif Nat.beq k 8 then [0, 1, 2, 3, 4, 5, 6, 8, 9, 10, 11, 12, 7, 13, 14] else bif Nat.beq k 11 then [0, 1, 2, 3, 4, 5, 6] else bif Nat.beq k 12 then [0, 1, 2, 3, 4, 6, 7, 8, 9, 5, 10, 11] else []
theorem ok64 : compF tt tn64 hi64 Tryz.f64 = some c64 := by kernel_rfl
def tn65 : List Nat := [0, 1, 2, 3, 8, 6]
def hi65 (k : Nat) : List Nat := bif Nat.beq k 2 then [0, 1, 2, 3, 4, 5, 6, 7, 8, 9, 10, 11, 12] else []
theorem ok65 : compF tt tn65 hi65 Tryz.f65 = some c65 := by kernel_rfl
def tn66 : List Nat := [0, 2]
def hi66 (k : Nat) : List Nat := []
theorem ok66 : compF tt tn66 hi66 Tryz.f66 = some c66 := by kernel_rfl
def tn67 : List Nat := [0, 7, 6, 8, 3, 22, 2]
def hi67 (k : Nat) : List Nat := bif Nat.beq k 4 then [0, 1, 2, 3, 4, 5, 6, 7, 8, 9, 10, 11, 12] else []
theorem ok67 : compF tt tn67 hi67 Tryz.f67 = some c67 := by kernel_rfl
def tn68 : List Nat := [0, 1, 2]
def hi68 (k : Nat) : List Nat := []
theorem ok68 : compF tt tn68 hi68 Tryz.f68 = some c68 := by kernel_rfl
def tn69 : List Nat := [0, 1, 3, 2]
def hi69 (k : Nat) : List Nat := []
theorem ok69 : compF tt tn69 hi69 Tryz.f69 = some c69 := by kernel_rfl
def tn70 : List Nat := [0, 1, 4]
def hi70 (k : Nat) : List Nat := []
theorem ok70 : compF tt tn70 hi70 Tryz.f70 = some c70 := by kernel_rfl
def tn71 : List Nat := [0, 1, 2, 3, 4]
def hi71 (k : Nat) : List Nat := []
theorem ok71 : compF tt tn71 hi71 Tryz.f71 = some c71 := by kernel_rfl
def tn72 : List Nat := [0, 1, 3, 12, 2, 17, 16, 18, 4, 6, 37, 5]
def hi72 (k : Nat) : List Nat := bif Nat.beq k 7 then [0, 1, 2, 3, 4, 5, 6, 7, 8, 9, 10, 11] else []
theorem ok72 : compF tt tn72 hi72 Tryz.f72 = some c72 := by kernel_rfl
def tn73 : List Nat := [0, 1, 13, 12, 14, 11, 3, 5, 2]
def hi73 (k : Nat) : List Nat := bif Nat.beq k 5 then [0, 1, 2, 3, 4, 5, 6, 7] else []
theorem ok73 : compF tt tn73 hi73 Tryz.f73 = some c73 := by kernel_rfl
def tn74 : List Nat := [0, 1, 4]
def hi74 (k : Nat) : List Nat := []
theorem ok74 : compF tt tn74 hi74 Tryz.f74 = some c74 := by kernel_rfl
def tn75 : List Nat := [0, 1, 2, 3, 4]
def hi75 (k : Nat) : List Nat := bif Nat.beq k 1 then [0, 1, 2, 3, 4, 5, 6, 7, 8] else []
theorem ok75 : compF tt tn75 hi75 Tryz.f75 = some c75 := by kernel_rfl
def tn76 : List Nat := [0, 4, 2]
def hi76 (k : Nat) : List Nat := []
theorem ok76 : compF tt tn76 hi76 Tryz.f76 = some c76 := by kernel_rfl
def tn77 : List Nat := [0, 1, 2, 4, 3, 6, 5]
def hi77 (k : Nat) : List Nat := bif Nat.beq k 7 then [0, 1, 2, 3] else []
theorem ok77 : compF tt tn77 hi77 Tryz.f77 = some c77 := by kernel_rfl
def tn78 : List Nat := [0, 7, 4, 15, 3, 2]
def hi78 (k : Nat) : List Nat := []
theorem ok78 : compF tt tn78 hi78 Tryz.f78 = some c78 := by kernel_rfl
def tn79 : List Nat := [0, 1, 4]
def hi79 (k : Nat) : List Nat := []
theorem ok79 : compF tt tn79 hi79 Tryz.f79 = some c79 := by kernel_rfl
def tn80 : List Nat := [0, 1, 8, 3, 13, 23, 4, 28, 37, 41, 2]
def hi80 (k : Nat) : List Nat := []
theorem ok80 : compF tt tn80 hi80 Tryz.f80 = some c80 := by kernel_rfl
def tn81 : List Nat := [0, 1, 4, 2]
def hi81 (k : Nat) : List Nat := []
theorem ok81 : compF tt tn81 hi81 Tryz.f81 = some c81 := by kernel_rfl
def tn82 : List Nat := [0, 1, 8, 4, 16, 20, 3, 2]
def hi82 (k : Nat) : List Nat := []
theorem ok82 : compF tt tn82 hi82 Tryz.f82 = some c82 := by kernel_rfl
def tn83 : List Nat := [0, 1, 4, 11, 5, 16, 6, 26, 3, 47, 2]
def hi83 (k : Nat) : List Nat := []
theorem ok83 : compF tt tn83 hi83 Tryz.f83 = some c83 := by kernel_rfl
def tn84 : List Nat := [0, 1, 2, 6, 5, 19, 25, 33, 10, 43, 11, 9, 61, 67, 74, 8, 7, 82, 4]
def hi84 (k : Nat) : List Nat := bif Nat.beq k 16 then [0, 1, 2, 3, 4, 5, 6, 7, 8, 9, 10, 11, 12, 13, 14, 15] else []
theorem ok84 : compF tt tn84 hi84 Tryz.f84 = some c84 := by kernel_rfl
def tn85 : List Nat := [0, 1, 6, 11, 7, 2, 24, 5, 4]
def hi85 (k : Nat) : List Nat := bif Nat.beq k 6 then [0, 1, 2, 3, 4, 5, 6, 7, 8, 9, 10] else bif Nat.beq k 8 then [0, 1, 2, 3, 4, 5, 6, 7, 8, 9, 10, 11, 12, 13, 14] else []
theorem ok85 : compF tt tn85 hi85 Tryz.f85 = some c85 := by kernel_rfl
def tn86 : List Nat := [0, 4, 8, 3, 2]
def hi86 (k : Nat) : List Nat := []
theorem ok86 : compF tt tn86 hi86 Tryz.f86 = some c86 := by kernel_rfl
def tn87 : List Nat := [0, 1, 14, 15, 4, 23, 31, 40, 2, 3]
def hi87 (k : Nat) : List Nat := []
theorem ok87 : compF tt tn87 hi87 Tryz.f87 = some c87 := by kernel_rfl
def tn88 : List Nat := [0, 1, 4, 19, 2]
def hi88 (k : Nat) : List Nat := bif Nat.beq k 3 then [0, 1, 2, 3, 4, 5, 6, 7, 8, 9, 11, 10, 12, 13, 14] else []
theorem ok88 : compF tt tn88 hi88 Tryz.f88 = some c88 := by kernel_rfl
def tn89 : List Nat := [0, 3, 8, 15, 4, 24, 2]
def hi89 (k : Nat) : List Nat := []
theorem ok89 : compF tt tn89 hi89 Tryz.f89 = some c89 := by kernel_rfl
def tn90 : List Nat := [0, 1, 2]
def hi90 (k : Nat) : List Nat := []
theorem ok90 : compF tt tn90 hi90 Tryz.f90 = some c90 := by kernel_rfl
def tn91 : List Nat := [0, 2]
def hi91 (k : Nat) : List Nat := []
theorem ok91 : compF tt tn91 hi91 Tryz.f91 = some c91 := by kernel_rfl
def tn92 : List Nat := [0, 8, 3, 13, 25, 5, 4, 32, 44, 2]
def hi92 (k : Nat) : List Nat := bif Nat.beq k 6 then [0, 1, 2, 3, 4, 5, 6, 7, 8, 9] else bif Nat.beq k 11 then [0, 1, 2, 3, 4, 5, 6, 7, 8, 9] else []
theorem ok92 : compF tt tn92 hi92 Tryz.f92 = some c92 := by kernel_rfl
def tn93 : List Nat := [0, 5, 15, 2, 4, 22, 21, 23, 20, 6, 8, 3]
def hi93 (k : Nat) : List Nat := []
theorem ok93 : compF tt tn93 hi93 Tryz.f93 = some c93 := by kernel_rfl
def tn94 : List Nat := [0, 1, 2, 3, 4, 10, 17, 9, 8]
def hi94 (k : Nat) : List Nat := []
theorem ok94 : compF tt tn94 hi94 Tryz.f94 = some c94 := by kernel_rfl
def tn95 : List Nat := [0, 1, 2, 6]
def hi95 (k : Nat) : List Nat := []
theorem ok95 : compF tt tn95 hi95 Tryz.f95 = some c95 := by kernel_rfl
def tn96 : List Nat := [0, 1, 2, 5]
def hi96 (k : Nat) : List Nat := []
theorem ok96 : compF tt tn96 hi96 Tryz.f96 = some c96 := by kernel_rfl
def tn97 : List Nat := [0, 1, 2, 6]
def hi97 (k : Nat) : List Nat := []
theorem ok97 : compF tt tn97 hi97 Tryz.f97 = some c97 := by kernel_rfl
def tn98 : List Nat := [0, 1, 2, 6, 12, 7, 4, 5]
def hi98 (k : Nat) : List Nat := []
theorem ok98 : compF tt tn98 hi98 Tryz.f98 = some c98 := by kernel_rfl
def tn99 : List Nat := [0, 1, 2]
def hi99 (k : Nat) : List Nat := []
theorem ok99 : compF tt tn99 hi99 Tryz.f99 = some c99 := by kernel_rfl
def tn100 : List Nat := [0, 1, 2]
def hi100 (k : Nat) : List Nat := []
theorem ok100 : compF tt tn100 hi100 Tryz.f100 = some c100 := by kernel_rfl
def tn101 : List Nat := [0, 1, 3, 2]
def hi101 (k : Nat) : List Nat := []
theorem ok101 : compF tt tn101 hi101 Tryz.f101 = some c101 := by kernel_rfl
def tn102 : List Nat := [0, 1, 4]
def hi102 (k : Nat) : List Nat := []
theorem ok102 : compF tt tn102 hi102 Tryz.f102 = some c102 := by kernel_rfl
def tn103 : List Nat := [0, 1, 2]
def hi103 (k : Nat) : List Nat := []
theorem ok103 : compF tt tn103 hi103 Tryz.f103 = some c103 := by kernel_rfl
def tn104 : List Nat := [0, 1, 2, 3, 4, 8, 7, 6]
def hi104 (k : Nat) : List Nat := []
theorem ok104 : compF tt tn104 hi104 Tryz.f104 = some c104 := by kernel_rfl
def tn105 : List Nat := [0, 1, 2, 3, 6, 5, 4]
def hi105 (k : Nat) : List Nat := []
theorem ok105 : compF tt tn105 hi105 Tryz.f105 = some c105 := by kernel_rfl
def tn106 : List Nat := [0, 1, 2, 6, 7, 4, 5]
def hi106 (k : Nat) : List Nat := bif Nat.beq k 2 then [0, 1, 2, 3, 4, 5, 6, 7, 8, 9, 10, 11, 12] else []
theorem ok106 : compF tt tn106 hi106 Tryz.f106 = some c106 := by kernel_rfl
def tn107 : List Nat := [0, 1, 2, 3, 4]
def hi107 (k : Nat) : List Nat := bif Nat.beq k 1 then [0, 1, 3, 2, 4, 5, 6, 7] else []
theorem ok107 : compF tt tn107 hi107 Tryz.f107 = some c107 := by kernel_rfl
def tn108 : List Nat := [0, 1, 3, 11, 12, 4, 18, 2, 27, 34, 38, 43, 52, 51, 53, 50, 8, 5, 9, 6, 70]
def hi108 (k : Nat) : List Nat := bif Nat.beq k 21 then [0, 1, 4, 2, 3, 5, 6, 7, 8, 9, 10] else bif Nat.beq k 25 then [1, 2, 4, 5, 6, 0, 3, 7, 8] else []
theorem ok108 : compF tt tn108 hi108 Tryz.f108 = some c108 := by kernel_rfl
def tn109 : List Nat := [0, 1, 2, 3, 9, 4, 22, 8]
def hi109 (k : Nat) : List Nat := []
theorem ok109 : compF tt tn109 hi109 Tryz.f109 = some c109 := by kernel_rfl
def tn110 : List Nat := [0, 1, 2, 3, 8, 25, 27, 9, 10, 11, 7, 6]
def hi110 (k : Nat) : List Nat := []
theorem ok110 : compF tt tn110 hi110 Tryz.f110 = some c110 := by kernel_rfl
def tn111 : List Nat := [0, 1, 2, 3, 4]
def hi111 (k : Nat) : List Nat := bif Nat.beq k 1 then [0, 1, 2, 3, 5, 6, 7, 8, 10, 11, 12, 13, 15, 16, 17, 18, 4, 9, 14, 19, 20, 21, 22, 23] else []
theorem ok111 : compF tt tn111 hi111 Tryz.f111 = some c111 := by kernel_rfl
def tn112 : List Nat := [0, 1, 8, 7, 9, 6, 2, 4]
def hi112 (k : Nat) : List Nat := []
theorem ok112 : compF tt tn112 hi112 Tryz.f112 = some c112 := by kernel_rfl
def tn113 : List Nat := [0, 1, 2, 3]
def hi113 (k : Nat) : List Nat := []
theorem ok113 : compF tt tn113 hi113 Tryz.f113 = some c113 := by kernel_rfl
def tn114 : List Nat := [0, 1, 3]
def hi114 (k : Nat) : List Nat := []
theorem ok114 : compF tt tn114 hi114 Tryz.f114 = some c114 := by kernel_rfl
def tn115 : List Nat := [0, 1, 8, 7, 9, 5, 16, 4]
def hi115 (k : Nat) : List Nat := []
theorem ok115 : compF tt tn115 hi115 Tryz.f115 = some c115 := by kernel_rfl
def tn116 : List Nat := [0, 1, 10, 13, 12, 14, 5, 24, 4]
def hi116 (k : Nat) : List Nat := bif Nat.beq k 6 then [0, 1, 2, 3, 4, 5, 6, 7, 8] else []
theorem ok116 : compF tt tn116 hi116 Tryz.f116 = some c116 := by kernel_rfl
def tn117 : List Nat := [0, 1, 2, 14, 17, 16, 18, 15, 7, 8, 9, 30, 6]
def hi117 (k : Nat) : List Nat := []
theorem ok117 : compF tt tn117 hi117 Tryz.f117 = some c117 := by kernel_rfl
def tn118 : List Nat := [0, 1, 10, 13, 12, 14, 5, 24, 4]
def hi118 (k : Nat) : List Nat := bif Nat.beq k 6 then [0, 1, 2, 3, 4, 5, 6, 7, 8] else []
theorem ok118 : compF tt tn118 hi118 Tryz.f118 = some c118 := by kernel_rfl
def tn119 : List Nat := [0, 1, 22, 21, 23, 20, 5, 29, 28, 30, 27, 3, 7, 4, 8, 52, 51, 53, 50, 11, 57, 9, 10, 65, 12, 82, 81, 83, 80, 14, 90, 2]
def hi119 (k : Nat) : List Nat := bif Nat.beq k 8 then [0, 1, 2, 3, 4, 5, 6, 7, 8, 9, 10, 11, 12] else []
theorem ok119 : compF tt tn119 hi119 Tryz.f119 = some c119 := by kernel_rfl
def tn120 : List Nat := [0]
def hi120 (k : Nat) : List Nat := []
theorem ok120 : compF tt tn120 hi120 Tryz.f120 = some c120 := by kernel_rfl
def tn121 : List Nat := [0, 1, 5, 12, 6, 19, 7, 29, 4]
def hi121 (k : Nat) : List Nat := []
theorem ok121 : compF tt tn121 hi121 Tryz.f121 = some c121 := by kernel_rfl
def tn122 : List Nat := [0, 1, 2, 3]
def hi122 (k : Nat) : List Nat := []
theorem ok122 : compF tt tn122 hi122 Tryz.f122 = some c122 := by kernel_rfl
def tn123 : List Nat := [0, 1, 3, 18, 17, 19, 6, 7, 5, 4, 42, 2]
def hi123 (k : Nat) : List Nat := bif Nat.beq k 8 then [0, 1, 2, 3, 4, 5, 6, 9, 10, 11, 7, 8, 12, 13, 14, 15, 16] else []
theorem ok123 : compF tt tn123 hi123 Tryz.f123 = some c123 := by kernel_rfl
def tn124 : List Nat := [0, 1, 5, 3, 6, 7, 8, 19, 2, 31, 30, 32, 29, 9, 11, 4]
def hi124 (k : Nat) : List Nat := bif Nat.beq k 9 then [0, 1, 2, 3, 4, 5, 6, 7, 8, 9] else bif Nat.beq k 12 then [0, 1, 2, 3, 4, 5, 6, 7, 8, 9, 10] else bif Nat.beq k 14 then [0, 1, 2, 5, 6, 7, 8, 9, 10, 11, 12, 13, 14, 3, 4, 17, 15, 16, 18, 19, 20] else []
theorem ok124 : compF tt tn124 hi124 Tryz.f124 = some c124 := by kernel_rfl
def tn125 : List Nat := [0, 4, 2]
def hi125 (k : Nat) : List Nat := []
theorem ok125 : compF tt tn125 hi125 Tryz.f125 = some c125 := by kernel_rfl
def tn126 : List Nat := [0, 4, 2]
def hi126 (k : Nat) : List Nat := []
theorem ok126 : compF tt tn126 hi126 Tryz.f126 = some c126 := by kernel_rfl
def tn127 : List Nat := [0, 1, 8, 7, 9, 5, 16, 4]
def hi127 (k : Nat) : List Nat := []
theorem ok127 : compF tt tn127 hi127 Tryz.f127 = some c127 := by kernel_rfl
def tn128 : List Nat := [0, 1, 10, 5, 6, 26, 7, 8, 37, 4]
def hi128 (k : Nat) : List Nat := bif Nat.beq k 9 then [0, 1, 2, 4, 5, 3, 6, 7, 8, 9] else []
theorem ok128 : compF tt tn128 hi128 Tryz.f128 = some c128 := by kernel_rfl
def tn129 : List Nat := [0, 1, 2, 3, 4, 5, 6, 19, 18, 20, 17, 9, 27, 33, 38]
def hi129 (k : Nat) : List Nat := bif Nat.beq k 10 then [0, 1, 2, 3, 4, 5, 6, 7, 8, 9, 10, 11, 12, 13] else []
theorem ok129 : compF tt tn129 hi129 Tryz.f129 = some c129 := by kernel_rfl
def tn130 : List Nat := [0, 1, 6, 14, 5, 4]
def hi130 (k : Nat) : List Nat := []
theorem ok130 : compF tt tn130 hi130 Tryz.f130 = some c130 := by kernel_rfl
def tn131 : List Nat := [0, 1, 2, 3, 7, 25, 24, 26, 23, 9, 49, 48, 50, 47, 11, 6]
def hi131 (k : Nat) : List Nat := bif Nat.beq k 6 then [0, 1, 2, 3, 4, 5, 6, 7, 8, 9, 10, 11, 12, 13, 14, 15, 16, 17, 20, 18, 19] else []
theorem ok131 : compF tt tn131 hi131 Tryz.f131 = some c131 := by kernel_rfl
def tn132 : List Nat := [0, 3, 1, 8, 17, 2]
def hi132 (k : Nat) : List Nat := []
theorem ok132 : compF tt tn132 hi132 Tryz.f132 = some c132 := by kernel_rfl
def tn133 : List Nat := [0, 1, 2]
def hi133 (k : Nat) : List Nat := []
theorem ok133 : compF tt tn133 hi133 Tryz.f133 = some c133 := by kernel_rfl
def tn134 : List Nat := [0, 1, 2, 3, 4, 21, 5, 12, 11, 32, 53, 10]
def hi134 (k : Nat) : List Nat := bif Nat.beq k 1 then [0, 1, 2, 3, 4, 5, 6, 7, 8] else bif Nat.beq k 7 then [0, 1, 2, 3, 4, 5, 6, 7, 9, 10, 11, 12, 13, 14, 15, 16, 8, 17, 18] else []
theorem ok134 : compF tt tn134 hi134 Tryz.f134 = some c134 := by kernel_rfl
def tn135 : List Nat := [0, 1, 5, 3, 18, 32, 6, 4]
def hi135 (k : Nat) : List Nat := bif Nat.beq k 2 then [0, 1, 2, 3, 4, 5, 6, 7, 8, 9, 10, 11] else bif Nat.beq k 4 then [0, 1, 2, 3, 4, 5, 6, 7, 8, 9, 10, 11] else bif Nat.beq k 7 then [0, 1, 4, 5, 2, 3, 6, 7, 8] else []
theorem ok135 : compF tt tn135 hi135 Tryz.f135 = some c135 := by kernel_rfl
def tn136 : List Nat := [0, 1, 9, 3, 16, 22, 32, 2]
def hi136 (k : Nat) : List Nat := []
theorem ok136 : compF tt tn136 hi136 Tryz.f136 = some c136 := by kernel_rfl
def tn137 : List Nat := [0, 1, 17, 3, 22, 4, 32, 49, 2]
def hi137 (k : Nat) : List Nat := bif Nat.beq k 9 then [0, 1, 2, 3, 4, 5, 6, 7, 8, 9, 10, 11, 12, 13, 14] else []
theorem ok137 : compF tt tn137 hi137 Tryz.f137 = some c137 := by kernel_rfl
def tn138 : List Nat := [0, 3, 1, 9, 4, 19, 42, 2]
def hi138 (k : Nat) : List Nat := bif Nat.beq k 7 then [0, 1, 2, 3, 4, 5, 6, 7, 8, 9, 10, 11, 12, 13, 14, 15, 16, 17, 18, 19, 20] else []
theorem ok138 : compF tt tn138 hi138 Tryz.f138 = some c138 := by kernel_rfl
def tn139 : List Nat := [0, 1, 2, 3, 10, 23, 29, 8, 35, 12, 50, 11, 9, 68, 72, 87, 13, 15, 14, 16, 17, 113, 18]
def hi139 (k : Nat) : List Nat := bif Nat.beq k 17 then [0, 1, 2, 3, 4, 5, 6, 7, 8, 9, 10, 11, 12, 13, 14] else []
theorem ok139 : compF tt tn139 hi139 Tryz.f139 = some c139 := by kernel_rfl
def tn140 : List Nat := [0, 2]
def hi140 (k : Nat) : List Nat := []
theorem ok140 : compF tt tn140 hi140 Tryz.f140 = some c140 := by kernel_rfl
def tn141 : List Nat := [0, 4, 5, 7, 6, 8, 30, 35, 2, 9, 48, 47, 49, 46, 11, 13, 10, 3]
def hi141 (k : Nat) : List Nat := bif Nat.beq k 17 then [0, 1, 2, 3, 4, 5, 6, 7, 8, 9, 10] else bif Nat.beq k 19 then [0, 1, 2, 5, 6, 7, 3, 4, 10, 8, 9, 11, 12, 13] else []
theorem ok141 : compF tt tn141 hi141 Tryz.f141 = some c141 := by kernel_rfl
def tn142 : List Nat := [0, 1, 3, 18, 2, 4, 6, 31, 7, 43, 42, 44, 41, 10, 52, 5, 12, 64, 11, 8]
def hi142 (k : Nat) : List Nat := bif Nat.beq k 22 then [0, 1, 2, 5, 6, 7, 8, 9, 10, 11, 3, 4, 14, 12, 13, 15, 16, 17] else []
theorem ok142 : compF tt tn142 hi142 Tryz.f142 = some c142 := by kernel_rfl
def tn143 : List Nat := [0, 1, 2, 5, 9, 12, 4]
def hi143 (k : Nat) : List Nat := []
theorem ok143 : compF tt tn143 hi143 Tryz.f143 = some c143 := by kernel_rfl
def tn144 : List Nat := [0, 1, 10, 9, 11, 8, 2, 5, 7, 19, 4]
def hi144 (k : Nat) : List Nat := []
theorem ok144 : compF tt tn144 hi144 Tryz.f144 = some c144 := by kernel_rfl
def tn145 : List Nat := [0, 1, 2]
def hi145 (k : Nat) : List Nat := []
theorem ok145 : compF tt tn145 hi145 Tryz.f145 = some c145 := by kernel_rfl
def tn146 : List Nat := [0, 1, 4]
def hi146 (k : Nat) : List Nat := []
theorem ok146 : compF tt tn146 hi146 Tryz.f146 = some c146 := by kernel_rfl
def tn147 : List Nat := [0, 1, 8, 7, 9, 5, 16, 4]
def hi147 (k : Nat) : List Nat := []
theorem ok147 : compF tt tn147 hi147 Tryz.f147 = some c147 := by kernel_rfl
def tn148 : List Nat := [0, 1, 2, 3, 15, 17, 18, 32, 6, 7, 67, 75, 9, 8, 94, 10, 11, 112, 119, 121, 4, 5]
def hi148 (k : Nat) : List Nat := bif Nat.beq k 5 then [0, 1, 2, 3, 4, 5, 6, 7, 8, 9, 10, 11, 12, 13] else bif Nat.beq k 8 then [0, 1, 2, 3, 4, 5, 6, 7, 8, 9, 10, 11, 12, 13, 14, 15, 16, 17, 18, 19, 20, 21, 22, 23, 24, 25, 26, 27] else bif Nat.beq k 13 then [0, 1, 2, 3, 4, 5, 6, 7, 8, 9, 10, 11] else bif Nat.beq k 16 then [0, 1, 2, 3, 4, 5, 6, 7, 8, 9, 10] else []
theorem ok148 : compF tt tn148 hi148 Tryz.f148 = some c148 := by kernel_rfl
def tn149 : List Nat := [0, 1, 2, 14, 4, 5]
def hi149 (k : Nat) : List Nat := []
theorem ok149 : compF tt tn149 hi149 Tryz.f149 = some c149 := by kernel_rfl
def tn150 : List Nat := [0, 4, 2]
def hi150 (k : Nat) : List Nat := []
theorem ok150 : compF tt tn150 hi150 Tryz.f150 = some c150 := by kernel_rfl
def tn151 : List Nat := [0, 3, 1, 2]
def hi151 (k : Nat) : List Nat := bif Nat.beq k 2 then [0, 1, 3, 5, 2, 4, 6, 7] else []
theorem ok151 : compF tt tn151 hi151 Tryz.f151 = some c151 := by kernel_rfl
def tn152 : List Nat := [0, 2]
def hi152 (k : Nat) : List Nat := []
theorem ok152 : compF tt tn152 hi152 Tryz.f152 = some c152 := by kernel_rfl
def tn153 : List Nat := [0, 1, 2, 3, 5, 7, 24, 4, 6]
def hi153 (k : Nat) : List Nat := bif Nat.beq k 2 then [0, 1, 2, 3, 4, 5, 6, 7] else []
theorem ok153 : compF tt tn153 hi153 Tryz.f153 = some c153 := by kernel_rfl
def tn154 : List Nat := [0, 1, 2, 3, 6, 7, 8, 5, 45, 44, 46, 9, 10, 62, 75, 74, 76, 73, 13, 83, 82, 84, 81, 12, 15, 16, 98, 11, 117, 4]
def hi154 (k : Nat) : List Nat := bif Nat.beq k 4 then [0, 1, 3, 4, 6, 2, 5, 7] else bif Nat.beq k 19 then [0, 1, 2, 3, 4, 5, 6, 7, 8, 9, 10] else []
theorem ok154 : compF tt tn154 hi154 Tryz.f154 = some c154 := by kernel_rfl
def tn155 : List Nat := [0]
def hi155 (k : Nat) : List Nat := []
theorem ok155 : compF tt tn155 hi155 Tryz.f155 = some c155 := by kernel_rfl
def tn156 : List Nat := [0, 1, 2, 3, 13, 12, 14, 11, 8, 23, 9, 10]
def hi156 (k : Nat) : List Nat := []
theorem ok156 : compF tt tn156 hi156 Tryz.f156 = some c156 := by kernel_rfl
def tn157 : List Nat := [0, 1, 2, 3, 6, 4, 5]
def hi157 (k : Nat) : List Nat := bif Nat.beq k 1 then [1, 2, 3, 5, 6, 0, 4, 7, 8, 9] else []
theorem ok157 : compF tt tn157 hi157 Tryz.f157 = some c157 := by kernel_rfl
def tn158 : List Nat := [0, 8, 7, 9, 6, 5, 3, 14, 2]
def hi158 (k : Nat) : List Nat := []
theorem ok158 : compF tt tn158 hi158 Tryz.f158 = some c158 := by kernel_rfl
def tn159 : List Nat := [0, 1, 5, 11, 6, 12, 13, 16, 19, 4]
def hi159 (k : Nat) : List Nat := []
theorem ok159 : compF tt tn159 hi159 Tryz.f159 = some c159 := by kernel_rfl
def tn160 : List Nat := [0, 1, 5, 11, 6, 12, 13, 16, 19, 4]
def hi160 (k : Nat) : List Nat := []
theorem ok160 : compF tt tn160 hi160 Tryz.f160 = some c160 := by kernel_rfl
def tn162 : List Nat := [0, 1, 2, 3, 7, 18, 6, 5]
def hi162 (k : Nat) : List Nat := bif Nat.beq k 1 then [0, 1, 2, 3, 4, 5, 6, 7, 8, 9, 10] else bif Nat.beq k 4 then [0, 1, 2, 3, 4, 5, 6] else []
theorem ok162 : compF tt tn162 hi162 Tryz.f162 = some c162 := by kernel_rfl
def tn163 : List Nat := [0, 1, 6, 7, 8, 9, 4, 5]
def hi163 (k : Nat) : List Nat := []
theorem ok163 : compF tt tn163 hi163 Tryz.f163 = some c163 := by kernel_rfl
def tn164 : List Nat := [0, 1, 4, 5]
def hi164 (k : Nat) : List Nat := []
theorem ok164 : compF tt tn164 hi164 Tryz.f164 = some c164 := by kernel_rfl
def tn165 : List Nat := [0, 2]
def hi165 (k : Nat) : List Nat := []
theorem ok165 : compF tt tn165 hi165 Tryz.f165 = some c165 := by kernel_rfl
def tn166 : List Nat := [0, 1, 4]
def hi166 (k : Nat) : List Nat := []
theorem ok166 : compF tt tn166 hi166 Tryz.f166 = some c166 := by kernel_rfl
def tn167 : List Nat := [0, 2]
def hi167 (k : Nat) : List Nat := bif Nat.beq k 1 then [0, 1, 2, 3, 5, 6, 7, 8, 9, 4, 10, 11] else []
theorem ok167 : compF tt tn167 hi167 Tryz.f167 = some c167 := by kernel_rfl
def tn168 : List Nat := [0, 1, 2, 6]
def hi168 (k : Nat) : List Nat := []
theorem ok168 : compF tt tn168 hi168 Tryz.f168 = some c168 := by kernel_rfl
def tn169 : List Nat := [0, 1, 2, 3, 4, 11, 5, 20, 12, 9, 41, 10]
def hi169 (k : Nat) : List Nat := []
theorem ok169 : compF tt tn169 hi169 Tryz.f169 = some c169 := by kernel_rfl
def tn170 : List Nat := [0, 1, 2, 3, 9, 19, 29, 4]
def hi170 (k : Nat) : List Nat := []
theorem ok170 : compF tt tn170 hi170 Tryz.f170 = some c170 := by kernel_rfl
def tn171 : List Nat := [0, 1, 2, 6, 12, 7, 30]
def hi171 (k : Nat) : List Nat := bif Nat.beq k 4 then [0, 1, 2, 3, 4, 5, 6, 7, 8, 9, 10, 11, 12, 13, 14] else bif Nat.beq k 6 then [0, 1, 2, 3, 4, 5, 6, 7, 8, 9, 10, 11, 12, 13, 14, 15, 16, 17] else []
theorem ok171 : compF tt tn171 hi171 Tryz.f171 = some c171 := by kernel_rfl
def tn172 : List Nat := [0, 1, 2, 8, 9, 19, 6, 10, 30, 7]
def hi172 (k : Nat) : List Nat := bif Nat.beq k 10 then [0, 1, 2, 3, 4, 5, 6, 7, 8, 9, 10, 11, 12, 13, 14, 15, 16, 17, 18, 19] else []
theorem ok172 : compF tt tn172 hi172 Tryz.f172 = some c172 := by kernel_rfl
def tn173 : List Nat := [0, 1, 2, 6, 15, 9, 33, 7, 8, 10, 43]
def hi173 (k : Nat) : List Nat := bif Nat.beq k 10 then [0, 1, 2, 3, 4, 5, 6, 7, 8, 9, 10, 11, 12, 13, 14, 15, 16, 17, 18, 19] else []
theorem ok173 : compF tt tn173 hi173 Tryz.f173 = some c173 := by kernel_rfl
def tn174 : List Nat := [0, 1, 2, 8, 32, 34, 10, 9, 11, 12, 49, 51, 54, 6, 7]
def hi174 (k : Nat) : List Nat := []
theorem ok174 : compF tt tn174 hi174 Tryz.f174 = some c174 := by kernel_rfl
def tn175 : List Nat := [0, 1, 2, 6, 7, 13]
def hi175 (k : Nat) : List Nat := bif Nat.beq k 3 then [0, 1, 2, 3, 4, 5, 6, 7, 8, 9, 10, 11, 12, 13, 14, 15] else []
theorem ok175 : compF tt tn175 hi175 Tryz.f175 = some c175 := by kernel_rfl
def tn176 : List Nat := [0, 1, 2, 8, 14, 7, 32, 37, 41, 61, 9, 65, 78, 98, 10, 103, 116, 6]
def hi176 (k : Nat) : List Nat := bif Nat.beq k 5 then [0, 1, 2, 3, 4, 5, 6, 7, 8, 9, 10, 11, 12, 13, 14, 15] else bif Nat.beq k 11 then [0, 1, 2, 3, 4, 5, 6, 7, 8, 9, 10, 11, 12, 13, 14, 15, 16, 17] else bif Nat.beq k 16 then [0, 1, 2, 3, 4, 5, 6, 7, 8, 9, 10] else bif Nat.beq k 17 then [0, 1, 2, 3, 4, 5, 6, 7, 8, 9, 10, 11, 12, 13, 14, 15, 16, 17] else bif Nat.beq k 22 then [0, 1, 2, 3, 4, 5, 6, 7, 8, 9, 10] else bif Nat.beq k 23 then [0, 1, 2, 3, 4, 5, 6, 7, 8, 9, 10, 11, 12, 13, 14, 15, 16, 17] else []
theorem ok176 : compF tt tn176 hi176 Tryz.f176 = some c176 := by kernel_rfl
def tn177 : List Nat := [0, 1, 4]
def hi177 (k : Nat) : List Nat := []
theorem ok177 : compF tt tn177 hi177 Tryz.f177 = some c177 := by kernel_rfl
def tn178 : List Nat := [0, 1, 2, 3, 9, 10, 43, 59, 64, 8]
def hi178 (k : Nat) : List Nat := bif Nat.beq k 1 then [0, 1, 2, 3, 4, 5, 6, 7, 8, 9, 10, 11, 12, 13, 14, 15] else bif Nat.beq k 3 then [0, 1, 2, 3, 4, 5, 6, 7, 8, 9, 10, 11, 12, 13, 14] else bif Nat.beq k 5 then [0, 1, 2, 3, 4, 5, 6, 7, 8, 9, 10, 11, 12, 13] else bif Nat.beq k 8 then [0, 1, 2, 3, 4, 5, 6, 7, 8, 9, 10, 11, 12, 13, 14, 15] else []
theorem ok178 : compF tt tn178 hi178 Tryz.f178 = some c178 := by kernel_rfl
def tn179 : List Nat := [0, 1, 2, 3, 10, 11, 43, 60, 65, 112, 129, 134, 8, 9]
def hi179 (k : Nat) : List Nat := bif Nat.beq k 1 then [0, 1, 2, 3, 4, 5, 6, 7, 8, 9, 10, 11, 12, 13, 14, 15] else bif Nat.beq k 3 then [0, 1, 2, 3, 4, 5, 6, 7, 8, 9, 10, 11, 12, 13] else bif Nat.beq k 5 then [0, 1, 2, 3, 4, 5, 6, 7, 8, 9, 10, 11, 12, 13, 14] else bif Nat.beq k 8 then [0, 1, 2, 3, 4, 5, 6, 7, 8, 9, 10, 11, 12, 13, 14, 15] else bif Nat.beq k 10 then [0, 1, 2, 3, 4, 5, 6, 7, 8, 9, 10, 11, 12, 13, 14, 15] else bif Nat.beq k 13 then [0, 1, 2, 3, 4, 5, 6, 7, 8, 9, 10, 11, 12, 13] else bif Nat.beq k 15 then [0, 1, 2, 3, 4, 5, 6, 7, 8, 9, 10, 11, 12, 13, 14] else bif Nat.beq k 18 then [0, 1, 2, 3, 4, 5, 6, 7, 8, 9, 10, 11, 12, 13, 14, 15] else bif Nat.beq k 21 then [0, 1, 2, 3, 4, 5, 6, 7, 8, 9, 10, 11, 12, 13, 14, 15] else []
theorem ok179 : compF tt tn179 hi179 Tryz.f179 = some c179 := by kernel_rfl
def tn180 : List Nat := [0, 4, 8, 2]
def hi180 (k : Nat) : List Nat := []
theorem ok180 : compF tt tn180 hi180 Tryz.f180 = some c180 := by kernel_rfl
def tn181 : List Nat := [0, 4, 8, 2, 14]
def hi181 (k : Nat) : List Nat := []
theorem ok181 : compF tt tn181 hi181 Tryz.f181 = some c181 := by kernel_rfl
def tn182 : List Nat := [0, 1, 2, 5, 7, 17, 6, 4]
def hi182 (k : Nat) : List Nat := []
theorem ok182 : compF tt tn182 hi182 Tryz.f182 = some c182 := by kernel_rfl
def tn183 : List Nat := [0, 8, 7, 9, 6, 5, 3, 2]
def hi183 (k : Nat) : List Nat := []
theorem ok183 : compF tt tn183 hi183 Tryz.f183 = some c183 := by kernel_rfl
def tn184 : List Nat := [0, 4, 2]
def hi184 (k : Nat) : List Nat := []
theorem ok184 : compF tt tn184 hi184 Tryz.f184 = some c184 := by kernel_rfl
def tn185 : List Nat := [0, 1, 13, 14, 6, 7, 5, 28, 27, 29, 26, 4, 10, 9, 35, 57]
def hi185 (k : Nat) : List Nat := bif Nat.beq k 11 then [0, 1, 2, 3, 4, 5, 6, 7, 8, 9, 10, 11, 12] else bif Nat.beq k 13 then [0, 1, 2, 3, 4, 5, 6, 7, 8, 9] else bif Nat.beq k 14 then [0, 1, 2, 3, 4, 5, 6, 7, 8, 9, 10, 11, 12, 13] else bif Nat.beq k 16 then [0, 1, 2, 3] else []
theorem ok185 : compF tt tn185 hi185 Tryz.f185 = some c185 := by kernel_rfl
def tn186 : List Nat := [0, 1, 4, 10, 14, 13, 15, 12, 3, 5, 6, 28, 2]
def hi186 (k : Nat) : List Nat := []
theorem ok186 : compF tt tn186 hi186 Tryz.f186 = some c186 := by kernel_rfl
def tn187 : List Nat := [0, 1, 2, 28, 27, 29, 26, 9, 37, 5, 10, 53, 52, 54, 51, 13, 61, 11, 7, 15, 93, 8, 6, 108, 4]
def hi187 (k : Nat) : List Nat := bif Nat.beq k 9 then [0, 1, 2, 3, 4, 7, 8, 9, 10, 5, 6, 11, 12, 13] else bif Nat.beq k 14 then [0, 1, 2, 3, 4, 5, 6, 7, 8, 9, 10, 11, 12, 13, 14, 15, 16, 17, 18, 19, 20, 21, 22, 23] else []
theorem ok187 : compF tt tn187 hi187 Tryz.f187 = some c187 := by kernel_rfl
def tn188 : List Nat := [0, 2]
def hi188 (k : Nat) : List Nat := []
theorem ok188 : compF tt tn188 hi188 Tryz.f188 = some c188 := by kernel_rfl
def tn189 : List Nat := [0, 1, 2, 3, 5, 7, 16, 6]
def hi189 (k : Nat) : List Nat := []
theorem ok189 : compF tt tn189 hi189 Tryz.f189 = some c189 := by kernel_rfl
def tn190 : List Nat := [0, 1, 8, 7, 9, 5, 16, 4]
def hi190 (k : Nat) : List Nat := []
theorem ok190 : compF tt tn190 hi190 Tryz.f190 = some c190 := by kernel_rfl
def tn191 : List Nat := [0, 2]
def hi191 (k : Nat) : List Nat := []
theorem ok191 : compF tt tn191 hi191 Tryz.f191 = some c191 := by kernel_rfl
def tn192 : List Nat := [0, 1, 4]
def hi192 (k : Nat) : List Nat := []
theorem ok192 : compF tt tn192 hi192 Tryz.f192 = some c192 := by kernel_rfl
def tn193 : List Nat := [0, 1, 2, 3, 6]
def hi193 (k : Nat) : List Nat := []
theorem ok193 : compF tt tn193 hi193 Tryz.f193 = some c193 := by kernel_rfl
def tn194 : List Nat := [0, 1, 3, 11, 2, 7, 53, 54, 8, 61, 4, 5]
def hi194 (k : Nat) : List Nat := bif Nat.beq k 2 then [0, 1, 2, 3, 4, 5, 6, 7, 8, 9, 10] else bif Nat.beq k 3 then [0, 1, 2, 3, 4, 5, 6, 7, 8, 9] else bif Nat.beq k 4 then [0, 1, 2, 3, 4, 5, 6, 7, 8, 9, 10, 11, 12, 13, 14, 15, 16, 17, 18, 19, 20, 21, 22, 23] else []
theorem ok194 : compF tt tn194 hi194 Tryz.f194 = some c194 := by kernel_rfl
def tn195 : List Nat := [0, 1, 3, 22, 23, 2, 6, 7, 44, 8, 9, 11, 74, 13, 94, 14, 15, 125, 16, 145, 160, 17, 18, 20, 19, 4, 5]
def hi195 (k : Nat) : List Nat := bif Nat.beq k 3 then [0, 1, 2, 3, 4, 5, 6, 7, 8, 9, 10] else bif Nat.beq k 4 then [0, 1, 2, 3, 4, 5, 6, 7, 8, 9, 10, 11] else bif Nat.beq k 6 then [0, 1, 2, 3, 4, 5, 6, 7, 8, 9, 10, 11, 12, 13, 14, 15] else bif Nat.beq k 7 then [0, 1, 2, 3, 4, 5, 6, 7, 8, 9, 10] else bif Nat.beq k 10 then [0, 1, 2, 3, 4, 5, 6, 7, 8, 9, 10] else bif Nat.beq k 11 then [0, 1, 2, 3, 4, 5, 6, 7, 8, 9, 10] else bif Nat.beq k 13 then [0, 1, 2, 3, 4, 5, 7, 8, 9, 10, 6, 11, 12, 13, 14, 15, 16] else bif Nat.beq k 18 then [0, 1, 2, 3, 4, 5, 6, 7, 8, 9, 10, 11, 12, 13, 14] else bif Nat.beq k 20 then [0, 1, 2, 3, 4, 5, 6, 7, 8, 9, 10, 11, 12, 13, 14] else bif Nat.beq k 22 then [0, 1, 2, 3, 4, 5, 6, 7, 8, 9, 10] else []
theorem ok195 : compF tt tn195 hi195 Tryz.f195 = some c195 := by kernel_rfl
def tn196 : List Nat := [0, 1, 2, 3, 4, 5, 6, 7, 8, 10, 9, 11]
def hi196 (k : Nat) : List Nat := []
theorem ok196 : compF tt tn196 hi196 Tryz.f196 = some c196 := by kernel_rfl
def tn197 : List Nat := [0, 1, 2, 7, 9, 27, 26, 28, 25, 8, 11, 13, 39, 4, 6]
def hi197 (k : Nat) : List Nat := bif Nat.beq k 4 then [0, 1, 2, 3, 4, 5, 6] else bif Nat.beq k 10 then [0, 1, 2, 3, 4, 5, 6, 7, 8, 9, 10] else []
theorem ok197 : compF tt tn197 hi197 Tryz.f197 = some c197 := by kernel_rfl
def tn198 : List Nat := [0, 1, 2, 7, 4, 6]
def hi198 (k : Nat) : List Nat := bif Nat.beq k 2 then [0, 1, 2, 3, 4, 5, 6] else []
theorem ok198 : compF tt tn198 hi198 Tryz.f198 = some c198 := by kernel_rfl
def tn199 : List Nat := [0, 1, 2, 6]
def hi199 (k : Nat) : List Nat := bif Nat.beq k 1 then [0, 1, 2, 3, 4, 5, 6, 7, 8, 9, 10, 11] else []
theorem ok199 : compF tt tn199 hi199 Tryz.f199 = some c199 := by kernel_rfl
def tn200 : List Nat := [0, 1, 2, 6]
def hi200 (k : Nat) : List Nat := bif Nat.beq k 1 then [0, 1, 2, 3, 4, 5, 6, 7, 8, 9, 10, 11, 12, 13, 14, 15] else []
theorem ok200 : compF tt tn200 hi200 Tryz.f200 = some c200 := by kernel_rfl
def tn201 : List Nat := [0, 1, 2, 6]
def hi201 (k : Nat) : List Nat := bif Nat.beq k 1 then [0, 1, 2, 3, 4, 5, 6, 7, 8, 9, 10] else []
theorem ok201 : compF tt tn201 hi201 Tryz.f201 = some c201 := by kernel_rfl
def tn202 : List Nat := [0, 1, 2, 6]
def hi202 (k : Nat) : List Nat := bif Nat.beq k 1 then [0, 1, 2, 3, 4, 5, 6, 7, 8, 9, 10] else []
theorem ok202 : compF tt tn202 hi202 Tryz.f202 = some c202 := by kernel_rfl
def tn203 : List Nat := [0, 1, 2, 14, 13, 15, 12, 7, 9, 6]
def hi203 (k : Nat) : List Nat := bif Nat.beq k 5 then [0, 1, 2, 3, 4, 5, 6, 7, 8, 9, 10, 11, 12, 13] else []
theorem ok203 : compF tt tn203 hi203 Tryz.f203 = some c203 := by kernel_rfl
def tn204 : List Nat := [0, 1, 2, 7, 8, 3, 4, 6]
def hi204 (k : Nat) : List Nat := bif Nat.beq k 3 then [0, 1, 2, 3, 4, 5, 6] else []
theorem ok204 : compF tt tn204 hi204 Tryz.f204 = some c204 := by kernel_rfl
def tn205 : List Nat := [0, 1, 2, 7, 8, 4, 6]
def hi205 (k : Nat) : List Nat := bif Nat.beq k 3 then [0, 1, 2, 3, 4, 5, 6] else []
theorem ok205 : compF tt tn205 hi205 Tryz.f205 = some c205 := by kernel_rfl
def tn206 : List Nat := [0, 2]
def hi206 (k : Nat) : List Nat := []
theorem ok206 : compF tt tn206 hi206 Tryz.f206 = some c206 := by kernel_rfl
def tn207 : List Nat := [0, 2]
def hi207 (k : Nat) : List Nat := []
theorem ok207 : compF tt tn207 hi207 Tryz.f207 = some c207 := by kernel_rfl
def tn209 : List Nat := [0, 1, 6, 4, 5]
def hi209 (k : Nat) : List Nat := []
theorem ok209 : compF tt tn209 hi209 Tryz.f209 = some c209 := by kernel_rfl
def tn210 : List Nat := [0, 1, 6, 8, 7, 10, 11, 12, 9, 13, 4, 5]
def hi210 (k : Nat) : List Nat := []
theorem ok210 : compF tt tn210 hi210 Tryz.f210 = some c210 := by kernel_rfl
def tn212 : List Nat := [0, 3, 2]
def hi212 (k : Nat) : List Nat := []
theorem ok212 : compF tt tn212 hi212 Tryz.f212 = some c212 := by kernel_rfl
def tn213 : List Nat := [0, 1, 2, 3, 8, 9, 16, 36, 52]
def hi213 (k : Nat) : List Nat := bif Nat.beq k 3 then [0, 1, 2, 3, 4, 5, 6, 7, 8, 9, 10, 11, 12, 13, 14, 15, 16, 17, 18, 19] else bif Nat.beq k 5 then [0, 1, 2, 3, 4, 5, 6, 7, 8, 9, 10, 11, 12, 13] else bif Nat.beq k 6 then [0, 1, 2, 3, 4, 5, 6, 7, 8, 9, 10, 11, 12, 13, 14, 15, 16, 17, 18, 19, 20, 21, 22, 23] else []
theorem ok213 : compF tt tn213 hi213 Tryz.f213 = some c213 := by kernel_rfl
def tn214 : List Nat := [0, 2]
def hi214 (k : Nat) : List Nat := []
theorem ok214 : compF tt tn214 hi214 Tryz.f214 = some c214 := by kernel_rfl
def tn215 : List Nat := [0, 2]
def hi215 (k : Nat) : List Nat := bif Nat.beq k 1 then [0, 1, 2, 3, 4, 5, 6, 7, 8, 9] else bif Nat.beq k 2 then [0, 1, 2, 3, 4, 5, 6, 7, 8, 9] else bif Nat.beq k 3 then [0, 1, 2, 3, 4, 5, 6, 7, 8, 9] else []
theorem ok215 : compF tt tn215 hi215 Tryz.f215 = some c215 := by kernel_rfl
def tn216 : List Nat := [0, 1, 2, 6]
def hi216 (k : Nat) : List Nat := []
theorem ok216 : compF tt tn216 hi216 Tryz.f216 = some c216 := by kernel_rfl
def tn217 : List Nat := [0, 1, 2, 3, 4, 10]
def hi217 (k : Nat) : List Nat := []
theorem ok217 : compF tt tn217 hi217 Tryz.f217 = some c217 := by kernel_rfl
def tn218 : List Nat := [0, 1, 3, 2, 4]
def hi218 (k : Nat) : List Nat := []
theorem ok218 : compF tt tn218 hi218 Tryz.f218 = some c218 := by kernel_rfl
def tn219 : List Nat := [0, 1, 4]
def hi219 (k : Nat) : List Nat := []
theorem ok219 : compF tt tn219 hi219 Tryz.f219 = some c219 := by kernel_rfl
def tn220 : List Nat := [0, 1, 2, 3, 4]
def hi220 (k : Nat) : List Nat := bif Nat.beq k 1 then [0, 1, 2, 3, 5, 6, 7, 8, 4, 9, 10, 11, 12] else []
theorem ok220 : compF tt tn220 hi220 Tryz.f220 = some c220 := by kernel_rfl
def tn221 : List Nat := [0, 1, 4]
def hi221 (k : Nat) : List Nat := []
theorem ok221 : compF tt tn221 hi221 Tryz.f221 = some c221 := by kernel_rfl
def tn222 : List Nat := [0, 1, 2, 3]
def hi222 (k : Nat) : List Nat := []
theorem ok222 : compF tt tn222 hi222 Tryz.f222 = some c222 := by kernel_rfl
def tn223 : List Nat := [0, 1, 2, 3]
def hi223 (k : Nat) : List Nat := []
theorem ok223 : compF tt tn223 hi223 Tryz.f223 = some c223 := by kernel_rfl
def tn224 : List Nat := [0, 1, 2, 14, 17, 16, 18, 15, 7, 8, 9, 30, 6]
def hi224 (k : Nat) : List Nat := []
theorem ok224 : compF tt tn224 hi224 Tryz.f224 = some c224 := by kernel_rfl
def tn225 : List Nat := [0, 1, 2, 3, 5, 6, 10, 11, 4, 7, 8, 9]
def hi225 (k : Nat) : List Nat := []
theorem ok225 : compF tt tn225 hi225 Tryz.f225 = some c225 := by kernel_rfl
def tn226 : List Nat := [0, 1, 2, 3, 4, 5, 6, 7, 15, 13, 33, 11]
def hi226 (k : Nat) : List Nat := bif Nat.beq k 2 then [0, 1, 2, 3, 4, 5, 6, 8, 7, 9] else bif Nat.beq k 6 then [0, 1, 2, 3, 4] else bif Nat.beq k 7 then [0, 1, 2, 3, 4, 5, 6, 8, 7, 9, 10, 11] else bif Nat.beq k 8 then [0, 1, 2, 3, 4, 5, 7, 8, 9, 6, 10] else []
theorem ok226 : compF tt tn226 hi226 Tryz.f226 = some c226 := by kernel_rfl
def tn227 : List Nat := [0, 1, 2, 3, 9, 7]
def hi227 (k : Nat) : List Nat := []
theorem ok227 : compF tt tn227 hi227 Tryz.f227 = some c227 := by kernel_rfl
def tn228 : List Nat := [0, 1, 2, 3, 4, 5, 11, 9]
def hi228 (k : Nat) : List Nat := bif Nat.beq k 2 then [0, 1, 2, 3, 4, 5, 6, 7, 8, 11, 9, 10, 12] else []
theorem ok228 : compF tt tn228 hi228 Tryz.f228 = some c228 := by kernel_rfl
def tn229 : List Nat := [0, 1, 2, 3, 10, 11, 18, 27, 34, 39, 9, 44, 8]
def hi229 (k : Nat) : List Nat := []
theorem ok229 : compF tt tn229 hi229 Tryz.f229 = some c229 := by kernel_rfl
def tn230 : List Nat := [0, 1, 2, 3, 4, 10, 8]
def hi230 (k : Nat) : List Nat := bif Nat.beq k 2 then [0, 1, 2, 3, 4, 5, 7, 6, 8] else []
theorem ok230 : compF tt tn230 hi230 Tryz.f230 = some c230 := by kernel_rfl
def tn231 : List Nat := [0, 2, 3]
def hi231 (k : Nat) : List Nat := []
theorem ok231 : compF tt tn231 hi231 Tryz.f231 = some c231 := by kernel_rfl
def tn232 : List Nat := [0, 5, 2, 3]
def hi232 (k : Nat) : List Nat := []
theorem ok232 : compF tt tn232 hi232 Tryz.f232 = some c232 := by kernel_rfl
def tn233 : List Nat := [0, 1, 5, 2, 6, 3, 23, 22, 24, 21, 9, 7, 4]
def hi233 (k : Nat) : List Nat := []
theorem ok233 : compF tt tn233 hi233 Tryz.f233 = some c233 := by kernel_rfl
def tn234 : List Nat := [0, 1, 5, 2, 6, 3, 22, 21, 23, 20, 9, 7, 4]
def hi234 (k : Nat) : List Nat := []
theorem ok234 : compF tt tn234 hi234 Tryz.f234 = some c234 := by kernel_rfl
def tn235 : List Nat := [0, 1, 2, 3, 4, 5, 6, 14, 12, 22, 10]
def hi235 (k : Nat) : List Nat := bif Nat.beq k 5 then [0, 1, 2, 3, 4, 5, 6, 7, 8] else bif Nat.beq k 6 then [0, 1, 2, 3, 4, 5, 7, 8, 9, 6, 10] else []
theorem ok235 : compF tt tn235 hi235 Tryz.f235 = some c235 := by kernel_rfl
def tn236 : List Nat := [0, 1, 2, 3, 4, 5, 13, 11, 21, 9]
def hi236 (k : Nat) : List Nat := bif Nat.beq k 5 then [0, 1, 2, 3, 4] else bif Nat.beq k 6 then [0, 1, 2, 3, 4, 5, 6, 8, 7, 9, 10, 11] else bif Nat.beq k 7 then [0, 1, 2, 3, 4, 5, 6, 8, 9, 10, 7, 11] else []
theorem ok236 : compF tt tn236 hi236 Tryz.f236 = some c236 := by kernel_rfl
def tn239 : List Nat := [0, 1, 2, 3, 18, 8, 9]
def hi239 (k : Nat) : List Nat := bif Nat.beq k 1 then [0, 1, 2, 3, 4, 5, 6, 7, 8] else []
theorem ok239 : compF tt tn239 hi239 Tryz.f239 = some c239 := by kernel_rfl
def tn240 : List Nat := [0, 1, 2, 5, 12, 4, 6, 20, 32]
def hi240 (k : Nat) : List Nat := []
theorem ok240 : compF tt tn240 hi240 Tryz.f240 = some c240 := by kernel_rfl
def tn241 : List Nat := [0, 1, 2, 3, 4, 12, 25, 32, 10, 39, 14, 56, 13, 11, 75, 80, 97, 15, 17, 16, 18, 19, 125, 20]
def hi241 (k : Nat) : List Nat := bif Nat.beq k 17 then [0, 1, 2, 3, 4, 5, 6, 7, 8, 9, 10, 11, 12, 13, 14, 15, 16] else []
theorem ok241 : compF tt tn241 hi241 Tryz.f241 = some c241 := by kernel_rfl
def tn242 : List Nat := [0, 1, 2, 3, 5, 9, 4]
def hi242 (k : Nat) : List Nat := []
theorem ok242 : compF tt tn242 hi242 Tryz.f242 = some c242 := by kernel_rfl
def tn243 : List Nat := [0, 1, 8, 7, 9, 5, 16, 4]
def hi243 (k : Nat) : List Nat := []
theorem ok243 : compF tt tn243 hi243 Tryz.f243 = some c243 := by kernel_rfl
def tn244 : List Nat := [0, 1, 2, 3, 9, 7]
def hi244 (k : Nat) : List Nat := []
theorem ok244 : compF tt tn244 hi244 Tryz.f244 = some c244 := by kernel_rfl
def tn245 : List Nat := [0, 1, 2, 3, 9, 7]
def hi245 (k : Nat) : List Nat := []
theorem ok245 : compF tt tn245 hi245 Tryz.f245 = some c245 := by kernel_rfl
def tn246 : List Nat := [0, 1, 2, 3, 4, 9, 16, 8]
def hi246 (k : Nat) : List Nat := bif Nat.beq k 5 then [0, 1, 2, 3, 5, 4, 6] else []
theorem ok246 : compF tt tn246 hi246 Tryz.f246 = some c246 := by kernel_rfl
def tn251 : List Nat := [0, 1, 2, 3, 8, 14, 9, 34]
def hi251 (k : Nat) : List Nat := bif Nat.beq k 4 then [0, 1, 2, 3, 4, 5, 6, 7, 8, 9, 10, 11, 12, 13, 14, 15, 16] else bif Nat.beq k 6 then [0, 1, 2, 3, 4, 5, 6, 7, 8, 9, 10, 11, 12, 13, 14, 15, 16, 17] else []
theorem ok251 : compF tt tn251 hi251 Tryz.f251 = some c251 := by kernel_rfl
def tn252 : List Nat := [0, 1, 2, 3, 10, 11, 21, 8, 12, 33, 9]
def hi252 (k : Nat) : List Nat := bif Nat.beq k 10 then [0, 1, 2, 3, 4, 5, 6, 7, 8, 9, 10, 11, 12, 13, 14, 15, 16, 17, 18, 19] else []
theorem ok252 : compF tt tn252 hi252 Tryz.f252 = some c252 := by kernel_rfl
def tn253 : List Nat := [0, 1, 2, 3, 8, 17, 11, 35, 9, 10, 12, 45]
def hi253 (k : Nat) : List Nat := bif Nat.beq k 10 then [0, 1, 2, 3, 4, 5, 6, 7, 8, 9, 10, 11, 12, 13, 14, 15, 16, 17, 18, 19] else []
theorem ok253 : compF tt tn253 hi253 Tryz.f253 = some c253 := by kernel_rfl
def tn254 : List Nat := [0, 1, 2, 3, 10, 34, 36, 12, 11, 13, 14, 55, 57, 60, 8, 9]
def hi254 (k : Nat) : List Nat := []
theorem ok254 : compF tt tn254 hi254 Tryz.f254 = some c254 := by kernel_rfl
def tn255 : List Nat := [0, 1, 2, 3, 8, 9, 15]
def hi255 (k : Nat) : List Nat := bif Nat.beq k 3 then [0, 1, 2, 3, 4, 5, 6, 7, 8, 9, 10, 11, 12, 13, 14, 15] else []
theorem ok255 : compF tt tn255 hi255 Tryz.f255 = some c255 := by kernel_rfl
def tn256 : List Nat := [0, 1, 2, 3, 10, 16, 9, 36, 41, 45, 65, 11, 69, 84, 104, 12, 109, 124, 8]
def hi256 (k : Nat) : List Nat := bif Nat.beq k 5 then [0, 1, 2, 3, 4, 5, 6, 7, 8, 9, 10, 11, 12, 13, 14, 15, 16, 17] else bif Nat.beq k 11 then [0, 1, 2, 3, 4, 5, 6, 7, 8, 9, 10, 11, 12, 13, 14, 15, 16, 17] else bif Nat.beq k 16 then [0, 1, 2, 3, 4, 5, 6, 7, 8, 9, 10, 11, 12] else bif Nat.beq k 17 then [0, 1, 2, 3, 4, 5, 6, 7, 8, 9, 10, 11, 12, 13, 14, 15, 16, 17] else bif Nat.beq k 22 then [0, 1, 2, 3, 4, 5, 6, 7, 8, 9, 10, 11, 12] else bif Nat.beq k 23 then [0, 1, 2, 3, 4, 5, 6, 7, 8, 9, 10, 11, 12, 13, 14, 15, 16, 17] else []
theorem ok256 : compF tt tn256 hi256 Tryz.f256 = some c256 := by kernel_rfl
def tn257 : List Nat := [0, 1, 2, 3, 4, 11, 12, 47, 65, 70, 10]
def hi257 (k : Nat) : List Nat := bif Nat.beq k 1 then [0, 1, 2, 3, 4, 5, 6, 7, 8, 9, 10, 11, 12, 13, 14, 15] else bif Nat.beq k 3 then [0, 1, 2, 3, 4, 5, 6, 7, 8, 9, 10, 11, 12, 13, 14, 15, 16] else bif Nat.beq k 5 then [0, 1, 2, 3, 4, 5, 6, 7, 8, 9, 10, 11, 12, 13, 14, 15] else bif Nat.beq k 8 then [0, 1, 2, 3, 4, 5, 6, 7, 8, 9, 10, 11, 12, 13, 14, 15] else []
theorem ok257 : compF tt tn257 hi257 Tryz.f257 = some c257 := by kernel_rfl
def tn258 : List Nat := [0, 1, 2, 3, 4, 12, 13, 47, 66, 71, 120, 139, 144, 10, 11]
def hi258 (k : Nat) : List Nat := bif Nat.beq k 1 then [0, 1, 2, 3, 4, 5, 6, 7, 8, 9, 10, 11, 12, 13, 14, 15] else bif Nat.beq k 3 then [0, 1, 2, 3, 4, 5, 6, 7, 8, 9, 10, 11, 12, 13, 14, 15] else bif Nat.beq k 5 then [0, 1, 2, 3, 4, 5, 6, 7, 8, 9, 10, 11, 12, 13, 14, 15, 16] else bif Nat.beq k 8 then [0, 1, 2, 3, 4, 5, 6, 7, 8, 9, 10, 11, 12, 13, 14, 15] else bif Nat.beq k 10 then [0, 1, 2, 3, 4, 5, 6, 7, 8, 9, 10, 11, 12, 13, 14, 15] else bif Nat.beq k 13 then [0, 1, 2, 3, 4, 5, 6, 7, 8, 9, 10, 11, 12, 13, 14, 15] else bif Nat.beq k 15 then [0, 1, 2, 3, 4, 5, 6, 7, 8, 9, 10, 11, 12, 13, 14, 15, 16] else bif Nat.beq k 18 then [0, 1, 2, 3, 4, 5, 6, 7, 8, 9, 10, 11, 12, 13, 14, 15] else bif Nat.beq k 21 then [0, 1, 2, 3, 4, 5, 6, 7, 8, 9, 10, 11, 12, 13, 14, 15] else []
theorem ok258 : compF tt tn258 hi258 Tryz.f258 = some c258 := by kernel_rfl
def tn263 : List Nat := [0, 1, 2, 3, 4, 10, 11, 18, 40, 58]
def hi263 (k : Nat) : List Nat := bif Nat.beq k 3 then [0, 1, 2, 3, 4, 5, 6, 7, 8, 9, 10, 11, 12, 13, 14, 15, 16, 17, 18, 19, 20, 21] else bif Nat.beq k 5 then [0, 1, 2, 3, 4, 5, 6, 7, 8, 9, 10, 11, 12, 13, 14, 15] else bif Nat.beq k 6 then [0, 1, 2, 3, 4, 5, 6, 7, 8, 9, 10, 11, 12, 13, 14, 15, 16, 17, 18, 19, 20, 21, 22, 23] else []
theorem ok263 : compF tt tn263 hi263 Tryz.f263 = some c263 := by kernel_rfl
def tn264 : List Nat := [0, 1, 2, 3, 8]
def hi264 (k : Nat) : List Nat := []
theorem ok264 : compF tt tn264 hi264 Tryz.f264 = some c264 := by kernel_rfl
def tn265 : List Nat := [0, 1, 2, 3, 4, 5, 12]
def hi265 (k : Nat) : List Nat := []
theorem ok265 : compF tt tn265 hi265 Tryz.f265 = some c265 := by kernel_rfl
def tn268 : List Nat := [0, 1, 2, 3, 4, 22, 10, 11]
def hi268 (k : Nat) : List Nat := bif Nat.beq k 1 then [0, 1, 2, 3, 4, 5, 6, 7, 8, 9, 10] else []
theorem ok268 : compF tt tn268 hi268 Tryz.f268 = some c268 := by kernel_rfl
end Go.Ads
