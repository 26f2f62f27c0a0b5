/-
  The law answers true at every world in which the table of powers of ten lies as it is laid.
-/
import Derived.Test.YtmmhemfpbgobgaaGreatDoorTable
import Derived.Test.YtmmhemfpbgobgaaGreatDoorRun1
import Derived.Test.YtmmhemfpbgobgaaGreatDoorRun2
import Derived.Test.YtmmhemfpbgobgaaGreatDoorRun3
import Derived.Test.YtmmhemfpbgobgaaGreatDoorRun4
import Derived.Test.YtmmhemfpbgobgaaGreatDoorRun5
set_option linter.unusedVariables false
set_option linter.unusedSimpArgs false
set_option linter.unusedSectionVars false
set_option maxRecDepth 100000
set_option linter.unusedVariables false
namespace Go.Ads
open Go.Proofs
noncomputable def rLast : R := (Cd.rst 24 c3.code).run inv0 5000 stF4 (.mk stN4 stT4)
theorem dz5 : Dz Tryz.prog tt tn3 Tryz.f3.ntmps hi3 (Cd.rst 24 c3.code) stF4 (.mk stN4 stT4) rLast := Dz.run (N := 5000) tt_ok dk inv0_ok (by kernel_rfl)
theorem dz4 : Dz Tryz.prog tt tn3 Tryz.f3.ntmps hi3 (Cd.rst 11 c3.code) stF3 (.mk stN3 stT3) rLast := Dz.part (N := 5000) (j := 11) (k := 12) tt_ok dk inv0_ok (by kernel_rfl) (by kernel_rfl) part4 dz5
theorem dz3 : Dz Tryz.prog tt tn3 Tryz.f3.ntmps hi3 (Cd.rst 5 c3.code) stF2 (.mk stN2 stT2) rLast := Dz.part (N := 5000) (j := 5) (k := 5) tt_ok dk inv0_ok (by kernel_rfl) (by kernel_rfl) part3 dz4
theorem dz2 : Dz Tryz.prog tt tn3 Tryz.f3.ntmps hi3 (Cd.rst 4 c3.code) stF1 (.mk stN1 stT1) rLast := Dz.part (N := 5000) (j := 4) (k := 0) tt_ok dk inv0_ok (by kernel_rfl) (by kernel_rfl) part2 dz3
theorem dz1 : Dz Tryz.prog tt tn3 Tryz.f3.ntmps hi3 (Cd.rst 0 c3.code) .n (h0 gid) rLast := Dz.part (N := 5000) (j := 0) (k := 3) tt_ok dk inv0_ok (by kernel_rfl) (by kernel_rfl) part1 dz2
theorem law (w : World) (ht : Lib.TabIs Tryz.prog w "internal/strconv.uint64pow10" .u64 Lib.pow10Tab) : Calls Tryz.prog 3 #[] w fun e w' => e = .returned (.bool true) ∧ Same w w' :=
  law_ok tt_ok Tryz.func3 (show compF tt tn3 hi3 Tryz.f3 = some ⟨.nl, c3.code, c3.res⟩ from ok3) gidOk dz1 part5 ht
end Go.Ads
