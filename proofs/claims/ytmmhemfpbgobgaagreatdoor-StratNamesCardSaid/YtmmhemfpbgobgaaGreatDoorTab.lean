/-
  The types that the functions name, looked up in the program. No condition.
-/
import Derived.Test.YtmmhemfpbgobgaaGreatDoorAds2
import Derived.Test.YtmmhemfpbgobgaaGreatDoorProg
import Derived.KernelRfl
set_option linter.unusedVariables false
set_option linter.unusedSimpArgs false
set_option linter.unusedSectionVars false
set_option linter.unusedVariables false
set_option maxRecDepth 100000
namespace Go.Ads
open Go.Proofs
def T3 : TI := ⟨(Go.TypeDesc.int Go.IntKind.i64), some (.int .i64 0), 1, 8⟩
def T4 : TI := ⟨Go.TypeDesc.bool, some (.bool false), 1, 1⟩
def T5 : TI := ⟨(Go.TypeDesc.int Go.IntKind.u8), some (.int .u8 0), 1, 1⟩
def T9 : TI := ⟨Go.TypeDesc.string, some (.string ⟨#[]⟩), 1, 16⟩
def T21 : TI := ⟨(Go.TypeDesc.int Go.IntKind.i32), some (.int .i32 0), 1, 4⟩
def T22 : TI := ⟨(Go.TypeDesc.slice 88), some (.slice none 0 0), 1, 24⟩
def T24 : TI := ⟨  (Go.TypeDesc.struct     #[{ name := "Cell", type := 4, offset := 0, embedded := false, tag := "", pkgPath := "", byteOffset := 0 },       { name := "N", type := 3, offset := 1, embedded := false, tag := "", pkgPath := "", byteOffset := 8 }]), some (.agg #[(.bool false), (.int .i64 0)]), 2, 16⟩
def T26 : TI := ⟨  (Go.TypeDesc.struct     #[{ name := "Ids", type := 22, offset := 0, embedded := false, tag := "", pkgPath := "", byteOffset := 0 },       { name := "Root", type := 24, offset := 1, embedded := false, tag := "", pkgPath := "", byteOffset := 24 },       { name := "Jumps", type := 4, offset := 3, embedded := false, tag := "", pkgPath := "", byteOffset := 40 }]), some (.agg #[(.slice none 0 0), (.bool false), (.int .i64 0), (.bool false)]), 4, 48⟩
def T28 : TI := ⟨(Go.TypeDesc.slice 93), some (.slice none 0 0), 1, 24⟩
def T29 : TI := ⟨(Go.TypeDesc.slice 4), some (.slice none 0 0), 1, 24⟩
def T31 : TI := ⟨  (Go.TypeDesc.struct     #[{ name := "Next", type := 28, offset := 0, embedded := false, tag := "", pkgPath := "", byteOffset := 0 },       { name := "Final", type := 29, offset := 1, embedded := false, tag := "", pkgPath := "", byteOffset := 24 }]), some (.agg #[(.slice none 0 0), (.slice none 0 0)]), 2, 48⟩
def T32 : TI := ⟨(Go.TypeDesc.int Go.IntKind.i64), some (.int .i64 0), 1, 8⟩
def T35 : TI := ⟨(Go.TypeDesc.slice 37), some (.slice none 0 0), 1, 24⟩
def T37 : TI := ⟨  (Go.TypeDesc.struct     #[{ name := "Kind", type := 5, offset := 0, embedded := false, tag := "", pkgPath := "", byteOffset := 0 },       { name := "N", type := 3, offset := 1, embedded := false, tag := "", pkgPath := "", byteOffset := 8 },       { name := "M", type := 3, offset := 2, embedded := false, tag := "", pkgPath := "", byteOffset := 16 },       { name := "Id", type := 3, offset := 3, embedded := false, tag := "", pkgPath := "", byteOffset := 24 },       { name := "Kids", type := 35, offset := 4, embedded := false, tag := "", pkgPath := "", byteOffset := 32 }]), some (.agg #[(.int .u8 0), (.int .i64 0), (.int .i64 0), (.int .i64 0), (.slice none 0 0)]), 5, 56⟩
def T40 : TI := ⟨(Go.TypeDesc.slice 51), some (.slice none 0 0), 1, 24⟩
def T50 : TI := ⟨(Go.TypeDesc.slice 95), some (.slice none 0 0), 1, 24⟩
def T51 : TI := ⟨(Go.TypeDesc.slice 95), some (.slice none 0 0), 1, 24⟩
def T60 : TI := ⟨  (Go.TypeDesc.struct     #[{ name := "Id", type := 3, offset := 0, embedded := false, tag := "", pkgPath := "", byteOffset := 0 },       { name := "N", type := 3, offset := 1, embedded := false, tag := "", pkgPath := "", byteOffset := 8 },       { name := "First", type := 3, offset := 2, embedded := false, tag := "", pkgPath := "", byteOffset := 16 }]), some (.agg #[(.int .i64 0), (.int .i64 0), (.int .i64 0)]), 3, 24⟩
def T61 : TI := ⟨(Go.TypeDesc.slice 3), some (.slice none 0 0), 1, 24⟩
def T69 : TI := ⟨  (Go.TypeDesc.struct     #[{ name := "Auto", type := 31, offset := 0, embedded := true, tag := "", pkgPath := "", byteOffset := 0 },       { name := "ok", type := 4, offset := 2, embedded := false, tag := "", pkgPath := "riposte/strat",         byteOffset := 48 }]), some (.agg #[(.slice none 0 0), (.slice none 0 0), (.bool false)]), 3, 56⟩
def T70 : TI := ⟨(Go.TypeDesc.map 3 3), some (.map none), 1, 8⟩
def T72 : TI := ⟨  (Go.TypeDesc.struct     #[{ name := "Arena", type := 26, offset := 0, embedded := true, tag := "", pkgPath := "", byteOffset := 0 },       { name := "values", type := 70, offset := 4, embedded := false, tag := "", pkgPath := "riposte/strat",         byteOffset := 48 }]), some (.agg #[(.slice none 0 0), (.bool false), (.int .i64 0), (.bool false), (.map none)]), 5, 56⟩
def T76 : TI := ⟨(Go.TypeDesc.slice 29), some (.slice none 0 0), 1, 24⟩
def T79 : TI := ⟨  (Go.TypeDesc.struct     #[{ name := "Auto", type := 31, offset := 0, embedded := true, tag := "", pkgPath := "", byteOffset := 0 },       { name := "can", type := 76, offset := 2, embedded := false, tag := "", pkgPath := "riposte/auto",         byteOffset := 48 },       { name := "out", type := 40, offset := 3, embedded := false, tag := "", pkgPath := "riposte/auto",         byteOffset := 72 },       { name := "many", type := 3, offset := 4, embedded := false, tag := "", pkgPath := "riposte/auto",         byteOffset := 96 }]), some (.agg #[(.slice none 0 0), (.slice none 0 0), (.slice none 0 0), (.slice none 0 0), (.int .i64 0)]), 5, 104⟩
def T83 : TI := ⟨(Go.TypeDesc.slice 9), some (.slice none 0 0), 1, 24⟩
def T86 : TI := ⟨(Go.TypeDesc.slice 24), some (.slice none 0 0), 1, 24⟩
def T88 : TI := ⟨  (Go.TypeDesc.struct     #[{ name := "Params", type := 86, offset := 0, embedded := false, tag := "", pkgPath := "", byteOffset := 0 },       { name := "Result", type := 24, offset := 1, embedded := false, tag := "", pkgPath := "", byteOffset := 24 }]), some (.agg #[(.slice none 0 0), (.bool false), (.int .i64 0)]), 3, 40⟩
def T93 : TI := ⟨(Go.TypeDesc.slice 97), some (.slice none 0 0), 1, 24⟩
def T95 : TI := ⟨  (Go.TypeDesc.struct     #[{ name := "Id", type := 3, offset := 0, embedded := false, tag := "", pkgPath := "", byteOffset := 0 },       { name := "Arg", type := 3, offset := 1, embedded := false, tag := "", pkgPath := "", byteOffset := 8 },       { name := "Kind", type := 5, offset := 2, embedded := false, tag := "", pkgPath := "", byteOffset := 16 },       { name := "N", type := 3, offset := 3, embedded := false, tag := "", pkgPath := "", byteOffset := 24 }]), some (.agg #[(.int .i64 0), (.int .i64 0), (.int .u8 0), (.int .i64 0)]), 4, 32⟩
def T97 : TI := ⟨  (Go.TypeDesc.struct     #[{ name := "Move", type := 95, offset := 0, embedded := false, tag := "", pkgPath := "", byteOffset := 0 },       { name := "To", type := 3, offset := 4, embedded := false, tag := "", pkgPath := "", byteOffset := 32 }]), some (.agg #[(.int .i64 0), (.int .i64 0), (.int .u8 0), (.int .i64 0), (.int .i64 0)]), 5, 40⟩
def T107 : TI := ⟨(Go.TypeDesc.slice 31), some (.slice none 0 0), 1, 24⟩
def T112 : TI := ⟨(Go.TypeDesc.pointer 122), some (.pointer none), 1, 8⟩
def T114 : TI := ⟨(Go.TypeDesc.func #[3] #[3, 4] false), some .nilFunc, 1, 8⟩
def T116 : TI := ⟨  (Go.TypeDesc.struct     #[{ name := "kind", type := 5, offset := 0, embedded := false, tag := "", pkgPath := "riposte/strat",         byteOffset := 0 },       { name := "n", type := 3, offset := 1, embedded := false, tag := "", pkgPath := "riposte/strat",         byteOffset := 8 }]), some (.agg #[(.int .u8 0), (.int .i64 0)]), 2, 16⟩
def T120 : TI := ⟨(Go.TypeDesc.slice 183), some (.slice none 0 0), 1, 24⟩
def T122 : TI := ⟨  (Go.TypeDesc.struct     #[{ name := "states", type := 120, offset := 0, embedded := false, tag := "", pkgPath := "riposte/strat",         byteOffset := 0 },       { name := "first", type := 61, offset := 1, embedded := false, tag := "", pkgPath := "riposte/strat",         byteOffset := 24 }]), some (.agg #[(.slice none 0 0), (.slice none 0 0)]), 2, 48⟩
def T132 : TI := ⟨(Go.TypeDesc.map 5 178), some (.map none), 1, 8⟩
def T134 : TI := ⟨(Go.TypeDesc.slice 138), some (.slice none 0 0), 1, 24⟩
def T136 : TI := ⟨  (Go.TypeDesc.struct     #[{ name := "ids", type := 134, offset := 0, embedded := false, tag := "", pkgPath := "riposte/core",         byteOffset := 0 },       { name := "arena", type := 3, offset := 1, embedded := false, tag := "", pkgPath := "riposte/core",         byteOffset := 24 },       { name := "labels", type := 3, offset := 2, embedded := false, tag := "", pkgPath := "riposte/core",         byteOffset := 32 },       { name := "forms", type := 132, offset := 3, embedded := false, tag := "", pkgPath := "riposte/core",         byteOffset := 40 }]), some (.agg #[(.slice none 0 0), (.int .i64 0), (.int .i64 0), (.map none)]), 4, 48⟩
def T138 : TI := ⟨  (Go.TypeDesc.struct     #[{ name := "Type", type := 88, offset := 0, embedded := true, tag := "", pkgPath := "", byteOffset := 0 },       { name := "isValue", type := 4, offset := 3, embedded := false, tag := "", pkgPath := "riposte/core",         byteOffset := 40 }]), some (.agg #[(.slice none 0 0), (.bool false), (.int .i64 0), (.bool false)]), 4, 48⟩
def T141 : TI := ⟨(Go.TypeDesc.slice 116), some (.slice none 0 0), 1, 24⟩
def T148 : TI := ⟨(Go.TypeDesc.func #[97] #[4] false), some .nilFunc, 1, 8⟩
def T157 : TI := ⟨  (Go.TypeDesc.struct     #[{ name := "Next", type := 28, offset := 0, embedded := false, tag := "", pkgPath := "", byteOffset := 0 },       { name := "Final", type := 29, offset := 1, embedded := false, tag := "", pkgPath := "", byteOffset := 24 },       { name := "First", type := 61, offset := 2, embedded := false, tag := "", pkgPath := "", byteOffset := 48 }]), some (.agg #[(.slice none 0 0), (.slice none 0 0), (.slice none 0 0)]), 3, 72⟩
def T167 : TI := ⟨(Go.TypeDesc.slice 169), some (.slice none 0 0), 1, 24⟩
def T169 : TI := ⟨  (Go.TypeDesc.struct     #[{ name := "from", type := 3, offset := 0, embedded := false, tag := "", pkgPath := "riposte/strat",         byteOffset := 0 },       { name := "at", type := 3, offset := 1, embedded := false, tag := "", pkgPath := "riposte/strat",         byteOffset := 8 }]), some (.agg #[(.int .i64 0), (.int .i64 0)]), 2, 16⟩
def T178 : TI := ⟨  (Go.TypeDesc.struct     #[{ name := "n", type := 4, offset := 0, embedded := false, tag := "", pkgPath := "riposte/core",         byteOffset := 0 },       { name := "m", type := 4, offset := 1, embedded := false, tag := "", pkgPath := "riposte/core",         byteOffset := 1 },       { name := "id", type := 4, offset := 2, embedded := false, tag := "", pkgPath := "riposte/core",         byteOffset := 2 },       { name := "kids", type := 3, offset := 3, embedded := false, tag := "", pkgPath := "riposte/core",         byteOffset := 8 }]), some (.agg #[(.bool false), (.bool false), (.bool false), (.int .i64 0)]), 4, 16⟩
def T183 : TI := ⟨  (Go.TypeDesc.struct     #[{ name := "edges", type := 93, offset := 0, embedded := false, tag := "", pkgPath := "riposte/strat",         byteOffset := 0 },       { name := "soft", type := 61, offset := 1, embedded := false, tag := "", pkgPath := "riposte/strat",         byteOffset := 24 },       { name := "final", type := 4, offset := 2, embedded := false, tag := "", pkgPath := "riposte/strat",         byteOffset := 48 }]), some (.agg #[(.slice none 0 0), (.slice none 0 0), (.bool false)]), 3, 56⟩
def T200 : TI := ⟨(Go.TypeDesc.map 9 3), some (.map none), 1, 8⟩
def T201 : TI := ⟨(Go.TypeDesc.map 9 3), some (.map none), 1, 8⟩
def T202 : TI := ⟨(Go.TypeDesc.func #[3] #[] false), some .nilFunc, 1, 8⟩
def T210 : TI := ⟨(Go.TypeDesc.int Go.IntKind.u64), some (.int .u64 0), 1, 8⟩
def T222 : TI := ⟨(Go.TypeDesc.slice 69), some (.slice none 0 0), 1, 24⟩
def T223 : TI := ⟨(Go.TypeDesc.func #[72, 37, 222] #[69] false), some .nilFunc, 1, 8⟩
def T224 : TI := ⟨(Go.TypeDesc.map 5 223), some (.map none), 1, 8⟩
def T231 : TI := ⟨(Go.TypeDesc.slice 61), some (.slice none 0 0), 1, 24⟩
def T235 : TI := ⟨(Go.TypeDesc.pointer 238), some (.pointer none), 1, 8⟩
def T236 : TI := ⟨(Go.TypeDesc.slice 5), some (.slice none 0 0), 1, 24⟩
def T238 : TI := ⟨  (Go.TypeDesc.struct     #[{ name := "addr", type := 235, offset := 0, embedded := false, tag := "", pkgPath := "strings",         byteOffset := 0 },       { name := "buf", type := 236, offset := 1, embedded := false, tag := "", pkgPath := "strings",         byteOffset := 8 }]), some (.agg #[(.pointer none), (.slice none 0 0)]), 2, 32⟩
def T248 : TI := ⟨(Go.TypeDesc.int Go.IntKind.i64), some (.int .i64 0), 1, 8⟩
def T256 : TI := ⟨(Go.TypeDesc.int Go.IntKind.u32), some (.int .u32 0), 1, 4⟩
def T258 : TI := ⟨(Go.TypeDesc.int Go.IntKind.u64), some (.int .u64 0), 1, 8⟩
def T260 : TI := ⟨(Go.TypeDesc.slice 264), some (.slice none 0 0), 1, 24⟩
def T264 : TI := ⟨  (Go.TypeDesc.struct     #[{ name := "move", type := 95, offset := 0, embedded := false, tag := "", pkgPath := "riposte/strat",         byteOffset := 0 },       { name := "to", type := 61, offset := 4, embedded := false, tag := "", pkgPath := "riposte/strat",         byteOffset := 32 }]), some (.agg #[(.int .i64 0), (.int .i64 0), (.int .u8 0), (.int .i64 0), (.slice none 0 0)]), 5, 56⟩
def T277 : TI := ⟨(Go.TypeDesc.pointer 5), some (.pointer none), 1, 8⟩
def T278 : TI := ⟨(Go.TypeDesc.int Go.IntKind.u64), some (.int .u64 0), 1, 8⟩
def T292 : TI := ⟨(Go.TypeDesc.slice 294), some (.slice none 0 0), 1, 24⟩
def T294 : TI := ⟨  (Go.TypeDesc.struct     #[{ name := "from", type := 3, offset := 0, embedded := false, tag := "", pkgPath := "riposte/strat",         byteOffset := 0 },       { name := "v", type := 3, offset := 1, embedded := false, tag := "", pkgPath := "riposte/strat",         byteOffset := 8 }]), some (.agg #[(.int .i64 0), (.int .i64 0)]), 2, 16⟩
def T303 : TI := ⟨(Go.TypeDesc.map 3 4), some (.map none), 1, 8⟩
def ttl : List (Nat × TI) := [(3, T3), (4, T4), (5, T5), (9, T9), (21, T21), (22, T22), (24, T24), (26, T26), (28, T28), (29, T29), (31, T31), (32, T32), (35, T35), (37, T37), (40, T40), (50, T50), (51, T51), (60, T60), (61, T61), (69, T69), (70, T70), (72, T72), (76, T76), (79, T79), (83, T83), (86, T86), (88, T88), (93, T93), (95, T95), (97, T97), (107, T107), (112, T112), (114, T114), (116, T116), (120, T120), (122, T122), (132, T132), (134, T134), (136, T136), (138, T138), (141, T141), (148, T148), (157, T157), (167, T167), (169, T169), (178, T178), (183, T183), (200, T200), (201, T201), (202, T202), (210, T210), (222, T222), (223, T223), (224, T224), (231, T231), (235, T235), (236, T236), (238, T238), (248, T248), (256, T256), (258, T258), (260, T260), (264, T264), (277, T277), (278, T278), (292, T292), (294, T294), (303, T303)]
def seekT (t : Nat) : List (Nat × TI) → Option TI
  | [] => none
  | (u, i) :: l => match Nat.beq t u with
    | true => some i
    | false => seekT t l
def tt : TT := fun t => seekT t ttl
def TOk (t : Nat) (i : TI) : Prop := Tryz.prog.underlying t = some i.und ∧ (Tryz.prog.info? t).map (fun f => (f.zero, f.size, f.bytes)) = some (i.zero, i.size, i.bytes) ∧ Tryz.prog.stoodInHeld t = false
theorem tok3 : TOk 3 T3 := ⟨Tryz.underlying3, by kernel_rfl, by kernel_rfl⟩
theorem tok4 : TOk 4 T4 := ⟨Tryz.underlying4, by kernel_rfl, by kernel_rfl⟩
theorem tok5 : TOk 5 T5 := ⟨Tryz.underlying5, by kernel_rfl, by kernel_rfl⟩
theorem tok9 : TOk 9 T9 := ⟨Tryz.underlying9, by kernel_rfl, by kernel_rfl⟩
theorem tok21 : TOk 21 T21 := ⟨Tryz.underlying21, by kernel_rfl, by kernel_rfl⟩
theorem tok22 : TOk 22 T22 := ⟨Tryz.underlying22, by kernel_rfl, by kernel_rfl⟩
theorem tok24 : TOk 24 T24 := ⟨Tryz.underlying24, by kernel_rfl, by kernel_rfl⟩
theorem tok26 : TOk 26 T26 := ⟨Tryz.underlying26, by kernel_rfl, by kernel_rfl⟩
theorem tok28 : TOk 28 T28 := ⟨Tryz.underlying28, by kernel_rfl, by kernel_rfl⟩
theorem tok29 : TOk 29 T29 := ⟨Tryz.underlying29, by kernel_rfl, by kernel_rfl⟩
theorem tok31 : TOk 31 T31 := ⟨Tryz.underlying31, by kernel_rfl, by kernel_rfl⟩
theorem tok32 : TOk 32 T32 := ⟨Tryz.underlying32, by kernel_rfl, by kernel_rfl⟩
theorem tok35 : TOk 35 T35 := ⟨Tryz.underlying35, by kernel_rfl, by kernel_rfl⟩
theorem tok37 : TOk 37 T37 := ⟨Tryz.underlying37, by kernel_rfl, by kernel_rfl⟩
theorem tok40 : TOk 40 T40 := ⟨Tryz.underlying40, by kernel_rfl, by kernel_rfl⟩
theorem tok50 : TOk 50 T50 := ⟨Tryz.underlying50, by kernel_rfl, by kernel_rfl⟩
theorem tok51 : TOk 51 T51 := ⟨Tryz.underlying51, by kernel_rfl, by kernel_rfl⟩
theorem tok60 : TOk 60 T60 := ⟨Tryz.underlying60, by kernel_rfl, by kernel_rfl⟩
theorem tok61 : TOk 61 T61 := ⟨Tryz.underlying61, by kernel_rfl, by kernel_rfl⟩
theorem tok69 : TOk 69 T69 := ⟨Tryz.underlying69, by kernel_rfl, by kernel_rfl⟩
theorem tok70 : TOk 70 T70 := ⟨Tryz.underlying70, by kernel_rfl, by kernel_rfl⟩
theorem tok72 : TOk 72 T72 := ⟨Tryz.underlying72, by kernel_rfl, by kernel_rfl⟩
theorem tok76 : TOk 76 T76 := ⟨Tryz.underlying76, by kernel_rfl, by kernel_rfl⟩
theorem tok79 : TOk 79 T79 := ⟨Tryz.underlying79, by kernel_rfl, by kernel_rfl⟩
theorem tok83 : TOk 83 T83 := ⟨Tryz.underlying83, by kernel_rfl, by kernel_rfl⟩
theorem tok86 : TOk 86 T86 := ⟨Tryz.underlying86, by kernel_rfl, by kernel_rfl⟩
theorem tok88 : TOk 88 T88 := ⟨Tryz.underlying88, by kernel_rfl, by kernel_rfl⟩
theorem tok93 : TOk 93 T93 := ⟨Tryz.underlying93, by kernel_rfl, by kernel_rfl⟩
theorem tok95 : TOk 95 T95 := ⟨Tryz.underlying95, by kernel_rfl, by kernel_rfl⟩
theorem tok97 : TOk 97 T97 := ⟨Tryz.underlying97, by kernel_rfl, by kernel_rfl⟩
theorem tok107 : TOk 107 T107 := ⟨Tryz.underlying107, by kernel_rfl, by kernel_rfl⟩
theorem tok112 : TOk 112 T112 := ⟨Tryz.underlying112, by kernel_rfl, by kernel_rfl⟩
theorem tok114 : TOk 114 T114 := ⟨Tryz.underlying114, by kernel_rfl, by kernel_rfl⟩
theorem tok116 : TOk 116 T116 := ⟨Tryz.underlying116, by kernel_rfl, by kernel_rfl⟩
theorem tok120 : TOk 120 T120 := ⟨Tryz.underlying120, by kernel_rfl, by kernel_rfl⟩
theorem tok122 : TOk 122 T122 := ⟨Tryz.underlying122, by kernel_rfl, by kernel_rfl⟩
theorem tok132 : TOk 132 T132 := ⟨Tryz.underlying132, by kernel_rfl, by kernel_rfl⟩
theorem tok134 : TOk 134 T134 := ⟨Tryz.underlying134, by kernel_rfl, by kernel_rfl⟩
theorem tok136 : TOk 136 T136 := ⟨Tryz.underlying136, by kernel_rfl, by kernel_rfl⟩
theorem tok138 : TOk 138 T138 := ⟨Tryz.underlying138, by kernel_rfl, by kernel_rfl⟩
theorem tok141 : TOk 141 T141 := ⟨Tryz.underlying141, by kernel_rfl, by kernel_rfl⟩
theorem tok148 : TOk 148 T148 := ⟨Tryz.underlying148, by kernel_rfl, by kernel_rfl⟩
theorem tok157 : TOk 157 T157 := ⟨Tryz.underlying157, by kernel_rfl, by kernel_rfl⟩
theorem tok167 : TOk 167 T167 := ⟨Tryz.underlying167, by kernel_rfl, by kernel_rfl⟩
theorem tok169 : TOk 169 T169 := ⟨Tryz.underlying169, by kernel_rfl, by kernel_rfl⟩
theorem tok178 : TOk 178 T178 := ⟨Tryz.underlying178, by kernel_rfl, by kernel_rfl⟩
theorem tok183 : TOk 183 T183 := ⟨Tryz.underlying183, by kernel_rfl, by kernel_rfl⟩
theorem tok200 : TOk 200 T200 := ⟨Tryz.underlying200, by kernel_rfl, by kernel_rfl⟩
theorem tok201 : TOk 201 T201 := ⟨Tryz.underlying201, by kernel_rfl, by kernel_rfl⟩
theorem tok202 : TOk 202 T202 := ⟨Tryz.underlying202, by kernel_rfl, by kernel_rfl⟩
theorem tok210 : TOk 210 T210 := ⟨Tryz.underlying210, by kernel_rfl, by kernel_rfl⟩
theorem tok222 : TOk 222 T222 := ⟨Tryz.underlying222, by kernel_rfl, by kernel_rfl⟩
theorem tok223 : TOk 223 T223 := ⟨Tryz.underlying223, by kernel_rfl, by kernel_rfl⟩
theorem tok224 : TOk 224 T224 := ⟨Tryz.underlying224, by kernel_rfl, by kernel_rfl⟩
theorem tok231 : TOk 231 T231 := ⟨Tryz.underlying231, by kernel_rfl, by kernel_rfl⟩
theorem tok235 : TOk 235 T235 := ⟨Tryz.underlying235, by kernel_rfl, by kernel_rfl⟩
theorem tok236 : TOk 236 T236 := ⟨Tryz.underlying236, by kernel_rfl, by kernel_rfl⟩
theorem tok238 : TOk 238 T238 := ⟨Tryz.underlying238, by kernel_rfl, by kernel_rfl⟩
theorem tok248 : TOk 248 T248 := ⟨Tryz.underlying248, by kernel_rfl, by kernel_rfl⟩
theorem tok256 : TOk 256 T256 := ⟨Tryz.underlying256, by kernel_rfl, by kernel_rfl⟩
theorem tok258 : TOk 258 T258 := ⟨Tryz.underlying258, by kernel_rfl, by kernel_rfl⟩
theorem tok260 : TOk 260 T260 := ⟨Tryz.underlying260, by kernel_rfl, by kernel_rfl⟩
theorem tok264 : TOk 264 T264 := ⟨Tryz.underlying264, by kernel_rfl, by kernel_rfl⟩
theorem tok277 : TOk 277 T277 := ⟨Tryz.underlying277, by kernel_rfl, by kernel_rfl⟩
theorem tok278 : TOk 278 T278 := ⟨Tryz.underlying278, by kernel_rfl, by kernel_rfl⟩
theorem tok292 : TOk 292 T292 := ⟨Tryz.underlying292, by kernel_rfl, by kernel_rfl⟩
theorem tok294 : TOk 294 T294 := ⟨Tryz.underlying294, by kernel_rfl, by kernel_rfl⟩
theorem tok303 : TOk 303 T303 := ⟨Tryz.underlying303, by kernel_rfl, by kernel_rfl⟩
theorem ttl_ok : ∀ q ∈ ttl, TOk q.1 q.2 := by
  intro q h
  simp only [ttl, List.mem_cons, List.not_mem_nil, or_false] at h
  rcases h with rfl | rfl | rfl | rfl | rfl | rfl | rfl | rfl | rfl | rfl | rfl | rfl | rfl | rfl | rfl | rfl | rfl | rfl | rfl | rfl | rfl | rfl | rfl | rfl | rfl | rfl | rfl | rfl | rfl | rfl | rfl | rfl | rfl | rfl | rfl | rfl | rfl | rfl | rfl | rfl | rfl | rfl | rfl | rfl | rfl | rfl | rfl | rfl | rfl | rfl | rfl | rfl | rfl | rfl | rfl | rfl | rfl | rfl | rfl | rfl | rfl | rfl | rfl | rfl | rfl | rfl | rfl | rfl
  · exact tok3
  · exact tok4
  · exact tok5
  · exact tok9
  · exact tok21
  · exact tok22
  · exact tok24
  · exact tok26
  · exact tok28
  · exact tok29
  · exact tok31
  · exact tok32
  · exact tok35
  · exact tok37
  · exact tok40
  · exact tok50
  · exact tok51
  · exact tok60
  · exact tok61
  · exact tok69
  · exact tok70
  · exact tok72
  · exact tok76
  · exact tok79
  · exact tok83
  · exact tok86
  · exact tok88
  · exact tok93
  · exact tok95
  · exact tok97
  · exact tok107
  · exact tok112
  · exact tok114
  · exact tok116
  · exact tok120
  · exact tok122
  · exact tok132
  · exact tok134
  · exact tok136
  · exact tok138
  · exact tok141
  · exact tok148
  · exact tok157
  · exact tok167
  · exact tok169
  · exact tok178
  · exact tok183
  · exact tok200
  · exact tok201
  · exact tok202
  · exact tok210
  · exact tok222
  · exact tok223
  · exact tok224
  · exact tok231
  · exact tok235
  · exact tok236
  · exact tok238
  · exact tok248
  · exact tok256
  · exact tok258
  · exact tok260
  · exact tok264
  · exact tok277
  · exact tok278
  · exact tok292
  · exact tok294
  · exact tok303
theorem seekT_mem {t : Nat} : ∀ {l : List (Nat × TI)} {i : TI}, seekT t l = some i → (t, i) ∈ l := by
  intro l
  induction l with
  | nil => intro i h; cases h
  | cons q l ih =>
    intro i h
    obtain ⟨u, j⟩ := q
    simp only [seekT] at h
    split at h
    · rename_i e
      cases h
      rw [Nat.eq_of_beq_eq_true e]
      exact List.mem_cons_self
    · exact List.mem_cons_of_mem _ (ih h)
theorem tt_ok : TTok Tryz.prog tt := by
  intro t i h
  obtain ⟨h1, h2, h3⟩ := ttl_ok _ (seekT_mem h)
  refine ⟨h1, ?_, h3⟩
  cases hi : Tryz.prog.info? t with
  | none => rw [hi] at h2; cases h2
  | some f => rw [hi] at h2; simp only [Option.map_some, Option.some.injEq, Prod.mk.injEq] at h2; exact ⟨f, rfl, h2⟩
end Go.Ads
