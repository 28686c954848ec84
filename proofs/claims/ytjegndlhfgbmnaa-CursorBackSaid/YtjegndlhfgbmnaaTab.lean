import Derived.Test.YtjegndlhfgbmnaaGhZjm
import Derived.Test.YtjegndlhfgbmnaaProg
import Derived.KernelRfl

/-! What the walks ask of this translation: types, sizes, zero values, functions. Printed by a program of these sessions. -/

namespace Go.Gh
open Go.Proofs

def tabU : List (Nat × TypeDesc) := [(2, .int .i64),
  (3, .int .i64),
  (4, .bool),
  (5, .int .u8),
  (7, .struct #[{ name := "x", type := 2, offset := 0, embedded := false, tag := "", pkgPath := "runtime", byteOffset := 0 }, { name := "y", type := 3, offset := 1, embedded := false, tag := "", pkgPath := "runtime", byteOffset := 8 }, { name := "signed", type := 4, offset := 2, embedded := false, tag := "", pkgPath := "runtime", byteOffset := 16 }, { name := "code", type := 6, offset := 3, embedded := false, tag := "", pkgPath := "runtime", byteOffset := 17 }]),
  (9, .string),
  (12, .int .u64),
  (13, .struct #[{ name := "msg", type := 9, offset := 0, embedded := false, tag := "", pkgPath := "runtime", byteOffset := 0 }, { name := "addr", type := 12, offset := 1, embedded := false, tag := "", pkgPath := "runtime", byteOffset := 16 }]),
  (18, .struct #[{ name := "typ", type := 17, offset := 0, embedded := false, tag := "", pkgPath := "internal/runtime/maps", byteOffset := 0 }]),
  (21, .int .i32),
  (22, .slice 29),
  (23, .int .u64),
  (24, .slice 5),
  (27, .int .u32),
  (28, .struct #[{ name := "Kind", type := 3, offset := 0, embedded := false, tag := "", pkgPath := "", byteOffset := 0 }, { name := "Lo", type := 27, offset := 1, embedded := false, tag := "", pkgPath := "", byteOffset := 8 }, { name := "Hi", type := 27, offset := 2, embedded := false, tag := "", pkgPath := "", byteOffset := 12 }]),
  (29, .struct #[{ name := "Kind", type := 3, offset := 0, embedded := false, tag := "", pkgPath := "", byteOffset := 0 }, { name := "Lo", type := 27, offset := 1, embedded := false, tag := "", pkgPath := "", byteOffset := 8 }, { name := "Hi", type := 27, offset := 2, embedded := false, tag := "", pkgPath := "", byteOffset := 12 }]),
  (31, .int .i64),
  (40, .int .u64),
  (44, .pointer 56),
  (47, .pointer 49),
  (48, .struct #[{ name := "B", type := 24, offset := 0, embedded := false, tag := "", pkgPath := "", byteOffset := 0 }, { name := "At", type := 3, offset := 1, embedded := false, tag := "", pkgPath := "", byteOffset := 24 }, { name := "Err", type := 31, offset := 2, embedded := false, tag := "", pkgPath := "", byteOffset := 32 }]),
  (49, .struct #[{ name := "B", type := 24, offset := 0, embedded := false, tag := "", pkgPath := "", byteOffset := 0 }, { name := "At", type := 3, offset := 1, embedded := false, tag := "", pkgPath := "", byteOffset := 24 }, { name := "Err", type := 31, offset := 2, embedded := false, tag := "", pkgPath := "", byteOffset := 32 }]),
  (55, .struct #[{ name := "b", type := 24, offset := 0, embedded := false, tag := "", pkgPath := "petasos/octet", byteOffset := 0 }, { name := "err", type := 31, offset := 1, embedded := false, tag := "", pkgPath := "petasos/octet", byteOffset := 24 }]),
  (56, .struct #[{ name := "b", type := 24, offset := 0, embedded := false, tag := "", pkgPath := "petasos/octet", byteOffset := 0 }, { name := "err", type := 31, offset := 1, embedded := false, tag := "", pkgPath := "petasos/octet", byteOffset := 24 }]),
  (60, .pointer 62),
  (61, .struct #[{ name := "b", type := 24, offset := 0, embedded := false, tag := "", pkgPath := "petasos/octet", byteOffset := 0 }]),
  (62, .struct #[{ name := "b", type := 24, offset := 0, embedded := false, tag := "", pkgPath := "petasos/octet", byteOffset := 0 }]),
  (72, .array 0 16),
  (73, .struct #[{ name := "_", type := 72, offset := 0, embedded := false, tag := "", pkgPath := "runtime", byteOffset := 0 }]),
  (79, .pointer 5),
  (82, .struct #[{ name := "Size_", type := 12, offset := 0, embedded := false, tag := "", pkgPath := "", byteOffset := 0 }, { name := "PtrBytes", type := 12, offset := 1, embedded := false, tag := "", pkgPath := "", byteOffset := 8 }, { name := "Hash", type := 27, offset := 2, embedded := false, tag := "", pkgPath := "", byteOffset := 16 }, { name := "TFlag", type := 76, offset := 3, embedded := false, tag := "", pkgPath := "", byteOffset := 20 }, { name := "Align_", type := 5, offset := 4, embedded := false, tag := "", pkgPath := "", byteOffset := 21 }, { name := "FieldAlign_", type := 5, offset := 5, embedded := false, tag := "", pkgPath := "", byteOffset := 22 }, { name := "Kind_", type := 77, offset := 6, embedded := false, tag := "", pkgPath := "", byteOffset := 23 }, { name := "Equal", type := 78, offset := 7, embedded := false, tag := "", pkgPath := "", byteOffset := 24 }, { name := "GCData", type := 79, offset := 8, embedded := false, tag := "", pkgPath := "", byteOffset := 32 }, { name := "Str", type := 80, offset := 9, embedded := false, tag := "", pkgPath := "", byteOffset := 40 }, { name := "PtrToThis", type := 81, offset := 10, embedded := false, tag := "", pkgPath := "", byteOffset := 44 }])]
theorem tabUOk : AllP (fun p => Try.prog.underlying p.1 = some p.2) tabU := ⟨Try.underlying2, Try.underlying3, Try.underlying4, Try.underlying5, Try.underlying7, Try.underlying9, Try.underlying12, Try.underlying13, Try.underlying18, Try.underlying21, Try.underlying22, Try.underlying23, Try.underlying24, Try.underlying27, Try.underlying28, Try.underlying29, Try.underlying31, Try.underlying40, Try.underlying44, Try.underlying47, Try.underlying48, Try.underlying49, Try.underlying55, Try.underlying56, Try.underlying60, Try.underlying61, Try.underlying62, Try.underlying72, Try.underlying73, Try.underlying79, Try.underlying82, trivial⟩

def tabS : List (Nat × Nat) := [(2, 1),
  (3, 1),
  (4, 1),
  (5, 1),
  (7, 4),
  (9, 1),
  (12, 1),
  (13, 2),
  (18, 1),
  (21, 1),
  (22, 1),
  (23, 1),
  (24, 1),
  (27, 1),
  (28, 3),
  (29, 3),
  (31, 1),
  (40, 1),
  (44, 1),
  (47, 1),
  (48, 3),
  (49, 3),
  (55, 2),
  (56, 2),
  (60, 1),
  (61, 1),
  (62, 1),
  (72, 0),
  (73, 0),
  (79, 1),
  (82, 11)]
theorem tabSOk : AllP (fun p => Try.prog.cellsOf p.1 = p.2) tabS := ⟨(show Try.prog.cellsOf 2 = 1 by kernel_rfl), (show Try.prog.cellsOf 3 = 1 by kernel_rfl), (show Try.prog.cellsOf 4 = 1 by kernel_rfl), (show Try.prog.cellsOf 5 = 1 by kernel_rfl), (show Try.prog.cellsOf 7 = 4 by kernel_rfl), (show Try.prog.cellsOf 9 = 1 by kernel_rfl), (show Try.prog.cellsOf 12 = 1 by kernel_rfl), (show Try.prog.cellsOf 13 = 2 by kernel_rfl), (show Try.prog.cellsOf 18 = 1 by kernel_rfl), (show Try.prog.cellsOf 21 = 1 by kernel_rfl), (show Try.prog.cellsOf 22 = 1 by kernel_rfl), (show Try.prog.cellsOf 23 = 1 by kernel_rfl), (show Try.prog.cellsOf 24 = 1 by kernel_rfl), (show Try.prog.cellsOf 27 = 1 by kernel_rfl), (show Try.prog.cellsOf 28 = 3 by kernel_rfl), (show Try.prog.cellsOf 29 = 3 by kernel_rfl), (show Try.prog.cellsOf 31 = 1 by kernel_rfl), (show Try.prog.cellsOf 40 = 1 by kernel_rfl), (show Try.prog.cellsOf 44 = 1 by kernel_rfl), (show Try.prog.cellsOf 47 = 1 by kernel_rfl), (show Try.prog.cellsOf 48 = 3 by kernel_rfl), (show Try.prog.cellsOf 49 = 3 by kernel_rfl), (show Try.prog.cellsOf 55 = 2 by kernel_rfl), (show Try.prog.cellsOf 56 = 2 by kernel_rfl), (show Try.prog.cellsOf 60 = 1 by kernel_rfl), (show Try.prog.cellsOf 61 = 1 by kernel_rfl), (show Try.prog.cellsOf 62 = 1 by kernel_rfl), (show Try.prog.cellsOf 72 = 0 by kernel_rfl), (show Try.prog.cellsOf 73 = 0 by kernel_rfl), (show Try.prog.cellsOf 79 = 1 by kernel_rfl), (show Try.prog.cellsOf 82 = 11 by kernel_rfl), trivial⟩

def tabB : List (Nat × Nat) := [(2, 8),
  (3, 8),
  (4, 1),
  (5, 1),
  (7, 24),
  (9, 16),
  (12, 8),
  (13, 24),
  (18, 8),
  (21, 4),
  (22, 24),
  (23, 8),
  (24, 24),
  (27, 4),
  (28, 16),
  (29, 16),
  (31, 8),
  (40, 8),
  (44, 8),
  (47, 8),
  (48, 40),
  (49, 40),
  (55, 32),
  (56, 32),
  (60, 8),
  (61, 24),
  (62, 24),
  (72, 0),
  (73, 0),
  (79, 8),
  (82, 48)]
theorem tabBOk : AllP (fun p => Try.prog.bytesOf p.1 = p.2) tabB := ⟨(show Try.prog.bytesOf 2 = 8 by kernel_rfl), (show Try.prog.bytesOf 3 = 8 by kernel_rfl), (show Try.prog.bytesOf 4 = 1 by kernel_rfl), (show Try.prog.bytesOf 5 = 1 by kernel_rfl), (show Try.prog.bytesOf 7 = 24 by kernel_rfl), (show Try.prog.bytesOf 9 = 16 by kernel_rfl), (show Try.prog.bytesOf 12 = 8 by kernel_rfl), (show Try.prog.bytesOf 13 = 24 by kernel_rfl), (show Try.prog.bytesOf 18 = 8 by kernel_rfl), (show Try.prog.bytesOf 21 = 4 by kernel_rfl), (show Try.prog.bytesOf 22 = 24 by kernel_rfl), (show Try.prog.bytesOf 23 = 8 by kernel_rfl), (show Try.prog.bytesOf 24 = 24 by kernel_rfl), (show Try.prog.bytesOf 27 = 4 by kernel_rfl), (show Try.prog.bytesOf 28 = 16 by kernel_rfl), (show Try.prog.bytesOf 29 = 16 by kernel_rfl), (show Try.prog.bytesOf 31 = 8 by kernel_rfl), (show Try.prog.bytesOf 40 = 8 by kernel_rfl), (show Try.prog.bytesOf 44 = 8 by kernel_rfl), (show Try.prog.bytesOf 47 = 8 by kernel_rfl), (show Try.prog.bytesOf 48 = 40 by kernel_rfl), (show Try.prog.bytesOf 49 = 40 by kernel_rfl), (show Try.prog.bytesOf 55 = 32 by kernel_rfl), (show Try.prog.bytesOf 56 = 32 by kernel_rfl), (show Try.prog.bytesOf 60 = 8 by kernel_rfl), (show Try.prog.bytesOf 61 = 24 by kernel_rfl), (show Try.prog.bytesOf 62 = 24 by kernel_rfl), (show Try.prog.bytesOf 72 = 0 by kernel_rfl), (show Try.prog.bytesOf 73 = 0 by kernel_rfl), (show Try.prog.bytesOf 79 = 8 by kernel_rfl), (show Try.prog.bytesOf 82 = 48 by kernel_rfl), trivial⟩

def tabZ : List (Nat × Value) := [(2, .int .i64 0),
  (3, .int .i64 0),
  (4, .bool false),
  (5, .int .u8 0),
  (7, .agg #[.int .i64 0, .int .i64 0, .bool false, .int .u8 0]),
  (9, .string ⟨#[]⟩),
  (12, .int .u64 0),
  (13, .agg #[.string ⟨#[]⟩, .int .u64 0]),
  (18, .agg #[.pointer none]),
  (21, .int .i32 0),
  (22, .slice none 0 0),
  (23, .int .u64 0),
  (24, .slice none 0 0),
  (27, .int .u32 0),
  (28, .agg #[.int .i64 0, .int .u32 0, .int .u32 0]),
  (29, .agg #[.int .i64 0, .int .u32 0, .int .u32 0]),
  (31, .int .i64 0),
  (40, .int .u64 0),
  (44, .pointer none),
  (47, .pointer none),
  (48, .agg #[.slice none 0 0, .int .i64 0, .int .i64 0]),
  (49, .agg #[.slice none 0 0, .int .i64 0, .int .i64 0]),
  (55, .agg #[.slice none 0 0, .int .i64 0]),
  (56, .agg #[.slice none 0 0, .int .i64 0]),
  (60, .pointer none),
  (61, .agg #[.slice none 0 0]),
  (62, .agg #[.slice none 0 0]),
  (72, .agg #[]),
  (73, .agg #[]),
  (79, .pointer none),
  (82, .agg #[.int .u64 0, .int .u64 0, .int .u32 0, .int .u8 0, .int .u8 0, .int .u8 0, .int .u8 0, .nilFunc, .pointer none, .int .i32 0, .int .i32 0])]
theorem tabZOk : AllP (fun p => zeroOf Try.prog p.1 = some p.2) tabZ := ⟨(show zeroOf Try.prog 2 = some (.int .i64 0) by kernel_rfl), (show zeroOf Try.prog 3 = some (.int .i64 0) by kernel_rfl), (show zeroOf Try.prog 4 = some (.bool false) by kernel_rfl), (show zeroOf Try.prog 5 = some (.int .u8 0) by kernel_rfl), (show zeroOf Try.prog 7 = some (.agg #[.int .i64 0, .int .i64 0, .bool false, .int .u8 0]) by kernel_rfl), (show zeroOf Try.prog 9 = some (.string ⟨#[]⟩) by kernel_rfl), (show zeroOf Try.prog 12 = some (.int .u64 0) by kernel_rfl), (show zeroOf Try.prog 13 = some (.agg #[.string ⟨#[]⟩, .int .u64 0]) by kernel_rfl), (show zeroOf Try.prog 18 = some (.agg #[.pointer none]) by kernel_rfl), (show zeroOf Try.prog 21 = some (.int .i32 0) by kernel_rfl), (show zeroOf Try.prog 22 = some (.slice none 0 0) by kernel_rfl), (show zeroOf Try.prog 23 = some (.int .u64 0) by kernel_rfl), (show zeroOf Try.prog 24 = some (.slice none 0 0) by kernel_rfl), (show zeroOf Try.prog 27 = some (.int .u32 0) by kernel_rfl), (show zeroOf Try.prog 28 = some (.agg #[.int .i64 0, .int .u32 0, .int .u32 0]) by kernel_rfl), (show zeroOf Try.prog 29 = some (.agg #[.int .i64 0, .int .u32 0, .int .u32 0]) by kernel_rfl), (show zeroOf Try.prog 31 = some (.int .i64 0) by kernel_rfl), (show zeroOf Try.prog 40 = some (.int .u64 0) by kernel_rfl), (show zeroOf Try.prog 44 = some (.pointer none) by kernel_rfl), (show zeroOf Try.prog 47 = some (.pointer none) by kernel_rfl), (show zeroOf Try.prog 48 = some (.agg #[.slice none 0 0, .int .i64 0, .int .i64 0]) by kernel_rfl), (show zeroOf Try.prog 49 = some (.agg #[.slice none 0 0, .int .i64 0, .int .i64 0]) by kernel_rfl), (show zeroOf Try.prog 55 = some (.agg #[.slice none 0 0, .int .i64 0]) by kernel_rfl), (show zeroOf Try.prog 56 = some (.agg #[.slice none 0 0, .int .i64 0]) by kernel_rfl), (show zeroOf Try.prog 60 = some (.pointer none) by kernel_rfl), (show zeroOf Try.prog 61 = some (.agg #[.slice none 0 0]) by kernel_rfl), (show zeroOf Try.prog 62 = some (.agg #[.slice none 0 0]) by kernel_rfl), (show zeroOf Try.prog 72 = some (.agg #[]) by kernel_rfl), (show zeroOf Try.prog 73 = some (.agg #[]) by kernel_rfl), (show zeroOf Try.prog 79 = some (.pointer none) by kernel_rfl), (show zeroOf Try.prog 82 = some (.agg #[.int .u64 0, .int .u64 0, .int .u32 0, .int .u8 0, .int .u8 0, .int .u8 0, .int .u8 0, .nilFunc, .pointer none, .int .i32 0, .int .i32 0]) by kernel_rfl), trivial⟩

def tabE : List Nat := [29]
theorem tabEOk : AllP (fun t => Try.prog.eqGuardType Try.prog.depth t = false ∧ Try.prog.stoodInHeld t = false) tabE := ⟨⟨by kernel_rfl, by kernel_rfl⟩, trivial⟩

def tabF : List Nat := [3, 4, 5, 6, 7, 8, 9, 10, 11, 12, 13, 14, 15, 16, 17, 18, 19, 20, 21, 22, 23, 24, 25, 26, 27, 28, 29, 30, 31, 32, 33, 34, 35, 36, 37, 38, 39, 40]
theorem tabFOk : AllP (fun f => ∃ c, Try.prog.funcs[f]? = some c ∧ c.body.isSome = true ∧ (c.name == "runtime.NumGoroutine") = false) tabF := ⟨⟨_, Try.func3, by kernel_rfl, by kernel_rfl⟩, ⟨_, Try.func4, by kernel_rfl, by kernel_rfl⟩, ⟨_, Try.func5, by kernel_rfl, by kernel_rfl⟩, ⟨_, Try.func6, by kernel_rfl, by kernel_rfl⟩, ⟨_, Try.func7, by kernel_rfl, by kernel_rfl⟩, ⟨_, Try.func8, by kernel_rfl, by kernel_rfl⟩, ⟨_, Try.func9, by kernel_rfl, by kernel_rfl⟩, ⟨_, Try.func10, by kernel_rfl, by kernel_rfl⟩, ⟨_, Try.func11, by kernel_rfl, by kernel_rfl⟩, ⟨_, Try.func12, by kernel_rfl, by kernel_rfl⟩, ⟨_, Try.func13, by kernel_rfl, by kernel_rfl⟩, ⟨_, Try.func14, by kernel_rfl, by kernel_rfl⟩, ⟨_, Try.func15, by kernel_rfl, by kernel_rfl⟩, ⟨_, Try.func16, by kernel_rfl, by kernel_rfl⟩, ⟨_, Try.func17, by kernel_rfl, by kernel_rfl⟩, ⟨_, Try.func18, by kernel_rfl, by kernel_rfl⟩, ⟨_, Try.func19, by kernel_rfl, by kernel_rfl⟩, ⟨_, Try.func20, by kernel_rfl, by kernel_rfl⟩, ⟨_, Try.func21, by kernel_rfl, by kernel_rfl⟩, ⟨_, Try.func22, by kernel_rfl, by kernel_rfl⟩, ⟨_, Try.func23, by kernel_rfl, by kernel_rfl⟩, ⟨_, Try.func24, by kernel_rfl, by kernel_rfl⟩, ⟨_, Try.func25, by kernel_rfl, by kernel_rfl⟩, ⟨_, Try.func26, by kernel_rfl, by kernel_rfl⟩, ⟨_, Try.func27, by kernel_rfl, by kernel_rfl⟩, ⟨_, Try.func28, by kernel_rfl, by kernel_rfl⟩, ⟨_, Try.func29, by kernel_rfl, by kernel_rfl⟩, ⟨_, Try.func30, by kernel_rfl, by kernel_rfl⟩, ⟨_, Try.func31, by kernel_rfl, by kernel_rfl⟩, ⟨_, Try.func32, by kernel_rfl, by kernel_rfl⟩, ⟨_, Try.func33, by kernel_rfl, by kernel_rfl⟩, ⟨_, Try.func34, by kernel_rfl, by kernel_rfl⟩, ⟨_, Try.func35, by kernel_rfl, by kernel_rfl⟩, ⟨_, Try.func36, by kernel_rfl, by kernel_rfl⟩, ⟨_, Try.func37, by kernel_rfl, by kernel_rfl⟩, ⟨_, Try.func38, by kernel_rfl, by kernel_rfl⟩, ⟨_, Try.func39, by kernel_rfl, by kernel_rfl⟩, ⟨_, Try.func40, by kernel_rfl, by kernel_rfl⟩, trivial⟩

def tabL : TabL Try.prog := ⟨tabU, tabUOk, tabS, tabSOk, tabB, tabBOk, tabZ, tabZOk, tabE, tabEOk, tabF, tabFOk, by kernel_rfl⟩
def tab : Tab Try.prog := tabL.tab

theorem tsz7 : tab.sz 7 = 4 := rfl
theorem tsz13 : tab.sz 13 = 2 := rfl
theorem tsz18 : tab.sz 18 = 1 := rfl
theorem tsz28 : tab.sz 28 = 3 := rfl
theorem tsz29 : tab.sz 29 = 3 := rfl
theorem tsz48 : tab.sz 48 = 3 := rfl
theorem tsz49 : tab.sz 49 = 3 := rfl
theorem tsz55 : tab.sz 55 = 2 := rfl
theorem tsz56 : tab.sz 56 = 2 := rfl
theorem tsz61 : tab.sz 61 = 1 := rfl
theorem tsz62 : tab.sz 62 = 1 := rfl
theorem tsz72 : tab.sz 72 = 0 := rfl
theorem tsz73 : tab.sz 73 = 0 := rfl
theorem tsz82 : tab.sz 82 = 11 := rfl
theorem tbs5 : tab.bs 5 = 1 := rfl
theorem tbs29 : tab.bs 29 = 16 := rfl
theorem tsz5 : tab.sz 5 = 1 := rfl
end Go.Gh
