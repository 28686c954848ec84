import Derived.Test.YtmoapnfapojmmaaGhZjm
import Derived.Test.YtmoapnfapojmmaaProg
import Derived.KernelRfl

/-! What the walks ask of this translation: types, sizes, zero values, functions. Printed by a program of these sessions. -/

namespace Go.Gh
open Go.Proofs

def tabU : List (Nat × TypeDesc) := [(2, .int .i64),
  (3, .int .i64),
  (4, .bool),
  (5, .int .u8),
  (7, .struct #[{ name := "x", type := 2, offset := 0, embedded := false, tag := "", pkgPath := "runtime", byteOffset := 0 }, { name := "y", type := 3, offset := 1, embedded := false, tag := "", pkgPath := "runtime", byteOffset := 8 }, { name := "signed", type := 4, offset := 2, embedded := false, tag := "", pkgPath := "runtime", byteOffset := 16 }, { name := "code", type := 6, offset := 3, embedded := false, tag := "", pkgPath := "runtime", byteOffset := 17 }]),
  (9, .string),
  (12, .int .u64),
  (13, .struct #[{ name := "msg", type := 9, offset := 0, embedded := false, tag := "", pkgPath := "runtime", byteOffset := 0 }, { name := "addr", type := 12, offset := 1, embedded := false, tag := "", pkgPath := "runtime", byteOffset := 16 }]),
  (18, .struct #[{ name := "typ", type := 17, offset := 0, embedded := false, tag := "", pkgPath := "internal/runtime/maps", byteOffset := 0 }]),
  (21, .int .i32),
  (22, .slice 24),
  (23, .slice 22),
  (24, .int .u32),
  (25, .int .u64),
  (26, .pointer 57),
  (28, .pointer 30),
  (29, .struct #[{ name := "L", type := 22, offset := 0, embedded := false, tag := "", pkgPath := "", byteOffset := 0 }]),
  (30, .struct #[{ name := "L", type := 22, offset := 0, embedded := false, tag := "", pkgPath := "", byteOffset := 0 }]),
  (31, .int .i64),
  (33, .map 24 22),
  (35, .pointer 62),
  (37, .pointer 39),
  (38, .struct #[{ name := "S", type := 25, offset := 0, embedded := false, tag := "", pkgPath := "", byteOffset := 0 }]),
  (39, .struct #[{ name := "S", type := 25, offset := 0, embedded := false, tag := "", pkgPath := "", byteOffset := 0 }]),
  (48, .slice 51),
  (49, .int .u64),
  (50, .struct #[{ name := "Point", type := 24, offset := 0, embedded := false, tag := "", pkgPath := "", byteOffset := 0 }, { name := "Entries", type := 3, offset := 1, embedded := false, tag := "", pkgPath := "", byteOffset := 8 }]),
  (51, .struct #[{ name := "Point", type := 24, offset := 0, embedded := false, tag := "", pkgPath := "", byteOffset := 0 }, { name := "Entries", type := 3, offset := 1, embedded := false, tag := "", pkgPath := "", byteOffset := 8 }]),
  (56, .struct #[{ name := "l", type := 22, offset := 0, embedded := false, tag := "", pkgPath := "petasos/ring", byteOffset := 0 }]),
  (57, .struct #[{ name := "l", type := 22, offset := 0, embedded := false, tag := "", pkgPath := "petasos/ring", byteOffset := 0 }]),
  (61, .struct #[{ name := "state", type := 25, offset := 0, embedded := false, tag := "", pkgPath := "petasos/dice", byteOffset := 0 }]),
  (62, .struct #[{ name := "state", type := 25, offset := 0, embedded := false, tag := "", pkgPath := "petasos/dice", byteOffset := 0 }]),
  (71, .array 0 16),
  (72, .struct #[{ name := "_", type := 71, offset := 0, embedded := false, tag := "", pkgPath := "runtime", byteOffset := 0 }]),
  (78, .pointer 5),
  (81, .struct #[{ name := "Size_", type := 12, offset := 0, embedded := false, tag := "", pkgPath := "", byteOffset := 0 }, { name := "PtrBytes", type := 12, offset := 1, embedded := false, tag := "", pkgPath := "", byteOffset := 8 }, { name := "Hash", type := 24, offset := 2, embedded := false, tag := "", pkgPath := "", byteOffset := 16 }, { name := "TFlag", type := 75, offset := 3, embedded := false, tag := "", pkgPath := "", byteOffset := 20 }, { name := "Align_", type := 5, offset := 4, embedded := false, tag := "", pkgPath := "", byteOffset := 21 }, { name := "FieldAlign_", type := 5, offset := 5, embedded := false, tag := "", pkgPath := "", byteOffset := 22 }, { name := "Kind_", type := 76, offset := 6, embedded := false, tag := "", pkgPath := "", byteOffset := 23 }, { name := "Equal", type := 77, offset := 7, embedded := false, tag := "", pkgPath := "", byteOffset := 24 }, { name := "GCData", type := 78, offset := 8, embedded := false, tag := "", pkgPath := "", byteOffset := 32 }, { name := "Str", type := 79, offset := 9, embedded := false, tag := "", pkgPath := "", byteOffset := 40 }, { name := "PtrToThis", type := 80, offset := 10, embedded := false, tag := "", pkgPath := "", byteOffset := 44 }])]
theorem tabUOk : AllP (fun p => Try.prog.underlying p.1 = some p.2) tabU := ⟨Try.underlying2, Try.underlying3, Try.underlying4, Try.underlying5, Try.underlying7, Try.underlying9, Try.underlying12, Try.underlying13, Try.underlying18, Try.underlying21, Try.underlying22, Try.underlying23, Try.underlying24, Try.underlying25, Try.underlying26, Try.underlying28, Try.underlying29, Try.underlying30, Try.underlying31, Try.underlying33, Try.underlying35, Try.underlying37, Try.underlying38, Try.underlying39, Try.underlying48, Try.underlying49, Try.underlying50, Try.underlying51, Try.underlying56, Try.underlying57, Try.underlying61, Try.underlying62, Try.underlying71, Try.underlying72, Try.underlying78, Try.underlying81, trivial⟩

def tabS : List (Nat × Nat) := [(2, 1),
  (3, 1),
  (4, 1),
  (5, 1),
  (7, 4),
  (9, 1),
  (12, 1),
  (13, 2),
  (18, 1),
  (21, 1),
  (22, 1),
  (23, 1),
  (24, 1),
  (25, 1),
  (26, 1),
  (28, 1),
  (29, 1),
  (30, 1),
  (31, 1),
  (33, 1),
  (35, 1),
  (37, 1),
  (38, 1),
  (39, 1),
  (48, 1),
  (49, 1),
  (50, 2),
  (51, 2),
  (56, 1),
  (57, 1),
  (61, 1),
  (62, 1),
  (71, 0),
  (72, 0),
  (78, 1),
  (81, 11)]
theorem tabSOk : AllP (fun p => Try.prog.cellsOf p.1 = p.2) tabS := ⟨(show Try.prog.cellsOf 2 = 1 by kernel_rfl), (show Try.prog.cellsOf 3 = 1 by kernel_rfl), (show Try.prog.cellsOf 4 = 1 by kernel_rfl), (show Try.prog.cellsOf 5 = 1 by kernel_rfl), (show Try.prog.cellsOf 7 = 4 by kernel_rfl), (show Try.prog.cellsOf 9 = 1 by kernel_rfl), (show Try.prog.cellsOf 12 = 1 by kernel_rfl), (show Try.prog.cellsOf 13 = 2 by kernel_rfl), (show Try.prog.cellsOf 18 = 1 by kernel_rfl), (show Try.prog.cellsOf 21 = 1 by kernel_rfl), (show Try.prog.cellsOf 22 = 1 by kernel_rfl), (show Try.prog.cellsOf 23 = 1 by kernel_rfl), (show Try.prog.cellsOf 24 = 1 by kernel_rfl), (show Try.prog.cellsOf 25 = 1 by kernel_rfl), (show Try.prog.cellsOf 26 = 1 by kernel_rfl), (show Try.prog.cellsOf 28 = 1 by kernel_rfl), (show Try.prog.cellsOf 29 = 1 by kernel_rfl), (show Try.prog.cellsOf 30 = 1 by kernel_rfl), (show Try.prog.cellsOf 31 = 1 by kernel_rfl), (show Try.prog.cellsOf 33 = 1 by kernel_rfl), (show Try.prog.cellsOf 35 = 1 by kernel_rfl), (show Try.prog.cellsOf 37 = 1 by kernel_rfl), (show Try.prog.cellsOf 38 = 1 by kernel_rfl), (show Try.prog.cellsOf 39 = 1 by kernel_rfl), (show Try.prog.cellsOf 48 = 1 by kernel_rfl), (show Try.prog.cellsOf 49 = 1 by kernel_rfl), (show Try.prog.cellsOf 50 = 2 by kernel_rfl), (show Try.prog.cellsOf 51 = 2 by kernel_rfl), (show Try.prog.cellsOf 56 = 1 by kernel_rfl), (show Try.prog.cellsOf 57 = 1 by kernel_rfl), (show Try.prog.cellsOf 61 = 1 by kernel_rfl), (show Try.prog.cellsOf 62 = 1 by kernel_rfl), (show Try.prog.cellsOf 71 = 0 by kernel_rfl), (show Try.prog.cellsOf 72 = 0 by kernel_rfl), (show Try.prog.cellsOf 78 = 1 by kernel_rfl), (show Try.prog.cellsOf 81 = 11 by kernel_rfl), trivial⟩

def tabB : List (Nat × Nat) := [(2, 8),
  (3, 8),
  (4, 1),
  (5, 1),
  (7, 24),
  (9, 16),
  (12, 8),
  (13, 24),
  (18, 8),
  (21, 4),
  (22, 24),
  (23, 24),
  (24, 4),
  (25, 8),
  (26, 8),
  (28, 8),
  (29, 24),
  (30, 24),
  (31, 8),
  (33, 8),
  (35, 8),
  (37, 8),
  (38, 8),
  (39, 8),
  (48, 24),
  (49, 8),
  (50, 16),
  (51, 16),
  (56, 24),
  (57, 24),
  (61, 8),
  (62, 8),
  (71, 0),
  (72, 0),
  (78, 8),
  (81, 48)]
theorem tabBOk : AllP (fun p => Try.prog.bytesOf p.1 = p.2) tabB := ⟨(show Try.prog.bytesOf 2 = 8 by kernel_rfl), (show Try.prog.bytesOf 3 = 8 by kernel_rfl), (show Try.prog.bytesOf 4 = 1 by kernel_rfl), (show Try.prog.bytesOf 5 = 1 by kernel_rfl), (show Try.prog.bytesOf 7 = 24 by kernel_rfl), (show Try.prog.bytesOf 9 = 16 by kernel_rfl), (show Try.prog.bytesOf 12 = 8 by kernel_rfl), (show Try.prog.bytesOf 13 = 24 by kernel_rfl), (show Try.prog.bytesOf 18 = 8 by kernel_rfl), (show Try.prog.bytesOf 21 = 4 by kernel_rfl), (show Try.prog.bytesOf 22 = 24 by kernel_rfl), (show Try.prog.bytesOf 23 = 24 by kernel_rfl), (show Try.prog.bytesOf 24 = 4 by kernel_rfl), (show Try.prog.bytesOf 25 = 8 by kernel_rfl), (show Try.prog.bytesOf 26 = 8 by kernel_rfl), (show Try.prog.bytesOf 28 = 8 by kernel_rfl), (show Try.prog.bytesOf 29 = 24 by kernel_rfl), (show Try.prog.bytesOf 30 = 24 by kernel_rfl), (show Try.prog.bytesOf 31 = 8 by kernel_rfl), (show Try.prog.bytesOf 33 = 8 by kernel_rfl), (show Try.prog.bytesOf 35 = 8 by kernel_rfl), (show Try.prog.bytesOf 37 = 8 by kernel_rfl), (show Try.prog.bytesOf 38 = 8 by kernel_rfl), (show Try.prog.bytesOf 39 = 8 by kernel_rfl), (show Try.prog.bytesOf 48 = 24 by kernel_rfl), (show Try.prog.bytesOf 49 = 8 by kernel_rfl), (show Try.prog.bytesOf 50 = 16 by kernel_rfl), (show Try.prog.bytesOf 51 = 16 by kernel_rfl), (show Try.prog.bytesOf 56 = 24 by kernel_rfl), (show Try.prog.bytesOf 57 = 24 by kernel_rfl), (show Try.prog.bytesOf 61 = 8 by kernel_rfl), (show Try.prog.bytesOf 62 = 8 by kernel_rfl), (show Try.prog.bytesOf 71 = 0 by kernel_rfl), (show Try.prog.bytesOf 72 = 0 by kernel_rfl), (show Try.prog.bytesOf 78 = 8 by kernel_rfl), (show Try.prog.bytesOf 81 = 48 by kernel_rfl), trivial⟩

def tabZ : List (Nat × Value) := [(2, .int .i64 0),
  (3, .int .i64 0),
  (4, .bool false),
  (5, .int .u8 0),
  (7, .agg #[.int .i64 0, .int .i64 0, .bool false, .int .u8 0]),
  (9, .string ⟨#[]⟩),
  (12, .int .u64 0),
  (13, .agg #[.string ⟨#[]⟩, .int .u64 0]),
  (18, .agg #[.pointer none]),
  (21, .int .i32 0),
  (22, .slice none 0 0),
  (23, .slice none 0 0),
  (24, .int .u32 0),
  (25, .int .u64 0),
  (26, .pointer none),
  (28, .pointer none),
  (29, .agg #[.slice none 0 0]),
  (30, .agg #[.slice none 0 0]),
  (31, .int .i64 0),
  (33, .map none),
  (35, .pointer none),
  (37, .pointer none),
  (38, .agg #[.int .u64 0]),
  (39, .agg #[.int .u64 0]),
  (48, .slice none 0 0),
  (49, .int .u64 0),
  (50, .agg #[.int .u32 0, .int .i64 0]),
  (51, .agg #[.int .u32 0, .int .i64 0]),
  (56, .agg #[.slice none 0 0]),
  (57, .agg #[.slice none 0 0]),
  (61, .agg #[.int .u64 0]),
  (62, .agg #[.int .u64 0]),
  (71, .agg #[]),
  (72, .agg #[]),
  (78, .pointer none),
  (81, .agg #[.int .u64 0, .int .u64 0, .int .u32 0, .int .u8 0, .int .u8 0, .int .u8 0, .int .u8 0, .nilFunc, .pointer none, .int .i32 0, .int .i32 0])]
theorem tabZOk : AllP (fun p => zeroOf Try.prog p.1 = some p.2) tabZ := ⟨(show zeroOf Try.prog 2 = some (.int .i64 0) by kernel_rfl), (show zeroOf Try.prog 3 = some (.int .i64 0) by kernel_rfl), (show zeroOf Try.prog 4 = some (.bool false) by kernel_rfl), (show zeroOf Try.prog 5 = some (.int .u8 0) by kernel_rfl), (show zeroOf Try.prog 7 = some (.agg #[.int .i64 0, .int .i64 0, .bool false, .int .u8 0]) by kernel_rfl), (show zeroOf Try.prog 9 = some (.string ⟨#[]⟩) by kernel_rfl), (show zeroOf Try.prog 12 = some (.int .u64 0) by kernel_rfl), (show zeroOf Try.prog 13 = some (.agg #[.string ⟨#[]⟩, .int .u64 0]) by kernel_rfl), (show zeroOf Try.prog 18 = some (.agg #[.pointer none]) by kernel_rfl), (show zeroOf Try.prog 21 = some (.int .i32 0) by kernel_rfl), (show zeroOf Try.prog 22 = some (.slice none 0 0) by kernel_rfl), (show zeroOf Try.prog 23 = some (.slice none 0 0) by kernel_rfl), (show zeroOf Try.prog 24 = some (.int .u32 0) by kernel_rfl), (show zeroOf Try.prog 25 = some (.int .u64 0) by kernel_rfl), (show zeroOf Try.prog 26 = some (.pointer none) by kernel_rfl), (show zeroOf Try.prog 28 = some (.pointer none) by kernel_rfl), (show zeroOf Try.prog 29 = some (.agg #[.slice none 0 0]) by kernel_rfl), (show zeroOf Try.prog 30 = some (.agg #[.slice none 0 0]) by kernel_rfl), (show zeroOf Try.prog 31 = some (.int .i64 0) by kernel_rfl), (show zeroOf Try.prog 33 = some (.map none) by kernel_rfl), (show zeroOf Try.prog 35 = some (.pointer none) by kernel_rfl), (show zeroOf Try.prog 37 = some (.pointer none) by kernel_rfl), (show zeroOf Try.prog 38 = some (.agg #[.int .u64 0]) by kernel_rfl), (show zeroOf Try.prog 39 = some (.agg #[.int .u64 0]) by kernel_rfl), (show zeroOf Try.prog 48 = some (.slice none 0 0) by kernel_rfl), (show zeroOf Try.prog 49 = some (.int .u64 0) by kernel_rfl), (show zeroOf Try.prog 50 = some (.agg #[.int .u32 0, .int .i64 0]) by kernel_rfl), (show zeroOf Try.prog 51 = some (.agg #[.int .u32 0, .int .i64 0]) by kernel_rfl), (show zeroOf Try.prog 56 = some (.agg #[.slice none 0 0]) by kernel_rfl), (show zeroOf Try.prog 57 = some (.agg #[.slice none 0 0]) by kernel_rfl), (show zeroOf Try.prog 61 = some (.agg #[.int .u64 0]) by kernel_rfl), (show zeroOf Try.prog 62 = some (.agg #[.int .u64 0]) by kernel_rfl), (show zeroOf Try.prog 71 = some (.agg #[]) by kernel_rfl), (show zeroOf Try.prog 72 = some (.agg #[]) by kernel_rfl), (show zeroOf Try.prog 78 = some (.pointer none) by kernel_rfl), (show zeroOf Try.prog 81 = some (.agg #[.int .u64 0, .int .u64 0, .int .u32 0, .int .u8 0, .int .u8 0, .int .u8 0, .int .u8 0, .nilFunc, .pointer none, .int .i32 0, .int .i32 0]) by kernel_rfl), trivial⟩

def tabE : List Nat := [39, 51, 62]
theorem tabEOk : AllP (fun t => Try.prog.eqGuardType Try.prog.depth t = false ∧ Try.prog.stoodInHeld t = false) tabE := ⟨⟨by kernel_rfl, by kernel_rfl⟩, ⟨by kernel_rfl, by kernel_rfl⟩, ⟨by kernel_rfl, by kernel_rfl⟩, trivial⟩

def tabF : List Nat := [3, 4, 5, 6, 7, 8, 9, 10, 11, 12, 13, 14, 15, 16, 17, 18, 19, 20, 21, 22, 23, 24, 25, 26, 27, 28, 29, 30, 32, 33, 34, 35, 36]
theorem tabFOk : AllP (fun f => ∃ c, Try.prog.funcs[f]? = some c ∧ c.body.isSome = true ∧ (c.name == "runtime.NumGoroutine") = false) tabF := ⟨⟨_, Try.func3, by kernel_rfl, by kernel_rfl⟩, ⟨_, Try.func4, by kernel_rfl, by kernel_rfl⟩, ⟨_, Try.func5, by kernel_rfl, by kernel_rfl⟩, ⟨_, Try.func6, by kernel_rfl, by kernel_rfl⟩, ⟨_, Try.func7, by kernel_rfl, by kernel_rfl⟩, ⟨_, Try.func8, by kernel_rfl, by kernel_rfl⟩, ⟨_, Try.func9, by kernel_rfl, by kernel_rfl⟩, ⟨_, Try.func10, by kernel_rfl, by kernel_rfl⟩, ⟨_, Try.func11, by kernel_rfl, by kernel_rfl⟩, ⟨_, Try.func12, by kernel_rfl, by kernel_rfl⟩, ⟨_, Try.func13, by kernel_rfl, by kernel_rfl⟩, ⟨_, Try.func14, by kernel_rfl, by kernel_rfl⟩, ⟨_, Try.func15, by kernel_rfl, by kernel_rfl⟩, ⟨_, Try.func16, by kernel_rfl, by kernel_rfl⟩, ⟨_, Try.func17, by kernel_rfl, by kernel_rfl⟩, ⟨_, Try.func18, by kernel_rfl, by kernel_rfl⟩, ⟨_, Try.func19, by kernel_rfl, by kernel_rfl⟩, ⟨_, Try.func20, by kernel_rfl, by kernel_rfl⟩, ⟨_, Try.func21, by kernel_rfl, by kernel_rfl⟩, ⟨_, Try.func22, by kernel_rfl, by kernel_rfl⟩, ⟨_, Try.func23, by kernel_rfl, by kernel_rfl⟩, ⟨_, Try.func24, by kernel_rfl, by kernel_rfl⟩, ⟨_, Try.func25, by kernel_rfl, by kernel_rfl⟩, ⟨_, Try.func26, by kernel_rfl, by kernel_rfl⟩, ⟨_, Try.func27, by kernel_rfl, by kernel_rfl⟩, ⟨_, Try.func28, by kernel_rfl, by kernel_rfl⟩, ⟨_, Try.func29, by kernel_rfl, by kernel_rfl⟩, ⟨_, Try.func30, by kernel_rfl, by kernel_rfl⟩, ⟨_, Try.func32, by kernel_rfl, by kernel_rfl⟩, ⟨_, Try.func33, by kernel_rfl, by kernel_rfl⟩, ⟨_, Try.func34, by kernel_rfl, by kernel_rfl⟩, ⟨_, Try.func35, by kernel_rfl, by kernel_rfl⟩, ⟨_, Try.func36, by kernel_rfl, by kernel_rfl⟩, trivial⟩

def tabL : TabL Try.prog := ⟨tabU, tabUOk, tabS, tabSOk, tabB, tabBOk, tabZ, tabZOk, tabE, tabEOk, tabF, tabFOk, by kernel_rfl⟩
def tab : Tab Try.prog := tabL.tab

theorem tsz7 : tab.sz 7 = 4 := rfl
theorem tsz13 : tab.sz 13 = 2 := rfl
theorem tsz18 : tab.sz 18 = 1 := rfl
theorem tsz29 : tab.sz 29 = 1 := rfl
theorem tsz30 : tab.sz 30 = 1 := rfl
theorem tsz38 : tab.sz 38 = 1 := rfl
theorem tsz39 : tab.sz 39 = 1 := rfl
theorem tsz50 : tab.sz 50 = 2 := rfl
theorem tsz51 : tab.sz 51 = 2 := rfl
theorem tsz56 : tab.sz 56 = 1 := rfl
theorem tsz57 : tab.sz 57 = 1 := rfl
theorem tsz61 : tab.sz 61 = 1 := rfl
theorem tsz62 : tab.sz 62 = 1 := rfl
theorem tsz71 : tab.sz 71 = 0 := rfl
theorem tsz72 : tab.sz 72 = 0 := rfl
theorem tsz81 : tab.sz 81 = 11 := rfl
theorem tbs22 : tab.bs 22 = 24 := rfl
theorem tbs24 : tab.bs 24 = 4 := rfl
theorem tbs51 : tab.bs 51 = 16 := rfl
theorem tsz22 : tab.sz 22 = 1 := rfl
theorem tsz24 : tab.sz 24 = 1 := rfl
end Go.Gh
