import Derived.Test.YtnnhmiokgpfmoaaGhZjl
import Derived.Test.YtnnhmiokgpfmoaaProg
import Derived.KernelRfl

/-! What the walks ask of this translation: types, sizes, zero values, functions. Printed by a program of these sessions. -/

namespace Go.Gh
open Go.Proofs

def tabU : List (Nat × TypeDesc) := [(2, .int .i64),
  (3, .int .i64),
  (4, .bool),
  (5, .int .u8),
  (7, .struct #[{ name := "x", type := 2, offset := 0, embedded := false, tag := "", pkgPath := "runtime", byteOffset := 0 }, { name := "y", type := 3, offset := 1, embedded := false, tag := "", pkgPath := "runtime", byteOffset := 8 }, { name := "signed", type := 4, offset := 2, embedded := false, tag := "", pkgPath := "runtime", byteOffset := 16 }, { name := "code", type := 6, offset := 3, embedded := false, tag := "", pkgPath := "runtime", byteOffset := 17 }]),
  (9, .string),
  (12, .int .u64),
  (13, .struct #[{ name := "msg", type := 9, offset := 0, embedded := false, tag := "", pkgPath := "runtime", byteOffset := 0 }, { name := "addr", type := 12, offset := 1, embedded := false, tag := "", pkgPath := "runtime", byteOffset := 16 }]),
  (18, .struct #[{ name := "typ", type := 17, offset := 0, embedded := false, tag := "", pkgPath := "internal/runtime/maps", byteOffset := 0 }]),
  (21, .int .i32),
  (22, .int .u32),
  (23, .struct #[{ name := "From", type := 22, offset := 0, embedded := false, tag := "", pkgPath := "", byteOffset := 0 }, { name := "To", type := 22, offset := 1, embedded := false, tag := "", pkgPath := "", byteOffset := 4 }]),
  (24, .struct #[{ name := "From", type := 22, offset := 0, embedded := false, tag := "", pkgPath := "", byteOffset := 0 }, { name := "To", type := 22, offset := 1, embedded := false, tag := "", pkgPath := "", byteOffset := 4 }]),
  (25, .slice 24),
  (26, .slice 3),
  (28, .int .u64),
  (29, .pointer 50),
  (31, .int .u64),
  (37, .slice 22),
  (41, .pointer 44),
  (42, .slice 63),
  (43, .struct #[{ name := "S", type := 24, offset := 0, embedded := false, tag := "", pkgPath := "", byteOffset := 0 }, { name := "L", type := 42, offset := 2, embedded := false, tag := "", pkgPath := "", byteOffset := 8 }]),
  (44, .struct #[{ name := "S", type := 24, offset := 0, embedded := false, tag := "", pkgPath := "", byteOffset := 0 }, { name := "L", type := 42, offset := 2, embedded := false, tag := "", pkgPath := "", byteOffset := 8 }]),
  (48, .slice 53),
  (49, .struct #[{ name := "s", type := 24, offset := 0, embedded := false, tag := "", pkgPath := "petasos/cover", byteOffset := 0 }, { name := "size", type := 31, offset := 2, embedded := false, tag := "", pkgPath := "petasos/cover", byteOffset := 8 }, { name := "l", type := 48, offset := 3, embedded := false, tag := "", pkgPath := "petasos/cover", byteOffset := 16 }]),
  (50, .struct #[{ name := "s", type := 24, offset := 0, embedded := false, tag := "", pkgPath := "petasos/cover", byteOffset := 0 }, { name := "size", type := 31, offset := 2, embedded := false, tag := "", pkgPath := "petasos/cover", byteOffset := 8 }, { name := "l", type := 48, offset := 3, embedded := false, tag := "", pkgPath := "petasos/cover", byteOffset := 16 }]),
  (52, .struct #[{ name := "From", type := 31, offset := 0, embedded := false, tag := "", pkgPath := "", byteOffset := 0 }, { name := "To", type := 31, offset := 1, embedded := false, tag := "", pkgPath := "", byteOffset := 8 }]),
  (53, .struct #[{ name := "From", type := 31, offset := 0, embedded := false, tag := "", pkgPath := "", byteOffset := 0 }, { name := "To", type := 31, offset := 1, embedded := false, tag := "", pkgPath := "", byteOffset := 8 }]),
  (62, .struct #[{ name := "A", type := 31, offset := 0, embedded := false, tag := "", pkgPath := "", byteOffset := 0 }, { name := "B", type := 31, offset := 1, embedded := false, tag := "", pkgPath := "", byteOffset := 8 }]),
  (63, .struct #[{ name := "A", type := 31, offset := 0, embedded := false, tag := "", pkgPath := "", byteOffset := 0 }, { name := "B", type := 31, offset := 1, embedded := false, tag := "", pkgPath := "", byteOffset := 8 }]),
  (75, .array 0 16),
  (76, .struct #[{ name := "_", type := 75, offset := 0, embedded := false, tag := "", pkgPath := "runtime", byteOffset := 0 }]),
  (82, .pointer 5),
  (85, .struct #[{ name := "Size_", type := 12, offset := 0, embedded := false, tag := "", pkgPath := "", byteOffset := 0 }, { name := "PtrBytes", type := 12, offset := 1, embedded := false, tag := "", pkgPath := "", byteOffset := 8 }, { name := "Hash", type := 22, offset := 2, embedded := false, tag := "", pkgPath := "", byteOffset := 16 }, { name := "TFlag", type := 79, offset := 3, embedded := false, tag := "", pkgPath := "", byteOffset := 20 }, { name := "Align_", type := 5, offset := 4, embedded := false, tag := "", pkgPath := "", byteOffset := 21 }, { name := "FieldAlign_", type := 5, offset := 5, embedded := false, tag := "", pkgPath := "", byteOffset := 22 }, { name := "Kind_", type := 80, offset := 6, embedded := false, tag := "", pkgPath := "", byteOffset := 23 }, { name := "Equal", type := 81, offset := 7, embedded := false, tag := "", pkgPath := "", byteOffset := 24 }, { name := "GCData", type := 82, offset := 8, embedded := false, tag := "", pkgPath := "", byteOffset := 32 }, { name := "Str", type := 83, offset := 9, embedded := false, tag := "", pkgPath := "", byteOffset := 40 }, { name := "PtrToThis", type := 84, offset := 10, embedded := false, tag := "", pkgPath := "", byteOffset := 44 }])]
theorem tabUOk : AllP (fun p => Try.prog.underlying p.1 = some p.2) tabU := ⟨Try.underlying2, Try.underlying3, Try.underlying4, Try.underlying5, Try.underlying7, Try.underlying9, Try.underlying12, Try.underlying13, Try.underlying18, Try.underlying21, Try.underlying22, Try.underlying23, Try.underlying24, Try.underlying25, Try.underlying26, Try.underlying28, Try.underlying29, Try.underlying31, Try.underlying37, Try.underlying41, Try.underlying42, Try.underlying43, Try.underlying44, Try.underlying48, Try.underlying49, Try.underlying50, Try.underlying52, Try.underlying53, Try.underlying62, Try.underlying63, Try.underlying75, Try.underlying76, Try.underlying82, Try.underlying85, trivial⟩

def tabS : List (Nat × Nat) := [(2, 1),
  (3, 1),
  (4, 1),
  (5, 1),
  (7, 4),
  (9, 1),
  (12, 1),
  (13, 2),
  (18, 1),
  (21, 1),
  (22, 1),
  (23, 2),
  (24, 2),
  (25, 1),
  (26, 1),
  (28, 1),
  (29, 1),
  (31, 1),
  (37, 1),
  (41, 1),
  (42, 1),
  (43, 3),
  (44, 3),
  (48, 1),
  (49, 4),
  (50, 4),
  (52, 2),
  (53, 2),
  (62, 2),
  (63, 2),
  (75, 0),
  (76, 0),
  (82, 1),
  (85, 11)]
theorem tabSOk : AllP (fun p => Try.prog.cellsOf p.1 = p.2) tabS := ⟨(show Try.prog.cellsOf 2 = 1 by kernel_rfl), (show Try.prog.cellsOf 3 = 1 by kernel_rfl), (show Try.prog.cellsOf 4 = 1 by kernel_rfl), (show Try.prog.cellsOf 5 = 1 by kernel_rfl), (show Try.prog.cellsOf 7 = 4 by kernel_rfl), (show Try.prog.cellsOf 9 = 1 by kernel_rfl), (show Try.prog.cellsOf 12 = 1 by kernel_rfl), (show Try.prog.cellsOf 13 = 2 by kernel_rfl), (show Try.prog.cellsOf 18 = 1 by kernel_rfl), (show Try.prog.cellsOf 21 = 1 by kernel_rfl), (show Try.prog.cellsOf 22 = 1 by kernel_rfl), (show Try.prog.cellsOf 23 = 2 by kernel_rfl), (show Try.prog.cellsOf 24 = 2 by kernel_rfl), (show Try.prog.cellsOf 25 = 1 by kernel_rfl), (show Try.prog.cellsOf 26 = 1 by kernel_rfl), (show Try.prog.cellsOf 28 = 1 by kernel_rfl), (show Try.prog.cellsOf 29 = 1 by kernel_rfl), (show Try.prog.cellsOf 31 = 1 by kernel_rfl), (show Try.prog.cellsOf 37 = 1 by kernel_rfl), (show Try.prog.cellsOf 41 = 1 by kernel_rfl), (show Try.prog.cellsOf 42 = 1 by kernel_rfl), (show Try.prog.cellsOf 43 = 3 by kernel_rfl), (show Try.prog.cellsOf 44 = 3 by kernel_rfl), (show Try.prog.cellsOf 48 = 1 by kernel_rfl), (show Try.prog.cellsOf 49 = 4 by kernel_rfl), (show Try.prog.cellsOf 50 = 4 by kernel_rfl), (show Try.prog.cellsOf 52 = 2 by kernel_rfl), (show Try.prog.cellsOf 53 = 2 by kernel_rfl), (show Try.prog.cellsOf 62 = 2 by kernel_rfl), (show Try.prog.cellsOf 63 = 2 by kernel_rfl), (show Try.prog.cellsOf 75 = 0 by kernel_rfl), (show Try.prog.cellsOf 76 = 0 by kernel_rfl), (show Try.prog.cellsOf 82 = 1 by kernel_rfl), (show Try.prog.cellsOf 85 = 11 by kernel_rfl), trivial⟩

def tabB : List (Nat × Nat) := [(2, 8),
  (3, 8),
  (4, 1),
  (5, 1),
  (7, 24),
  (9, 16),
  (12, 8),
  (13, 24),
  (18, 8),
  (21, 4),
  (22, 4),
  (23, 8),
  (24, 8),
  (25, 24),
  (26, 24),
  (28, 8),
  (29, 8),
  (31, 8),
  (37, 24),
  (41, 8),
  (42, 24),
  (43, 32),
  (44, 32),
  (48, 24),
  (49, 40),
  (50, 40),
  (52, 16),
  (53, 16),
  (62, 16),
  (63, 16),
  (75, 0),
  (76, 0),
  (82, 8),
  (85, 48)]
theorem tabBOk : AllP (fun p => Try.prog.bytesOf p.1 = p.2) tabB := ⟨(show Try.prog.bytesOf 2 = 8 by kernel_rfl), (show Try.prog.bytesOf 3 = 8 by kernel_rfl), (show Try.prog.bytesOf 4 = 1 by kernel_rfl), (show Try.prog.bytesOf 5 = 1 by kernel_rfl), (show Try.prog.bytesOf 7 = 24 by kernel_rfl), (show Try.prog.bytesOf 9 = 16 by kernel_rfl), (show Try.prog.bytesOf 12 = 8 by kernel_rfl), (show Try.prog.bytesOf 13 = 24 by kernel_rfl), (show Try.prog.bytesOf 18 = 8 by kernel_rfl), (show Try.prog.bytesOf 21 = 4 by kernel_rfl), (show Try.prog.bytesOf 22 = 4 by kernel_rfl), (show Try.prog.bytesOf 23 = 8 by kernel_rfl), (show Try.prog.bytesOf 24 = 8 by kernel_rfl), (show Try.prog.bytesOf 25 = 24 by kernel_rfl), (show Try.prog.bytesOf 26 = 24 by kernel_rfl), (show Try.prog.bytesOf 28 = 8 by kernel_rfl), (show Try.prog.bytesOf 29 = 8 by kernel_rfl), (show Try.prog.bytesOf 31 = 8 by kernel_rfl), (show Try.prog.bytesOf 37 = 24 by kernel_rfl), (show Try.prog.bytesOf 41 = 8 by kernel_rfl), (show Try.prog.bytesOf 42 = 24 by kernel_rfl), (show Try.prog.bytesOf 43 = 32 by kernel_rfl), (show Try.prog.bytesOf 44 = 32 by kernel_rfl), (show Try.prog.bytesOf 48 = 24 by kernel_rfl), (show Try.prog.bytesOf 49 = 40 by kernel_rfl), (show Try.prog.bytesOf 50 = 40 by kernel_rfl), (show Try.prog.bytesOf 52 = 16 by kernel_rfl), (show Try.prog.bytesOf 53 = 16 by kernel_rfl), (show Try.prog.bytesOf 62 = 16 by kernel_rfl), (show Try.prog.bytesOf 63 = 16 by kernel_rfl), (show Try.prog.bytesOf 75 = 0 by kernel_rfl), (show Try.prog.bytesOf 76 = 0 by kernel_rfl), (show Try.prog.bytesOf 82 = 8 by kernel_rfl), (show Try.prog.bytesOf 85 = 48 by kernel_rfl), trivial⟩

def tabZ : List (Nat × Value) := [(2, .int .i64 0),
  (3, .int .i64 0),
  (4, .bool false),
  (5, .int .u8 0),
  (7, .agg #[.int .i64 0, .int .i64 0, .bool false, .int .u8 0]),
  (9, .string ⟨#[]⟩),
  (12, .int .u64 0),
  (13, .agg #[.string ⟨#[]⟩, .int .u64 0]),
  (18, .agg #[.pointer none]),
  (21, .int .i32 0),
  (22, .int .u32 0),
  (23, .agg #[.int .u32 0, .int .u32 0]),
  (24, .agg #[.int .u32 0, .int .u32 0]),
  (25, .slice none 0 0),
  (26, .slice none 0 0),
  (28, .int .u64 0),
  (29, .pointer none),
  (31, .int .u64 0),
  (37, .slice none 0 0),
  (41, .pointer none),
  (42, .slice none 0 0),
  (43, .agg #[.int .u32 0, .int .u32 0, .slice none 0 0]),
  (44, .agg #[.int .u32 0, .int .u32 0, .slice none 0 0]),
  (48, .slice none 0 0),
  (49, .agg #[.int .u32 0, .int .u32 0, .int .u64 0, .slice none 0 0]),
  (50, .agg #[.int .u32 0, .int .u32 0, .int .u64 0, .slice none 0 0]),
  (52, .agg #[.int .u64 0, .int .u64 0]),
  (53, .agg #[.int .u64 0, .int .u64 0]),
  (62, .agg #[.int .u64 0, .int .u64 0]),
  (63, .agg #[.int .u64 0, .int .u64 0]),
  (75, .agg #[]),
  (76, .agg #[]),
  (82, .pointer none),
  (85, .agg #[.int .u64 0, .int .u64 0, .int .u32 0, .int .u8 0, .int .u8 0, .int .u8 0, .int .u8 0, .nilFunc, .pointer none, .int .i32 0, .int .i32 0])]
theorem tabZOk : AllP (fun p => zeroOf Try.prog p.1 = some p.2) tabZ := ⟨(show zeroOf Try.prog 2 = some (.int .i64 0) by kernel_rfl), (show zeroOf Try.prog 3 = some (.int .i64 0) by kernel_rfl), (show zeroOf Try.prog 4 = some (.bool false) by kernel_rfl), (show zeroOf Try.prog 5 = some (.int .u8 0) by kernel_rfl), (show zeroOf Try.prog 7 = some (.agg #[.int .i64 0, .int .i64 0, .bool false, .int .u8 0]) by kernel_rfl), (show zeroOf Try.prog 9 = some (.string ⟨#[]⟩) by kernel_rfl), (show zeroOf Try.prog 12 = some (.int .u64 0) by kernel_rfl), (show zeroOf Try.prog 13 = some (.agg #[.string ⟨#[]⟩, .int .u64 0]) by kernel_rfl), (show zeroOf Try.prog 18 = some (.agg #[.pointer none]) by kernel_rfl), (show zeroOf Try.prog 21 = some (.int .i32 0) by kernel_rfl), (show zeroOf Try.prog 22 = some (.int .u32 0) by kernel_rfl), (show zeroOf Try.prog 23 = some (.agg #[.int .u32 0, .int .u32 0]) by kernel_rfl), (show zeroOf Try.prog 24 = some (.agg #[.int .u32 0, .int .u32 0]) by kernel_rfl), (show zeroOf Try.prog 25 = some (.slice none 0 0) by kernel_rfl), (show zeroOf Try.prog 26 = some (.slice none 0 0) by kernel_rfl), (show zeroOf Try.prog 28 = some (.int .u64 0) by kernel_rfl), (show zeroOf Try.prog 29 = some (.pointer none) by kernel_rfl), (show zeroOf Try.prog 31 = some (.int .u64 0) by kernel_rfl), (show zeroOf Try.prog 37 = some (.slice none 0 0) by kernel_rfl), (show zeroOf Try.prog 41 = some (.pointer none) by kernel_rfl), (show zeroOf Try.prog 42 = some (.slice none 0 0) by kernel_rfl), (show zeroOf Try.prog 43 = some (.agg #[.int .u32 0, .int .u32 0, .slice none 0 0]) by kernel_rfl), (show zeroOf Try.prog 44 = some (.agg #[.int .u32 0, .int .u32 0, .slice none 0 0]) by kernel_rfl), (show zeroOf Try.prog 48 = some (.slice none 0 0) by kernel_rfl), (show zeroOf Try.prog 49 = some (.agg #[.int .u32 0, .int .u32 0, .int .u64 0, .slice none 0 0]) by kernel_rfl), (show zeroOf Try.prog 50 = some (.agg #[.int .u32 0, .int .u32 0, .int .u64 0, .slice none 0 0]) by kernel_rfl), (show zeroOf Try.prog 52 = some (.agg #[.int .u64 0, .int .u64 0]) by kernel_rfl), (show zeroOf Try.prog 53 = some (.agg #[.int .u64 0, .int .u64 0]) by kernel_rfl), (show zeroOf Try.prog 62 = some (.agg #[.int .u64 0, .int .u64 0]) by kernel_rfl), (show zeroOf Try.prog 63 = some (.agg #[.int .u64 0, .int .u64 0]) by kernel_rfl), (show zeroOf Try.prog 75 = some (.agg #[]) by kernel_rfl), (show zeroOf Try.prog 76 = some (.agg #[]) by kernel_rfl), (show zeroOf Try.prog 82 = some (.pointer none) by kernel_rfl), (show zeroOf Try.prog 85 = some (.agg #[.int .u64 0, .int .u64 0, .int .u32 0, .int .u8 0, .int .u8 0, .int .u8 0, .int .u8 0, .nilFunc, .pointer none, .int .i32 0, .int .i32 0]) by kernel_rfl), trivial⟩

def tabE : List Nat := [24, 53, 63]
theorem tabEOk : AllP (fun t => Try.prog.eqGuardType Try.prog.depth t = false ∧ Try.prog.stoodInHeld t = false) tabE := ⟨⟨by kernel_rfl, by kernel_rfl⟩, ⟨by kernel_rfl, by kernel_rfl⟩, ⟨by kernel_rfl, by kernel_rfl⟩, trivial⟩

def tabF : List Nat := [3, 4, 5, 6, 7, 8, 9, 10, 11, 12, 13, 14, 15, 16, 17, 18, 19, 20, 21, 22, 23, 24, 25, 26, 27, 28, 29, 30, 31, 32, 33, 34, 35, 37, 38, 39]
theorem tabFOk : AllP (fun f => ∃ c, Try.prog.funcs[f]? = some c ∧ c.body.isSome = true ∧ (c.name == "runtime.NumGoroutine") = false) tabF := ⟨⟨_, Try.func3, by kernel_rfl, by kernel_rfl⟩, ⟨_, Try.func4, by kernel_rfl, by kernel_rfl⟩, ⟨_, Try.func5, by kernel_rfl, by kernel_rfl⟩, ⟨_, Try.func6, by kernel_rfl, by kernel_rfl⟩, ⟨_, Try.func7, by kernel_rfl, by kernel_rfl⟩, ⟨_, Try.func8, by kernel_rfl, by kernel_rfl⟩, ⟨_, Try.func9, by kernel_rfl, by kernel_rfl⟩, ⟨_, Try.func10, by kernel_rfl, by kernel_rfl⟩, ⟨_, Try.func11, by kernel_rfl, by kernel_rfl⟩, ⟨_, Try.func12, by kernel_rfl, by kernel_rfl⟩, ⟨_, Try.func13, by kernel_rfl, by kernel_rfl⟩, ⟨_, Try.func14, by kernel_rfl, by kernel_rfl⟩, ⟨_, Try.func15, by kernel_rfl, by kernel_rfl⟩, ⟨_, Try.func16, by kernel_rfl, by kernel_rfl⟩, ⟨_, Try.func17, by kernel_rfl, by kernel_rfl⟩, ⟨_, Try.func18, by kernel_rfl, by kernel_rfl⟩, ⟨_, Try.func19, by kernel_rfl, by kernel_rfl⟩, ⟨_, Try.func20, by kernel_rfl, by kernel_rfl⟩, ⟨_, Try.func21, by kernel_rfl, by kernel_rfl⟩, ⟨_, Try.func22, by kernel_rfl, by kernel_rfl⟩, ⟨_, Try.func23, by kernel_rfl, by kernel_rfl⟩, ⟨_, Try.func24, by kernel_rfl, by kernel_rfl⟩, ⟨_, Try.func25, by kernel_rfl, by kernel_rfl⟩, ⟨_, Try.func26, by kernel_rfl, by kernel_rfl⟩, ⟨_, Try.func27, by kernel_rfl, by kernel_rfl⟩, ⟨_, Try.func28, by kernel_rfl, by kernel_rfl⟩, ⟨_, Try.func29, by kernel_rfl, by kernel_rfl⟩, ⟨_, Try.func30, by kernel_rfl, by kernel_rfl⟩, ⟨_, Try.func31, by kernel_rfl, by kernel_rfl⟩, ⟨_, Try.func32, by kernel_rfl, by kernel_rfl⟩, ⟨_, Try.func33, by kernel_rfl, by kernel_rfl⟩, ⟨_, Try.func34, by kernel_rfl, by kernel_rfl⟩, ⟨_, Try.func35, by kernel_rfl, by kernel_rfl⟩, ⟨_, Try.func37, by kernel_rfl, by kernel_rfl⟩, ⟨_, Try.func38, by kernel_rfl, by kernel_rfl⟩, ⟨_, Try.func39, by kernel_rfl, by kernel_rfl⟩, trivial⟩

def tabL : TabL Try.prog := ⟨tabU, tabUOk, tabS, tabSOk, tabB, tabBOk, tabZ, tabZOk, tabE, tabEOk, tabF, tabFOk, by kernel_rfl⟩
def tab : Tab Try.prog := tabL.tab

theorem tsz7 : tab.sz 7 = 4 := rfl
theorem tsz13 : tab.sz 13 = 2 := rfl
theorem tsz18 : tab.sz 18 = 1 := rfl
theorem tsz23 : tab.sz 23 = 2 := rfl
theorem tsz24 : tab.sz 24 = 2 := rfl
theorem tsz43 : tab.sz 43 = 3 := rfl
theorem tsz44 : tab.sz 44 = 3 := rfl
theorem tsz49 : tab.sz 49 = 4 := rfl
theorem tsz50 : tab.sz 50 = 4 := rfl
theorem tsz52 : tab.sz 52 = 2 := rfl
theorem tsz53 : tab.sz 53 = 2 := rfl
theorem tsz62 : tab.sz 62 = 2 := rfl
theorem tsz63 : tab.sz 63 = 2 := rfl
theorem tsz75 : tab.sz 75 = 0 := rfl
theorem tsz76 : tab.sz 76 = 0 := rfl
theorem tsz85 : tab.sz 85 = 11 := rfl
theorem tbs3 : tab.bs 3 = 8 := rfl
theorem tbs22 : tab.bs 22 = 4 := rfl
theorem tbs24 : tab.bs 24 = 8 := rfl
theorem tbs53 : tab.bs 53 = 16 := rfl
theorem tbs63 : tab.bs 63 = 16 := rfl
theorem tsz3 : tab.sz 3 = 1 := rfl
theorem tsz22 : tab.sz 22 = 1 := rfl
end Go.Gh
