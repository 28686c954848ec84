import Derived.Test.YtfhfepfkndhkoaaGhZjm
import Derived.Test.YtfhfepfkndhkoaaProg
import Derived.KernelRfl

/-! What the walks ask of this translation: types, sizes, zero values, functions. Printed by a program of these sessions. -/

namespace Go.Gh
open Go.Proofs

def tabU : List (Nat × TypeDesc) := [(2, .int .i64),
  (3, .int .i64),
  (4, .bool),
  (5, .int .u8),
  (7, .struct #[{ name := "x", type := 2, offset := 0, embedded := false, tag := "", pkgPath := "runtime", byteOffset := 0 }, { name := "y", type := 3, offset := 1, embedded := false, tag := "", pkgPath := "runtime", byteOffset := 8 }, { name := "signed", type := 4, offset := 2, embedded := false, tag := "", pkgPath := "runtime", byteOffset := 16 }, { name := "code", type := 6, offset := 3, embedded := false, tag := "", pkgPath := "runtime", byteOffset := 17 }]),
  (9, .string),
  (12, .int .u64),
  (13, .struct #[{ name := "msg", type := 9, offset := 0, embedded := false, tag := "", pkgPath := "runtime", byteOffset := 0 }, { name := "addr", type := 12, offset := 1, embedded := false, tag := "", pkgPath := "runtime", byteOffset := 16 }]),
  (18, .struct #[{ name := "typ", type := 17, offset := 0, embedded := false, tag := "", pkgPath := "internal/runtime/maps", byteOffset := 0 }]),
  (21, .int .i32),
  (22, .slice 23),
  (23, .int .u32),
  (24, .pointer 74),
  (25, .pointer 37),
  (35, .slice 22),
  (36, .struct #[{ name := "L", type := 22, offset := 0, embedded := false, tag := "", pkgPath := "", byteOffset := 0 }]),
  (37, .struct #[{ name := "L", type := 22, offset := 0, embedded := false, tag := "", pkgPath := "", byteOffset := 0 }]),
  (38, .int .u64),
  (39, .map 23 22),
  (49, .int .u64),
  (51, .int .i64),
  (53, .pointer 79),
  (55, .pointer 57),
  (56, .struct #[{ name := "S", type := 49, offset := 0, embedded := false, tag := "", pkgPath := "", byteOffset := 0 }]),
  (57, .struct #[{ name := "S", type := 49, offset := 0, embedded := false, tag := "", pkgPath := "", byteOffset := 0 }]),
  (62, .slice 64),
  (63, .struct #[{ name := "Point", type := 23, offset := 0, embedded := false, tag := "", pkgPath := "", byteOffset := 0 }, { name := "Entries", type := 3, offset := 1, embedded := false, tag := "", pkgPath := "", byteOffset := 8 }]),
  (64, .struct #[{ name := "Point", type := 23, offset := 0, embedded := false, tag := "", pkgPath := "", byteOffset := 0 }, { name := "Entries", type := 3, offset := 1, embedded := false, tag := "", pkgPath := "", byteOffset := 8 }]),
  (73, .struct #[{ name := "l", type := 22, offset := 0, embedded := false, tag := "", pkgPath := "petasos/ring", byteOffset := 0 }]),
  (74, .struct #[{ name := "l", type := 22, offset := 0, embedded := false, tag := "", pkgPath := "petasos/ring", byteOffset := 0 }]),
  (78, .struct #[{ name := "state", type := 49, offset := 0, embedded := false, tag := "", pkgPath := "petasos/dice", byteOffset := 0 }]),
  (79, .struct #[{ name := "state", type := 49, offset := 0, embedded := false, tag := "", pkgPath := "petasos/dice", byteOffset := 0 }]),
  (85, .array 0 16),
  (86, .struct #[{ name := "_", type := 85, offset := 0, embedded := false, tag := "", pkgPath := "runtime", byteOffset := 0 }]),
  (92, .pointer 5),
  (95, .struct #[{ name := "Size_", type := 12, offset := 0, embedded := false, tag := "", pkgPath := "", byteOffset := 0 }, { name := "PtrBytes", type := 12, offset := 1, embedded := false, tag := "", pkgPath := "", byteOffset := 8 }, { name := "Hash", type := 23, offset := 2, embedded := false, tag := "", pkgPath := "", byteOffset := 16 }, { name := "TFlag", type := 89, offset := 3, embedded := false, tag := "", pkgPath := "", byteOffset := 20 }, { name := "Align_", type := 5, offset := 4, embedded := false, tag := "", pkgPath := "", byteOffset := 21 }, { name := "FieldAlign_", type := 5, offset := 5, embedded := false, tag := "", pkgPath := "", byteOffset := 22 }, { name := "Kind_", type := 90, offset := 6, embedded := false, tag := "", pkgPath := "", byteOffset := 23 }, { name := "Equal", type := 91, offset := 7, embedded := false, tag := "", pkgPath := "", byteOffset := 24 }, { name := "GCData", type := 92, offset := 8, embedded := false, tag := "", pkgPath := "", byteOffset := 32 }, { name := "Str", type := 93, offset := 9, embedded := false, tag := "", pkgPath := "", byteOffset := 40 }, { name := "PtrToThis", type := 94, offset := 10, embedded := false, tag := "", pkgPath := "", byteOffset := 44 }])]
theorem tabUOk : AllP (fun p => Try.prog.underlying p.1 = some p.2) tabU := ⟨Try.underlying2, Try.underlying3, Try.underlying4, Try.underlying5, Try.underlying7, Try.underlying9, Try.underlying12, Try.underlying13, Try.underlying18, Try.underlying21, Try.underlying22, Try.underlying23, Try.underlying24, Try.underlying25, Try.underlying35, Try.underlying36, Try.underlying37, Try.underlying38, Try.underlying39, Try.underlying49, Try.underlying51, Try.underlying53, Try.underlying55, Try.underlying56, Try.underlying57, Try.underlying62, Try.underlying63, Try.underlying64, Try.underlying73, Try.underlying74, Try.underlying78, Try.underlying79, Try.underlying85, Try.underlying86, Try.underlying92, Try.underlying95, trivial⟩

def tabS : List (Nat × Nat) := [(2, 1),
  (3, 1),
  (4, 1),
  (5, 1),
  (7, 4),
  (9, 1),
  (12, 1),
  (13, 2),
  (18, 1),
  (21, 1),
  (22, 1),
  (23, 1),
  (24, 1),
  (25, 1),
  (35, 1),
  (36, 1),
  (37, 1),
  (38, 1),
  (39, 1),
  (49, 1),
  (51, 1),
  (53, 1),
  (55, 1),
  (56, 1),
  (57, 1),
  (62, 1),
  (63, 2),
  (64, 2),
  (73, 1),
  (74, 1),
  (78, 1),
  (79, 1),
  (85, 0),
  (86, 0),
  (92, 1),
  (95, 11)]
theorem tabSOk : AllP (fun p => Try.prog.cellsOf p.1 = p.2) tabS := ⟨(show Try.prog.cellsOf 2 = 1 by kernel_rfl), (show Try.prog.cellsOf 3 = 1 by kernel_rfl), (show Try.prog.cellsOf 4 = 1 by kernel_rfl), (show Try.prog.cellsOf 5 = 1 by kernel_rfl), (show Try.prog.cellsOf 7 = 4 by kernel_rfl), (show Try.prog.cellsOf 9 = 1 by kernel_rfl), (show Try.prog.cellsOf 12 = 1 by kernel_rfl), (show Try.prog.cellsOf 13 = 2 by kernel_rfl), (show Try.prog.cellsOf 18 = 1 by kernel_rfl), (show Try.prog.cellsOf 21 = 1 by kernel_rfl), (show Try.prog.cellsOf 22 = 1 by kernel_rfl), (show Try.prog.cellsOf 23 = 1 by kernel_rfl), (show Try.prog.cellsOf 24 = 1 by kernel_rfl), (show Try.prog.cellsOf 25 = 1 by kernel_rfl), (show Try.prog.cellsOf 35 = 1 by kernel_rfl), (show Try.prog.cellsOf 36 = 1 by kernel_rfl), (show Try.prog.cellsOf 37 = 1 by kernel_rfl), (show Try.prog.cellsOf 38 = 1 by kernel_rfl), (show Try.prog.cellsOf 39 = 1 by kernel_rfl), (show Try.prog.cellsOf 49 = 1 by kernel_rfl), (show Try.prog.cellsOf 51 = 1 by kernel_rfl), (show Try.prog.cellsOf 53 = 1 by kernel_rfl), (show Try.prog.cellsOf 55 = 1 by kernel_rfl), (show Try.prog.cellsOf 56 = 1 by kernel_rfl), (show Try.prog.cellsOf 57 = 1 by kernel_rfl), (show Try.prog.cellsOf 62 = 1 by kernel_rfl), (show Try.prog.cellsOf 63 = 2 by kernel_rfl), (show Try.prog.cellsOf 64 = 2 by kernel_rfl), (show Try.prog.cellsOf 73 = 1 by kernel_rfl), (show Try.prog.cellsOf 74 = 1 by kernel_rfl), (show Try.prog.cellsOf 78 = 1 by kernel_rfl), (show Try.prog.cellsOf 79 = 1 by kernel_rfl), (show Try.prog.cellsOf 85 = 0 by kernel_rfl), (show Try.prog.cellsOf 86 = 0 by kernel_rfl), (show Try.prog.cellsOf 92 = 1 by kernel_rfl), (show Try.prog.cellsOf 95 = 11 by kernel_rfl), trivial⟩

def tabB : List (Nat × Nat) := [(2, 8),
  (3, 8),
  (4, 1),
  (5, 1),
  (7, 24),
  (9, 16),
  (12, 8),
  (13, 24),
  (18, 8),
  (21, 4),
  (22, 24),
  (23, 4),
  (24, 8),
  (25, 8),
  (35, 24),
  (36, 24),
  (37, 24),
  (38, 8),
  (39, 8),
  (49, 8),
  (51, 8),
  (53, 8),
  (55, 8),
  (56, 8),
  (57, 8),
  (62, 24),
  (63, 16),
  (64, 16),
  (73, 24),
  (74, 24),
  (78, 8),
  (79, 8),
  (85, 0),
  (86, 0),
  (92, 8),
  (95, 48)]
theorem tabBOk : AllP (fun p => Try.prog.bytesOf p.1 = p.2) tabB := ⟨(show Try.prog.bytesOf 2 = 8 by kernel_rfl), (show Try.prog.bytesOf 3 = 8 by kernel_rfl), (show Try.prog.bytesOf 4 = 1 by kernel_rfl), (show Try.prog.bytesOf 5 = 1 by kernel_rfl), (show Try.prog.bytesOf 7 = 24 by kernel_rfl), (show Try.prog.bytesOf 9 = 16 by kernel_rfl), (show Try.prog.bytesOf 12 = 8 by kernel_rfl), (show Try.prog.bytesOf 13 = 24 by kernel_rfl), (show Try.prog.bytesOf 18 = 8 by kernel_rfl), (show Try.prog.bytesOf 21 = 4 by kernel_rfl), (show Try.prog.bytesOf 22 = 24 by kernel_rfl), (show Try.prog.bytesOf 23 = 4 by kernel_rfl), (show Try.prog.bytesOf 24 = 8 by kernel_rfl), (show Try.prog.bytesOf 25 = 8 by kernel_rfl), (show Try.prog.bytesOf 35 = 24 by kernel_rfl), (show Try.prog.bytesOf 36 = 24 by kernel_rfl), (show Try.prog.bytesOf 37 = 24 by kernel_rfl), (show Try.prog.bytesOf 38 = 8 by kernel_rfl), (show Try.prog.bytesOf 39 = 8 by kernel_rfl), (show Try.prog.bytesOf 49 = 8 by kernel_rfl), (show Try.prog.bytesOf 51 = 8 by kernel_rfl), (show Try.prog.bytesOf 53 = 8 by kernel_rfl), (show Try.prog.bytesOf 55 = 8 by kernel_rfl), (show Try.prog.bytesOf 56 = 8 by kernel_rfl), (show Try.prog.bytesOf 57 = 8 by kernel_rfl), (show Try.prog.bytesOf 62 = 24 by kernel_rfl), (show Try.prog.bytesOf 63 = 16 by kernel_rfl), (show Try.prog.bytesOf 64 = 16 by kernel_rfl), (show Try.prog.bytesOf 73 = 24 by kernel_rfl), (show Try.prog.bytesOf 74 = 24 by kernel_rfl), (show Try.prog.bytesOf 78 = 8 by kernel_rfl), (show Try.prog.bytesOf 79 = 8 by kernel_rfl), (show Try.prog.bytesOf 85 = 0 by kernel_rfl), (show Try.prog.bytesOf 86 = 0 by kernel_rfl), (show Try.prog.bytesOf 92 = 8 by kernel_rfl), (show Try.prog.bytesOf 95 = 48 by kernel_rfl), trivial⟩

def tabZ : List (Nat × Value) := [(2, .int .i64 0),
  (3, .int .i64 0),
  (4, .bool false),
  (5, .int .u8 0),
  (7, .agg #[.int .i64 0, .int .i64 0, .bool false, .int .u8 0]),
  (9, .string ⟨#[]⟩),
  (12, .int .u64 0),
  (13, .agg #[.string ⟨#[]⟩, .int .u64 0]),
  (18, .agg #[.pointer none]),
  (21, .int .i32 0),
  (22, .slice none 0 0),
  (23, .int .u32 0),
  (24, .pointer none),
  (25, .pointer none),
  (35, .slice none 0 0),
  (36, .agg #[.slice none 0 0]),
  (37, .agg #[.slice none 0 0]),
  (38, .int .u64 0),
  (39, .map none),
  (49, .int .u64 0),
  (51, .int .i64 0),
  (53, .pointer none),
  (55, .pointer none),
  (56, .agg #[.int .u64 0]),
  (57, .agg #[.int .u64 0]),
  (62, .slice none 0 0),
  (63, .agg #[.int .u32 0, .int .i64 0]),
  (64, .agg #[.int .u32 0, .int .i64 0]),
  (73, .agg #[.slice none 0 0]),
  (74, .agg #[.slice none 0 0]),
  (78, .agg #[.int .u64 0]),
  (79, .agg #[.int .u64 0]),
  (85, .agg #[]),
  (86, .agg #[]),
  (92, .pointer none),
  (95, .agg #[.int .u64 0, .int .u64 0, .int .u32 0, .int .u8 0, .int .u8 0, .int .u8 0, .int .u8 0, .nilFunc, .pointer none, .int .i32 0, .int .i32 0])]
theorem tabZOk : AllP (fun p => zeroOf Try.prog p.1 = some p.2) tabZ := ⟨(show zeroOf Try.prog 2 = some (.int .i64 0) by kernel_rfl), (show zeroOf Try.prog 3 = some (.int .i64 0) by kernel_rfl), (show zeroOf Try.prog 4 = some (.bool false) by kernel_rfl), (show zeroOf Try.prog 5 = some (.int .u8 0) by kernel_rfl), (show zeroOf Try.prog 7 = some (.agg #[.int .i64 0, .int .i64 0, .bool false, .int .u8 0]) by kernel_rfl), (show zeroOf Try.prog 9 = some (.string ⟨#[]⟩) by kernel_rfl), (show zeroOf Try.prog 12 = some (.int .u64 0) by kernel_rfl), (show zeroOf Try.prog 13 = some (.agg #[.string ⟨#[]⟩, .int .u64 0]) by kernel_rfl), (show zeroOf Try.prog 18 = some (.agg #[.pointer none]) by kernel_rfl), (show zeroOf Try.prog 21 = some (.int .i32 0) by kernel_rfl), (show zeroOf Try.prog 22 = some (.slice none 0 0) by kernel_rfl), (show zeroOf Try.prog 23 = some (.int .u32 0) by kernel_rfl), (show zeroOf Try.prog 24 = some (.pointer none) by kernel_rfl), (show zeroOf Try.prog 25 = some (.pointer none) by kernel_rfl), (show zeroOf Try.prog 35 = some (.slice none 0 0) by kernel_rfl), (show zeroOf Try.prog 36 = some (.agg #[.slice none 0 0]) by kernel_rfl), (show zeroOf Try.prog 37 = some (.agg #[.slice none 0 0]) by kernel_rfl), (show zeroOf Try.prog 38 = some (.int .u64 0) by kernel_rfl), (show zeroOf Try.prog 39 = some (.map none) by kernel_rfl), (show zeroOf Try.prog 49 = some (.int .u64 0) by kernel_rfl), (show zeroOf Try.prog 51 = some (.int .i64 0) by kernel_rfl), (show zeroOf Try.prog 53 = some (.pointer none) by kernel_rfl), (show zeroOf Try.prog 55 = some (.pointer none) by kernel_rfl), (show zeroOf Try.prog 56 = some (.agg #[.int .u64 0]) by kernel_rfl), (show zeroOf Try.prog 57 = some (.agg #[.int .u64 0]) by kernel_rfl), (show zeroOf Try.prog 62 = some (.slice none 0 0) by kernel_rfl), (show zeroOf Try.prog 63 = some (.agg #[.int .u32 0, .int .i64 0]) by kernel_rfl), (show zeroOf Try.prog 64 = some (.agg #[.int .u32 0, .int .i64 0]) by kernel_rfl), (show zeroOf Try.prog 73 = some (.agg #[.slice none 0 0]) by kernel_rfl), (show zeroOf Try.prog 74 = some (.agg #[.slice none 0 0]) by kernel_rfl), (show zeroOf Try.prog 78 = some (.agg #[.int .u64 0]) by kernel_rfl), (show zeroOf Try.prog 79 = some (.agg #[.int .u64 0]) by kernel_rfl), (show zeroOf Try.prog 85 = some (.agg #[]) by kernel_rfl), (show zeroOf Try.prog 86 = some (.agg #[]) by kernel_rfl), (show zeroOf Try.prog 92 = some (.pointer none) by kernel_rfl), (show zeroOf Try.prog 95 = some (.agg #[.int .u64 0, .int .u64 0, .int .u32 0, .int .u8 0, .int .u8 0, .int .u8 0, .int .u8 0, .nilFunc, .pointer none, .int .i32 0, .int .i32 0]) by kernel_rfl), trivial⟩

def tabE : List Nat := [57, 64, 79]
theorem tabEOk : AllP (fun t => Try.prog.eqGuardType Try.prog.depth t = false ∧ Try.prog.stoodInHeld t = false) tabE := ⟨⟨by kernel_rfl, by kernel_rfl⟩, ⟨by kernel_rfl, by kernel_rfl⟩, ⟨by kernel_rfl, by kernel_rfl⟩, trivial⟩

def tabF : List Nat := [3, 4, 5, 6, 7, 8, 9, 10, 11, 12, 13, 14, 15, 16, 17, 18, 19, 20, 21, 22, 23, 24, 25, 26, 27, 28, 29, 30, 31, 32, 33, 34, 35, 36, 37, 38, 39, 40, 41, 42, 43, 44, 46, 47, 48, 49]
theorem tabFOk : AllP (fun f => ∃ c, Try.prog.funcs[f]? = some c ∧ c.body.isSome = true ∧ (c.name == "runtime.NumGoroutine") = false) tabF := ⟨⟨_, Try.func3, by kernel_rfl, by kernel_rfl⟩, ⟨_, Try.func4, by kernel_rfl, by kernel_rfl⟩, ⟨_, Try.func5, by kernel_rfl, by kernel_rfl⟩, ⟨_, Try.func6, by kernel_rfl, by kernel_rfl⟩, ⟨_, Try.func7, by kernel_rfl, by kernel_rfl⟩, ⟨_, Try.func8, by kernel_rfl, by kernel_rfl⟩, ⟨_, Try.func9, by kernel_rfl, by kernel_rfl⟩, ⟨_, Try.func10, by kernel_rfl, by kernel_rfl⟩, ⟨_, Try.func11, by kernel_rfl, by kernel_rfl⟩, ⟨_, Try.func12, by kernel_rfl, by kernel_rfl⟩, ⟨_, Try.func13, by kernel_rfl, by kernel_rfl⟩, ⟨_, Try.func14, by kernel_rfl, by kernel_rfl⟩, ⟨_, Try.func15, by kernel_rfl, by kernel_rfl⟩, ⟨_, Try.func16, by kernel_rfl, by kernel_rfl⟩, ⟨_, Try.func17, by kernel_rfl, by kernel_rfl⟩, ⟨_, Try.func18, by kernel_rfl, by kernel_rfl⟩, ⟨_, Try.func19, by kernel_rfl, by kernel_rfl⟩, ⟨_, Try.func20, by kernel_rfl, by kernel_rfl⟩, ⟨_, Try.func21, by kernel_rfl, by kernel_rfl⟩, ⟨_, Try.func22, by kernel_rfl, by kernel_rfl⟩, ⟨_, Try.func23, by kernel_rfl, by kernel_rfl⟩, ⟨_, Try.func24, by kernel_rfl, by kernel_rfl⟩, ⟨_, Try.func25, by kernel_rfl, by kernel_rfl⟩, ⟨_, Try.func26, by kernel_rfl, by kernel_rfl⟩, ⟨_, Try.func27, by kernel_rfl, by kernel_rfl⟩, ⟨_, Try.func28, by kernel_rfl, by kernel_rfl⟩, ⟨_, Try.func29, by kernel_rfl, by kernel_rfl⟩, ⟨_, Try.func30, by kernel_rfl, by kernel_rfl⟩, ⟨_, Try.func31, by kernel_rfl, by kernel_rfl⟩, ⟨_, Try.func32, by kernel_rfl, by kernel_rfl⟩, ⟨_, Try.func33, by kernel_rfl, by kernel_rfl⟩, ⟨_, Try.func34, by kernel_rfl, by kernel_rfl⟩, ⟨_, Try.func35, by kernel_rfl, by kernel_rfl⟩, ⟨_, Try.func36, by kernel_rfl, by kernel_rfl⟩, ⟨_, Try.func37, by kernel_rfl, by kernel_rfl⟩, ⟨_, Try.func38, by kernel_rfl, by kernel_rfl⟩, ⟨_, Try.func39, by kernel_rfl, by kernel_rfl⟩, ⟨_, Try.func40, by kernel_rfl, by kernel_rfl⟩, ⟨_, Try.func41, by kernel_rfl, by kernel_rfl⟩, ⟨_, Try.func42, by kernel_rfl, by kernel_rfl⟩, ⟨_, Try.func43, by kernel_rfl, by kernel_rfl⟩, ⟨_, Try.func44, by kernel_rfl, by kernel_rfl⟩, ⟨_, Try.func46, by kernel_rfl, by kernel_rfl⟩, ⟨_, Try.func47, by kernel_rfl, by kernel_rfl⟩, ⟨_, Try.func48, by kernel_rfl, by kernel_rfl⟩, ⟨_, Try.func49, by kernel_rfl, by kernel_rfl⟩, trivial⟩

def tabL : TabL Try.prog := ⟨tabU, tabUOk, tabS, tabSOk, tabB, tabBOk, tabZ, tabZOk, tabE, tabEOk, tabF, tabFOk, by kernel_rfl⟩
def tab : Tab Try.prog := tabL.tab

theorem tsz7 : tab.sz 7 = 4 := rfl
theorem tsz13 : tab.sz 13 = 2 := rfl
theorem tsz18 : tab.sz 18 = 1 := rfl
theorem tsz36 : tab.sz 36 = 1 := rfl
theorem tsz37 : tab.sz 37 = 1 := rfl
theorem tsz56 : tab.sz 56 = 1 := rfl
theorem tsz57 : tab.sz 57 = 1 := rfl
theorem tsz63 : tab.sz 63 = 2 := rfl
theorem tsz64 : tab.sz 64 = 2 := rfl
theorem tsz73 : tab.sz 73 = 1 := rfl
theorem tsz74 : tab.sz 74 = 1 := rfl
theorem tsz78 : tab.sz 78 = 1 := rfl
theorem tsz79 : tab.sz 79 = 1 := rfl
theorem tsz85 : tab.sz 85 = 0 := rfl
theorem tsz86 : tab.sz 86 = 0 := rfl
theorem tsz95 : tab.sz 95 = 11 := rfl
theorem tbs22 : tab.bs 22 = 24 := rfl
theorem tbs23 : tab.bs 23 = 4 := rfl
theorem tbs64 : tab.bs 64 = 16 := rfl
theorem tsz22 : tab.sz 22 = 1 := rfl
theorem tsz23 : tab.sz 23 = 1 := rfl
end Go.Gh
