import Derived.Test.YtdfffblpnfkolaaGhZjn
import Derived.Test.YtdfffblpnfkolaaProg
import Derived.KernelRfl

/-! What the walks ask of this translation: types, sizes, zero values, functions. Printed by a program of these sessions. -/

namespace Go.Gh
open Go.Proofs

def tabU : List (Nat × TypeDesc) := [(2, .int .i64),
  (3, .int .i64),
  (4, .bool),
  (5, .int .u8),
  (7, .struct #[{ name := "x", type := 2, offset := 0, embedded := false, tag := "", pkgPath := "runtime", byteOffset := 0 }, { name := "y", type := 3, offset := 1, embedded := false, tag := "", pkgPath := "runtime", byteOffset := 8 }, { name := "signed", type := 4, offset := 2, embedded := false, tag := "", pkgPath := "runtime", byteOffset := 16 }, { name := "code", type := 6, offset := 3, embedded := false, tag := "", pkgPath := "runtime", byteOffset := 17 }]),
  (9, .string),
  (12, .int .u64),
  (13, .struct #[{ name := "msg", type := 9, offset := 0, embedded := false, tag := "", pkgPath := "runtime", byteOffset := 0 }, { name := "addr", type := 12, offset := 1, embedded := false, tag := "", pkgPath := "runtime", byteOffset := 16 }]),
  (18, .struct #[{ name := "typ", type := 17, offset := 0, embedded := false, tag := "", pkgPath := "internal/runtime/maps", byteOffset := 0 }]),
  (21, .int .i32),
  (22, .slice 24),
  (23, .slice 22),
  (24, .int .u32),
  (25, .pointer 59),
  (26, .pointer 30),
  (29, .struct #[{ name := "L", type := 22, offset := 0, embedded := false, tag := "", pkgPath := "", byteOffset := 0 }]),
  (30, .struct #[{ name := "L", type := 22, offset := 0, embedded := false, tag := "", pkgPath := "", byteOffset := 0 }]),
  (32, .int .u64),
  (33, .map 24 22),
  (40, .int .u64),
  (42, .int .i64),
  (44, .pointer 68),
  (46, .pointer 48),
  (47, .struct #[{ name := "S", type := 40, offset := 0, embedded := false, tag := "", pkgPath := "", byteOffset := 0 }]),
  (48, .struct #[{ name := "S", type := 40, offset := 0, embedded := false, tag := "", pkgPath := "", byteOffset := 0 }]),
  (58, .struct #[{ name := "l", type := 22, offset := 0, embedded := false, tag := "", pkgPath := "petasos/ring", byteOffset := 0 }]),
  (59, .struct #[{ name := "l", type := 22, offset := 0, embedded := false, tag := "", pkgPath := "petasos/ring", byteOffset := 0 }]),
  (64, .struct #[{ name := "Point", type := 24, offset := 0, embedded := false, tag := "", pkgPath := "", byteOffset := 0 }, { name := "Entries", type := 3, offset := 1, embedded := false, tag := "", pkgPath := "", byteOffset := 8 }]),
  (65, .struct #[{ name := "Point", type := 24, offset := 0, embedded := false, tag := "", pkgPath := "", byteOffset := 0 }, { name := "Entries", type := 3, offset := 1, embedded := false, tag := "", pkgPath := "", byteOffset := 8 }]),
  (66, .slice 65),
  (67, .struct #[{ name := "state", type := 40, offset := 0, embedded := false, tag := "", pkgPath := "petasos/dice", byteOffset := 0 }]),
  (68, .struct #[{ name := "state", type := 40, offset := 0, embedded := false, tag := "", pkgPath := "petasos/dice", byteOffset := 0 }]),
  (77, .array 0 16),
  (78, .struct #[{ name := "_", type := 77, offset := 0, embedded := false, tag := "", pkgPath := "runtime", byteOffset := 0 }]),
  (84, .pointer 5),
  (87, .struct #[{ name := "Size_", type := 12, offset := 0, embedded := false, tag := "", pkgPath := "", byteOffset := 0 }, { name := "PtrBytes", type := 12, offset := 1, embedded := false, tag := "", pkgPath := "", byteOffset := 8 }, { name := "Hash", type := 24, offset := 2, embedded := false, tag := "", pkgPath := "", byteOffset := 16 }, { name := "TFlag", type := 81, offset := 3, embedded := false, tag := "", pkgPath := "", byteOffset := 20 }, { name := "Align_", type := 5, offset := 4, embedded := false, tag := "", pkgPath := "", byteOffset := 21 }, { name := "FieldAlign_", type := 5, offset := 5, embedded := false, tag := "", pkgPath := "", byteOffset := 22 }, { name := "Kind_", type := 82, offset := 6, embedded := false, tag := "", pkgPath := "", byteOffset := 23 }, { name := "Equal", type := 83, offset := 7, embedded := false, tag := "", pkgPath := "", byteOffset := 24 }, { name := "GCData", type := 84, offset := 8, embedded := false, tag := "", pkgPath := "", byteOffset := 32 }, { name := "Str", type := 85, offset := 9, embedded := false, tag := "", pkgPath := "", byteOffset := 40 }, { name := "PtrToThis", type := 86, offset := 10, embedded := false, tag := "", pkgPath := "", byteOffset := 44 }])]
theorem tabUOk : AllP (fun p => Try.prog.underlying p.1 = some p.2) tabU := ⟨Try.underlying2, Try.underlying3, Try.underlying4, Try.underlying5, Try.underlying7, Try.underlying9, Try.underlying12, Try.underlying13, Try.underlying18, Try.underlying21, Try.underlying22, Try.underlying23, Try.underlying24, Try.underlying25, Try.underlying26, Try.underlying29, Try.underlying30, Try.underlying32, Try.underlying33, Try.underlying40, Try.underlying42, Try.underlying44, Try.underlying46, Try.underlying47, Try.underlying48, Try.underlying58, Try.underlying59, Try.underlying64, Try.underlying65, Try.underlying66, Try.underlying67, Try.underlying68, Try.underlying77, Try.underlying78, Try.underlying84, Try.underlying87, trivial⟩

def tabS : List (Nat × Nat) := [(2, 1),
  (3, 1),
  (4, 1),
  (5, 1),
  (7, 4),
  (9, 1),
  (12, 1),
  (13, 2),
  (18, 1),
  (21, 1),
  (22, 1),
  (23, 1),
  (24, 1),
  (25, 1),
  (26, 1),
  (29, 1),
  (30, 1),
  (32, 1),
  (33, 1),
  (40, 1),
  (42, 1),
  (44, 1),
  (46, 1),
  (47, 1),
  (48, 1),
  (58, 1),
  (59, 1),
  (64, 2),
  (65, 2),
  (66, 1),
  (67, 1),
  (68, 1),
  (77, 0),
  (78, 0),
  (84, 1),
  (87, 11)]
theorem tabSOk : AllP (fun p => Try.prog.cellsOf p.1 = p.2) tabS := ⟨(show Try.prog.cellsOf 2 = 1 by kernel_rfl), (show Try.prog.cellsOf 3 = 1 by kernel_rfl), (show Try.prog.cellsOf 4 = 1 by kernel_rfl), (show Try.prog.cellsOf 5 = 1 by kernel_rfl), (show Try.prog.cellsOf 7 = 4 by kernel_rfl), (show Try.prog.cellsOf 9 = 1 by kernel_rfl), (show Try.prog.cellsOf 12 = 1 by kernel_rfl), (show Try.prog.cellsOf 13 = 2 by kernel_rfl), (show Try.prog.cellsOf 18 = 1 by kernel_rfl), (show Try.prog.cellsOf 21 = 1 by kernel_rfl), (show Try.prog.cellsOf 22 = 1 by kernel_rfl), (show Try.prog.cellsOf 23 = 1 by kernel_rfl), (show Try.prog.cellsOf 24 = 1 by kernel_rfl), (show Try.prog.cellsOf 25 = 1 by kernel_rfl), (show Try.prog.cellsOf 26 = 1 by kernel_rfl), (show Try.prog.cellsOf 29 = 1 by kernel_rfl), (show Try.prog.cellsOf 30 = 1 by kernel_rfl), (show Try.prog.cellsOf 32 = 1 by kernel_rfl), (show Try.prog.cellsOf 33 = 1 by kernel_rfl), (show Try.prog.cellsOf 40 = 1 by kernel_rfl), (show Try.prog.cellsOf 42 = 1 by kernel_rfl), (show Try.prog.cellsOf 44 = 1 by kernel_rfl), (show Try.prog.cellsOf 46 = 1 by kernel_rfl), (show Try.prog.cellsOf 47 = 1 by kernel_rfl), (show Try.prog.cellsOf 48 = 1 by kernel_rfl), (show Try.prog.cellsOf 58 = 1 by kernel_rfl), (show Try.prog.cellsOf 59 = 1 by kernel_rfl), (show Try.prog.cellsOf 64 = 2 by kernel_rfl), (show Try.prog.cellsOf 65 = 2 by kernel_rfl), (show Try.prog.cellsOf 66 = 1 by kernel_rfl), (show Try.prog.cellsOf 67 = 1 by kernel_rfl), (show Try.prog.cellsOf 68 = 1 by kernel_rfl), (show Try.prog.cellsOf 77 = 0 by kernel_rfl), (show Try.prog.cellsOf 78 = 0 by kernel_rfl), (show Try.prog.cellsOf 84 = 1 by kernel_rfl), (show Try.prog.cellsOf 87 = 11 by kernel_rfl), trivial⟩

def tabB : List (Nat × Nat) := [(2, 8),
  (3, 8),
  (4, 1),
  (5, 1),
  (7, 24),
  (9, 16),
  (12, 8),
  (13, 24),
  (18, 8),
  (21, 4),
  (22, 24),
  (23, 24),
  (24, 4),
  (25, 8),
  (26, 8),
  (29, 24),
  (30, 24),
  (32, 8),
  (33, 8),
  (40, 8),
  (42, 8),
  (44, 8),
  (46, 8),
  (47, 8),
  (48, 8),
  (58, 24),
  (59, 24),
  (64, 16),
  (65, 16),
  (66, 24),
  (67, 8),
  (68, 8),
  (77, 0),
  (78, 0),
  (84, 8),
  (87, 48)]
theorem tabBOk : AllP (fun p => Try.prog.bytesOf p.1 = p.2) tabB := ⟨(show Try.prog.bytesOf 2 = 8 by kernel_rfl), (show Try.prog.bytesOf 3 = 8 by kernel_rfl), (show Try.prog.bytesOf 4 = 1 by kernel_rfl), (show Try.prog.bytesOf 5 = 1 by kernel_rfl), (show Try.prog.bytesOf 7 = 24 by kernel_rfl), (show Try.prog.bytesOf 9 = 16 by kernel_rfl), (show Try.prog.bytesOf 12 = 8 by kernel_rfl), (show Try.prog.bytesOf 13 = 24 by kernel_rfl), (show Try.prog.bytesOf 18 = 8 by kernel_rfl), (show Try.prog.bytesOf 21 = 4 by kernel_rfl), (show Try.prog.bytesOf 22 = 24 by kernel_rfl), (show Try.prog.bytesOf 23 = 24 by kernel_rfl), (show Try.prog.bytesOf 24 = 4 by kernel_rfl), (show Try.prog.bytesOf 25 = 8 by kernel_rfl), (show Try.prog.bytesOf 26 = 8 by kernel_rfl), (show Try.prog.bytesOf 29 = 24 by kernel_rfl), (show Try.prog.bytesOf 30 = 24 by kernel_rfl), (show Try.prog.bytesOf 32 = 8 by kernel_rfl), (show Try.prog.bytesOf 33 = 8 by kernel_rfl), (show Try.prog.bytesOf 40 = 8 by kernel_rfl), (show Try.prog.bytesOf 42 = 8 by kernel_rfl), (show Try.prog.bytesOf 44 = 8 by kernel_rfl), (show Try.prog.bytesOf 46 = 8 by kernel_rfl), (show Try.prog.bytesOf 47 = 8 by kernel_rfl), (show Try.prog.bytesOf 48 = 8 by kernel_rfl), (show Try.prog.bytesOf 58 = 24 by kernel_rfl), (show Try.prog.bytesOf 59 = 24 by kernel_rfl), (show Try.prog.bytesOf 64 = 16 by kernel_rfl), (show Try.prog.bytesOf 65 = 16 by kernel_rfl), (show Try.prog.bytesOf 66 = 24 by kernel_rfl), (show Try.prog.bytesOf 67 = 8 by kernel_rfl), (show Try.prog.bytesOf 68 = 8 by kernel_rfl), (show Try.prog.bytesOf 77 = 0 by kernel_rfl), (show Try.prog.bytesOf 78 = 0 by kernel_rfl), (show Try.prog.bytesOf 84 = 8 by kernel_rfl), (show Try.prog.bytesOf 87 = 48 by kernel_rfl), trivial⟩

def tabZ : List (Nat × Value) := [(2, .int .i64 0),
  (3, .int .i64 0),
  (4, .bool false),
  (5, .int .u8 0),
  (7, .agg #[.int .i64 0, .int .i64 0, .bool false, .int .u8 0]),
  (9, .string ⟨#[]⟩),
  (12, .int .u64 0),
  (13, .agg #[.string ⟨#[]⟩, .int .u64 0]),
  (18, .agg #[.pointer none]),
  (21, .int .i32 0),
  (22, .slice none 0 0),
  (23, .slice none 0 0),
  (24, .int .u32 0),
  (25, .pointer none),
  (26, .pointer none),
  (29, .agg #[.slice none 0 0]),
  (30, .agg #[.slice none 0 0]),
  (32, .int .u64 0),
  (33, .map none),
  (40, .int .u64 0),
  (42, .int .i64 0),
  (44, .pointer none),
  (46, .pointer none),
  (47, .agg #[.int .u64 0]),
  (48, .agg #[.int .u64 0]),
  (58, .agg #[.slice none 0 0]),
  (59, .agg #[.slice none 0 0]),
  (64, .agg #[.int .u32 0, .int .i64 0]),
  (65, .agg #[.int .u32 0, .int .i64 0]),
  (66, .slice none 0 0),
  (67, .agg #[.int .u64 0]),
  (68, .agg #[.int .u64 0]),
  (77, .agg #[]),
  (78, .agg #[]),
  (84, .pointer none),
  (87, .agg #[.int .u64 0, .int .u64 0, .int .u32 0, .int .u8 0, .int .u8 0, .int .u8 0, .int .u8 0, .nilFunc, .pointer none, .int .i32 0, .int .i32 0])]
theorem tabZOk : AllP (fun p => zeroOf Try.prog p.1 = some p.2) tabZ := ⟨(show zeroOf Try.prog 2 = some (.int .i64 0) by kernel_rfl), (show zeroOf Try.prog 3 = some (.int .i64 0) by kernel_rfl), (show zeroOf Try.prog 4 = some (.bool false) by kernel_rfl), (show zeroOf Try.prog 5 = some (.int .u8 0) by kernel_rfl), (show zeroOf Try.prog 7 = some (.agg #[.int .i64 0, .int .i64 0, .bool false, .int .u8 0]) by kernel_rfl), (show zeroOf Try.prog 9 = some (.string ⟨#[]⟩) by kernel_rfl), (show zeroOf Try.prog 12 = some (.int .u64 0) by kernel_rfl), (show zeroOf Try.prog 13 = some (.agg #[.string ⟨#[]⟩, .int .u64 0]) by kernel_rfl), (show zeroOf Try.prog 18 = some (.agg #[.pointer none]) by kernel_rfl), (show zeroOf Try.prog 21 = some (.int .i32 0) by kernel_rfl), (show zeroOf Try.prog 22 = some (.slice none 0 0) by kernel_rfl), (show zeroOf Try.prog 23 = some (.slice none 0 0) by kernel_rfl), (show zeroOf Try.prog 24 = some (.int .u32 0) by kernel_rfl), (show zeroOf Try.prog 25 = some (.pointer none) by kernel_rfl), (show zeroOf Try.prog 26 = some (.pointer none) by kernel_rfl), (show zeroOf Try.prog 29 = some (.agg #[.slice none 0 0]) by kernel_rfl), (show zeroOf Try.prog 30 = some (.agg #[.slice none 0 0]) by kernel_rfl), (show zeroOf Try.prog 32 = some (.int .u64 0) by kernel_rfl), (show zeroOf Try.prog 33 = some (.map none) by kernel_rfl), (show zeroOf Try.prog 40 = some (.int .u64 0) by kernel_rfl), (show zeroOf Try.prog 42 = some (.int .i64 0) by kernel_rfl), (show zeroOf Try.prog 44 = some (.pointer none) by kernel_rfl), (show zeroOf Try.prog 46 = some (.pointer none) by kernel_rfl), (show zeroOf Try.prog 47 = some (.agg #[.int .u64 0]) by kernel_rfl), (show zeroOf Try.prog 48 = some (.agg #[.int .u64 0]) by kernel_rfl), (show zeroOf Try.prog 58 = some (.agg #[.slice none 0 0]) by kernel_rfl), (show zeroOf Try.prog 59 = some (.agg #[.slice none 0 0]) by kernel_rfl), (show zeroOf Try.prog 64 = some (.agg #[.int .u32 0, .int .i64 0]) by kernel_rfl), (show zeroOf Try.prog 65 = some (.agg #[.int .u32 0, .int .i64 0]) by kernel_rfl), (show zeroOf Try.prog 66 = some (.slice none 0 0) by kernel_rfl), (show zeroOf Try.prog 67 = some (.agg #[.int .u64 0]) by kernel_rfl), (show zeroOf Try.prog 68 = some (.agg #[.int .u64 0]) by kernel_rfl), (show zeroOf Try.prog 77 = some (.agg #[]) by kernel_rfl), (show zeroOf Try.prog 78 = some (.agg #[]) by kernel_rfl), (show zeroOf Try.prog 84 = some (.pointer none) by kernel_rfl), (show zeroOf Try.prog 87 = some (.agg #[.int .u64 0, .int .u64 0, .int .u32 0, .int .u8 0, .int .u8 0, .int .u8 0, .int .u8 0, .nilFunc, .pointer none, .int .i32 0, .int .i32 0]) by kernel_rfl), trivial⟩

def tabE : List Nat := [48, 65, 68]
theorem tabEOk : AllP (fun t => Try.prog.eqGuardType Try.prog.depth t = false ∧ Try.prog.stoodInHeld t = false) tabE := ⟨⟨by kernel_rfl, by kernel_rfl⟩, ⟨by kernel_rfl, by kernel_rfl⟩, ⟨by kernel_rfl, by kernel_rfl⟩, trivial⟩

def tabF : List Nat := [3, 4, 5, 6, 7, 8, 9, 10, 11, 12, 13, 14, 15, 16, 17, 18, 19, 20, 21, 22, 23, 24, 25, 26, 27, 28, 29, 30, 31, 32, 33, 34, 35, 37, 38, 39, 40]
theorem tabFOk : AllP (fun f => ∃ c, Try.prog.funcs[f]? = some c ∧ c.body.isSome = true ∧ (c.name == "runtime.NumGoroutine") = false) tabF := ⟨⟨_, Try.func3, by kernel_rfl, by kernel_rfl⟩, ⟨_, Try.func4, by kernel_rfl, by kernel_rfl⟩, ⟨_, Try.func5, by kernel_rfl, by kernel_rfl⟩, ⟨_, Try.func6, by kernel_rfl, by kernel_rfl⟩, ⟨_, Try.func7, by kernel_rfl, by kernel_rfl⟩, ⟨_, Try.func8, by kernel_rfl, by kernel_rfl⟩, ⟨_, Try.func9, by kernel_rfl, by kernel_rfl⟩, ⟨_, Try.func10, by kernel_rfl, by kernel_rfl⟩, ⟨_, Try.func11, by kernel_rfl, by kernel_rfl⟩, ⟨_, Try.func12, by kernel_rfl, by kernel_rfl⟩, ⟨_, Try.func13, by kernel_rfl, by kernel_rfl⟩, ⟨_, Try.func14, by kernel_rfl, by kernel_rfl⟩, ⟨_, Try.func15, by kernel_rfl, by kernel_rfl⟩, ⟨_, Try.func16, by kernel_rfl, by kernel_rfl⟩, ⟨_, Try.func17, by kernel_rfl, by kernel_rfl⟩, ⟨_, Try.func18, by kernel_rfl, by kernel_rfl⟩, ⟨_, Try.func19, by kernel_rfl, by kernel_rfl⟩, ⟨_, Try.func20, by kernel_rfl, by kernel_rfl⟩, ⟨_, Try.func21, by kernel_rfl, by kernel_rfl⟩, ⟨_, Try.func22, by kernel_rfl, by kernel_rfl⟩, ⟨_, Try.func23, by kernel_rfl, by kernel_rfl⟩, ⟨_, Try.func24, by kernel_rfl, by kernel_rfl⟩, ⟨_, Try.func25, by kernel_rfl, by kernel_rfl⟩, ⟨_, Try.func26, by kernel_rfl, by kernel_rfl⟩, ⟨_, Try.func27, by kernel_rfl, by kernel_rfl⟩, ⟨_, Try.func28, by kernel_rfl, by kernel_rfl⟩, ⟨_, Try.func29, by kernel_rfl, by kernel_rfl⟩, ⟨_, Try.func30, by kernel_rfl, by kernel_rfl⟩, ⟨_, Try.func31, by kernel_rfl, by kernel_rfl⟩, ⟨_, Try.func32, by kernel_rfl, by kernel_rfl⟩, ⟨_, Try.func33, by kernel_rfl, by kernel_rfl⟩, ⟨_, Try.func34, by kernel_rfl, by kernel_rfl⟩, ⟨_, Try.func35, by kernel_rfl, by kernel_rfl⟩, ⟨_, Try.func37, by kernel_rfl, by kernel_rfl⟩, ⟨_, Try.func38, by kernel_rfl, by kernel_rfl⟩, ⟨_, Try.func39, by kernel_rfl, by kernel_rfl⟩, ⟨_, Try.func40, by kernel_rfl, by kernel_rfl⟩, trivial⟩

def tabL : TabL Try.prog := ⟨tabU, tabUOk, tabS, tabSOk, tabB, tabBOk, tabZ, tabZOk, tabE, tabEOk, tabF, tabFOk, by kernel_rfl⟩
def tab : Tab Try.prog := tabL.tab

theorem tsz7 : tab.sz 7 = 4 := rfl
theorem tsz13 : tab.sz 13 = 2 := rfl
theorem tsz18 : tab.sz 18 = 1 := rfl
theorem tsz29 : tab.sz 29 = 1 := rfl
theorem tsz30 : tab.sz 30 = 1 := rfl
theorem tsz47 : tab.sz 47 = 1 := rfl
theorem tsz48 : tab.sz 48 = 1 := rfl
theorem tsz58 : tab.sz 58 = 1 := rfl
theorem tsz59 : tab.sz 59 = 1 := rfl
theorem tsz64 : tab.sz 64 = 2 := rfl
theorem tsz65 : tab.sz 65 = 2 := rfl
theorem tsz67 : tab.sz 67 = 1 := rfl
theorem tsz68 : tab.sz 68 = 1 := rfl
theorem tsz77 : tab.sz 77 = 0 := rfl
theorem tsz78 : tab.sz 78 = 0 := rfl
theorem tsz87 : tab.sz 87 = 11 := rfl
theorem tbs22 : tab.bs 22 = 24 := rfl
theorem tbs24 : tab.bs 24 = 4 := rfl
theorem tbs65 : tab.bs 65 = 16 := rfl
theorem tsz22 : tab.sz 22 = 1 := rfl
theorem tsz24 : tab.sz 24 = 1 := rfl
end Go.Gh
