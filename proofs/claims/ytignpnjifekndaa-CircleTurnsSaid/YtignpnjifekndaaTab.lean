import Derived.Test.YtignpnjifekndaaGhZg
import Derived.Test.YtignpnjifekndaaProg
import Derived.KernelRfl

/-! What the walks ask of this translation: types, sizes, zero values, functions. Printed by a program of these sessions. -/

namespace Go.Gh
open Go.Proofs

def tabU : List (Nat × TypeDesc) := [(2, .int .i64),
  (3, .int .i64),
  (4, .bool),
  (5, .int .u8),
  (7, .struct #[{ name := "x", type := 2, offset := 0, embedded := false, tag := "", pkgPath := "runtime", byteOffset := 0 }, { name := "y", type := 3, offset := 1, embedded := false, tag := "", pkgPath := "runtime", byteOffset := 8 }, { name := "signed", type := 4, offset := 2, embedded := false, tag := "", pkgPath := "runtime", byteOffset := 16 }, { name := "code", type := 6, offset := 3, embedded := false, tag := "", pkgPath := "runtime", byteOffset := 17 }]),
  (9, .string),
  (12, .int .u64),
  (13, .struct #[{ name := "msg", type := 9, offset := 0, embedded := false, tag := "", pkgPath := "runtime", byteOffset := 0 }, { name := "addr", type := 12, offset := 1, embedded := false, tag := "", pkgPath := "runtime", byteOffset := 16 }]),
  (18, .struct #[{ name := "typ", type := 17, offset := 0, embedded := false, tag := "", pkgPath := "internal/runtime/maps", byteOffset := 0 }]),
  (21, .int .i32),
  (22, .int .u32),
  (23, .struct #[{ name := "From", type := 22, offset := 0, embedded := false, tag := "", pkgPath := "", byteOffset := 0 }, { name := "To", type := 22, offset := 1, embedded := false, tag := "", pkgPath := "", byteOffset := 4 }]),
  (24, .struct #[{ name := "From", type := 22, offset := 0, embedded := false, tag := "", pkgPath := "", byteOffset := 0 }, { name := "To", type := 22, offset := 1, embedded := false, tag := "", pkgPath := "", byteOffset := 4 }]),
  (27, .int .u64),
  (32, .slice 3),
  (33, .pointer 52),
  (35, .pointer 37),
  (36, .struct #[{ name := "S", type := 27, offset := 0, embedded := false, tag := "", pkgPath := "", byteOffset := 0 }]),
  (37, .struct #[{ name := "S", type := 27, offset := 0, embedded := false, tag := "", pkgPath := "", byteOffset := 0 }]),
  (43, .int .u64),
  (46, .slice 24),
  (51, .struct #[{ name := "state", type := 27, offset := 0, embedded := false, tag := "", pkgPath := "petasos/dice", byteOffset := 0 }]),
  (52, .struct #[{ name := "state", type := 27, offset := 0, embedded := false, tag := "", pkgPath := "petasos/dice", byteOffset := 0 }]),
  (54, .slice 65),
  (61, .slice 67),
  (64, .struct #[{ name := "From", type := 27, offset := 0, embedded := false, tag := "", pkgPath := "", byteOffset := 0 }, { name := "To", type := 27, offset := 1, embedded := false, tag := "", pkgPath := "", byteOffset := 8 }]),
  (65, .struct #[{ name := "From", type := 27, offset := 0, embedded := false, tag := "", pkgPath := "", byteOffset := 0 }, { name := "To", type := 27, offset := 1, embedded := false, tag := "", pkgPath := "", byteOffset := 8 }]),
  (66, .struct #[{ name := "A", type := 27, offset := 0, embedded := false, tag := "", pkgPath := "", byteOffset := 0 }, { name := "B", type := 27, offset := 1, embedded := false, tag := "", pkgPath := "", byteOffset := 8 }]),
  (67, .struct #[{ name := "A", type := 27, offset := 0, embedded := false, tag := "", pkgPath := "", byteOffset := 0 }, { name := "B", type := 27, offset := 1, embedded := false, tag := "", pkgPath := "", byteOffset := 8 }]),
  (71, .array 0 16),
  (72, .struct #[{ name := "_", type := 71, offset := 0, embedded := false, tag := "", pkgPath := "runtime", byteOffset := 0 }]),
  (78, .pointer 5),
  (81, .struct #[{ name := "Size_", type := 12, offset := 0, embedded := false, tag := "", pkgPath := "", byteOffset := 0 }, { name := "PtrBytes", type := 12, offset := 1, embedded := false, tag := "", pkgPath := "", byteOffset := 8 }, { name := "Hash", type := 22, offset := 2, embedded := false, tag := "", pkgPath := "", byteOffset := 16 }, { name := "TFlag", type := 75, offset := 3, embedded := false, tag := "", pkgPath := "", byteOffset := 20 }, { name := "Align_", type := 5, offset := 4, embedded := false, tag := "", pkgPath := "", byteOffset := 21 }, { name := "FieldAlign_", type := 5, offset := 5, embedded := false, tag := "", pkgPath := "", byteOffset := 22 }, { name := "Kind_", type := 76, offset := 6, embedded := false, tag := "", pkgPath := "", byteOffset := 23 }, { name := "Equal", type := 77, offset := 7, embedded := false, tag := "", pkgPath := "", byteOffset := 24 }, { name := "GCData", type := 78, offset := 8, embedded := false, tag := "", pkgPath := "", byteOffset := 32 }, { name := "Str", type := 79, offset := 9, embedded := false, tag := "", pkgPath := "", byteOffset := 40 }, { name := "PtrToThis", type := 80, offset := 10, embedded := false, tag := "", pkgPath := "", byteOffset := 44 }])]
theorem tabUOk : AllP (fun p => Try.prog.underlying p.1 = some p.2) tabU := ⟨Try.underlying2, Try.underlying3, Try.underlying4, Try.underlying5, Try.underlying7, Try.underlying9, Try.underlying12, Try.underlying13, Try.underlying18, Try.underlying21, Try.underlying22, Try.underlying23, Try.underlying24, Try.underlying27, Try.underlying32, Try.underlying33, Try.underlying35, Try.underlying36, Try.underlying37, Try.underlying43, Try.underlying46, Try.underlying51, Try.underlying52, Try.underlying54, Try.underlying61, Try.underlying64, Try.underlying65, Try.underlying66, Try.underlying67, Try.underlying71, Try.underlying72, Try.underlying78, Try.underlying81, trivial⟩

def tabS : List (Nat × Nat) := [(2, 1),
  (3, 1),
  (4, 1),
  (5, 1),
  (7, 4),
  (9, 1),
  (12, 1),
  (13, 2),
  (18, 1),
  (21, 1),
  (22, 1),
  (23, 2),
  (24, 2),
  (27, 1),
  (32, 1),
  (33, 1),
  (35, 1),
  (36, 1),
  (37, 1),
  (43, 1),
  (46, 1),
  (51, 1),
  (52, 1),
  (54, 1),
  (61, 1),
  (64, 2),
  (65, 2),
  (66, 2),
  (67, 2),
  (71, 0),
  (72, 0),
  (78, 1),
  (81, 11)]
theorem tabSOk : AllP (fun p => Try.prog.cellsOf p.1 = p.2) tabS := ⟨(show Try.prog.cellsOf 2 = 1 by kernel_rfl), (show Try.prog.cellsOf 3 = 1 by kernel_rfl), (show Try.prog.cellsOf 4 = 1 by kernel_rfl), (show Try.prog.cellsOf 5 = 1 by kernel_rfl), (show Try.prog.cellsOf 7 = 4 by kernel_rfl), (show Try.prog.cellsOf 9 = 1 by kernel_rfl), (show Try.prog.cellsOf 12 = 1 by kernel_rfl), (show Try.prog.cellsOf 13 = 2 by kernel_rfl), (show Try.prog.cellsOf 18 = 1 by kernel_rfl), (show Try.prog.cellsOf 21 = 1 by kernel_rfl), (show Try.prog.cellsOf 22 = 1 by kernel_rfl), (show Try.prog.cellsOf 23 = 2 by kernel_rfl), (show Try.prog.cellsOf 24 = 2 by kernel_rfl), (show Try.prog.cellsOf 27 = 1 by kernel_rfl), (show Try.prog.cellsOf 32 = 1 by kernel_rfl), (show Try.prog.cellsOf 33 = 1 by kernel_rfl), (show Try.prog.cellsOf 35 = 1 by kernel_rfl), (show Try.prog.cellsOf 36 = 1 by kernel_rfl), (show Try.prog.cellsOf 37 = 1 by kernel_rfl), (show Try.prog.cellsOf 43 = 1 by kernel_rfl), (show Try.prog.cellsOf 46 = 1 by kernel_rfl), (show Try.prog.cellsOf 51 = 1 by kernel_rfl), (show Try.prog.cellsOf 52 = 1 by kernel_rfl), (show Try.prog.cellsOf 54 = 1 by kernel_rfl), (show Try.prog.cellsOf 61 = 1 by kernel_rfl), (show Try.prog.cellsOf 64 = 2 by kernel_rfl), (show Try.prog.cellsOf 65 = 2 by kernel_rfl), (show Try.prog.cellsOf 66 = 2 by kernel_rfl), (show Try.prog.cellsOf 67 = 2 by kernel_rfl), (show Try.prog.cellsOf 71 = 0 by kernel_rfl), (show Try.prog.cellsOf 72 = 0 by kernel_rfl), (show Try.prog.cellsOf 78 = 1 by kernel_rfl), (show Try.prog.cellsOf 81 = 11 by kernel_rfl), trivial⟩

def tabB : List (Nat × Nat) := [(2, 8),
  (3, 8),
  (4, 1),
  (5, 1),
  (7, 24),
  (9, 16),
  (12, 8),
  (13, 24),
  (18, 8),
  (21, 4),
  (22, 4),
  (23, 8),
  (24, 8),
  (27, 8),
  (32, 24),
  (33, 8),
  (35, 8),
  (36, 8),
  (37, 8),
  (43, 8),
  (46, 24),
  (51, 8),
  (52, 8),
  (54, 24),
  (61, 24),
  (64, 16),
  (65, 16),
  (66, 16),
  (67, 16),
  (71, 0),
  (72, 0),
  (78, 8),
  (81, 48)]
theorem tabBOk : AllP (fun p => Try.prog.bytesOf p.1 = p.2) tabB := ⟨(show Try.prog.bytesOf 2 = 8 by kernel_rfl), (show Try.prog.bytesOf 3 = 8 by kernel_rfl), (show Try.prog.bytesOf 4 = 1 by kernel_rfl), (show Try.prog.bytesOf 5 = 1 by kernel_rfl), (show Try.prog.bytesOf 7 = 24 by kernel_rfl), (show Try.prog.bytesOf 9 = 16 by kernel_rfl), (show Try.prog.bytesOf 12 = 8 by kernel_rfl), (show Try.prog.bytesOf 13 = 24 by kernel_rfl), (show Try.prog.bytesOf 18 = 8 by kernel_rfl), (show Try.prog.bytesOf 21 = 4 by kernel_rfl), (show Try.prog.bytesOf 22 = 4 by kernel_rfl), (show Try.prog.bytesOf 23 = 8 by kernel_rfl), (show Try.prog.bytesOf 24 = 8 by kernel_rfl), (show Try.prog.bytesOf 27 = 8 by kernel_rfl), (show Try.prog.bytesOf 32 = 24 by kernel_rfl), (show Try.prog.bytesOf 33 = 8 by kernel_rfl), (show Try.prog.bytesOf 35 = 8 by kernel_rfl), (show Try.prog.bytesOf 36 = 8 by kernel_rfl), (show Try.prog.bytesOf 37 = 8 by kernel_rfl), (show Try.prog.bytesOf 43 = 8 by kernel_rfl), (show Try.prog.bytesOf 46 = 24 by kernel_rfl), (show Try.prog.bytesOf 51 = 8 by kernel_rfl), (show Try.prog.bytesOf 52 = 8 by kernel_rfl), (show Try.prog.bytesOf 54 = 24 by kernel_rfl), (show Try.prog.bytesOf 61 = 24 by kernel_rfl), (show Try.prog.bytesOf 64 = 16 by kernel_rfl), (show Try.prog.bytesOf 65 = 16 by kernel_rfl), (show Try.prog.bytesOf 66 = 16 by kernel_rfl), (show Try.prog.bytesOf 67 = 16 by kernel_rfl), (show Try.prog.bytesOf 71 = 0 by kernel_rfl), (show Try.prog.bytesOf 72 = 0 by kernel_rfl), (show Try.prog.bytesOf 78 = 8 by kernel_rfl), (show Try.prog.bytesOf 81 = 48 by kernel_rfl), trivial⟩

def tabZ : List (Nat × Value) := [(2, .int .i64 0),
  (3, .int .i64 0),
  (4, .bool false),
  (5, .int .u8 0),
  (7, .agg #[.int .i64 0, .int .i64 0, .bool false, .int .u8 0]),
  (9, .string ⟨#[]⟩),
  (12, .int .u64 0),
  (13, .agg #[.string ⟨#[]⟩, .int .u64 0]),
  (18, .agg #[.pointer none]),
  (21, .int .i32 0),
  (22, .int .u32 0),
  (23, .agg #[.int .u32 0, .int .u32 0]),
  (24, .agg #[.int .u32 0, .int .u32 0]),
  (27, .int .u64 0),
  (32, .slice none 0 0),
  (33, .pointer none),
  (35, .pointer none),
  (36, .agg #[.int .u64 0]),
  (37, .agg #[.int .u64 0]),
  (43, .int .u64 0),
  (46, .slice none 0 0),
  (51, .agg #[.int .u64 0]),
  (52, .agg #[.int .u64 0]),
  (54, .slice none 0 0),
  (61, .slice none 0 0),
  (64, .agg #[.int .u64 0, .int .u64 0]),
  (65, .agg #[.int .u64 0, .int .u64 0]),
  (66, .agg #[.int .u64 0, .int .u64 0]),
  (67, .agg #[.int .u64 0, .int .u64 0]),
  (71, .agg #[]),
  (72, .agg #[]),
  (78, .pointer none),
  (81, .agg #[.int .u64 0, .int .u64 0, .int .u32 0, .int .u8 0, .int .u8 0, .int .u8 0, .int .u8 0, .nilFunc, .pointer none, .int .i32 0, .int .i32 0])]
theorem tabZOk : AllP (fun p => zeroOf Try.prog p.1 = some p.2) tabZ := ⟨(show zeroOf Try.prog 2 = some (.int .i64 0) by kernel_rfl), (show zeroOf Try.prog 3 = some (.int .i64 0) by kernel_rfl), (show zeroOf Try.prog 4 = some (.bool false) by kernel_rfl), (show zeroOf Try.prog 5 = some (.int .u8 0) by kernel_rfl), (show zeroOf Try.prog 7 = some (.agg #[.int .i64 0, .int .i64 0, .bool false, .int .u8 0]) by kernel_rfl), (show zeroOf Try.prog 9 = some (.string ⟨#[]⟩) by kernel_rfl), (show zeroOf Try.prog 12 = some (.int .u64 0) by kernel_rfl), (show zeroOf Try.prog 13 = some (.agg #[.string ⟨#[]⟩, .int .u64 0]) by kernel_rfl), (show zeroOf Try.prog 18 = some (.agg #[.pointer none]) by kernel_rfl), (show zeroOf Try.prog 21 = some (.int .i32 0) by kernel_rfl), (show zeroOf Try.prog 22 = some (.int .u32 0) by kernel_rfl), (show zeroOf Try.prog 23 = some (.agg #[.int .u32 0, .int .u32 0]) by kernel_rfl), (show zeroOf Try.prog 24 = some (.agg #[.int .u32 0, .int .u32 0]) by kernel_rfl), (show zeroOf Try.prog 27 = some (.int .u64 0) by kernel_rfl), (show zeroOf Try.prog 32 = some (.slice none 0 0) by kernel_rfl), (show zeroOf Try.prog 33 = some (.pointer none) by kernel_rfl), (show zeroOf Try.prog 35 = some (.pointer none) by kernel_rfl), (show zeroOf Try.prog 36 = some (.agg #[.int .u64 0]) by kernel_rfl), (show zeroOf Try.prog 37 = some (.agg #[.int .u64 0]) by kernel_rfl), (show zeroOf Try.prog 43 = some (.int .u64 0) by kernel_rfl), (show zeroOf Try.prog 46 = some (.slice none 0 0) by kernel_rfl), (show zeroOf Try.prog 51 = some (.agg #[.int .u64 0]) by kernel_rfl), (show zeroOf Try.prog 52 = some (.agg #[.int .u64 0]) by kernel_rfl), (show zeroOf Try.prog 54 = some (.slice none 0 0) by kernel_rfl), (show zeroOf Try.prog 61 = some (.slice none 0 0) by kernel_rfl), (show zeroOf Try.prog 64 = some (.agg #[.int .u64 0, .int .u64 0]) by kernel_rfl), (show zeroOf Try.prog 65 = some (.agg #[.int .u64 0, .int .u64 0]) by kernel_rfl), (show zeroOf Try.prog 66 = some (.agg #[.int .u64 0, .int .u64 0]) by kernel_rfl), (show zeroOf Try.prog 67 = some (.agg #[.int .u64 0, .int .u64 0]) by kernel_rfl), (show zeroOf Try.prog 71 = some (.agg #[]) by kernel_rfl), (show zeroOf Try.prog 72 = some (.agg #[]) by kernel_rfl), (show zeroOf Try.prog 78 = some (.pointer none) by kernel_rfl), (show zeroOf Try.prog 81 = some (.agg #[.int .u64 0, .int .u64 0, .int .u32 0, .int .u8 0, .int .u8 0, .int .u8 0, .int .u8 0, .nilFunc, .pointer none, .int .i32 0, .int .i32 0]) by kernel_rfl), trivial⟩

def tabE : List Nat := [24, 37, 52, 65, 67]
theorem tabEOk : AllP (fun t => Try.prog.eqGuardType Try.prog.depth t = false ∧ Try.prog.stoodInHeld t = false) tabE := ⟨⟨by kernel_rfl, by kernel_rfl⟩, ⟨by kernel_rfl, by kernel_rfl⟩, ⟨by kernel_rfl, by kernel_rfl⟩, ⟨by kernel_rfl, by kernel_rfl⟩, ⟨by kernel_rfl, by kernel_rfl⟩, trivial⟩

def tabF : List Nat := [3, 4, 5, 6, 7, 8, 9, 10, 11, 12, 13, 14, 15, 16, 17, 18, 19, 20, 21, 22, 23, 24, 25, 26, 27, 28, 29, 30, 31, 32, 33, 34, 35, 36, 37, 38, 39, 40, 41, 42, 43, 44]
theorem tabFOk : AllP (fun f => ∃ c, Try.prog.funcs[f]? = some c ∧ c.body.isSome = true ∧ (c.name == "runtime.NumGoroutine") = false) tabF := ⟨⟨_, Try.func3, by kernel_rfl, by kernel_rfl⟩, ⟨_, Try.func4, by kernel_rfl, by kernel_rfl⟩, ⟨_, Try.func5, by kernel_rfl, by kernel_rfl⟩, ⟨_, Try.func6, by kernel_rfl, by kernel_rfl⟩, ⟨_, Try.func7, by kernel_rfl, by kernel_rfl⟩, ⟨_, Try.func8, by kernel_rfl, by kernel_rfl⟩, ⟨_, Try.func9, by kernel_rfl, by kernel_rfl⟩, ⟨_, Try.func10, by kernel_rfl, by kernel_rfl⟩, ⟨_, Try.func11, by kernel_rfl, by kernel_rfl⟩, ⟨_, Try.func12, by kernel_rfl, by kernel_rfl⟩, ⟨_, Try.func13, by kernel_rfl, by kernel_rfl⟩, ⟨_, Try.func14, by kernel_rfl, by kernel_rfl⟩, ⟨_, Try.func15, by kernel_rfl, by kernel_rfl⟩, ⟨_, Try.func16, by kernel_rfl, by kernel_rfl⟩, ⟨_, Try.func17, by kernel_rfl, by kernel_rfl⟩, ⟨_, Try.func18, by kernel_rfl, by kernel_rfl⟩, ⟨_, Try.func19, by kernel_rfl, by kernel_rfl⟩, ⟨_, Try.func20, by kernel_rfl, by kernel_rfl⟩, ⟨_, Try.func21, by kernel_rfl, by kernel_rfl⟩, ⟨_, Try.func22, by kernel_rfl, by kernel_rfl⟩, ⟨_, Try.func23, by kernel_rfl, by kernel_rfl⟩, ⟨_, Try.func24, by kernel_rfl, by kernel_rfl⟩, ⟨_, Try.func25, by kernel_rfl, by kernel_rfl⟩, ⟨_, Try.func26, by kernel_rfl, by kernel_rfl⟩, ⟨_, Try.func27, by kernel_rfl, by kernel_rfl⟩, ⟨_, Try.func28, by kernel_rfl, by kernel_rfl⟩, ⟨_, Try.func29, by kernel_rfl, by kernel_rfl⟩, ⟨_, Try.func30, by kernel_rfl, by kernel_rfl⟩, ⟨_, Try.func31, by kernel_rfl, by kernel_rfl⟩, ⟨_, Try.func32, by kernel_rfl, by kernel_rfl⟩, ⟨_, Try.func33, by kernel_rfl, by kernel_rfl⟩, ⟨_, Try.func34, by kernel_rfl, by kernel_rfl⟩, ⟨_, Try.func35, by kernel_rfl, by kernel_rfl⟩, ⟨_, Try.func36, by kernel_rfl, by kernel_rfl⟩, ⟨_, Try.func37, by kernel_rfl, by kernel_rfl⟩, ⟨_, Try.func38, by kernel_rfl, by kernel_rfl⟩, ⟨_, Try.func39, by kernel_rfl, by kernel_rfl⟩, ⟨_, Try.func40, by kernel_rfl, by kernel_rfl⟩, ⟨_, Try.func41, by kernel_rfl, by kernel_rfl⟩, ⟨_, Try.func42, by kernel_rfl, by kernel_rfl⟩, ⟨_, Try.func43, by kernel_rfl, by kernel_rfl⟩, ⟨_, Try.func44, by kernel_rfl, by kernel_rfl⟩, trivial⟩

def tabL : TabL Try.prog := ⟨tabU, tabUOk, tabS, tabSOk, tabB, tabBOk, tabZ, tabZOk, tabE, tabEOk, tabF, tabFOk, by kernel_rfl⟩
def tab : Tab Try.prog := tabL.tab

theorem tsz7 : tab.sz 7 = 4 := rfl
theorem tsz13 : tab.sz 13 = 2 := rfl
theorem tsz18 : tab.sz 18 = 1 := rfl
theorem tsz23 : tab.sz 23 = 2 := rfl
theorem tsz24 : tab.sz 24 = 2 := rfl
theorem tsz36 : tab.sz 36 = 1 := rfl
theorem tsz37 : tab.sz 37 = 1 := rfl
theorem tsz51 : tab.sz 51 = 1 := rfl
theorem tsz52 : tab.sz 52 = 1 := rfl
theorem tsz64 : tab.sz 64 = 2 := rfl
theorem tsz65 : tab.sz 65 = 2 := rfl
theorem tsz66 : tab.sz 66 = 2 := rfl
theorem tsz67 : tab.sz 67 = 2 := rfl
theorem tsz71 : tab.sz 71 = 0 := rfl
theorem tsz72 : tab.sz 72 = 0 := rfl
theorem tsz81 : tab.sz 81 = 11 := rfl
theorem tbs3 : tab.bs 3 = 8 := rfl
theorem tbs24 : tab.bs 24 = 8 := rfl
theorem tbs65 : tab.bs 65 = 16 := rfl
theorem tbs67 : tab.bs 67 = 16 := rfl
theorem tsz3 : tab.sz 3 = 1 := rfl
end Go.Gh
