import Derived.Test.YtoamjccphppdmaaGhZj
import Derived.Test.YtoamjccphppdmaaProg
import Derived.KernelRfl

/-! What the walks ask of this translation: types, sizes, zero values, functions. Printed by a program of these sessions. -/

namespace Go.Gh
open Go.Proofs

def tabU : List (Nat × TypeDesc) := [(2, .int .i64),
  (3, .int .i64),
  (4, .bool),
  (5, .int .u8),
  (7, .struct #[{ name := "x", type := 2, offset := 0, embedded := false, tag := "", pkgPath := "runtime", byteOffset := 0 }, { name := "y", type := 3, offset := 1, embedded := false, tag := "", pkgPath := "runtime", byteOffset := 8 }, { name := "signed", type := 4, offset := 2, embedded := false, tag := "", pkgPath := "runtime", byteOffset := 16 }, { name := "code", type := 6, offset := 3, embedded := false, tag := "", pkgPath := "runtime", byteOffset := 17 }]),
  (9, .string),
  (12, .int .u64),
  (13, .struct #[{ name := "msg", type := 9, offset := 0, embedded := false, tag := "", pkgPath := "runtime", byteOffset := 0 }, { name := "addr", type := 12, offset := 1, embedded := false, tag := "", pkgPath := "runtime", byteOffset := 16 }]),
  (18, .struct #[{ name := "typ", type := 17, offset := 0, embedded := false, tag := "", pkgPath := "internal/runtime/maps", byteOffset := 0 }]),
  (21, .int .i32),
  (22, .int .u32),
  (23, .struct #[{ name := "Kind", type := 3, offset := 0, embedded := false, tag := "", pkgPath := "", byteOffset := 0 }, { name := "Lo", type := 22, offset := 1, embedded := false, tag := "", pkgPath := "", byteOffset := 8 }, { name := "Hi", type := 22, offset := 2, embedded := false, tag := "", pkgPath := "", byteOffset := 12 }]),
  (24, .struct #[{ name := "Kind", type := 3, offset := 0, embedded := false, tag := "", pkgPath := "", byteOffset := 0 }, { name := "Lo", type := 22, offset := 1, embedded := false, tag := "", pkgPath := "", byteOffset := 8 }, { name := "Hi", type := 22, offset := 2, embedded := false, tag := "", pkgPath := "", byteOffset := 12 }]),
  (25, .struct #[{ name := "From", type := 22, offset := 0, embedded := false, tag := "", pkgPath := "", byteOffset := 0 }, { name := "To", type := 22, offset := 1, embedded := false, tag := "", pkgPath := "", byteOffset := 4 }]),
  (26, .struct #[{ name := "From", type := 22, offset := 0, embedded := false, tag := "", pkgPath := "", byteOffset := 0 }, { name := "To", type := 22, offset := 1, embedded := false, tag := "", pkgPath := "", byteOffset := 4 }]),
  (32, .int .u64),
  (36, .int .u64),
  (37, .slice 5),
  (38, .struct #[{ name := "b", type := 37, offset := 0, embedded := false, tag := "", pkgPath := "petasos/octet", byteOffset := 0 }]),
  (39, .struct #[{ name := "b", type := 37, offset := 0, embedded := false, tag := "", pkgPath := "petasos/octet", byteOffset := 0 }]),
  (43, .slice 24),
  (44, .slice 22),
  (47, .slice 3),
  (49, .pointer 85),
  (51, .pointer 54),
  (52, .int .i64),
  (53, .struct #[{ name := "B", type := 37, offset := 0, embedded := false, tag := "", pkgPath := "", byteOffset := 0 }, { name := "At", type := 3, offset := 1, embedded := false, tag := "", pkgPath := "", byteOffset := 24 }, { name := "Err", type := 52, offset := 2, embedded := false, tag := "", pkgPath := "", byteOffset := 32 }]),
  (54, .struct #[{ name := "B", type := 37, offset := 0, embedded := false, tag := "", pkgPath := "", byteOffset := 0 }, { name := "At", type := 3, offset := 1, embedded := false, tag := "", pkgPath := "", byteOffset := 24 }, { name := "Err", type := 52, offset := 2, embedded := false, tag := "", pkgPath := "", byteOffset := 32 }]),
  (61, .slice 63),
  (62, .struct #[{ name := "Text", type := 4, offset := 0, embedded := false, tag := "", pkgPath := "", byteOffset := 0 }, { name := "V", type := 32, offset := 1, embedded := false, tag := "", pkgPath := "", byteOffset := 8 }, { name := "N", type := 3, offset := 2, embedded := false, tag := "", pkgPath := "", byteOffset := 16 }, { name := "B", type := 37, offset := 3, embedded := false, tag := "", pkgPath := "", byteOffset := 24 }]),
  (63, .struct #[{ name := "Text", type := 4, offset := 0, embedded := false, tag := "", pkgPath := "", byteOffset := 0 }, { name := "V", type := 32, offset := 1, embedded := false, tag := "", pkgPath := "", byteOffset := 8 }, { name := "N", type := 3, offset := 2, embedded := false, tag := "", pkgPath := "", byteOffset := 16 }, { name := "B", type := 37, offset := 3, embedded := false, tag := "", pkgPath := "", byteOffset := 24 }]),
  (68, .pointer 39),
  (84, .struct #[{ name := "b", type := 37, offset := 0, embedded := false, tag := "", pkgPath := "petasos/octet", byteOffset := 0 }, { name := "err", type := 52, offset := 1, embedded := false, tag := "", pkgPath := "petasos/octet", byteOffset := 24 }]),
  (85, .struct #[{ name := "b", type := 37, offset := 0, embedded := false, tag := "", pkgPath := "petasos/octet", byteOffset := 0 }, { name := "err", type := 52, offset := 1, embedded := false, tag := "", pkgPath := "petasos/octet", byteOffset := 24 }]),
  (101, .array 0 16),
  (102, .struct #[{ name := "_", type := 101, offset := 0, embedded := false, tag := "", pkgPath := "runtime", byteOffset := 0 }]),
  (107, .pointer 5),
  (110, .struct #[{ name := "Size_", type := 12, offset := 0, embedded := false, tag := "", pkgPath := "", byteOffset := 0 }, { name := "PtrBytes", type := 12, offset := 1, embedded := false, tag := "", pkgPath := "", byteOffset := 8 }, { name := "Hash", type := 22, offset := 2, embedded := false, tag := "", pkgPath := "", byteOffset := 16 }, { name := "TFlag", type := 104, offset := 3, embedded := false, tag := "", pkgPath := "", byteOffset := 20 }, { name := "Align_", type := 5, offset := 4, embedded := false, tag := "", pkgPath := "", byteOffset := 21 }, { name := "FieldAlign_", type := 5, offset := 5, embedded := false, tag := "", pkgPath := "", byteOffset := 22 }, { name := "Kind_", type := 105, offset := 6, embedded := false, tag := "", pkgPath := "", byteOffset := 23 }, { name := "Equal", type := 106, offset := 7, embedded := false, tag := "", pkgPath := "", byteOffset := 24 }, { name := "GCData", type := 107, offset := 8, embedded := false, tag := "", pkgPath := "", byteOffset := 32 }, { name := "Str", type := 108, offset := 9, embedded := false, tag := "", pkgPath := "", byteOffset := 40 }, { name := "PtrToThis", type := 109, offset := 10, embedded := false, tag := "", pkgPath := "", byteOffset := 44 }])]
theorem tabUOk : AllP (fun p => Try.prog.underlying p.1 = some p.2) tabU := ⟨Try.underlying2, Try.underlying3, Try.underlying4, Try.underlying5, Try.underlying7, Try.underlying9, Try.underlying12, Try.underlying13, Try.underlying18, Try.underlying21, Try.underlying22, Try.underlying23, Try.underlying24, Try.underlying25, Try.underlying26, Try.underlying32, Try.underlying36, Try.underlying37, Try.underlying38, Try.underlying39, Try.underlying43, Try.underlying44, Try.underlying47, Try.underlying49, Try.underlying51, Try.underlying52, Try.underlying53, Try.underlying54, Try.underlying61, Try.underlying62, Try.underlying63, Try.underlying68, Try.underlying84, Try.underlying85, Try.underlying101, Try.underlying102, Try.underlying107, Try.underlying110, trivial⟩

def tabS : List (Nat × Nat) := [(2, 1),
  (3, 1),
  (4, 1),
  (5, 1),
  (7, 4),
  (9, 1),
  (12, 1),
  (13, 2),
  (18, 1),
  (21, 1),
  (22, 1),
  (23, 3),
  (24, 3),
  (25, 2),
  (26, 2),
  (32, 1),
  (36, 1),
  (37, 1),
  (38, 1),
  (39, 1),
  (43, 1),
  (44, 1),
  (47, 1),
  (49, 1),
  (51, 1),
  (52, 1),
  (53, 3),
  (54, 3),
  (61, 1),
  (62, 4),
  (63, 4),
  (68, 1),
  (84, 2),
  (85, 2),
  (101, 0),
  (102, 0),
  (107, 1),
  (110, 11)]
theorem tabSOk : AllP (fun p => Try.prog.cellsOf p.1 = p.2) tabS := ⟨(show Try.prog.cellsOf 2 = 1 by kernel_rfl), (show Try.prog.cellsOf 3 = 1 by kernel_rfl), (show Try.prog.cellsOf 4 = 1 by kernel_rfl), (show Try.prog.cellsOf 5 = 1 by kernel_rfl), (show Try.prog.cellsOf 7 = 4 by kernel_rfl), (show Try.prog.cellsOf 9 = 1 by kernel_rfl), (show Try.prog.cellsOf 12 = 1 by kernel_rfl), (show Try.prog.cellsOf 13 = 2 by kernel_rfl), (show Try.prog.cellsOf 18 = 1 by kernel_rfl), (show Try.prog.cellsOf 21 = 1 by kernel_rfl), (show Try.prog.cellsOf 22 = 1 by kernel_rfl), (show Try.prog.cellsOf 23 = 3 by kernel_rfl), (show Try.prog.cellsOf 24 = 3 by kernel_rfl), (show Try.prog.cellsOf 25 = 2 by kernel_rfl), (show Try.prog.cellsOf 26 = 2 by kernel_rfl), (show Try.prog.cellsOf 32 = 1 by kernel_rfl), (show Try.prog.cellsOf 36 = 1 by kernel_rfl), (show Try.prog.cellsOf 37 = 1 by kernel_rfl), (show Try.prog.cellsOf 38 = 1 by kernel_rfl), (show Try.prog.cellsOf 39 = 1 by kernel_rfl), (show Try.prog.cellsOf 43 = 1 by kernel_rfl), (show Try.prog.cellsOf 44 = 1 by kernel_rfl), (show Try.prog.cellsOf 47 = 1 by kernel_rfl), (show Try.prog.cellsOf 49 = 1 by kernel_rfl), (show Try.prog.cellsOf 51 = 1 by kernel_rfl), (show Try.prog.cellsOf 52 = 1 by kernel_rfl), (show Try.prog.cellsOf 53 = 3 by kernel_rfl), (show Try.prog.cellsOf 54 = 3 by kernel_rfl), (show Try.prog.cellsOf 61 = 1 by kernel_rfl), (show Try.prog.cellsOf 62 = 4 by kernel_rfl), (show Try.prog.cellsOf 63 = 4 by kernel_rfl), (show Try.prog.cellsOf 68 = 1 by kernel_rfl), (show Try.prog.cellsOf 84 = 2 by kernel_rfl), (show Try.prog.cellsOf 85 = 2 by kernel_rfl), (show Try.prog.cellsOf 101 = 0 by kernel_rfl), (show Try.prog.cellsOf 102 = 0 by kernel_rfl), (show Try.prog.cellsOf 107 = 1 by kernel_rfl), (show Try.prog.cellsOf 110 = 11 by kernel_rfl), trivial⟩

def tabB : List (Nat × Nat) := [(2, 8),
  (3, 8),
  (4, 1),
  (5, 1),
  (7, 24),
  (9, 16),
  (12, 8),
  (13, 24),
  (18, 8),
  (21, 4),
  (22, 4),
  (23, 16),
  (24, 16),
  (25, 8),
  (26, 8),
  (32, 8),
  (36, 8),
  (37, 24),
  (38, 24),
  (39, 24),
  (43, 24),
  (44, 24),
  (47, 24),
  (49, 8),
  (51, 8),
  (52, 8),
  (53, 40),
  (54, 40),
  (61, 24),
  (62, 48),
  (63, 48),
  (68, 8),
  (84, 32),
  (85, 32),
  (101, 0),
  (102, 0),
  (107, 8),
  (110, 48)]
theorem tabBOk : AllP (fun p => Try.prog.bytesOf p.1 = p.2) tabB := ⟨(show Try.prog.bytesOf 2 = 8 by kernel_rfl), (show Try.prog.bytesOf 3 = 8 by kernel_rfl), (show Try.prog.bytesOf 4 = 1 by kernel_rfl), (show Try.prog.bytesOf 5 = 1 by kernel_rfl), (show Try.prog.bytesOf 7 = 24 by kernel_rfl), (show Try.prog.bytesOf 9 = 16 by kernel_rfl), (show Try.prog.bytesOf 12 = 8 by kernel_rfl), (show Try.prog.bytesOf 13 = 24 by kernel_rfl), (show Try.prog.bytesOf 18 = 8 by kernel_rfl), (show Try.prog.bytesOf 21 = 4 by kernel_rfl), (show Try.prog.bytesOf 22 = 4 by kernel_rfl), (show Try.prog.bytesOf 23 = 16 by kernel_rfl), (show Try.prog.bytesOf 24 = 16 by kernel_rfl), (show Try.prog.bytesOf 25 = 8 by kernel_rfl), (show Try.prog.bytesOf 26 = 8 by kernel_rfl), (show Try.prog.bytesOf 32 = 8 by kernel_rfl), (show Try.prog.bytesOf 36 = 8 by kernel_rfl), (show Try.prog.bytesOf 37 = 24 by kernel_rfl), (show Try.prog.bytesOf 38 = 24 by kernel_rfl), (show Try.prog.bytesOf 39 = 24 by kernel_rfl), (show Try.prog.bytesOf 43 = 24 by kernel_rfl), (show Try.prog.bytesOf 44 = 24 by kernel_rfl), (show Try.prog.bytesOf 47 = 24 by kernel_rfl), (show Try.prog.bytesOf 49 = 8 by kernel_rfl), (show Try.prog.bytesOf 51 = 8 by kernel_rfl), (show Try.prog.bytesOf 52 = 8 by kernel_rfl), (show Try.prog.bytesOf 53 = 40 by kernel_rfl), (show Try.prog.bytesOf 54 = 40 by kernel_rfl), (show Try.prog.bytesOf 61 = 24 by kernel_rfl), (show Try.prog.bytesOf 62 = 48 by kernel_rfl), (show Try.prog.bytesOf 63 = 48 by kernel_rfl), (show Try.prog.bytesOf 68 = 8 by kernel_rfl), (show Try.prog.bytesOf 84 = 32 by kernel_rfl), (show Try.prog.bytesOf 85 = 32 by kernel_rfl), (show Try.prog.bytesOf 101 = 0 by kernel_rfl), (show Try.prog.bytesOf 102 = 0 by kernel_rfl), (show Try.prog.bytesOf 107 = 8 by kernel_rfl), (show Try.prog.bytesOf 110 = 48 by kernel_rfl), trivial⟩

def tabZ : List (Nat × Value) := [(2, .int .i64 0),
  (3, .int .i64 0),
  (4, .bool false),
  (5, .int .u8 0),
  (7, .agg #[.int .i64 0, .int .i64 0, .bool false, .int .u8 0]),
  (9, .string ⟨#[]⟩),
  (12, .int .u64 0),
  (13, .agg #[.string ⟨#[]⟩, .int .u64 0]),
  (18, .agg #[.pointer none]),
  (21, .int .i32 0),
  (22, .int .u32 0),
  (23, .agg #[.int .i64 0, .int .u32 0, .int .u32 0]),
  (24, .agg #[.int .i64 0, .int .u32 0, .int .u32 0]),
  (25, .agg #[.int .u32 0, .int .u32 0]),
  (26, .agg #[.int .u32 0, .int .u32 0]),
  (32, .int .u64 0),
  (36, .int .u64 0),
  (37, .slice none 0 0),
  (38, .agg #[.slice none 0 0]),
  (39, .agg #[.slice none 0 0]),
  (43, .slice none 0 0),
  (44, .slice none 0 0),
  (47, .slice none 0 0),
  (49, .pointer none),
  (51, .pointer none),
  (52, .int .i64 0),
  (53, .agg #[.slice none 0 0, .int .i64 0, .int .i64 0]),
  (54, .agg #[.slice none 0 0, .int .i64 0, .int .i64 0]),
  (61, .slice none 0 0),
  (62, .agg #[.bool false, .int .u64 0, .int .i64 0, .slice none 0 0]),
  (63, .agg #[.bool false, .int .u64 0, .int .i64 0, .slice none 0 0]),
  (68, .pointer none),
  (84, .agg #[.slice none 0 0, .int .i64 0]),
  (85, .agg #[.slice none 0 0, .int .i64 0]),
  (101, .agg #[]),
  (102, .agg #[]),
  (107, .pointer none),
  (110, .agg #[.int .u64 0, .int .u64 0, .int .u32 0, .int .u8 0, .int .u8 0, .int .u8 0, .int .u8 0, .nilFunc, .pointer none, .int .i32 0, .int .i32 0])]
theorem tabZOk : AllP (fun p => zeroOf Try.prog p.1 = some p.2) tabZ := ⟨(show zeroOf Try.prog 2 = some (.int .i64 0) by kernel_rfl), (show zeroOf Try.prog 3 = some (.int .i64 0) by kernel_rfl), (show zeroOf Try.prog 4 = some (.bool false) by kernel_rfl), (show zeroOf Try.prog 5 = some (.int .u8 0) by kernel_rfl), (show zeroOf Try.prog 7 = some (.agg #[.int .i64 0, .int .i64 0, .bool false, .int .u8 0]) by kernel_rfl), (show zeroOf Try.prog 9 = some (.string ⟨#[]⟩) by kernel_rfl), (show zeroOf Try.prog 12 = some (.int .u64 0) by kernel_rfl), (show zeroOf Try.prog 13 = some (.agg #[.string ⟨#[]⟩, .int .u64 0]) by kernel_rfl), (show zeroOf Try.prog 18 = some (.agg #[.pointer none]) by kernel_rfl), (show zeroOf Try.prog 21 = some (.int .i32 0) by kernel_rfl), (show zeroOf Try.prog 22 = some (.int .u32 0) by kernel_rfl), (show zeroOf Try.prog 23 = some (.agg #[.int .i64 0, .int .u32 0, .int .u32 0]) by kernel_rfl), (show zeroOf Try.prog 24 = some (.agg #[.int .i64 0, .int .u32 0, .int .u32 0]) by kernel_rfl), (show zeroOf Try.prog 25 = some (.agg #[.int .u32 0, .int .u32 0]) by kernel_rfl), (show zeroOf Try.prog 26 = some (.agg #[.int .u32 0, .int .u32 0]) by kernel_rfl), (show zeroOf Try.prog 32 = some (.int .u64 0) by kernel_rfl), (show zeroOf Try.prog 36 = some (.int .u64 0) by kernel_rfl), (show zeroOf Try.prog 37 = some (.slice none 0 0) by kernel_rfl), (show zeroOf Try.prog 38 = some (.agg #[.slice none 0 0]) by kernel_rfl), (show zeroOf Try.prog 39 = some (.agg #[.slice none 0 0]) by kernel_rfl), (show zeroOf Try.prog 43 = some (.slice none 0 0) by kernel_rfl), (show zeroOf Try.prog 44 = some (.slice none 0 0) by kernel_rfl), (show zeroOf Try.prog 47 = some (.slice none 0 0) by kernel_rfl), (show zeroOf Try.prog 49 = some (.pointer none) by kernel_rfl), (show zeroOf Try.prog 51 = some (.pointer none) by kernel_rfl), (show zeroOf Try.prog 52 = some (.int .i64 0) by kernel_rfl), (show zeroOf Try.prog 53 = some (.agg #[.slice none 0 0, .int .i64 0, .int .i64 0]) by kernel_rfl), (show zeroOf Try.prog 54 = some (.agg #[.slice none 0 0, .int .i64 0, .int .i64 0]) by kernel_rfl), (show zeroOf Try.prog 61 = some (.slice none 0 0) by kernel_rfl), (show zeroOf Try.prog 62 = some (.agg #[.bool false, .int .u64 0, .int .i64 0, .slice none 0 0]) by kernel_rfl), (show zeroOf Try.prog 63 = some (.agg #[.bool false, .int .u64 0, .int .i64 0, .slice none 0 0]) by kernel_rfl), (show zeroOf Try.prog 68 = some (.pointer none) by kernel_rfl), (show zeroOf Try.prog 84 = some (.agg #[.slice none 0 0, .int .i64 0]) by kernel_rfl), (show zeroOf Try.prog 85 = some (.agg #[.slice none 0 0, .int .i64 0]) by kernel_rfl), (show zeroOf Try.prog 101 = some (.agg #[]) by kernel_rfl), (show zeroOf Try.prog 102 = some (.agg #[]) by kernel_rfl), (show zeroOf Try.prog 107 = some (.pointer none) by kernel_rfl), (show zeroOf Try.prog 110 = some (.agg #[.int .u64 0, .int .u64 0, .int .u32 0, .int .u8 0, .int .u8 0, .int .u8 0, .int .u8 0, .nilFunc, .pointer none, .int .i32 0, .int .i32 0]) by kernel_rfl), trivial⟩

def tabE : List Nat := [24, 26]
theorem tabEOk : AllP (fun t => Try.prog.eqGuardType Try.prog.depth t = false ∧ Try.prog.stoodInHeld t = false) tabE := ⟨⟨by kernel_rfl, by kernel_rfl⟩, ⟨by kernel_rfl, by kernel_rfl⟩, trivial⟩

def tabF : List Nat := [3, 4, 5, 6, 7, 8, 9, 10, 11, 12, 13, 14, 15, 16, 17, 18, 19, 20, 21, 22, 23, 24, 25, 26, 27, 28, 29, 30, 31, 32, 33, 34, 35, 36, 37, 38, 39, 40, 41, 42, 43, 44, 45, 46, 47, 48, 49, 50, 51, 52, 53, 54, 55, 56, 57, 58, 59, 60, 61, 62, 63, 64, 65, 66, 67, 68, 69, 70, 71, 72, 73]
theorem tabFOk : AllP (fun f => ∃ c, Try.prog.funcs[f]? = some c ∧ c.body.isSome = true ∧ (c.name == "runtime.NumGoroutine") = false) tabF := ⟨⟨_, Try.func3, by kernel_rfl, by kernel_rfl⟩, ⟨_, Try.func4, by kernel_rfl, by kernel_rfl⟩, ⟨_, Try.func5, by kernel_rfl, by kernel_rfl⟩, ⟨_, Try.func6, by kernel_rfl, by kernel_rfl⟩, ⟨_, Try.func7, by kernel_rfl, by kernel_rfl⟩, ⟨_, Try.func8, by kernel_rfl, by kernel_rfl⟩, ⟨_, Try.func9, by kernel_rfl, by kernel_rfl⟩, ⟨_, Try.func10, by kernel_rfl, by kernel_rfl⟩, ⟨_, Try.func11, by kernel_rfl, by kernel_rfl⟩, ⟨_, Try.func12, by kernel_rfl, by kernel_rfl⟩, ⟨_, Try.func13, by kernel_rfl, by kernel_rfl⟩, ⟨_, Try.func14, by kernel_rfl, by kernel_rfl⟩, ⟨_, Try.func15, by kernel_rfl, by kernel_rfl⟩, ⟨_, Try.func16, by kernel_rfl, by kernel_rfl⟩, ⟨_, Try.func17, by kernel_rfl, by kernel_rfl⟩, ⟨_, Try.func18, by kernel_rfl, by kernel_rfl⟩, ⟨_, Try.func19, by kernel_rfl, by kernel_rfl⟩, ⟨_, Try.func20, by kernel_rfl, by kernel_rfl⟩, ⟨_, Try.func21, by kernel_rfl, by kernel_rfl⟩, ⟨_, Try.func22, by kernel_rfl, by kernel_rfl⟩, ⟨_, Try.func23, by kernel_rfl, by kernel_rfl⟩, ⟨_, Try.func24, by kernel_rfl, by kernel_rfl⟩, ⟨_, Try.func25, by kernel_rfl, by kernel_rfl⟩, ⟨_, Try.func26, by kernel_rfl, by kernel_rfl⟩, ⟨_, Try.func27, by kernel_rfl, by kernel_rfl⟩, ⟨_, Try.func28, by kernel_rfl, by kernel_rfl⟩, ⟨_, Try.func29, by kernel_rfl, by kernel_rfl⟩, ⟨_, Try.func30, by kernel_rfl, by kernel_rfl⟩, ⟨_, Try.func31, by kernel_rfl, by kernel_rfl⟩, ⟨_, Try.func32, by kernel_rfl, by kernel_rfl⟩, ⟨_, Try.func33, by kernel_rfl, by kernel_rfl⟩, ⟨_, Try.func34, by kernel_rfl, by kernel_rfl⟩, ⟨_, Try.func35, by kernel_rfl, by kernel_rfl⟩, ⟨_, Try.func36, by kernel_rfl, by kernel_rfl⟩, ⟨_, Try.func37, by kernel_rfl, by kernel_rfl⟩, ⟨_, Try.func38, by kernel_rfl, by kernel_rfl⟩, ⟨_, Try.func39, by kernel_rfl, by kernel_rfl⟩, ⟨_, Try.func40, by kernel_rfl, by kernel_rfl⟩, ⟨_, Try.func41, by kernel_rfl, by kernel_rfl⟩, ⟨_, Try.func42, by kernel_rfl, by kernel_rfl⟩, ⟨_, Try.func43, by kernel_rfl, by kernel_rfl⟩, ⟨_, Try.func44, by kernel_rfl, by kernel_rfl⟩, ⟨_, Try.func45, by kernel_rfl, by kernel_rfl⟩, ⟨_, Try.func46, by kernel_rfl, by kernel_rfl⟩, ⟨_, Try.func47, by kernel_rfl, by kernel_rfl⟩, ⟨_, Try.func48, by kernel_rfl, by kernel_rfl⟩, ⟨_, Try.func49, by kernel_rfl, by kernel_rfl⟩, ⟨_, Try.func50, by kernel_rfl, by kernel_rfl⟩, ⟨_, Try.func51, by kernel_rfl, by kernel_rfl⟩, ⟨_, Try.func52, by kernel_rfl, by kernel_rfl⟩, ⟨_, Try.func53, by kernel_rfl, by kernel_rfl⟩, ⟨_, Try.func54, by kernel_rfl, by kernel_rfl⟩, ⟨_, Try.func55, by kernel_rfl, by kernel_rfl⟩, ⟨_, Try.func56, by kernel_rfl, by kernel_rfl⟩, ⟨_, Try.func57, by kernel_rfl, by kernel_rfl⟩, ⟨_, Try.func58, by kernel_rfl, by kernel_rfl⟩, ⟨_, Try.func59, by kernel_rfl, by kernel_rfl⟩, ⟨_, Try.func60, by kernel_rfl, by kernel_rfl⟩, ⟨_, Try.func61, by kernel_rfl, by kernel_rfl⟩, ⟨_, Try.func62, by kernel_rfl, by kernel_rfl⟩, ⟨_, Try.func63, by kernel_rfl, by kernel_rfl⟩, ⟨_, Try.func64, by kernel_rfl, by kernel_rfl⟩, ⟨_, Try.func65, by kernel_rfl, by kernel_rfl⟩, ⟨_, Try.func66, by kernel_rfl, by kernel_rfl⟩, ⟨_, Try.func67, by kernel_rfl, by kernel_rfl⟩, ⟨_, Try.func68, by kernel_rfl, by kernel_rfl⟩, ⟨_, Try.func69, by kernel_rfl, by kernel_rfl⟩, ⟨_, Try.func70, by kernel_rfl, by kernel_rfl⟩, ⟨_, Try.func71, by kernel_rfl, by kernel_rfl⟩, ⟨_, Try.func72, by kernel_rfl, by kernel_rfl⟩, ⟨_, Try.func73, by kernel_rfl, by kernel_rfl⟩, trivial⟩

def tabL : TabL Try.prog := ⟨tabU, tabUOk, tabS, tabSOk, tabB, tabBOk, tabZ, tabZOk, tabE, tabEOk, tabF, tabFOk, by kernel_rfl⟩
def tab : Tab Try.prog := tabL.tab

theorem tsz7 : tab.sz 7 = 4 := rfl
theorem tsz13 : tab.sz 13 = 2 := rfl
theorem tsz18 : tab.sz 18 = 1 := rfl
theorem tsz23 : tab.sz 23 = 3 := rfl
theorem tsz24 : tab.sz 24 = 3 := rfl
theorem tsz25 : tab.sz 25 = 2 := rfl
theorem tsz26 : tab.sz 26 = 2 := rfl
theorem tsz38 : tab.sz 38 = 1 := rfl
theorem tsz39 : tab.sz 39 = 1 := rfl
theorem tsz53 : tab.sz 53 = 3 := rfl
theorem tsz54 : tab.sz 54 = 3 := rfl
theorem tsz62 : tab.sz 62 = 4 := rfl
theorem tsz63 : tab.sz 63 = 4 := rfl
theorem tsz84 : tab.sz 84 = 2 := rfl
theorem tsz85 : tab.sz 85 = 2 := rfl
theorem tsz101 : tab.sz 101 = 0 := rfl
theorem tsz102 : tab.sz 102 = 0 := rfl
theorem tsz110 : tab.sz 110 = 11 := rfl
theorem tbs3 : tab.bs 3 = 8 := rfl
theorem tbs5 : tab.bs 5 = 1 := rfl
theorem tbs22 : tab.bs 22 = 4 := rfl
theorem tbs24 : tab.bs 24 = 16 := rfl
theorem tbs63 : tab.bs 63 = 48 := rfl
theorem tsz3 : tab.sz 3 = 1 := rfl
theorem tsz5 : tab.sz 5 = 1 := rfl
theorem tsz22 : tab.sz 22 = 1 := rfl
end Go.Gh
