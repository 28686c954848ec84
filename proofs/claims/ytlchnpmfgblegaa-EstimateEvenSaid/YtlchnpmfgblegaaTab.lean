import Derived.Test.YtlchnpmfgblegaaGhZj
import Derived.Test.YtlchnpmfgblegaaProg
import Derived.KernelRfl

/-! What the walks ask of this translation: types, sizes, zero values, functions. Printed by a program of these sessions. -/

namespace Go.Gh
open Go.Proofs

def tabU : List (Nat × TypeDesc) := [(2, .int .i64),
  (3, .int .i64),
  (4, .bool),
  (5, .int .u8),
  (7, .struct #[{ name := "x", type := 2, offset := 0, embedded := false, tag := "", pkgPath := "runtime", byteOffset := 0 }, { name := "y", type := 3, offset := 1, embedded := false, tag := "", pkgPath := "runtime", byteOffset := 8 }, { name := "signed", type := 4, offset := 2, embedded := false, tag := "", pkgPath := "runtime", byteOffset := 16 }, { name := "code", type := 6, offset := 3, embedded := false, tag := "", pkgPath := "runtime", byteOffset := 17 }]),
  (9, .string),
  (12, .int .u64),
  (13, .struct #[{ name := "msg", type := 9, offset := 0, embedded := false, tag := "", pkgPath := "runtime", byteOffset := 0 }, { name := "addr", type := 12, offset := 1, embedded := false, tag := "", pkgPath := "runtime", byteOffset := 16 }]),
  (18, .struct #[{ name := "typ", type := 17, offset := 0, embedded := false, tag := "", pkgPath := "internal/runtime/maps", byteOffset := 0 }]),
  (21, .int .i32),
  (22, .int .u32),
  (23, .array 16 22),
  (24, .array 16 22),
  (25, .struct #[{ name := "From", type := 22, offset := 0, embedded := false, tag := "", pkgPath := "", byteOffset := 0 }, { name := "To", type := 22, offset := 1, embedded := false, tag := "", pkgPath := "", byteOffset := 4 }]),
  (26, .struct #[{ name := "From", type := 22, offset := 0, embedded := false, tag := "", pkgPath := "", byteOffset := 0 }, { name := "To", type := 22, offset := 1, embedded := false, tag := "", pkgPath := "", byteOffset := 4 }]),
  (28, .int .u64),
  (32, .int .u64),
  (36, .slice 42),
  (38, .slice 22),
  (39, .struct #[{ name := "Id", type := 28, offset := 0, embedded := false, tag := "", pkgPath := "", byteOffset := 0 }, { name := "Version", type := 28, offset := 1, embedded := false, tag := "", pkgPath := "", byteOffset := 8 }, { name := "Values", type := 38, offset := 2, embedded := false, tag := "", pkgPath := "", byteOffset := 16 }]),
  (40, .struct #[{ name := "Id", type := 28, offset := 0, embedded := false, tag := "", pkgPath := "", byteOffset := 0 }, { name := "Version", type := 28, offset := 1, embedded := false, tag := "", pkgPath := "", byteOffset := 8 }, { name := "Values", type := 38, offset := 2, embedded := false, tag := "", pkgPath := "", byteOffset := 16 }]),
  (41, .struct #[{ name := "Value", type := 22, offset := 0, embedded := false, tag := "", pkgPath := "", byteOffset := 0 }, { name := "Record", type := 40, offset := 1, embedded := false, tag := "", pkgPath := "", byteOffset := 8 }, { name := "Gone", type := 4, offset := 4, embedded := false, tag := "", pkgPath := "", byteOffset := 48 }]),
  (42, .struct #[{ name := "Value", type := 22, offset := 0, embedded := false, tag := "", pkgPath := "", byteOffset := 0 }, { name := "Record", type := 40, offset := 1, embedded := false, tag := "", pkgPath := "", byteOffset := 8 }, { name := "Gone", type := 4, offset := 4, embedded := false, tag := "", pkgPath := "", byteOffset := 48 }]),
  (47, .slice 24),
  (49, .struct #[{ name := "Kind", type := 3, offset := 0, embedded := false, tag := "", pkgPath := "", byteOffset := 0 }, { name := "Lo", type := 22, offset := 1, embedded := false, tag := "", pkgPath := "", byteOffset := 8 }, { name := "Hi", type := 22, offset := 2, embedded := false, tag := "", pkgPath := "", byteOffset := 12 }]),
  (50, .struct #[{ name := "Kind", type := 3, offset := 0, embedded := false, tag := "", pkgPath := "", byteOffset := 0 }, { name := "Lo", type := 22, offset := 1, embedded := false, tag := "", pkgPath := "", byteOffset := 8 }, { name := "Hi", type := 22, offset := 2, embedded := false, tag := "", pkgPath := "", byteOffset := 12 }]),
  (57, .slice 50),
  (59, .int .i64),
  (66, .slice 26),
  (69, .pointer 22),
  (77, .slice 90),
  (81, .slice 92),
  (89, .struct #[{ name := "From", type := 28, offset := 0, embedded := false, tag := "", pkgPath := "", byteOffset := 0 }, { name := "To", type := 28, offset := 1, embedded := false, tag := "", pkgPath := "", byteOffset := 8 }]),
  (90, .struct #[{ name := "From", type := 28, offset := 0, embedded := false, tag := "", pkgPath := "", byteOffset := 0 }, { name := "To", type := 28, offset := 1, embedded := false, tag := "", pkgPath := "", byteOffset := 8 }]),
  (91, .struct #[{ name := "A", type := 28, offset := 0, embedded := false, tag := "", pkgPath := "", byteOffset := 0 }, { name := "B", type := 28, offset := 1, embedded := false, tag := "", pkgPath := "", byteOffset := 8 }]),
  (92, .struct #[{ name := "A", type := 28, offset := 0, embedded := false, tag := "", pkgPath := "", byteOffset := 0 }, { name := "B", type := 28, offset := 1, embedded := false, tag := "", pkgPath := "", byteOffset := 8 }]),
  (97, .array 0 16),
  (98, .struct #[{ name := "_", type := 97, offset := 0, embedded := false, tag := "", pkgPath := "runtime", byteOffset := 0 }]),
  (104, .pointer 5),
  (107, .struct #[{ name := "Size_", type := 12, offset := 0, embedded := false, tag := "", pkgPath := "", byteOffset := 0 }, { name := "PtrBytes", type := 12, offset := 1, embedded := false, tag := "", pkgPath := "", byteOffset := 8 }, { name := "Hash", type := 22, offset := 2, embedded := false, tag := "", pkgPath := "", byteOffset := 16 }, { name := "TFlag", type := 101, offset := 3, embedded := false, tag := "", pkgPath := "", byteOffset := 20 }, { name := "Align_", type := 5, offset := 4, embedded := false, tag := "", pkgPath := "", byteOffset := 21 }, { name := "FieldAlign_", type := 5, offset := 5, embedded := false, tag := "", pkgPath := "", byteOffset := 22 }, { name := "Kind_", type := 102, offset := 6, embedded := false, tag := "", pkgPath := "", byteOffset := 23 }, { name := "Equal", type := 103, offset := 7, embedded := false, tag := "", pkgPath := "", byteOffset := 24 }, { name := "GCData", type := 104, offset := 8, embedded := false, tag := "", pkgPath := "", byteOffset := 32 }, { name := "Str", type := 105, offset := 9, embedded := false, tag := "", pkgPath := "", byteOffset := 40 }, { name := "PtrToThis", type := 106, offset := 10, embedded := false, tag := "", pkgPath := "", byteOffset := 44 }])]
theorem tabUOk : AllP (fun p => Try.prog.underlying p.1 = some p.2) tabU := ⟨Try.underlying2, Try.underlying3, Try.underlying4, Try.underlying5, Try.underlying7, Try.underlying9, Try.underlying12, Try.underlying13, Try.underlying18, Try.underlying21, Try.underlying22, Try.underlying23, Try.underlying24, Try.underlying25, Try.underlying26, Try.underlying28, Try.underlying32, Try.underlying36, Try.underlying38, Try.underlying39, Try.underlying40, Try.underlying41, Try.underlying42, Try.underlying47, Try.underlying49, Try.underlying50, Try.underlying57, Try.underlying59, Try.underlying66, Try.underlying69, Try.underlying77, Try.underlying81, Try.underlying89, Try.underlying90, Try.underlying91, Try.underlying92, Try.underlying97, Try.underlying98, Try.underlying104, Try.underlying107, trivial⟩

def tabS : List (Nat × Nat) := [(2, 1),
  (3, 1),
  (4, 1),
  (5, 1),
  (7, 4),
  (9, 1),
  (12, 1),
  (13, 2),
  (18, 1),
  (21, 1),
  (22, 1),
  (23, 16),
  (24, 16),
  (25, 2),
  (26, 2),
  (28, 1),
  (32, 1),
  (36, 1),
  (38, 1),
  (39, 3),
  (40, 3),
  (41, 5),
  (42, 5),
  (47, 1),
  (49, 3),
  (50, 3),
  (57, 1),
  (59, 1),
  (66, 1),
  (69, 1),
  (77, 1),
  (81, 1),
  (89, 2),
  (90, 2),
  (91, 2),
  (92, 2),
  (97, 0),
  (98, 0),
  (104, 1),
  (107, 11)]
theorem tabSOk : AllP (fun p => Try.prog.cellsOf p.1 = p.2) tabS := ⟨(show Try.prog.cellsOf 2 = 1 by kernel_rfl), (show Try.prog.cellsOf 3 = 1 by kernel_rfl), (show Try.prog.cellsOf 4 = 1 by kernel_rfl), (show Try.prog.cellsOf 5 = 1 by kernel_rfl), (show Try.prog.cellsOf 7 = 4 by kernel_rfl), (show Try.prog.cellsOf 9 = 1 by kernel_rfl), (show Try.prog.cellsOf 12 = 1 by kernel_rfl), (show Try.prog.cellsOf 13 = 2 by kernel_rfl), (show Try.prog.cellsOf 18 = 1 by kernel_rfl), (show Try.prog.cellsOf 21 = 1 by kernel_rfl), (show Try.prog.cellsOf 22 = 1 by kernel_rfl), (show Try.prog.cellsOf 23 = 16 by kernel_rfl), (show Try.prog.cellsOf 24 = 16 by kernel_rfl), (show Try.prog.cellsOf 25 = 2 by kernel_rfl), (show Try.prog.cellsOf 26 = 2 by kernel_rfl), (show Try.prog.cellsOf 28 = 1 by kernel_rfl), (show Try.prog.cellsOf 32 = 1 by kernel_rfl), (show Try.prog.cellsOf 36 = 1 by kernel_rfl), (show Try.prog.cellsOf 38 = 1 by kernel_rfl), (show Try.prog.cellsOf 39 = 3 by kernel_rfl), (show Try.prog.cellsOf 40 = 3 by kernel_rfl), (show Try.prog.cellsOf 41 = 5 by kernel_rfl), (show Try.prog.cellsOf 42 = 5 by kernel_rfl), (show Try.prog.cellsOf 47 = 1 by kernel_rfl), (show Try.prog.cellsOf 49 = 3 by kernel_rfl), (show Try.prog.cellsOf 50 = 3 by kernel_rfl), (show Try.prog.cellsOf 57 = 1 by kernel_rfl), (show Try.prog.cellsOf 59 = 1 by kernel_rfl), (show Try.prog.cellsOf 66 = 1 by kernel_rfl), (show Try.prog.cellsOf 69 = 1 by kernel_rfl), (show Try.prog.cellsOf 77 = 1 by kernel_rfl), (show Try.prog.cellsOf 81 = 1 by kernel_rfl), (show Try.prog.cellsOf 89 = 2 by kernel_rfl), (show Try.prog.cellsOf 90 = 2 by kernel_rfl), (show Try.prog.cellsOf 91 = 2 by kernel_rfl), (show Try.prog.cellsOf 92 = 2 by kernel_rfl), (show Try.prog.cellsOf 97 = 0 by kernel_rfl), (show Try.prog.cellsOf 98 = 0 by kernel_rfl), (show Try.prog.cellsOf 104 = 1 by kernel_rfl), (show Try.prog.cellsOf 107 = 11 by kernel_rfl), trivial⟩

def tabB : List (Nat × Nat) := [(2, 8),
  (3, 8),
  (4, 1),
  (5, 1),
  (7, 24),
  (9, 16),
  (12, 8),
  (13, 24),
  (18, 8),
  (21, 4),
  (22, 4),
  (23, 64),
  (24, 64),
  (25, 8),
  (26, 8),
  (28, 8),
  (32, 8),
  (36, 24),
  (38, 24),
  (39, 40),
  (40, 40),
  (41, 56),
  (42, 56),
  (47, 24),
  (49, 16),
  (50, 16),
  (57, 24),
  (59, 8),
  (66, 24),
  (69, 8),
  (77, 24),
  (81, 24),
  (89, 16),
  (90, 16),
  (91, 16),
  (92, 16),
  (97, 0),
  (98, 0),
  (104, 8),
  (107, 48)]
theorem tabBOk : AllP (fun p => Try.prog.bytesOf p.1 = p.2) tabB := ⟨(show Try.prog.bytesOf 2 = 8 by kernel_rfl), (show Try.prog.bytesOf 3 = 8 by kernel_rfl), (show Try.prog.bytesOf 4 = 1 by kernel_rfl), (show Try.prog.bytesOf 5 = 1 by kernel_rfl), (show Try.prog.bytesOf 7 = 24 by kernel_rfl), (show Try.prog.bytesOf 9 = 16 by kernel_rfl), (show Try.prog.bytesOf 12 = 8 by kernel_rfl), (show Try.prog.bytesOf 13 = 24 by kernel_rfl), (show Try.prog.bytesOf 18 = 8 by kernel_rfl), (show Try.prog.bytesOf 21 = 4 by kernel_rfl), (show Try.prog.bytesOf 22 = 4 by kernel_rfl), (show Try.prog.bytesOf 23 = 64 by kernel_rfl), (show Try.prog.bytesOf 24 = 64 by kernel_rfl), (show Try.prog.bytesOf 25 = 8 by kernel_rfl), (show Try.prog.bytesOf 26 = 8 by kernel_rfl), (show Try.prog.bytesOf 28 = 8 by kernel_rfl), (show Try.prog.bytesOf 32 = 8 by kernel_rfl), (show Try.prog.bytesOf 36 = 24 by kernel_rfl), (show Try.prog.bytesOf 38 = 24 by kernel_rfl), (show Try.prog.bytesOf 39 = 40 by kernel_rfl), (show Try.prog.bytesOf 40 = 40 by kernel_rfl), (show Try.prog.bytesOf 41 = 56 by kernel_rfl), (show Try.prog.bytesOf 42 = 56 by kernel_rfl), (show Try.prog.bytesOf 47 = 24 by kernel_rfl), (show Try.prog.bytesOf 49 = 16 by kernel_rfl), (show Try.prog.bytesOf 50 = 16 by kernel_rfl), (show Try.prog.bytesOf 57 = 24 by kernel_rfl), (show Try.prog.bytesOf 59 = 8 by kernel_rfl), (show Try.prog.bytesOf 66 = 24 by kernel_rfl), (show Try.prog.bytesOf 69 = 8 by kernel_rfl), (show Try.prog.bytesOf 77 = 24 by kernel_rfl), (show Try.prog.bytesOf 81 = 24 by kernel_rfl), (show Try.prog.bytesOf 89 = 16 by kernel_rfl), (show Try.prog.bytesOf 90 = 16 by kernel_rfl), (show Try.prog.bytesOf 91 = 16 by kernel_rfl), (show Try.prog.bytesOf 92 = 16 by kernel_rfl), (show Try.prog.bytesOf 97 = 0 by kernel_rfl), (show Try.prog.bytesOf 98 = 0 by kernel_rfl), (show Try.prog.bytesOf 104 = 8 by kernel_rfl), (show Try.prog.bytesOf 107 = 48 by kernel_rfl), trivial⟩

def tabZ : List (Nat × Value) := [(2, .int .i64 0),
  (3, .int .i64 0),
  (4, .bool false),
  (5, .int .u8 0),
  (7, .agg #[.int .i64 0, .int .i64 0, .bool false, .int .u8 0]),
  (9, .string ⟨#[]⟩),
  (12, .int .u64 0),
  (13, .agg #[.string ⟨#[]⟩, .int .u64 0]),
  (18, .agg #[.pointer none]),
  (21, .int .i32 0),
  (22, .int .u32 0),
  (23, .agg #[.int .u32 0, .int .u32 0, .int .u32 0, .int .u32 0, .int .u32 0, .int .u32 0, .int .u32 0, .int .u32 0, .int .u32 0, .int .u32 0, .int .u32 0, .int .u32 0, .int .u32 0, .int .u32 0, .int .u32 0, .int .u32 0]),
  (24, .agg #[.int .u32 0, .int .u32 0, .int .u32 0, .int .u32 0, .int .u32 0, .int .u32 0, .int .u32 0, .int .u32 0, .int .u32 0, .int .u32 0, .int .u32 0, .int .u32 0, .int .u32 0, .int .u32 0, .int .u32 0, .int .u32 0]),
  (25, .agg #[.int .u32 0, .int .u32 0]),
  (26, .agg #[.int .u32 0, .int .u32 0]),
  (28, .int .u64 0),
  (32, .int .u64 0),
  (36, .slice none 0 0),
  (38, .slice none 0 0),
  (39, .agg #[.int .u64 0, .int .u64 0, .slice none 0 0]),
  (40, .agg #[.int .u64 0, .int .u64 0, .slice none 0 0]),
  (41, .agg #[.int .u32 0, .int .u64 0, .int .u64 0, .slice none 0 0, .bool false]),
  (42, .agg #[.int .u32 0, .int .u64 0, .int .u64 0, .slice none 0 0, .bool false]),
  (47, .slice none 0 0),
  (49, .agg #[.int .i64 0, .int .u32 0, .int .u32 0]),
  (50, .agg #[.int .i64 0, .int .u32 0, .int .u32 0]),
  (57, .slice none 0 0),
  (59, .int .i64 0),
  (66, .slice none 0 0),
  (69, .pointer none),
  (77, .slice none 0 0),
  (81, .slice none 0 0),
  (89, .agg #[.int .u64 0, .int .u64 0]),
  (90, .agg #[.int .u64 0, .int .u64 0]),
  (91, .agg #[.int .u64 0, .int .u64 0]),
  (92, .agg #[.int .u64 0, .int .u64 0]),
  (97, .agg #[]),
  (98, .agg #[]),
  (104, .pointer none),
  (107, .agg #[.int .u64 0, .int .u64 0, .int .u32 0, .int .u8 0, .int .u8 0, .int .u8 0, .int .u8 0, .nilFunc, .pointer none, .int .i32 0, .int .i32 0])]
theorem tabZOk : AllP (fun p => zeroOf Try.prog p.1 = some p.2) tabZ := ⟨(show zeroOf Try.prog 2 = some (.int .i64 0) by kernel_rfl), (show zeroOf Try.prog 3 = some (.int .i64 0) by kernel_rfl), (show zeroOf Try.prog 4 = some (.bool false) by kernel_rfl), (show zeroOf Try.prog 5 = some (.int .u8 0) by kernel_rfl), (show zeroOf Try.prog 7 = some (.agg #[.int .i64 0, .int .i64 0, .bool false, .int .u8 0]) by kernel_rfl), (show zeroOf Try.prog 9 = some (.string ⟨#[]⟩) by kernel_rfl), (show zeroOf Try.prog 12 = some (.int .u64 0) by kernel_rfl), (show zeroOf Try.prog 13 = some (.agg #[.string ⟨#[]⟩, .int .u64 0]) by kernel_rfl), (show zeroOf Try.prog 18 = some (.agg #[.pointer none]) by kernel_rfl), (show zeroOf Try.prog 21 = some (.int .i32 0) by kernel_rfl), (show zeroOf Try.prog 22 = some (.int .u32 0) by kernel_rfl), (show zeroOf Try.prog 23 = some (.agg #[.int .u32 0, .int .u32 0, .int .u32 0, .int .u32 0, .int .u32 0, .int .u32 0, .int .u32 0, .int .u32 0, .int .u32 0, .int .u32 0, .int .u32 0, .int .u32 0, .int .u32 0, .int .u32 0, .int .u32 0, .int .u32 0]) by kernel_rfl), (show zeroOf Try.prog 24 = some (.agg #[.int .u32 0, .int .u32 0, .int .u32 0, .int .u32 0, .int .u32 0, .int .u32 0, .int .u32 0, .int .u32 0, .int .u32 0, .int .u32 0, .int .u32 0, .int .u32 0, .int .u32 0, .int .u32 0, .int .u32 0, .int .u32 0]) by kernel_rfl), (show zeroOf Try.prog 25 = some (.agg #[.int .u32 0, .int .u32 0]) by kernel_rfl), (show zeroOf Try.prog 26 = some (.agg #[.int .u32 0, .int .u32 0]) by kernel_rfl), (show zeroOf Try.prog 28 = some (.int .u64 0) by kernel_rfl), (show zeroOf Try.prog 32 = some (.int .u64 0) by kernel_rfl), (show zeroOf Try.prog 36 = some (.slice none 0 0) by kernel_rfl), (show zeroOf Try.prog 38 = some (.slice none 0 0) by kernel_rfl), (show zeroOf Try.prog 39 = some (.agg #[.int .u64 0, .int .u64 0, .slice none 0 0]) by kernel_rfl), (show zeroOf Try.prog 40 = some (.agg #[.int .u64 0, .int .u64 0, .slice none 0 0]) by kernel_rfl), (show zeroOf Try.prog 41 = some (.agg #[.int .u32 0, .int .u64 0, .int .u64 0, .slice none 0 0, .bool false]) by kernel_rfl), (show zeroOf Try.prog 42 = some (.agg #[.int .u32 0, .int .u64 0, .int .u64 0, .slice none 0 0, .bool false]) by kernel_rfl), (show zeroOf Try.prog 47 = some (.slice none 0 0) by kernel_rfl), (show zeroOf Try.prog 49 = some (.agg #[.int .i64 0, .int .u32 0, .int .u32 0]) by kernel_rfl), (show zeroOf Try.prog 50 = some (.agg #[.int .i64 0, .int .u32 0, .int .u32 0]) by kernel_rfl), (show zeroOf Try.prog 57 = some (.slice none 0 0) by kernel_rfl), (show zeroOf Try.prog 59 = some (.int .i64 0) by kernel_rfl), (show zeroOf Try.prog 66 = some (.slice none 0 0) by kernel_rfl), (show zeroOf Try.prog 69 = some (.pointer none) by kernel_rfl), (show zeroOf Try.prog 77 = some (.slice none 0 0) by kernel_rfl), (show zeroOf Try.prog 81 = some (.slice none 0 0) by kernel_rfl), (show zeroOf Try.prog 89 = some (.agg #[.int .u64 0, .int .u64 0]) by kernel_rfl), (show zeroOf Try.prog 90 = some (.agg #[.int .u64 0, .int .u64 0]) by kernel_rfl), (show zeroOf Try.prog 91 = some (.agg #[.int .u64 0, .int .u64 0]) by kernel_rfl), (show zeroOf Try.prog 92 = some (.agg #[.int .u64 0, .int .u64 0]) by kernel_rfl), (show zeroOf Try.prog 97 = some (.agg #[]) by kernel_rfl), (show zeroOf Try.prog 98 = some (.agg #[]) by kernel_rfl), (show zeroOf Try.prog 104 = some (.pointer none) by kernel_rfl), (show zeroOf Try.prog 107 = some (.agg #[.int .u64 0, .int .u64 0, .int .u32 0, .int .u8 0, .int .u8 0, .int .u8 0, .int .u8 0, .nilFunc, .pointer none, .int .i32 0, .int .i32 0]) by kernel_rfl), trivial⟩

def tabE : List Nat := [24, 26, 50, 90, 92]
theorem tabEOk : AllP (fun t => Try.prog.eqGuardType Try.prog.depth t = false ∧ Try.prog.stoodInHeld t = false) tabE := ⟨⟨by kernel_rfl, by kernel_rfl⟩, ⟨by kernel_rfl, by kernel_rfl⟩, ⟨by kernel_rfl, by kernel_rfl⟩, ⟨by kernel_rfl, by kernel_rfl⟩, ⟨by kernel_rfl, by kernel_rfl⟩, trivial⟩

def tabF : List Nat := [3, 4, 5, 6, 7, 8, 9, 10, 11, 12, 13, 14, 15, 16, 17, 18, 19, 20, 21, 22, 23, 24, 25, 26, 27, 28, 29, 30, 31, 32, 33, 34, 35, 36, 37, 38, 39, 40, 41, 42, 43, 44, 45, 46, 47, 48, 49, 50, 51, 52, 53, 54, 55, 56, 57, 58, 59]
theorem tabFOk : AllP (fun f => ∃ c, Try.prog.funcs[f]? = some c ∧ c.body.isSome = true ∧ (c.name == "runtime.NumGoroutine") = false) tabF := ⟨⟨_, Try.func3, by kernel_rfl, by kernel_rfl⟩, ⟨_, Try.func4, by kernel_rfl, by kernel_rfl⟩, ⟨_, Try.func5, by kernel_rfl, by kernel_rfl⟩, ⟨_, Try.func6, by kernel_rfl, by kernel_rfl⟩, ⟨_, Try.func7, by kernel_rfl, by kernel_rfl⟩, ⟨_, Try.func8, by kernel_rfl, by kernel_rfl⟩, ⟨_, Try.func9, by kernel_rfl, by kernel_rfl⟩, ⟨_, Try.func10, by kernel_rfl, by kernel_rfl⟩, ⟨_, Try.func11, by kernel_rfl, by kernel_rfl⟩, ⟨_, Try.func12, by kernel_rfl, by kernel_rfl⟩, ⟨_, Try.func13, by kernel_rfl, by kernel_rfl⟩, ⟨_, Try.func14, by kernel_rfl, by kernel_rfl⟩, ⟨_, Try.func15, by kernel_rfl, by kernel_rfl⟩, ⟨_, Try.func16, by kernel_rfl, by kernel_rfl⟩, ⟨_, Try.func17, by kernel_rfl, by kernel_rfl⟩, ⟨_, Try.func18, by kernel_rfl, by kernel_rfl⟩, ⟨_, Try.func19, by kernel_rfl, by kernel_rfl⟩, ⟨_, Try.func20, by kernel_rfl, by kernel_rfl⟩, ⟨_, Try.func21, by kernel_rfl, by kernel_rfl⟩, ⟨_, Try.func22, by kernel_rfl, by kernel_rfl⟩, ⟨_, Try.func23, by kernel_rfl, by kernel_rfl⟩, ⟨_, Try.func24, by kernel_rfl, by kernel_rfl⟩, ⟨_, Try.func25, by kernel_rfl, by kernel_rfl⟩, ⟨_, Try.func26, by kernel_rfl, by kernel_rfl⟩, ⟨_, Try.func27, by kernel_rfl, by kernel_rfl⟩, ⟨_, Try.func28, by kernel_rfl, by kernel_rfl⟩, ⟨_, Try.func29, by kernel_rfl, by kernel_rfl⟩, ⟨_, Try.func30, by kernel_rfl, by kernel_rfl⟩, ⟨_, Try.func31, by kernel_rfl, by kernel_rfl⟩, ⟨_, Try.func32, by kernel_rfl, by kernel_rfl⟩, ⟨_, Try.func33, by kernel_rfl, by kernel_rfl⟩, ⟨_, Try.func34, by kernel_rfl, by kernel_rfl⟩, ⟨_, Try.func35, by kernel_rfl, by kernel_rfl⟩, ⟨_, Try.func36, by kernel_rfl, by kernel_rfl⟩, ⟨_, Try.func37, by kernel_rfl, by kernel_rfl⟩, ⟨_, Try.func38, by kernel_rfl, by kernel_rfl⟩, ⟨_, Try.func39, by kernel_rfl, by kernel_rfl⟩, ⟨_, Try.func40, by kernel_rfl, by kernel_rfl⟩, ⟨_, Try.func41, by kernel_rfl, by kernel_rfl⟩, ⟨_, Try.func42, by kernel_rfl, by kernel_rfl⟩, ⟨_, Try.func43, by kernel_rfl, by kernel_rfl⟩, ⟨_, Try.func44, by kernel_rfl, by kernel_rfl⟩, ⟨_, Try.func45, by kernel_rfl, by kernel_rfl⟩, ⟨_, Try.func46, by kernel_rfl, by kernel_rfl⟩, ⟨_, Try.func47, by kernel_rfl, by kernel_rfl⟩, ⟨_, Try.func48, by kernel_rfl, by kernel_rfl⟩, ⟨_, Try.func49, by kernel_rfl, by kernel_rfl⟩, ⟨_, Try.func50, by kernel_rfl, by kernel_rfl⟩, ⟨_, Try.func51, by kernel_rfl, by kernel_rfl⟩, ⟨_, Try.func52, by kernel_rfl, by kernel_rfl⟩, ⟨_, Try.func53, by kernel_rfl, by kernel_rfl⟩, ⟨_, Try.func54, by kernel_rfl, by kernel_rfl⟩, ⟨_, Try.func55, by kernel_rfl, by kernel_rfl⟩, ⟨_, Try.func56, by kernel_rfl, by kernel_rfl⟩, ⟨_, Try.func57, by kernel_rfl, by kernel_rfl⟩, ⟨_, Try.func58, by kernel_rfl, by kernel_rfl⟩, ⟨_, Try.func59, by kernel_rfl, by kernel_rfl⟩, trivial⟩

def tabL : TabL Try.prog := ⟨tabU, tabUOk, tabS, tabSOk, tabB, tabBOk, tabZ, tabZOk, tabE, tabEOk, tabF, tabFOk, by kernel_rfl⟩
def tab : Tab Try.prog := tabL.tab

theorem tsz7 : tab.sz 7 = 4 := rfl
theorem tsz13 : tab.sz 13 = 2 := rfl
theorem tsz18 : tab.sz 18 = 1 := rfl
theorem tsz23 : tab.sz 23 = 16 := rfl
theorem tsz24 : tab.sz 24 = 16 := rfl
theorem tsz25 : tab.sz 25 = 2 := rfl
theorem tsz26 : tab.sz 26 = 2 := rfl
theorem tsz39 : tab.sz 39 = 3 := rfl
theorem tsz40 : tab.sz 40 = 3 := rfl
theorem tsz41 : tab.sz 41 = 5 := rfl
theorem tsz42 : tab.sz 42 = 5 := rfl
theorem tsz49 : tab.sz 49 = 3 := rfl
theorem tsz50 : tab.sz 50 = 3 := rfl
theorem tsz89 : tab.sz 89 = 2 := rfl
theorem tsz90 : tab.sz 90 = 2 := rfl
theorem tsz91 : tab.sz 91 = 2 := rfl
theorem tsz92 : tab.sz 92 = 2 := rfl
theorem tsz97 : tab.sz 97 = 0 := rfl
theorem tsz98 : tab.sz 98 = 0 := rfl
theorem tsz107 : tab.sz 107 = 11 := rfl
theorem tbs22 : tab.bs 22 = 4 := rfl
theorem tbs24 : tab.bs 24 = 64 := rfl
theorem tbs26 : tab.bs 26 = 8 := rfl
theorem tbs42 : tab.bs 42 = 56 := rfl
theorem tbs50 : tab.bs 50 = 16 := rfl
theorem tbs90 : tab.bs 90 = 16 := rfl
theorem tbs92 : tab.bs 92 = 16 := rfl
theorem tsz22 : tab.sz 22 = 1 := rfl
end Go.Gh
