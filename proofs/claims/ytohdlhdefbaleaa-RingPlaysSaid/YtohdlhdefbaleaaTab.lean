import Derived.Test.YtohdlhdefbaleaaGhZjm
import Derived.Test.YtohdlhdefbaleaaProg
import Derived.KernelRfl

/-! What the walks ask of this translation: types, sizes, zero values, functions. Printed by a program of these sessions. -/

namespace Go.Gh
open Go.Proofs

def tabU : List (Nat × TypeDesc) := [(2, .int .i64),
  (3, .int .i64),
  (4, .bool),
  (5, .int .u8),
  (7, .struct #[{ name := "x", type := 2, offset := 0, embedded := false, tag := "", pkgPath := "runtime", byteOffset := 0 }, { name := "y", type := 3, offset := 1, embedded := false, tag := "", pkgPath := "runtime", byteOffset := 8 }, { name := "signed", type := 4, offset := 2, embedded := false, tag := "", pkgPath := "runtime", byteOffset := 16 }, { name := "code", type := 6, offset := 3, embedded := false, tag := "", pkgPath := "runtime", byteOffset := 17 }]),
  (9, .string),
  (12, .int .u64),
  (13, .struct #[{ name := "msg", type := 9, offset := 0, embedded := false, tag := "", pkgPath := "runtime", byteOffset := 0 }, { name := "addr", type := 12, offset := 1, embedded := false, tag := "", pkgPath := "runtime", byteOffset := 16 }]),
  (18, .struct #[{ name := "typ", type := 17, offset := 0, embedded := false, tag := "", pkgPath := "internal/runtime/maps", byteOffset := 0 }]),
  (21, .int .i32),
  (22, .slice 27),
  (23, .pointer 73),
  (25, .int .i64),
  (27, .int .u32),
  (30, .int .u64),
  (37, .int .u64),
  (38, .struct #[{ name := "From", type := 27, offset := 0, embedded := false, tag := "", pkgPath := "", byteOffset := 0 }, { name := "To", type := 27, offset := 1, embedded := false, tag := "", pkgPath := "", byteOffset := 4 }]),
  (39, .struct #[{ name := "From", type := 27, offset := 0, embedded := false, tag := "", pkgPath := "", byteOffset := 0 }, { name := "To", type := 27, offset := 1, embedded := false, tag := "", pkgPath := "", byteOffset := 4 }]),
  (44, .slice 39),
  (45, .slice 3),
  (46, .pointer 81),
  (57, .pointer 60),
  (58, .slice 95),
  (59, .struct #[{ name := "S", type := 39, offset := 0, embedded := false, tag := "", pkgPath := "", byteOffset := 0 }, { name := "L", type := 58, offset := 2, embedded := false, tag := "", pkgPath := "", byteOffset := 8 }]),
  (60, .struct #[{ name := "S", type := 39, offset := 0, embedded := false, tag := "", pkgPath := "", byteOffset := 0 }, { name := "L", type := 58, offset := 2, embedded := false, tag := "", pkgPath := "", byteOffset := 8 }]),
  (66, .slice 4),
  (67, .pointer 69),
  (68, .struct #[{ name := "L", type := 22, offset := 0, embedded := false, tag := "", pkgPath := "", byteOffset := 0 }]),
  (69, .struct #[{ name := "L", type := 22, offset := 0, embedded := false, tag := "", pkgPath := "", byteOffset := 0 }]),
  (72, .struct #[{ name := "l", type := 22, offset := 0, embedded := false, tag := "", pkgPath := "petasos/ring", byteOffset := 0 }]),
  (73, .struct #[{ name := "l", type := 22, offset := 0, embedded := false, tag := "", pkgPath := "petasos/ring", byteOffset := 0 }]),
  (79, .slice 84),
  (80, .struct #[{ name := "s", type := 39, offset := 0, embedded := false, tag := "", pkgPath := "petasos/cover", byteOffset := 0 }, { name := "size", type := 37, offset := 2, embedded := false, tag := "", pkgPath := "petasos/cover", byteOffset := 8 }, { name := "l", type := 79, offset := 3, embedded := false, tag := "", pkgPath := "petasos/cover", byteOffset := 16 }]),
  (81, .struct #[{ name := "s", type := 39, offset := 0, embedded := false, tag := "", pkgPath := "petasos/cover", byteOffset := 0 }, { name := "size", type := 37, offset := 2, embedded := false, tag := "", pkgPath := "petasos/cover", byteOffset := 8 }, { name := "l", type := 79, offset := 3, embedded := false, tag := "", pkgPath := "petasos/cover", byteOffset := 16 }]),
  (83, .struct #[{ name := "From", type := 37, offset := 0, embedded := false, tag := "", pkgPath := "", byteOffset := 0 }, { name := "To", type := 37, offset := 1, embedded := false, tag := "", pkgPath := "", byteOffset := 8 }]),
  (84, .struct #[{ name := "From", type := 37, offset := 0, embedded := false, tag := "", pkgPath := "", byteOffset := 0 }, { name := "To", type := 37, offset := 1, embedded := false, tag := "", pkgPath := "", byteOffset := 8 }]),
  (94, .struct #[{ name := "A", type := 37, offset := 0, embedded := false, tag := "", pkgPath := "", byteOffset := 0 }, { name := "B", type := 37, offset := 1, embedded := false, tag := "", pkgPath := "", byteOffset := 8 }]),
  (95, .struct #[{ name := "A", type := 37, offset := 0, embedded := false, tag := "", pkgPath := "", byteOffset := 0 }, { name := "B", type := 37, offset := 1, embedded := false, tag := "", pkgPath := "", byteOffset := 8 }]),
  (110, .array 0 16),
  (111, .struct #[{ name := "_", type := 110, offset := 0, embedded := false, tag := "", pkgPath := "runtime", byteOffset := 0 }]),
  (117, .pointer 5),
  (120, .struct #[{ name := "Size_", type := 12, offset := 0, embedded := false, tag := "", pkgPath := "", byteOffset := 0 }, { name := "PtrBytes", type := 12, offset := 1, embedded := false, tag := "", pkgPath := "", byteOffset := 8 }, { name := "Hash", type := 27, offset := 2, embedded := false, tag := "", pkgPath := "", byteOffset := 16 }, { name := "TFlag", type := 114, offset := 3, embedded := false, tag := "", pkgPath := "", byteOffset := 20 }, { name := "Align_", type := 5, offset := 4, embedded := false, tag := "", pkgPath := "", byteOffset := 21 }, { name := "FieldAlign_", type := 5, offset := 5, embedded := false, tag := "", pkgPath := "", byteOffset := 22 }, { name := "Kind_", type := 115, offset := 6, embedded := false, tag := "", pkgPath := "", byteOffset := 23 }, { name := "Equal", type := 116, offset := 7, embedded := false, tag := "", pkgPath := "", byteOffset := 24 }, { name := "GCData", type := 117, offset := 8, embedded := false, tag := "", pkgPath := "", byteOffset := 32 }, { name := "Str", type := 118, offset := 9, embedded := false, tag := "", pkgPath := "", byteOffset := 40 }, { name := "PtrToThis", type := 119, offset := 10, embedded := false, tag := "", pkgPath := "", byteOffset := 44 }])]
theorem tabUOk : AllP (fun p => Try.prog.underlying p.1 = some p.2) tabU := ⟨Try.underlying2, Try.underlying3, Try.underlying4, Try.underlying5, Try.underlying7, Try.underlying9, Try.underlying12, Try.underlying13, Try.underlying18, Try.underlying21, Try.underlying22, Try.underlying23, Try.underlying25, Try.underlying27, Try.underlying30, Try.underlying37, Try.underlying38, Try.underlying39, Try.underlying44, Try.underlying45, Try.underlying46, Try.underlying57, Try.underlying58, Try.underlying59, Try.underlying60, Try.underlying66, Try.underlying67, Try.underlying68, Try.underlying69, Try.underlying72, Try.underlying73, Try.underlying79, Try.underlying80, Try.underlying81, Try.underlying83, Try.underlying84, Try.underlying94, Try.underlying95, Try.underlying110, Try.underlying111, Try.underlying117, Try.underlying120, trivial⟩

def tabS : List (Nat × Nat) := [(2, 1),
  (3, 1),
  (4, 1),
  (5, 1),
  (7, 4),
  (9, 1),
  (12, 1),
  (13, 2),
  (18, 1),
  (21, 1),
  (22, 1),
  (23, 1),
  (25, 1),
  (27, 1),
  (30, 1),
  (37, 1),
  (38, 2),
  (39, 2),
  (44, 1),
  (45, 1),
  (46, 1),
  (57, 1),
  (58, 1),
  (59, 3),
  (60, 3),
  (66, 1),
  (67, 1),
  (68, 1),
  (69, 1),
  (72, 1),
  (73, 1),
  (79, 1),
  (80, 4),
  (81, 4),
  (83, 2),
  (84, 2),
  (94, 2),
  (95, 2),
  (110, 0),
  (111, 0),
  (117, 1),
  (120, 11)]
theorem tabSOk : AllP (fun p => Try.prog.cellsOf p.1 = p.2) tabS := ⟨(show Try.prog.cellsOf 2 = 1 by kernel_rfl), (show Try.prog.cellsOf 3 = 1 by kernel_rfl), (show Try.prog.cellsOf 4 = 1 by kernel_rfl), (show Try.prog.cellsOf 5 = 1 by kernel_rfl), (show Try.prog.cellsOf 7 = 4 by kernel_rfl), (show Try.prog.cellsOf 9 = 1 by kernel_rfl), (show Try.prog.cellsOf 12 = 1 by kernel_rfl), (show Try.prog.cellsOf 13 = 2 by kernel_rfl), (show Try.prog.cellsOf 18 = 1 by kernel_rfl), (show Try.prog.cellsOf 21 = 1 by kernel_rfl), (show Try.prog.cellsOf 22 = 1 by kernel_rfl), (show Try.prog.cellsOf 23 = 1 by kernel_rfl), (show Try.prog.cellsOf 25 = 1 by kernel_rfl), (show Try.prog.cellsOf 27 = 1 by kernel_rfl), (show Try.prog.cellsOf 30 = 1 by kernel_rfl), (show Try.prog.cellsOf 37 = 1 by kernel_rfl), (show Try.prog.cellsOf 38 = 2 by kernel_rfl), (show Try.prog.cellsOf 39 = 2 by kernel_rfl), (show Try.prog.cellsOf 44 = 1 by kernel_rfl), (show Try.prog.cellsOf 45 = 1 by kernel_rfl), (show Try.prog.cellsOf 46 = 1 by kernel_rfl), (show Try.prog.cellsOf 57 = 1 by kernel_rfl), (show Try.prog.cellsOf 58 = 1 by kernel_rfl), (show Try.prog.cellsOf 59 = 3 by kernel_rfl), (show Try.prog.cellsOf 60 = 3 by kernel_rfl), (show Try.prog.cellsOf 66 = 1 by kernel_rfl), (show Try.prog.cellsOf 67 = 1 by kernel_rfl), (show Try.prog.cellsOf 68 = 1 by kernel_rfl), (show Try.prog.cellsOf 69 = 1 by kernel_rfl), (show Try.prog.cellsOf 72 = 1 by kernel_rfl), (show Try.prog.cellsOf 73 = 1 by kernel_rfl), (show Try.prog.cellsOf 79 = 1 by kernel_rfl), (show Try.prog.cellsOf 80 = 4 by kernel_rfl), (show Try.prog.cellsOf 81 = 4 by kernel_rfl), (show Try.prog.cellsOf 83 = 2 by kernel_rfl), (show Try.prog.cellsOf 84 = 2 by kernel_rfl), (show Try.prog.cellsOf 94 = 2 by kernel_rfl), (show Try.prog.cellsOf 95 = 2 by kernel_rfl), (show Try.prog.cellsOf 110 = 0 by kernel_rfl), (show Try.prog.cellsOf 111 = 0 by kernel_rfl), (show Try.prog.cellsOf 117 = 1 by kernel_rfl), (show Try.prog.cellsOf 120 = 11 by kernel_rfl), trivial⟩

def tabB : List (Nat × Nat) := [(2, 8),
  (3, 8),
  (4, 1),
  (5, 1),
  (7, 24),
  (9, 16),
  (12, 8),
  (13, 24),
  (18, 8),
  (21, 4),
  (22, 24),
  (23, 8),
  (25, 8),
  (27, 4),
  (30, 8),
  (37, 8),
  (38, 8),
  (39, 8),
  (44, 24),
  (45, 24),
  (46, 8),
  (57, 8),
  (58, 24),
  (59, 32),
  (60, 32),
  (66, 24),
  (67, 8),
  (68, 24),
  (69, 24),
  (72, 24),
  (73, 24),
  (79, 24),
  (80, 40),
  (81, 40),
  (83, 16),
  (84, 16),
  (94, 16),
  (95, 16),
  (110, 0),
  (111, 0),
  (117, 8),
  (120, 48)]
theorem tabBOk : AllP (fun p => Try.prog.bytesOf p.1 = p.2) tabB := ⟨(show Try.prog.bytesOf 2 = 8 by kernel_rfl), (show Try.prog.bytesOf 3 = 8 by kernel_rfl), (show Try.prog.bytesOf 4 = 1 by kernel_rfl), (show Try.prog.bytesOf 5 = 1 by kernel_rfl), (show Try.prog.bytesOf 7 = 24 by kernel_rfl), (show Try.prog.bytesOf 9 = 16 by kernel_rfl), (show Try.prog.bytesOf 12 = 8 by kernel_rfl), (show Try.prog.bytesOf 13 = 24 by kernel_rfl), (show Try.prog.bytesOf 18 = 8 by kernel_rfl), (show Try.prog.bytesOf 21 = 4 by kernel_rfl), (show Try.prog.bytesOf 22 = 24 by kernel_rfl), (show Try.prog.bytesOf 23 = 8 by kernel_rfl), (show Try.prog.bytesOf 25 = 8 by kernel_rfl), (show Try.prog.bytesOf 27 = 4 by kernel_rfl), (show Try.prog.bytesOf 30 = 8 by kernel_rfl), (show Try.prog.bytesOf 37 = 8 by kernel_rfl), (show Try.prog.bytesOf 38 = 8 by kernel_rfl), (show Try.prog.bytesOf 39 = 8 by kernel_rfl), (show Try.prog.bytesOf 44 = 24 by kernel_rfl), (show Try.prog.bytesOf 45 = 24 by kernel_rfl), (show Try.prog.bytesOf 46 = 8 by kernel_rfl), (show Try.prog.bytesOf 57 = 8 by kernel_rfl), (show Try.prog.bytesOf 58 = 24 by kernel_rfl), (show Try.prog.bytesOf 59 = 32 by kernel_rfl), (show Try.prog.bytesOf 60 = 32 by kernel_rfl), (show Try.prog.bytesOf 66 = 24 by kernel_rfl), (show Try.prog.bytesOf 67 = 8 by kernel_rfl), (show Try.prog.bytesOf 68 = 24 by kernel_rfl), (show Try.prog.bytesOf 69 = 24 by kernel_rfl), (show Try.prog.bytesOf 72 = 24 by kernel_rfl), (show Try.prog.bytesOf 73 = 24 by kernel_rfl), (show Try.prog.bytesOf 79 = 24 by kernel_rfl), (show Try.prog.bytesOf 80 = 40 by kernel_rfl), (show Try.prog.bytesOf 81 = 40 by kernel_rfl), (show Try.prog.bytesOf 83 = 16 by kernel_rfl), (show Try.prog.bytesOf 84 = 16 by kernel_rfl), (show Try.prog.bytesOf 94 = 16 by kernel_rfl), (show Try.prog.bytesOf 95 = 16 by kernel_rfl), (show Try.prog.bytesOf 110 = 0 by kernel_rfl), (show Try.prog.bytesOf 111 = 0 by kernel_rfl), (show Try.prog.bytesOf 117 = 8 by kernel_rfl), (show Try.prog.bytesOf 120 = 48 by kernel_rfl), trivial⟩

def tabZ : List (Nat × Value) := [(2, .int .i64 0),
  (3, .int .i64 0),
  (4, .bool false),
  (5, .int .u8 0),
  (7, .agg #[.int .i64 0, .int .i64 0, .bool false, .int .u8 0]),
  (9, .string ⟨#[]⟩),
  (12, .int .u64 0),
  (13, .agg #[.string ⟨#[]⟩, .int .u64 0]),
  (18, .agg #[.pointer none]),
  (21, .int .i32 0),
  (22, .slice none 0 0),
  (23, .pointer none),
  (25, .int .i64 0),
  (27, .int .u32 0),
  (30, .int .u64 0),
  (37, .int .u64 0),
  (38, .agg #[.int .u32 0, .int .u32 0]),
  (39, .agg #[.int .u32 0, .int .u32 0]),
  (44, .slice none 0 0),
  (45, .slice none 0 0),
  (46, .pointer none),
  (57, .pointer none),
  (58, .slice none 0 0),
  (59, .agg #[.int .u32 0, .int .u32 0, .slice none 0 0]),
  (60, .agg #[.int .u32 0, .int .u32 0, .slice none 0 0]),
  (66, .slice none 0 0),
  (67, .pointer none),
  (68, .agg #[.slice none 0 0]),
  (69, .agg #[.slice none 0 0]),
  (72, .agg #[.slice none 0 0]),
  (73, .agg #[.slice none 0 0]),
  (79, .slice none 0 0),
  (80, .agg #[.int .u32 0, .int .u32 0, .int .u64 0, .slice none 0 0]),
  (81, .agg #[.int .u32 0, .int .u32 0, .int .u64 0, .slice none 0 0]),
  (83, .agg #[.int .u64 0, .int .u64 0]),
  (84, .agg #[.int .u64 0, .int .u64 0]),
  (94, .agg #[.int .u64 0, .int .u64 0]),
  (95, .agg #[.int .u64 0, .int .u64 0]),
  (110, .agg #[]),
  (111, .agg #[]),
  (117, .pointer none),
  (120, .agg #[.int .u64 0, .int .u64 0, .int .u32 0, .int .u8 0, .int .u8 0, .int .u8 0, .int .u8 0, .nilFunc, .pointer none, .int .i32 0, .int .i32 0])]
theorem tabZOk : AllP (fun p => zeroOf Try.prog p.1 = some p.2) tabZ := ⟨(show zeroOf Try.prog 2 = some (.int .i64 0) by kernel_rfl), (show zeroOf Try.prog 3 = some (.int .i64 0) by kernel_rfl), (show zeroOf Try.prog 4 = some (.bool false) by kernel_rfl), (show zeroOf Try.prog 5 = some (.int .u8 0) by kernel_rfl), (show zeroOf Try.prog 7 = some (.agg #[.int .i64 0, .int .i64 0, .bool false, .int .u8 0]) by kernel_rfl), (show zeroOf Try.prog 9 = some (.string ⟨#[]⟩) by kernel_rfl), (show zeroOf Try.prog 12 = some (.int .u64 0) by kernel_rfl), (show zeroOf Try.prog 13 = some (.agg #[.string ⟨#[]⟩, .int .u64 0]) by kernel_rfl), (show zeroOf Try.prog 18 = some (.agg #[.pointer none]) by kernel_rfl), (show zeroOf Try.prog 21 = some (.int .i32 0) by kernel_rfl), (show zeroOf Try.prog 22 = some (.slice none 0 0) by kernel_rfl), (show zeroOf Try.prog 23 = some (.pointer none) by kernel_rfl), (show zeroOf Try.prog 25 = some (.int .i64 0) by kernel_rfl), (show zeroOf Try.prog 27 = some (.int .u32 0) by kernel_rfl), (show zeroOf Try.prog 30 = some (.int .u64 0) by kernel_rfl), (show zeroOf Try.prog 37 = some (.int .u64 0) by kernel_rfl), (show zeroOf Try.prog 38 = some (.agg #[.int .u32 0, .int .u32 0]) by kernel_rfl), (show zeroOf Try.prog 39 = some (.agg #[.int .u32 0, .int .u32 0]) by kernel_rfl), (show zeroOf Try.prog 44 = some (.slice none 0 0) by kernel_rfl), (show zeroOf Try.prog 45 = some (.slice none 0 0) by kernel_rfl), (show zeroOf Try.prog 46 = some (.pointer none) by kernel_rfl), (show zeroOf Try.prog 57 = some (.pointer none) by kernel_rfl), (show zeroOf Try.prog 58 = some (.slice none 0 0) by kernel_rfl), (show zeroOf Try.prog 59 = some (.agg #[.int .u32 0, .int .u32 0, .slice none 0 0]) by kernel_rfl), (show zeroOf Try.prog 60 = some (.agg #[.int .u32 0, .int .u32 0, .slice none 0 0]) by kernel_rfl), (show zeroOf Try.prog 66 = some (.slice none 0 0) by kernel_rfl), (show zeroOf Try.prog 67 = some (.pointer none) by kernel_rfl), (show zeroOf Try.prog 68 = some (.agg #[.slice none 0 0]) by kernel_rfl), (show zeroOf Try.prog 69 = some (.agg #[.slice none 0 0]) by kernel_rfl), (show zeroOf Try.prog 72 = some (.agg #[.slice none 0 0]) by kernel_rfl), (show zeroOf Try.prog 73 = some (.agg #[.slice none 0 0]) by kernel_rfl), (show zeroOf Try.prog 79 = some (.slice none 0 0) by kernel_rfl), (show zeroOf Try.prog 80 = some (.agg #[.int .u32 0, .int .u32 0, .int .u64 0, .slice none 0 0]) by kernel_rfl), (show zeroOf Try.prog 81 = some (.agg #[.int .u32 0, .int .u32 0, .int .u64 0, .slice none 0 0]) by kernel_rfl), (show zeroOf Try.prog 83 = some (.agg #[.int .u64 0, .int .u64 0]) by kernel_rfl), (show zeroOf Try.prog 84 = some (.agg #[.int .u64 0, .int .u64 0]) by kernel_rfl), (show zeroOf Try.prog 94 = some (.agg #[.int .u64 0, .int .u64 0]) by kernel_rfl), (show zeroOf Try.prog 95 = some (.agg #[.int .u64 0, .int .u64 0]) by kernel_rfl), (show zeroOf Try.prog 110 = some (.agg #[]) by kernel_rfl), (show zeroOf Try.prog 111 = some (.agg #[]) by kernel_rfl), (show zeroOf Try.prog 117 = some (.pointer none) by kernel_rfl), (show zeroOf Try.prog 120 = some (.agg #[.int .u64 0, .int .u64 0, .int .u32 0, .int .u8 0, .int .u8 0, .int .u8 0, .int .u8 0, .nilFunc, .pointer none, .int .i32 0, .int .i32 0]) by kernel_rfl), trivial⟩

def tabE : List Nat := [39, 84, 95]
theorem tabEOk : AllP (fun t => Try.prog.eqGuardType Try.prog.depth t = false ∧ Try.prog.stoodInHeld t = false) tabE := ⟨⟨by kernel_rfl, by kernel_rfl⟩, ⟨by kernel_rfl, by kernel_rfl⟩, ⟨by kernel_rfl, by kernel_rfl⟩, trivial⟩

def tabF : List Nat := [3, 4, 5, 6, 7, 8, 9, 10, 11, 12, 13, 14, 15, 16, 17, 18, 19, 20, 21, 22, 23, 24, 25, 26, 27, 28, 29, 30, 31, 32, 33, 34, 35, 36, 37, 38, 39, 40, 41, 42, 43, 44, 45, 46, 47, 48, 49, 50, 51, 52, 53, 54, 55, 56, 57, 58, 59, 60, 61, 62, 63, 64, 65, 66, 67, 68, 69, 71, 72, 73, 74, 75, 77, 78, 79, 80]
theorem tabFOk : AllP (fun f => ∃ c, Try.prog.funcs[f]? = some c ∧ c.body.isSome = true ∧ (c.name == "runtime.NumGoroutine") = false) tabF := ⟨⟨_, Try.func3, by kernel_rfl, by kernel_rfl⟩, ⟨_, Try.func4, by kernel_rfl, by kernel_rfl⟩, ⟨_, Try.func5, by kernel_rfl, by kernel_rfl⟩, ⟨_, Try.func6, by kernel_rfl, by kernel_rfl⟩, ⟨_, Try.func7, by kernel_rfl, by kernel_rfl⟩, ⟨_, Try.func8, by kernel_rfl, by kernel_rfl⟩, ⟨_, Try.func9, by kernel_rfl, by kernel_rfl⟩, ⟨_, Try.func10, by kernel_rfl, by kernel_rfl⟩, ⟨_, Try.func11, by kernel_rfl, by kernel_rfl⟩, ⟨_, Try.func12, by kernel_rfl, by kernel_rfl⟩, ⟨_, Try.func13, by kernel_rfl, by kernel_rfl⟩, ⟨_, Try.func14, by kernel_rfl, by kernel_rfl⟩, ⟨_, Try.func15, by kernel_rfl, by kernel_rfl⟩, ⟨_, Try.func16, by kernel_rfl, by kernel_rfl⟩, ⟨_, Try.func17, by kernel_rfl, by kernel_rfl⟩, ⟨_, Try.func18, by kernel_rfl, by kernel_rfl⟩, ⟨_, Try.func19, by kernel_rfl, by kernel_rfl⟩, ⟨_, Try.func20, by kernel_rfl, by kernel_rfl⟩, ⟨_, Try.func21, by kernel_rfl, by kernel_rfl⟩, ⟨_, Try.func22, by kernel_rfl, by kernel_rfl⟩, ⟨_, Try.func23, by kernel_rfl, by kernel_rfl⟩, ⟨_, Try.func24, by kernel_rfl, by kernel_rfl⟩, ⟨_, Try.func25, by kernel_rfl, by kernel_rfl⟩, ⟨_, Try.func26, by kernel_rfl, by kernel_rfl⟩, ⟨_, Try.func27, by kernel_rfl, by kernel_rfl⟩, ⟨_, Try.func28, by kernel_rfl, by kernel_rfl⟩, ⟨_, Try.func29, by kernel_rfl, by kernel_rfl⟩, ⟨_, Try.func30, by kernel_rfl, by kernel_rfl⟩, ⟨_, Try.func31, by kernel_rfl, by kernel_rfl⟩, ⟨_, Try.func32, by kernel_rfl, by kernel_rfl⟩, ⟨_, Try.func33, by kernel_rfl, by kernel_rfl⟩, ⟨_, Try.func34, by kernel_rfl, by kernel_rfl⟩, ⟨_, Try.func35, by kernel_rfl, by kernel_rfl⟩, ⟨_, Try.func36, by kernel_rfl, by kernel_rfl⟩, ⟨_, Try.func37, by kernel_rfl, by kernel_rfl⟩, ⟨_, Try.func38, by kernel_rfl, by kernel_rfl⟩, ⟨_, Try.func39, by kernel_rfl, by kernel_rfl⟩, ⟨_, Try.func40, by kernel_rfl, by kernel_rfl⟩, ⟨_, Try.func41, by kernel_rfl, by kernel_rfl⟩, ⟨_, Try.func42, by kernel_rfl, by kernel_rfl⟩, ⟨_, Try.func43, by kernel_rfl, by kernel_rfl⟩, ⟨_, Try.func44, by kernel_rfl, by kernel_rfl⟩, ⟨_, Try.func45, by kernel_rfl, by kernel_rfl⟩, ⟨_, Try.func46, by kernel_rfl, by kernel_rfl⟩, ⟨_, Try.func47, by kernel_rfl, by kernel_rfl⟩, ⟨_, Try.func48, by kernel_rfl, by kernel_rfl⟩, ⟨_, Try.func49, by kernel_rfl, by kernel_rfl⟩, ⟨_, Try.func50, by kernel_rfl, by kernel_rfl⟩, ⟨_, Try.func51, by kernel_rfl, by kernel_rfl⟩, ⟨_, Try.func52, by kernel_rfl, by kernel_rfl⟩, ⟨_, Try.func53, by kernel_rfl, by kernel_rfl⟩, ⟨_, Try.func54, by kernel_rfl, by kernel_rfl⟩, ⟨_, Try.func55, by kernel_rfl, by kernel_rfl⟩, ⟨_, Try.func56, by kernel_rfl, by kernel_rfl⟩, ⟨_, Try.func57, by kernel_rfl, by kernel_rfl⟩, ⟨_, Try.func58, by kernel_rfl, by kernel_rfl⟩, ⟨_, Try.func59, by kernel_rfl, by kernel_rfl⟩, ⟨_, Try.func60, by kernel_rfl, by kernel_rfl⟩, ⟨_, Try.func61, by kernel_rfl, by kernel_rfl⟩, ⟨_, Try.func62, by kernel_rfl, by kernel_rfl⟩, ⟨_, Try.func63, by kernel_rfl, by kernel_rfl⟩, ⟨_, Try.func64, by kernel_rfl, by kernel_rfl⟩, ⟨_, Try.func65, by kernel_rfl, by kernel_rfl⟩, ⟨_, Try.func66, by kernel_rfl, by kernel_rfl⟩, ⟨_, Try.func67, by kernel_rfl, by kernel_rfl⟩, ⟨_, Try.func68, by kernel_rfl, by kernel_rfl⟩, ⟨_, Try.func69, by kernel_rfl, by kernel_rfl⟩, ⟨_, Try.func71, by kernel_rfl, by kernel_rfl⟩, ⟨_, Try.func72, by kernel_rfl, by kernel_rfl⟩, ⟨_, Try.func73, by kernel_rfl, by kernel_rfl⟩, ⟨_, Try.func74, by kernel_rfl, by kernel_rfl⟩, ⟨_, Try.func75, by kernel_rfl, by kernel_rfl⟩, ⟨_, Try.func77, by kernel_rfl, by kernel_rfl⟩, ⟨_, Try.func78, by kernel_rfl, by kernel_rfl⟩, ⟨_, Try.func79, by kernel_rfl, by kernel_rfl⟩, ⟨_, Try.func80, by kernel_rfl, by kernel_rfl⟩, trivial⟩

def tabL : TabL Try.prog := ⟨tabU, tabUOk, tabS, tabSOk, tabB, tabBOk, tabZ, tabZOk, tabE, tabEOk, tabF, tabFOk, by kernel_rfl⟩
def tab : Tab Try.prog := tabL.tab

theorem tsz7 : tab.sz 7 = 4 := rfl
theorem tsz13 : tab.sz 13 = 2 := rfl
theorem tsz18 : tab.sz 18 = 1 := rfl
theorem tsz38 : tab.sz 38 = 2 := rfl
theorem tsz39 : tab.sz 39 = 2 := rfl
theorem tsz59 : tab.sz 59 = 3 := rfl
theorem tsz60 : tab.sz 60 = 3 := rfl
theorem tsz68 : tab.sz 68 = 1 := rfl
theorem tsz69 : tab.sz 69 = 1 := rfl
theorem tsz72 : tab.sz 72 = 1 := rfl
theorem tsz73 : tab.sz 73 = 1 := rfl
theorem tsz80 : tab.sz 80 = 4 := rfl
theorem tsz81 : tab.sz 81 = 4 := rfl
theorem tsz83 : tab.sz 83 = 2 := rfl
theorem tsz84 : tab.sz 84 = 2 := rfl
theorem tsz94 : tab.sz 94 = 2 := rfl
theorem tsz95 : tab.sz 95 = 2 := rfl
theorem tsz110 : tab.sz 110 = 0 := rfl
theorem tsz111 : tab.sz 111 = 0 := rfl
theorem tsz120 : tab.sz 120 = 11 := rfl
theorem tbs3 : tab.bs 3 = 8 := rfl
theorem tbs4 : tab.bs 4 = 1 := rfl
theorem tbs27 : tab.bs 27 = 4 := rfl
theorem tbs39 : tab.bs 39 = 8 := rfl
theorem tbs84 : tab.bs 84 = 16 := rfl
theorem tbs95 : tab.bs 95 = 16 := rfl
theorem tsz3 : tab.sz 3 = 1 := rfl
theorem tsz4 : tab.sz 4 = 1 := rfl
theorem tsz27 : tab.sz 27 = 1 := rfl
end Go.Gh
