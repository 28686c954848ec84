import Derived.Test.YtbkahcionjkgjaaGhZjn
import Derived.Test.YtbkahcionjkgjaaProg
import Derived.KernelRfl

/-! What the walks ask of this translation: types, sizes, zero values, functions. Printed by a program of these sessions. -/

namespace Go.Gh
open Go.Proofs

def tabU : List (Nat × TypeDesc) := [(2, .int .i64),
  (3, .int .i64),
  (4, .bool),
  (5, .int .u8),
  (7, .struct #[{ name := "x", type := 2, offset := 0, embedded := false, tag := "", pkgPath := "runtime", byteOffset := 0 }, { name := "y", type := 3, offset := 1, embedded := false, tag := "", pkgPath := "runtime", byteOffset := 8 }, { name := "signed", type := 4, offset := 2, embedded := false, tag := "", pkgPath := "runtime", byteOffset := 16 }, { name := "code", type := 6, offset := 3, embedded := false, tag := "", pkgPath := "runtime", byteOffset := 17 }]),
  (9, .string),
  (12, .int .u64),
  (13, .struct #[{ name := "msg", type := 9, offset := 0, embedded := false, tag := "", pkgPath := "runtime", byteOffset := 0 }, { name := "addr", type := 12, offset := 1, embedded := false, tag := "", pkgPath := "runtime", byteOffset := 16 }]),
  (18, .struct #[{ name := "typ", type := 17, offset := 0, embedded := false, tag := "", pkgPath := "internal/runtime/maps", byteOffset := 0 }]),
  (21, .int .i32),
  (22, .int .u32),
  (23, .int .u64),
  (24, .slice 22),
  (25, .struct #[{ name := "Id", type := 23, offset := 0, embedded := false, tag := "", pkgPath := "", byteOffset := 0 }, { name := "Version", type := 23, offset := 1, embedded := false, tag := "", pkgPath := "", byteOffset := 8 }, { name := "Values", type := 24, offset := 2, embedded := false, tag := "", pkgPath := "", byteOffset := 16 }]),
  (26, .struct #[{ name := "Id", type := 23, offset := 0, embedded := false, tag := "", pkgPath := "", byteOffset := 0 }, { name := "Version", type := 23, offset := 1, embedded := false, tag := "", pkgPath := "", byteOffset := 8 }, { name := "Values", type := 24, offset := 2, embedded := false, tag := "", pkgPath := "", byteOffset := 16 }]),
  (27, .struct #[{ name := "Value", type := 22, offset := 0, embedded := false, tag := "", pkgPath := "", byteOffset := 0 }, { name := "Record", type := 26, offset := 1, embedded := false, tag := "", pkgPath := "", byteOffset := 8 }, { name := "Gone", type := 4, offset := 4, embedded := false, tag := "", pkgPath := "", byteOffset := 48 }]),
  (28, .struct #[{ name := "Value", type := 22, offset := 0, embedded := false, tag := "", pkgPath := "", byteOffset := 0 }, { name := "Record", type := 26, offset := 1, embedded := false, tag := "", pkgPath := "", byteOffset := 8 }, { name := "Gone", type := 4, offset := 4, embedded := false, tag := "", pkgPath := "", byteOffset := 48 }]),
  (29, .struct #[{ name := "From", type := 22, offset := 0, embedded := false, tag := "", pkgPath := "", byteOffset := 0 }, { name := "To", type := 22, offset := 1, embedded := false, tag := "", pkgPath := "", byteOffset := 4 }]),
  (30, .struct #[{ name := "From", type := 22, offset := 0, embedded := false, tag := "", pkgPath := "", byteOffset := 0 }, { name := "To", type := 22, offset := 1, embedded := false, tag := "", pkgPath := "", byteOffset := 4 }]),
  (31, .slice 52),
  (32, .slice 26),
  (33, .struct #[{ name := "Kind", type := 3, offset := 0, embedded := false, tag := "", pkgPath := "", byteOffset := 0 }, { name := "Hub", type := 3, offset := 1, embedded := false, tag := "", pkgPath := "", byteOffset := 8 }, { name := "Point", type := 22, offset := 2, embedded := false, tag := "", pkgPath := "", byteOffset := 16 }, { name := "Client", type := 3, offset := 3, embedded := false, tag := "", pkgPath := "", byteOffset := 24 }, { name := "Op", type := 3, offset := 4, embedded := false, tag := "", pkgPath := "", byteOffset := 32 }, { name := "Target", type := 22, offset := 5, embedded := false, tag := "", pkgPath := "", byteOffset := 40 }, { name := "Hops", type := 3, offset := 6, embedded := false, tag := "", pkgPath := "", byteOffset := 48 }, { name := "Owner", type := 22, offset := 7, embedded := false, tag := "", pkgPath := "", byteOffset := 56 }, { name := "Turn", type := 3, offset := 8, embedded := false, tag := "", pkgPath := "", byteOffset := 64 }, { name := "Entry", type := 28, offset := 9, embedded := false, tag := "", pkgPath := "", byteOffset := 72 }, { name := "Span", type := 30, offset := 14, embedded := false, tag := "", pkgPath := "", byteOffset := 128 }, { name := "Box", type := 31, offset := 16, embedded := false, tag := "", pkgPath := "", byteOffset := 136 }, { name := "Records", type := 32, offset := 17, embedded := false, tag := "", pkgPath := "", byteOffset := 160 }]),
  (34, .struct #[{ name := "Kind", type := 3, offset := 0, embedded := false, tag := "", pkgPath := "", byteOffset := 0 }, { name := "Hub", type := 3, offset := 1, embedded := false, tag := "", pkgPath := "", byteOffset := 8 }, { name := "Point", type := 22, offset := 2, embedded := false, tag := "", pkgPath := "", byteOffset := 16 }, { name := "Client", type := 3, offset := 3, embedded := false, tag := "", pkgPath := "", byteOffset := 24 }, { name := "Op", type := 3, offset := 4, embedded := false, tag := "", pkgPath := "", byteOffset := 32 }, { name := "Target", type := 22, offset := 5, embedded := false, tag := "", pkgPath := "", byteOffset := 40 }, { name := "Hops", type := 3, offset := 6, embedded := false, tag := "", pkgPath := "", byteOffset := 48 }, { name := "Owner", type := 22, offset := 7, embedded := false, tag := "", pkgPath := "", byteOffset := 56 }, { name := "Turn", type := 3, offset := 8, embedded := false, tag := "", pkgPath := "", byteOffset := 64 }, { name := "Entry", type := 28, offset := 9, embedded := false, tag := "", pkgPath := "", byteOffset := 72 }, { name := "Span", type := 30, offset := 14, embedded := false, tag := "", pkgPath := "", byteOffset := 128 }, { name := "Box", type := 31, offset := 16, embedded := false, tag := "", pkgPath := "", byteOffset := 136 }, { name := "Records", type := 32, offset := 17, embedded := false, tag := "", pkgPath := "", byteOffset := 160 }]),
  (35, .slice 5),
  (39, .int .i64),
  (49, .int .u64),
  (51, .struct #[{ name := "Kind", type := 3, offset := 0, embedded := false, tag := "", pkgPath := "", byteOffset := 0 }, { name := "Lo", type := 22, offset := 1, embedded := false, tag := "", pkgPath := "", byteOffset := 8 }, { name := "Hi", type := 22, offset := 2, embedded := false, tag := "", pkgPath := "", byteOffset := 12 }]),
  (52, .struct #[{ name := "Kind", type := 3, offset := 0, embedded := false, tag := "", pkgPath := "", byteOffset := 0 }, { name := "Lo", type := 22, offset := 1, embedded := false, tag := "", pkgPath := "", byteOffset := 8 }, { name := "Hi", type := 22, offset := 2, embedded := false, tag := "", pkgPath := "", byteOffset := 12 }]),
  (55, .pointer 59),
  (56, .struct #[{ name := "b", type := 35, offset := 0, embedded := false, tag := "", pkgPath := "petasos/octet", byteOffset := 0 }]),
  (57, .struct #[{ name := "b", type := 35, offset := 0, embedded := false, tag := "", pkgPath := "petasos/octet", byteOffset := 0 }]),
  (58, .struct #[{ name := "Writer", type := 57, offset := 0, embedded := true, tag := "", pkgPath := "", byteOffset := 0 }]),
  (59, .struct #[{ name := "Writer", type := 57, offset := 0, embedded := true, tag := "", pkgPath := "", byteOffset := 0 }]),
  (70, .pointer 95),
  (72, .struct #[{ name := "Reader", type := 70, offset := 0, embedded := true, tag := "", pkgPath := "", byteOffset := 0 }, { name := "attrs", type := 3, offset := 1, embedded := false, tag := "", pkgPath := "petasos/message", byteOffset := 8 }]),
  (73, .struct #[{ name := "Reader", type := 70, offset := 0, embedded := true, tag := "", pkgPath := "", byteOffset := 0 }, { name := "attrs", type := 3, offset := 1, embedded := false, tag := "", pkgPath := "petasos/message", byteOffset := 8 }]),
  (77, .pointer 34),
  (82, .pointer 84),
  (83, .struct #[{ name := "B", type := 35, offset := 0, embedded := false, tag := "", pkgPath := "", byteOffset := 0 }, { name := "At", type := 3, offset := 1, embedded := false, tag := "", pkgPath := "", byteOffset := 24 }, { name := "Err", type := 39, offset := 2, embedded := false, tag := "", pkgPath := "", byteOffset := 32 }]),
  (84, .struct #[{ name := "B", type := 35, offset := 0, embedded := false, tag := "", pkgPath := "", byteOffset := 0 }, { name := "At", type := 3, offset := 1, embedded := false, tag := "", pkgPath := "", byteOffset := 24 }, { name := "Err", type := 39, offset := 2, embedded := false, tag := "", pkgPath := "", byteOffset := 32 }]),
  (92, .pointer 57),
  (94, .struct #[{ name := "b", type := 35, offset := 0, embedded := false, tag := "", pkgPath := "petasos/octet", byteOffset := 0 }, { name := "err", type := 39, offset := 1, embedded := false, tag := "", pkgPath := "petasos/octet", byteOffset := 24 }]),
  (95, .struct #[{ name := "b", type := 35, offset := 0, embedded := false, tag := "", pkgPath := "petasos/octet", byteOffset := 0 }, { name := "err", type := 39, offset := 1, embedded := false, tag := "", pkgPath := "petasos/octet", byteOffset := 24 }]),
  (115, .array 0 16),
  (116, .struct #[{ name := "_", type := 115, offset := 0, embedded := false, tag := "", pkgPath := "runtime", byteOffset := 0 }]),
  (122, .pointer 5),
  (125, .struct #[{ name := "Size_", type := 12, offset := 0, embedded := false, tag := "", pkgPath := "", byteOffset := 0 }, { name := "PtrBytes", type := 12, offset := 1, embedded := false, tag := "", pkgPath := "", byteOffset := 8 }, { name := "Hash", type := 22, offset := 2, embedded := false, tag := "", pkgPath := "", byteOffset := 16 }, { name := "TFlag", type := 119, offset := 3, embedded := false, tag := "", pkgPath := "", byteOffset := 20 }, { name := "Align_", type := 5, offset := 4, embedded := false, tag := "", pkgPath := "", byteOffset := 21 }, { name := "FieldAlign_", type := 5, offset := 5, embedded := false, tag := "", pkgPath := "", byteOffset := 22 }, { name := "Kind_", type := 120, offset := 6, embedded := false, tag := "", pkgPath := "", byteOffset := 23 }, { name := "Equal", type := 121, offset := 7, embedded := false, tag := "", pkgPath := "", byteOffset := 24 }, { name := "GCData", type := 122, offset := 8, embedded := false, tag := "", pkgPath := "", byteOffset := 32 }, { name := "Str", type := 123, offset := 9, embedded := false, tag := "", pkgPath := "", byteOffset := 40 }, { name := "PtrToThis", type := 124, offset := 10, embedded := false, tag := "", pkgPath := "", byteOffset := 44 }])]
theorem tabUOk : AllP (fun p => Try.prog.underlying p.1 = some p.2) tabU := ⟨Try.underlying2, Try.underlying3, Try.underlying4, Try.underlying5, Try.underlying7, Try.underlying9, Try.underlying12, Try.underlying13, Try.underlying18, Try.underlying21, Try.underlying22, Try.underlying23, Try.underlying24, Try.underlying25, Try.underlying26, Try.underlying27, Try.underlying28, Try.underlying29, Try.underlying30, Try.underlying31, Try.underlying32, Try.underlying33, Try.underlying34, Try.underlying35, Try.underlying39, Try.underlying49, Try.underlying51, Try.underlying52, Try.underlying55, Try.underlying56, Try.underlying57, Try.underlying58, Try.underlying59, Try.underlying70, Try.underlying72, Try.underlying73, Try.underlying77, Try.underlying82, Try.underlying83, Try.underlying84, Try.underlying92, Try.underlying94, Try.underlying95, Try.underlying115, Try.underlying116, Try.underlying122, Try.underlying125, trivial⟩

def tabS : List (Nat × Nat) := [(2, 1),
  (3, 1),
  (4, 1),
  (5, 1),
  (7, 4),
  (9, 1),
  (12, 1),
  (13, 2),
  (18, 1),
  (21, 1),
  (22, 1),
  (23, 1),
  (24, 1),
  (25, 3),
  (26, 3),
  (27, 5),
  (28, 5),
  (29, 2),
  (30, 2),
  (31, 1),
  (32, 1),
  (33, 18),
  (34, 18),
  (35, 1),
  (39, 1),
  (49, 1),
  (51, 3),
  (52, 3),
  (55, 1),
  (56, 1),
  (57, 1),
  (58, 1),
  (59, 1),
  (70, 1),
  (72, 2),
  (73, 2),
  (77, 1),
  (82, 1),
  (83, 3),
  (84, 3),
  (92, 1),
  (94, 2),
  (95, 2),
  (115, 0),
  (116, 0),
  (122, 1),
  (125, 11)]
theorem tabSOk : AllP (fun p => Try.prog.cellsOf p.1 = p.2) tabS := ⟨(show Try.prog.cellsOf 2 = 1 by kernel_rfl), (show Try.prog.cellsOf 3 = 1 by kernel_rfl), (show Try.prog.cellsOf 4 = 1 by kernel_rfl), (show Try.prog.cellsOf 5 = 1 by kernel_rfl), (show Try.prog.cellsOf 7 = 4 by kernel_rfl), (show Try.prog.cellsOf 9 = 1 by kernel_rfl), (show Try.prog.cellsOf 12 = 1 by kernel_rfl), (show Try.prog.cellsOf 13 = 2 by kernel_rfl), (show Try.prog.cellsOf 18 = 1 by kernel_rfl), (show Try.prog.cellsOf 21 = 1 by kernel_rfl), (show Try.prog.cellsOf 22 = 1 by kernel_rfl), (show Try.prog.cellsOf 23 = 1 by kernel_rfl), (show Try.prog.cellsOf 24 = 1 by kernel_rfl), (show Try.prog.cellsOf 25 = 3 by kernel_rfl), (show Try.prog.cellsOf 26 = 3 by kernel_rfl), (show Try.prog.cellsOf 27 = 5 by kernel_rfl), (show Try.prog.cellsOf 28 = 5 by kernel_rfl), (show Try.prog.cellsOf 29 = 2 by kernel_rfl), (show Try.prog.cellsOf 30 = 2 by kernel_rfl), (show Try.prog.cellsOf 31 = 1 by kernel_rfl), (show Try.prog.cellsOf 32 = 1 by kernel_rfl), (show Try.prog.cellsOf 33 = 18 by kernel_rfl), (show Try.prog.cellsOf 34 = 18 by kernel_rfl), (show Try.prog.cellsOf 35 = 1 by kernel_rfl), (show Try.prog.cellsOf 39 = 1 by kernel_rfl), (show Try.prog.cellsOf 49 = 1 by kernel_rfl), (show Try.prog.cellsOf 51 = 3 by kernel_rfl), (show Try.prog.cellsOf 52 = 3 by kernel_rfl), (show Try.prog.cellsOf 55 = 1 by kernel_rfl), (show Try.prog.cellsOf 56 = 1 by kernel_rfl), (show Try.prog.cellsOf 57 = 1 by kernel_rfl), (show Try.prog.cellsOf 58 = 1 by kernel_rfl), (show Try.prog.cellsOf 59 = 1 by kernel_rfl), (show Try.prog.cellsOf 70 = 1 by kernel_rfl), (show Try.prog.cellsOf 72 = 2 by kernel_rfl), (show Try.prog.cellsOf 73 = 2 by kernel_rfl), (show Try.prog.cellsOf 77 = 1 by kernel_rfl), (show Try.prog.cellsOf 82 = 1 by kernel_rfl), (show Try.prog.cellsOf 83 = 3 by kernel_rfl), (show Try.prog.cellsOf 84 = 3 by kernel_rfl), (show Try.prog.cellsOf 92 = 1 by kernel_rfl), (show Try.prog.cellsOf 94 = 2 by kernel_rfl), (show Try.prog.cellsOf 95 = 2 by kernel_rfl), (show Try.prog.cellsOf 115 = 0 by kernel_rfl), (show Try.prog.cellsOf 116 = 0 by kernel_rfl), (show Try.prog.cellsOf 122 = 1 by kernel_rfl), (show Try.prog.cellsOf 125 = 11 by kernel_rfl), trivial⟩

def tabB : List (Nat × Nat) := [(2, 8),
  (3, 8),
  (4, 1),
  (5, 1),
  (7, 24),
  (9, 16),
  (12, 8),
  (13, 24),
  (18, 8),
  (21, 4),
  (22, 4),
  (23, 8),
  (24, 24),
  (25, 40),
  (26, 40),
  (27, 56),
  (28, 56),
  (29, 8),
  (30, 8),
  (31, 24),
  (32, 24),
  (33, 184),
  (34, 184),
  (35, 24),
  (39, 8),
  (49, 8),
  (51, 16),
  (52, 16),
  (55, 8),
  (56, 24),
  (57, 24),
  (58, 24),
  (59, 24),
  (70, 8),
  (72, 16),
  (73, 16),
  (77, 8),
  (82, 8),
  (83, 40),
  (84, 40),
  (92, 8),
  (94, 32),
  (95, 32),
  (115, 0),
  (116, 0),
  (122, 8),
  (125, 48)]
theorem tabBOk : AllP (fun p => Try.prog.bytesOf p.1 = p.2) tabB := ⟨(show Try.prog.bytesOf 2 = 8 by kernel_rfl), (show Try.prog.bytesOf 3 = 8 by kernel_rfl), (show Try.prog.bytesOf 4 = 1 by kernel_rfl), (show Try.prog.bytesOf 5 = 1 by kernel_rfl), (show Try.prog.bytesOf 7 = 24 by kernel_rfl), (show Try.prog.bytesOf 9 = 16 by kernel_rfl), (show Try.prog.bytesOf 12 = 8 by kernel_rfl), (show Try.prog.bytesOf 13 = 24 by kernel_rfl), (show Try.prog.bytesOf 18 = 8 by kernel_rfl), (show Try.prog.bytesOf 21 = 4 by kernel_rfl), (show Try.prog.bytesOf 22 = 4 by kernel_rfl), (show Try.prog.bytesOf 23 = 8 by kernel_rfl), (show Try.prog.bytesOf 24 = 24 by kernel_rfl), (show Try.prog.bytesOf 25 = 40 by kernel_rfl), (show Try.prog.bytesOf 26 = 40 by kernel_rfl), (show Try.prog.bytesOf 27 = 56 by kernel_rfl), (show Try.prog.bytesOf 28 = 56 by kernel_rfl), (show Try.prog.bytesOf 29 = 8 by kernel_rfl), (show Try.prog.bytesOf 30 = 8 by kernel_rfl), (show Try.prog.bytesOf 31 = 24 by kernel_rfl), (show Try.prog.bytesOf 32 = 24 by kernel_rfl), (show Try.prog.bytesOf 33 = 184 by kernel_rfl), (show Try.prog.bytesOf 34 = 184 by kernel_rfl), (show Try.prog.bytesOf 35 = 24 by kernel_rfl), (show Try.prog.bytesOf 39 = 8 by kernel_rfl), (show Try.prog.bytesOf 49 = 8 by kernel_rfl), (show Try.prog.bytesOf 51 = 16 by kernel_rfl), (show Try.prog.bytesOf 52 = 16 by kernel_rfl), (show Try.prog.bytesOf 55 = 8 by kernel_rfl), (show Try.prog.bytesOf 56 = 24 by kernel_rfl), (show Try.prog.bytesOf 57 = 24 by kernel_rfl), (show Try.prog.bytesOf 58 = 24 by kernel_rfl), (show Try.prog.bytesOf 59 = 24 by kernel_rfl), (show Try.prog.bytesOf 70 = 8 by kernel_rfl), (show Try.prog.bytesOf 72 = 16 by kernel_rfl), (show Try.prog.bytesOf 73 = 16 by kernel_rfl), (show Try.prog.bytesOf 77 = 8 by kernel_rfl), (show Try.prog.bytesOf 82 = 8 by kernel_rfl), (show Try.prog.bytesOf 83 = 40 by kernel_rfl), (show Try.prog.bytesOf 84 = 40 by kernel_rfl), (show Try.prog.bytesOf 92 = 8 by kernel_rfl), (show Try.prog.bytesOf 94 = 32 by kernel_rfl), (show Try.prog.bytesOf 95 = 32 by kernel_rfl), (show Try.prog.bytesOf 115 = 0 by kernel_rfl), (show Try.prog.bytesOf 116 = 0 by kernel_rfl), (show Try.prog.bytesOf 122 = 8 by kernel_rfl), (show Try.prog.bytesOf 125 = 48 by kernel_rfl), trivial⟩

def tabZ : List (Nat × Value) := [(2, .int .i64 0),
  (3, .int .i64 0),
  (4, .bool false),
  (5, .int .u8 0),
  (7, .agg #[.int .i64 0, .int .i64 0, .bool false, .int .u8 0]),
  (9, .string ⟨#[]⟩),
  (12, .int .u64 0),
  (13, .agg #[.string ⟨#[]⟩, .int .u64 0]),
  (18, .agg #[.pointer none]),
  (21, .int .i32 0),
  (22, .int .u32 0),
  (23, .int .u64 0),
  (24, .slice none 0 0),
  (25, .agg #[.int .u64 0, .int .u64 0, .slice none 0 0]),
  (26, .agg #[.int .u64 0, .int .u64 0, .slice none 0 0]),
  (27, .agg #[.int .u32 0, .int .u64 0, .int .u64 0, .slice none 0 0, .bool false]),
  (28, .agg #[.int .u32 0, .int .u64 0, .int .u64 0, .slice none 0 0, .bool false]),
  (29, .agg #[.int .u32 0, .int .u32 0]),
  (30, .agg #[.int .u32 0, .int .u32 0]),
  (31, .slice none 0 0),
  (32, .slice none 0 0),
  (33, .agg #[.int .i64 0, .int .i64 0, .int .u32 0, .int .i64 0, .int .i64 0, .int .u32 0, .int .i64 0, .int .u32 0, .int .i64 0, .int .u32 0, .int .u64 0, .int .u64 0, .slice none 0 0, .bool false, .int .u32 0, .int .u32 0, .slice none 0 0, .slice none 0 0]),
  (34, .agg #[.int .i64 0, .int .i64 0, .int .u32 0, .int .i64 0, .int .i64 0, .int .u32 0, .int .i64 0, .int .u32 0, .int .i64 0, .int .u32 0, .int .u64 0, .int .u64 0, .slice none 0 0, .bool false, .int .u32 0, .int .u32 0, .slice none 0 0, .slice none 0 0]),
  (35, .slice none 0 0),
  (39, .int .i64 0),
  (49, .int .u64 0),
  (51, .agg #[.int .i64 0, .int .u32 0, .int .u32 0]),
  (52, .agg #[.int .i64 0, .int .u32 0, .int .u32 0]),
  (55, .pointer none),
  (56, .agg #[.slice none 0 0]),
  (57, .agg #[.slice none 0 0]),
  (58, .agg #[.slice none 0 0]),
  (59, .agg #[.slice none 0 0]),
  (70, .pointer none),
  (72, .agg #[.pointer none, .int .i64 0]),
  (73, .agg #[.pointer none, .int .i64 0]),
  (77, .pointer none),
  (82, .pointer none),
  (83, .agg #[.slice none 0 0, .int .i64 0, .int .i64 0]),
  (84, .agg #[.slice none 0 0, .int .i64 0, .int .i64 0]),
  (92, .pointer none),
  (94, .agg #[.slice none 0 0, .int .i64 0]),
  (95, .agg #[.slice none 0 0, .int .i64 0]),
  (115, .agg #[]),
  (116, .agg #[]),
  (122, .pointer none),
  (125, .agg #[.int .u64 0, .int .u64 0, .int .u32 0, .int .u8 0, .int .u8 0, .int .u8 0, .int .u8 0, .nilFunc, .pointer none, .int .i32 0, .int .i32 0])]
theorem tabZOk : AllP (fun p => zeroOf Try.prog p.1 = some p.2) tabZ := ⟨(show zeroOf Try.prog 2 = some (.int .i64 0) by kernel_rfl), (show zeroOf Try.prog 3 = some (.int .i64 0) by kernel_rfl), (show zeroOf Try.prog 4 = some (.bool false) by kernel_rfl), (show zeroOf Try.prog 5 = some (.int .u8 0) by kernel_rfl), (show zeroOf Try.prog 7 = some (.agg #[.int .i64 0, .int .i64 0, .bool false, .int .u8 0]) by kernel_rfl), (show zeroOf Try.prog 9 = some (.string ⟨#[]⟩) by kernel_rfl), (show zeroOf Try.prog 12 = some (.int .u64 0) by kernel_rfl), (show zeroOf Try.prog 13 = some (.agg #[.string ⟨#[]⟩, .int .u64 0]) by kernel_rfl), (show zeroOf Try.prog 18 = some (.agg #[.pointer none]) by kernel_rfl), (show zeroOf Try.prog 21 = some (.int .i32 0) by kernel_rfl), (show zeroOf Try.prog 22 = some (.int .u32 0) by kernel_rfl), (show zeroOf Try.prog 23 = some (.int .u64 0) by kernel_rfl), (show zeroOf Try.prog 24 = some (.slice none 0 0) by kernel_rfl), (show zeroOf Try.prog 25 = some (.agg #[.int .u64 0, .int .u64 0, .slice none 0 0]) by kernel_rfl), (show zeroOf Try.prog 26 = some (.agg #[.int .u64 0, .int .u64 0, .slice none 0 0]) by kernel_rfl), (show zeroOf Try.prog 27 = some (.agg #[.int .u32 0, .int .u64 0, .int .u64 0, .slice none 0 0, .bool false]) by kernel_rfl), (show zeroOf Try.prog 28 = some (.agg #[.int .u32 0, .int .u64 0, .int .u64 0, .slice none 0 0, .bool false]) by kernel_rfl), (show zeroOf Try.prog 29 = some (.agg #[.int .u32 0, .int .u32 0]) by kernel_rfl), (show zeroOf Try.prog 30 = some (.agg #[.int .u32 0, .int .u32 0]) by kernel_rfl), (show zeroOf Try.prog 31 = some (.slice none 0 0) by kernel_rfl), (show zeroOf Try.prog 32 = some (.slice none 0 0) by kernel_rfl), (show zeroOf Try.prog 33 = some (.agg #[.int .i64 0, .int .i64 0, .int .u32 0, .int .i64 0, .int .i64 0, .int .u32 0, .int .i64 0, .int .u32 0, .int .i64 0, .int .u32 0, .int .u64 0, .int .u64 0, .slice none 0 0, .bool false, .int .u32 0, .int .u32 0, .slice none 0 0, .slice none 0 0]) by kernel_rfl), (show zeroOf Try.prog 34 = some (.agg #[.int .i64 0, .int .i64 0, .int .u32 0, .int .i64 0, .int .i64 0, .int .u32 0, .int .i64 0, .int .u32 0, .int .i64 0, .int .u32 0, .int .u64 0, .int .u64 0, .slice none 0 0, .bool false, .int .u32 0, .int .u32 0, .slice none 0 0, .slice none 0 0]) by kernel_rfl), (show zeroOf Try.prog 35 = some (.slice none 0 0) by kernel_rfl), (show zeroOf Try.prog 39 = some (.int .i64 0) by kernel_rfl), (show zeroOf Try.prog 49 = some (.int .u64 0) by kernel_rfl), (show zeroOf Try.prog 51 = some (.agg #[.int .i64 0, .int .u32 0, .int .u32 0]) by kernel_rfl), (show zeroOf Try.prog 52 = some (.agg #[.int .i64 0, .int .u32 0, .int .u32 0]) by kernel_rfl), (show zeroOf Try.prog 55 = some (.pointer none) by kernel_rfl), (show zeroOf Try.prog 56 = some (.agg #[.slice none 0 0]) by kernel_rfl), (show zeroOf Try.prog 57 = some (.agg #[.slice none 0 0]) by kernel_rfl), (show zeroOf Try.prog 58 = some (.agg #[.slice none 0 0]) by kernel_rfl), (show zeroOf Try.prog 59 = some (.agg #[.slice none 0 0]) by kernel_rfl), (show zeroOf Try.prog 70 = some (.pointer none) by kernel_rfl), (show zeroOf Try.prog 72 = some (.agg #[.pointer none, .int .i64 0]) by kernel_rfl), (show zeroOf Try.prog 73 = some (.agg #[.pointer none, .int .i64 0]) by kernel_rfl), (show zeroOf Try.prog 77 = some (.pointer none) by kernel_rfl), (show zeroOf Try.prog 82 = some (.pointer none) by kernel_rfl), (show zeroOf Try.prog 83 = some (.agg #[.slice none 0 0, .int .i64 0, .int .i64 0]) by kernel_rfl), (show zeroOf Try.prog 84 = some (.agg #[.slice none 0 0, .int .i64 0, .int .i64 0]) by kernel_rfl), (show zeroOf Try.prog 92 = some (.pointer none) by kernel_rfl), (show zeroOf Try.prog 94 = some (.agg #[.slice none 0 0, .int .i64 0]) by kernel_rfl), (show zeroOf Try.prog 95 = some (.agg #[.slice none 0 0, .int .i64 0]) by kernel_rfl), (show zeroOf Try.prog 115 = some (.agg #[]) by kernel_rfl), (show zeroOf Try.prog 116 = some (.agg #[]) by kernel_rfl), (show zeroOf Try.prog 122 = some (.pointer none) by kernel_rfl), (show zeroOf Try.prog 125 = some (.agg #[.int .u64 0, .int .u64 0, .int .u32 0, .int .u8 0, .int .u8 0, .int .u8 0, .int .u8 0, .nilFunc, .pointer none, .int .i32 0, .int .i32 0]) by kernel_rfl), trivial⟩

def tabE : List Nat := [30, 52]
theorem tabEOk : AllP (fun t => Try.prog.eqGuardType Try.prog.depth t = false ∧ Try.prog.stoodInHeld t = false) tabE := ⟨⟨by kernel_rfl, by kernel_rfl⟩, ⟨by kernel_rfl, by kernel_rfl⟩, trivial⟩

def tabF : List Nat := [3, 4, 5, 6, 7, 8, 9, 10, 11, 12, 13, 14, 15, 16, 17, 18, 19, 20, 21, 22, 23, 24, 25, 26, 27, 28, 29, 30, 31, 32, 33, 34, 35, 36, 37, 38, 39, 40, 41, 42, 43, 44, 45, 46, 47, 48, 49, 50, 51, 52, 53, 54, 55, 56, 57, 58, 59, 60, 61, 62, 63, 64, 65, 66, 67, 68, 69, 70, 71, 72, 73, 74, 75, 76, 77, 78]
theorem tabFOk : AllP (fun f => ∃ c, Try.prog.funcs[f]? = some c ∧ c.body.isSome = true ∧ (c.name == "runtime.NumGoroutine") = false) tabF := ⟨⟨_, Try.func3, by kernel_rfl, by kernel_rfl⟩, ⟨_, Try.func4, by kernel_rfl, by kernel_rfl⟩, ⟨_, Try.func5, by kernel_rfl, by kernel_rfl⟩, ⟨_, Try.func6, by kernel_rfl, by kernel_rfl⟩, ⟨_, Try.func7, by kernel_rfl, by kernel_rfl⟩, ⟨_, Try.func8, by kernel_rfl, by kernel_rfl⟩, ⟨_, Try.func9, by kernel_rfl, by kernel_rfl⟩, ⟨_, Try.func10, by kernel_rfl, by kernel_rfl⟩, ⟨_, Try.func11, by kernel_rfl, by kernel_rfl⟩, ⟨_, Try.func12, by kernel_rfl, by kernel_rfl⟩, ⟨_, Try.func13, by kernel_rfl, by kernel_rfl⟩, ⟨_, Try.func14, by kernel_rfl, by kernel_rfl⟩, ⟨_, Try.func15, by kernel_rfl, by kernel_rfl⟩, ⟨_, Try.func16, by kernel_rfl, by kernel_rfl⟩, ⟨_, Try.func17, by kernel_rfl, by kernel_rfl⟩, ⟨_, Try.func18, by kernel_rfl, by kernel_rfl⟩, ⟨_, Try.func19, by kernel_rfl, by kernel_rfl⟩, ⟨_, Try.func20, by kernel_rfl, by kernel_rfl⟩, ⟨_, Try.func21, by kernel_rfl, by kernel_rfl⟩, ⟨_, Try.func22, by kernel_rfl, by kernel_rfl⟩, ⟨_, Try.func23, by kernel_rfl, by kernel_rfl⟩, ⟨_, Try.func24, by kernel_rfl, by kernel_rfl⟩, ⟨_, Try.func25, by kernel_rfl, by kernel_rfl⟩, ⟨_, Try.func26, by kernel_rfl, by kernel_rfl⟩, ⟨_, Try.func27, by kernel_rfl, by kernel_rfl⟩, ⟨_, Try.func28, by kernel_rfl, by kernel_rfl⟩, ⟨_, Try.func29, by kernel_rfl, by kernel_rfl⟩, ⟨_, Try.func30, by kernel_rfl, by kernel_rfl⟩, ⟨_, Try.func31, by kernel_rfl, by kernel_rfl⟩, ⟨_, Try.func32, by kernel_rfl, by kernel_rfl⟩, ⟨_, Try.func33, by kernel_rfl, by kernel_rfl⟩, ⟨_, Try.func34, by kernel_rfl, by kernel_rfl⟩, ⟨_, Try.func35, by kernel_rfl, by kernel_rfl⟩, ⟨_, Try.func36, by kernel_rfl, by kernel_rfl⟩, ⟨_, Try.func37, by kernel_rfl, by kernel_rfl⟩, ⟨_, Try.func38, by kernel_rfl, by kernel_rfl⟩, ⟨_, Try.func39, by kernel_rfl, by kernel_rfl⟩, ⟨_, Try.func40, by kernel_rfl, by kernel_rfl⟩, ⟨_, Try.func41, by kernel_rfl, by kernel_rfl⟩, ⟨_, Try.func42, by kernel_rfl, by kernel_rfl⟩, ⟨_, Try.func43, by kernel_rfl, by kernel_rfl⟩, ⟨_, Try.func44, by kernel_rfl, by kernel_rfl⟩, ⟨_, Try.func45, by kernel_rfl, by kernel_rfl⟩, ⟨_, Try.func46, by kernel_rfl, by kernel_rfl⟩, ⟨_, Try.func47, by kernel_rfl, by kernel_rfl⟩, ⟨_, Try.func48, by kernel_rfl, by kernel_rfl⟩, ⟨_, Try.func49, by kernel_rfl, by kernel_rfl⟩, ⟨_, Try.func50, by kernel_rfl, by kernel_rfl⟩, ⟨_, Try.func51, by kernel_rfl, by kernel_rfl⟩, ⟨_, Try.func52, by kernel_rfl, by kernel_rfl⟩, ⟨_, Try.func53, by kernel_rfl, by kernel_rfl⟩, ⟨_, Try.func54, by kernel_rfl, by kernel_rfl⟩, ⟨_, Try.func55, by kernel_rfl, by kernel_rfl⟩, ⟨_, Try.func56, by kernel_rfl, by kernel_rfl⟩, ⟨_, Try.func57, by kernel_rfl, by kernel_rfl⟩, ⟨_, Try.func58, by kernel_rfl, by kernel_rfl⟩, ⟨_, Try.func59, by kernel_rfl, by kernel_rfl⟩, ⟨_, Try.func60, by kernel_rfl, by kernel_rfl⟩, ⟨_, Try.func61, by kernel_rfl, by kernel_rfl⟩, ⟨_, Try.func62, by kernel_rfl, by kernel_rfl⟩, ⟨_, Try.func63, by kernel_rfl, by kernel_rfl⟩, ⟨_, Try.func64, by kernel_rfl, by kernel_rfl⟩, ⟨_, Try.func65, by kernel_rfl, by kernel_rfl⟩, ⟨_, Try.func66, by kernel_rfl, by kernel_rfl⟩, ⟨_, Try.func67, by kernel_rfl, by kernel_rfl⟩, ⟨_, Try.func68, by kernel_rfl, by kernel_rfl⟩, ⟨_, Try.func69, by kernel_rfl, by kernel_rfl⟩, ⟨_, Try.func70, by kernel_rfl, by kernel_rfl⟩, ⟨_, Try.func71, by kernel_rfl, by kernel_rfl⟩, ⟨_, Try.func72, by kernel_rfl, by kernel_rfl⟩, ⟨_, Try.func73, by kernel_rfl, by kernel_rfl⟩, ⟨_, Try.func74, by kernel_rfl, by kernel_rfl⟩, ⟨_, Try.func75, by kernel_rfl, by kernel_rfl⟩, ⟨_, Try.func76, by kernel_rfl, by kernel_rfl⟩, ⟨_, Try.func77, by kernel_rfl, by kernel_rfl⟩, ⟨_, Try.func78, by kernel_rfl, by kernel_rfl⟩, trivial⟩

def tabL : TabL Try.prog := ⟨tabU, tabUOk, tabS, tabSOk, tabB, tabBOk, tabZ, tabZOk, tabE, tabEOk, tabF, tabFOk, by kernel_rfl⟩
def tab : Tab Try.prog := tabL.tab

theorem tsz7 : tab.sz 7 = 4 := rfl
theorem tsz13 : tab.sz 13 = 2 := rfl
theorem tsz18 : tab.sz 18 = 1 := rfl
theorem tsz25 : tab.sz 25 = 3 := rfl
theorem tsz26 : tab.sz 26 = 3 := rfl
theorem tsz27 : tab.sz 27 = 5 := rfl
theorem tsz28 : tab.sz 28 = 5 := rfl
theorem tsz29 : tab.sz 29 = 2 := rfl
theorem tsz30 : tab.sz 30 = 2 := rfl
theorem tsz33 : tab.sz 33 = 18 := rfl
theorem tsz34 : tab.sz 34 = 18 := rfl
theorem tsz51 : tab.sz 51 = 3 := rfl
theorem tsz52 : tab.sz 52 = 3 := rfl
theorem tsz56 : tab.sz 56 = 1 := rfl
theorem tsz57 : tab.sz 57 = 1 := rfl
theorem tsz58 : tab.sz 58 = 1 := rfl
theorem tsz59 : tab.sz 59 = 1 := rfl
theorem tsz72 : tab.sz 72 = 2 := rfl
theorem tsz73 : tab.sz 73 = 2 := rfl
theorem tsz83 : tab.sz 83 = 3 := rfl
theorem tsz84 : tab.sz 84 = 3 := rfl
theorem tsz94 : tab.sz 94 = 2 := rfl
theorem tsz95 : tab.sz 95 = 2 := rfl
theorem tsz115 : tab.sz 115 = 0 := rfl
theorem tsz116 : tab.sz 116 = 0 := rfl
theorem tsz125 : tab.sz 125 = 11 := rfl
theorem tbs5 : tab.bs 5 = 1 := rfl
theorem tbs22 : tab.bs 22 = 4 := rfl
theorem tbs26 : tab.bs 26 = 40 := rfl
theorem tbs52 : tab.bs 52 = 16 := rfl
theorem tsz5 : tab.sz 5 = 1 := rfl
theorem tsz22 : tab.sz 22 = 1 := rfl
end Go.Gh
