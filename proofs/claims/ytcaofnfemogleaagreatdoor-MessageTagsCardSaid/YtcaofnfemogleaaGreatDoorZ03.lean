/- Parts of the proof, one behind the other, each under its own heading. No conditions. -/
import Derived.Test.YtcaofnfemogleaaGreatDoorZ02
import Derived.Test.YtcaofnfemogleaaGreatDoorProg
import Derived.Laws.IdiomStrings
import Derived.Laws.IdiomCopy
/- Facts on the types and the functions of this translation, as instances: printed by a program (types.py). -/
namespace Go.Proofs.YtcaofnfemogleaaGreatDoor
open Go
instance : Und Tryz.prog 0 (Go.TypeDesc.tuple #[]) := ⟨Tryz.underlying0⟩
instance : Und Tryz.prog 1 (Go.TypeDesc.func #[] #[] false) := ⟨Tryz.underlying1⟩
instance : Siz Tryz.prog 1 1 := ⟨by kernel_rfl⟩
instance : Byt Tryz.prog 1 8 := ⟨by kernel_rfl⟩
instance : Zer Tryz.prog 1 (.nilFunc) := ⟨by kernel_rfl⟩
instance : Und Tryz.prog 2 (Go.TypeDesc.int Go.IntKind.i64) := ⟨Tryz.underlying2⟩
instance : Siz Tryz.prog 2 1 := ⟨by kernel_rfl⟩
instance : Byt Tryz.prog 2 8 := ⟨by kernel_rfl⟩
instance : Zer Tryz.prog 2 (.int .i64 0) := ⟨by kernel_rfl⟩
instance : Und Tryz.prog 3 (Go.TypeDesc.int Go.IntKind.i64) := ⟨Tryz.underlying3⟩
instance : Siz Tryz.prog 3 1 := ⟨by kernel_rfl⟩
instance : Byt Tryz.prog 3 8 := ⟨by kernel_rfl⟩
instance : Zer Tryz.prog 3 (.int .i64 0) := ⟨by kernel_rfl⟩
instance : Und Tryz.prog 4 (Go.TypeDesc.bool) := ⟨Tryz.underlying4⟩
instance : Siz Tryz.prog 4 1 := ⟨by kernel_rfl⟩
instance : Byt Tryz.prog 4 1 := ⟨by kernel_rfl⟩
instance : Zer Tryz.prog 4 (.bool false) := ⟨by kernel_rfl⟩
instance : Und Tryz.prog 5 (Go.TypeDesc.int Go.IntKind.u8) := ⟨Tryz.underlying5⟩
instance : Siz Tryz.prog 5 1 := ⟨by kernel_rfl⟩
instance : Byt Tryz.prog 5 1 := ⟨by kernel_rfl⟩
instance : Zer Tryz.prog 5 (.int .u8 0) := ⟨by kernel_rfl⟩
instance : Und Tryz.prog 6 (Go.TypeDesc.int Go.IntKind.u8) := ⟨Tryz.underlying6⟩
instance : Siz Tryz.prog 6 1 := ⟨by kernel_rfl⟩
instance : Byt Tryz.prog 6 1 := ⟨by kernel_rfl⟩
instance : Zer Tryz.prog 6 (.int .u8 0) := ⟨by kernel_rfl⟩
instance : Und Tryz.prog 7 (Go.TypeDesc.struct #[{ name := "x", type := 2, offset := 0, embedded := false, tag := "", pkgPath := "runtime", byteOffset := 0 }, { name := "y", type := 3, offset := 1, embedded := false, tag := "", pkgPath := "runtime", byteOffset := 8 }, { name := "signed", type := 4, offset := 2, embedded := false, tag := "", pkgPath := "runtime", byteOffset := 16 }, { name := "code", type := 6, offset := 3, embedded := false, tag := "", pkgPath := "runtime", byteOffset := 17 }]) := ⟨Tryz.underlying7⟩
instance : Siz Tryz.prog 7 4 := ⟨by kernel_rfl⟩
instance : Byt Tryz.prog 7 24 := ⟨by kernel_rfl⟩
instance : Plc Tryz.prog 7 [(0, 1), (1, 1), (2, 1), (3, 1)] := ⟨fun fs w h => by rw [Tryz.underlying7] at h; cases h; kernel_rfl⟩
instance : Zer Tryz.prog 7 (.agg (([.int .i64 0, .int .i64 0, .bool false, .int .u8 0] : List Value)).toArray) := ⟨by kernel_rfl⟩
instance : Und Tryz.prog 8 (Go.TypeDesc.struct #[{ name := "x", type := 2, offset := 0, embedded := false, tag := "", pkgPath := "runtime", byteOffset := 0 }, { name := "y", type := 3, offset := 1, embedded := false, tag := "", pkgPath := "runtime", byteOffset := 8 }, { name := "signed", type := 4, offset := 2, embedded := false, tag := "", pkgPath := "runtime", byteOffset := 16 }, { name := "code", type := 6, offset := 3, embedded := false, tag := "", pkgPath := "runtime", byteOffset := 17 }]) := ⟨Tryz.underlying8⟩
instance : Siz Tryz.prog 8 4 := ⟨by kernel_rfl⟩
instance : Byt Tryz.prog 8 24 := ⟨by kernel_rfl⟩
instance : Plc Tryz.prog 8 [(0, 1), (1, 1), (2, 1), (3, 1)] := ⟨fun fs w h => by rw [Tryz.underlying8] at h; cases h; kernel_rfl⟩
instance : Zer Tryz.prog 8 (.agg (([.int .i64 0, .int .i64 0, .bool false, .int .u8 0] : List Value)).toArray) := ⟨by kernel_rfl⟩
instance : Und Tryz.prog 9 (Go.TypeDesc.string) := ⟨Tryz.underlying9⟩
instance : Siz Tryz.prog 9 1 := ⟨by kernel_rfl⟩
instance : Byt Tryz.prog 9 16 := ⟨by kernel_rfl⟩
instance : Zer Tryz.prog 9 (.string ByteArray.empty) := ⟨by kernel_rfl⟩
instance : Und Tryz.prog 10 (Go.TypeDesc.string) := ⟨Tryz.underlying10⟩
instance : Siz Tryz.prog 10 1 := ⟨by kernel_rfl⟩
instance : Byt Tryz.prog 10 16 := ⟨by kernel_rfl⟩
instance : Zer Tryz.prog 10 (.string ByteArray.empty) := ⟨by kernel_rfl⟩
instance : Und Tryz.prog 11 (Go.TypeDesc.string) := ⟨Tryz.underlying11⟩
instance : Siz Tryz.prog 11 1 := ⟨by kernel_rfl⟩
instance : Byt Tryz.prog 11 16 := ⟨by kernel_rfl⟩
instance : Zer Tryz.prog 11 (.string ByteArray.empty) := ⟨by kernel_rfl⟩
instance : Und Tryz.prog 12 (Go.TypeDesc.int Go.IntKind.u64) := ⟨Tryz.underlying12⟩
instance : Siz Tryz.prog 12 1 := ⟨by kernel_rfl⟩
instance : Byt Tryz.prog 12 8 := ⟨by kernel_rfl⟩
instance : Zer Tryz.prog 12 (.int .u64 0) := ⟨by kernel_rfl⟩
instance : Und Tryz.prog 13 (Go.TypeDesc.struct #[{ name := "msg", type := 9, offset := 0, embedded := false, tag := "", pkgPath := "runtime", byteOffset := 0 }, { name := "addr", type := 12, offset := 1, embedded := false, tag := "", pkgPath := "runtime", byteOffset := 16 }]) := ⟨Tryz.underlying13⟩
instance : Siz Tryz.prog 13 2 := ⟨by kernel_rfl⟩
instance : Byt Tryz.prog 13 24 := ⟨by kernel_rfl⟩
instance : Plc Tryz.prog 13 [(0, 1), (1, 1)] := ⟨fun fs w h => by rw [Tryz.underlying13] at h; cases h; kernel_rfl⟩
instance : Zer Tryz.prog 13 (.agg (([.string ByteArray.empty, .int .u64 0] : List Value)).toArray) := ⟨by kernel_rfl⟩
instance : Und Tryz.prog 14 (Go.TypeDesc.struct #[{ name := "msg", type := 9, offset := 0, embedded := false, tag := "", pkgPath := "runtime", byteOffset := 0 }, { name := "addr", type := 12, offset := 1, embedded := false, tag := "", pkgPath := "runtime", byteOffset := 16 }]) := ⟨Tryz.underlying14⟩
instance : Siz Tryz.prog 14 2 := ⟨by kernel_rfl⟩
instance : Byt Tryz.prog 14 24 := ⟨by kernel_rfl⟩
instance : Plc Tryz.prog 14 [(0, 1), (1, 1)] := ⟨fun fs w h => by rw [Tryz.underlying14] at h; cases h; kernel_rfl⟩
instance : Zer Tryz.prog 14 (.agg (([.string ByteArray.empty, .int .u64 0] : List Value)).toArray) := ⟨by kernel_rfl⟩
instance : Und Tryz.prog 15 (Go.TypeDesc.pointer 134) := ⟨Tryz.underlying15⟩
instance : Siz Tryz.prog 15 1 := ⟨by kernel_rfl⟩
instance : Byt Tryz.prog 15 8 := ⟨by kernel_rfl⟩
instance : Zer Tryz.prog 15 (.pointer none) := ⟨by kernel_rfl⟩
instance : Und Tryz.prog 16 (Go.TypeDesc.pointer 137) := ⟨Tryz.underlying16⟩
instance : Siz Tryz.prog 16 1 := ⟨by kernel_rfl⟩
instance : Byt Tryz.prog 16 8 := ⟨by kernel_rfl⟩
instance : Zer Tryz.prog 16 (.pointer none) := ⟨by kernel_rfl⟩
instance : Und Tryz.prog 17 (Go.TypeDesc.pointer 145) := ⟨Tryz.underlying17⟩
instance : Siz Tryz.prog 17 1 := ⟨by kernel_rfl⟩
instance : Byt Tryz.prog 17 8 := ⟨by kernel_rfl⟩
instance : Zer Tryz.prog 17 (.pointer none) := ⟨by kernel_rfl⟩
instance : Und Tryz.prog 18 (Go.TypeDesc.struct #[{ name := "typ", type := 17, offset := 0, embedded := false, tag := "", pkgPath := "internal/runtime/maps", byteOffset := 0 }]) := ⟨Tryz.underlying18⟩
instance : Siz Tryz.prog 18 1 := ⟨by kernel_rfl⟩
instance : Byt Tryz.prog 18 8 := ⟨by kernel_rfl⟩
instance : Plc Tryz.prog 18 [(0, 1)] := ⟨fun fs w h => by rw [Tryz.underlying18] at h; cases h; kernel_rfl⟩
instance : Zer Tryz.prog 18 (.agg #[.pointer none]) := ⟨by kernel_rfl⟩
instance : Und Tryz.prog 19 (Go.TypeDesc.struct #[{ name := "typ", type := 17, offset := 0, embedded := false, tag := "", pkgPath := "internal/runtime/maps", byteOffset := 0 }]) := ⟨Tryz.underlying19⟩
instance : Siz Tryz.prog 19 1 := ⟨by kernel_rfl⟩
instance : Byt Tryz.prog 19 8 := ⟨by kernel_rfl⟩
instance : Plc Tryz.prog 19 [(0, 1)] := ⟨fun fs w h => by rw [Tryz.underlying19] at h; cases h; kernel_rfl⟩
instance : Zer Tryz.prog 19 (.agg #[.pointer none]) := ⟨by kernel_rfl⟩
instance : Und Tryz.prog 20 (Go.TypeDesc.interface #[]) := ⟨Tryz.underlying20⟩
instance : Siz Tryz.prog 20 1 := ⟨by kernel_rfl⟩
instance : Byt Tryz.prog 20 16 := ⟨by kernel_rfl⟩
instance : Zer Tryz.prog 20 (.nilIface) := ⟨by kernel_rfl⟩
instance : Und Tryz.prog 21 (Go.TypeDesc.int Go.IntKind.i32) := ⟨Tryz.underlying21⟩
instance : Siz Tryz.prog 21 1 := ⟨by kernel_rfl⟩
instance : Byt Tryz.prog 21 4 := ⟨by kernel_rfl⟩
instance : Zer Tryz.prog 21 (.int .i32 0) := ⟨by kernel_rfl⟩
instance : Und Tryz.prog 22 (Go.TypeDesc.slice 5) := ⟨Tryz.underlying22⟩
instance : Siz Tryz.prog 22 1 := ⟨by kernel_rfl⟩
instance : Byt Tryz.prog 22 24 := ⟨by kernel_rfl⟩
instance : Zer Tryz.prog 22 (.slice none 0 0) := ⟨by kernel_rfl⟩
instance : Und Tryz.prog 23 (Go.TypeDesc.int Go.IntKind.u64) := ⟨Tryz.underlying23⟩
instance : Siz Tryz.prog 23 1 := ⟨by kernel_rfl⟩
instance : Byt Tryz.prog 23 8 := ⟨by kernel_rfl⟩
instance : Zer Tryz.prog 23 (.int .u64 0) := ⟨by kernel_rfl⟩
instance : Und Tryz.prog 24 (Go.TypeDesc.array 32 5) := ⟨Tryz.underlying24⟩
instance : Siz Tryz.prog 24 32 := ⟨by kernel_rfl⟩
instance : Byt Tryz.prog 24 32 := ⟨by kernel_rfl⟩
instance : Zer Tryz.prog 24 (.agg ((List.replicate 32 (.int .u8 0) : List Value)).toArray) := ⟨by kernel_rfl⟩
instance : Und Tryz.prog 25 (Go.TypeDesc.func #[] #[4] false) := ⟨Tryz.underlying25⟩
instance : Siz Tryz.prog 25 1 := ⟨by kernel_rfl⟩
instance : Byt Tryz.prog 25 8 := ⟨by kernel_rfl⟩
instance : Zer Tryz.prog 25 (.nilFunc) := ⟨by kernel_rfl⟩
instance : Und Tryz.prog 26 (Go.TypeDesc.array 11 23) := ⟨Tryz.underlying26⟩
instance : Siz Tryz.prog 26 11 := ⟨by kernel_rfl⟩
instance : Byt Tryz.prog 26 88 := ⟨by kernel_rfl⟩
instance : Zer Tryz.prog 26 (.agg ((List.replicate 11 (.int .u64 0) : List Value)).toArray) := ⟨by kernel_rfl⟩
instance : Und Tryz.prog 27 (Go.TypeDesc.array 11 23) := ⟨Tryz.underlying27⟩
instance : Siz Tryz.prog 27 11 := ⟨by kernel_rfl⟩
instance : Byt Tryz.prog 27 88 := ⟨by kernel_rfl⟩
instance : Zer Tryz.prog 27 (.agg ((List.replicate 11 (.int .u64 0) : List Value)).toArray) := ⟨by kernel_rfl⟩
instance : Und Tryz.prog 28 (Go.TypeDesc.struct #[{ name := "Kind", type := 5, offset := 0, embedded := false, tag := "", pkgPath := "", byteOffset := 0 }, { name := "Key", type := 9, offset := 1, embedded := false, tag := "", pkgPath := "", byteOffset := 8 }, { name := "Value", type := 9, offset := 2, embedded := false, tag := "", pkgPath := "", byteOffset := 24 }, { name := "Old", type := 9, offset := 3, embedded := false, tag := "", pkgPath := "", byteOffset := 40 }, { name := "To", type := 9, offset := 4, embedded := false, tag := "", pkgPath := "", byteOffset := 56 }, { name := "Amount", type := 23, offset := 5, embedded := false, tag := "", pkgPath := "", byteOffset := 72 }]) := ⟨Tryz.underlying28⟩
instance : Siz Tryz.prog 28 6 := ⟨by kernel_rfl⟩
instance : Byt Tryz.prog 28 80 := ⟨by kernel_rfl⟩
instance : Plc Tryz.prog 28 [(0, 1), (1, 1), (2, 1), (3, 1), (4, 1), (5, 1)] := ⟨fun fs w h => by rw [Tryz.underlying28] at h; cases h; kernel_rfl⟩
instance : Zer Tryz.prog 28 (.agg (([.int .u8 0, .string ByteArray.empty, .string ByteArray.empty, .string ByteArray.empty, .string ByteArray.empty, .int .u64 0] : List Value)).toArray) := ⟨by kernel_rfl⟩
instance : Und Tryz.prog 29 (Go.TypeDesc.struct #[{ name := "Kind", type := 5, offset := 0, embedded := false, tag := "", pkgPath := "", byteOffset := 0 }, { name := "Key", type := 9, offset := 1, embedded := false, tag := "", pkgPath := "", byteOffset := 8 }, { name := "Value", type := 9, offset := 2, embedded := false, tag := "", pkgPath := "", byteOffset := 24 }, { name := "Old", type := 9, offset := 3, embedded := false, tag := "", pkgPath := "", byteOffset := 40 }, { name := "To", type := 9, offset := 4, embedded := false, tag := "", pkgPath := "", byteOffset := 56 }, { name := "Amount", type := 23, offset := 5, embedded := false, tag := "", pkgPath := "", byteOffset := 72 }]) := ⟨Tryz.underlying29⟩
instance : Siz Tryz.prog 29 6 := ⟨by kernel_rfl⟩
instance : Byt Tryz.prog 29 80 := ⟨by kernel_rfl⟩
instance : Plc Tryz.prog 29 [(0, 1), (1, 1), (2, 1), (3, 1), (4, 1), (5, 1)] := ⟨fun fs w h => by rw [Tryz.underlying29] at h; cases h; kernel_rfl⟩
instance : Zer Tryz.prog 29 (.agg (([.int .u8 0, .string ByteArray.empty, .string ByteArray.empty, .string ByteArray.empty, .string ByteArray.empty, .int .u64 0] : List Value)).toArray) := ⟨by kernel_rfl⟩
instance : Und Tryz.prog 30 (Go.TypeDesc.struct #[{ name := "Client", type := 3, offset := 0, embedded := false, tag := "", pkgPath := "", byteOffset := 0 }, { name := "Time", type := 23, offset := 1, embedded := false, tag := "", pkgPath := "", byteOffset := 8 }, { name := "Op", type := 29, offset := 2, embedded := false, tag := "", pkgPath := "", byteOffset := 16 }, { name := "Tag", type := 24, offset := 8, embedded := false, tag := "", pkgPath := "", byteOffset := 96 }]) := ⟨Tryz.underlying30⟩
instance : Siz Tryz.prog 30 40 := ⟨by kernel_rfl⟩
instance : Byt Tryz.prog 30 128 := ⟨by kernel_rfl⟩
instance : Plc Tryz.prog 30 [(0, 1), (1, 1), (2, 6), (8, 32)] := ⟨fun fs w h => by rw [Tryz.underlying30] at h; cases h; kernel_rfl⟩
instance : Zer Tryz.prog 30 (.agg (([.int .i64 0, .int .u64 0, .int .u8 0, .string ByteArray.empty, .string ByteArray.empty, .string ByteArray.empty, .string ByteArray.empty, .int .u64 0] : List Value) ++ (List.replicate 32 (.int .u8 0) : List Value)).toArray) := ⟨by kernel_rfl⟩
instance : Und Tryz.prog 31 (Go.TypeDesc.struct #[{ name := "Client", type := 3, offset := 0, embedded := false, tag := "", pkgPath := "", byteOffset := 0 }, { name := "Time", type := 23, offset := 1, embedded := false, tag := "", pkgPath := "", byteOffset := 8 }, { name := "Op", type := 29, offset := 2, embedded := false, tag := "", pkgPath := "", byteOffset := 16 }, { name := "Tag", type := 24, offset := 8, embedded := false, tag := "", pkgPath := "", byteOffset := 96 }]) := ⟨Tryz.underlying31⟩
instance : Siz Tryz.prog 31 40 := ⟨by kernel_rfl⟩
instance : Byt Tryz.prog 31 128 := ⟨by kernel_rfl⟩
instance : Plc Tryz.prog 31 [(0, 1), (1, 1), (2, 6), (8, 32)] := ⟨fun fs w h => by rw [Tryz.underlying31] at h; cases h; kernel_rfl⟩
instance : Zer Tryz.prog 31 (.agg (([.int .i64 0, .int .u64 0, .int .u8 0, .string ByteArray.empty, .string ByteArray.empty, .string ByteArray.empty, .string ByteArray.empty, .int .u64 0] : List Value) ++ (List.replicate 32 (.int .u8 0) : List Value)).toArray) := ⟨by kernel_rfl⟩
instance : Und Tryz.prog 32 (Go.TypeDesc.slice 92) := ⟨Tryz.underlying32⟩
instance : Siz Tryz.prog 32 1 := ⟨by kernel_rfl⟩
instance : Byt Tryz.prog 32 24 := ⟨by kernel_rfl⟩
instance : Zer Tryz.prog 32 (.slice none 0 0) := ⟨by kernel_rfl⟩
instance : Und Tryz.prog 33 (Go.TypeDesc.struct #[{ name := "Kind", type := 5, offset := 0, embedded := false, tag := "", pkgPath := "", byteOffset := 0 }, { name := "View", type := 23, offset := 1, embedded := false, tag := "", pkgPath := "", byteOffset := 8 }, { name := "K", type := 23, offset := 2, embedded := false, tag := "", pkgPath := "", byteOffset := 16 }, { name := "Request", type := 31, offset := 3, embedded := false, tag := "", pkgPath := "", byteOffset := 24 }, { name := "Q", type := 32, offset := 43, embedded := false, tag := "", pkgPath := "", byteOffset := 152 }, { name := "Digest", type := 24, offset := 44, embedded := false, tag := "", pkgPath := "", byteOffset := 176 }]) := ⟨Tryz.underlying33⟩
instance : Siz Tryz.prog 33 76 := ⟨by kernel_rfl⟩
instance : Byt Tryz.prog 33 208 := ⟨by kernel_rfl⟩
instance : Plc Tryz.prog 33 [(0, 1), (1, 1), (2, 1), (3, 40), (43, 1), (44, 32)] := ⟨fun fs w h => by rw [Tryz.underlying33] at h; cases h; kernel_rfl⟩
instance : Zer Tryz.prog 33 (.agg (([.int .u8 0, .int .u64 0, .int .u64 0, .int .i64 0, .int .u64 0, .int .u8 0, .string ByteArray.empty, .string ByteArray.empty, .string ByteArray.empty, .string ByteArray.empty, .int .u64 0] : List Value) ++ (List.replicate 32 (.int .u8 0) : List Value) ++ ([.slice none 0 0] : List Value) ++ (List.replicate 32 (.int .u8 0) : List Value)).toArray) := ⟨by kernel_rfl⟩
instance : Und Tryz.prog 34 (Go.TypeDesc.struct #[{ name := "Kind", type := 5, offset := 0, embedded := false, tag := "", pkgPath := "", byteOffset := 0 }, { name := "View", type := 23, offset := 1, embedded := false, tag := "", pkgPath := "", byteOffset := 8 }, { name := "K", type := 23, offset := 2, embedded := false, tag := "", pkgPath := "", byteOffset := 16 }, { name := "Request", type := 31, offset := 3, embedded := false, tag := "", pkgPath := "", byteOffset := 24 }, { name := "Q", type := 32, offset := 43, embedded := false, tag := "", pkgPath := "", byteOffset := 152 }, { name := "Digest", type := 24, offset := 44, embedded := false, tag := "", pkgPath := "", byteOffset := 176 }]) := ⟨Tryz.underlying34⟩
instance : Siz Tryz.prog 34 76 := ⟨by kernel_rfl⟩
instance : Byt Tryz.prog 34 208 := ⟨by kernel_rfl⟩
instance : Plc Tryz.prog 34 [(0, 1), (1, 1), (2, 1), (3, 40), (43, 1), (44, 32)] := ⟨fun fs w h => by rw [Tryz.underlying34] at h; cases h; kernel_rfl⟩
instance : Zer Tryz.prog 34 (.agg (([.int .u8 0, .int .u64 0, .int .u64 0, .int .i64 0, .int .u64 0, .int .u8 0, .string ByteArray.empty, .string ByteArray.empty, .string ByteArray.empty, .string ByteArray.empty, .int .u64 0] : List Value) ++ (List.replicate 32 (.int .u8 0) : List Value) ++ ([.slice none 0 0] : List Value) ++ (List.replicate 32 (.int .u8 0) : List Value)).toArray) := ⟨by kernel_rfl⟩
instance : Und Tryz.prog 35 (Go.TypeDesc.struct #[{ name := "Origin", type := 3, offset := 0, embedded := false, tag := "", pkgPath := "", byteOffset := 0 }, { name := "Number", type := 23, offset := 1, embedded := false, tag := "", pkgPath := "", byteOffset := 8 }, { name := "Deps", type := 27, offset := 2, embedded := false, tag := "", pkgPath := "", byteOffset := 16 }, { name := "Body", type := 34, offset := 13, embedded := false, tag := "", pkgPath := "", byteOffset := 104 }, { name := "Tag", type := 24, offset := 89, embedded := false, tag := "", pkgPath := "", byteOffset := 312 }]) := ⟨Tryz.underlying35⟩
instance : Siz Tryz.prog 35 121 := ⟨by kernel_rfl⟩
instance : Byt Tryz.prog 35 344 := ⟨by kernel_rfl⟩
instance : Plc Tryz.prog 35 [(0, 1), (1, 1), (2, 11), (13, 76), (89, 32)] := ⟨fun fs w h => by rw [Tryz.underlying35] at h; cases h; kernel_rfl⟩
instance : Zer Tryz.prog 35 (.agg (([.int .i64 0, .int .u64 0] : List Value) ++ (List.replicate 11 (.int .u64 0) : List Value) ++ ([.int .u8 0, .int .u64 0, .int .u64 0, .int .i64 0, .int .u64 0, .int .u8 0, .string ByteArray.empty, .string ByteArray.empty, .string ByteArray.empty, .string ByteArray.empty, .int .u64 0] : List Value) ++ (List.replicate 32 (.int .u8 0) : List Value) ++ ([.slice none 0 0] : List Value) ++ (List.replicate 32 (.int .u8 0) : List Value) ++ (List.replicate 32 (.int .u8 0) : List Value)).toArray) := ⟨by kernel_rfl⟩
instance : Und Tryz.prog 36 (Go.TypeDesc.struct #[{ name := "Origin", type := 3, offset := 0, embedded := false, tag := "", pkgPath := "", byteOffset := 0 }, { name := "Number", type := 23, offset := 1, embedded := false, tag := "", pkgPath := "", byteOffset := 8 }, { name := "Deps", type := 27, offset := 2, embedded := false, tag := "", pkgPath := "", byteOffset := 16 }, { name := "Body", type := 34, offset := 13, embedded := false, tag := "", pkgPath := "", byteOffset := 104 }, { name := "Tag", type := 24, offset := 89, embedded := false, tag := "", pkgPath := "", byteOffset := 312 }]) := ⟨Tryz.underlying36⟩
instance : Siz Tryz.prog 36 121 := ⟨by kernel_rfl⟩
instance : Byt Tryz.prog 36 344 := ⟨by kernel_rfl⟩
instance : Plc Tryz.prog 36 [(0, 1), (1, 1), (2, 11), (13, 76), (89, 32)] := ⟨fun fs w h => by rw [Tryz.underlying36] at h; cases h; kernel_rfl⟩
instance : Zer Tryz.prog 36 (.agg (([.int .i64 0, .int .u64 0] : List Value) ++ (List.replicate 11 (.int .u64 0) : List Value) ++ ([.int .u8 0, .int .u64 0, .int .u64 0, .int .i64 0, .int .u64 0, .int .u8 0, .string ByteArray.empty, .string ByteArray.empty, .string ByteArray.empty, .string ByteArray.empty, .int .u64 0] : List Value) ++ (List.replicate 32 (.int .u8 0) : List Value) ++ ([.slice none 0 0] : List Value) ++ (List.replicate 32 (.int .u8 0) : List Value) ++ (List.replicate 32 (.int .u8 0) : List Value)).toArray) := ⟨by kernel_rfl⟩
instance : Und Tryz.prog 37 (Go.TypeDesc.int Go.IntKind.i64) := ⟨Tryz.underlying37⟩
instance : Siz Tryz.prog 37 1 := ⟨by kernel_rfl⟩
instance : Byt Tryz.prog 37 8 := ⟨by kernel_rfl⟩
instance : Zer Tryz.prog 37 (.int .i64 0) := ⟨by kernel_rfl⟩
instance : Und Tryz.prog 38 (Go.TypeDesc.tuple #[36, 37]) := ⟨Tryz.underlying38⟩
instance : Und Tryz.prog 39 (Go.TypeDesc.func #[22] #[36, 37] false) := ⟨Tryz.underlying39⟩
instance : Siz Tryz.prog 39 1 := ⟨by kernel_rfl⟩
instance : Byt Tryz.prog 39 8 := ⟨by kernel_rfl⟩
instance : Zer Tryz.prog 39 (.nilFunc) := ⟨by kernel_rfl⟩
instance : Und Tryz.prog 40 (Go.TypeDesc.func #[3, 23, 22, 24] #[36, 37] false) := ⟨Tryz.underlying40⟩
instance : Siz Tryz.prog 40 1 := ⟨by kernel_rfl⟩
instance : Byt Tryz.prog 40 8 := ⟨by kernel_rfl⟩
instance : Zer Tryz.prog 40 (.nilFunc) := ⟨by kernel_rfl⟩
instance : Und Tryz.prog 41 (Go.TypeDesc.func #[36, 36] #[4] false) := ⟨Tryz.underlying41⟩
instance : Siz Tryz.prog 41 1 := ⟨by kernel_rfl⟩
instance : Byt Tryz.prog 41 8 := ⟨by kernel_rfl⟩
instance : Zer Tryz.prog 41 (.nilFunc) := ⟨by kernel_rfl⟩
instance : Und Tryz.prog 42 (Go.TypeDesc.func #[22, 3, 23, 24] #[4] false) := ⟨Tryz.underlying42⟩
instance : Siz Tryz.prog 42 1 := ⟨by kernel_rfl⟩
instance : Byt Tryz.prog 42 8 := ⟨by kernel_rfl⟩
instance : Zer Tryz.prog 42 (.nilFunc) := ⟨by kernel_rfl⟩
instance : Und Tryz.prog 43 (Go.TypeDesc.func #[31] #[31] false) := ⟨Tryz.underlying43⟩
instance : Siz Tryz.prog 43 1 := ⟨by kernel_rfl⟩
instance : Byt Tryz.prog 43 8 := ⟨by kernel_rfl⟩
instance : Zer Tryz.prog 43 (.nilFunc) := ⟨by kernel_rfl⟩
instance : Und Tryz.prog 44 (Go.TypeDesc.func #[31] #[4] false) := ⟨Tryz.underlying44⟩
instance : Siz Tryz.prog 44 1 := ⟨by kernel_rfl⟩
instance : Byt Tryz.prog 44 8 := ⟨by kernel_rfl⟩
instance : Zer Tryz.prog 44 (.nilFunc) := ⟨by kernel_rfl⟩
instance : Und Tryz.prog 45 (Go.TypeDesc.func #[31, 4] #[4] false) := ⟨Tryz.underlying45⟩
instance : Siz Tryz.prog 45 1 := ⟨by kernel_rfl⟩
instance : Byt Tryz.prog 45 8 := ⟨by kernel_rfl⟩
instance : Zer Tryz.prog 45 (.nilFunc) := ⟨by kernel_rfl⟩
instance : Und Tryz.prog 46 (Go.TypeDesc.func #[36] #[4] false) := ⟨Tryz.underlying46⟩
instance : Siz Tryz.prog 46 1 := ⟨by kernel_rfl⟩
instance : Byt Tryz.prog 46 8 := ⟨by kernel_rfl⟩
instance : Zer Tryz.prog 46 (.nilFunc) := ⟨by kernel_rfl⟩
instance : Und Tryz.prog 47 (Go.TypeDesc.func #[36] #[36] false) := ⟨Tryz.underlying47⟩
instance : Siz Tryz.prog 47 1 := ⟨by kernel_rfl⟩
instance : Byt Tryz.prog 47 8 := ⟨by kernel_rfl⟩
instance : Zer Tryz.prog 47 (.nilFunc) := ⟨by kernel_rfl⟩
instance : Und Tryz.prog 48 (Go.TypeDesc.func #[36, 5, 5] #[4] false) := ⟨Tryz.underlying48⟩
instance : Siz Tryz.prog 48 1 := ⟨by kernel_rfl⟩
instance : Byt Tryz.prog 48 8 := ⟨by kernel_rfl⟩
instance : Zer Tryz.prog 48 (.nilFunc) := ⟨by kernel_rfl⟩
instance : Und Tryz.prog 49 (Go.TypeDesc.func #[36] #[22] false) := ⟨Tryz.underlying49⟩
instance : Siz Tryz.prog 49 1 := ⟨by kernel_rfl⟩
instance : Byt Tryz.prog 49 8 := ⟨by kernel_rfl⟩
instance : Zer Tryz.prog 49 (.nilFunc) := ⟨by kernel_rfl⟩
instance : Und Tryz.prog 50 (Go.TypeDesc.pointer 86) := ⟨Tryz.underlying50⟩
instance : Siz Tryz.prog 50 1 := ⟨by kernel_rfl⟩
instance : Byt Tryz.prog 50 8 := ⟨by kernel_rfl⟩
instance : Zer Tryz.prog 50 (.pointer none) := ⟨by kernel_rfl⟩
instance : Und Tryz.prog 51 (Go.TypeDesc.func #[22] #[50] false) := ⟨Tryz.underlying51⟩
instance : Siz Tryz.prog 51 1 := ⟨by kernel_rfl⟩
instance : Byt Tryz.prog 51 8 := ⟨by kernel_rfl⟩
instance : Zer Tryz.prog 51 (.nilFunc) := ⟨by kernel_rfl⟩
instance : Und Tryz.prog 52 (Go.TypeDesc.func #[] #[23] false) := ⟨Tryz.underlying52⟩
instance : Siz Tryz.prog 52 1 := ⟨by kernel_rfl⟩
instance : Byt Tryz.prog 52 8 := ⟨by kernel_rfl⟩
instance : Zer Tryz.prog 52 (.nilFunc) := ⟨by kernel_rfl⟩
instance : Und Tryz.prog 53 (Go.TypeDesc.func #[3] #[22] false) := ⟨Tryz.underlying53⟩
instance : Siz Tryz.prog 53 1 := ⟨by kernel_rfl⟩
instance : Byt Tryz.prog 53 8 := ⟨by kernel_rfl⟩
instance : Zer Tryz.prog 53 (.nilFunc) := ⟨by kernel_rfl⟩
instance : Und Tryz.prog 54 (Go.TypeDesc.func #[50] #[24] false) := ⟨Tryz.underlying54⟩
instance : Siz Tryz.prog 54 1 := ⟨by kernel_rfl⟩
instance : Byt Tryz.prog 54 8 := ⟨by kernel_rfl⟩
instance : Zer Tryz.prog 54 (.nilFunc) := ⟨by kernel_rfl⟩
instance : Und Tryz.prog 55 (Go.TypeDesc.pointer 57) := ⟨Tryz.underlying55⟩
instance : Siz Tryz.prog 55 1 := ⟨by kernel_rfl⟩
instance : Byt Tryz.prog 55 8 := ⟨by kernel_rfl⟩
instance : Zer Tryz.prog 55 (.pointer none) := ⟨by kernel_rfl⟩
instance : Und Tryz.prog 56 (Go.TypeDesc.struct #[{ name := "B", type := 22, offset := 0, embedded := false, tag := "", pkgPath := "", byteOffset := 0 }, { name := "Bad", type := 4, offset := 1, embedded := false, tag := "", pkgPath := "", byteOffset := 24 }]) := ⟨Tryz.underlying56⟩
instance : Siz Tryz.prog 56 2 := ⟨by kernel_rfl⟩
instance : Byt Tryz.prog 56 32 := ⟨by kernel_rfl⟩
instance : Plc Tryz.prog 56 [(0, 1), (1, 1)] := ⟨fun fs w h => by rw [Tryz.underlying56] at h; cases h; kernel_rfl⟩
instance : Zer Tryz.prog 56 (.agg (([.slice none 0 0, .bool false] : List Value)).toArray) := ⟨by kernel_rfl⟩
instance : Und Tryz.prog 57 (Go.TypeDesc.struct #[{ name := "B", type := 22, offset := 0, embedded := false, tag := "", pkgPath := "", byteOffset := 0 }, { name := "Bad", type := 4, offset := 1, embedded := false, tag := "", pkgPath := "", byteOffset := 24 }]) := ⟨Tryz.underlying57⟩
instance : Siz Tryz.prog 57 2 := ⟨by kernel_rfl⟩
instance : Byt Tryz.prog 57 32 := ⟨by kernel_rfl⟩
instance : Plc Tryz.prog 57 [(0, 1), (1, 1)] := ⟨fun fs w h => by rw [Tryz.underlying57] at h; cases h; kernel_rfl⟩
instance : Zer Tryz.prog 57 (.agg (([.slice none 0 0, .bool false] : List Value)).toArray) := ⟨by kernel_rfl⟩
instance : Und Tryz.prog 58 (Go.TypeDesc.func #[55] #[24] false) := ⟨Tryz.underlying58⟩
instance : Siz Tryz.prog 58 1 := ⟨by kernel_rfl⟩
instance : Byt Tryz.prog 58 8 := ⟨by kernel_rfl⟩
instance : Zer Tryz.prog 58 (.nilFunc) := ⟨by kernel_rfl⟩
instance : Und Tryz.prog 59 (Go.TypeDesc.func #[] #[5] false) := ⟨Tryz.underlying59⟩
instance : Siz Tryz.prog 59 1 := ⟨by kernel_rfl⟩
instance : Byt Tryz.prog 59 8 := ⟨by kernel_rfl⟩
instance : Zer Tryz.prog 59 (.nilFunc) := ⟨by kernel_rfl⟩
instance : Und Tryz.prog 60 (Go.TypeDesc.func #[22, 34] #[22] false) := ⟨Tryz.underlying60⟩
instance : Siz Tryz.prog 60 1 := ⟨by kernel_rfl⟩
instance : Byt Tryz.prog 60 8 := ⟨by kernel_rfl⟩
instance : Zer Tryz.prog 60 (.nilFunc) := ⟨by kernel_rfl⟩
instance : Und Tryz.prog 61 (Go.TypeDesc.func #[50, 68] #[] false) := ⟨Tryz.underlying61⟩
instance : Siz Tryz.prog 61 1 := ⟨by kernel_rfl⟩
instance : Byt Tryz.prog 61 8 := ⟨by kernel_rfl⟩
instance : Zer Tryz.prog 61 (.nilFunc) := ⟨by kernel_rfl⟩
instance : Und Tryz.prog 62 (Go.TypeDesc.func #[34] #[4] false) := ⟨Tryz.underlying62⟩
instance : Siz Tryz.prog 62 1 := ⟨by kernel_rfl⟩
instance : Byt Tryz.prog 62 8 := ⟨by kernel_rfl⟩
instance : Zer Tryz.prog 62 (.nilFunc) := ⟨by kernel_rfl⟩
instance : Und Tryz.prog 63 (Go.TypeDesc.struct #[{ name := "put", type := 60, offset := 0, embedded := false, tag := "", pkgPath := "ratchet/message", byteOffset := 0 }, { name := "get", type := 61, offset := 1, embedded := false, tag := "", pkgPath := "ratchet/message", byteOffset := 8 }, { name := "may", type := 62, offset := 2, embedded := false, tag := "", pkgPath := "ratchet/message", byteOffset := 16 }]) := ⟨Tryz.underlying63⟩
instance : Siz Tryz.prog 63 3 := ⟨by kernel_rfl⟩
instance : Byt Tryz.prog 63 24 := ⟨by kernel_rfl⟩
instance : Plc Tryz.prog 63 [(0, 1), (1, 1), (2, 1)] := ⟨fun fs w h => by rw [Tryz.underlying63] at h; cases h; kernel_rfl⟩
instance : Zer Tryz.prog 63 (.agg (([.nilFunc, .nilFunc, .nilFunc] : List Value)).toArray) := ⟨by kernel_rfl⟩
instance : Und Tryz.prog 64 (Go.TypeDesc.struct #[{ name := "put", type := 60, offset := 0, embedded := false, tag := "", pkgPath := "ratchet/message", byteOffset := 0 }, { name := "get", type := 61, offset := 1, embedded := false, tag := "", pkgPath := "ratchet/message", byteOffset := 8 }, { name := "may", type := 62, offset := 2, embedded := false, tag := "", pkgPath := "ratchet/message", byteOffset := 16 }]) := ⟨Tryz.underlying64⟩
instance : Siz Tryz.prog 64 3 := ⟨by kernel_rfl⟩
instance : Byt Tryz.prog 64 24 := ⟨by kernel_rfl⟩
instance : Plc Tryz.prog 64 [(0, 1), (1, 1), (2, 1)] := ⟨fun fs w h => by rw [Tryz.underlying64] at h; cases h; kernel_rfl⟩
instance : Zer Tryz.prog 64 (.agg (([.nilFunc, .nilFunc, .nilFunc] : List Value)).toArray) := ⟨by kernel_rfl⟩
instance : Und Tryz.prog 65 (Go.TypeDesc.tuple #[64, 4]) := ⟨Tryz.underlying65⟩
instance : Und Tryz.prog 66 (Go.TypeDesc.map 5 64) := ⟨Tryz.underlying66⟩
instance : Siz Tryz.prog 66 1 := ⟨by kernel_rfl⟩
instance : Byt Tryz.prog 66 8 := ⟨by kernel_rfl⟩
instance : Zer Tryz.prog 66 (.map none) := ⟨by kernel_rfl⟩
instance : Und Tryz.prog 67 (Go.TypeDesc.func #[] #[66] false) := ⟨Tryz.underlying67⟩
instance : Siz Tryz.prog 67 1 := ⟨by kernel_rfl⟩
instance : Byt Tryz.prog 67 8 := ⟨by kernel_rfl⟩
instance : Zer Tryz.prog 67 (.nilFunc) := ⟨by kernel_rfl⟩
instance : Und Tryz.prog 68 (Go.TypeDesc.pointer 34) := ⟨Tryz.underlying68⟩
instance : Siz Tryz.prog 68 1 := ⟨by kernel_rfl⟩
instance : Byt Tryz.prog 68 8 := ⟨by kernel_rfl⟩
instance : Zer Tryz.prog 68 (.pointer none) := ⟨by kernel_rfl⟩
instance : Und Tryz.prog 69 (Go.TypeDesc.func #[] #[3] false) := ⟨Tryz.underlying69⟩
instance : Siz Tryz.prog 69 1 := ⟨by kernel_rfl⟩
instance : Byt Tryz.prog 69 8 := ⟨by kernel_rfl⟩
instance : Zer Tryz.prog 69 (.nilFunc) := ⟨by kernel_rfl⟩
instance : Und Tryz.prog 70 (Go.TypeDesc.func #[22, 22] #[4] false) := ⟨Tryz.underlying70⟩
instance : Siz Tryz.prog 70 1 := ⟨by kernel_rfl⟩
instance : Byt Tryz.prog 70 8 := ⟨by kernel_rfl⟩
instance : Zer Tryz.prog 70 (.nilFunc) := ⟨by kernel_rfl⟩
instance : Und Tryz.prog 71 (Go.TypeDesc.tuple #[36, 4]) := ⟨Tryz.underlying71⟩
instance : Und Tryz.prog 72 (Go.TypeDesc.func #[22] #[36, 4] false) := ⟨Tryz.underlying72⟩
instance : Siz Tryz.prog 72 1 := ⟨by kernel_rfl⟩
instance : Byt Tryz.prog 72 8 := ⟨by kernel_rfl⟩
instance : Zer Tryz.prog 72 (.nilFunc) := ⟨by kernel_rfl⟩
instance : Und Tryz.prog 73 (Go.TypeDesc.func #[34, 34] #[4] false) := ⟨Tryz.underlying73⟩
instance : Siz Tryz.prog 73 1 := ⟨by kernel_rfl⟩
instance : Byt Tryz.prog 73 8 := ⟨by kernel_rfl⟩
instance : Zer Tryz.prog 73 (.nilFunc) := ⟨by kernel_rfl⟩
instance : Und Tryz.prog 74 (Go.TypeDesc.func #[22, 22] #[24] false) := ⟨Tryz.underlying74⟩
instance : Siz Tryz.prog 74 1 := ⟨by kernel_rfl⟩
instance : Byt Tryz.prog 74 8 := ⟨by kernel_rfl⟩
instance : Zer Tryz.prog 74 (.nilFunc) := ⟨by kernel_rfl⟩
instance : Und Tryz.prog 75 (Go.TypeDesc.func #[22, 31] #[22] false) := ⟨Tryz.underlying75⟩
instance : Siz Tryz.prog 75 1 := ⟨by kernel_rfl⟩
instance : Byt Tryz.prog 75 8 := ⟨by kernel_rfl⟩
instance : Zer Tryz.prog 75 (.nilFunc) := ⟨by kernel_rfl⟩
instance : Und Tryz.prog 76 (Go.TypeDesc.func #[31] #[24] false) := ⟨Tryz.underlying76⟩
instance : Siz Tryz.prog 76 1 := ⟨by kernel_rfl⟩
instance : Byt Tryz.prog 76 8 := ⟨by kernel_rfl⟩
instance : Zer Tryz.prog 76 (.nilFunc) := ⟨by kernel_rfl⟩
instance : Und Tryz.prog 77 (Go.TypeDesc.func #[24, 24] #[4] false) := ⟨Tryz.underlying77⟩
instance : Siz Tryz.prog 77 1 := ⟨by kernel_rfl⟩
instance : Byt Tryz.prog 77 8 := ⟨by kernel_rfl⟩
instance : Zer Tryz.prog 77 (.nilFunc) := ⟨by kernel_rfl⟩
instance : Und Tryz.prog 78 (Go.TypeDesc.func #[3, 23, 22] #[24] false) := ⟨Tryz.underlying78⟩
instance : Siz Tryz.prog 78 1 := ⟨by kernel_rfl⟩
instance : Byt Tryz.prog 78 8 := ⟨by kernel_rfl⟩
instance : Zer Tryz.prog 78 (.nilFunc) := ⟨by kernel_rfl⟩
instance : Und Tryz.prog 79 (Go.TypeDesc.func #[80] #[23] false) := ⟨Tryz.underlying79⟩
instance : Siz Tryz.prog 79 1 := ⟨by kernel_rfl⟩
instance : Byt Tryz.prog 79 8 := ⟨by kernel_rfl⟩
instance : Zer Tryz.prog 79 (.nilFunc) := ⟨by kernel_rfl⟩
instance : Und Tryz.prog 80 (Go.TypeDesc.slice 23) := ⟨Tryz.underlying80⟩
instance : Siz Tryz.prog 80 1 := ⟨by kernel_rfl⟩
instance : Byt Tryz.prog 80 24 := ⟨by kernel_rfl⟩
instance : Zer Tryz.prog 80 (.slice none 0 0) := ⟨by kernel_rfl⟩
instance : Und Tryz.prog 81 (Go.TypeDesc.func #[3, 23, 22, 24] #[4] false) := ⟨Tryz.underlying81⟩
instance : Siz Tryz.prog 81 1 := ⟨by kernel_rfl⟩
instance : Byt Tryz.prog 81 8 := ⟨by kernel_rfl⟩
instance : Zer Tryz.prog 81 (.nilFunc) := ⟨by kernel_rfl⟩
instance : Und Tryz.prog 82 (Go.TypeDesc.func #[103] #[22] true) := ⟨Tryz.underlying82⟩
instance : Siz Tryz.prog 82 1 := ⟨by kernel_rfl⟩
instance : Byt Tryz.prog 82 8 := ⟨by kernel_rfl⟩
instance : Zer Tryz.prog 82 (.nilFunc) := ⟨by kernel_rfl⟩
instance : Und Tryz.prog 83 (Go.TypeDesc.func #[22, 23] #[22] false) := ⟨Tryz.underlying83⟩
instance : Siz Tryz.prog 83 1 := ⟨by kernel_rfl⟩
instance : Byt Tryz.prog 83 8 := ⟨by kernel_rfl⟩
instance : Zer Tryz.prog 83 (.nilFunc) := ⟨by kernel_rfl⟩
instance : Und Tryz.prog 84 (Go.TypeDesc.func #[22] #[22] false) := ⟨Tryz.underlying84⟩
instance : Siz Tryz.prog 84 1 := ⟨by kernel_rfl⟩
instance : Byt Tryz.prog 84 8 := ⟨by kernel_rfl⟩
instance : Zer Tryz.prog 84 (.nilFunc) := ⟨by kernel_rfl⟩
instance : Und Tryz.prog 85 (Go.TypeDesc.struct #[{ name := "b", type := 22, offset := 0, embedded := false, tag := "", pkgPath := "ratchet/octet", byteOffset := 0 }, { name := "spoil", type := 4, offset := 1, embedded := false, tag := "", pkgPath := "ratchet/octet", byteOffset := 24 }]) := ⟨Tryz.underlying85⟩
instance : Siz Tryz.prog 85 2 := ⟨by kernel_rfl⟩
instance : Byt Tryz.prog 85 32 := ⟨by kernel_rfl⟩
instance : Plc Tryz.prog 85 [(0, 1), (1, 1)] := ⟨fun fs w h => by rw [Tryz.underlying85] at h; cases h; kernel_rfl⟩
instance : Zer Tryz.prog 85 (.agg (([.slice none 0 0, .bool false] : List Value)).toArray) := ⟨by kernel_rfl⟩
instance : Und Tryz.prog 86 (Go.TypeDesc.struct #[{ name := "b", type := 22, offset := 0, embedded := false, tag := "", pkgPath := "ratchet/octet", byteOffset := 0 }, { name := "spoil", type := 4, offset := 1, embedded := false, tag := "", pkgPath := "ratchet/octet", byteOffset := 24 }]) := ⟨Tryz.underlying86⟩
instance : Siz Tryz.prog 86 2 := ⟨by kernel_rfl⟩
instance : Byt Tryz.prog 86 32 := ⟨by kernel_rfl⟩
instance : Plc Tryz.prog 86 [(0, 1), (1, 1)] := ⟨fun fs w h => by rw [Tryz.underlying86] at h; cases h; kernel_rfl⟩
instance : Zer Tryz.prog 86 (.agg (([.slice none 0 0, .bool false] : List Value)).toArray) := ⟨by kernel_rfl⟩
instance : Und Tryz.prog 87 (Go.TypeDesc.func #[53, 3] #[23] false) := ⟨Tryz.underlying87⟩
instance : Siz Tryz.prog 87 1 := ⟨by kernel_rfl⟩
instance : Byt Tryz.prog 87 8 := ⟨by kernel_rfl⟩
instance : Zer Tryz.prog 87 (.nilFunc) := ⟨by kernel_rfl⟩
instance : Und Tryz.prog 88 (Go.TypeDesc.func #[3] #[23] false) := ⟨Tryz.underlying88⟩
instance : Siz Tryz.prog 88 1 := ⟨by kernel_rfl⟩
instance : Byt Tryz.prog 88 8 := ⟨by kernel_rfl⟩
instance : Zer Tryz.prog 88 (.nilFunc) := ⟨by kernel_rfl⟩
instance : Und Tryz.prog 89 (Go.TypeDesc.func #[50] #[31] false) := ⟨Tryz.underlying89⟩
instance : Siz Tryz.prog 89 1 := ⟨by kernel_rfl⟩
instance : Byt Tryz.prog 89 8 := ⟨by kernel_rfl⟩
instance : Zer Tryz.prog 89 (.nilFunc) := ⟨by kernel_rfl⟩
instance : Und Tryz.prog 90 (Go.TypeDesc.func #[] #[64] false) := ⟨Tryz.underlying90⟩
instance : Siz Tryz.prog 90 1 := ⟨by kernel_rfl⟩
instance : Byt Tryz.prog 90 8 := ⟨by kernel_rfl⟩
instance : Zer Tryz.prog 90 (.nilFunc) := ⟨by kernel_rfl⟩
instance : Und Tryz.prog 91 (Go.TypeDesc.struct #[{ name := "Replica", type := 3, offset := 0, embedded := false, tag := "", pkgPath := "", byteOffset := 0 }, { name := "Number", type := 23, offset := 1, embedded := false, tag := "", pkgPath := "", byteOffset := 8 }]) := ⟨Tryz.underlying91⟩
instance : Siz Tryz.prog 91 2 := ⟨by kernel_rfl⟩
instance : Byt Tryz.prog 91 16 := ⟨by kernel_rfl⟩
instance : Plc Tryz.prog 91 [(0, 1), (1, 1)] := ⟨fun fs w h => by rw [Tryz.underlying91] at h; cases h; kernel_rfl⟩
instance : Zer Tryz.prog 91 (.agg (([.int .i64 0, .int .u64 0] : List Value)).toArray) := ⟨by kernel_rfl⟩
instance : Und Tryz.prog 92 (Go.TypeDesc.struct #[{ name := "Replica", type := 3, offset := 0, embedded := false, tag := "", pkgPath := "", byteOffset := 0 }, { name := "Number", type := 23, offset := 1, embedded := false, tag := "", pkgPath := "", byteOffset := 8 }]) := ⟨Tryz.underlying92⟩
instance : Siz Tryz.prog 92 2 := ⟨by kernel_rfl⟩
instance : Byt Tryz.prog 92 16 := ⟨by kernel_rfl⟩
instance : Plc Tryz.prog 92 [(0, 1), (1, 1)] := ⟨fun fs w h => by rw [Tryz.underlying92] at h; cases h; kernel_rfl⟩
instance : Zer Tryz.prog 92 (.agg (([.int .i64 0, .int .u64 0] : List Value)).toArray) := ⟨by kernel_rfl⟩
instance : Und Tryz.prog 93 (Go.TypeDesc.func #[32] #[4] false) := ⟨Tryz.underlying93⟩
instance : Siz Tryz.prog 93 1 := ⟨by kernel_rfl⟩
instance : Byt Tryz.prog 93 8 := ⟨by kernel_rfl⟩
instance : Zer Tryz.prog 93 (.nilFunc) := ⟨by kernel_rfl⟩
instance : Und Tryz.prog 94 (Go.TypeDesc.func #[3] #[9] false) := ⟨Tryz.underlying94⟩
instance : Siz Tryz.prog 94 1 := ⟨by kernel_rfl⟩
instance : Byt Tryz.prog 94 8 := ⟨by kernel_rfl⟩
instance : Zer Tryz.prog 94 (.nilFunc) := ⟨by kernel_rfl⟩
instance : Und Tryz.prog 95 (Go.TypeDesc.func #[32, 32] #[4] false) := ⟨Tryz.underlying95⟩
instance : Siz Tryz.prog 95 1 := ⟨by kernel_rfl⟩
instance : Byt Tryz.prog 95 8 := ⟨by kernel_rfl⟩
instance : Zer Tryz.prog 95 (.nilFunc) := ⟨by kernel_rfl⟩
instance : Und Tryz.prog 96 (Go.TypeDesc.func #[22] #[24] false) := ⟨Tryz.underlying96⟩
instance : Siz Tryz.prog 96 1 := ⟨by kernel_rfl⟩
instance : Byt Tryz.prog 96 8 := ⟨by kernel_rfl⟩
instance : Zer Tryz.prog 96 (.nilFunc) := ⟨by kernel_rfl⟩
instance : Und Tryz.prog 97 (Go.TypeDesc.func #[22, 5] #[22] false) := ⟨Tryz.underlying97⟩
instance : Siz Tryz.prog 97 1 := ⟨by kernel_rfl⟩
instance : Byt Tryz.prog 97 8 := ⟨by kernel_rfl⟩
instance : Zer Tryz.prog 97 (.nilFunc) := ⟨by kernel_rfl⟩
instance : Und Tryz.prog 98 (Go.TypeDesc.func #[9, 3, 3] #[22] false) := ⟨Tryz.underlying98⟩
instance : Siz Tryz.prog 98 1 := ⟨by kernel_rfl⟩
instance : Byt Tryz.prog 98 8 := ⟨by kernel_rfl⟩
instance : Zer Tryz.prog 98 (.nilFunc) := ⟨by kernel_rfl⟩
instance : Und Tryz.prog 99 (Go.TypeDesc.tuple #[22, 37]) := ⟨Tryz.underlying99⟩
instance : Und Tryz.prog 100 (Go.TypeDesc.func #[22, 9] #[22, 37] false) := ⟨Tryz.underlying100⟩
instance : Siz Tryz.prog 100 1 := ⟨by kernel_rfl⟩
instance : Byt Tryz.prog 100 8 := ⟨by kernel_rfl⟩
instance : Zer Tryz.prog 100 (.nilFunc) := ⟨by kernel_rfl⟩
instance : Und Tryz.prog 101 (Go.TypeDesc.func #[3] #[4] false) := ⟨Tryz.underlying101⟩
instance : Siz Tryz.prog 101 1 := ⟨by kernel_rfl⟩
instance : Byt Tryz.prog 101 8 := ⟨by kernel_rfl⟩
instance : Zer Tryz.prog 101 (.nilFunc) := ⟨by kernel_rfl⟩
instance : Und Tryz.prog 102 (Go.TypeDesc.func #[23] #[4] false) := ⟨Tryz.underlying102⟩
instance : Siz Tryz.prog 102 1 := ⟨by kernel_rfl⟩
instance : Byt Tryz.prog 102 8 := ⟨by kernel_rfl⟩
instance : Zer Tryz.prog 102 (.nilFunc) := ⟨by kernel_rfl⟩
instance : Und Tryz.prog 103 (Go.TypeDesc.slice 22) := ⟨Tryz.underlying103⟩
instance : Siz Tryz.prog 103 1 := ⟨by kernel_rfl⟩
instance : Byt Tryz.prog 103 24 := ⟨by kernel_rfl⟩
instance : Zer Tryz.prog 103 (.slice none 0 0) := ⟨by kernel_rfl⟩
instance : Und Tryz.prog 104 (Go.TypeDesc.func #[22, 3] #[22] false) := ⟨Tryz.underlying104⟩
instance : Siz Tryz.prog 104 1 := ⟨by kernel_rfl⟩
instance : Byt Tryz.prog 104 8 := ⟨by kernel_rfl⟩
instance : Zer Tryz.prog 104 (.nilFunc) := ⟨by kernel_rfl⟩
instance : Und Tryz.prog 105 (Go.TypeDesc.func #[22, 23, 3] #[22] false) := ⟨Tryz.underlying105⟩
instance : Siz Tryz.prog 105 1 := ⟨by kernel_rfl⟩
instance : Byt Tryz.prog 105 8 := ⟨by kernel_rfl⟩
instance : Zer Tryz.prog 105 (.nilFunc) := ⟨by kernel_rfl⟩
instance : Und Tryz.prog 106 (Go.TypeDesc.int Go.IntKind.u64) := ⟨Tryz.underlying106⟩
instance : Siz Tryz.prog 106 1 := ⟨by kernel_rfl⟩
instance : Byt Tryz.prog 106 8 := ⟨by kernel_rfl⟩
instance : Zer Tryz.prog 106 (.int .u64 0) := ⟨by kernel_rfl⟩
instance : Und Tryz.prog 107 (Go.TypeDesc.slice 9) := ⟨Tryz.underlying107⟩
instance : Siz Tryz.prog 107 1 := ⟨by kernel_rfl⟩
instance : Byt Tryz.prog 107 24 := ⟨by kernel_rfl⟩
instance : Zer Tryz.prog 107 (.slice none 0 0) := ⟨by kernel_rfl⟩
instance : Und Tryz.prog 108 (Go.TypeDesc.int Go.IntKind.u16) := ⟨Tryz.underlying108⟩
instance : Siz Tryz.prog 108 1 := ⟨by kernel_rfl⟩
instance : Byt Tryz.prog 108 2 := ⟨by kernel_rfl⟩
instance : Zer Tryz.prog 108 (.int .u16 0) := ⟨by kernel_rfl⟩
instance : Und Tryz.prog 109 (Go.TypeDesc.func #[] #[108] false) := ⟨Tryz.underlying109⟩
instance : Siz Tryz.prog 109 1 := ⟨by kernel_rfl⟩
instance : Byt Tryz.prog 109 8 := ⟨by kernel_rfl⟩
instance : Zer Tryz.prog 109 (.nilFunc) := ⟨by kernel_rfl⟩
instance : Und Tryz.prog 110 (Go.TypeDesc.func #[34] #[34] false) := ⟨Tryz.underlying110⟩
instance : Siz Tryz.prog 110 1 := ⟨by kernel_rfl⟩
instance : Byt Tryz.prog 110 8 := ⟨by kernel_rfl⟩
instance : Zer Tryz.prog 110 (.nilFunc) := ⟨by kernel_rfl⟩
instance : Und Tryz.prog 111 (Go.TypeDesc.int Go.IntKind.u32) := ⟨Tryz.underlying111⟩
instance : Siz Tryz.prog 111 1 := ⟨by kernel_rfl⟩
instance : Byt Tryz.prog 111 4 := ⟨by kernel_rfl⟩
instance : Zer Tryz.prog 111 (.int .u32 0) := ⟨by kernel_rfl⟩
instance : Und Tryz.prog 112 (Go.TypeDesc.array 8 111) := ⟨Tryz.underlying112⟩
instance : Siz Tryz.prog 112 8 := ⟨by kernel_rfl⟩
instance : Byt Tryz.prog 112 32 := ⟨by kernel_rfl⟩
instance : Zer Tryz.prog 112 (.agg ((List.replicate 8 (.int .u32 0) : List Value)).toArray) := ⟨by kernel_rfl⟩
instance : Und Tryz.prog 113 (Go.TypeDesc.func #[] #[112] false) := ⟨Tryz.underlying113⟩
instance : Siz Tryz.prog 113 1 := ⟨by kernel_rfl⟩
instance : Byt Tryz.prog 113 8 := ⟨by kernel_rfl⟩
instance : Zer Tryz.prog 113 (.nilFunc) := ⟨by kernel_rfl⟩
instance : Und Tryz.prog 114 (Go.TypeDesc.array 64 5) := ⟨Tryz.underlying114⟩
instance : Siz Tryz.prog 114 64 := ⟨by kernel_rfl⟩
instance : Byt Tryz.prog 114 64 := ⟨by kernel_rfl⟩
instance : Zer Tryz.prog 114 (.agg ((List.replicate 64 (.int .u8 0) : List Value)).toArray) := ⟨by kernel_rfl⟩
instance : Und Tryz.prog 115 (Go.TypeDesc.func #[112, 114] #[112] false) := ⟨Tryz.underlying115⟩
instance : Siz Tryz.prog 115 1 := ⟨by kernel_rfl⟩
instance : Byt Tryz.prog 115 8 := ⟨by kernel_rfl⟩
instance : Zer Tryz.prog 115 (.nilFunc) := ⟨by kernel_rfl⟩
instance : Und Tryz.prog 116 (Go.TypeDesc.func #[22, 108] #[22] false) := ⟨Tryz.underlying116⟩
instance : Siz Tryz.prog 116 1 := ⟨by kernel_rfl⟩
instance : Byt Tryz.prog 116 8 := ⟨by kernel_rfl⟩
instance : Zer Tryz.prog 116 (.nilFunc) := ⟨by kernel_rfl⟩
instance : Und Tryz.prog 117 (Go.TypeDesc.func #[103] #[24] true) := ⟨Tryz.underlying117⟩
instance : Siz Tryz.prog 117 1 := ⟨by kernel_rfl⟩
instance : Byt Tryz.prog 117 8 := ⟨by kernel_rfl⟩
instance : Zer Tryz.prog 117 (.nilFunc) := ⟨by kernel_rfl⟩
instance : Und Tryz.prog 118 (Go.TypeDesc.array 64 111) := ⟨Tryz.underlying118⟩
instance : Siz Tryz.prog 118 64 := ⟨by kernel_rfl⟩
instance : Byt Tryz.prog 118 256 := ⟨by kernel_rfl⟩
instance : Zer Tryz.prog 118 (.agg ((List.replicate 64 (.int .u32 0) : List Value)).toArray) := ⟨by kernel_rfl⟩
instance : Und Tryz.prog 119 (Go.TypeDesc.func #[111, 106] #[111] false) := ⟨Tryz.underlying119⟩
instance : Siz Tryz.prog 119 1 := ⟨by kernel_rfl⟩
instance : Byt Tryz.prog 119 8 := ⟨by kernel_rfl⟩
instance : Zer Tryz.prog 119 (.nilFunc) := ⟨by kernel_rfl⟩
instance : Und Tryz.prog 120 (Go.TypeDesc.func #[] #[118] false) := ⟨Tryz.underlying120⟩
instance : Siz Tryz.prog 120 1 := ⟨by kernel_rfl⟩
instance : Byt Tryz.prog 120 8 := ⟨by kernel_rfl⟩
instance : Zer Tryz.prog 120 (.nilFunc) := ⟨by kernel_rfl⟩
instance : Und Tryz.prog 121 (Go.TypeDesc.pointer 127) := ⟨Tryz.underlying121⟩
instance : Siz Tryz.prog 121 1 := ⟨by kernel_rfl⟩
instance : Byt Tryz.prog 121 8 := ⟨by kernel_rfl⟩
instance : Zer Tryz.prog 121 (.pointer none) := ⟨by kernel_rfl⟩
instance : Und Tryz.prog 122 (Go.TypeDesc.func #[] #[121] false) := ⟨Tryz.underlying122⟩
instance : Siz Tryz.prog 122 1 := ⟨by kernel_rfl⟩
instance : Byt Tryz.prog 122 8 := ⟨by kernel_rfl⟩
instance : Zer Tryz.prog 122 (.nilFunc) := ⟨by kernel_rfl⟩
instance : Und Tryz.prog 123 (Go.TypeDesc.func #[22] #[] false) := ⟨Tryz.underlying123⟩
instance : Siz Tryz.prog 123 1 := ⟨by kernel_rfl⟩
instance : Byt Tryz.prog 123 8 := ⟨by kernel_rfl⟩
instance : Zer Tryz.prog 123 (.nilFunc) := ⟨by kernel_rfl⟩
instance : Und Tryz.prog 124 (Go.TypeDesc.func #[] #[24] false) := ⟨Tryz.underlying124⟩
instance : Siz Tryz.prog 124 1 := ⟨by kernel_rfl⟩
instance : Byt Tryz.prog 124 8 := ⟨by kernel_rfl⟩
instance : Zer Tryz.prog 124 (.nilFunc) := ⟨by kernel_rfl⟩
instance : Und Tryz.prog 125 (Go.TypeDesc.func #[22, 108, 3] #[22] false) := ⟨Tryz.underlying125⟩
instance : Siz Tryz.prog 125 1 := ⟨by kernel_rfl⟩
instance : Byt Tryz.prog 125 8 := ⟨by kernel_rfl⟩
instance : Zer Tryz.prog 125 (.nilFunc) := ⟨by kernel_rfl⟩
instance : Und Tryz.prog 126 (Go.TypeDesc.struct #[{ name := "s", type := 112, offset := 0, embedded := false, tag := "", pkgPath := "ratchet/sha", byteOffset := 0 }, { name := "part", type := 114, offset := 8, embedded := false, tag := "", pkgPath := "ratchet/sha", byteOffset := 32 }, { name := "n", type := 3, offset := 72, embedded := false, tag := "", pkgPath := "ratchet/sha", byteOffset := 96 }, { name := "all", type := 23, offset := 73, embedded := false, tag := "", pkgPath := "ratchet/sha", byteOffset := 104 }]) := ⟨Tryz.underlying126⟩
instance : Siz Tryz.prog 126 74 := ⟨by kernel_rfl⟩
instance : Byt Tryz.prog 126 112 := ⟨by kernel_rfl⟩
instance : Plc Tryz.prog 126 [(0, 8), (8, 64), (72, 1), (73, 1)] := ⟨fun fs w h => by rw [Tryz.underlying126] at h; cases h; kernel_rfl⟩
instance : Zer Tryz.prog 126 (.agg ((List.replicate 8 (.int .u32 0) : List Value) ++ (List.replicate 64 (.int .u8 0) : List Value) ++ ([.int .i64 0, .int .u64 0] : List Value)).toArray) := ⟨by kernel_rfl⟩
instance : Und Tryz.prog 127 (Go.TypeDesc.struct #[{ name := "s", type := 112, offset := 0, embedded := false, tag := "", pkgPath := "ratchet/sha", byteOffset := 0 }, { name := "part", type := 114, offset := 8, embedded := false, tag := "", pkgPath := "ratchet/sha", byteOffset := 32 }, { name := "n", type := 3, offset := 72, embedded := false, tag := "", pkgPath := "ratchet/sha", byteOffset := 96 }, { name := "all", type := 23, offset := 73, embedded := false, tag := "", pkgPath := "ratchet/sha", byteOffset := 104 }]) := ⟨Tryz.underlying127⟩
instance : Siz Tryz.prog 127 74 := ⟨by kernel_rfl⟩
instance : Byt Tryz.prog 127 112 := ⟨by kernel_rfl⟩
instance : Plc Tryz.prog 127 [(0, 8), (8, 64), (72, 1), (73, 1)] := ⟨fun fs w h => by rw [Tryz.underlying127] at h; cases h; kernel_rfl⟩
instance : Zer Tryz.prog 127 (.agg ((List.replicate 8 (.int .u32 0) : List Value) ++ (List.replicate 64 (.int .u8 0) : List Value) ++ ([.int .i64 0, .int .u64 0] : List Value)).toArray) := ⟨by kernel_rfl⟩
instance : Und Tryz.prog 128 (Go.TypeDesc.func #[129] #[118] false) := ⟨Tryz.underlying128⟩
instance : Siz Tryz.prog 128 1 := ⟨by kernel_rfl⟩
instance : Byt Tryz.prog 128 8 := ⟨by kernel_rfl⟩
instance : Zer Tryz.prog 128 (.nilFunc) := ⟨by kernel_rfl⟩
instance : Und Tryz.prog 129 (Go.TypeDesc.pointer 114) := ⟨Tryz.underlying129⟩
instance : Siz Tryz.prog 129 1 := ⟨by kernel_rfl⟩
instance : Byt Tryz.prog 129 8 := ⟨by kernel_rfl⟩
instance : Zer Tryz.prog 129 (.pointer none) := ⟨by kernel_rfl⟩
instance : Und Tryz.prog 130 (Go.TypeDesc.func #[111, 3] #[111] false) := ⟨Tryz.underlying130⟩
instance : Siz Tryz.prog 130 1 := ⟨by kernel_rfl⟩
instance : Byt Tryz.prog 130 8 := ⟨by kernel_rfl⟩
instance : Zer Tryz.prog 130 (.nilFunc) := ⟨by kernel_rfl⟩
instance : Und Tryz.prog 131 (Go.TypeDesc.slice 111) := ⟨Tryz.underlying131⟩
instance : Siz Tryz.prog 131 1 := ⟨by kernel_rfl⟩
instance : Byt Tryz.prog 131 24 := ⟨by kernel_rfl⟩
instance : Zer Tryz.prog 131 (.slice none 0 0) := ⟨by kernel_rfl⟩
instance : Und Tryz.prog 132 (Go.TypeDesc.func #[] #[9] false) := ⟨Tryz.underlying132⟩
instance : Siz Tryz.prog 132 1 := ⟨by kernel_rfl⟩
instance : Byt Tryz.prog 132 8 := ⟨by kernel_rfl⟩
instance : Zer Tryz.prog 132 (.nilFunc) := ⟨by kernel_rfl⟩
instance : Und Tryz.prog 133 (Go.TypeDesc.struct #[{ name := "_interface", type := 17, offset := 0, embedded := false, tag := "", pkgPath := "runtime", byteOffset := 0 }, { name := "concrete", type := 17, offset := 1, embedded := false, tag := "", pkgPath := "runtime", byteOffset := 8 }, { name := "asserted", type := 17, offset := 2, embedded := false, tag := "", pkgPath := "runtime", byteOffset := 16 }, { name := "missingMethod", type := 9, offset := 3, embedded := false, tag := "", pkgPath := "runtime", byteOffset := 24 }]) := ⟨Tryz.underlying133⟩
instance : Siz Tryz.prog 133 4 := ⟨by kernel_rfl⟩
instance : Byt Tryz.prog 133 40 := ⟨by kernel_rfl⟩
instance : Plc Tryz.prog 133 [(0, 1), (1, 1), (2, 1), (3, 1)] := ⟨fun fs w h => by rw [Tryz.underlying133] at h; cases h; kernel_rfl⟩
instance : Zer Tryz.prog 133 (.agg (([.pointer none, .pointer none, .pointer none, .string ByteArray.empty] : List Value)).toArray) := ⟨by kernel_rfl⟩
instance : Und Tryz.prog 134 (Go.TypeDesc.struct #[{ name := "_interface", type := 17, offset := 0, embedded := false, tag := "", pkgPath := "runtime", byteOffset := 0 }, { name := "concrete", type := 17, offset := 1, embedded := false, tag := "", pkgPath := "runtime", byteOffset := 8 }, { name := "asserted", type := 17, offset := 2, embedded := false, tag := "", pkgPath := "runtime", byteOffset := 16 }, { name := "missingMethod", type := 9, offset := 3, embedded := false, tag := "", pkgPath := "runtime", byteOffset := 24 }]) := ⟨Tryz.underlying134⟩
instance : Siz Tryz.prog 134 4 := ⟨by kernel_rfl⟩
instance : Byt Tryz.prog 134 40 := ⟨by kernel_rfl⟩
instance : Plc Tryz.prog 134 [(0, 1), (1, 1), (2, 1), (3, 1)] := ⟨fun fs w h => by rw [Tryz.underlying134] at h; cases h; kernel_rfl⟩
instance : Zer Tryz.prog 134 (.agg (([.pointer none, .pointer none, .pointer none, .string ByteArray.empty] : List Value)).toArray) := ⟨by kernel_rfl⟩
instance : Und Tryz.prog 135 (Go.TypeDesc.array 0 16) := ⟨Tryz.underlying135⟩
instance : Siz Tryz.prog 135 0 := ⟨by kernel_rfl⟩
instance : Byt Tryz.prog 135 0 := ⟨by kernel_rfl⟩
instance : Zer Tryz.prog 135 (.agg ((List.replicate 0 (.pointer none) : List Value)).toArray) := ⟨by kernel_rfl⟩
instance : Und Tryz.prog 136 (Go.TypeDesc.struct #[{ name := "_", type := 135, offset := 0, embedded := false, tag := "", pkgPath := "runtime", byteOffset := 0 }]) := ⟨Tryz.underlying136⟩
instance : Siz Tryz.prog 136 0 := ⟨by kernel_rfl⟩
instance : Byt Tryz.prog 136 0 := ⟨by kernel_rfl⟩
instance : Plc Tryz.prog 136 [(0, 0)] := ⟨fun fs w h => by rw [Tryz.underlying136] at h; cases h; kernel_rfl⟩
instance : Zer Tryz.prog 136 (.agg ((List.replicate 0 (.pointer none) : List Value)).toArray) := ⟨by kernel_rfl⟩
instance : Und Tryz.prog 137 (Go.TypeDesc.struct #[{ name := "_", type := 135, offset := 0, embedded := false, tag := "", pkgPath := "runtime", byteOffset := 0 }]) := ⟨Tryz.underlying137⟩
instance : Siz Tryz.prog 137 0 := ⟨by kernel_rfl⟩
instance : Byt Tryz.prog 137 0 := ⟨by kernel_rfl⟩
instance : Plc Tryz.prog 137 [(0, 0)] := ⟨fun fs w h => by rw [Tryz.underlying137] at h; cases h; kernel_rfl⟩
instance : Zer Tryz.prog 137 (.agg ((List.replicate 0 (.pointer none) : List Value)).toArray) := ⟨by kernel_rfl⟩
instance : Und Tryz.prog 138 (Go.TypeDesc.int Go.IntKind.u8) := ⟨Tryz.underlying138⟩
instance : Siz Tryz.prog 138 1 := ⟨by kernel_rfl⟩
instance : Byt Tryz.prog 138 1 := ⟨by kernel_rfl⟩
instance : Zer Tryz.prog 138 (.int .u8 0) := ⟨by kernel_rfl⟩
instance : Und Tryz.prog 139 (Go.TypeDesc.int Go.IntKind.u8) := ⟨Tryz.underlying139⟩
instance : Siz Tryz.prog 139 1 := ⟨by kernel_rfl⟩
instance : Byt Tryz.prog 139 1 := ⟨by kernel_rfl⟩
instance : Zer Tryz.prog 139 (.int .u8 0) := ⟨by kernel_rfl⟩
instance : Und Tryz.prog 140 (Go.TypeDesc.func #[146, 146] #[4] false) := ⟨Tryz.underlying140⟩
instance : Siz Tryz.prog 140 1 := ⟨by kernel_rfl⟩
instance : Byt Tryz.prog 140 8 := ⟨by kernel_rfl⟩
instance : Zer Tryz.prog 140 (.nilFunc) := ⟨by kernel_rfl⟩
instance : Und Tryz.prog 141 (Go.TypeDesc.pointer 5) := ⟨Tryz.underlying141⟩
instance : Siz Tryz.prog 141 1 := ⟨by kernel_rfl⟩
instance : Byt Tryz.prog 141 8 := ⟨by kernel_rfl⟩
instance : Zer Tryz.prog 141 (.pointer none) := ⟨by kernel_rfl⟩
instance : Und Tryz.prog 142 (Go.TypeDesc.int Go.IntKind.i32) := ⟨Tryz.underlying142⟩
instance : Siz Tryz.prog 142 1 := ⟨by kernel_rfl⟩
instance : Byt Tryz.prog 142 4 := ⟨by kernel_rfl⟩
instance : Zer Tryz.prog 142 (.int .i32 0) := ⟨by kernel_rfl⟩
instance : Und Tryz.prog 143 (Go.TypeDesc.int Go.IntKind.i32) := ⟨Tryz.underlying143⟩
instance : Siz Tryz.prog 143 1 := ⟨by kernel_rfl⟩
instance : Byt Tryz.prog 143 4 := ⟨by kernel_rfl⟩
instance : Zer Tryz.prog 143 (.int .i32 0) := ⟨by kernel_rfl⟩
instance : Und Tryz.prog 144 (Go.TypeDesc.struct #[{ name := "Size_", type := 12, offset := 0, embedded := false, tag := "", pkgPath := "", byteOffset := 0 }, { name := "PtrBytes", type := 12, offset := 1, embedded := false, tag := "", pkgPath := "", byteOffset := 8 }, { name := "Hash", type := 111, offset := 2, embedded := false, tag := "", pkgPath := "", byteOffset := 16 }, { name := "TFlag", type := 138, offset := 3, embedded := false, tag := "", pkgPath := "", byteOffset := 20 }, { name := "Align_", type := 5, offset := 4, embedded := false, tag := "", pkgPath := "", byteOffset := 21 }, { name := "FieldAlign_", type := 5, offset := 5, embedded := false, tag := "", pkgPath := "", byteOffset := 22 }, { name := "Kind_", type := 139, offset := 6, embedded := false, tag := "", pkgPath := "", byteOffset := 23 }, { name := "Equal", type := 140, offset := 7, embedded := false, tag := "", pkgPath := "", byteOffset := 24 }, { name := "GCData", type := 141, offset := 8, embedded := false, tag := "", pkgPath := "", byteOffset := 32 }, { name := "Str", type := 142, offset := 9, embedded := false, tag := "", pkgPath := "", byteOffset := 40 }, { name := "PtrToThis", type := 143, offset := 10, embedded := false, tag := "", pkgPath := "", byteOffset := 44 }]) := ⟨Tryz.underlying144⟩
instance : Siz Tryz.prog 144 11 := ⟨by kernel_rfl⟩
instance : Byt Tryz.prog 144 48 := ⟨by kernel_rfl⟩
instance : Plc Tryz.prog 144 [(0, 1), (1, 1), (2, 1), (3, 1), (4, 1), (5, 1), (6, 1), (7, 1), (8, 1), (9, 1), (10, 1)] := ⟨fun fs w h => by rw [Tryz.underlying144] at h; cases h; kernel_rfl⟩
instance : Zer Tryz.prog 144 (.agg (([.int .u64 0, .int .u64 0, .int .u32 0, .int .u8 0, .int .u8 0, .int .u8 0, .int .u8 0, .nilFunc, .pointer none, .int .i32 0, .int .i32 0] : List Value)).toArray) := ⟨by kernel_rfl⟩
instance : Und Tryz.prog 145 (Go.TypeDesc.struct #[{ name := "Size_", type := 12, offset := 0, embedded := false, tag := "", pkgPath := "", byteOffset := 0 }, { name := "PtrBytes", type := 12, offset := 1, embedded := false, tag := "", pkgPath := "", byteOffset := 8 }, { name := "Hash", type := 111, offset := 2, embedded := false, tag := "", pkgPath := "", byteOffset := 16 }, { name := "TFlag", type := 138, offset := 3, embedded := false, tag := "", pkgPath := "", byteOffset := 20 }, { name := "Align_", type := 5, offset := 4, embedded := false, tag := "", pkgPath := "", byteOffset := 21 }, { name := "FieldAlign_", type := 5, offset := 5, embedded := false, tag := "", pkgPath := "", byteOffset := 22 }, { name := "Kind_", type := 139, offset := 6, embedded := false, tag := "", pkgPath := "", byteOffset := 23 }, { name := "Equal", type := 140, offset := 7, embedded := false, tag := "", pkgPath := "", byteOffset := 24 }, { name := "GCData", type := 141, offset := 8, embedded := false, tag := "", pkgPath := "", byteOffset := 32 }, { name := "Str", type := 142, offset := 9, embedded := false, tag := "", pkgPath := "", byteOffset := 40 }, { name := "PtrToThis", type := 143, offset := 10, embedded := false, tag := "", pkgPath := "", byteOffset := 44 }]) := ⟨Tryz.underlying145⟩
instance : Siz Tryz.prog 145 11 := ⟨by kernel_rfl⟩
instance : Byt Tryz.prog 145 48 := ⟨by kernel_rfl⟩
instance : Plc Tryz.prog 145 [(0, 1), (1, 1), (2, 1), (3, 1), (4, 1), (5, 1), (6, 1), (7, 1), (8, 1), (9, 1), (10, 1)] := ⟨fun fs w h => by rw [Tryz.underlying145] at h; cases h; kernel_rfl⟩
instance : Zer Tryz.prog 145 (.agg (([.int .u64 0, .int .u64 0, .int .u32 0, .int .u8 0, .int .u8 0, .int .u8 0, .int .u8 0, .nilFunc, .pointer none, .int .i32 0, .int .i32 0] : List Value)).toArray) := ⟨by kernel_rfl⟩
instance : Und Tryz.prog 146 (Go.TypeDesc.unsafePointer) := ⟨Tryz.underlying146⟩
instance : Siz Tryz.prog 146 1 := ⟨by kernel_rfl⟩
instance : Byt Tryz.prog 146 8 := ⟨by kernel_rfl⟩
instance : Zer Tryz.prog 146 (.pointer none) := ⟨by kernel_rfl⟩
instance : Fun Tryz.prog 3 := ⟨Tryz.f3, Tryz.func3, by kernel_rfl, by kernel_rfl⟩
instance : Fun Tryz.prog 4 := ⟨Tryz.f4, Tryz.func4, by kernel_rfl, by kernel_rfl⟩
instance : Fun Tryz.prog 5 := ⟨Tryz.f5, Tryz.func5, by kernel_rfl, by kernel_rfl⟩
instance : Fun Tryz.prog 6 := ⟨Tryz.f6, Tryz.func6, by kernel_rfl, by kernel_rfl⟩
instance : Fun Tryz.prog 7 := ⟨Tryz.f7, Tryz.func7, by kernel_rfl, by kernel_rfl⟩
instance : Fun Tryz.prog 8 := ⟨Tryz.f8, Tryz.func8, by kernel_rfl, by kernel_rfl⟩
instance : Fun Tryz.prog 9 := ⟨Tryz.f9, Tryz.func9, by kernel_rfl, by kernel_rfl⟩
instance : Fun Tryz.prog 10 := ⟨Tryz.f10, Tryz.func10, by kernel_rfl, by kernel_rfl⟩
instance : Fun Tryz.prog 11 := ⟨Tryz.f11, Tryz.func11, by kernel_rfl, by kernel_rfl⟩
instance : Fun Tryz.prog 12 := ⟨Tryz.f12, Tryz.func12, by kernel_rfl, by kernel_rfl⟩
instance : Fun Tryz.prog 13 := ⟨Tryz.f13, Tryz.func13, by kernel_rfl, by kernel_rfl⟩
instance : Fun Tryz.prog 14 := ⟨Tryz.f14, Tryz.func14, by kernel_rfl, by kernel_rfl⟩
instance : Fun Tryz.prog 15 := ⟨Tryz.f15, Tryz.func15, by kernel_rfl, by kernel_rfl⟩
instance : Fun Tryz.prog 16 := ⟨Tryz.f16, Tryz.func16, by kernel_rfl, by kernel_rfl⟩
instance : Fun Tryz.prog 17 := ⟨Tryz.f17, Tryz.func17, by kernel_rfl, by kernel_rfl⟩
instance : Fun Tryz.prog 18 := ⟨Tryz.f18, Tryz.func18, by kernel_rfl, by kernel_rfl⟩
instance : Fun Tryz.prog 19 := ⟨Tryz.f19, Tryz.func19, by kernel_rfl, by kernel_rfl⟩
instance : Fun Tryz.prog 20 := ⟨Tryz.f20, Tryz.func20, by kernel_rfl, by kernel_rfl⟩
instance : Fun Tryz.prog 21 := ⟨Tryz.f21, Tryz.func21, by kernel_rfl, by kernel_rfl⟩
instance : Fun Tryz.prog 22 := ⟨Tryz.f22, Tryz.func22, by kernel_rfl, by kernel_rfl⟩
instance : Fun Tryz.prog 23 := ⟨Tryz.f23, Tryz.func23, by kernel_rfl, by kernel_rfl⟩
instance : Fun Tryz.prog 24 := ⟨Tryz.f24, Tryz.func24, by kernel_rfl, by kernel_rfl⟩
instance : Fun Tryz.prog 25 := ⟨Tryz.f25, Tryz.func25, by kernel_rfl, by kernel_rfl⟩
instance : Fun Tryz.prog 26 := ⟨Tryz.f26, Tryz.func26, by kernel_rfl, by kernel_rfl⟩
instance : Fun Tryz.prog 27 := ⟨Tryz.f27, Tryz.func27, by kernel_rfl, by kernel_rfl⟩
instance : Fun Tryz.prog 28 := ⟨Tryz.f28, Tryz.func28, by kernel_rfl, by kernel_rfl⟩
instance : Fun Tryz.prog 29 := ⟨Tryz.f29, Tryz.func29, by kernel_rfl, by kernel_rfl⟩
instance : Fun Tryz.prog 30 := ⟨Tryz.f30, Tryz.func30, by kernel_rfl, by kernel_rfl⟩
instance : Fun Tryz.prog 31 := ⟨Tryz.f31, Tryz.func31, by kernel_rfl, by kernel_rfl⟩
instance : Fun Tryz.prog 32 := ⟨Tryz.f32, Tryz.func32, by kernel_rfl, by kernel_rfl⟩
instance : Fun Tryz.prog 33 := ⟨Tryz.f33, Tryz.func33, by kernel_rfl, by kernel_rfl⟩
instance : Fun Tryz.prog 34 := ⟨Tryz.f34, Tryz.func34, by kernel_rfl, by kernel_rfl⟩
instance : Fun Tryz.prog 35 := ⟨Tryz.f35, Tryz.func35, by kernel_rfl, by kernel_rfl⟩
instance : Fun Tryz.prog 36 := ⟨Tryz.f36, Tryz.func36, by kernel_rfl, by kernel_rfl⟩
instance : Fun Tryz.prog 37 := ⟨Tryz.f37, Tryz.func37, by kernel_rfl, by kernel_rfl⟩
instance : Fun Tryz.prog 38 := ⟨Tryz.f38, Tryz.func38, by kernel_rfl, by kernel_rfl⟩
instance : Fun Tryz.prog 39 := ⟨Tryz.f39, Tryz.func39, by kernel_rfl, by kernel_rfl⟩
instance : Fun Tryz.prog 40 := ⟨Tryz.f40, Tryz.func40, by kernel_rfl, by kernel_rfl⟩
instance : Fun Tryz.prog 41 := ⟨Tryz.f41, Tryz.func41, by kernel_rfl, by kernel_rfl⟩
instance : Fun Tryz.prog 42 := ⟨Tryz.f42, Tryz.func42, by kernel_rfl, by kernel_rfl⟩
instance : Fun Tryz.prog 43 := ⟨Tryz.f43, Tryz.func43, by kernel_rfl, by kernel_rfl⟩
instance : Fun Tryz.prog 44 := ⟨Tryz.f44, Tryz.func44, by kernel_rfl, by kernel_rfl⟩
instance : Fun Tryz.prog 45 := ⟨Tryz.f45, Tryz.func45, by kernel_rfl, by kernel_rfl⟩
instance : Fun Tryz.prog 46 := ⟨Tryz.f46, Tryz.func46, by kernel_rfl, by kernel_rfl⟩
instance : Fun Tryz.prog 47 := ⟨Tryz.f47, Tryz.func47, by kernel_rfl, by kernel_rfl⟩
instance : Fun Tryz.prog 48 := ⟨Tryz.f48, Tryz.func48, by kernel_rfl, by kernel_rfl⟩
instance : Fun Tryz.prog 49 := ⟨Tryz.f49, Tryz.func49, by kernel_rfl, by kernel_rfl⟩
instance : Fun Tryz.prog 50 := ⟨Tryz.f50, Tryz.func50, by kernel_rfl, by kernel_rfl⟩
instance : Fun Tryz.prog 51 := ⟨Tryz.f51, Tryz.func51, by kernel_rfl, by kernel_rfl⟩
instance : Fun Tryz.prog 52 := ⟨Tryz.f52, Tryz.func52, by kernel_rfl, by kernel_rfl⟩
instance : Fun Tryz.prog 53 := ⟨Tryz.f53, Tryz.func53, by kernel_rfl, by kernel_rfl⟩
instance : Fun Tryz.prog 54 := ⟨Tryz.f54, Tryz.func54, by kernel_rfl, by kernel_rfl⟩
instance : Fun Tryz.prog 55 := ⟨Tryz.f55, Tryz.func55, by kernel_rfl, by kernel_rfl⟩
instance : Fun Tryz.prog 56 := ⟨Tryz.f56, Tryz.func56, by kernel_rfl, by kernel_rfl⟩
instance : Fun Tryz.prog 57 := ⟨Tryz.f57, Tryz.func57, by kernel_rfl, by kernel_rfl⟩
instance : Fun Tryz.prog 58 := ⟨Tryz.f58, Tryz.func58, by kernel_rfl, by kernel_rfl⟩
instance : Fun Tryz.prog 59 := ⟨Tryz.f59, Tryz.func59, by kernel_rfl, by kernel_rfl⟩
instance : Fun Tryz.prog 60 := ⟨Tryz.f60, Tryz.func60, by kernel_rfl, by kernel_rfl⟩
instance : Fun Tryz.prog 61 := ⟨Tryz.f61, Tryz.func61, by kernel_rfl, by kernel_rfl⟩
instance : Fun Tryz.prog 62 := ⟨Tryz.f62, Tryz.func62, by kernel_rfl, by kernel_rfl⟩
instance : Fun Tryz.prog 63 := ⟨Tryz.f63, Tryz.func63, by kernel_rfl, by kernel_rfl⟩
instance : Fun Tryz.prog 64 := ⟨Tryz.f64, Tryz.func64, by kernel_rfl, by kernel_rfl⟩
instance : Fun Tryz.prog 65 := ⟨Tryz.f65, Tryz.func65, by kernel_rfl, by kernel_rfl⟩
instance : Fun Tryz.prog 66 := ⟨Tryz.f66, Tryz.func66, by kernel_rfl, by kernel_rfl⟩
instance : Fun Tryz.prog 67 := ⟨Tryz.f67, Tryz.func67, by kernel_rfl, by kernel_rfl⟩
instance : Fun Tryz.prog 68 := ⟨Tryz.f68, Tryz.func68, by kernel_rfl, by kernel_rfl⟩
instance : Fun Tryz.prog 69 := ⟨Tryz.f69, Tryz.func69, by kernel_rfl, by kernel_rfl⟩
instance : Fun Tryz.prog 70 := ⟨Tryz.f70, Tryz.func70, by kernel_rfl, by kernel_rfl⟩
instance : Fun Tryz.prog 71 := ⟨Tryz.f71, Tryz.func71, by kernel_rfl, by kernel_rfl⟩
instance : Fun Tryz.prog 72 := ⟨Tryz.f72, Tryz.func72, by kernel_rfl, by kernel_rfl⟩
instance : Fun Tryz.prog 73 := ⟨Tryz.f73, Tryz.func73, by kernel_rfl, by kernel_rfl⟩
instance : Fun Tryz.prog 74 := ⟨Tryz.f74, Tryz.func74, by kernel_rfl, by kernel_rfl⟩
instance : Fun Tryz.prog 75 := ⟨Tryz.f75, Tryz.func75, by kernel_rfl, by kernel_rfl⟩
instance : Fun Tryz.prog 76 := ⟨Tryz.f76, Tryz.func76, by kernel_rfl, by kernel_rfl⟩
instance : Fun Tryz.prog 77 := ⟨Tryz.f77, Tryz.func77, by kernel_rfl, by kernel_rfl⟩
instance : Fun Tryz.prog 78 := ⟨Tryz.f78, Tryz.func78, by kernel_rfl, by kernel_rfl⟩
instance : Fun Tryz.prog 79 := ⟨Tryz.f79, Tryz.func79, by kernel_rfl, by kernel_rfl⟩
instance : Fun Tryz.prog 80 := ⟨Tryz.f80, Tryz.func80, by kernel_rfl, by kernel_rfl⟩
instance : Fun Tryz.prog 81 := ⟨Tryz.f81, Tryz.func81, by kernel_rfl, by kernel_rfl⟩
instance : Fun Tryz.prog 82 := ⟨Tryz.f82, Tryz.func82, by kernel_rfl, by kernel_rfl⟩
instance : Fun Tryz.prog 83 := ⟨Tryz.f83, Tryz.func83, by kernel_rfl, by kernel_rfl⟩
instance : Fun Tryz.prog 84 := ⟨Tryz.f84, Tryz.func84, by kernel_rfl, by kernel_rfl⟩
instance : Fun Tryz.prog 85 := ⟨Tryz.f85, Tryz.func85, by kernel_rfl, by kernel_rfl⟩
instance : Fun Tryz.prog 86 := ⟨Tryz.f86, Tryz.func86, by kernel_rfl, by kernel_rfl⟩
instance : Fun Tryz.prog 87 := ⟨Tryz.f87, Tryz.func87, by kernel_rfl, by kernel_rfl⟩
instance : Fun Tryz.prog 88 := ⟨Tryz.f88, Tryz.func88, by kernel_rfl, by kernel_rfl⟩
instance : Fun Tryz.prog 89 := ⟨Tryz.f89, Tryz.func89, by kernel_rfl, by kernel_rfl⟩
instance : Fun Tryz.prog 90 := ⟨Tryz.f90, Tryz.func90, by kernel_rfl, by kernel_rfl⟩
instance : Fun Tryz.prog 91 := ⟨Tryz.f91, Tryz.func91, by kernel_rfl, by kernel_rfl⟩
instance : Fun Tryz.prog 92 := ⟨Tryz.f92, Tryz.func92, by kernel_rfl, by kernel_rfl⟩
instance : Fun Tryz.prog 93 := ⟨Tryz.f93, Tryz.func93, by kernel_rfl, by kernel_rfl⟩
instance : Fun Tryz.prog 94 := ⟨Tryz.f94, Tryz.func94, by kernel_rfl, by kernel_rfl⟩
instance : Fun Tryz.prog 95 := ⟨Tryz.f95, Tryz.func95, by kernel_rfl, by kernel_rfl⟩
instance : Fun Tryz.prog 96 := ⟨Tryz.f96, Tryz.func96, by kernel_rfl, by kernel_rfl⟩
instance : Fun Tryz.prog 97 := ⟨Tryz.f97, Tryz.func97, by kernel_rfl, by kernel_rfl⟩
instance : Fun Tryz.prog 98 := ⟨Tryz.f98, Tryz.func98, by kernel_rfl, by kernel_rfl⟩
instance : Fun Tryz.prog 99 := ⟨Tryz.f99, Tryz.func99, by kernel_rfl, by kernel_rfl⟩
instance : Fun Tryz.prog 100 := ⟨Tryz.f100, Tryz.func100, by kernel_rfl, by kernel_rfl⟩
instance : Fun Tryz.prog 101 := ⟨Tryz.f101, Tryz.func101, by kernel_rfl, by kernel_rfl⟩
instance : Fun Tryz.prog 102 := ⟨Tryz.f102, Tryz.func102, by kernel_rfl, by kernel_rfl⟩
instance : Fun Tryz.prog 103 := ⟨Tryz.f103, Tryz.func103, by kernel_rfl, by kernel_rfl⟩
instance : Fun Tryz.prog 104 := ⟨Tryz.f104, Tryz.func104, by kernel_rfl, by kernel_rfl⟩
instance : Fun Tryz.prog 105 := ⟨Tryz.f105, Tryz.func105, by kernel_rfl, by kernel_rfl⟩
instance : Fun Tryz.prog 106 := ⟨Tryz.f106, Tryz.func106, by kernel_rfl, by kernel_rfl⟩
instance : Fun Tryz.prog 107 := ⟨Tryz.f107, Tryz.func107, by kernel_rfl, by kernel_rfl⟩
instance : Fun Tryz.prog 108 := ⟨Tryz.f108, Tryz.func108, by kernel_rfl, by kernel_rfl⟩
instance : Fun Tryz.prog 109 := ⟨Tryz.f109, Tryz.func109, by kernel_rfl, by kernel_rfl⟩
instance : Fun Tryz.prog 110 := ⟨Tryz.f110, Tryz.func110, by kernel_rfl, by kernel_rfl⟩
instance : Fun Tryz.prog 111 := ⟨Tryz.f111, Tryz.func111, by kernel_rfl, by kernel_rfl⟩
instance : Fun Tryz.prog 112 := ⟨Tryz.f112, Tryz.func112, by kernel_rfl, by kernel_rfl⟩
instance : Fun Tryz.prog 113 := ⟨Tryz.f113, Tryz.func113, by kernel_rfl, by kernel_rfl⟩
instance : Fun Tryz.prog 114 := ⟨Tryz.f114, Tryz.func114, by kernel_rfl, by kernel_rfl⟩
instance : Fun Tryz.prog 115 := ⟨Tryz.f115, Tryz.func115, by kernel_rfl, by kernel_rfl⟩
instance : Fun Tryz.prog 116 := ⟨Tryz.f116, Tryz.func116, by kernel_rfl, by kernel_rfl⟩
instance : Fun Tryz.prog 117 := ⟨Tryz.f117, Tryz.func117, by kernel_rfl, by kernel_rfl⟩
end Go.Proofs.YtcaofnfemogleaaGreatDoor

/- Layer 1, bytes: numbers and texts put behind bytes, by the program and by the document. -/
namespace Go.Proofs.YtcaofnfemogleaaGreatDoor
set_option linter.unusedSectionVars false
set_option linter.unusedSimpArgs false
set_option linter.unusedVariables false
open Go

def byteAt (n : Int) (i : Nat) : UInt8 := UInt8.ofNat ((n.fdiv (2 ^ (8 * i))) % 256).toNat
/-- The first i of a number's k bytes, the highest first. -/
def beTop (k : Nat) (n : Int) : Nat → List UInt8
  | 0 => []
  | i + 1 => beTop k n i ++ [byteAt n (k - 1 - i)]
/-- The bytes of a number, the highest first. -/
def be (k : Nat) (n : Int) : List UInt8 := beTop k n k
theorem beTop_len (k : Nat) (n : Int) : ∀ i, (beTop k n i).length = i
  | 0 => rfl
  | i + 1 => by simp [beTop, beTop_len k n i]
theorem be_len (k : Nat) (n : Int) : (be k n).length = k := beTop_len k n k
theorem byteAt_wrap (n : Int) (i : Nat) : IntKind.u8.wrap (n.fdiv (2 ^ (8 * i))) = ((byteAt n i).toNat : Int) := by
  have h : IntKind.u8.wrap (n.fdiv (2 ^ (8 * i))) = (n.fdiv (2 ^ (8 * i))) % 256 := by
    simp [IntKind.wrap, IntKind.signed, IntKind.bits]
  rw [h]
  unfold byteAt
  have h1 : 0 ≤ (n.fdiv (2 ^ (8 * i))) % 256 := Int.emod_nonneg _ (by decide)
  have h2 : (n.fdiv (2 ^ (8 * i))) % 256 < 256 := Int.emod_lt_of_pos _ (by decide)
  generalize (n.fdiv (2 ^ (8 * i))) % 256 = z at h1 h2
  rw [UInt8.toNat_ofNat']
  omega
theorem bytesV_len (l : List UInt8) : (bytesV l).length = l.length := by simp [bytesV]
theorem bytesV_append (a b : List UInt8) : bytesV (a ++ b) = bytesV a ++ bytesV b := by simp [bytesV]
theorem bytesV_one (l : List UInt8) : ∀ v ∈ bytesV l, one v = true := by
  intro v hv
  obtain ⟨b, _, rfl⟩ := List.mem_map.1 hv
  rfl
theorem Fn.slc_cap {P : Program} {fid : FuncId} {args : List Value} {f : Frag} {A A' : List HP} {R : Value → Frag → List HP → Prop} {p : Option Addr} {m c sz : Nat} {T : TypeId} {xs : List Value} (h : At A (slc p m c T sz xs) A' (slc p m c T sz xs))
    (k : m ≤ c → c ≤ 9223372036854775807 → xs.length = m * sz → Fn P fid args f A R) : Fn P fid args f A R := fun base w s => by
  obtain ⟨h1, h2, h3⟩ := s.slc_at h
  rcases h3 with ⟨rfl, rfl⟩ | ⟨b, sp, rfl, h4, _⟩
  · exact k (Nat.le_refl _) h2 h1 base w s
  · exact k h4 h2 h1 base w s
/-- A fresh slice of bytes. -/
def BytesR (l : List UInt8) (f : Frag) (A : List HP) : Value → Frag → List HP → Prop := fun v f' A' => ∃ p c, v = .slice p l.length c ∧ f' = f ∧ A' = slc p l.length c 5 1 (bytesV l) :: A

section
variable (f : Frag) (A : List HP)

theorem cloneB_fn {p : Option Addr} {c : Nat} {l : List UInt8} (hs : Src Tryz.prog f A (.slice p l.length c) 1 l.length (bytesV l)) (hn : p = none → l = []) (hl : l.length ≤ 100000000000) :
    Fn Tryz.prog 52 [.slice p l.length c] f A (BytesR l f A) := by
  cases p with
  | none =>
    have := hn rfl
    subst this
    refine Fn.enter Tryz.func52 rfl Tryz.ntmps52 rfl (L := [(0, _)]) ⟨rfl, trivial⟩ fun base => ?_
    repeat (first | ((first | apply H.move | apply H.assign); (iterate 3 exact rfl)) | (first | apply H.seq | apply H.region | apply H.nil | apply H.then_normal) | ((apply H.sliceNil); (iterate 5 exact rfl)) | (apply H.cond_true; exact rfl) | (first | apply H.ret | apply H.then_ret))
    refine H.slc0 5 1 ?_
    exact H.ret1 rfl rfl (fun _ h => h) ⟨none, 0, rfl, rfl, rfl⟩
  | some a =>
    refine Fn.enter Tryz.func52 rfl Tryz.ntmps52 rfl (L := [(0, _)]) ⟨rfl, trivial⟩ fun base => ?_
    repeat (first | ((first | apply H.move | apply H.assign); (iterate 3 exact rfl)) | (first | apply H.seq | apply H.region | apply H.nil | apply H.then_normal) | ((apply H.sliceNil); (iterate 5 exact rfl)) | (apply H.cond_false; exact rfl) | (apply H.skip))
    refine H.buildSlice rfl rfl rfl rfl (by decide) (by decide) rfl rfl fun eb => ?_
    repeat (((apply H.move); (iterate 3 exact rfl)))
    refine H.imp (A' := slc (some ⟨eb, 0, none⟩) 0 0 5 1 [] :: A) ?_ ?_
    · rintro x ⟨m1, m2, d, e, a, r⟩
      exact ⟨m1, m2, d, e, row_slc (by rfl) (by decide) a, r⟩
    refine H.append rfl rfl rfl rfl rfl (fun p' c' => .here _ _ _) hs.cons (bytesV_one l) rfl (by omega) (by omega) fun p' c' => ?_
    repeat (first | ((apply H.assign); (iterate 3 exact rfl)) | (first | apply H.nil | apply H.then_normal) | (apply H.ret))
    refine H.ret1 rfl rfl (A' := slc p' l.length c' 5 1 (bytesV l) :: A) ?_ ⟨p', c', by rw [Nat.zero_add], rfl, rfl⟩
    simp only [List.nil_append, Nat.zero_add]
    exact fun _ h => h

theorem growB_fn {p : Option Addr} {c m : Nat} {l : List UInt8} (hl : l.length ≤ 100000000000) (hm : m ≤ 1000000) :
    Fn Tryz.prog 87 [.slice p l.length c, .int .i64 (m : Nat)] f (slc p l.length c 5 1 (bytesV l) :: A) (BytesR l f A) := by
  refine Fn.slc_cap (.here _ _ _) fun hc hcm _ => ?_
  by_cases hg : c < l.length + m
  · refine Fn.enter Tryz.func87 rfl Tryz.ntmps87 rfl (L := [(0, _), (1, _)]) ⟨rfl, rfl, trivial⟩ fun base => ?_
    repeat (first | ((first | apply H.move | apply H.assign | apply H.len_slice | apply H.cap_slice); (iterate 3 exact rfl)) | (first | apply H.seq | apply H.region | apply H.nil | apply H.then_normal) | ((apply H.cmp); (iterate 5 exact rfl)) | ((apply H.ar; (iterate 4 exact rfl)); (with_reducible apply wr_i64; omega); exact rfl) | (apply H.cond_false; exact rfl) | (apply H.skip) | (apply H.cond_yes; exact rfl; (omega)))
    skip
    refine H.slc_full fun sp hsp _ => ?_
    refine H.sliceTo rfl rfl rfl rfl (Nat.le_refl _) rfl ?_
    repeat (((apply H.move); (iterate 3 exact rfl)))
    refine H.appendZ (m := m - (c - l.length)) rfl rfl rfl rfl (by omega) (fun p' c' => .here _ _ _) rfl (by omega) (by omega) (by omega) (by omega) fun p' c' => ?_
    repeat (((first | apply H.move | apply H.len_slice); (iterate 3 exact rfl)))
    refine H.slc_cap (.here _ _ _) fun hc' _ _ => ?_
    refine H.sliceTo rfl rfl rfl rfl (by omega) rfl ?_
    refine H.slc_trunc (m' := l.length) (ys := bytesV l) (by omega) hc' ?_ ?_
    · rw [List.append_assoc, Nat.mul_one, List.take_append_of_le_length (by rw [bytesV_len]; exact Nat.le_refl _), List.take_of_length_le (by rw [bytesV_len]; exact Nat.le_refl _)]
    repeat (first | ((first | apply H.move | apply H.assign); (iterate 3 exact rfl)) | (first | apply H.seq | apply H.region | apply H.nil | apply H.then_normal) | (apply H.ret))
    exact H.ret1 rfl rfl (fun _ h => h) ⟨p', c', rfl, rfl, rfl⟩
  · refine Fn.enter Tryz.func87 rfl Tryz.ntmps87 rfl (L := [(0, _), (1, _)]) ⟨rfl, rfl, trivial⟩ fun base => ?_
    repeat (first | ((first | apply H.move | apply H.assign | apply H.len_slice | apply H.cap_slice); (iterate 3 exact rfl)) | (first | apply H.seq | apply H.region | apply H.nil | apply H.then_normal) | ((apply H.cmp); (iterate 5 exact rfl)) | ((apply H.ar; (iterate 4 exact rfl)); (with_reducible apply wr_i64; omega); exact rfl) | (apply H.cond_false; exact rfl) | (first | apply H.skip | apply H.ret) | (apply H.cond_no; exact rfl; (omega)))
    skip
    exact H.ret1 rfl rfl (fun _ h => h) ⟨p, c, rfl, rfl, rfl⟩

theorem put_fn {p : Option Addr} {c k : Nat} {l : List UInt8} {n : Int} (hs : Src Tryz.prog f A (.slice p l.length c) 1 l.length (bytesV l)) (hn : p = none → l = []) (hl : l.length ≤ 10000000000) (hk : k ≤ 8) :
    Fn Tryz.prog 88 [.slice p l.length c, .int .u64 n, .int .i64 (k : Nat)] f A (BytesR (l ++ be k n) f A) := by
  refine Fn.enter Tryz.func88 rfl Tryz.ntmps88 rfl (L := [(0, _), (1, _), (2, _)]) ⟨rfl, rfl, rfl, trivial⟩ fun base => ?_
  repeat (first | ((first | apply H.move | apply H.assign); (iterate 3 exact rfl)) | (first | apply H.seq | apply H.region | apply H.nil | apply H.then_normal))
  refine H.callE2 rfl rfl rfl (cloneB_fn f A hs hn (by omega)) fun p1 c1 => ?_
  repeat (((apply H.move); (iterate 3 exact rfl)))
  refine H.callE2 rfl rfl rfl (growB_fn f A (by omega) (by omega)) fun p2 c2 => ?_
  repeat (first | ((first | apply H.move | apply H.assign); (iterate 3 exact rfl)) | (first | apply H.seq | apply H.region | apply H.nil | apply H.then_normal) | ((apply H.ar; (iterate 4 exact rfl)); (with_reducible apply wr_i64; omega); exact rfl) | (apply H.block))
  refine H.loop (ι := Nat × Option Addr × Nat) (fun i => [(8, .int .i64 ((k : Int) - 1 - (i.1 : Int))), (7, .slice i.2.1 (l ++ beTop k n i.1).length i.2.2), (1, .int .u64 n)]) (fun _ => f)
    (fun i => slc i.2.1 (l ++ beTop k n i.1).length i.2.2 5 1 (bytesV (l ++ beTop k n i.1)) :: A) (fun i => i.1 ≤ k) (fun i => k - i.1) (0, p2, c2) (Nat.zero_le _) ?_ rfl ?_ fun i hi => ?_
  · refine ⟨?_, ?_, rfl, trivial⟩
    · show some (Value.int .i64 ((k : Int) - 1)) = some (Value.int .i64 ((k : Int) - 1 - ((0 : Nat) : Int)))
      simp
    · show some (Value.slice p2 l.length c2) = some (Value.slice p2 (l ++ []).length c2)
      simp
  · show slc p2 l.length c2 _ 1 (bytesV l) :: A = slc p2 (l ++ []).length c2 _ 1 (bytesV (l ++ [])) :: A
    simp
  · obtain ⟨i, p', c'⟩ := i
    have hi : i ≤ k := hi
    show H _ _ _ [(8, .int .i64 ((k : Int) - 1 - (i : Int))), (7, .slice p' (l ++ beTop k n i).length c'), (1, .int .u64 n)] _ (slc p' (l ++ beTop k n i).length c' _ 1 (bytesV (l ++ beTop k n i)) :: A) _
    generalize hacc : l ++ beTop k n i = acc
    have hlen : acc.length = l.length + i := by rw [← hacc, List.length_append, beTop_len]
    by_cases hlt : i < k
    · have hexp : min (8 * ((k : Int) - 1 - (i : Int))).toNat IntKind.u64.bits = 8 * (k - 1 - i) := by simp only [IntKind.bits]; omega
      have hsh : n.fdiv (2 ^ (min (8 * ((k : Int) - 1 - (i : Int))).toNat IntKind.u64.bits)) = n.fdiv (2 ^ (8 * (k - 1 - i))) := by rw [hexp]
      repeat (first | ((apply H.move); (iterate 3 exact rfl)) | (first | apply H.seq | apply H.region | apply H.nil | apply H.then_normal) | ((apply H.cmp); (iterate 5 exact rfl)) | ((apply H.ar; (iterate 4 exact rfl)); (with_reducible apply wr_i64; omega); exact rfl) | (first | apply H.skip | apply H.block) | (apply H.cond_yes; exact rfl; (omega)))
      refine H.shift rfl rfl rfl rfl (by omega) hsh rfl ?_
      refine H.conv_int rfl rfl (byteAt_wrap n (k - 1 - i)) rfl ?_
      refine H.buildSlice rfl rfl rfl rfl (by decide) (by decide) rfl rfl fun tb => ?_
      refine H.append (m := 1) rfl rfl rfl rfl rfl (fun p' c' => (by repeat (first | exact .here _ _ _ | apply At.there))) (Src.slice (Rd.ofRow (by repeat (first | exact .here _ _ _ | apply At.there))) rfl) (allOne_mem rfl) rfl (by omega) (by omega) fun p'' c'' => ?_
      repeat (first | ((first | apply H.move | apply H.assign); (iterate 3 exact rfl)) | (first | apply H.region | apply H.nil | apply H.then_normal) | ((apply H.ar; (iterate 4 exact rfl)); (with_reducible apply wr_i64; omega); exact rfl) | (apply H.in_normal))
      refine H.drop (.here _ _) ?_
      have e1 : l ++ beTop k n (i + 1) = acc ++ [byteAt n (k - 1 - i)] := by rw [← hacc]; simp [beTop]
      refine H.know (d := 8) (u := .int .i64 ((k : Int) - 1 - ((i + 1 : Nat) : Int))) rfl (congrArg (Value.int .i64) (by omega)) ?_
      refine H.again (i + 1, p'', c'') (by show i + 1 ≤ k; omega) (by show k - (i + 1) < k - i; omega) ⟨rfl, ?_, rfl, trivial⟩ rfl ?_
      · show some _ = some (Value.slice p'' (l ++ beTop k n (i + 1)).length c'')
        rw [e1, List.length_append]
        exact rfl
      · show _ = slc p'' (l ++ beTop k n (i + 1)).length c'' _ 1 (bytesV (l ++ beTop k n (i + 1))) :: A
        rw [e1, List.length_append, bytesV_append]
        rfl
    · have : i = k := by omega
      subst this
      subst hacc
      repeat (first | ((first | apply H.move | apply H.assign); (iterate 3 exact rfl)) | (first | apply H.seq | apply H.region | apply H.nil | apply H.then_normal) | ((apply H.cmp); (iterate 5 exact rfl)) | (first | apply H.ret | apply H.then_exit | apply H.exit | apply H.in_hit | apply H.loop_exit) | (apply H.cond_no; exact rfl; (omega)))
      exact H.ret1 rfl rfl (fun _ h => h) ⟨p', c', rfl, rfl, rfl⟩

theorem putH_fn {p : Option Addr} {c k : Nat} {l : List UInt8} {n : Int} (hs : Src Tryz.prog f A (.slice p l.length c) 1 l.length (bytesV l)) (hn : p = none → l = []) (hl : l.length ≤ 10000000000) (hk : k ≤ 2) :
    Fn Tryz.prog 112 [.slice p l.length c, .int .u16 n, .int .i64 (k : Nat)] f A (BytesR (l ++ be k n) f A) := by
  refine Fn.enter Tryz.func112 rfl Tryz.ntmps112 rfl (L := [(0, _), (1, _), (2, _)]) ⟨rfl, rfl, rfl, trivial⟩ fun base => ?_
  repeat (first | ((first | apply H.move | apply H.assign); (iterate 3 exact rfl)) | (first | apply H.seq | apply H.region | apply H.nil | apply H.then_normal))
  refine H.callE2 rfl rfl rfl (cloneB_fn f A hs hn (by omega)) fun p1 c1 => ?_
  repeat (((apply H.move); (iterate 3 exact rfl)))
  refine H.callE2 rfl rfl rfl (growB_fn f A (by omega) (by omega)) fun p2 c2 => ?_
  repeat (first | ((first | apply H.move | apply H.assign); (iterate 3 exact rfl)) | (first | apply H.seq | apply H.region | apply H.nil | apply H.then_normal) | ((apply H.ar; (iterate 4 exact rfl)); (with_reducible apply wr_i64; omega); exact rfl) | (apply H.block))
  refine H.loop (ι := Nat × Option Addr × Nat) (fun i => [(8, .int .i64 ((k : Int) - 1 - (i.1 : Int))), (7, .slice i.2.1 (l ++ beTop k n i.1).length i.2.2), (1, .int .u16 n)]) (fun _ => f)
    (fun i => slc i.2.1 (l ++ beTop k n i.1).length i.2.2 5 1 (bytesV (l ++ beTop k n i.1)) :: A) (fun i => i.1 ≤ k) (fun i => k - i.1) (0, p2, c2) (Nat.zero_le _) ?_ rfl ?_ fun i hi => ?_
  · refine ⟨?_, ?_, rfl, trivial⟩
    · show some (Value.int .i64 ((k : Int) - 1)) = some (Value.int .i64 ((k : Int) - 1 - ((0 : Nat) : Int)))
      simp
    · show some (Value.slice p2 l.length c2) = some (Value.slice p2 (l ++ []).length c2)
      simp
  · show slc p2 l.length c2 _ 1 (bytesV l) :: A = slc p2 (l ++ []).length c2 _ 1 (bytesV (l ++ [])) :: A
    simp
  · obtain ⟨i, p', c'⟩ := i
    have hi : i ≤ k := hi
    show H _ _ _ [(8, .int .i64 ((k : Int) - 1 - (i : Int))), (7, .slice p' (l ++ beTop k n i).length c'), (1, .int .u16 n)] _ (slc p' (l ++ beTop k n i).length c' _ 1 (bytesV (l ++ beTop k n i)) :: A) _
    generalize hacc : l ++ beTop k n i = acc
    have hlen : acc.length = l.length + i := by rw [← hacc, List.length_append, beTop_len]
    by_cases hlt : i < k
    · have hexp : min (8 * ((k : Int) - 1 - (i : Int))).toNat IntKind.u16.bits = 8 * (k - 1 - i) := by simp only [IntKind.bits]; omega
      have hsh : n.fdiv (2 ^ (min (8 * ((k : Int) - 1 - (i : Int))).toNat IntKind.u16.bits)) = n.fdiv (2 ^ (8 * (k - 1 - i))) := by rw [hexp]
      repeat (first | ((apply H.move); (iterate 3 exact rfl)) | (first | apply H.seq | apply H.region | apply H.nil | apply H.then_normal) | ((apply H.cmp); (iterate 5 exact rfl)) | ((apply H.ar; (iterate 4 exact rfl)); (with_reducible apply wr_i64; omega); exact rfl) | (first | apply H.skip | apply H.block) | (apply H.cond_yes; exact rfl; (omega)))
      refine H.shift rfl rfl rfl rfl (by omega) hsh rfl ?_
      refine H.conv_int rfl rfl (byteAt_wrap n (k - 1 - i)) rfl ?_
      refine H.buildSlice rfl rfl rfl rfl (by decide) (by decide) rfl rfl fun tb => ?_
      refine H.append (m := 1) rfl rfl rfl rfl rfl (fun p' c' => (by repeat (first | exact .here _ _ _ | apply At.there))) (Src.slice (Rd.ofRow (by repeat (first | exact .here _ _ _ | apply At.there))) rfl) (allOne_mem rfl) rfl (by omega) (by omega) fun p'' c'' => ?_
      repeat (first | ((first | apply H.move | apply H.assign); (iterate 3 exact rfl)) | (first | apply H.region | apply H.nil | apply H.then_normal) | ((apply H.ar; (iterate 4 exact rfl)); (with_reducible apply wr_i64; omega); exact rfl) | (apply H.in_normal))
      refine H.drop (.here _ _) ?_
      have e1 : l ++ beTop k n (i + 1) = acc ++ [byteAt n (k - 1 - i)] := by rw [← hacc]; simp [beTop]
      refine H.know (d := 8) (u := .int .i64 ((k : Int) - 1 - ((i + 1 : Nat) : Int))) rfl (congrArg (Value.int .i64) (by omega)) ?_
      refine H.again (i + 1, p'', c'') (by show i + 1 ≤ k; omega) (by show k - (i + 1) < k - i; omega) ⟨rfl, ?_, rfl, trivial⟩ rfl ?_
      · show some _ = some (Value.slice p'' (l ++ beTop k n (i + 1)).length c'')
        rw [e1, List.length_append]
        exact rfl
      · show _ = slc p'' (l ++ beTop k n (i + 1)).length c'' _ 1 (bytesV (l ++ beTop k n (i + 1))) :: A
        rw [e1, List.length_append, bytesV_append]
        rfl
    · have : i = k := by omega
      subst this
      subst hacc
      repeat (first | ((first | apply H.move | apply H.assign); (iterate 3 exact rfl)) | (first | apply H.seq | apply H.region | apply H.nil | apply H.then_normal) | ((apply H.cmp); (iterate 5 exact rfl)) | (first | apply H.ret | apply H.then_exit | apply H.exit | apply H.in_hit | apply H.loop_exit) | (apply H.cond_no; exact rfl; (omega)))
      exact H.ret1 rfl rfl (fun _ h => h) ⟨p', c', rfl, rfl, rfl⟩

theorem rput_fn {p : Option Addr} {c k : Nat} {l : List UInt8} {n : Int} (hs : Src Tryz.prog f A (.slice p l.length c) 1 l.length (bytesV l)) (hl : l.length ≤ 10000000000) (hk : k ≤ 8) :
    Fn Tryz.prog 96 [.slice p l.length c, .int .u64 n, .int .i64 (k : Nat)] f A (BytesR (l ++ be k n) f A) := by
  refine Fn.enter Tryz.func96 rfl Tryz.ntmps96 rfl (L := [(0, _), (1, _), (2, _)]) ⟨rfl, rfl, rfl, trivial⟩ fun base => ?_
  repeat (first | ((apply H.assign); (iterate 3 exact rfl)) | (first | apply H.seq | apply H.region | apply H.nil | apply H.then_normal))
  refine H.buildSlice rfl rfl rfl rfl (by decide) (by decide) rfl rfl fun eb => ?_
  repeat (((apply H.move); (iterate 3 exact rfl)))
  refine H.imp (A' := slc (some ⟨eb, 0, none⟩) 0 0 5 1 [] :: A) ?_ ?_
  · rintro x ⟨m1, m2, d, e, a, r⟩
    exact ⟨m1, m2, d, e, row_slc (by rfl) (by decide) a, r⟩
  refine H.append rfl rfl rfl rfl rfl (fun p' c' => .here _ _ _) hs.cons (bytesV_one l) rfl (by omega) (by omega) fun p2 c2 => ?_
  rw [Nat.zero_add, List.nil_append]
  repeat (first | ((first | apply H.move | apply H.assign); (iterate 3 exact rfl)) | (first | apply H.seq | apply H.region | apply H.nil | apply H.then_normal) | ((apply H.ar; (iterate 4 exact rfl)); (with_reducible apply wr_i64; omega); exact rfl) | (apply H.block))
  refine H.loop (ι := Nat × Option Addr × Nat) (fun i => [(8, .int .i64 ((k : Int) - 1 - (i.1 : Int))), (7, .slice i.2.1 (l ++ beTop k n i.1).length i.2.2), (1, .int .u64 n)]) (fun _ => f)
    (fun i => slc i.2.1 (l ++ beTop k n i.1).length i.2.2 5 1 (bytesV (l ++ beTop k n i.1)) :: A) (fun i => i.1 ≤ k) (fun i => k - i.1) (0, p2, c2) (Nat.zero_le _) ?_ rfl ?_ fun i hi => ?_
  · refine ⟨?_, ?_, rfl, trivial⟩
    · show some (Value.int .i64 ((k : Int) - 1)) = some (Value.int .i64 ((k : Int) - 1 - ((0 : Nat) : Int)))
      simp
    · show some (Value.slice p2 l.length c2) = some (Value.slice p2 (l ++ []).length c2)
      simp
  · show slc p2 l.length c2 _ 1 (bytesV l) :: A = slc p2 (l ++ []).length c2 _ 1 (bytesV (l ++ [])) :: A
    simp
  · obtain ⟨i, p', c'⟩ := i
    have hi : i ≤ k := hi
    show H _ _ _ [(8, .int .i64 ((k : Int) - 1 - (i : Int))), (7, .slice p' (l ++ beTop k n i).length c'), (1, .int .u64 n)] _ (slc p' (l ++ beTop k n i).length c' _ 1 (bytesV (l ++ beTop k n i)) :: A) _
    generalize hacc : l ++ beTop k n i = acc
    have hlen : acc.length = l.length + i := by rw [← hacc, List.length_append, beTop_len]
    by_cases hlt : i < k
    · have hexp : min (8 * ((k : Int) - 1 - (i : Int))).toNat IntKind.u64.bits = 8 * (k - 1 - i) := by simp only [IntKind.bits]; omega
      have hsh : n.fdiv (2 ^ (min (8 * ((k : Int) - 1 - (i : Int))).toNat IntKind.u64.bits)) = n.fdiv (2 ^ (8 * (k - 1 - i))) := by rw [hexp]
      repeat (first | ((apply H.move); (iterate 3 exact rfl)) | (first | apply H.seq | apply H.region | apply H.nil | apply H.then_normal) | ((apply H.cmp); (iterate 5 exact rfl)) | ((first | (apply H.ar; (iterate 4 exact rfl)) | (apply H.conv_int; (iterate 2 exact rfl))); (first | (with_reducible apply wr_i64; omega) | (with_reducible apply wr_u64; omega)); exact rfl) | (first | apply H.skip | apply H.block) | (apply H.cond_yes; exact rfl; (omega)))
      refine H.shift rfl rfl rfl rfl (by omega) hsh rfl ?_
      refine H.conv_int rfl rfl (byteAt_wrap n (k - 1 - i)) rfl ?_
      refine H.buildSlice rfl rfl rfl rfl (by decide) (by decide) rfl rfl fun tb => ?_
      refine H.append (m := 1) rfl rfl rfl rfl rfl (fun p' c' => (by repeat (first | exact .here _ _ _ | apply At.there))) (Src.slice (Rd.ofRow (by repeat (first | exact .here _ _ _ | apply At.there))) rfl) (allOne_mem rfl) rfl (by omega) (by omega) fun p'' c'' => ?_
      repeat (first | ((first | apply H.move | apply H.assign); (iterate 3 exact rfl)) | (first | apply H.region | apply H.nil | apply H.then_normal) | ((apply H.ar; (iterate 4 exact rfl)); (with_reducible apply wr_i64; omega); exact rfl) | (apply H.in_normal))
      refine H.drop (.here _ _) ?_
      have e1 : l ++ beTop k n (i + 1) = acc ++ [byteAt n (k - 1 - i)] := by rw [← hacc]; simp [beTop]
      refine H.know (d := 8) (u := .int .i64 ((k : Int) - 1 - ((i + 1 : Nat) : Int))) rfl (congrArg (Value.int .i64) (by omega)) ?_
      refine H.again (i + 1, p'', c'') (by show i + 1 ≤ k; omega) (by show k - (i + 1) < k - i; omega) ⟨rfl, ?_, rfl, trivial⟩ rfl ?_
      · show some _ = some (Value.slice p'' (l ++ beTop k n (i + 1)).length c'')
        rw [e1, List.length_append]
        exact rfl
      · show _ = slc p'' (l ++ beTop k n (i + 1)).length c'' _ 1 (bytesV (l ++ beTop k n (i + 1))) :: A
        rw [e1, List.length_append, bytesV_append]
        rfl
    · have : i = k := by omega
      subst this
      subst hacc
      repeat (first | ((first | apply H.move | apply H.assign); (iterate 3 exact rfl)) | (first | apply H.seq | apply H.region | apply H.nil | apply H.then_normal) | ((apply H.cmp); (iterate 5 exact rfl)) | (first | apply H.ret | apply H.then_exit | apply H.exit | apply H.in_hit | apply H.loop_exit) | (apply H.cond_no; exact rfl; (omega)))
      exact H.ret1 rfl rfl (fun _ h => h) ⟨p', c', rfl, rfl, rfl⟩

theorem word_fn {p : Option Addr} {c : Nat} {l : List UInt8} {n : Int} (hs : Src Tryz.prog f A (.slice p l.length c) 1 l.length (bytesV l)) (hn : p = none → l = []) (hl : l.length ≤ 10000000000) :
    Fn Tryz.prog 51 [.slice p l.length c, .int .u64 n] f A (BytesR (l ++ be 8 n) f A) := by
  refine Fn.enter Tryz.func51 rfl Tryz.ntmps51 rfl (L := [(0, _), (1, _)]) ⟨rfl, rfl, trivial⟩ fun base => ?_
  repeat (first | ((first | apply H.move | apply H.assign); (iterate 3 exact rfl)) | (first | apply H.seq | apply H.region | apply H.nil | apply H.then_normal))
  refine H.callE2 rfl rfl rfl (put_fn (k := 8) f A hs hn hl (by decide)) fun p1 c1 => ?_
  repeat (first | ((apply H.assign); (iterate 3 exact rfl)) | (first | apply H.nil | apply H.then_normal) | (apply H.ret))
  exact H.ret1 rfl rfl (fun _ h => h) ⟨p1, c1, rfl, rfl, rfl⟩
theorem half_fn {p : Option Addr} {c : Nat} {l : List UInt8} {n : Int} (hs : Src Tryz.prog f A (.slice p l.length c) 1 l.length (bytesV l)) (hn : p = none → l = []) (hl : l.length ≤ 10000000000) :
    Fn Tryz.prog 105 [.slice p l.length c, .int .u16 n] f A (BytesR (l ++ be 2 n) f A) := by
  refine Fn.enter Tryz.func105 rfl Tryz.ntmps105 rfl (L := [(0, _), (1, _)]) ⟨rfl, rfl, trivial⟩ fun base => ?_
  repeat (first | ((first | apply H.move | apply H.assign); (iterate 3 exact rfl)) | (first | apply H.seq | apply H.region | apply H.nil | apply H.then_normal))
  refine H.callE2 rfl rfl rfl (putH_fn (k := 2) f A hs hn hl (by decide)) fun p1 c1 => ?_
  repeat (first | ((apply H.assign); (iterate 3 exact rfl)) | (first | apply H.nil | apply H.then_normal) | (apply H.ret))
  exact H.ret1 rfl rfl (fun _ h => h) ⟨p1, c1, rfl, rfl, rfl⟩
theorem rword_fn {p : Option Addr} {c : Nat} {l : List UInt8} {n : Int} (hs : Src Tryz.prog f A (.slice p l.length c) 1 l.length (bytesV l)) (hl : l.length ≤ 10000000000) :
    Fn Tryz.prog 74 [.slice p l.length c, .int .u64 n] f A (BytesR (l ++ be 8 n) f A) := by
  refine Fn.enter Tryz.func74 rfl Tryz.ntmps74 rfl (L := [(0, _), (1, _)]) ⟨rfl, rfl, trivial⟩ fun base => ?_
  repeat (first | ((first | apply H.move | apply H.assign); (iterate 3 exact rfl)) | (first | apply H.seq | apply H.region | apply H.nil | apply H.then_normal))
  refine H.callE2 rfl rfl rfl (rput_fn (k := 8) f A hs hl (by decide)) fun p1 c1 => ?_
  repeat (first | ((apply H.assign); (iterate 3 exact rfl)) | (first | apply H.nil | apply H.then_normal) | (apply H.ret))
  exact H.ret1 rfl rfl (fun _ h => h) ⟨p1, c1, rfl, rfl, rfl⟩
theorem rhalf_fn {p : Option Addr} {c : Nat} {l : List UInt8} {n : Int} (hs : Src Tryz.prog f A (.slice p l.length c) 1 l.length (bytesV l)) (hl : l.length ≤ 10000000000) (h0 : 0 ≤ n ∧ n ≤ 65535) :
    Fn Tryz.prog 99 [.slice p l.length c, .int .u16 n] f A (BytesR (l ++ be 2 n) f A) := by
  refine Fn.enter Tryz.func99 rfl Tryz.ntmps99 rfl (L := [(0, _), (1, _)]) ⟨rfl, rfl, trivial⟩ fun base => ?_
  repeat (first | ((first | apply H.move | apply H.assign); (iterate 3 exact rfl)) | (first | apply H.seq | apply H.region | apply H.nil | apply H.then_normal) | ((apply H.conv_int; (iterate 2 exact rfl)); (with_reducible apply wr_u64; omega); exact rfl))
  refine H.callE2 rfl rfl rfl (rput_fn (k := 2) f A hs hl (by decide)) fun p1 c1 => ?_
  repeat (first | ((apply H.assign); (iterate 3 exact rfl)) | (first | apply H.nil | apply H.then_normal) | (apply H.ret))
  exact H.ret1 rfl rfl (fun _ h => h) ⟨p1, c1, rfl, rfl, rfl⟩
end
end Go.Proofs.YtcaofnfemogleaaGreatDoor

/- Layer 1, bytes: texts put behind bytes. -/
namespace Go.Proofs.YtcaofnfemogleaaGreatDoor
set_option linter.unusedSectionVars false
set_option linter.unusedSimpArgs false
set_option linter.unusedVariables false
open Go
/-- A fresh slice of bytes, and an error's number. -/
def BytesR2 (l : List UInt8) (e : Int) (f : Frag) (A : List HP) : Value → Frag → List HP → Prop := fun v f' A' => ∃ p c, v = .tuple #[.slice p l.length c, .int .i64 e] ∧ f' = f ∧ A' = slc p l.length c 5 1 (bytesV l) :: A
def textB (s : ByteArray) : List UInt8 := be 2 (s.size : Nat) ++ s.data.toList
section
variable (f : Frag) (A : List HP)
theorem data_len (s : ByteArray) : s.data.toList.length = s.size := by rw [Array.length_toList]; rfl

theorem text_fn {p : Option Addr} {c : Nat} {l : List UInt8} {s : ByteArray} (hs : Src Tryz.prog f A (.slice p l.length c) 1 l.length (bytesV l)) (hn : p = none → l = []) (hl : l.length ≤ 10000000000) (hz : s.size < 65536) :
    Fn Tryz.prog 89 [.slice p l.length c, .string s] f A (BytesR2 (l ++ textB s) 0 f A) := by
  refine Fn.enter Tryz.func89 rfl Tryz.ntmps89 rfl (L := [(0, _), (1, _)]) ⟨rfl, rfl, trivial⟩ fun base => ?_
  repeat (first | ((first | apply H.move | apply H.assign | apply H.len_string); (iterate 3 exact rfl)) | (first | apply H.seq | apply H.region | apply H.nil | apply H.then_normal) | ((apply H.cmp); (iterate 5 exact rfl)) | ((apply H.conv_int; (iterate 2 exact rfl)); (with_reducible apply wr_u16; omega); exact rfl) | (apply H.skip) | (apply H.cond_no; exact rfl; (omega)))
  skip
  skip
  refine H.callE2 rfl rfl rfl (half_fn f A hs hn hl) fun p1 c1 => ?_
  repeat (((apply H.move); (iterate 3 exact rfl)))
  have h1 : (l ++ be 2 (s.size : Nat)).length = l.length + 2 := by rw [List.length_append, be_len]
  refine H.append rfl rfl rfl rfl rfl (fun p' c' => .here _ _ _) Src.string (bytesV_one _) rfl (by omega) (by omega) fun p2 c2 => ?_
  repeat (first | ((apply H.assign); (iterate 3 exact rfl)) | (first | apply H.nil | apply H.then_normal) | (apply H.ret))
  have h2 : (l ++ textB s).length = (l ++ be 2 (s.size : Nat)).length + s.size := by
    unfold textB; rw [← List.append_assoc, List.length_append, data_len]
  have h3 : bytesV (l ++ textB s) = bytesV (l ++ be 2 (s.size : Nat)) ++ bytesV s.data.toList := by
    unfold textB; rw [← List.append_assoc, bytesV_append]
  refine H.ret2 rfl rfl rfl (fun _ h => h) ⟨p2, c2, ?_, rfl, ?_⟩
  · rw [h2]
  · rw [h2, h3]
theorem rtext_fn {p : Option Addr} {c : Nat} {l : List UInt8} {s : ByteArray} (hs : Src Tryz.prog f A (.slice p l.length c) 1 l.length (bytesV l)) (hl : l.length ≤ 10000000000) (hz : s.size < 65536) :
    Fn Tryz.prog 79 [.slice p l.length c, .string s] f A (BytesR2 (l ++ textB s) 0 f A) := by
  refine Fn.enter Tryz.func79 rfl Tryz.ntmps79 rfl (L := [(0, _), (1, _)]) ⟨rfl, rfl, trivial⟩ fun base => ?_
  repeat (first | ((first | apply H.move | apply H.assign | apply H.len_string); (iterate 3 exact rfl)) | (first | apply H.seq | apply H.region | apply H.nil | apply H.then_normal) | ((apply H.cmp); (iterate 5 exact rfl)) | ((apply H.conv_int; (iterate 2 exact rfl)); (with_reducible apply wr_u16; omega); exact rfl) | (apply H.skip) | (apply H.cond_no; exact rfl; (omega)))
  skip
  skip
  refine H.callE2 rfl rfl rfl (rhalf_fn f A hs hl (by omega)) fun p1 c1 => ?_
  repeat (((apply H.move); (iterate 3 exact rfl)))
  have h1 : (l ++ be 2 (s.size : Nat)).length = l.length + 2 := by rw [List.length_append, be_len]
  refine H.append rfl rfl rfl rfl rfl (fun p' c' => .here _ _ _) Src.string (bytesV_one _) rfl (by omega) (by omega) fun p2 c2 => ?_
  repeat (first | ((apply H.assign); (iterate 3 exact rfl)) | (first | apply H.nil | apply H.then_normal) | (apply H.ret))
  have h2 : (l ++ textB s).length = (l ++ be 2 (s.size : Nat)).length + s.size := by
    unfold textB; rw [← List.append_assoc, List.length_append, data_len]
  have h3 : bytesV (l ++ textB s) = bytesV (l ++ be 2 (s.size : Nat)) ++ bytesV s.data.toList := by
    unfold textB; rw [← List.append_assoc, bytesV_append]
  refine H.ret2 rfl rfl rfl (fun _ h => h) ⟨p2, c2, ?_, rfl, ?_⟩
  · rw [h2]
  · rw [h2, h3]
end
end Go.Proofs.YtcaofnfemogleaaGreatDoor

/- Layer 1, bytes: the program's Cut. Its bytes lie in the fragment that nobody turns. -/
namespace Go.Proofs.YtcaofnfemogleaaGreatDoor
set_option linter.unusedSectionVars false
set_option linter.unusedSimpArgs false
set_option linter.unusedVariables false
open Go
/-- Bytes that stand where nobody turns them. -/
def BAt (f : Frag) (p : Option Addr) (l : List UInt8) : Prop :=
  l = [] ∨ ∃ b off cs T fr, p = some ⟨b, off, none⟩ ∧ f b = some (.cells cs T fr) ∧ ∀ i, i < l.length → cs[off + i]? = (bytesV l)[i]?
theorem BAt.take {f : Frag} {p : Option Addr} {l : List UInt8} (h : BAt f p l) (n : Nat) : BAt f p (l.take n) := by
  rcases h with rfl | ⟨b, off, cs, T, fr, h1, h2, h3⟩
  · exact .inl (by simp)
  · refine .inr ⟨b, off, cs, T, fr, h1, h2, fun i hi => ?_⟩
    rw [List.length_take] at hi
    rw [h3 i (by omega)]
    simp only [bytesV, List.map_take]
    rw [List.getElem?_take, if_pos (by omega)]
theorem BAt.drop {f : Frag} {p : Option Addr} {l : List UInt8} (h : BAt f p l) {n c : Nat} (hn : n ≤ l.length) (hc : l.length ≤ c) : BAt f (slP p n c 1) (l.drop n) := by
  unfold slP
  split
  · rename_i e
    subst e
    exact .inl (List.drop_eq_nil_of_le hc)
  · rcases h with rfl | ⟨b, off, cs, T, fr, rfl, h2, h3⟩
    · exact .inl (by simp)
    · refine .inr ⟨b, off + n, cs, T, fr, ?_, h2, fun i hi => ?_⟩
      · rw [Option.map_some, add_none, Nat.mul_one]
      · rw [List.length_drop] at hi
        rw [Nat.add_assoc, h3 (n + i) (by omega)]
        simp only [bytesV, List.map_drop]
        rw [List.getElem?_drop]
theorem BAt.src {P : Program} {f : Frag} {A : List HP} {p : Option Addr} {c : Nat} {l : List UInt8} (h : BAt f p l) : Src P f A (.slice p l.length c) 1 l.length (bytesV l) := by
  rcases h with rfl | ⟨b, off, cs, T, fr, rfl, h2, h3⟩
  · refine ⟨fun w => rfl, fun base w s => ?_, rfl⟩
    cases p with
    | none => exact run_firstCells_none w 1 0 0 c
    | some a => exact run_firstCells_some w 1 0 a 0 c [] (by simp) (by simp)
  · exact Src.slice (Rd.imm h2 (fun i hi => h3 i (by rwa [bytesV_len] at hi))) (by rw [bytesV_len, Nat.mul_one])

def cutL (cb : Nat) (p : Option Addr) (c : Nat) (l : List UInt8) (sp : Bool) : HP := row cb 86 [.slice p l.length c, .bool sp]
/-- A cut: what is left, and whether it is spoilt. -/
def cutH (f : Frag) (cb : Nat) (l : List UInt8) (sp : Bool) : HP := fun h => ∃ i : Option Addr × Nat, stars [fact (BAt f i.1 l ∧ l.length ≤ i.2), cutL cb i.1 i.2 l sp] h
theorem cutH_fold {f : Frag} {cb : Nat} {p : Option Addr} {c : Nat} {l : List UInt8} {sp : Bool} {F : List HP} (hb : BAt f p l) (hc : l.length ≤ c) : ∀ x, stars (cutL cb p c l sp :: F) x → stars (cutH f cb l sp :: F) x := by
  intro x hx
  obtain ⟨m1, m2, d, e, a, r⟩ := hx
  refine ⟨m1, m2, d, e, ⟨(p, c), ?_⟩, r⟩
  exact ⟨nil0, m1, (Dj.nil m1).symm, (nil_un m1).symm, ⟨⟨hb, hc⟩, rfl⟩, m1, nil0, Dj.nil m1, (un_nil m1).symm, a, rfl⟩
theorem cutH_open {fid : FuncId} {args : List Value} {f : Frag} {R : Value → Frag → List HP → Prop} {cb : Nat} {l : List UInt8} {sp : Bool} {F : List HP}
    (k : ∀ p c, BAt f p l → l.length ≤ c → Fn Tryz.prog fid args f (row cb 86 [.slice p l.length c, .bool sp] :: F) R) : Fn Tryz.prog fid args f (cutH f cb l sp :: F) R := fun base w s => by
  obtain ⟨m, hm, hd, hw⟩ := s.mem
  obtain ⟨m1, m2, d, rfl, ⟨⟨p, c⟩, hh⟩, r⟩ := hm
  obtain ⟨n1, n2, dd, rfl, ⟨⟨hb, hc⟩, rfl⟩, n3, n4, d3, rfl, h4, h5⟩ := hh
  refine k p c hb hc base w ⟨s.os, s.tape, s.output, s.size, s.imm, _, ?_, hd, hw⟩
  have e5 : n4 = nil0 := h5
  subst e5
  rw [nil_un, un_nil]
  rw [nil_un, un_nil] at d
  exact ⟨n3, m2, d, rfl, h4, r⟩

/-- One value of several, with a fact on it. -/
def RetP {α : Type} (φ : α → Prop) (v : α → Value) (f : Frag) (A : α → List HP) : Value → Frag → List HP → Prop := fun u f' A' => ∃ i, φ i ∧ u = v i ∧ f' = f ∧ A' = A i
section
variable {P : Program} {base : World} {n : Nat} {L : Env} {f f' : Frag} {A : List HP} {q : Post}
variable {l rest : List Oper} {d : Nat} {ty : TypeId} {pos : String} {af : Array Edge} {gd : Option (Nat × Bool)}
theorem H.callP {α : Type} {φ : α → Prop} {fid : FuncId} {xs : List Operand} {vs : List Value} {ats : Array TypeId} {v : α → Value} {Ai : α → List HP} [hfun : Fun P fid] (hw : want? l L gd = true) (hd : Nat.ble (d + 1) n = true)
    (hx : evs? L xs = some vs) (hc : Fn P fid vs f A (RetP φ v f' Ai)) (k : ∀ i, φ i → H P base n ((d, v i) :: L) f' (Ai i) (.ops l rest q)) :
    H P base n L f A (.ops l (⟨some d, .call ⟨.value (.func fid), xs.toArray, ats⟩, ty, pos, af, gd⟩ :: rest) q) :=
  H.call hw hd hx hc fun _ _ _ h => by obtain ⟨i, hp, rfl, rfl, rfl⟩ := h; exact k i hp
theorem H.callVP {α : Type} {φ : α → Prop} {fid : FuncId} {x : Operand} {xs : List Operand} {fs vs cs : List Value} {ats : Array TypeId} {v : α → Value} {Ai : α → List HP} (hx : ev? L x = some (.func (.func fid) fs.toArray cs.toArray)) [hfun : Fun P fid] (hw : want? l L gd = true) (hd : Nat.ble (d + 1) n = true)
    (hxs : evs? L xs = some vs) (hc : Fn P fid (fs ++ vs ++ cs) f A (RetP φ v f' Ai)) (k : ∀ i, φ i → H P base n ((d, v i) :: L) f' (Ai i) (.ops l rest q)) :
    H P base n L f A (.ops l (⟨some d, .call ⟨.value x, xs.toArray, ats⟩, ty, pos, af, gd⟩ :: rest) q) :=
  H.callV hx hw hd hxs hc fun _ _ _ h => by obtain ⟨i, hp, rfl, rfl, rfl⟩ := h; exact k i hp
end

section
variable (f : Frag) (F : List HP) (cb : Nat)
theorem take_no {l : List UInt8} {sp : Bool} {n : Int} (h : sp = true ∨ n < 0 ∨ (l.length : Int) < n) :
    Fn Tryz.prog 53 [.pointer (some ⟨cb, 0, none⟩), .int .i64 n] f (cutH f cb l sp :: F) (Ret (.slice none 0 0) f (cutH f cb l true :: F)) := by
  refine cutH_open fun p c hb hc => ?_
  have fin : ∀ x, stars (row cb 86 [.slice p l.length c, .bool true] :: F) x → stars (cutH f cb l true :: F) x := cutH_fold hb hc
  cases sp with
  | true =>
    refine Fn.enter Tryz.func53 rfl Tryz.ntmps53 rfl (L := [(0, _), (1, _)]) ⟨rfl, rfl, trivial⟩ fun base => ?_
    repeat (first | ((first | apply H.move | apply H.assign | apply H.nilCheck | apply H.len_slice); (iterate 3 exact rfl)) | (apply H.fieldAddr; (iterate 3 exact rfl); exact inferInstance; exact rfl) | (apply H.load1; (iterate 3 exact rfl); apply Rd1.ofRow; (repeat (exact .here _ _ _)); (iterate 2 exact rfl)) | (first | apply H.seq | apply H.region | apply H.nil | apply H.then_normal) | (apply H.pass; (iterate 2 exact rfl)) | (apply H.pickT; (iterate 4 exact rfl)) | ((apply H.ptrNil); (iterate 5 exact rfl)) | (apply H.store1; (iterate 4 exact rfl); (repeat (exact .here _ _ _)); (repeat (first | exact .here _ _ _ | apply SetV.there))) | (apply H.cond_true; exact rfl) | (apply H.cond_false; exact rfl) | (first | apply H.skip | apply H.ret | apply H.then_ret))
    exact H.ret1 rfl rfl fin ⟨rfl, rfl, rfl⟩
  | false =>
    by_cases h0 : n < 0
    · refine Fn.enter Tryz.func53 rfl Tryz.ntmps53 rfl (L := [(0, _), (1, _)]) ⟨rfl, rfl, trivial⟩ fun base => ?_
      repeat (first | ((first | apply H.move | apply H.assign | apply H.nilCheck | apply H.len_slice); (iterate 3 exact rfl)) | (apply H.fieldAddr; (iterate 3 exact rfl); exact inferInstance; exact rfl) | (apply H.load1; (iterate 3 exact rfl); apply Rd1.ofRow; (repeat (exact .here _ _ _)); (iterate 2 exact rfl)) | (first | apply H.seq | apply H.region | apply H.nil | apply H.then_normal) | ((apply H.cmp); (iterate 5 exact rfl)) | (apply H.pass; (iterate 2 exact rfl)) | (apply H.pickT; (iterate 4 exact rfl)) | ((apply H.pickF); (iterate 4 exact rfl)) | ((apply H.ptrNil); (iterate 5 exact rfl)) | (apply H.store1; (iterate 4 exact rfl); (repeat (exact .here _ _ _)); (repeat (first | exact .here _ _ _ | apply SetV.there))) | (apply H.cond_true; exact rfl) | (apply H.cond_false; exact rfl) | (first | apply H.skip | apply H.ret | apply H.then_ret) | (apply H.gyes; (iterate 3 exact rfl); (assumption)))
      exact H.ret1 rfl rfl fin ⟨rfl, rfl, rfl⟩
    · have h1 : (l.length : Int) < n := by simp at h; omega
      refine Fn.enter Tryz.func53 rfl Tryz.ntmps53 rfl (L := [(0, _), (1, _)]) ⟨rfl, rfl, trivial⟩ fun base => ?_
      repeat (first | ((first | apply H.move | apply H.assign | apply H.nilCheck | apply H.len_slice); (iterate 3 exact rfl)) | (apply H.fieldAddr; (iterate 3 exact rfl); exact inferInstance; exact rfl) | (apply H.load1; (iterate 3 exact rfl); apply Rd1.ofRow; (repeat (exact .here _ _ _)); (iterate 2 exact rfl)) | (first | apply H.seq | apply H.region | apply H.nil | apply H.then_normal) | ((apply H.cmp); (iterate 5 exact rfl)) | ((apply H.pickF); (iterate 4 exact rfl)) | ((apply H.ptrNil); (iterate 5 exact rfl)) | (apply H.store1; (iterate 4 exact rfl); (repeat (exact .here _ _ _)); (repeat (first | exact .here _ _ _ | apply SetV.there))) | (apply H.cond_false; exact rfl) | (first | apply H.skip | apply H.ret | apply H.then_ret) | (apply H.gno; (iterate 3 exact rfl); (assumption)) | (apply H.cond_yes; exact rfl; (assumption)))
      rw [decide_eq_true h1]
      exact H.ret1 rfl rfl fin ⟨rfl, rfl, rfl⟩
theorem take_yes {l : List UInt8} {n : Nat} (hn : n ≤ l.length) (hl : l.length ≤ 1000000000000) :
    Fn Tryz.prog 53 [.pointer (some ⟨cb, 0, none⟩), .int .i64 (n : Nat)] f (cutH f cb l false :: F)
      (RetP (fun i : Option Addr × Nat => BAt f i.1 (l.take n)) (fun i => .slice i.1 n i.2) f (fun _ => cutH f cb (l.drop n) false :: F)) := by
  refine cutH_open fun p c hb hc => ?_
  have fin : ∀ x, stars (row cb 86 [.slice (slP p n c 1) (l.length - n) (c - n), .bool false] :: F) x → stars (cutH f cb (l.drop n) false :: F) x := by
    have := cutH_fold (cb := cb) (sp := false) (F := F) (hb.drop hn hc) (c := c - n) (by rw [List.length_drop]; omega)
    rw [show cutL cb (slP p n c 1) (c - n) (l.drop n) false = row cb 86 [.slice (slP p n c 1) (l.length - n) (c - n), .bool false] by unfold cutL; rw [List.length_drop]] at this
    exact this
  refine Fn.enter Tryz.func53 rfl Tryz.ntmps53 rfl (L := [(0, _), (1, _)]) ⟨rfl, rfl, trivial⟩ fun base => ?_
  repeat (first | ((first | apply H.move | apply H.assign | apply H.nilCheck | apply H.len_slice); (iterate 3 exact rfl)) | (apply H.fieldAddr; (iterate 3 exact rfl); exact inferInstance; exact rfl) | (apply H.load1; (iterate 3 exact rfl); apply Rd1.ofRow; (repeat (exact .here _ _ _)); (iterate 2 exact rfl)) | (first | apply H.seq | apply H.region | apply H.nil | apply H.then_normal) | ((apply H.cmp); (iterate 5 exact rfl)) | ((apply H.pickF); (iterate 4 exact rfl)) | ((apply H.ptrNil); (iterate 5 exact rfl)) | (apply H.store1; (iterate 4 exact rfl); (repeat (exact .here _ _ _)); (repeat (first | exact .here _ _ _ | apply SetV.there))) | (apply H.cond_false; exact rfl) | (apply H.skip) | (apply H.cond_no; exact rfl; (omega)))
  rw [decide_eq_false (show ¬ ((l.length : Int) < (n : Int)) by omega)]
  skip
  refine H.sliceTo rfl rfl rfl rfl (by omega) rfl ?_
  repeat (first | ((first | apply H.move | apply H.assign | apply H.nilCheck); (iterate 3 exact rfl)) | (apply H.fieldAddr; (iterate 3 exact rfl); exact inferInstance; exact rfl) | (apply H.load1; (iterate 3 exact rfl); apply Rd1.ofRow; (repeat (exact .here _ _ _)); (iterate 2 exact rfl)) | (first | apply H.seq | apply H.region | apply H.nil | apply H.then_normal))
  refine H.slice (lv := n) (hv := l.length) (mv := c) rfl rfl ⟨_, _, rfl, rfl⟩ rfl rfl (fun h => by cases h) hn hc (Nat.le_refl _) rfl ?_
  repeat (first | ((first | apply H.move | apply H.assign | apply H.nilCheck); (iterate 3 exact rfl)) | (apply H.fieldAddr; (iterate 3 exact rfl); exact inferInstance; exact rfl) | (first | apply H.seq | apply H.region | apply H.nil | apply H.then_normal) | (apply H.store1; (iterate 4 exact rfl); (repeat (exact .here _ _ _))) | (apply H.ret))
  exact H.ret1 rfl rfl fin ⟨(p, c), hb.take n, rfl, rfl, rfl⟩
end
end Go.Proofs.YtcaofnfemogleaaGreatDoor

/- Layer 1, bytes: numbers cut. -/
namespace Go.Proofs.YtcaofnfemogleaaGreatDoor
set_option linter.unusedSectionVars false
set_option linter.unusedSimpArgs false
set_option linter.unusedVariables false
open Go
/-- The number that bytes say. -/
def numB (l : List UInt8) : Nat := l.foldl (fun n b => n * 256 + b.toNat) 0
theorem numB_snoc (l : List UInt8) (b : UInt8) : numB (l ++ [b]) = numB l * 256 + b.toNat := by simp [numB]
theorem numB_acc : ∀ (l : List UInt8) (a k : Nat), a < 256 ^ k → l.foldl (fun n b => n * 256 + b.toNat) a < 256 ^ (k + l.length)
  | [], a, k, h => h
  | b :: l, a, k, h => by
    have hb := b.toNat_lt
    have := numB_acc l (a * 256 + b.toNat) (k + 1) (by rw [Nat.pow_succ]; omega)
    rw [List.length_cons, show k + (l.length + 1) = k + 1 + l.length by omega]
    exact this
theorem numB_lt (l : List UInt8) : numB l < 256 ^ l.length := by
  have := numB_acc l 0 0 (by decide)
  rwa [Nat.zero_add] at this
theorem or_byte {n : Nat} {b : UInt8} (hn : n < 72057594037927936) : bitsI .or .u64 (IntKind.u64.wrap ((n : Int) * 2 ^ 8)) ((b.toNat : Nat) : Int) = some ((n * 256 + b.toNat : Nat) : Int) := by
  have hb := b.toNat_lt
  have h1 : IntKind.u64.wrap ((n : Int) * 2 ^ 8) = ((n * 256 : Nat) : Int) := by
    rw [wr_u64 (by omega)]; omega
  rw [h1]
  simp only [bitsI, Option.some.injEq]
  have e1 : (BitVec.ofInt IntKind.u64.bits ((n * 256 : Nat) : Int) ||| BitVec.ofInt IntKind.u64.bits ((b.toNat : Nat) : Int)).toNat = n * 256 + b.toNat := by
    rw [BitVec.toNat_or]
    simp only [BitVec.ofInt_natCast, BitVec.toNat_ofNat, IntKind.bits]
    rw [Nat.mod_eq_of_lt (by omega), Nat.mod_eq_of_lt (by omega)]
    have := Nat.shiftLeft_add_eq_or_of_lt (i := 8) (b := b.toNat) (by simpa using hb) n
    rw [Nat.shiftLeft_eq, show n * 2 ^ 8 = n * 256 from rfl] at this
    omega
  rw [e1, wr_u64 (by omega)]

section
variable (f : Frag) (F : List HP) (cb : Nat)
abbrev takeV (cb : Nat) : Value := .func (.func 53) #[.pointer (some ⟨cb, 0, none⟩)] #[]
theorem sum_no {l : List UInt8} {sp : Bool} {n : Int} (h : sp = true ∨ n < 0 ∨ (l.length : Int) < n) :
    Fn Tryz.prog 54 [takeV cb, .int .i64 n] f (cutH f cb l sp :: F) (Ret (.int .u64 0) f (cutH f cb l true :: F)) := by
  refine Fn.enter Tryz.func54 rfl Tryz.ntmps54 rfl (L := [(0, _), (1, _)]) ⟨rfl, rfl, trivial⟩ fun base => ?_
  repeat (first | ((first | apply H.move | apply H.assign); (iterate 3 exact rfl)) | (first | apply H.seq | apply H.region | apply H.nil | apply H.then_normal))
  refine H.callVR (fs := [_]) (cs := []) rfl rfl rfl rfl (take_no f F cb h) ?_
  repeat (first | ((first | apply H.move | apply H.len_slice); (iterate 3 exact rfl)) | (first | apply H.nil | apply H.then_normal) | (apply H.block))
  refine H.loop (ι := Unit) (fun _ => [(4, .int .u64 0), (9, .slice none 0 0), (10, .int .i64 ((0 : Nat) : Int)), (11, .int .i64 0)]) (fun _ => f) (fun _ => cutH f cb l true :: F) (fun _ => True) (fun _ => 0) () trivial ⟨rfl, rfl, rfl, rfl, trivial⟩ rfl rfl fun _ _ => ?_
  repeat (first | ((first | apply H.move | apply H.assign); (iterate 3 exact rfl)) | (first | apply H.seq | apply H.region | apply H.nil | apply H.then_normal) | ((apply H.cmp); (iterate 5 exact rfl)) | (apply H.cond_false; exact rfl) | (first | apply H.ret | apply H.then_exit | apply H.exit | apply H.in_hit | apply H.loop_exit))
  exact H.ret1 rfl rfl (fun _ h => h) ⟨rfl, rfl, rfl⟩
theorem sum_yes {l : List UInt8} {k : Nat} (hn : k ≤ l.length) (hk : k ≤ 8) (hl : l.length ≤ 1000000000000) :
    Fn Tryz.prog 54 [takeV cb, .int .i64 (k : Nat)] f (cutH f cb l false :: F) (Ret (.int .u64 (numB (l.take k) : Nat)) f (cutH f cb (l.drop k) false :: F)) := by
  refine Fn.enter Tryz.func54 rfl Tryz.ntmps54 rfl (L := [(0, _), (1, _)]) ⟨rfl, rfl, trivial⟩ fun base => ?_
  repeat (first | ((first | apply H.move | apply H.assign); (iterate 3 exact rfl)) | (first | apply H.seq | apply H.region | apply H.nil | apply H.then_normal))
  refine H.callVP (fs := [_]) (cs := []) rfl rfl rfl rfl (take_yes f F cb hn hl) fun i hb => ?_
  obtain ⟨p, c⟩ := i
  have hb : BAt f p (l.take k) := hb
  repeat (first | ((first | apply H.move | apply H.len_slice); (iterate 3 exact rfl)) | (first | apply H.nil | apply H.then_normal) | (apply H.block))
  have hlen : (l.take k).length = k := by rw [List.length_take]; omega
  refine H.loop (ι := Nat) (fun i => [(4, .int .u64 (numB ((l.take k).take i) : Nat)), (9, .slice p k c), (10, .int .i64 ((k : Nat) : Int)), (11, .int .i64 (i : Int))]) (fun _ => f) (fun _ => cutH f cb (l.drop k) false :: F) (fun i => i ≤ k) (fun i => k - i) 0 (Nat.zero_le _) ⟨rfl, rfl, rfl, rfl, trivial⟩ rfl rfl fun i hi => ?_
  have hi : i ≤ k := hi
  repeat (first | (first | apply H.seq | apply H.region | apply H.nil | apply H.then_normal) | ((apply H.cmp); (iterate 5 exact rfl)))
  by_cases hlt : i < k
  · obtain ⟨x, hx⟩ : ∃ x, (l.take k)[i]? = some x := ⟨(l.take k)[i]'(by omega), List.getElem?_eq_getElem (by omega)⟩
    have hsrc : (l.take k).take (i + 1) = (l.take k).take i ++ [x] := by rw [List.take_add_one, hx]; rfl
    have hm : numB ((l.take k).take i) < 72057594037927936 := by
      have h1 := numB_lt ((l.take k).take i)
      have h2 : ((l.take k).take i).length = i := by rw [List.length_take]; omega
      rw [h2] at h1
      have h3 : 256 ^ i ≤ 256 ^ 7 := Nat.pow_le_pow_right (by decide) (by omega)
      have h4 : (256 : Nat) ^ 7 = 72057594037927936 := by decide
      omega
    rcases hb with hnil | ⟨b, off, cs, T, fr, rfl, h2, h3⟩
    · rw [hnil] at hlen; simp at hlen; omega
    have rd : ∀ A, Rd f A b off (bytesV (l.take k)) := fun A => Rd.imm h2 (fun j hj => h3 j (by rwa [bytesV_len] at hj))
    have hv : (bytesV (l.take k))[i]? = some (.int .u8 (x.toNat : Nat)) := by unfold bytesV; rw [List.getElem?_map, hx]; rfl
    repeat (first | (first | apply H.seq | apply H.region | apply H.then_normal) | (first | apply H.skip | apply H.block) | (apply H.cond_yes; exact rfl; (omega)))
    refine H.index1 rfl rfl rfl rfl hlt rfl ?_
    refine H.load1 rfl rfl rfl (.of (rd _) hv) rfl ?_
    repeat (first | ((first | apply H.move | apply H.assign); (iterate 3 exact rfl)) | (first | apply H.region | apply H.nil | apply H.then_normal))
    have hxl := x.toNat_lt
    refine H.shift rfl rfl rfl rfl (by decide) rfl rfl ?_
    repeat (first | ((apply H.move); (iterate 3 exact rfl)) | ((apply H.conv_int; (iterate 2 exact rfl)); (with_reducible apply wr_u64; omega); exact rfl))
    refine H.bits rfl rfl rfl (or_byte hm) rfl rfl ?_
    repeat (first | ((first | apply H.move | apply H.assign); (iterate 3 exact rfl)) | (first | apply H.region | apply H.nil | apply H.then_normal) | ((apply H.ar; (iterate 4 exact rfl)); (with_reducible apply wr_i64_n1; omega); exact rfl) | (apply H.in_normal))
    refine H.again (i + 1) (by show i + 1 ≤ k; omega) (by show k - (i + 1) < k - i; omega) ⟨?_, rfl, rfl, rfl, trivial⟩ rfl rfl
    show some _ = some (Value.int .u64 (numB ((l.take k).take (i + 1)) : Nat))
    rw [hsrc, numB_snoc]
  · have : i = k := by omega
    subst this
    rw [List.take_of_length_le (by omega)]
    repeat (first | ((first | apply H.move | apply H.assign); (iterate 3 exact rfl)) | (first | apply H.seq | apply H.region | apply H.nil | apply H.then_normal) | (first | apply H.ret | apply H.then_exit | apply H.exit | apply H.in_hit | apply H.loop_exit) | (apply H.cond_no; exact rfl; (omega)))
    exact H.ret1 rfl rfl (fun _ h => h) ⟨rfl, rfl, rfl⟩

theorem cutWord_no {l : List UInt8} {sp : Bool} (h : sp = true ∨ l.length < 8) :
    Fn Tryz.prog 24 [.pointer (some ⟨cb, 0, none⟩)] f (cutH f cb l sp :: F) (Ret (.int .u64 0) f (cutH f cb l true :: F)) := by
  refine Fn.enter Tryz.func24 rfl Tryz.ntmps24 rfl (L := [(0, _)]) ⟨rfl, trivial⟩ fun base => ?_
  repeat (first | ((first | apply H.move | apply H.assign); (iterate 3 exact rfl)) | (first | apply H.seq | apply H.region | apply H.nil | apply H.then_normal) | ((apply H.makeFunc); (iterate 4 exact rfl)))
  refine H.callR rfl rfl rfl (sum_no f F cb (n := 8) (h.elim .inl fun h => .inr (.inr (by omega)))) ?_
  repeat (first | ((apply H.assign); (iterate 3 exact rfl)) | (first | apply H.nil | apply H.then_normal) | (apply H.ret))
  exact H.ret1 rfl rfl (fun _ h => h) ⟨rfl, rfl, rfl⟩
theorem cutWord_yes {l : List UInt8} (h : 8 ≤ l.length) (hl : l.length ≤ 1000000000000) :
    Fn Tryz.prog 24 [.pointer (some ⟨cb, 0, none⟩)] f (cutH f cb l false :: F) (Ret (.int .u64 (numB (l.take 8) : Nat)) f (cutH f cb (l.drop 8) false :: F)) := by
  have hb := numB_lt (l.take 8)
  rw [show (l.take 8).length = 8 by rw [List.length_take]; omega] at hb
  have e : (256 : Nat) ^ 8 = 18446744073709551616 := by decide
  rw [e] at hb
  clear e
  refine Fn.enter Tryz.func24 rfl Tryz.ntmps24 rfl (L := [(0, _)]) ⟨rfl, trivial⟩ fun base => ?_
  repeat (first | ((first | apply H.move | apply H.assign); (iterate 3 exact rfl)) | (first | apply H.seq | apply H.region | apply H.nil | apply H.then_normal) | ((apply H.makeFunc); (iterate 4 exact rfl)))
  refine H.callR rfl rfl rfl (sum_yes f F cb (k := 8) h (by decide) hl) ?_
  repeat (first | ((apply H.assign); (iterate 3 exact rfl)) | (first | apply H.nil | apply H.then_normal) | (apply H.ret))
  exact H.ret1 rfl rfl (fun _ h => h) ⟨rfl, rfl, rfl⟩
theorem cutHalf_no {l : List UInt8} {sp : Bool} (h : sp = true ∨ l.length < 2) :
    Fn Tryz.prog 106 [.pointer (some ⟨cb, 0, none⟩)] f (cutH f cb l sp :: F) (Ret (.int .u16 0) f (cutH f cb l true :: F)) := by
  refine Fn.enter Tryz.func106 rfl Tryz.ntmps106 rfl (L := [(0, _)]) ⟨rfl, trivial⟩ fun base => ?_
  repeat (first | ((first | apply H.move | apply H.assign); (iterate 3 exact rfl)) | (first | apply H.seq | apply H.region | apply H.nil | apply H.then_normal) | ((apply H.makeFunc); (iterate 4 exact rfl)))
  refine H.callR rfl rfl rfl (sum_no f F cb (n := 2) (h.elim .inl fun h => .inr (.inr (by omega)))) ?_
  repeat (first | ((apply H.assign); (iterate 3 exact rfl)) | (first | apply H.nil | apply H.then_normal) | ((apply H.conv_int; (iterate 2 exact rfl)); (with_reducible apply wr_u16; omega); exact rfl) | (apply H.ret))
  exact H.ret1 rfl rfl (fun _ h => h) ⟨rfl, rfl, rfl⟩
theorem cutHalf_yes {l : List UInt8} (h : 2 ≤ l.length) (hl : l.length ≤ 1000000000000) :
    Fn Tryz.prog 106 [.pointer (some ⟨cb, 0, none⟩)] f (cutH f cb l false :: F) (Ret (.int .u16 (numB (l.take 2) : Nat)) f (cutH f cb (l.drop 2) false :: F)) := by
  have hb := numB_lt (l.take 2)
  rw [show (l.take 2).length = 2 by rw [List.length_take]; omega] at hb
  have e : (256 : Nat) ^ 2 = 65536 := by decide
  rw [e] at hb
  clear e
  refine Fn.enter Tryz.func106 rfl Tryz.ntmps106 rfl (L := [(0, _)]) ⟨rfl, trivial⟩ fun base => ?_
  repeat (first | ((first | apply H.move | apply H.assign); (iterate 3 exact rfl)) | (first | apply H.seq | apply H.region | apply H.nil | apply H.then_normal) | ((apply H.makeFunc); (iterate 4 exact rfl)))
  refine H.callR rfl rfl rfl (sum_yes f F cb (k := 2) h (by decide) hl) ?_
  repeat (first | ((apply H.assign); (iterate 3 exact rfl)) | (first | apply H.nil | apply H.then_normal) | ((apply H.conv_int; (iterate 2 exact rfl)); (with_reducible apply wr_u16; omega); exact rfl) | (apply H.ret))
  exact H.ret1 rfl rfl (fun _ h => h) ⟨rfl, rfl, rfl⟩
theorem cutByte_no {l : List UInt8} {sp : Bool} (h : sp = true ∨ l.length < 1) :
    Fn Tryz.prog 30 [.pointer (some ⟨cb, 0, none⟩)] f (cutH f cb l sp :: F) (Ret (.int .u8 0) f (cutH f cb l true :: F)) := by
  refine Fn.enter Tryz.func30 rfl Tryz.ntmps30 rfl (L := [(0, _)]) ⟨rfl, trivial⟩ fun base => ?_
  repeat (first | ((first | apply H.move | apply H.assign); (iterate 3 exact rfl)) | (first | apply H.seq | apply H.region | apply H.nil | apply H.then_normal) | ((apply H.makeFunc); (iterate 4 exact rfl)))
  refine H.callR rfl rfl rfl (sum_no f F cb (n := 1) (h.elim .inl fun h => .inr (.inr (by omega)))) ?_
  repeat (first | ((apply H.assign); (iterate 3 exact rfl)) | (first | apply H.nil | apply H.then_normal) | ((apply H.conv_int; (iterate 2 exact rfl)); (with_reducible apply wr_u8; omega); exact rfl) | (apply H.ret))
  exact H.ret1 rfl rfl (fun _ h => h) ⟨rfl, rfl, rfl⟩
theorem cutByte_yes {l : List UInt8} (h : 1 ≤ l.length) (hl : l.length ≤ 1000000000000) :
    Fn Tryz.prog 30 [.pointer (some ⟨cb, 0, none⟩)] f (cutH f cb l false :: F) (Ret (.int .u8 (numB (l.take 1) : Nat)) f (cutH f cb (l.drop 1) false :: F)) := by
  have hb := numB_lt (l.take 1)
  rw [show (l.take 1).length = 1 by rw [List.length_take]; omega] at hb
  have e : (256 : Nat) ^ 1 = 256 := by decide
  rw [e] at hb
  clear e
  refine Fn.enter Tryz.func30 rfl Tryz.ntmps30 rfl (L := [(0, _)]) ⟨rfl, trivial⟩ fun base => ?_
  repeat (first | ((first | apply H.move | apply H.assign); (iterate 3 exact rfl)) | (first | apply H.seq | apply H.region | apply H.nil | apply H.then_normal) | ((apply H.makeFunc); (iterate 4 exact rfl)))
  refine H.callR rfl rfl rfl (sum_yes f F cb (k := 1) h (by decide) hl) ?_
  repeat (first | ((apply H.assign); (iterate 3 exact rfl)) | (first | apply H.nil | apply H.then_normal) | ((apply H.conv_int; (iterate 2 exact rfl)); (with_reducible apply wr_u8; omega); exact rfl) | (apply H.ret))
  exact H.ret1 rfl rfl (fun _ h => h) ⟨rfl, rfl, rfl⟩
end
end Go.Proofs.YtcaofnfemogleaaGreatDoor

/- Layer 1, bytes: a Cut is made; raw bytes. -/
namespace Go.Proofs.YtcaofnfemogleaaGreatDoor
set_option linter.unusedSectionVars false
set_option linter.unusedSimpArgs false
set_option linter.unusedVariables false
open Go
section
variable (f : Frag) (F : List HP) (cb : Nat)
theorem cutLeft_fn {l : List UInt8} {sp : Bool} : Fn Tryz.prog 32 [.pointer (some ⟨cb, 0, none⟩)] f (cutH f cb l sp :: F) (Ret (.bool (!sp)) f (cutH f cb l sp :: F)) := by
  refine cutH_open fun p c hb hc => ?_
  refine Fn.enter Tryz.func32 rfl Tryz.ntmps32 rfl (L := [(0, _)]) ⟨rfl, trivial⟩ fun base => ?_
  repeat (first | ((first | apply H.move | apply H.assign | apply H.nilCheck); (iterate 3 exact rfl)) | (apply H.fieldAddr; (iterate 3 exact rfl); exact inferInstance; exact rfl) | (apply H.load1; (iterate 3 exact rfl); apply Rd1.ofRow; (repeat (exact .here _ _ _)); (iterate 2 exact rfl)) | (first | apply H.seq | apply H.region | apply H.nil | apply H.then_normal) | (apply H.pickT; (iterate 4 exact rfl)) | ((apply H.not); (iterate 4 exact rfl)) | ((apply H.ptrNil); (iterate 5 exact rfl)) | (apply H.ret))
  exact H.ret1 rfl rfl (cutH_fold hb hc) ⟨rfl, rfl, rfl⟩

theorem raw_no {l : List UInt8} {sp : Bool} {n : Int} (h : sp = true ∨ n < 0 ∨ (l.length : Int) < n) :
    Fn Tryz.prog 25 [.pointer (some ⟨cb, 0, none⟩), .int .i64 n] f (cutH f cb l sp :: F) (BytesR [] f (cutH f cb l true :: F)) := by
  refine Fn.enter Tryz.func25 rfl Tryz.ntmps25 rfl (L := [(0, _), (1, _)]) ⟨rfl, rfl, trivial⟩ fun base => ?_
  repeat (first | ((first | apply H.move | apply H.assign); (iterate 3 exact rfl)) | (first | apply H.seq | apply H.region | apply H.nil | apply H.then_normal))
  refine H.callR rfl rfl rfl (take_no f F cb h) ?_
  skip
  refine H.callE2 rfl rfl rfl (cloneB_fn (l := []) f _ Src.nil (fun _ => rfl) (by decide)) fun p c => ?_
  repeat (first | ((apply H.assign); (iterate 3 exact rfl)) | (first | apply H.nil | apply H.then_normal) | (apply H.ret))
  exact H.ret1 rfl rfl (fun _ h => h) ⟨p, c, rfl, rfl, rfl⟩
theorem raw_yes {l : List UInt8} {n : Nat} (hn : n ≤ l.length) (hl : l.length ≤ 10000000000) :
    Fn Tryz.prog 25 [.pointer (some ⟨cb, 0, none⟩), .int .i64 (n : Nat)] f (cutH f cb l false :: F) (BytesR (l.take n) f (cutH f cb (l.drop n) false :: F)) := by
  have hlen : (l.take n).length = n := by rw [List.length_take]; omega
  refine Fn.enter Tryz.func25 rfl Tryz.ntmps25 rfl (L := [(0, _), (1, _)]) ⟨rfl, rfl, trivial⟩ fun base => ?_
  repeat (first | ((first | apply H.move | apply H.assign); (iterate 3 exact rfl)) | (first | apply H.seq | apply H.region | apply H.nil | apply H.then_normal))
  refine H.callP rfl rfl rfl (take_yes f F cb hn (by omega)) fun i hb => ?_
  obtain ⟨p, c⟩ := i
  have hb : BAt f p (l.take n) := hb
  skip
  have hs : Src Tryz.prog f (cutH f cb (l.drop n) false :: F) (.slice p (l.take n).length c) 1 (l.take n).length (bytesV (l.take n)) := hb.src
  have hc := cloneB_fn f _ hs (fun hp => by rcases hb with h | ⟨b, off, cs, T, fr, h, _⟩; exact h; rw [hp] at h; cases h) (by omega)
  rw [hlen] at hc
  refine H.callE2 rfl rfl rfl hc fun p1 c1 => ?_
  repeat (first | ((apply H.assign); (iterate 3 exact rfl)) | (first | apply H.nil | apply H.then_normal) | (apply H.ret))
  exact H.ret1 rfl rfl (fun _ h => h) ⟨p1, c1, rfl, rfl, rfl⟩
theorem slc_bat {p : Option Addr} {c : Nat} {l : List UInt8} {T : TypeId} {g : Frag} (h : slc p l.length c T 1 (bytesV l) g) (hd : Dj f g) : BAt (un f g) p l := by
  obtain ⟨_, _, h3⟩ := h
  rcases h3 with ⟨h0, _, _⟩ | ⟨b, sp, rfl, h4, h5, rfl⟩
  · exact .inl (List.eq_nil_of_length_eq_zero h0)
  · refine .inr ⟨b, 0, (bytesV l ++ sp).toArray, T, (0, 0), rfl, ?_, fun i hi => ?_⟩
    · show (f b).or (sing b _ b) = _
      have : f b = none := by
        rcases hd b with h | h
        · exact h
        · simp [sing] at h
      rw [this]
      simp [sing]
    · rw [Nat.zero_add]
      simp only [List.getElem?_toArray]
      rw [List.getElem?_append_left (by rw [bytesV_len]; exact hi)]
theorem octNew_fn {p0 : Option Addr} {c0 : Nat} {l : List UInt8} (hs : Src Tryz.prog f F (.slice p0 l.length c0) 1 l.length (bytesV l)) (hn : p0 = none → l = []) (hl : l.length ≤ 100000000000) :
    Fn Tryz.prog 23 [.slice p0 l.length c0] f F (fun v f' A' => ∃ g cb p c, v = .pointer (some ⟨cb, 0, none⟩) ∧ slc p l.length c 5 1 (bytesV l) g ∧ Dj f g ∧ f' = un f g ∧ A' = cutH (un f g) cb l false :: F) := by
  refine Fn.enter Tryz.func23 rfl Tryz.ntmps23 rfl (L := [(0, _)]) ⟨rfl, trivial⟩ fun base => ?_
  repeat (first | ((first | apply H.move | apply H.assign); (iterate 3 exact rfl)) | (first | apply H.seq | apply H.region | apply H.nil | apply H.then_normal))
  refine H.callE2 rfl rfl rfl (cloneB_fn f F hs hn hl) fun p c => ?_
  refine H.slc_cap (.here _ _ _) fun hc _ _ => ?_
  refine H.freeze (.here _ _) fun g hg hd => ?_
  repeat (((apply H.build); (iterate 5 exact rfl)))
  refine H.box (ls := [.slice p l.length c, .bool false]) rfl rfl rfl rfl fun cb => ?_
  repeat (first | ((apply H.assign); (iterate 3 exact rfl)) | (first | apply H.nil | apply H.then_normal) | (apply H.ret))
  exact H.ret1 rfl rfl (cutH_fold (slc_bat f hg hd) hc) ⟨g, cb, p, c, rfl, hg, hd, rfl, rfl⟩
end
end Go.Proofs.YtcaofnfemogleaaGreatDoor

/- Layer 1, bytes: a Cut as plain data: what each call of it answers, and what it leaves; the program's calls, each in one contract. -/
namespace Go.Proofs.YtcaofnfemogleaaGreatDoor
set_option linter.unusedSectionVars false
set_option linter.unusedSimpArgs false
set_option linter.unusedVariables false
open Go
/-- A cut: the bytes that are left, and whether it is spoilt. -/
structure Cs where
  l : List UInt8
  bad : Bool
def Cs.ok (s : Cs) (n : Nat) : Bool := !s.bad && Nat.ble n s.l.length
def Cs.num (s : Cs) (n : Nat) : Nat := if s.ok n then numB (s.l.take n) else 0
def Cs.skip (s : Cs) (n : Nat) : Cs := if s.ok n then ⟨s.l.drop n, false⟩ else ⟨s.l, true⟩
def Cs.raw (s : Cs) (n : Nat) : List UInt8 := if s.ok n then s.l.take n else []
/-- May the next text be taken? -/
def Cs.tok (s : Cs) (most : Nat) : Bool := s.ok 2 && Nat.ble (s.num 2) most && Nat.ble (2 + s.num 2) s.l.length
def Cs.text (s : Cs) (most : Nat) : List UInt8 := if s.tok most then (s.l.drop 2).take (s.num 2) else []
def Cs.textS (s : Cs) (most : Nat) : Cs := if s.tok most then ⟨s.l.drop (2 + s.num 2), false⟩ else ⟨s.l, true⟩
theorem Cs.ok_iff (s : Cs) (n : Nat) : s.ok n = true ↔ s.bad = false ∧ n ≤ s.l.length := by
  simp [Cs.ok]
theorem Cs.skip_len (s : Cs) (n : Nat) : (s.skip n).l.length ≤ s.l.length := by
  unfold Cs.skip; split
  · simp
  · exact Nat.le_refl _
theorem Cs.textS_len (s : Cs) (n : Nat) : (s.textS n).l.length ≤ s.l.length := by
  unfold Cs.textS; split
  · simp
  · exact Nat.le_refl _
theorem Cs.num_lt (s : Cs) (n : Nat) : s.num n < 256 ^ n := by
  unfold Cs.num
  split
  · rename_i h
    have h1 := numB_lt (s.l.take n)
    have h2 := ((Cs.ok_iff s n).1 h).2
    rw [List.length_take, Nat.min_eq_left h2] at h1
    exact h1
  · exact Nat.pow_pos (by decide)
theorem Cs.num1_lt (s : Cs) : s.num 1 < 256 := s.num_lt 1
theorem Cs.num2_lt (s : Cs) : s.num 2 < 65536 := s.num_lt 2
theorem Cs.num8_lt (s : Cs) : s.num 8 < 18446744073709551616 := s.num_lt 8
def cutC (f : Frag) (cb : Nat) (s : Cs) : HP := cutH f cb s.l s.bad
section
variable (f : Frag) (F : List HP) (cb : Nat) (s : Cs)
theorem Cs.no {n : Nat} (h : ¬ s.ok n = true) : s.bad = true ∨ s.l.length < n := by
  rw [Cs.ok_iff] at h
  cases hb : s.bad with
  | true => exact .inl rfl
  | false => refine .inr ?_; simp [hb] at h; omega
theorem word_cs (hl : s.l.length ≤ 1000000000000) :
    Fn Tryz.prog 24 [.pointer (some ⟨cb, 0, none⟩)] f (cutC f cb s :: F) (Ret (.int .u64 (s.num 8 : Nat)) f (cutC f cb (s.skip 8) :: F)) := by
  unfold Cs.num Cs.skip cutC
  by_cases h : s.ok 8 = true
  · rw [if_pos h, if_pos h]
    obtain ⟨h1, h2⟩ := (Cs.ok_iff _ _).1 h
    rw [h1]
    exact cutWord_yes f F cb h2 hl
  · rw [if_neg h, if_neg h]
    exact cutWord_no f F cb (s.no h)
theorem half_cs (hl : s.l.length ≤ 1000000000000) :
    Fn Tryz.prog 106 [.pointer (some ⟨cb, 0, none⟩)] f (cutC f cb s :: F) (Ret (.int .u16 (s.num 2 : Nat)) f (cutC f cb (s.skip 2) :: F)) := by
  unfold Cs.num Cs.skip cutC
  by_cases h : s.ok 2 = true
  · rw [if_pos h, if_pos h]
    obtain ⟨h1, h2⟩ := (Cs.ok_iff _ _).1 h
    rw [h1]
    exact cutHalf_yes f F cb h2 hl
  · rw [if_neg h, if_neg h]
    exact cutHalf_no f F cb (s.no h)
theorem byte_cs (hl : s.l.length ≤ 1000000000000) :
    Fn Tryz.prog 30 [.pointer (some ⟨cb, 0, none⟩)] f (cutC f cb s :: F) (Ret (.int .u8 (s.num 1 : Nat)) f (cutC f cb (s.skip 1) :: F)) := by
  unfold Cs.num Cs.skip cutC
  by_cases h : s.ok 1 = true
  · rw [if_pos h, if_pos h]
    obtain ⟨h1, h2⟩ := (Cs.ok_iff _ _).1 h
    rw [h1]
    exact cutByte_yes f F cb h2 hl
  · rw [if_neg h, if_neg h]
    exact cutByte_no f F cb (s.no h)
theorem raw_cs (n : Nat) (hl : s.l.length ≤ 10000000000) :
    Fn Tryz.prog 25 [.pointer (some ⟨cb, 0, none⟩), .int .i64 (n : Nat)] f (cutC f cb s :: F) (BytesR (s.raw n) f (cutC f cb (s.skip n) :: F)) := by
  unfold Cs.raw Cs.skip cutC
  by_cases h : s.ok n = true
  · rw [if_pos h, if_pos h]
    obtain ⟨h1, h2⟩ := (Cs.ok_iff _ _).1 h
    rw [h1]
    exact raw_yes f F cb h2 hl
  · rw [if_neg h, if_neg h]
    exact raw_no f F cb ((s.no h).elim .inl fun h => .inr (.inr (by omega)))
theorem ok_cs : Fn Tryz.prog 32 [.pointer (some ⟨cb, 0, none⟩)] f (cutC f cb s :: F) (Ret (.bool (!s.bad)) f (cutC f cb s :: F)) := cutLeft_fn f F cb
end
end Go.Proofs.YtcaofnfemogleaaGreatDoor

/- Layers 2 and 3, plain: SHA-256 and its tags on lists of bytes; what 32 bits reckon. No program in sight; no conditions. -/
namespace Go.Proofs.YtcaofnfemogleaaGreatDoor
set_option linter.unusedSectionVars false
set_option linter.unusedSimpArgs false
set_option linter.unusedVariables false
open Go

def w32 (x : UInt32) : Value := .int .u32 (x.toNat : Nat)
theorem u32_wrap (z : Int) : IntKind.u32.wrap z = z % 4294967296 := by simp [IntKind.wrap, IntKind.signed, IntKind.bits]
theorem u32_add (x y : UInt32) : IntKind.u32.wrap ((x.toNat : Int) + (y.toNat : Int)) = (((x + y).toNat : Nat) : Int) := by
  rw [u32_wrap, UInt32.toNat_add]; omega
theorem u32_bv (x : UInt32) : BitVec.ofInt 32 (x.toNat : Int) = x.toBitVec := by
  simp [BitVec.ofInt_natCast]
theorem u32_wrapN (x : UInt32) : IntKind.u32.wrap ((x.toNat : Nat) : Int) = (x.toNat : Int) := by
  rw [u32_wrap]; have := x.toNat_lt; omega
theorem u32_xor (x y : UInt32) : bitsI .xor .u32 (x.toNat : Int) (y.toNat : Int) = some (((x ^^^ y).toNat : Nat) : Int) := by
  have e : (BitVec.ofInt 32 (x.toNat : Int) ^^^ BitVec.ofInt 32 (y.toNat : Int)).toNat = (x ^^^ y).toNat := by rw [u32_bv, u32_bv]; rfl
  show some (IntKind.u32.wrap ((BitVec.ofInt 32 (x.toNat : Int) ^^^ BitVec.ofInt 32 (y.toNat : Int)).toNat : Int)) = _
  rw [e, u32_wrapN]
theorem u32_and (x y : UInt32) : bitsI .and .u32 (x.toNat : Int) (y.toNat : Int) = some (((x &&& y).toNat : Nat) : Int) := by
  have e : (BitVec.ofInt 32 (x.toNat : Int) &&& BitVec.ofInt 32 (y.toNat : Int)).toNat = (x &&& y).toNat := by rw [u32_bv, u32_bv]; rfl
  show some (IntKind.u32.wrap ((BitVec.ofInt 32 (x.toNat : Int) &&& BitVec.ofInt 32 (y.toNat : Int)).toNat : Int)) = _
  rw [e, u32_wrapN]
theorem u32_or (x y : UInt32) : bitsI .or .u32 (x.toNat : Int) (y.toNat : Int) = some (((x ||| y).toNat : Nat) : Int) := by
  have e : (BitVec.ofInt 32 (x.toNat : Int) ||| BitVec.ofInt 32 (y.toNat : Int)).toNat = (x ||| y).toNat := by rw [u32_bv, u32_bv]; rfl
  show some (IntKind.u32.wrap ((BitVec.ofInt 32 (x.toNat : Int) ||| BitVec.ofInt 32 (y.toNat : Int)).toNat : Int)) = _
  rw [e, u32_wrapN]
theorem u32_not (x : UInt32) : bitsI .xor .u32 (if IntKind.u32.signed then -1 else IntKind.u32.max) (x.toNat : Int) = some (((~~~ x).toNat : Nat) : Int) := by
  have h : (if IntKind.u32.signed then -1 else IntKind.u32.max) = (((0xffffffff : UInt32).toNat : Nat) : Int) := by decide
  rw [h, u32_xor]
  congr 3
theorem u32_shr (x : UInt32) (n : Nat) (hn : n < 32) : shiftI .shr .u32 (x.toNat : Int) (n : Int) = some (((x >>> (UInt32.ofNat n)).toNat : Nat) : Int) := by
  simp only [shiftI, Option.some.injEq, IntKind.bits]
  rw [UInt32.toNat_shiftRight]
  have h1 : (UInt32.ofNat n).toNat % 32 = n := by
    rw [UInt32.toNat_ofNat']; omega
  rw [h1, Nat.shiftRight_eq_div_pow]
  have h2 : min ((n : Int).toNat) 32 = n := by omega
  rw [h2]
  rw [show ((2 : Int) ^ n) = ((2 ^ n : Nat) : Int) by simp]
  rw [Int.fdiv_eq_ediv_of_nonneg _ (Int.natCast_nonneg _)]
  exact (Int.natCast_ediv _ _).symm
theorem u32_shl (x : UInt32) (n : Nat) (hn : n < 32) : shiftI .shl .u32 (x.toNat : Int) (n : Int) = some (((x <<< (UInt32.ofNat n)).toNat : Nat) : Int) := by
  simp only [shiftI, Option.some.injEq, IntKind.bits]
  rw [UInt32.toNat_shiftLeft]
  have h1 : (UInt32.ofNat n).toNat % 32 = n := by
    rw [UInt32.toNat_ofNat']; omega
  rw [h1, Nat.shiftLeft_eq]
  have h2 : min ((n : Int).toNat) 32 = n := by omega
  rw [h2, u32_wrap]
  rw [show ((2 : Int) ^ n) = ((2 ^ n : Nat) : Int) by simp]
  rw [← Int.natCast_mul]
  omega
theorem u32_shl24 (x : UInt32) : shiftI .shl .u32 (x.toNat : Int) 24 = some (((x <<< (UInt32.ofNat 24)).toNat : Nat) : Int) := u32_shl x 24 (by decide)
theorem u32_shl16 (x : UInt32) : shiftI .shl .u32 (x.toNat : Int) 16 = some (((x <<< (UInt32.ofNat 16)).toNat : Nat) : Int) := u32_shl x 16 (by decide)
theorem u32_shl8 (x : UInt32) : shiftI .shl .u32 (x.toNat : Int) 8 = some (((x <<< (UInt32.ofNat 8)).toNat : Nat) : Int) := u32_shl x 8 (by decide)
theorem u32_shr3 (x : UInt32) : shiftI .shr .u32 (x.toNat : Int) 3 = some (((x >>> (UInt32.ofNat 3)).toNat : Nat) : Int) := u32_shr x 3 (by decide)
theorem u32_shr10 (x : UInt32) : shiftI .shr .u32 (x.toNat : Int) 10 = some (((x >>> (UInt32.ofNat 10)).toNat : Nat) : Int) := u32_shr x 10 (by decide)
theorem u32_ofByte (b : UInt8) : IntKind.u32.wrap ((b.toNat : Nat) : Int) = ((b.toUInt32.toNat : Nat) : Int) := by
  rw [u32_wrap, UInt8.toNat_toUInt32]; have := b.toNat_lt; omega
theorem u8_ofU32 (x : UInt32) : IntKind.u8.wrap ((x.toNat : Nat) : Int) = ((x.toUInt8.toNat : Nat) : Int) := by
  have h : IntKind.u8.wrap ((x.toNat : Nat) : Int) = (x.toNat : Int) % 256 := by simp [IntKind.wrap, IntKind.signed, IntKind.bits]
  rw [h, UInt32.toNat_toUInt8]; omega

namespace Sha
def rot (x : UInt32) (n : Nat) : UInt32 := x >>> (UInt32.ofNat n) ||| x <<< (UInt32.ofNat (32 - n))
/-- The first 16 words of a block. -/
def word (b : List UInt8) (i : Nat) : UInt32 :=
  (b.getD (4 * i) 0).toUInt32 <<< (UInt32.ofNat 24) ||| (b.getD (4 * i + 1) 0).toUInt32 <<< (UInt32.ofNat 16) ||| (b.getD (4 * i + 2) 0).toUInt32 <<< (UInt32.ofNat 8) ||| (b.getD (4 * i + 3) 0).toUInt32
def words (b : List UInt8) : Nat → List UInt32
  | 0 => []
  | i + 1 => words b i ++ [word b i]
def s0 (x : UInt32) : UInt32 := rot x 7 ^^^ rot x 18 ^^^ x >>> (UInt32.ofNat 3)
def s1 (x : UInt32) : UInt32 := rot x 17 ^^^ rot x 19 ^^^ x >>> (UInt32.ofNat 10)
/-- The next word behind those. -/
def next (w : List UInt32) : UInt32 := w.getD (w.length - 16) 0 + s0 (w.getD (w.length - 15) 0) + w.getD (w.length - 7) 0 + s1 (w.getD (w.length - 2) 0)
def ext (w : List UInt32) : Nat → List UInt32
  | 0 => w
  | i + 1 => ext w i ++ [next (ext w i)]
def sched (b : List UInt8) : List UInt32 := ext (words b 16) 48
def k : List UInt32 := [
  0x428a2f98, 0x71374491, 0xb5c0fbcf, 0xe9b5dba5, 0x3956c25b, 0x59f111f1, 0x923f82a4, 0xab1c5ed5,
  0xd807aa98, 0x12835b01, 0x243185be, 0x550c7dc3, 0x72be5d74, 0x80deb1fe, 0x9bdc06a7, 0xc19bf174,
  0xe49b69c1, 0xefbe4786, 0x0fc19dc6, 0x240ca1cc, 0x2de92c6f, 0x4a7484aa, 0x5cb0a9dc, 0x76f988da,
  0x983e5152, 0xa831c66d, 0xb00327c8, 0xbf597fc7, 0xc6e00bf3, 0xd5a79147, 0x06ca6351, 0x14292967,
  0x27b70a85, 0x2e1b2138, 0x4d2c6dfc, 0x53380d13, 0x650a7354, 0x766a0abb, 0x81c2c92e, 0x92722c85,
  0xa2bfe8a1, 0xa81a664b, 0xc24b8b70, 0xc76c51a3, 0xd192e819, 0xd6990624, 0xf40e3585, 0x106aa070,
  0x19a4c116, 0x1e376c08, 0x2748774c, 0x34b0bcb5, 0x391c0cb3, 0x4ed8aa4a, 0x5b9cca4f, 0x682e6ff3,
  0x748f82ee, 0x78a5636f, 0x84c87814, 0x8cc70208, 0x90befffa, 0xa4506ceb, 0xbef9a3f7, 0xc67178f2]
structure S8 where
  a : UInt32
  b : UInt32
  c : UInt32
  d : UInt32
  e : UInt32
  f : UInt32
  g : UInt32
  h : UInt32
def S8.vals (s : S8) : List Value := [w32 s.a, w32 s.b, w32 s.c, w32 s.d, w32 s.e, w32 s.f, w32 s.g, w32 s.h]
def start : S8 := ⟨0x6a09e667, 0xbb67ae85, 0x3c6ef372, 0xa54ff53a, 0x510e527f, 0x9b05688c, 0x1f83d9ab, 0x5be0cd19⟩
def t1 (k w : UInt32) (v : S8) : UInt32 := v.h + (rot v.e 6 ^^^ rot v.e 11 ^^^ rot v.e 25) + (v.e &&& v.f ^^^ ~~~ v.e &&& v.g) + k + w
def t2 (v : S8) : UInt32 := (rot v.a 2 ^^^ rot v.a 13 ^^^ rot v.a 22) + (v.a &&& v.b ^^^ v.a &&& v.c ^^^ v.b &&& v.c)
def round (k w : UInt32) (v : S8) : S8 := ⟨t1 k w v + t2 v, v.a, v.b, v.c, v.d + t1 k w v, v.e, v.f, v.g⟩
def rounds (w : List UInt32) (v : S8) : Nat → S8
  | 0 => v
  | i + 1 => round (k.getD i 0) (w.getD i 0) (rounds w v i)
def S8.add (v s : S8) : S8 := ⟨v.a + s.a, v.b + s.b, v.c + s.c, v.d + s.d, v.e + s.e, v.f + s.f, v.g + s.g, v.h + s.h⟩
def block (s : S8) (b : List UInt8) : S8 := (rounds (sched b) s 64).add s
/-- All blocks of bytes. -/
def blocks (s : S8) (b : List UInt8) : Nat → S8
  | 0 => s
  | i + 1 => block (blocks s b i) ((b.drop (64 * i)).take 64)
def padZ (n : Nat) : Nat := (119 - n % 64) % 64
def padded (b : List UInt8) : List UInt8 := b ++ [0x80] ++ List.replicate (padZ b.length) 0 ++ be 8 ((b.length * 8 : Nat) : Int)
def S8.get (s : S8) : Nat → UInt32
  | 0 => s.a
  | 1 => s.b
  | 2 => s.c
  | 3 => s.d
  | 4 => s.e
  | 5 => s.f
  | 6 => s.g
  | _ => s.h
def S8.out (s : S8) (i : Nat) : UInt8 := (s.get (i / 4) >>> (UInt32.ofNat (24 - 8 * (i % 4)))).toUInt8
def sum (b : List UInt8) : Nat → UInt8 := (blocks start (padded b) ((padded b).length / 64)).out
end Sha
end Go.Proofs.YtcaofnfemogleaaGreatDoor

/- The engine, part k: texts of bytes and bytes of texts; copy. No program in sight; no conditions. -/
namespace Go.Proofs.YtcaofnfemogleaaGreatDoor
set_option linter.unusedSectionVars false
set_option linter.unusedSimpArgs false
set_option linter.unusedVariables false
open Go
section rules
variable {P : Program} {base : World} {n : Nat} {L : Env} {f : Frag} {A : List HP} {q : Post}
variable {l rest : List Oper} {d : Nat} {ty : TypeId} {pos : String} {af : Array Edge} {gd : Option (Nat × Bool)}

/-- 'string(b)'. -/
theorem H.convBS {s t e : TypeId} {x : Operand} {p : Option Addr} {c : Nat} {bs : List UInt8} [hs : Und P s (.slice e)] [he : Und P e (.int .u8)] [ht : Und P t .string] (hw : want? l L gd = true) (hx : ev? L x = some (.slice p bs.length c))
    (hsrc : Src P f A (.slice p bs.length c) 1 bs.length (bytesV bs)) (hn : p = none → bs = []) (hd : Nat.ble (d + 1) n = true)
    (k : H P base n ((d, .string ⟨bs.toArray⟩) :: L) f A (.ops l rest q)) : H P base n L f A (.ops l (⟨some d, .convert s t x, ty, pos, af, gd⟩ :: rest) q) :=
  H.opV hw hd (fun a w hf s' => by
    have h1 := hsrc.cells base w s'
    have h2 : (convert s t (.slice p bs.length c)).run P w = .ok (.string ⟨bs.toArray⟩) w := by
      rw [run_convert_bytes_string w s t e p bs.length c hs.eq he.eq ht.eq]
      cases p with
      | none =>
        have := hn rfl
        subst this
        simp [Conv.bytesToString]
        rfl
      | some a =>
        have h3 : (loadCells a bs.length).run P w = .ok ((bs.map (fun b => (b.toNat : Int))).map (Value.int .u8)).toArray w := by
          have h4 : (Builtin.firstCells 1 bs.length (.slice (some a) bs.length c)).run P w = (loadCells a (bs.length * 1)).run P w := rfl
          rw [Nat.mul_one] at h4
          rw [← h4, h1]
          unfold bytesV
          rw [List.map_map]
          rfl
        rw [run_bytesToString w a bs.length c _ h3, foldl_push_byteCells]
        have he0 : ByteArray.empty.data = #[] := rfl
        rw [he0]
        simp
    simp only [execOp, hf.eval hx, Sem.run_bind, h2, Result.andThen_ok, Sem.run_pure]) k

/-- The row of '[]byte(s)'. -/
def strRow (b : Nat) (s : ByteArray) (c : Nat) (e : TypeId) : HP := pts b (.cells (bytesRow s c) e ((bytesRow s c).size, (bytesRow s c).size + 1))
theorem bytesRow_get (s : ByteArray) (c : Nat) {i : Nat} (h : i < s.size) : (bytesRow s c)[i]? = (bytesV s.data.toList)[i]? := by
  unfold bytesRow bytesV
  have h' : i < s.data.size := h
  rw [Array.getElem?_append_left (by simpa using h')]
  rw [List.getElem?_map, Array.getElem?_map, Array.getElem?_toList]
theorem Src.strRow {A' : List HP} {b c c' : Nat} {s : ByteArray} {e : TypeId} (h : At A (strRow b s c e) A' (strRow b s c e)) : Src P f A (.slice (some ⟨b, 0, none⟩) s.size c') 1 s.size (bytesV s.data.toList) := by
  have hl : (bytesV s.data.toList).length = s.size * 1 := by unfold bytesV; rw [List.length_map, Array.length_toList, Nat.mul_one]; rfl
  refine Src.slice (fun base w sa => ⟨_, _, _, sa.got h, fun i hi => ?_⟩) hl
  rw [hl, Nat.mul_one] at hi
  rw [Nat.zero_add]
  exact bytesRow_get s c hi
theorem H.convSB {s t e : TypeId} {x : Operand} {bs : ByteArray} [hs : Und P s .string] [ht : Und P t (.slice e)] [he : Und P e (.int .u8)] (hw : want? l L gd = true) (hx : ev? L x = some (.string bs)) (hd : Nat.ble (d + 1) n = true)
    (k : ∀ b c, H P base n ((d, .slice (some ⟨b, 0, none⟩) bs.size c) :: L) f (strRow b bs c e :: A) (.ops l rest q)) : H P base n L f A (.ops l (⟨some d, .convert s t x, ty, pos, af, gd⟩ :: rest) q) :=
  H.opE (ι := Nat × Nat) (fun i => .slice (some ⟨i.1, 0, none⟩) bs.size i.2) (fun _ => f) (fun i => strRow i.1 bs i.2 e :: A) (fun _ => True) hw hd (fun a w hfr s' => by
    have h1 := run_bytes_of_string (P := P) w s t e bs hs.eq ht.eq he.eq
    have h2 : (execOp a.eval ⟨some d, .convert s t x, ty, pos, af, gd⟩).run P w = .ok (.value (.slice (some ⟨w.heap.size, 0, none⟩) bs.size (grownCap w bs.size 0 e))) (w.drew.alloc (.cells (bytesRow bs (grownCap w bs.size 0 e)) e ((bytesRow bs (grownCap w bs.size 0 e)).size, (bytesRow bs (grownCap w bs.size 0 e)).size + 1))) := by
      simp only [execOp, hfr.eval hx, Sem.run_bind, h1, Result.andThen_ok, Sem.run_pure]
    exact ⟨(w.heap.size, grownCap w bs.size 0 e), _, trivial, h2, Sat.alloc (w := w) s' rfl rfl rfl rfl⟩) (fun i _ => k i.1 i.2)

theorem run_copy_own {w : World} {dT sT ty elem : TypeId} {b o dl dc m : Nat} {xv : Value} {cur : Array Value} {T : TypeId} {cs : List Value} (hu : Und P dT (.slice elem)) (hs : Siz P elem 1)
    (hg : w.heap[b]? = some (.cells cur T (0, 0))) (hlen : (Builtin.lenOf xv).run P w = .ok m w) (hcs : (Builtin.firstCells 1 (Nat.min m dl) xv).run P w = .ok cs.toArray w) (hfit : o + cs.length ≤ cur.size) (h1 : ∀ v ∈ cs, v.oneCell' = true) :
    (Builtin.copy_ #[dT, sT] ty #[.slice (some ⟨b, o, none⟩) dl dc, xv]).run P w = .ok (goInt (Nat.min m dl)) (w.setRow b (cur.toList.take o ++ cs ++ cur.toList.drop (o + cs.length)).toArray) := by
  have hst := run_storeCells_at P b o T cs 0 cur w hg (by simpa using hfit) h1
  simp only [Nat.add_zero] at hst
  simp [Builtin.copy_, run_underlying hu.eq, hlen, hs.run, hcs, hst]

theorem run_builtin_copy {t u ty : TypeId} {x y : Operand} {a : Act} {w w' : World} {dd : Option Tmp} {v : Value} (h : (Builtin.copy_ #[t, u] ty #[a.eval x, a.eval y]).run P w = .ok v w') :
    (execOp a.eval ⟨dd, .call ⟨.builtin .copy, #[x, y], #[t, u]⟩, ty, pos, af, gd⟩).run P w = .ok (.value v) w' := by
  simp only [execOp, resolve, invoke, builtin, Sem.run_bind, Sem.run_pure, Result.andThen_ok, List.map_toArray, List.map_cons, List.map_nil, h]
/-- 'copy' into a row that the call owns. -/
theorem H.copy {dT sT e : TypeId} {x y : Operand} {b o dl dc m k0 : Nat} {xv : Value} {T : TypeId} {ls ls' cs : List Value} {A' : List HP} [hu : Und P dT (.slice e)] [hs : Siz P e 1] (hw : want? l L gd = true) (hd : Nat.ble (d + 1) n = true)
    (hx : ev? L x = some (.slice (some ⟨b, o, none⟩) dl dc)) (hy : ev? L y = some xv) (hlen : ∀ w, (Builtin.lenOf xv).run P w = .ok m w) (hk : Nat.min m dl = k0) (hcs : ∀ base w, Sat base w f A → (Builtin.firstCells 1 k0 xv).run P w = .ok cs.toArray w)
    (hset : splice ls o cs = ls') (hfit : o + cs.length ≤ ls.length) (h1 : ∀ v ∈ cs, one v = true) (hA : At A (row b T ls) A' (row b T ls'))
    (k : H P base n ((d, .int .i64 (k0 : Nat)) :: L) f A' (.ops l rest q)) : H P base n L f A (.ops l (⟨some d, .call ⟨.builtin .copy, #[x, y], #[dT, sT]⟩, ty, pos, af, gd⟩ :: rest) q) :=
  H.opE (ι := Unit) (fun _ => .int .i64 (k0 : Nat)) (fun _ => f) (fun _ => A') (fun _ => True) hw hd (fun a w hfr s' => by
    subst hset; subst hk
    have hb := s'.got hA
    have hr := run_copy_own (P := P) (ty := ty) (sT := sT) (dc := dc) hu hs hb (hlen w) (hcs base w s') (by simpa using hfit) (fun v hv => by rw [one_eq]; exact h1 v hv)
    refine ⟨(), _, trivial, run_builtin_copy (by rw [hfr.eval hx, hfr.eval hy]; exact hr), ?_⟩
    exact s'.set hA rfl rfl rfl (setRow_is hb)) (fun _ _ => k)
/-- All of the source goes over. -/
theorem Src.copy {xv : Value} {m : Nat} {cs : List Value} (h : Src P f A xv 1 m cs) : ∀ base w, Sat base w f A → (Builtin.firstCells 1 m xv).run P w = .ok cs.toArray w := h.cells
/-- A part of the source. -/
theorem firstCells_part {b off m c k0 : Nat} {news : List Value} (h : Rd f A b off news) (hk : k0 ≤ news.length) : ∀ base w, Sat base w f A → (Builtin.firstCells 1 k0 (.slice (some ⟨b, off, none⟩) m c)).run P w = .ok (news.take k0).toArray w := fun base w s => by
  refine run_firstCells_some w 1 k0 ⟨b, off, none⟩ m c (news.take k0) (by simp; omega) (fun j v hj => ?_)
  rw [add_none]
  rw [List.getElem?_take] at hj
  split at hj
  · exact (h base w s).cell hj
  · cases hj
end rules
end Go.Proofs.YtcaofnfemogleaaGreatDoor

/- The engine, part l: regions that draw their order, told anew at each operation that may write: what it wrote may be read behind it; where several may come, each order is gone through. No program in sight; no conditions. -/
namespace Go.Proofs.YtcaofnfemogleaaGreatDoor
set_option linter.unusedSectionVars false
set_option linter.unusedSimpArgs false
set_option linter.unusedVariables false
open Go

theorem Le.un (f g : Frag) : Le f (un f g) := fun k o h => by simp [Proofs.YtcaofnfemogleaaGreatDoor.un, h]
theorem Sat.weak {base w : World} {f g : Frag} {A : List HP} (h : Le f g) (s : Sat base w g A) : Sat base w f A := by
  obtain ⟨a, b, c, d, e, m, hm, hd, hw⟩ := s
  refine ⟨a, b, c, d, fun k o hk => e k o (h k o hk), m, hm, fun k => ?_, hw⟩
  rcases hd k with h1 | h1
  · refine .inl ?_
    cases hf : f k with
    | none => rfl
    | some o => rw [h k o hf] at h1; cases h1
  · exact .inr h1
theorem wpAnyC_mono {P : Program} {C C' : World → Prop} {ops : Array Oper} {Q : Exit → Act → World → Prop} {cut : Array Bool} (hC : ∀ w, C w → C' w) : ∀ (fuel : Nat) (listed : Array Bool) (a : Act) (w : World), wpAnyC P C ops Q cut fuel listed a w → wpAnyC P C' ops Q cut fuel listed a w
  | 0, _, _, _, h => ⟨hC _ h.1, h.2⟩
  | fuel + 1, listed, a, w, h => by
    refine ⟨hC _ h.1, ?_⟩
    have h2 := h.2
    split at h2
    · rename_i hc; rw [if_pos hc]; exact h2
    · rename_i hc; rw [if_neg hc]; exact ⟨h2.1, fun i hi => wpOp_mono (fun a w => wpAnyC_mono hC fuel _ a w) (h2.2 i hi)⟩

/-- A region that draws, so far: listed; so many are left. S: what the reads to come may read; V: the rest. -/
structure HB (S V : List HP) (cut listed : Array Bool) (fuel : Nat) (P : Program) (base : World) (n : Nat) (L : Env) (f : Frag) (K : Kont) : Prop where
  out : ∀ l q, K = .ops l [] q → Region.noSelect l.toArray = true → q.blind P → ∀ a w, Fr n a L → Sat base w f (S ++ V) →
    wpAnyC P (fun w => ∃ V, Sat base w f (S ++ V)) l.toArray (q.den P) cut fuel listed a w

/-- What is owed behind an operation of such a region. -/
def bPost (P : Program) (base : World) (f : Frag) (S : List HP) (cut listed : Array Bool) (fuel : Nat) (l : List Oper) (q : Post) (e : Exit) (a : Act) (w : World) : Prop :=
  Region.noSelect l.toArray = true → q.blind P → match e with
    | .normal => wpAnyC P (fun w => ∃ V, Sat base w f (S ++ V)) l.toArray (q.den P) cut fuel listed a w
    | e => q.den P e a w

section rules
variable {P : Program} {base : World} {n : Nat} {L : Env} {f : Frag} {A S V : List HP} {q : Post} {cut listed : Array Bool} {fuel : Nat} {ξ : Ext} {tl : List Oper}
variable {l rest : List Oper} {d : Nat} {ty : TypeId} {pos : String} {af : Array Edge} {gd : Option (Nat × Bool)}

theorem HB.quiet (todo : List (Nat × Bool)) (left : Nat) (hn : (ordOK l.toArray ⟨listed, cut, left, true⟩ todo && todo.all (fun t => (getO l t.1).isSome) && Nat.beq fuel (todo.length + left)) = true)
    (k : HQ V ⟨⟨listed, cut, left, true⟩, todo⟩ P base n L f S (.ops l (pickOps l todo) q)) : HB S V cut listed fuel P base n L f (.ops l [] q) := .mk fun l' q' hK hs hb a w hf s => by
  simp only [Kont.ops.injEq] at hK
  obtain ⟨rfl, _, rfl⟩ := hK
  simp only [Bool.and_eq_true, List.all_eq_true] at hn
  obtain ⟨⟨h1, h2⟩, h3⟩ := hn
  have h4 : fuel = todo.length + left := Nat.eq_of_beq_eq_true h3
  subst h4
  exact k.out l q rfl hs hb h1 h2 a w hf s
theorem HQ.more {ls : Lst} (h0 : ls.opn = true) (k : HB A V ls.cut ls.a ls.left P base n L f (.ops l [] q)) : HQ V ⟨ls, []⟩ P base n L f A (.ops l [] q) := .mk fun l' q' hK hs hb ho hg a w hf s => by
  simp only [Kont.ops.injEq] at hK
  obtain ⟨rfl, _, rfl⟩ := hK
  have _ := h0
  have := k.out l q rfl hs hb a w hf s
  simp only [List.length_nil, Nat.zero_add]
  exact this
theorem HB.done (h0 : (Nat.beq fuel 0 && Region.ready .any l.toArray listed == []) = true) (k : H P base n L f (S ++ V) (.out .normal q)) : HB S V cut listed fuel P base n L f (.ops l [] q) := .mk fun l' q' hK hs hb a w hf s => by
  simp only [Kont.ops.injEq] at hK
  obtain ⟨rfl, _, rfl⟩ := hK
  simp only [Bool.and_eq_true, beq_iff_eq] at h0
  have h1 : fuel = 0 := Nat.eq_of_beq_eq_true h0.1
  subst h1
  exact ⟨⟨V, s⟩, h0.2, k.out a w hf s⟩

theorem event_step {i : Nat} {o : Oper} {a : Act} {w : World} (ho : getO l i = some o) (hs : Region.noSelect l.toArray = true) (hb : q.blind P) (hf : Fr n a L) (s : Sat base w f (S ++ V))
    (k : H P base n L f (S ++ V) (.ops l [o] (.fn (bPost P base f S cut (listed.setIfInBounds i true) fuel l q)))) :
    wpOp P l.toArray (q.den P) i (wpAnyC P (fun w => ∃ V, Sat base w f (S ++ V)) l.toArray (q.den P) cut fuel (listed.setIfInBounds i true)) a w := by
  have hk := k.out a w hf s
  unfold wpOp
  rw [List.getElem?_toArray, ← getO_eq, ho]
  show if Region.wanted o (yielded l.toArray a.tmps) = true then _ else _
  have hk' : wpList P l.toArray (bPost P base f S cut (listed.setIfInBounds i true) fuel l q) [o] a w := hk
  simp only [wpList] at hk'
  have e1 : ∀ a w, bPost P base f S cut (listed.setIfInBounds i true) fuel l q .normal a w →
      wpAnyC P (fun w => ∃ V, Sat base w f (S ++ V)) l.toArray (q.den P) cut fuel (listed.setIfInBounds i true) a w := fun a w h => h hs hb
  by_cases hw : Region.wanted o (yielded l.toArray a.tmps) = true
  · rw [if_pos hw] at hk' ⊢
    rcases hk' with h | ⟨hasks, x, y, z⟩
    · exact .inl (upon_mono e1 (fun c a w h => h hs hb) (fun a w h => h hs hb) h)
    · exact .inr ⟨hasks, x, y, z hs hb⟩
  · rw [if_neg hw] at hk' ⊢
    exact e1 _ _ hk'

def oneB (l : List Oper) (cut listed : Array Bool) (is : List Nat) : Bool := Region.ready .any l.toArray listed == is && (listed != cut)
theorem HB.ev1 {i : Nat} {o : Oper} (hr : oneB l cut listed [i] = true) (ho : getO l i = some o)
    (k : H P base n L f (S ++ V) (.ops l [o] (.fn (bPost P base f S cut (listed.setIfInBounds i true) fuel l q)))) : HB S V cut listed (fuel + 1) P base n L f (.ops l [] q) := .mk fun l' q' hK hs hb a w hf s => by
  simp only [Kont.ops.injEq] at hK
  obtain ⟨rfl, _, rfl⟩ := hK
  simp only [oneB, Bool.and_eq_true, beq_iff_eq, bne_iff_ne, ne_eq] at hr
  exact wpAnyC_one hr.1 hr.2 ⟨V, s⟩ (event_step ho hs hb hf s k)
/-- Two may come: each of them first. -/
theorem HB.ev2 {i j : Nat} {o o' : Oper} (hr : oneB l cut listed [i, j] = true) (ho : getO l i = some o) (ho' : getO l j = some o')
    (k : H P base n L f (S ++ V) (.ops l [o] (.fn (bPost P base f S cut (listed.setIfInBounds i true) fuel l q))))
    (k' : H P base n L f (S ++ V) (.ops l [o'] (.fn (bPost P base f S cut (listed.setIfInBounds j true) fuel l q)))) : HB S V cut listed (fuel + 1) P base n L f (.ops l [] q) := .mk fun l' q' hK hs hb a w hf s => by
  simp only [Kont.ops.injEq] at hK
  obtain ⟨rfl, _, rfl⟩ := hK
  simp only [oneB, Bool.and_eq_true, beq_iff_eq, bne_iff_ne, ne_eq] at hr
  refine ⟨⟨V, s⟩, ?_⟩
  rw [if_neg hr.2]
  refine ⟨(fun h0 => by rw [hr.1] at h0; simp at h0), fun x hx => ?_⟩
  rw [hr.1] at hx
  simp only [List.mem_cons, List.not_mem_nil, or_false] at hx
  rcases hx with rfl | rfl
  · exact event_step ho hs hb hf s k
  · exact event_step ho' hs hb hf s k'
/-- Back in the region: S and E may be read from here on. -/
theorem H.on {B V' : List HP} {g : Frag} (E : List HP) (hg : Le f g) (hB : B = (S ++ E) ++ V') (k : HB (S ++ E) V' cut listed fuel P base n L g (.ops l [] q)) :
    H P base n L g B (.out .normal (.fn (bPost P base f S cut listed fuel l q))) := .mk fun a w hf s hs hb => by
  subst hB
  refine wpAnyC_mono (fun w ⟨V1, s1⟩ => ⟨E ++ V1, ?_⟩) _ _ _ _ (k.out l q rfl hs hb a w hf s)
  rw [← List.append_assoc]
  exact s1.weak hg
theorem H.on0 {B V' : List HP} (hB : B = S ++ V') (k : HB S V' cut listed fuel P base n L f (.ops l [] q)) :
    H P base n L f B (.out .normal (.fn (bPost P base f S cut listed fuel l q))) := .mk fun a w hf s hs hb => by
  subst hB
  exact k.out l q rfl hs hb a w hf s
/-- A region that draws its order. -/
theorem H.drawB {id : Nat} {B : List HP} (hm : P.follows .mixedOrders = true) (hn : Region.noSelect l.toArray = true) (hb : q.blind P)
    {S V : List HP} (hB : B = S ++ V) (k : HB S V #[] (Array.replicate l.length false) l.length P base n L f (.ops l [] q)) : H P base n L f B (.code (.region id l.toArray true) q) := .mk fun a w hf s => by
  refine wp_region_any hm ?_
  subst hB
  have s' : Sat base { w with drawn := w.drawn + 1 } f (S ++ V) := s.same rfl rfl rfl rfl
  have := k.out l q rfl hn hb a _ hf s'
  simpa using wpAnyC.any _ _ _ _ this
/-- The same; a first phase, that ends where these are listed. -/
theorem H.drawC {id : Nat} {B : List HP} (upto : List Nat) (hm : P.follows .mixedOrders = true) (hn : Region.noSelect l.toArray = true) (hb : q.blind P)
    {S V : List HP} (hB : B = S ++ V) (k : HB S V (upto.foldl (fun a i => a.setIfInBounds i true) (Array.replicate l.length false)) (Array.replicate l.length false) l.length P base n L f (.ops l [] q)) : H P base n L f B (.code (.region id l.toArray true) q) := .mk fun a w hf s => by
  refine wp_region_any hm ?_
  subst hB
  have s' : Sat base { w with drawn := w.drawn + 1 } f (S ++ V) := s.same rfl rfl rfl rfl
  have := k.out l q rfl hn hb a _ hf s'
  simpa using wpAnyC.any _ _ _ _ this
/-- Where a phase ends another one begins. -/
theorem HB.next {S' V' : List HP} (upto : List Nat) (hc : (listed == cut && Nat.blt 0 fuel) = true) (hB : S ++ V = S' ++ V')
    (k : HB S' V' (match upto with | [] => #[] | _ => upto.foldl (fun a i => a.setIfInBounds i true) listed) listed fuel P base n L f (.ops l [] q)) : HB S V cut listed fuel P base n L f (.ops l [] q) := .mk fun l' q' hK hs hb a w hf s => by
  simp only [Kont.ops.injEq] at hK
  obtain ⟨rfl, _, rfl⟩ := hK
  simp only [Bool.and_eq_true, beq_iff_eq] at hc
  obtain ⟨h1, h2⟩ := hc
  have h3 := Nat.le_of_ble_eq_true h2
  obtain ⟨m, rfl⟩ : ∃ m, fuel = m + 1 := ⟨fuel - 1, by omega⟩
  refine ⟨⟨V, s⟩, ?_⟩
  rw [if_pos h1]
  rw [hB] at s
  exact (k.out l q rfl hs hb a w hf s).any
/-- A region that draws, before its classes: an operation that reads no memory may come first, whatever the others write. -/
structure HN (listed : Array Bool) (fuel : Nat) (P : Program) (base : World) (n : Nat) (L : Env) (f : Frag) (A : List HP) (K : Kont) : Prop where
  out : ∀ l q, K = .ops l [] q → Region.noSelect l.toArray = true → q.blind P → ∀ a w, Fr n a L → Sat base w f A → wpAny P .any l.toArray (q.den P) fuel listed a w
theorem wpAnyC_true {ops : Array Oper} {Q : Exit → Act → World → Prop} (h0 : ops.size ≠ 0) : ∀ (fuel : Nat) (listed : Array Bool) (a : Act) (w : World), listed.size = ops.size → wpAny P .any ops Q fuel listed a w → wpAnyC P (fun _ => True) ops Q #[] fuel listed a w
  | 0, _, _, _, _, h => ⟨trivial, h⟩
  | fuel + 1, listed, a, w, hl, h => by
    refine ⟨trivial, ?_⟩
    rw [if_neg (by rintro rfl; exact h0 (by simpa using hl.symm))]
    exact ⟨h.1, fun i hi => wpOp_mono (fun a w => wpAnyC_true h0 fuel _ a w (by simpa using hl)) (h.2 i hi)⟩
theorem H.drawN {id : Nat} (hm : P.follows .mixedOrders = true) (hn : Region.noSelect l.toArray = true) (hb : q.blind P)
    (k : HN (Array.replicate l.length false) l.length P base n L f A (.ops l [] q)) : H P base n L f A (.code (.region id l.toArray true) q) := .mk fun a w hf s => by
  refine wp_region_any hm ?_
  have s' : Sat base { w with drawn := w.drawn + 1 } f A := s.same rfl rfl rfl rfl
  have := k.out l q rfl hn hb a _ hf s'
  simpa using this
def pureB (l : List Oper) (listed : Array Bool) (i : Nat) : Bool := (Region.ready .any l.toArray listed).contains i && Region.free .any l.toArray listed i && barB l.toArray #[] i && closedB l.toArray listed && Nat.beq listed.size l.length && Nat.blt 0 l.length
theorem HN.move {i : Nat} {x : Operand} {v : Value} (hc : pureB l listed i = true) (ho : getO l i = some ⟨some d, .move x, ty, pos, af, gd⟩) (hw : want? l L gd = true) (hx : ev? L x = some v) (hd : Nat.ble (d + 1) n = true)
    (k : HN (listed.setIfInBounds i true) fuel P base n ((d, v) :: L) f A (.ops l [] q)) : HN listed (fuel + 1) P base n L f A (.ops l [] q) := .mk fun l' q' hK hs hb a w hf s => by
  simp only [Kont.ops.injEq] at hK
  obtain ⟨rfl, _, rfl⟩ := hK
  simp only [pureB, Bool.and_eq_true] at hc
  obtain ⟨⟨⟨⟨⟨h1, h2⟩, h3⟩, h4⟩, h5⟩, h6⟩ := hc
  have h5' : listed.size = l.toArray.size := by simpa using Nat.eq_of_beq_eq_true h5
  have h6' : l.toArray.size ≠ 0 := by
    have := Nat.le_of_ble_eq_true h6
    simp only [List.size_toArray]; omega
  have hk := k.out l q rfl hs hb (a.put (some d) v) w (hf.put (Nat.le_of_ble_eq_true hd) v) s
  have hk2 := wpAnyC_true h6' _ _ _ _ (by simpa using h5') hk
  refine wpAnyC.any _ _ _ _ (wpAnyC_take (C := fun _ => True) (cut := #[]) (oi := ⟨some d, .move x, ty, pos, af, gd⟩) (v := v) (by rw [List.getElem?_toArray, ← getO_eq]; exact ho) hs h2 h3 h4 h1 (fun c a w h => hb c a _ _ w h) (.inl ⟨hf.want hw, fun w' _ => ?_⟩) hk2)
  simp [execOp, hf.eval hx]
theorem HN.phase {S V : List HP} (upto : List Nat) (hB : A = S ++ V) (k : HB S V (match upto with | [] => #[] | _ => upto.foldl (fun a i => a.setIfInBounds i true) listed) listed fuel P base n L f (.ops l [] q)) : HN listed fuel P base n L f A (.ops l [] q) := .mk fun l' q' hK hs hb a w hf s => by
  simp only [Kont.ops.injEq] at hK
  obtain ⟨rfl, _, rfl⟩ := hK
  subst hB
  exact (k.out l q rfl hs hb a w hf s).any
theorem HQ.bits {op : BinOp} {xt yt : TypeId} {x y : Operand} {k : IntKind} {p p2 r z : Int} (hw : want? l L gd = true) (hx : ev? L x = some (.int k p)) (hy : ev? L y = some (.int k p2)) (hc : bitsI op k p p2 = some r) (hz : r = z) (hd : Nat.ble (d + 1) n = true) {lst : Lst} {ti : Nat} {tt : List (Nat × Bool)}
    (kk : HQ V ⟨lst.setIfInBounds ti true, tt⟩ P base n ((d, .int k z) :: L) f A (.ops l rest q)) : HQ V ⟨lst, (ti, false) :: tt⟩ P base n L f A (.ops l (⟨some d, .binOp op xt x y yt, ty, pos, af, gd⟩ :: rest) q) :=
  HQ.opV hw hd (fun a w hf _ => by
    cases op <;> simp only [bitsI, Option.some.injEq, reduceCtorEq] at hc <;> subst hc <;> subst hz <;>
      simp [execOp, eqGuard, binOp, Op.intBits, hf.eval hx, hf.eval hy]) kk
theorem HQ.shift {op : BinOp} {xt yt : TypeId} {x y : Operand} {k k2 : IntKind} {p p2 r z : Int} (hw : want? l L gd = true) (hx : ev? L x = some (.int k p)) (hy : ev? L y = some (.int k2 p2)) (hc : shiftI op k p p2 = some r) (h0 : 0 ≤ p2) (hz : r = z) (hd : Nat.ble (d + 1) n = true) {lst : Lst} {ti : Nat} {tt : List (Nat × Bool)}
    (kk : HQ V ⟨lst.setIfInBounds ti true, tt⟩ P base n ((d, .int k z) :: L) f A (.ops l rest q)) : HQ V ⟨lst, (ti, false) :: tt⟩ P base n L f A (.ops l (⟨some d, .binOp op xt x y yt, ty, pos, af, gd⟩ :: rest) q) :=
  HQ.opV hw hd (fun a w hf _ => by
    have h1 : ¬ p2 < 0 := by omega
    cases op <;> simp only [shiftI, Option.some.injEq, reduceCtorEq] at hc <;> subst hc <;> subst hz <;>
      simp [execOp, eqGuard, binOp, Op.shift, hf.eval hx, hf.eval hy, h1]) kk
theorem HQ.flip {x : Operand} {xt : TypeId} {k : IntKind} {p r z : Int} (hw : want? l L gd = true) (hx : ev? L x = some (.int k p)) (hc : bitsI .xor k (if k.signed then -1 else k.max) p = some r) (hz : r = z) (hd : Nat.ble (d + 1) n = true) {lst : Lst} {ti : Nat} {tt : List (Nat × Bool)}
    (kk : HQ V ⟨lst.setIfInBounds ti true, tt⟩ P base n ((d, .int k z) :: L) f A (.ops l rest q)) : HQ V ⟨lst, (ti, false) :: tt⟩ P base n L f A (.ops l (⟨some d, .unOp .xor xt x, ty, pos, af, gd⟩ :: rest) q) :=
  HQ.opV hw hd (fun a w hf _ => by
    simp only [bitsI, Option.some.injEq] at hc
    subst hc; subst hz
    simp [execOp, Op.unary, Op.intBits, hf.eval hx]) kk
theorem HQ.neg {x : Operand} {xt : TypeId} {k : IntKind} {p z : Int} (hw : want? l L gd = true) (hx : ev? L x = some (.int k p)) (hz : k.wrap (0 - p) = z) (hd : Nat.ble (d + 1) n = true) {lst : Lst} {ti : Nat} {tt : List (Nat × Bool)}
    (kk : HQ V ⟨lst.setIfInBounds ti true, tt⟩ P base n ((d, .int k z) :: L) f A (.ops l rest q)) : HQ V ⟨lst, (ti, false) :: tt⟩ P base n L f A (.ops l (⟨some d, .unOp .neg xt x, ty, pos, af, gd⟩ :: rest) q) :=
  HQ.opV hw hd (fun a w hf _ => by
    subst hz
    simp [execOp, Op.unary, Op.intArith, hf.eval hx]) kk
theorem HQ.streq {op : BinOp} {xt yt : TypeId} {x y : Operand} {s t : ByteArray} {b c : Bool} (hw : want? l L gd = true) (hx : ev? L x = some (.string s)) (hy : ev? L y = some (.string t)) (hb : strP op s t = some b) (hc : b = c) (hd : Nat.ble (d + 1) n = true) {lst : Lst} {ti : Nat} {tt : List (Nat × Bool)}
    (kk : HQ V ⟨lst.setIfInBounds ti true, tt⟩ P base n ((d, .bool c) :: L) f A (.ops l rest q)) : HQ V ⟨lst, (ti, false) :: tt⟩ P base n L f A (.ops l (⟨some d, .binOp op xt x y yt, ty, pos, af, gd⟩ :: rest) q) :=
  HQ.opV hw hd (fun a w hf _ => by
    cases op <;> simp only [strP, Option.some.injEq, reduceCtorEq] at hb <;> subst hb <;> subst hc <;>
      simp [execOp, eqGuard, binOp, Op.stringOp, hf.eval hx, hf.eval hy]) kk
theorem HQ.min2 {x y : Operand} {ats : Array TypeId} {k : IntKind} {p p2 z : Int} (hw : want? l L gd = true) (hx : ev? L x = some (.int k p)) (hy : ev? L y = some (.int k p2)) (hz : (if p2 < p then p2 else p) = z) (hd : Nat.ble (d + 1) n = true) {lst : Lst} {ti : Nat} {tt : List (Nat × Bool)}
    (kk : HQ V ⟨lst.setIfInBounds ti true, tt⟩ P base n ((d, .int k z) :: L) f A (.ops l rest q)) : HQ V ⟨lst, (ti, false) :: tt⟩ P base n L f A (.ops l (⟨some d, .call ⟨.builtin .min, #[x, y], ats⟩, ty, pos, af, gd⟩ :: rest) q) :=
  HQ.opV hw hd (fun a w hf _ => by
    subst hz
    simp [execOp, resolve, invoke, builtin, Builtin.min_, Builtin.min2, hf.eval hx, hf.eval hy]) kk
theorem HQ.max2 {x y : Operand} {ats : Array TypeId} {k : IntKind} {p p2 z : Int} (hw : want? l L gd = true) (hx : ev? L x = some (.int k p)) (hy : ev? L y = some (.int k p2)) (hz : (if p < p2 then p2 else p) = z) (hd : Nat.ble (d + 1) n = true) {lst : Lst} {ti : Nat} {tt : List (Nat × Bool)}
    (kk : HQ V ⟨lst.setIfInBounds ti true, tt⟩ P base n ((d, .int k z) :: L) f A (.ops l rest q)) : HQ V ⟨lst, (ti, false) :: tt⟩ P base n L f A (.ops l (⟨some d, .call ⟨.builtin .max, #[x, y], ats⟩, ty, pos, af, gd⟩ :: rest) q) :=
  HQ.opV hw hd (fun a w hf _ => by
    subst hz
    simp [execOp, resolve, invoke, builtin, Builtin.max_, Builtin.max2, hf.eval hx, hf.eval hy]) kk
theorem HQ.makeFunc {fn : Go.Fn} {xs cs : List Operand} {vs us : List Value} (hw : want? l L gd = true) (hx : evs? L xs = some vs) (hc : evs? L cs = some us) (hd : Nat.ble (d + 1) n = true) {lst : Lst} {ti : Nat} {tt : List (Nat × Bool)}
    (k : HQ V ⟨lst.setIfInBounds ti true, tt⟩ P base n ((d, .func fn vs.toArray us.toArray) :: L) f A (.ops l rest q)) : HQ V ⟨lst, (ti, false) :: tt⟩ P base n L f A (.ops l (⟨some d, .makeFunc fn xs.toArray cs.toArray, ty, pos, af, gd⟩ :: rest) q) :=
  HQ.opV hw hd (fun a w hf _ => by
    simp [execOp, Instr.makeFunc, hf.evals hx, hf.evals hc]) k
theorem HQ.aggEq {op : BinOp} {xt yt : TypeId} {x y : Operand} {xs ys : List Value} {D : Nat} {b : Bool} (hw : want? l L gd = true) (hx : ev? L x = some (.agg xs.toArray)) (hy : ev? L y = some (.agg ys.toArray)) (ho : op = .eql)
    (hg : P.eqGuardType P.depth xt = false) (h1 : shp P D xt xs = true) (h2 : shp P D xt ys = true) (hm : (match P.underlying xt with | some (.array _ _) | some (.struct _) => true | _ => false) = true) (hD : D ≤ 10000) (hb : eqC xs ys = b) (hd : Nat.ble (d + 1) n = true) {lst : Lst} {ti : Nat} {tt : List (Nat × Bool)}
    (kk : HQ V ⟨lst.setIfInBounds ti true, tt⟩ P base n ((d, .bool b) :: L) f A (.ops l rest q)) : HQ V ⟨lst, (ti, false) :: tt⟩ P base n L f A (.ops l (⟨some d, .binOp op xt x y yt, ty, pos, af, gd⟩ :: rest) q) :=
  HQ.opV hw hd (fun a w hf _ => by
    subst ho; subst hb
    have hmk : ∀ zs : List Value, mkV P xt zs = .agg zs.toArray := fun zs => by
      unfold mkV
      split at hm <;> simp_all
    have h3 := run_equalIn_shp 10000 xt w D D xs ys h1 h2 hD
    rw [hmk, hmk] at h3
    refine run_bin _ ?_ ?_
    · rw [hf.eval hx, hf.eval hy]
      simp [eqGuard, hg]
    · rw [hf.eval hx, hf.eval hy]
      show Sem.run P (do pure (Value.bool (← Op.equal xt (.agg xs.toArray) (.agg ys.toArray)))) w = _
      have h4 : Sem.run P (Op.equal xt (.agg xs.toArray) (.agg ys.toArray)) w = .ok (eqC xs ys) w := h3
      simp [h4]) kk
theorem HQ.aggNe {op : BinOp} {xt yt : TypeId} {x y : Operand} {xs ys : List Value} {D : Nat} {b : Bool} (hw : want? l L gd = true) (hx : ev? L x = some (.agg xs.toArray)) (hy : ev? L y = some (.agg ys.toArray)) (ho : op = .neq)
    (hg : P.eqGuardType P.depth xt = false) (h1 : shp P D xt xs = true) (h2 : shp P D xt ys = true) (hm : (match P.underlying xt with | some (.array _ _) | some (.struct _) => true | _ => false) = true) (hD : D ≤ 10000) (hb : (!eqC xs ys) = b) (hd : Nat.ble (d + 1) n = true) {lst : Lst} {ti : Nat} {tt : List (Nat × Bool)}
    (kk : HQ V ⟨lst.setIfInBounds ti true, tt⟩ P base n ((d, .bool b) :: L) f A (.ops l rest q)) : HQ V ⟨lst, (ti, false) :: tt⟩ P base n L f A (.ops l (⟨some d, .binOp op xt x y yt, ty, pos, af, gd⟩ :: rest) q) :=
  HQ.opV hw hd (fun a w hf _ => by
    subst ho; subst hb
    have hmk : ∀ zs : List Value, mkV P xt zs = .agg zs.toArray := fun zs => by
      unfold mkV
      split at hm <;> simp_all
    have h3 := run_equalIn_shp 10000 xt w D D xs ys h1 h2 hD
    rw [hmk, hmk] at h3
    refine run_bin _ ?_ ?_
    · rw [hf.eval hx, hf.eval hy]
      simp [eqGuard, hg]
    · rw [hf.eval hx, hf.eval hy]
      show Sem.run P (do pure (Value.bool (!(← Op.equal xt (.agg xs.toArray) (.agg ys.toArray))))) w = _
      have h4 : Sem.run P (Op.equal xt (.agg xs.toArray) (.agg ys.toArray)) w = .ok (eqC xs ys) w := h3
      simp [h4]) kk
theorem HQ.convBS {s t e : TypeId} {x : Operand} {p : Option Addr} {c : Nat} {bs : List UInt8} [hs : Und P s (.slice e)] [he : Und P e (.int .u8)] [ht : Und P t .string] (hw : want? l L gd = true) (hx : ev? L x = some (.slice p bs.length c))
    (hsrc : Src P f A (.slice p bs.length c) 1 bs.length (bytesV bs)) (hn : p = none → bs = []) (hd : Nat.ble (d + 1) n = true) {lst : Lst} {ti : Nat} {tt : List (Nat × Bool)}
    (k : HQ V ⟨lst.setIfInBounds ti true, tt⟩ P base n ((d, .string ⟨bs.toArray⟩) :: L) f A (.ops l rest q)) : HQ V ⟨lst, (ti, false) :: tt⟩ P base n L f A (.ops l (⟨some d, .convert s t x, ty, pos, af, gd⟩ :: rest) q) :=
  HQ.opV hw hd (fun a w hf s' => by
    have h1 := hsrc.cells base w s'
    have h2 : (convert s t (.slice p bs.length c)).run P w = .ok (.string ⟨bs.toArray⟩) w := by
      rw [run_convert_bytes_string w s t e p bs.length c hs.eq he.eq ht.eq]
      cases p with
      | none =>
        have := hn rfl
        subst this
        simp [Conv.bytesToString]
        rfl
      | some a =>
        have h3 : (loadCells a bs.length).run P w = .ok ((bs.map (fun b => (b.toNat : Int))).map (Value.int .u8)).toArray w := by
          have h4 : (Builtin.firstCells 1 bs.length (.slice (some a) bs.length c)).run P w = (loadCells a (bs.length * 1)).run P w := rfl
          rw [Nat.mul_one] at h4
          rw [← h4, h1]
          unfold bytesV
          rw [List.map_map]
          rfl
        rw [run_bytesToString w a bs.length c _ h3, foldl_push_byteCells]
        have he0 : ByteArray.empty.data = #[] := rfl
        rw [he0]
        simp
    simp only [execOp, hf.eval hx, Sem.run_bind, h2, Result.andThen_ok, Sem.run_pure]) k
theorem HS.bits {op : BinOp} {xt yt : TypeId} {x y : Operand} {k : IntKind} {p p2 r z : Int} (hw : want? l L gd = true) (hx : ev? L x = some (.int k p)) (hy : ev? L y = some (.int k p2)) (hc : bitsI op k p p2 = some r) (hz : r = z) (hd : Nat.ble (d + 1) n = true)
    (kk : HS tl P base n ((d, .int k z) :: L) f A (.ops l rest q)) : HS tl P base n L f A (.ops l (⟨some d, .binOp op xt x y yt, ty, pos, af, gd⟩ :: rest) q) :=
  HS.opV hw hd (fun a w hf _ => by
    cases op <;> simp only [bitsI, Option.some.injEq, reduceCtorEq] at hc <;> subst hc <;> subst hz <;>
      simp [execOp, eqGuard, binOp, Op.intBits, hf.eval hx, hf.eval hy]) kk
theorem HS.shift {op : BinOp} {xt yt : TypeId} {x y : Operand} {k k2 : IntKind} {p p2 r z : Int} (hw : want? l L gd = true) (hx : ev? L x = some (.int k p)) (hy : ev? L y = some (.int k2 p2)) (hc : shiftI op k p p2 = some r) (h0 : 0 ≤ p2) (hz : r = z) (hd : Nat.ble (d + 1) n = true)
    (kk : HS tl P base n ((d, .int k z) :: L) f A (.ops l rest q)) : HS tl P base n L f A (.ops l (⟨some d, .binOp op xt x y yt, ty, pos, af, gd⟩ :: rest) q) :=
  HS.opV hw hd (fun a w hf _ => by
    have h1 : ¬ p2 < 0 := by omega
    cases op <;> simp only [shiftI, Option.some.injEq, reduceCtorEq] at hc <;> subst hc <;> subst hz <;>
      simp [execOp, eqGuard, binOp, Op.shift, hf.eval hx, hf.eval hy, h1]) kk
theorem HS.flip {x : Operand} {xt : TypeId} {k : IntKind} {p r z : Int} (hw : want? l L gd = true) (hx : ev? L x = some (.int k p)) (hc : bitsI .xor k (if k.signed then -1 else k.max) p = some r) (hz : r = z) (hd : Nat.ble (d + 1) n = true)
    (kk : HS tl P base n ((d, .int k z) :: L) f A (.ops l rest q)) : HS tl P base n L f A (.ops l (⟨some d, .unOp .xor xt x, ty, pos, af, gd⟩ :: rest) q) :=
  HS.opV hw hd (fun a w hf _ => by
    simp only [bitsI, Option.some.injEq] at hc
    subst hc; subst hz
    simp [execOp, Op.unary, Op.intBits, hf.eval hx]) kk
theorem HS.neg {x : Operand} {xt : TypeId} {k : IntKind} {p z : Int} (hw : want? l L gd = true) (hx : ev? L x = some (.int k p)) (hz : k.wrap (0 - p) = z) (hd : Nat.ble (d + 1) n = true)
    (kk : HS tl P base n ((d, .int k z) :: L) f A (.ops l rest q)) : HS tl P base n L f A (.ops l (⟨some d, .unOp .neg xt x, ty, pos, af, gd⟩ :: rest) q) :=
  HS.opV hw hd (fun a w hf _ => by
    subst hz
    simp [execOp, Op.unary, Op.intArith, hf.eval hx]) kk
theorem HS.streq {op : BinOp} {xt yt : TypeId} {x y : Operand} {s t : ByteArray} {b c : Bool} (hw : want? l L gd = true) (hx : ev? L x = some (.string s)) (hy : ev? L y = some (.string t)) (hb : strP op s t = some b) (hc : b = c) (hd : Nat.ble (d + 1) n = true)
    (kk : HS tl P base n ((d, .bool c) :: L) f A (.ops l rest q)) : HS tl P base n L f A (.ops l (⟨some d, .binOp op xt x y yt, ty, pos, af, gd⟩ :: rest) q) :=
  HS.opV hw hd (fun a w hf _ => by
    cases op <;> simp only [strP, Option.some.injEq, reduceCtorEq] at hb <;> subst hb <;> subst hc <;>
      simp [execOp, eqGuard, binOp, Op.stringOp, hf.eval hx, hf.eval hy]) kk
theorem HS.min2 {x y : Operand} {ats : Array TypeId} {k : IntKind} {p p2 z : Int} (hw : want? l L gd = true) (hx : ev? L x = some (.int k p)) (hy : ev? L y = some (.int k p2)) (hz : (if p2 < p then p2 else p) = z) (hd : Nat.ble (d + 1) n = true)
    (kk : HS tl P base n ((d, .int k z) :: L) f A (.ops l rest q)) : HS tl P base n L f A (.ops l (⟨some d, .call ⟨.builtin .min, #[x, y], ats⟩, ty, pos, af, gd⟩ :: rest) q) :=
  HS.opV hw hd (fun a w hf _ => by
    subst hz
    simp [execOp, resolve, invoke, builtin, Builtin.min_, Builtin.min2, hf.eval hx, hf.eval hy]) kk
theorem HS.max2 {x y : Operand} {ats : Array TypeId} {k : IntKind} {p p2 z : Int} (hw : want? l L gd = true) (hx : ev? L x = some (.int k p)) (hy : ev? L y = some (.int k p2)) (hz : (if p < p2 then p2 else p) = z) (hd : Nat.ble (d + 1) n = true)
    (kk : HS tl P base n ((d, .int k z) :: L) f A (.ops l rest q)) : HS tl P base n L f A (.ops l (⟨some d, .call ⟨.builtin .max, #[x, y], ats⟩, ty, pos, af, gd⟩ :: rest) q) :=
  HS.opV hw hd (fun a w hf _ => by
    subst hz
    simp [execOp, resolve, invoke, builtin, Builtin.max_, Builtin.max2, hf.eval hx, hf.eval hy]) kk
theorem HS.makeFunc {fn : Go.Fn} {xs cs : List Operand} {vs us : List Value} (hw : want? l L gd = true) (hx : evs? L xs = some vs) (hc : evs? L cs = some us) (hd : Nat.ble (d + 1) n = true)
    (k : HS tl P base n ((d, .func fn vs.toArray us.toArray) :: L) f A (.ops l rest q)) : HS tl P base n L f A (.ops l (⟨some d, .makeFunc fn xs.toArray cs.toArray, ty, pos, af, gd⟩ :: rest) q) :=
  HS.opV hw hd (fun a w hf _ => by
    simp [execOp, Instr.makeFunc, hf.evals hx, hf.evals hc]) k
theorem HS.aggEq {op : BinOp} {xt yt : TypeId} {x y : Operand} {xs ys : List Value} {D : Nat} {b : Bool} (hw : want? l L gd = true) (hx : ev? L x = some (.agg xs.toArray)) (hy : ev? L y = some (.agg ys.toArray)) (ho : op = .eql)
    (hg : P.eqGuardType P.depth xt = false) (h1 : shp P D xt xs = true) (h2 : shp P D xt ys = true) (hm : (match P.underlying xt with | some (.array _ _) | some (.struct _) => true | _ => false) = true) (hD : D ≤ 10000) (hb : eqC xs ys = b) (hd : Nat.ble (d + 1) n = true)
    (kk : HS tl P base n ((d, .bool b) :: L) f A (.ops l rest q)) : HS tl P base n L f A (.ops l (⟨some d, .binOp op xt x y yt, ty, pos, af, gd⟩ :: rest) q) :=
  HS.opV hw hd (fun a w hf _ => by
    subst ho; subst hb
    have hmk : ∀ zs : List Value, mkV P xt zs = .agg zs.toArray := fun zs => by
      unfold mkV
      split at hm <;> simp_all
    have h3 := run_equalIn_shp 10000 xt w D D xs ys h1 h2 hD
    rw [hmk, hmk] at h3
    refine run_bin _ ?_ ?_
    · rw [hf.eval hx, hf.eval hy]
      simp [eqGuard, hg]
    · rw [hf.eval hx, hf.eval hy]
      show Sem.run P (do pure (Value.bool (← Op.equal xt (.agg xs.toArray) (.agg ys.toArray)))) w = _
      have h4 : Sem.run P (Op.equal xt (.agg xs.toArray) (.agg ys.toArray)) w = .ok (eqC xs ys) w := h3
      simp [h4]) kk
theorem HS.aggNe {op : BinOp} {xt yt : TypeId} {x y : Operand} {xs ys : List Value} {D : Nat} {b : Bool} (hw : want? l L gd = true) (hx : ev? L x = some (.agg xs.toArray)) (hy : ev? L y = some (.agg ys.toArray)) (ho : op = .neq)
    (hg : P.eqGuardType P.depth xt = false) (h1 : shp P D xt xs = true) (h2 : shp P D xt ys = true) (hm : (match P.underlying xt with | some (.array _ _) | some (.struct _) => true | _ => false) = true) (hD : D ≤ 10000) (hb : (!eqC xs ys) = b) (hd : Nat.ble (d + 1) n = true)
    (kk : HS tl P base n ((d, .bool b) :: L) f A (.ops l rest q)) : HS tl P base n L f A (.ops l (⟨some d, .binOp op xt x y yt, ty, pos, af, gd⟩ :: rest) q) :=
  HS.opV hw hd (fun a w hf _ => by
    subst ho; subst hb
    have hmk : ∀ zs : List Value, mkV P xt zs = .agg zs.toArray := fun zs => by
      unfold mkV
      split at hm <;> simp_all
    have h3 := run_equalIn_shp 10000 xt w D D xs ys h1 h2 hD
    rw [hmk, hmk] at h3
    refine run_bin _ ?_ ?_
    · rw [hf.eval hx, hf.eval hy]
      simp [eqGuard, hg]
    · rw [hf.eval hx, hf.eval hy]
      show Sem.run P (do pure (Value.bool (!(← Op.equal xt (.agg xs.toArray) (.agg ys.toArray))))) w = _
      have h4 : Sem.run P (Op.equal xt (.agg xs.toArray) (.agg ys.toArray)) w = .ok (eqC xs ys) w := h3
      simp [h4]) kk
theorem HS.convBS {s t e : TypeId} {x : Operand} {p : Option Addr} {c : Nat} {bs : List UInt8} [hs : Und P s (.slice e)] [he : Und P e (.int .u8)] [ht : Und P t .string] (hw : want? l L gd = true) (hx : ev? L x = some (.slice p bs.length c))
    (hsrc : Src P f A (.slice p bs.length c) 1 bs.length (bytesV bs)) (hn : p = none → bs = []) (hd : Nat.ble (d + 1) n = true)
    (k : HS tl P base n ((d, .string ⟨bs.toArray⟩) :: L) f A (.ops l rest q)) : HS tl P base n L f A (.ops l (⟨some d, .convert s t x, ty, pos, af, gd⟩ :: rest) q) :=
  HS.opV hw hd (fun a w hf s' => by
    have h1 := hsrc.cells base w s'
    have h2 : (convert s t (.slice p bs.length c)).run P w = .ok (.string ⟨bs.toArray⟩) w := by
      rw [run_convert_bytes_string w s t e p bs.length c hs.eq he.eq ht.eq]
      cases p with
      | none =>
        have := hn rfl
        subst this
        simp [Conv.bytesToString]
        rfl
      | some a =>
        have h3 : (loadCells a bs.length).run P w = .ok ((bs.map (fun b => (b.toNat : Int))).map (Value.int .u8)).toArray w := by
          have h4 : (Builtin.firstCells 1 bs.length (.slice (some a) bs.length c)).run P w = (loadCells a (bs.length * 1)).run P w := rfl
          rw [Nat.mul_one] at h4
          rw [← h4, h1]
          unfold bytesV
          rw [List.map_map]
          rfl
        rw [run_bytesToString w a bs.length c _ h3, foldl_push_byteCells]
        have he0 : ByteArray.empty.data = #[] := rfl
        rw [he0]
        simp
    simp only [execOp, hf.eval hx, Sem.run_bind, h2, Result.andThen_ok, Sem.run_pure]) k
theorem H.index_arrT {t e : TypeId} {x y : Operand} {b off m sz : Nat} {ik : IntKind} {z : Int} [hu : Und P t (.array m e)] [hs : Siz P e sz] (hw : want? l L gd = true)
    (hx : ev? L x = some (.pointer (some ⟨b, off, none⟩))) (hy : ev? L y = some (.int ik z)) (hq : 0 ≤ z ∧ z.toNat < m) (hd : Nat.ble (d + 1) n = true)
    (k : H P base n ((d, .pointer (some ⟨b, off + z.toNat * sz, none⟩)) :: L) f A (.ops l rest q)) : H P base n L f A (.ops l (⟨some d, .indexAddr t x y, ty, pos, af, gd⟩ :: rest) q) :=
  H.index_array hw hx hy (by omega) hq.2 hd k
theorem HQ.index_arrT {t e : TypeId} {x y : Operand} {b off m sz : Nat} {ik : IntKind} {z : Int} [hu : Und P t (.array m e)] [hs : Siz P e sz] (hw : want? l L gd = true)
    (hx : ev? L x = some (.pointer (some ⟨b, off, none⟩))) (hy : ev? L y = some (.int ik z)) (hq : 0 ≤ z ∧ z.toNat < m) (hd : Nat.ble (d + 1) n = true) {lst : Lst} {ti : Nat} {tt : List (Nat × Bool)}
    (k : HQ V ⟨lst.setIfInBounds ti true, tt⟩ P base n ((d, .pointer (some ⟨b, off + z.toNat * sz, none⟩)) :: L) f A (.ops l rest q)) : HQ V ⟨lst, (ti, false) :: tt⟩ P base n L f A (.ops l (⟨some d, .indexAddr t x y, ty, pos, af, gd⟩ :: rest) q) :=
  HQ.index_array hw hx hy (by omega) hq.2 hd k
/-- The result lies in a cell of its own, which is let go (or others are). -/
theorem H.retD {fn : Func} {R : Value → Frag → List HP → Prop} {t : Nat} {ty : TypeId} {dd : TypeDesc} {m b off : Nat} {ls : List Value} {A' : List HP} [hu : Und P ty dd] [hs : Siz P ty m] (hr : fn.results = #[.cell t ty]) (hv : look? L t = some (.pointer (some ⟨b, off, none⟩))) (ha : aggD dd = true)
    (hrd : Rd f A b off ls) (hm : ls.length = m) (hA : ∀ w, Sat base w f A → Sat base w f A') (h : R (.agg ls.toArray) f A') : H P base n L f A (.out .ret (.fn (FnPost P fn base R))) := .mk fun a w hf s => by
  show bodyPost P fn (fun e w' => ∃ v f' A', e = .returned v ∧ R v f' A' ∧ Sat base w' f' A') .ret a w
  refine bodyPost_ret (v := .agg ls.toArray) ?_ hf.defers ⟨_, f, A', rfl, h, hA w s⟩
  have h1 := hf.get t _ hv
  have h2 : a.tmps.getD t undef = .pointer (some ⟨b, off, none⟩) := by simp [Array.getD_eq_getD_getElem?, h1]
  have h3 := run_loadAtN (P := P) hu ha hs (hrd base w s) hm
  unfold Instr.loadAt Instr.sureAddr at h3
  exact results_cell hr h2 (by simpa using h3)
theorem H.callVE {f' : Frag} {α : Type} {fid : FuncId} {x : Operand} {xs : List Operand} {fs vs cs : List Value} {ats : Array TypeId} {v : α → Value} {Ai : α → List HP} (hx : ev? L x = some (.func (.func fid) fs.toArray cs.toArray)) [hfun : Fun P fid] (hw : want? l L gd = true) (hd : Nat.ble (d + 1) n = true)
    (hxs : evs? L xs = some vs) (hc : Fn P fid (fs ++ vs ++ cs) f A (RetE v f' Ai)) (k : ∀ i, H P base n ((d, v i) :: L) f' (Ai i) (.ops l rest q)) :
    H P base n L f A (.ops l (⟨some d, .call ⟨.value x, xs.toArray, ats⟩, ty, pos, af, gd⟩ :: rest) q) :=
  H.callV hx hw hd hxs hc fun _ _ _ h => by obtain ⟨i, rfl, rfl, rfl⟩ := h; exact k i
theorem H.callVE2 {f' : Frag} {α β : Type} {fid : FuncId} {x : Operand} {xs : List Operand} {fs vs cs : List Value} {ats : Array TypeId} {v : α → β → Value} {Ai : α → β → List HP} (hx : ev? L x = some (.func (.func fid) fs.toArray cs.toArray)) [hfun : Fun P fid] (hw : want? l L gd = true) (hd : Nat.ble (d + 1) n = true)
    (hxs : evs? L xs = some vs) (hc : Fn P fid (fs ++ vs ++ cs) f A (fun u g B => ∃ i j, u = v i j ∧ g = f' ∧ B = Ai i j)) (k : ∀ i j, H P base n ((d, v i j) :: L) f' (Ai i j) (.ops l rest q)) :
    H P base n L f A (.ops l (⟨some d, .call ⟨.value x, xs.toArray, ats⟩, ty, pos, af, gd⟩ :: rest) q) :=
  H.callV hx hw hd hxs hc fun _ _ _ h => by obtain ⟨i, j, rfl, rfl, rfl⟩ := h; exact k i j
end rules
end Go.Proofs.YtcaofnfemogleaaGreatDoor

/- Layer 2: the document's SHA-256, one block. -/
namespace Go.Proofs.YtcaofnfemogleaaGreatDoor
set_option linter.unusedSectionVars false
set_option linter.unusedSimpArgs false
set_option linter.unusedVariables false
open Go
theorem fill_set {a b : List Value} {i : Nat} {v : Value} (ha : a[i]? = some v) (hab : a.length = b.length) : SetV (a.take i ++ b.drop i) i v (a.take (i + 1) ++ b.drop (i + 1)) := by
  induction i generalizing a b with
  | zero =>
    match a, b, ha, hab with
    | x :: a, y :: b, ha, _ =>
      simp at ha; subst ha
      exact .here _ _ _
  | succ i ih =>
    match a, b, ha, hab with
    | x :: a, y :: b, ha, hab => exact .there _ (ih (by simpa using ha) (by simpa using hab))
theorem fill_get {a b : List Value} {i j : Nat} {v : Value} (hj : j < i) (ha : a[j]? = some v) : (a.take i ++ b.drop i)[j]? = some v := by
  have : j < a.length := by
    rcases Nat.lt_or_ge j a.length with h | h
    · exact h
    · simp [List.getElem?_eq_none h] at ha
  rw [List.getElem?_append_left (by rw [List.length_take]; omega), List.getElem?_take, if_pos hj, ha]
theorem fill_get2 {a b : List Value} {i j : Nat} {v : Value} (hj : i ≤ j) (hab : a.length = b.length) (hb : b[j]? = some v) : (a.take i ++ b.drop i)[j]? = some v := by
  have : j < b.length := by
    rcases Nat.lt_or_ge j b.length with h | h
    · exact h
    · simp [List.getElem?_eq_none h] at hb
  have e : (a.take i).length = i := by rw [List.length_take]; omega
  rw [List.getElem?_append_right (by omega), e, List.getElem?_drop, show i + (j - i) = j by omega, hb]
theorem map_get {α : Type} {l : List α} (g : α → Value) {i : Nat} (h : i < l.length) (z : α) : (l.map g)[i]? = some (g (l.getD i z)) := by
  rw [List.getElem?_map, List.getElem?_eq_getElem h]
  simp [List.getD_eq_getElem?_getD, List.getElem?_eq_getElem h]
namespace Sha
theorem words_len (b : List UInt8) : ∀ n, (words b n).length = n
  | 0 => rfl
  | n + 1 => by simp [words, words_len b n]
theorem words_get (b : List UInt8) : ∀ (n i : Nat), i < n → (words b n).getD i 0 = word b i
  | 0, i, h => by omega
  | n + 1, i, h => by
    simp only [words, List.getD_eq_getElem?_getD]
    by_cases e : i < n
    · rw [List.getElem?_append_left (by rw [words_len]; exact e), ← List.getD_eq_getElem?_getD]
      exact words_get b n i e
    · have : i = n := by omega
      subst this
      rw [List.getElem?_append_right (by rw [words_len]; exact Nat.le_refl _), words_len]
      simp
theorem ext_len (w : List UInt32) : ∀ n, (ext w n).length = w.length + n
  | 0 => rfl
  | n + 1 => by simp [ext, ext_len w n]; omega
theorem ext_get (w : List UInt32) (n : Nat) {i : Nat} (h : i < w.length + n) : ∀ k, (ext w (n + k)).getD i 0 = (ext w n).getD i 0
  | 0 => rfl
  | k + 1 => by
    show (ext w (n + k) ++ _).getD i 0 = _
    rw [List.getD_eq_getElem?_getD, List.getElem?_append_left (by rw [ext_len]; omega), ← List.getD_eq_getElem?_getD]
    exact ext_get w n h k
theorem sched_len (b : List UInt8) : (sched b).length = 64 := by unfold sched; rw [ext_len, words_len]
theorem sched_lo (b : List UInt8) {i : Nat} (h : i < 16) : (sched b).getD i 0 = word b i := by
  unfold sched
  have := ext_get (words b 16) 0 (i := i) (by rw [words_len]; omega) 48
  rw [Nat.zero_add] at this
  rw [this]
  exact words_get b 16 i h
theorem sched_hi (b : List UInt8) {j : Nat} (h : j < 48) : (sched b).getD (j + 16) 0 = (sched b).getD j 0 + s0 ((sched b).getD (j + 1) 0) + (sched b).getD (j + 9) 0 + s1 ((sched b).getD (j + 14) 0) := by
  have pre : ∀ i, i < 16 + j → (sched b).getD i 0 = (ext (words b 16) j).getD i 0 := fun i hi => by
    unfold sched
    have := ext_get (words b 16) j (i := i) (by rw [words_len]; omega) (48 - j)
    rw [show j + (48 - j) = 48 by omega] at this
    exact this
  have top : (sched b).getD (j + 16) 0 = next (ext (words b 16) j) := by
    unfold sched
    have := ext_get (words b 16) (j + 1) (i := j + 16) (by rw [words_len]; omega) (48 - (j + 1))
    rw [show j + 1 + (48 - (j + 1)) = 48 by omega] at this
    rw [this]
    show (ext (words b 16) j ++ [next (ext (words b 16) j)]).getD (j + 16) 0 = _
    rw [List.getD_eq_getElem?_getD, List.getElem?_append_right (by rw [ext_len, words_len]; omega), ext_len, words_len, show j + 16 - (16 + j) = 0 by omega]
    rfl
  rw [top, pre j (by omega), pre (j + 1) (by omega), pre (j + 9) (by omega), pre (j + 14) (by omega)]
  unfold next
  rw [ext_len, words_len, show 16 + j - 16 = j by omega, show 16 + j - 15 = j + 1 by omega, show 16 + j - 7 = j + 9 by omega, show 16 + j - 2 = j + 14 by omega]
theorem S8.get_vals (s : S8) {i : Nat} (h : i < 8) : s.vals[i]? = some (w32 (s.get i)) := by
  match i, h with
  | 0, _ => rfl
  | 1, _ => rfl
  | 2, _ => rfl
  | 3, _ => rfl
  | 4, _ => rfl
  | 5, _ => rfl
  | 6, _ => rfl
  | 7, _ => rfl
theorem S8.add_get (v s : S8) {i : Nat} (h : i < 8) : (v.add s).get i = v.get i + s.get i := by
  match i, h with
  | 0, _ => rfl
  | 1, _ => rfl
  | 2, _ => rfl
  | 3, _ => rfl
  | 4, _ => rfl
  | 5, _ => rfl
  | 6, _ => rfl
  | 7, _ => rfl
end Sha
theorem bytesV_get {l : List UInt8} {i : Nat} (h : i < l.length) : (bytesV l)[i]? = some (.int .u8 ((l.getD i 0).toNat : Nat)) := map_get _ h 0
section
variable (f : Frag) (F : List HP)
theorem rot_fn {x : UInt32} {n : Nat} (h0 : 0 < n) (hn : n < 32) : Fn Tryz.prog 107 [w32 x, .int .u64 (n : Nat)] f F (Ret (w32 (Sha.rot x n)) f F) := by
  have e : IntKind.u64.wrap (32 - (n : Int)) = ((32 - n : Nat) : Int) := by rw [wr_u64 (by omega)]; omega
  refine Fn.enter Tryz.func107 rfl Tryz.ntmps107 rfl (L := [(0, _), (1, _)]) ⟨rfl, rfl, trivial⟩ fun base => ?_
  repeat (first | (apply H.ar; (iterate 4 exact rfl); exact e; exact rfl) | ((first | apply H.move | apply H.assign); (iterate 3 exact rfl)) | (first | apply H.seq | apply H.region | apply H.nil | apply H.then_normal) | (apply H.ret) | (apply H.shift; (iterate 3 exact rfl); (first | exact u32_shl _ _ (by omega) | exact u32_shr _ _ (by omega)); omega; (iterate 2 exact rfl)) | (apply H.bits; (iterate 3 exact rfl); exact u32_or _ _; (iterate 2 exact rfl)))
  exact H.ret1 rfl rfl (fun _ h => h) ⟨rfl, rfl, rfl⟩
theorem k_fn2 : Fn Tryz.prog 108 [] f F (Ret (.agg (Sha.k.map w32).toArray) f F) := by
  refine Fn.enter Tryz.func108 rfl Tryz.ntmps108 rfl (L := []) trivial fun base => ?_
  repeat ((first | apply H.seq | apply H.region))
  refine H.alloc (ls := List.replicate 64 (.int .u32 0)) rfl rfl rfl fun kb => ?_
  repeat ((first | apply H.seq | apply H.region | apply H.nil | apply H.then_normal))
  refine H.buildA (out := Sha.k.map w32) rfl rfl rfl rfl rfl ?_
  refine H.storeN (ls := List.replicate 64 (.int .u32 0)) (vs := Sha.k.map w32) (ls' := Sha.k.map w32) rfl rfl rfl (allOne_mem rfl) rfl rfl (Nat.le_refl 64) (by repeat (first | exact .here _ _ _ | apply At.there)) ?_
  repeat (first | (first | apply H.nil | apply H.then_normal) | (apply H.ret))
  exact H.retD rfl rfl rfl (Rd.ofRow (by repeat (first | exact .here _ _ _ | apply At.there))) rfl (fun _ s => s.drop (.here _ _)) ⟨rfl, rfl, rfl⟩
theorem start_fn : Fn Tryz.prog 97 [] f F (Ret (.agg Sha.start.vals.toArray) f F) := by
  refine Fn.enter Tryz.func97 rfl Tryz.ntmps97 rfl (L := []) trivial fun base => ?_
  repeat ((first | apply H.seq | apply H.region))
  refine H.alloc (ls := List.replicate 8 (.int .u32 0)) rfl rfl rfl fun kb => ?_
  repeat ((first | apply H.seq | apply H.region | apply H.nil | apply H.then_normal))
  refine H.buildA (out := Sha.start.vals) rfl rfl rfl rfl rfl ?_
  refine H.storeN (ls := List.replicate 8 (.int .u32 0)) (vs := Sha.start.vals) (ls' := Sha.start.vals) rfl rfl rfl (allOne_mem rfl) rfl rfl (Nat.le_refl 8) (by repeat (first | exact .here _ _ _ | apply At.there)) ?_
  repeat (first | (first | apply H.nil | apply H.then_normal) | (apply H.ret))
  exact H.retD rfl rfl rfl (Rd.ofRow (by repeat (first | exact .here _ _ _ | apply At.there))) rfl (fun _ s => s.drop (.here _ _)) ⟨rfl, rfl, rfl⟩
end
end Go.Proofs.YtcaofnfemogleaaGreatDoor
