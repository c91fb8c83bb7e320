/- Facts on the types and the functions of this translation, as instances: printed by a program (types.py). -/
import Derived.Test.YtfplfddobjbbnaaEg
import Derived.Test.YtfplfddobjbbnaaProg
namespace Go.Proofs.Ytfplfddobjbbnaa
open Go
instance : Und Try.prog 0 (Go.TypeDesc.tuple #[]) := ⟨Try.underlying0⟩
instance : Und Try.prog 1 (Go.TypeDesc.func #[] #[] false) := ⟨Try.underlying1⟩
instance : Siz Try.prog 1 1 := ⟨by kernel_rfl⟩
instance : Byt Try.prog 1 8 := ⟨by kernel_rfl⟩
instance : Zer Try.prog 1 (.nilFunc) := ⟨by kernel_rfl⟩
instance : Und Try.prog 2 (Go.TypeDesc.int Go.IntKind.i64) := ⟨Try.underlying2⟩
instance : Siz Try.prog 2 1 := ⟨by kernel_rfl⟩
instance : Byt Try.prog 2 8 := ⟨by kernel_rfl⟩
instance : Zer Try.prog 2 (.int .i64 0) := ⟨by kernel_rfl⟩
instance : Und Try.prog 3 (Go.TypeDesc.int Go.IntKind.i64) := ⟨Try.underlying3⟩
instance : Siz Try.prog 3 1 := ⟨by kernel_rfl⟩
instance : Byt Try.prog 3 8 := ⟨by kernel_rfl⟩
instance : Zer Try.prog 3 (.int .i64 0) := ⟨by kernel_rfl⟩
instance : Und Try.prog 4 (Go.TypeDesc.bool) := ⟨Try.underlying4⟩
instance : Siz Try.prog 4 1 := ⟨by kernel_rfl⟩
instance : Byt Try.prog 4 1 := ⟨by kernel_rfl⟩
instance : Zer Try.prog 4 (.bool false) := ⟨by kernel_rfl⟩
instance : Und Try.prog 5 (Go.TypeDesc.int Go.IntKind.u8) := ⟨Try.underlying5⟩
instance : Siz Try.prog 5 1 := ⟨by kernel_rfl⟩
instance : Byt Try.prog 5 1 := ⟨by kernel_rfl⟩
instance : Zer Try.prog 5 (.int .u8 0) := ⟨by kernel_rfl⟩
instance : Und Try.prog 6 (Go.TypeDesc.int Go.IntKind.u8) := ⟨Try.underlying6⟩
instance : Siz Try.prog 6 1 := ⟨by kernel_rfl⟩
instance : Byt Try.prog 6 1 := ⟨by kernel_rfl⟩
instance : Zer Try.prog 6 (.int .u8 0) := ⟨by kernel_rfl⟩
instance : Und Try.prog 7 (Go.TypeDesc.struct #[{ name := "x", type := 2, offset := 0, embedded := false, tag := "", pkgPath := "runtime", byteOffset := 0 }, { name := "y", type := 3, offset := 1, embedded := false, tag := "", pkgPath := "runtime", byteOffset := 8 }, { name := "signed", type := 4, offset := 2, embedded := false, tag := "", pkgPath := "runtime", byteOffset := 16 }, { name := "code", type := 6, offset := 3, embedded := false, tag := "", pkgPath := "runtime", byteOffset := 17 }]) := ⟨Try.underlying7⟩
instance : Siz Try.prog 7 4 := ⟨by kernel_rfl⟩
instance : Byt Try.prog 7 24 := ⟨by kernel_rfl⟩
instance : Plc Try.prog 7 [(0, 1), (1, 1), (2, 1), (3, 1)] := ⟨fun fs w h => by rw [Try.underlying7] at h; cases h; kernel_rfl⟩
instance : Zer Try.prog 7 (.agg ([.int .i64 0, .int .i64 0, .bool false, .int .u8 0]).toArray) := ⟨by kernel_rfl⟩
instance : Und Try.prog 8 (Go.TypeDesc.struct #[{ name := "x", type := 2, offset := 0, embedded := false, tag := "", pkgPath := "runtime", byteOffset := 0 }, { name := "y", type := 3, offset := 1, embedded := false, tag := "", pkgPath := "runtime", byteOffset := 8 }, { name := "signed", type := 4, offset := 2, embedded := false, tag := "", pkgPath := "runtime", byteOffset := 16 }, { name := "code", type := 6, offset := 3, embedded := false, tag := "", pkgPath := "runtime", byteOffset := 17 }]) := ⟨Try.underlying8⟩
instance : Siz Try.prog 8 4 := ⟨by kernel_rfl⟩
instance : Byt Try.prog 8 24 := ⟨by kernel_rfl⟩
instance : Plc Try.prog 8 [(0, 1), (1, 1), (2, 1), (3, 1)] := ⟨fun fs w h => by rw [Try.underlying8] at h; cases h; kernel_rfl⟩
instance : Zer Try.prog 8 (.agg ([.int .i64 0, .int .i64 0, .bool false, .int .u8 0]).toArray) := ⟨by kernel_rfl⟩
instance : Und Try.prog 9 (Go.TypeDesc.string) := ⟨Try.underlying9⟩
instance : Siz Try.prog 9 1 := ⟨by kernel_rfl⟩
instance : Byt Try.prog 9 16 := ⟨by kernel_rfl⟩
instance : Zer Try.prog 9 (.string ByteArray.empty) := ⟨by kernel_rfl⟩
instance : Und Try.prog 10 (Go.TypeDesc.string) := ⟨Try.underlying10⟩
instance : Siz Try.prog 10 1 := ⟨by kernel_rfl⟩
instance : Byt Try.prog 10 16 := ⟨by kernel_rfl⟩
instance : Zer Try.prog 10 (.string ByteArray.empty) := ⟨by kernel_rfl⟩
instance : Und Try.prog 11 (Go.TypeDesc.string) := ⟨Try.underlying11⟩
instance : Siz Try.prog 11 1 := ⟨by kernel_rfl⟩
instance : Byt Try.prog 11 16 := ⟨by kernel_rfl⟩
instance : Zer Try.prog 11 (.string ByteArray.empty) := ⟨by kernel_rfl⟩
instance : Und Try.prog 12 (Go.TypeDesc.int Go.IntKind.u64) := ⟨Try.underlying12⟩
instance : Siz Try.prog 12 1 := ⟨by kernel_rfl⟩
instance : Byt Try.prog 12 8 := ⟨by kernel_rfl⟩
instance : Zer Try.prog 12 (.int .u64 0) := ⟨by kernel_rfl⟩
instance : Und Try.prog 13 (Go.TypeDesc.struct #[{ name := "msg", type := 9, offset := 0, embedded := false, tag := "", pkgPath := "runtime", byteOffset := 0 }, { name := "addr", type := 12, offset := 1, embedded := false, tag := "", pkgPath := "runtime", byteOffset := 16 }]) := ⟨Try.underlying13⟩
instance : Siz Try.prog 13 2 := ⟨by kernel_rfl⟩
instance : Byt Try.prog 13 24 := ⟨by kernel_rfl⟩
instance : Plc Try.prog 13 [(0, 1), (1, 1)] := ⟨fun fs w h => by rw [Try.underlying13] at h; cases h; kernel_rfl⟩
instance : Zer Try.prog 13 (.agg ([.string ByteArray.empty, .int .u64 0]).toArray) := ⟨by kernel_rfl⟩
instance : Und Try.prog 14 (Go.TypeDesc.struct #[{ name := "msg", type := 9, offset := 0, embedded := false, tag := "", pkgPath := "runtime", byteOffset := 0 }, { name := "addr", type := 12, offset := 1, embedded := false, tag := "", pkgPath := "runtime", byteOffset := 16 }]) := ⟨Try.underlying14⟩
instance : Siz Try.prog 14 2 := ⟨by kernel_rfl⟩
instance : Byt Try.prog 14 24 := ⟨by kernel_rfl⟩
instance : Plc Try.prog 14 [(0, 1), (1, 1)] := ⟨fun fs w h => by rw [Try.underlying14] at h; cases h; kernel_rfl⟩
instance : Zer Try.prog 14 (.agg ([.string ByteArray.empty, .int .u64 0]).toArray) := ⟨by kernel_rfl⟩
instance : Und Try.prog 15 (Go.TypeDesc.pointer 56) := ⟨Try.underlying15⟩
instance : Siz Try.prog 15 1 := ⟨by kernel_rfl⟩
instance : Byt Try.prog 15 8 := ⟨by kernel_rfl⟩
instance : Zer Try.prog 15 (.pointer none) := ⟨by kernel_rfl⟩
instance : Und Try.prog 16 (Go.TypeDesc.pointer 59) := ⟨Try.underlying16⟩
instance : Siz Try.prog 16 1 := ⟨by kernel_rfl⟩
instance : Byt Try.prog 16 8 := ⟨by kernel_rfl⟩
instance : Zer Try.prog 16 (.pointer none) := ⟨by kernel_rfl⟩
instance : Und Try.prog 17 (Go.TypeDesc.pointer 69) := ⟨Try.underlying17⟩
instance : Siz Try.prog 17 1 := ⟨by kernel_rfl⟩
instance : Byt Try.prog 17 8 := ⟨by kernel_rfl⟩
instance : Zer Try.prog 17 (.pointer none) := ⟨by kernel_rfl⟩
instance : Und Try.prog 18 (Go.TypeDesc.struct #[{ name := "typ", type := 17, offset := 0, embedded := false, tag := "", pkgPath := "internal/runtime/maps", byteOffset := 0 }]) := ⟨Try.underlying18⟩
instance : Siz Try.prog 18 1 := ⟨by kernel_rfl⟩
instance : Byt Try.prog 18 8 := ⟨by kernel_rfl⟩
instance : Plc Try.prog 18 [(0, 1)] := ⟨fun fs w h => by rw [Try.underlying18] at h; cases h; kernel_rfl⟩
instance : Zer Try.prog 18 (.agg #[.pointer none]) := ⟨by kernel_rfl⟩
instance : Und Try.prog 19 (Go.TypeDesc.struct #[{ name := "typ", type := 17, offset := 0, embedded := false, tag := "", pkgPath := "internal/runtime/maps", byteOffset := 0 }]) := ⟨Try.underlying19⟩
instance : Siz Try.prog 19 1 := ⟨by kernel_rfl⟩
instance : Byt Try.prog 19 8 := ⟨by kernel_rfl⟩
instance : Plc Try.prog 19 [(0, 1)] := ⟨fun fs w h => by rw [Try.underlying19] at h; cases h; kernel_rfl⟩
instance : Zer Try.prog 19 (.agg #[.pointer none]) := ⟨by kernel_rfl⟩
instance : Und Try.prog 20 (Go.TypeDesc.interface #[]) := ⟨Try.underlying20⟩
instance : Siz Try.prog 20 1 := ⟨by kernel_rfl⟩
instance : Byt Try.prog 20 16 := ⟨by kernel_rfl⟩
instance : Zer Try.prog 20 (.nilIface) := ⟨by kernel_rfl⟩
instance : Und Try.prog 21 (Go.TypeDesc.int Go.IntKind.i32) := ⟨Try.underlying21⟩
instance : Siz Try.prog 21 1 := ⟨by kernel_rfl⟩
instance : Byt Try.prog 21 4 := ⟨by kernel_rfl⟩
instance : Zer Try.prog 21 (.int .i32 0) := ⟨by kernel_rfl⟩
instance : Und Try.prog 22 (Go.TypeDesc.slice 30) := ⟨Try.underlying22⟩
instance : Siz Try.prog 22 1 := ⟨by kernel_rfl⟩
instance : Byt Try.prog 22 24 := ⟨by kernel_rfl⟩
instance : Zer Try.prog 22 (.slice none 0 0) := ⟨by kernel_rfl⟩
instance : Und Try.prog 23 (Go.TypeDesc.int Go.IntKind.u64) := ⟨Try.underlying23⟩
instance : Siz Try.prog 23 1 := ⟨by kernel_rfl⟩
instance : Byt Try.prog 23 8 := ⟨by kernel_rfl⟩
instance : Zer Try.prog 23 (.int .u64 0) := ⟨by kernel_rfl⟩
instance : Und Try.prog 24 (Go.TypeDesc.func #[] #[4] false) := ⟨Try.underlying24⟩
instance : Siz Try.prog 24 1 := ⟨by kernel_rfl⟩
instance : Byt Try.prog 24 8 := ⟨by kernel_rfl⟩
instance : Zer Try.prog 24 (.nilFunc) := ⟨by kernel_rfl⟩
instance : Und Try.prog 25 (Go.TypeDesc.pointer 52) := ⟨Try.underlying25⟩
instance : Siz Try.prog 25 1 := ⟨by kernel_rfl⟩
instance : Byt Try.prog 25 8 := ⟨by kernel_rfl⟩
instance : Zer Try.prog 25 (.pointer none) := ⟨by kernel_rfl⟩
instance : Und Try.prog 26 (Go.TypeDesc.func #[] #[25] false) := ⟨Try.underlying26⟩
instance : Siz Try.prog 26 1 := ⟨by kernel_rfl⟩
instance : Byt Try.prog 26 8 := ⟨by kernel_rfl⟩
instance : Zer Try.prog 26 (.nilFunc) := ⟨by kernel_rfl⟩
instance : Und Try.prog 27 (Go.TypeDesc.pointer 36) := ⟨Try.underlying27⟩
instance : Siz Try.prog 27 1 := ⟨by kernel_rfl⟩
instance : Byt Try.prog 27 8 := ⟨by kernel_rfl⟩
instance : Zer Try.prog 27 (.pointer none) := ⟨by kernel_rfl⟩
instance : Und Try.prog 28 (Go.TypeDesc.func #[] #[27] false) := ⟨Try.underlying28⟩
instance : Siz Try.prog 28 1 := ⟨by kernel_rfl⟩
instance : Byt Try.prog 28 8 := ⟨by kernel_rfl⟩
instance : Zer Try.prog 28 (.nilFunc) := ⟨by kernel_rfl⟩
instance : Und Try.prog 29 (Go.TypeDesc.struct #[{ name := "Do", type := 5, offset := 0, embedded := false, tag := "", pkgPath := "", byteOffset := 0 }, { name := "V", type := 23, offset := 1, embedded := false, tag := "", pkgPath := "", byteOffset := 8 }, { name := "K", type := 23, offset := 2, embedded := false, tag := "", pkgPath := "", byteOffset := 16 }, { name := "Long", type := 3, offset := 3, embedded := false, tag := "", pkgPath := "", byteOffset := 24 }]) := ⟨Try.underlying29⟩
instance : Siz Try.prog 29 4 := ⟨by kernel_rfl⟩
instance : Byt Try.prog 29 32 := ⟨by kernel_rfl⟩
instance : Plc Try.prog 29 [(0, 1), (1, 1), (2, 1), (3, 1)] := ⟨fun fs w h => by rw [Try.underlying29] at h; cases h; kernel_rfl⟩
instance : Zer Try.prog 29 (.agg ([.int .u8 0, .int .u64 0, .int .u64 0, .int .i64 0]).toArray) := ⟨by kernel_rfl⟩
instance : Und Try.prog 30 (Go.TypeDesc.struct #[{ name := "Do", type := 5, offset := 0, embedded := false, tag := "", pkgPath := "", byteOffset := 0 }, { name := "V", type := 23, offset := 1, embedded := false, tag := "", pkgPath := "", byteOffset := 8 }, { name := "K", type := 23, offset := 2, embedded := false, tag := "", pkgPath := "", byteOffset := 16 }, { name := "Long", type := 3, offset := 3, embedded := false, tag := "", pkgPath := "", byteOffset := 24 }]) := ⟨Try.underlying30⟩
instance : Siz Try.prog 30 4 := ⟨by kernel_rfl⟩
instance : Byt Try.prog 30 32 := ⟨by kernel_rfl⟩
instance : Plc Try.prog 30 [(0, 1), (1, 1), (2, 1), (3, 1)] := ⟨fun fs w h => by rw [Try.underlying30] at h; cases h; kernel_rfl⟩
instance : Zer Try.prog 30 (.agg ([.int .u8 0, .int .u64 0, .int .u64 0, .int .i64 0]).toArray) := ⟨by kernel_rfl⟩
instance : Und Try.prog 31 (Go.TypeDesc.func #[25, 30] #[4] false) := ⟨Try.underlying31⟩
instance : Siz Try.prog 31 1 := ⟨by kernel_rfl⟩
instance : Byt Try.prog 31 8 := ⟨by kernel_rfl⟩
instance : Zer Try.prog 31 (.nilFunc) := ⟨by kernel_rfl⟩
instance : Und Try.prog 32 (Go.TypeDesc.func #[27, 30] #[4] false) := ⟨Try.underlying32⟩
instance : Siz Try.prog 32 1 := ⟨by kernel_rfl⟩
instance : Byt Try.prog 32 8 := ⟨by kernel_rfl⟩
instance : Zer Try.prog 32 (.nilFunc) := ⟨by kernel_rfl⟩
instance : Und Try.prog 33 (Go.TypeDesc.func #[] #[23] false) := ⟨Try.underlying33⟩
instance : Siz Try.prog 33 1 := ⟨by kernel_rfl⟩
instance : Byt Try.prog 33 8 := ⟨by kernel_rfl⟩
instance : Zer Try.prog 33 (.nilFunc) := ⟨by kernel_rfl⟩
instance : Und Try.prog 34 (Go.TypeDesc.slice 42) := ⟨Try.underlying34⟩
instance : Siz Try.prog 34 1 := ⟨by kernel_rfl⟩
instance : Byt Try.prog 34 24 := ⟨by kernel_rfl⟩
instance : Zer Try.prog 34 (.slice none 0 0) := ⟨by kernel_rfl⟩
instance : Und Try.prog 35 (Go.TypeDesc.struct #[{ name := "Great", type := 23, offset := 0, embedded := false, tag := "", pkgPath := "", byteOffset := 0 }, { name := "L", type := 34, offset := 1, embedded := false, tag := "", pkgPath := "", byteOffset := 8 }]) := ⟨Try.underlying35⟩
instance : Siz Try.prog 35 2 := ⟨by kernel_rfl⟩
instance : Byt Try.prog 35 32 := ⟨by kernel_rfl⟩
instance : Plc Try.prog 35 [(0, 1), (1, 1)] := ⟨fun fs w h => by rw [Try.underlying35] at h; cases h; kernel_rfl⟩
instance : Zer Try.prog 35 (.agg ([.int .u64 0, .slice none 0 0]).toArray) := ⟨by kernel_rfl⟩
instance : Und Try.prog 36 (Go.TypeDesc.struct #[{ name := "Great", type := 23, offset := 0, embedded := false, tag := "", pkgPath := "", byteOffset := 0 }, { name := "L", type := 34, offset := 1, embedded := false, tag := "", pkgPath := "", byteOffset := 8 }]) := ⟨Try.underlying36⟩
instance : Siz Try.prog 36 2 := ⟨by kernel_rfl⟩
instance : Byt Try.prog 36 32 := ⟨by kernel_rfl⟩
instance : Plc Try.prog 36 [(0, 1), (1, 1)] := ⟨fun fs w h => by rw [Try.underlying36] at h; cases h; kernel_rfl⟩
instance : Zer Try.prog 36 (.agg ([.int .u64 0, .slice none 0 0]).toArray) := ⟨by kernel_rfl⟩
instance : Und Try.prog 37 (Go.TypeDesc.tuple #[3, 4]) := ⟨Try.underlying37⟩
instance : Und Try.prog 38 (Go.TypeDesc.func #[23] #[3, 4] false) := ⟨Try.underlying38⟩
instance : Siz Try.prog 38 1 := ⟨by kernel_rfl⟩
instance : Byt Try.prog 38 8 := ⟨by kernel_rfl⟩
instance : Zer Try.prog 38 (.nilFunc) := ⟨by kernel_rfl⟩
instance : Und Try.prog 39 (Go.TypeDesc.slice 23) := ⟨Try.underlying39⟩
instance : Siz Try.prog 39 1 := ⟨by kernel_rfl⟩
instance : Byt Try.prog 39 24 := ⟨by kernel_rfl⟩
instance : Zer Try.prog 39 (.slice none 0 0) := ⟨by kernel_rfl⟩
instance : Und Try.prog 40 (Go.TypeDesc.func #[] #[39] false) := ⟨Try.underlying40⟩
instance : Siz Try.prog 40 1 := ⟨by kernel_rfl⟩
instance : Byt Try.prog 40 8 := ⟨by kernel_rfl⟩
instance : Zer Try.prog 40 (.nilFunc) := ⟨by kernel_rfl⟩
instance : Und Try.prog 41 (Go.TypeDesc.struct #[{ name := "View", type := 23, offset := 0, embedded := false, tag := "", pkgPath := "", byteOffset := 0 }, { name := "Long", type := 3, offset := 1, embedded := false, tag := "", pkgPath := "", byteOffset := 8 }]) := ⟨Try.underlying41⟩
instance : Siz Try.prog 41 2 := ⟨by kernel_rfl⟩
instance : Byt Try.prog 41 16 := ⟨by kernel_rfl⟩
instance : Plc Try.prog 41 [(0, 1), (1, 1)] := ⟨fun fs w h => by rw [Try.underlying41] at h; cases h; kernel_rfl⟩
instance : Zer Try.prog 41 (.agg ([.int .u64 0, .int .i64 0]).toArray) := ⟨by kernel_rfl⟩
instance : Und Try.prog 42 (Go.TypeDesc.struct #[{ name := "View", type := 23, offset := 0, embedded := false, tag := "", pkgPath := "", byteOffset := 0 }, { name := "Long", type := 3, offset := 1, embedded := false, tag := "", pkgPath := "", byteOffset := 8 }]) := ⟨Try.underlying42⟩
instance : Siz Try.prog 42 2 := ⟨by kernel_rfl⟩
instance : Byt Try.prog 42 16 := ⟨by kernel_rfl⟩
instance : Plc Try.prog 42 [(0, 1), (1, 1)] := ⟨fun fs w h => by rw [Try.underlying42] at h; cases h; kernel_rfl⟩
instance : Zer Try.prog 42 (.agg ([.int .u64 0, .int .i64 0]).toArray) := ⟨by kernel_rfl⟩
instance : Und Try.prog 43 (Go.TypeDesc.func #[22, 23] #[4] false) := ⟨Try.underlying43⟩
instance : Siz Try.prog 43 1 := ⟨by kernel_rfl⟩
instance : Byt Try.prog 43 8 := ⟨by kernel_rfl⟩
instance : Zer Try.prog 43 (.nilFunc) := ⟨by kernel_rfl⟩
instance : Und Try.prog 44 (Go.TypeDesc.slice 3) := ⟨Try.underlying44⟩
instance : Siz Try.prog 44 1 := ⟨by kernel_rfl⟩
instance : Byt Try.prog 44 24 := ⟨by kernel_rfl⟩
instance : Zer Try.prog 44 (.slice none 0 0) := ⟨by kernel_rfl⟩
instance : Und Try.prog 45 (Go.TypeDesc.func #[22] #[4] false) := ⟨Try.underlying45⟩
instance : Siz Try.prog 45 1 := ⟨by kernel_rfl⟩
instance : Byt Try.prog 45 8 := ⟨by kernel_rfl⟩
instance : Zer Try.prog 45 (.nilFunc) := ⟨by kernel_rfl⟩
instance : Und Try.prog 46 (Go.TypeDesc.func #[30] #[4] false) := ⟨Try.underlying46⟩
instance : Siz Try.prog 46 1 := ⟨by kernel_rfl⟩
instance : Byt Try.prog 46 8 := ⟨by kernel_rfl⟩
instance : Zer Try.prog 46 (.nilFunc) := ⟨by kernel_rfl⟩
instance : Und Try.prog 47 (Go.TypeDesc.func #[23, 23, 3] #[4] false) := ⟨Try.underlying47⟩
instance : Siz Try.prog 47 1 := ⟨by kernel_rfl⟩
instance : Byt Try.prog 47 8 := ⟨by kernel_rfl⟩
instance : Zer Try.prog 47 (.nilFunc) := ⟨by kernel_rfl⟩
instance : Und Try.prog 48 (Go.TypeDesc.func #[23] #[4] false) := ⟨Try.underlying48⟩
instance : Siz Try.prog 48 1 := ⟨by kernel_rfl⟩
instance : Byt Try.prog 48 8 := ⟨by kernel_rfl⟩
instance : Zer Try.prog 48 (.nilFunc) := ⟨by kernel_rfl⟩
instance : Und Try.prog 49 (Go.TypeDesc.func #[23, 3] #[4] false) := ⟨Try.underlying49⟩
instance : Siz Try.prog 49 1 := ⟨by kernel_rfl⟩
instance : Byt Try.prog 49 8 := ⟨by kernel_rfl⟩
instance : Zer Try.prog 49 (.nilFunc) := ⟨by kernel_rfl⟩
instance : Und Try.prog 50 (Go.TypeDesc.map 23 3) := ⟨Try.underlying50⟩
instance : Siz Try.prog 50 1 := ⟨by kernel_rfl⟩
instance : Byt Try.prog 50 8 := ⟨by kernel_rfl⟩
instance : Zer Try.prog 50 (.map none) := ⟨by kernel_rfl⟩
instance : Und Try.prog 51 (Go.TypeDesc.struct #[{ name := "great", type := 23, offset := 0, embedded := false, tag := "", pkgPath := "ratchet/past", byteOffset := 0 }, { name := "entered", type := 39, offset := 1, embedded := false, tag := "", pkgPath := "ratchet/past", byteOffset := 8 }, { name := "voted", type := 50, offset := 2, embedded := false, tag := "", pkgPath := "ratchet/past", byteOffset := 32 }]) := ⟨Try.underlying51⟩
instance : Siz Try.prog 51 3 := ⟨by kernel_rfl⟩
instance : Byt Try.prog 51 40 := ⟨by kernel_rfl⟩
instance : Plc Try.prog 51 [(0, 1), (1, 1), (2, 1)] := ⟨fun fs w h => by rw [Try.underlying51] at h; cases h; kernel_rfl⟩
instance : Zer Try.prog 51 (.agg ([.int .u64 0, .slice none 0 0, .map none]).toArray) := ⟨by kernel_rfl⟩
instance : Und Try.prog 52 (Go.TypeDesc.struct #[{ name := "great", type := 23, offset := 0, embedded := false, tag := "", pkgPath := "ratchet/past", byteOffset := 0 }, { name := "entered", type := 39, offset := 1, embedded := false, tag := "", pkgPath := "ratchet/past", byteOffset := 8 }, { name := "voted", type := 50, offset := 2, embedded := false, tag := "", pkgPath := "ratchet/past", byteOffset := 32 }]) := ⟨Try.underlying52⟩
instance : Siz Try.prog 52 3 := ⟨by kernel_rfl⟩
instance : Byt Try.prog 52 40 := ⟨by kernel_rfl⟩
instance : Plc Try.prog 52 [(0, 1), (1, 1), (2, 1)] := ⟨fun fs w h => by rw [Try.underlying52] at h; cases h; kernel_rfl⟩
instance : Zer Try.prog 52 (.agg ([.int .u64 0, .slice none 0 0, .map none]).toArray) := ⟨by kernel_rfl⟩
instance : Und Try.prog 53 (Go.TypeDesc.func #[39] #[39] false) := ⟨Try.underlying53⟩
instance : Siz Try.prog 53 1 := ⟨by kernel_rfl⟩
instance : Byt Try.prog 53 8 := ⟨by kernel_rfl⟩
instance : Zer Try.prog 53 (.nilFunc) := ⟨by kernel_rfl⟩
instance : Und Try.prog 54 (Go.TypeDesc.func #[] #[9] false) := ⟨Try.underlying54⟩
instance : Siz Try.prog 54 1 := ⟨by kernel_rfl⟩
instance : Byt Try.prog 54 8 := ⟨by kernel_rfl⟩
instance : Zer Try.prog 54 (.nilFunc) := ⟨by kernel_rfl⟩
instance : Und Try.prog 55 (Go.TypeDesc.struct #[{ name := "_interface", type := 17, offset := 0, embedded := false, tag := "", pkgPath := "runtime", byteOffset := 0 }, { name := "concrete", type := 17, offset := 1, embedded := false, tag := "", pkgPath := "runtime", byteOffset := 8 }, { name := "asserted", type := 17, offset := 2, embedded := false, tag := "", pkgPath := "runtime", byteOffset := 16 }, { name := "missingMethod", type := 9, offset := 3, embedded := false, tag := "", pkgPath := "runtime", byteOffset := 24 }]) := ⟨Try.underlying55⟩
instance : Siz Try.prog 55 4 := ⟨by kernel_rfl⟩
instance : Byt Try.prog 55 40 := ⟨by kernel_rfl⟩
instance : Plc Try.prog 55 [(0, 1), (1, 1), (2, 1), (3, 1)] := ⟨fun fs w h => by rw [Try.underlying55] at h; cases h; kernel_rfl⟩
instance : Zer Try.prog 55 (.agg ([.pointer none, .pointer none, .pointer none, .string ByteArray.empty]).toArray) := ⟨by kernel_rfl⟩
instance : Und Try.prog 56 (Go.TypeDesc.struct #[{ name := "_interface", type := 17, offset := 0, embedded := false, tag := "", pkgPath := "runtime", byteOffset := 0 }, { name := "concrete", type := 17, offset := 1, embedded := false, tag := "", pkgPath := "runtime", byteOffset := 8 }, { name := "asserted", type := 17, offset := 2, embedded := false, tag := "", pkgPath := "runtime", byteOffset := 16 }, { name := "missingMethod", type := 9, offset := 3, embedded := false, tag := "", pkgPath := "runtime", byteOffset := 24 }]) := ⟨Try.underlying56⟩
instance : Siz Try.prog 56 4 := ⟨by kernel_rfl⟩
instance : Byt Try.prog 56 40 := ⟨by kernel_rfl⟩
instance : Plc Try.prog 56 [(0, 1), (1, 1), (2, 1), (3, 1)] := ⟨fun fs w h => by rw [Try.underlying56] at h; cases h; kernel_rfl⟩
instance : Zer Try.prog 56 (.agg ([.pointer none, .pointer none, .pointer none, .string ByteArray.empty]).toArray) := ⟨by kernel_rfl⟩
instance : Und Try.prog 57 (Go.TypeDesc.array 0 16) := ⟨Try.underlying57⟩
instance : Siz Try.prog 57 0 := ⟨by kernel_rfl⟩
instance : Byt Try.prog 57 0 := ⟨by kernel_rfl⟩
instance : Zer Try.prog 57 (.agg (List.replicate 0 (.pointer none)).toArray) := ⟨by kernel_rfl⟩
instance : Und Try.prog 58 (Go.TypeDesc.struct #[{ name := "_", type := 57, offset := 0, embedded := false, tag := "", pkgPath := "runtime", byteOffset := 0 }]) := ⟨Try.underlying58⟩
instance : Siz Try.prog 58 0 := ⟨by kernel_rfl⟩
instance : Byt Try.prog 58 0 := ⟨by kernel_rfl⟩
instance : Plc Try.prog 58 [(0, 0)] := ⟨fun fs w h => by rw [Try.underlying58] at h; cases h; kernel_rfl⟩
instance : Zer Try.prog 58 (.agg (List.replicate 0 (.pointer none)).toArray) := ⟨by kernel_rfl⟩
instance : Und Try.prog 59 (Go.TypeDesc.struct #[{ name := "_", type := 57, offset := 0, embedded := false, tag := "", pkgPath := "runtime", byteOffset := 0 }]) := ⟨Try.underlying59⟩
instance : Siz Try.prog 59 0 := ⟨by kernel_rfl⟩
instance : Byt Try.prog 59 0 := ⟨by kernel_rfl⟩
instance : Plc Try.prog 59 [(0, 0)] := ⟨fun fs w h => by rw [Try.underlying59] at h; cases h; kernel_rfl⟩
instance : Zer Try.prog 59 (.agg (List.replicate 0 (.pointer none)).toArray) := ⟨by kernel_rfl⟩
instance : Und Try.prog 60 (Go.TypeDesc.func #[] #[3] false) := ⟨Try.underlying60⟩
instance : Siz Try.prog 60 1 := ⟨by kernel_rfl⟩
instance : Byt Try.prog 60 8 := ⟨by kernel_rfl⟩
instance : Zer Try.prog 60 (.nilFunc) := ⟨by kernel_rfl⟩
instance : Und Try.prog 61 (Go.TypeDesc.int Go.IntKind.u32) := ⟨Try.underlying61⟩
instance : Siz Try.prog 61 1 := ⟨by kernel_rfl⟩
instance : Byt Try.prog 61 4 := ⟨by kernel_rfl⟩
instance : Zer Try.prog 61 (.int .u32 0) := ⟨by kernel_rfl⟩
instance : Und Try.prog 62 (Go.TypeDesc.int Go.IntKind.u8) := ⟨Try.underlying62⟩
instance : Siz Try.prog 62 1 := ⟨by kernel_rfl⟩
instance : Byt Try.prog 62 1 := ⟨by kernel_rfl⟩
instance : Zer Try.prog 62 (.int .u8 0) := ⟨by kernel_rfl⟩
instance : Und Try.prog 63 (Go.TypeDesc.int Go.IntKind.u8) := ⟨Try.underlying63⟩
instance : Siz Try.prog 63 1 := ⟨by kernel_rfl⟩
instance : Byt Try.prog 63 1 := ⟨by kernel_rfl⟩
instance : Zer Try.prog 63 (.int .u8 0) := ⟨by kernel_rfl⟩
instance : Und Try.prog 64 (Go.TypeDesc.func #[70, 70] #[4] false) := ⟨Try.underlying64⟩
instance : Siz Try.prog 64 1 := ⟨by kernel_rfl⟩
instance : Byt Try.prog 64 8 := ⟨by kernel_rfl⟩
instance : Zer Try.prog 64 (.nilFunc) := ⟨by kernel_rfl⟩
instance : Und Try.prog 65 (Go.TypeDesc.pointer 5) := ⟨Try.underlying65⟩
instance : Siz Try.prog 65 1 := ⟨by kernel_rfl⟩
instance : Byt Try.prog 65 8 := ⟨by kernel_rfl⟩
instance : Zer Try.prog 65 (.pointer none) := ⟨by kernel_rfl⟩
instance : Und Try.prog 66 (Go.TypeDesc.int Go.IntKind.i32) := ⟨Try.underlying66⟩
instance : Siz Try.prog 66 1 := ⟨by kernel_rfl⟩
instance : Byt Try.prog 66 4 := ⟨by kernel_rfl⟩
instance : Zer Try.prog 66 (.int .i32 0) := ⟨by kernel_rfl⟩
instance : Und Try.prog 67 (Go.TypeDesc.int Go.IntKind.i32) := ⟨Try.underlying67⟩
instance : Siz Try.prog 67 1 := ⟨by kernel_rfl⟩
instance : Byt Try.prog 67 4 := ⟨by kernel_rfl⟩
instance : Zer Try.prog 67 (.int .i32 0) := ⟨by kernel_rfl⟩
instance : Und Try.prog 68 (Go.TypeDesc.struct #[{ name := "Size_", type := 12, offset := 0, embedded := false, tag := "", pkgPath := "", byteOffset := 0 }, { name := "PtrBytes", type := 12, offset := 1, embedded := false, tag := "", pkgPath := "", byteOffset := 8 }, { name := "Hash", type := 61, offset := 2, embedded := false, tag := "", pkgPath := "", byteOffset := 16 }, { name := "TFlag", type := 62, offset := 3, embedded := false, tag := "", pkgPath := "", byteOffset := 20 }, { name := "Align_", type := 5, offset := 4, embedded := false, tag := "", pkgPath := "", byteOffset := 21 }, { name := "FieldAlign_", type := 5, offset := 5, embedded := false, tag := "", pkgPath := "", byteOffset := 22 }, { name := "Kind_", type := 63, offset := 6, embedded := false, tag := "", pkgPath := "", byteOffset := 23 }, { name := "Equal", type := 64, offset := 7, embedded := false, tag := "", pkgPath := "", byteOffset := 24 }, { name := "GCData", type := 65, offset := 8, embedded := false, tag := "", pkgPath := "", byteOffset := 32 }, { name := "Str", type := 66, offset := 9, embedded := false, tag := "", pkgPath := "", byteOffset := 40 }, { name := "PtrToThis", type := 67, offset := 10, embedded := false, tag := "", pkgPath := "", byteOffset := 44 }]) := ⟨Try.underlying68⟩
instance : Siz Try.prog 68 11 := ⟨by kernel_rfl⟩
instance : Byt Try.prog 68 48 := ⟨by kernel_rfl⟩
instance : Plc Try.prog 68 [(0, 1), (1, 1), (2, 1), (3, 1), (4, 1), (5, 1), (6, 1), (7, 1), (8, 1), (9, 1), (10, 1)] := ⟨fun fs w h => by rw [Try.underlying68] at h; cases h; kernel_rfl⟩
instance : Zer Try.prog 68 (.agg ([.int .u64 0, .int .u64 0, .int .u32 0, .int .u8 0, .int .u8 0, .int .u8 0, .int .u8 0, .nilFunc, .pointer none, .int .i32 0, .int .i32 0]).toArray) := ⟨by kernel_rfl⟩
instance : Und Try.prog 69 (Go.TypeDesc.struct #[{ name := "Size_", type := 12, offset := 0, embedded := false, tag := "", pkgPath := "", byteOffset := 0 }, { name := "PtrBytes", type := 12, offset := 1, embedded := false, tag := "", pkgPath := "", byteOffset := 8 }, { name := "Hash", type := 61, offset := 2, embedded := false, tag := "", pkgPath := "", byteOffset := 16 }, { name := "TFlag", type := 62, offset := 3, embedded := false, tag := "", pkgPath := "", byteOffset := 20 }, { name := "Align_", type := 5, offset := 4, embedded := false, tag := "", pkgPath := "", byteOffset := 21 }, { name := "FieldAlign_", type := 5, offset := 5, embedded := false, tag := "", pkgPath := "", byteOffset := 22 }, { name := "Kind_", type := 63, offset := 6, embedded := false, tag := "", pkgPath := "", byteOffset := 23 }, { name := "Equal", type := 64, offset := 7, embedded := false, tag := "", pkgPath := "", byteOffset := 24 }, { name := "GCData", type := 65, offset := 8, embedded := false, tag := "", pkgPath := "", byteOffset := 32 }, { name := "Str", type := 66, offset := 9, embedded := false, tag := "", pkgPath := "", byteOffset := 40 }, { name := "PtrToThis", type := 67, offset := 10, embedded := false, tag := "", pkgPath := "", byteOffset := 44 }]) := ⟨Try.underlying69⟩
instance : Siz Try.prog 69 11 := ⟨by kernel_rfl⟩
instance : Byt Try.prog 69 48 := ⟨by kernel_rfl⟩
instance : Plc Try.prog 69 [(0, 1), (1, 1), (2, 1), (3, 1), (4, 1), (5, 1), (6, 1), (7, 1), (8, 1), (9, 1), (10, 1)] := ⟨fun fs w h => by rw [Try.underlying69] at h; cases h; kernel_rfl⟩
instance : Zer Try.prog 69 (.agg ([.int .u64 0, .int .u64 0, .int .u32 0, .int .u8 0, .int .u8 0, .int .u8 0, .int .u8 0, .nilFunc, .pointer none, .int .i32 0, .int .i32 0]).toArray) := ⟨by kernel_rfl⟩
instance : Und Try.prog 70 (Go.TypeDesc.unsafePointer) := ⟨Try.underlying70⟩
instance : Siz Try.prog 70 1 := ⟨by kernel_rfl⟩
instance : Byt Try.prog 70 8 := ⟨by kernel_rfl⟩
instance : Zer Try.prog 70 (.pointer none) := ⟨by kernel_rfl⟩
instance : Fun Try.prog 3 := ⟨Try.f3, Try.func3, by kernel_rfl, by kernel_rfl⟩
instance : Fun Try.prog 4 := ⟨Try.f4, Try.func4, by kernel_rfl, by kernel_rfl⟩
instance : Fun Try.prog 5 := ⟨Try.f5, Try.func5, by kernel_rfl, by kernel_rfl⟩
instance : Fun Try.prog 6 := ⟨Try.f6, Try.func6, by kernel_rfl, by kernel_rfl⟩
instance : Fun Try.prog 7 := ⟨Try.f7, Try.func7, by kernel_rfl, by kernel_rfl⟩
instance : Fun Try.prog 8 := ⟨Try.f8, Try.func8, by kernel_rfl, by kernel_rfl⟩
instance : Fun Try.prog 9 := ⟨Try.f9, Try.func9, by kernel_rfl, by kernel_rfl⟩
instance : Fun Try.prog 10 := ⟨Try.f10, Try.func10, by kernel_rfl, by kernel_rfl⟩
instance : Fun Try.prog 11 := ⟨Try.f11, Try.func11, by kernel_rfl, by kernel_rfl⟩
instance : Fun Try.prog 12 := ⟨Try.f12, Try.func12, by kernel_rfl, by kernel_rfl⟩
instance : Fun Try.prog 13 := ⟨Try.f13, Try.func13, by kernel_rfl, by kernel_rfl⟩
instance : Fun Try.prog 14 := ⟨Try.f14, Try.func14, by kernel_rfl, by kernel_rfl⟩
instance : Fun Try.prog 15 := ⟨Try.f15, Try.func15, by kernel_rfl, by kernel_rfl⟩
instance : Fun Try.prog 16 := ⟨Try.f16, Try.func16, by kernel_rfl, by kernel_rfl⟩
instance : Fun Try.prog 17 := ⟨Try.f17, Try.func17, by kernel_rfl, by kernel_rfl⟩
instance : Fun Try.prog 18 := ⟨Try.f18, Try.func18, by kernel_rfl, by kernel_rfl⟩
instance : Fun Try.prog 19 := ⟨Try.f19, Try.func19, by kernel_rfl, by kernel_rfl⟩
instance : Fun Try.prog 20 := ⟨Try.f20, Try.func20, by kernel_rfl, by kernel_rfl⟩
instance : Fun Try.prog 21 := ⟨Try.f21, Try.func21, by kernel_rfl, by kernel_rfl⟩
instance : Fun Try.prog 22 := ⟨Try.f22, Try.func22, by kernel_rfl, by kernel_rfl⟩
instance : Fun Try.prog 23 := ⟨Try.f23, Try.func23, by kernel_rfl, by kernel_rfl⟩
instance : Fun Try.prog 24 := ⟨Try.f24, Try.func24, by kernel_rfl, by kernel_rfl⟩
instance : Fun Try.prog 25 := ⟨Try.f25, Try.func25, by kernel_rfl, by kernel_rfl⟩
instance : Fun Try.prog 26 := ⟨Try.f26, Try.func26, by kernel_rfl, by kernel_rfl⟩
instance : Fun Try.prog 27 := ⟨Try.f27, Try.func27, by kernel_rfl, by kernel_rfl⟩
instance : Fun Try.prog 28 := ⟨Try.f28, Try.func28, by kernel_rfl, by kernel_rfl⟩
end Go.Proofs.Ytfplfddobjbbnaa
