import Derived.Test.YtaelmimkdjkmmaaGreatDoorRows
import Derived.Test.YtaelmimkdjkmmaaGreatDoorAbR
namespace Go.Proofs.YtaelmimkdjkmmaaGreatDoor
def tab : Go.Ab.Tab := fun t => match t with
 | 2 => some { under := .int .i64, size := 1, bytes := 8, zero := .int .i64 0 }
 | 3 => some { under := .int .i64, size := 1, bytes := 8, zero := .int .i64 0 }
 | 4 => some { under := .bool, size := 1, bytes := 1, zero := .bool false }
 | 5 => some { under := .int .u8, size := 1, bytes := 1, zero := .int .u8 0 }
 | 6 => some { under := .int .u8, size := 1, bytes := 1, zero := .int .u8 0 }
 | 9 => some { under := .string, size := 1, bytes := 16, zero := .string .empty }
 | 10 => some { under := .string, size := 1, bytes := 16, zero := .string .empty }
 | 11 => some { under := .string, size := 1, bytes := 16, zero := .string .empty }
 | 12 => some { under := .int .u64, size := 1, bytes := 8, zero := .int .u64 0 }
 | 15 => some { under := .pointer 192, size := 1, bytes := 8, zero := .pointer none }
 | 16 => some { under := .pointer 195, size := 1, bytes := 8, zero := .pointer none }
 | 17 => some { under := .pointer 203, size := 1, bytes := 8, zero := .pointer none }
 | 21 => some { under := .int .i32, size := 1, bytes := 4, zero := .int .i32 0 }
 | 23 => some { under := .slice 9, size := 1, bytes := 24, zero := .slice none 0 0 }
 | 24 => some { under := .int .i64, size := 1, bytes := 8, zero := .int .i64 0 }
 | 30 => some { under := .slice 49, size := 1, bytes := 24, zero := .slice none 0 0 }
 | 36 => some { under := .slice 46, size := 1, bytes := 24, zero := .slice none 0 0 }
 | 37 => some { under := .slice 5, size := 1, bytes := 24, zero := .slice none 0 0 }
 | 38 => some { under := .slice 37, size := 1, bytes := 24, zero := .slice none 0 0 }
 | 39 => some { under := .struct #[{ name := "Lines", type := 38, offset := 0, embedded := false, tag := "", pkgPath := "", byteOffset := 0 }, { name := "Edit", type := 37, offset := 1, embedded := false, tag := "", pkgPath := "", byteOffset := 24 }], size := 2, bytes := 48, zero := .agg #[.slice none 0 0, .slice none 0 0] }
 | 40 => some { under := .struct #[{ name := "Lines", type := 38, offset := 0, embedded := false, tag := "", pkgPath := "", byteOffset := 0 }, { name := "Edit", type := 37, offset := 1, embedded := false, tag := "", pkgPath := "", byteOffset := 24 }], size := 2, bytes := 48, zero := .agg #[.slice none 0 0, .slice none 0 0] }
 | 41 => some { under := .struct #[{ name := "Device", type := 37, offset := 0, embedded := false, tag := "", pkgPath := "", byteOffset := 0 }, { name := "Fetched", type := 37, offset := 1, embedded := false, tag := "", pkgPath := "", byteOffset := 24 }, { name := "Tty", type := 40, offset := 2, embedded := false, tag := "", pkgPath := "", byteOffset := 48 }, { name := "Lost", type := 3, offset := 4, embedded := false, tag := "", pkgPath := "", byteOffset := 96 }, { name := "Taken", type := 3, offset := 5, embedded := false, tag := "", pkgPath := "", byteOffset := 104 }], size := 6, bytes := 112, zero := .agg #[.slice none 0 0, .slice none 0 0, .slice none 0 0, .slice none 0 0, .int .i64 0, .int .i64 0] }
 | 42 => some { under := .struct #[{ name := "Device", type := 37, offset := 0, embedded := false, tag := "", pkgPath := "", byteOffset := 0 }, { name := "Fetched", type := 37, offset := 1, embedded := false, tag := "", pkgPath := "", byteOffset := 24 }, { name := "Tty", type := 40, offset := 2, embedded := false, tag := "", pkgPath := "", byteOffset := 48 }, { name := "Lost", type := 3, offset := 4, embedded := false, tag := "", pkgPath := "", byteOffset := 96 }, { name := "Taken", type := 3, offset := 5, embedded := false, tag := "", pkgPath := "", byteOffset := 104 }], size := 6, bytes := 112, zero := .agg #[.slice none 0 0, .slice none 0 0, .slice none 0 0, .slice none 0 0, .int .i64 0, .int .i64 0] }
 | 45 => some { under := .struct #[{ name := "Err", type := 24, offset := 0, embedded := false, tag := "", pkgPath := "", byteOffset := 0 }, { name := "Data", type := 37, offset := 1, embedded := false, tag := "", pkgPath := "", byteOffset := 8 }], size := 2, bytes := 32, zero := .agg #[.int .i64 0, .slice none 0 0] }
 | 46 => some { under := .struct #[{ name := "Err", type := 24, offset := 0, embedded := false, tag := "", pkgPath := "", byteOffset := 0 }, { name := "Data", type := 37, offset := 1, embedded := false, tag := "", pkgPath := "", byteOffset := 8 }], size := 2, bytes := 32, zero := .agg #[.int .i64 0, .slice none 0 0] }
 | 48 => some { under := .struct #[{ name := "Kind", type := 3, offset := 0, embedded := false, tag := "", pkgPath := "", byteOffset := 0 }, { name := "Core", type := 3, offset := 1, embedded := false, tag := "", pkgPath := "", byteOffset := 8 }, { name := "N", type := 3, offset := 2, embedded := false, tag := "", pkgPath := "", byteOffset := 16 }, { name := "Byte", type := 5, offset := 3, embedded := false, tag := "", pkgPath := "", byteOffset := 24 }], size := 4, bytes := 32, zero := .agg #[.int .i64 0, .int .i64 0, .int .i64 0, .int .u8 0], cmp := true }
 | 49 => some { under := .struct #[{ name := "Kind", type := 3, offset := 0, embedded := false, tag := "", pkgPath := "", byteOffset := 0 }, { name := "Core", type := 3, offset := 1, embedded := false, tag := "", pkgPath := "", byteOffset := 8 }, { name := "N", type := 3, offset := 2, embedded := false, tag := "", pkgPath := "", byteOffset := 16 }, { name := "Byte", type := 5, offset := 3, embedded := false, tag := "", pkgPath := "", byteOffset := 24 }], size := 4, bytes := 32, zero := .agg #[.int .i64 0, .int .i64 0, .int .i64 0, .int .u8 0], cmp := true }
 | 51 => some { under := .slice 3, size := 1, bytes := 24, zero := .slice none 0 0 }
 | 54 => some { under := .pointer 56, size := 1, bytes := 8, zero := .pointer none }
 | 55 => some { under := .struct #[{ name := "addr", type := 54, offset := 0, embedded := false, tag := "", pkgPath := "strings", byteOffset := 0 }, { name := "buf", type := 37, offset := 1, embedded := false, tag := "", pkgPath := "strings", byteOffset := 8 }], size := 2, bytes := 32, zero := .agg #[.pointer none, .slice none 0 0] }
 | 56 => some { under := .struct #[{ name := "addr", type := 54, offset := 0, embedded := false, tag := "", pkgPath := "strings", byteOffset := 0 }, { name := "buf", type := 37, offset := 1, embedded := false, tag := "", pkgPath := "strings", byteOffset := 8 }], size := 2, bytes := 32, zero := .agg #[.pointer none, .slice none 0 0] }
 | 68 => some { under := .pointer 87, size := 1, bytes := 8, zero := .pointer none }
 | 72 => some { under := .struct #[{ name := "In", type := 37, offset := 0, embedded := false, tag := "", pkgPath := "", byteOffset := 0 }, { name := "Out", type := 37, offset := 1, embedded := false, tag := "", pkgPath := "", byteOffset := 24 }, { name := "Lost", type := 3, offset := 2, embedded := false, tag := "", pkgPath := "", byteOffset := 48 }, { name := "Asks", type := 4, offset := 3, embedded := false, tag := "", pkgPath := "", byteOffset := 56 }], size := 4, bytes := 64, zero := .agg #[.slice none 0 0, .slice none 0 0, .int .i64 0, .bool false] }
 | 73 => some { under := .struct #[{ name := "In", type := 37, offset := 0, embedded := false, tag := "", pkgPath := "", byteOffset := 0 }, { name := "Out", type := 37, offset := 1, embedded := false, tag := "", pkgPath := "", byteOffset := 24 }, { name := "Lost", type := 3, offset := 2, embedded := false, tag := "", pkgPath := "", byteOffset := 48 }, { name := "Asks", type := 4, offset := 3, embedded := false, tag := "", pkgPath := "", byteOffset := 56 }], size := 4, bytes := 64, zero := .agg #[.slice none 0 0, .slice none 0 0, .int .i64 0, .bool false] }
 | 74 => some { under := .slice 96, size := 1, bytes := 24, zero := .slice none 0 0 }
 | 75 => some { under := .int .u64, size := 1, bytes := 8, zero := .int .u64 0 }
 | 76 => some { under := .array 4 75, size := 4, bytes := 32, zero := .agg #[.int .u64 0, .int .u64 0, .int .u64 0, .int .u64 0], cmp := true }
 | 77 => some { under := .array 4 75, size := 4, bytes := 32, zero := .agg #[.int .u64 0, .int .u64 0, .int .u64 0, .int .u64 0], cmp := true }
 | 78 => some { under := .struct #[{ name := "Asked", type := 77, offset := 0, embedded := false, tag := "", pkgPath := "", byteOffset := 0 }, { name := "Served", type := 77, offset := 4, embedded := false, tag := "", pkgPath := "", byteOffset := 32 }, { name := "Class", type := 3, offset := 8, embedded := false, tag := "", pkgPath := "", byteOffset := 64 }], size := 9, bytes := 72, zero := .agg #[.int .u64 0, .int .u64 0, .int .u64 0, .int .u64 0, .int .u64 0, .int .u64 0, .int .u64 0, .int .u64 0, .int .i64 0], cmp := true }
 | 79 => some { under := .struct #[{ name := "Asked", type := 77, offset := 0, embedded := false, tag := "", pkgPath := "", byteOffset := 0 }, { name := "Served", type := 77, offset := 4, embedded := false, tag := "", pkgPath := "", byteOffset := 32 }, { name := "Class", type := 3, offset := 8, embedded := false, tag := "", pkgPath := "", byteOffset := 64 }], size := 9, bytes := 72, zero := .agg #[.int .u64 0, .int .u64 0, .int .u64 0, .int .u64 0, .int .u64 0, .int .u64 0, .int .u64 0, .int .u64 0, .int .i64 0], cmp := true }
 | 80 => some { under := .slice 160, size := 1, bytes := 24, zero := .slice none 0 0 }
 | 81 => some { under := .struct #[{ name := "On", type := 4, offset := 0, embedded := false, tag := "", pkgPath := "", byteOffset := 0 }, { name := "Kept", type := 80, offset := 1, embedded := false, tag := "", pkgPath := "", byteOffset := 8 }], size := 2, bytes := 32, zero := .agg #[.bool false, .slice none 0 0] }
 | 82 => some { under := .struct #[{ name := "On", type := 4, offset := 0, embedded := false, tag := "", pkgPath := "", byteOffset := 0 }, { name := "Kept", type := 80, offset := 1, embedded := false, tag := "", pkgPath := "", byteOffset := 8 }], size := 2, bytes := 32, zero := .agg #[.bool false, .slice none 0 0] }
 | 83 => some { under := .struct #[{ name := "local", type := 79, offset := 0, embedded := false, tag := "", pkgPath := "corebell/kernel", byteOffset := 0 }, { name := "nest", type := 82, offset := 9, embedded := false, tag := "", pkgPath := "corebell/kernel", byteOffset := 72 }, { name := "serving", type := 4, offset := 11, embedded := false, tag := "", pkgPath := "corebell/kernel", byteOffset := 104 }], size := 12, bytes := 112, zero := .agg #[.int .u64 0, .int .u64 0, .int .u64 0, .int .u64 0, .int .u64 0, .int .u64 0, .int .u64 0, .int .u64 0, .int .i64 0, .bool false, .slice none 0 0, .bool false] }
 | 84 => some { under := .struct #[{ name := "local", type := 79, offset := 0, embedded := false, tag := "", pkgPath := "corebell/kernel", byteOffset := 0 }, { name := "nest", type := 82, offset := 9, embedded := false, tag := "", pkgPath := "corebell/kernel", byteOffset := 72 }, { name := "serving", type := 4, offset := 11, embedded := false, tag := "", pkgPath := "corebell/kernel", byteOffset := 104 }], size := 12, bytes := 112, zero := .agg #[.int .u64 0, .int .u64 0, .int .u64 0, .int .u64 0, .int .u64 0, .int .u64 0, .int .u64 0, .int .u64 0, .int .i64 0, .bool false, .slice none 0 0, .bool false] }
 | 85 => some { under := .array 2 84, size := 24, bytes := 224, zero := .agg #[.int .u64 0, .int .u64 0, .int .u64 0, .int .u64 0, .int .u64 0, .int .u64 0, .int .u64 0, .int .u64 0, .int .i64 0, .bool false, .slice none 0 0, .bool false, .int .u64 0, .int .u64 0, .int .u64 0, .int .u64 0, .int .u64 0, .int .u64 0, .int .u64 0, .int .u64 0, .int .i64 0, .bool false, .slice none 0 0, .bool false] }
 | 86 => some { under := .struct #[{ name := "uart", type := 73, offset := 0, embedded := false, tag := "", pkgPath := "corebell/kernel", byteOffset := 0 }, { name := "pins", type := 74, offset := 4, embedded := false, tag := "", pkgPath := "corebell/kernel", byteOffset := 64 }, { name := "cores", type := 85, offset := 5, embedded := false, tag := "", pkgPath := "corebell/kernel", byteOffset := 88 }, { name := "fetched", type := 37, offset := 29, embedded := false, tag := "", pkgPath := "corebell/kernel", byteOffset := 312 }, { name := "tty", type := 40, offset := 30, embedded := false, tag := "", pkgPath := "corebell/kernel", byteOffset := 336 }, { name := "taken", type := 3, offset := 32, embedded := false, tag := "", pkgPath := "corebell/kernel", byteOffset := 384 }], size := 33, bytes := 392, zero := .agg #[.slice none 0 0, .slice none 0 0, .int .i64 0, .bool false, .slice none 0 0, .int .u64 0, .int .u64 0, .int .u64 0, .int .u64 0, .int .u64 0, .int .u64 0, .int .u64 0, .int .u64 0, .int .i64 0, .bool false, .slice none 0 0, .bool false, .int .u64 0, .int .u64 0, .int .u64 0, .int .u64 0, .int .u64 0, .int .u64 0, .int .u64 0, .int .u64 0, .int .i64 0, .bool false, .slice none 0 0, .bool false, .slice none 0 0, .slice none 0 0, .slice none 0 0, .int .i64 0] }
 | 87 => some { under := .struct #[{ name := "uart", type := 73, offset := 0, embedded := false, tag := "", pkgPath := "corebell/kernel", byteOffset := 0 }, { name := "pins", type := 74, offset := 4, embedded := false, tag := "", pkgPath := "corebell/kernel", byteOffset := 64 }, { name := "cores", type := 85, offset := 5, embedded := false, tag := "", pkgPath := "corebell/kernel", byteOffset := 88 }, { name := "fetched", type := 37, offset := 29, embedded := false, tag := "", pkgPath := "corebell/kernel", byteOffset := 312 }, { name := "tty", type := 40, offset := 30, embedded := false, tag := "", pkgPath := "corebell/kernel", byteOffset := 336 }, { name := "taken", type := 3, offset := 32, embedded := false, tag := "", pkgPath := "corebell/kernel", byteOffset := 384 }], size := 33, bytes := 392, zero := .agg #[.slice none 0 0, .slice none 0 0, .int .i64 0, .bool false, .slice none 0 0, .int .u64 0, .int .u64 0, .int .u64 0, .int .u64 0, .int .u64 0, .int .u64 0, .int .u64 0, .int .u64 0, .int .i64 0, .bool false, .slice none 0 0, .bool false, .int .u64 0, .int .u64 0, .int .u64 0, .int .u64 0, .int .u64 0, .int .u64 0, .int .u64 0, .int .u64 0, .int .i64 0, .bool false, .slice none 0 0, .bool false, .slice none 0 0, .slice none 0 0, .slice none 0 0, .int .i64 0] }
 | 89 => some { under := .int .u64, size := 1, bytes := 8, zero := .int .u64 0 }
 | 90 => some { under := .pointer 3, size := 1, bytes := 8, zero := .pointer none }
 | 92 => some { under := .pointer 49, size := 1, bytes := 8, zero := .pointer none }
 | 94 => some { under := .pointer 5, size := 1, bytes := 8, zero := .pointer none }
 | 95 => some { under := .struct #[{ name := "Core", type := 3, offset := 0, embedded := false, tag := "", pkgPath := "", byteOffset := 0 }, { name := "Vec", type := 3, offset := 1, embedded := false, tag := "", pkgPath := "", byteOffset := 8 }, { name := "Level", type := 4, offset := 2, embedded := false, tag := "", pkgPath := "", byteOffset := 16 }, { name := "Masked", type := 4, offset := 3, embedded := false, tag := "", pkgPath := "", byteOffset := 17 }, { name := "Up", type := 4, offset := 4, embedded := false, tag := "", pkgPath := "", byteOffset := 18 }, { name := "Kept", type := 4, offset := 5, embedded := false, tag := "", pkgPath := "", byteOffset := 19 }, { name := "Sent", type := 4, offset := 6, embedded := false, tag := "", pkgPath := "", byteOffset := 20 }], size := 7, bytes := 24, zero := .agg #[.int .i64 0, .int .i64 0, .bool false, .bool false, .bool false, .bool false, .bool false], cmp := true }
 | 96 => some { under := .struct #[{ name := "Core", type := 3, offset := 0, embedded := false, tag := "", pkgPath := "", byteOffset := 0 }, { name := "Vec", type := 3, offset := 1, embedded := false, tag := "", pkgPath := "", byteOffset := 8 }, { name := "Level", type := 4, offset := 2, embedded := false, tag := "", pkgPath := "", byteOffset := 16 }, { name := "Masked", type := 4, offset := 3, embedded := false, tag := "", pkgPath := "", byteOffset := 17 }, { name := "Up", type := 4, offset := 4, embedded := false, tag := "", pkgPath := "", byteOffset := 18 }, { name := "Kept", type := 4, offset := 5, embedded := false, tag := "", pkgPath := "", byteOffset := 19 }, { name := "Sent", type := 4, offset := 6, embedded := false, tag := "", pkgPath := "", byteOffset := 20 }], size := 7, bytes := 24, zero := .agg #[.int .i64 0, .int .i64 0, .bool false, .bool false, .bool false, .bool false, .bool false], cmp := true }
 | 100 => some { under := .struct #[{ name := "Kind", type := 3, offset := 0, embedded := false, tag := "", pkgPath := "", byteOffset := 0 }, { name := "Byte", type := 5, offset := 1, embedded := false, tag := "", pkgPath := "", byteOffset := 8 }], size := 2, bytes := 16, zero := .agg #[.int .i64 0, .int .u8 0], cmp := true }
 | 101 => some { under := .struct #[{ name := "Kind", type := 3, offset := 0, embedded := false, tag := "", pkgPath := "", byteOffset := 0 }, { name := "Byte", type := 5, offset := 1, embedded := false, tag := "", pkgPath := "", byteOffset := 8 }], size := 2, bytes := 16, zero := .agg #[.int .i64 0, .int .u8 0], cmp := true }
 | 105 => some { under := .pointer 84, size := 1, bytes := 8, zero := .pointer none }
 | 106 => some { under := .map 3 3, size := 1, bytes := 8, zero := .map none }
 | 109 => some { under := .unsafePointer, size := 1, bytes := 8, zero := .pointer none }
 | 116 => some { under := .struct #[{ name := "Kind", type := 3, offset := 0, embedded := false, tag := "", pkgPath := "", byteOffset := 0 }, { name := "N", type := 3, offset := 1, embedded := false, tag := "", pkgPath := "", byteOffset := 8 }], size := 2, bytes := 16, zero := .agg #[.int .i64 0, .int .i64 0], cmp := true }
 | 117 => some { under := .struct #[{ name := "Kind", type := 3, offset := 0, embedded := false, tag := "", pkgPath := "", byteOffset := 0 }, { name := "N", type := 3, offset := 1, embedded := false, tag := "", pkgPath := "", byteOffset := 8 }], size := 2, bytes := 16, zero := .agg #[.int .i64 0, .int .i64 0], cmp := true }
 | 131 => some { under := .int .u32, size := 1, bytes := 4, zero := .int .u32 0 }
 | 134 => some { under := .int .i64, size := 1, bytes := 8, zero := .int .i64 0 }
 | 137 => some { under := .pointer 171, size := 1, bytes := 8, zero := .pointer none }
 | 146 => some { under := .slice 152, size := 1, bytes := 24, zero := .slice none 0 0 }
 | 149 => some { under := .struct #[{ name := "Kind", type := 3, offset := 0, embedded := false, tag := "", pkgPath := "", byteOffset := 0 }, { name := "Pin", type := 3, offset := 1, embedded := false, tag := "", pkgPath := "", byteOffset := 8 }], size := 2, bytes := 16, zero := .agg #[.int .i64 0, .int .i64 0], cmp := true }
 | 150 => some { under := .struct #[{ name := "Kind", type := 3, offset := 0, embedded := false, tag := "", pkgPath := "", byteOffset := 0 }, { name := "Pin", type := 3, offset := 1, embedded := false, tag := "", pkgPath := "", byteOffset := 8 }], size := 2, bytes := 16, zero := .agg #[.int .i64 0, .int .i64 0], cmp := true }
 | 151 => some { under := .struct #[{ name := "Pin", type := 3, offset := 0, embedded := false, tag := "", pkgPath := "", byteOffset := 0 }, { name := "Core", type := 3, offset := 1, embedded := false, tag := "", pkgPath := "", byteOffset := 8 }, { name := "Vec", type := 3, offset := 2, embedded := false, tag := "", pkgPath := "", byteOffset := 16 }], size := 3, bytes := 24, zero := .agg #[.int .i64 0, .int .i64 0, .int .i64 0], cmp := true }
 | 152 => some { under := .struct #[{ name := "Pin", type := 3, offset := 0, embedded := false, tag := "", pkgPath := "", byteOffset := 0 }, { name := "Core", type := 3, offset := 1, embedded := false, tag := "", pkgPath := "", byteOffset := 8 }, { name := "Vec", type := 3, offset := 2, embedded := false, tag := "", pkgPath := "", byteOffset := 16 }], size := 3, bytes := 24, zero := .agg #[.int .i64 0, .int .i64 0, .int .i64 0], cmp := true }
 | 154 => some { under := .pointer 40, size := 1, bytes := 8, zero := .pointer none }
 | 159 => some { under := .struct #[{ name := "On", type := 4, offset := 0, embedded := false, tag := "", pkgPath := "", byteOffset := 0 }, { name := "Irq", type := 4, offset := 1, embedded := false, tag := "", pkgPath := "", byteOffset := 1 }], size := 2, bytes := 2, zero := .agg #[.bool false, .bool false], cmp := true }
 | 160 => some { under := .struct #[{ name := "On", type := 4, offset := 0, embedded := false, tag := "", pkgPath := "", byteOffset := 0 }, { name := "Irq", type := 4, offset := 1, embedded := false, tag := "", pkgPath := "", byteOffset := 1 }], size := 2, bytes := 2, zero := .agg #[.bool false, .bool false], cmp := true }
 | 170 => some { under := .struct #[{ name := "Func", type := 9, offset := 0, embedded := false, tag := "", pkgPath := "", byteOffset := 0 }, { name := "Num", type := 9, offset := 1, embedded := false, tag := "", pkgPath := "", byteOffset := 16 }, { name := "Err", type := 60, offset := 2, embedded := false, tag := "", pkgPath := "", byteOffset := 32 }], size := 3, bytes := 48, zero := .agg #[.string .empty, .string .empty, .nilIface] }
 | 171 => some { under := .struct #[{ name := "Func", type := 9, offset := 0, embedded := false, tag := "", pkgPath := "", byteOffset := 0 }, { name := "Num", type := 9, offset := 1, embedded := false, tag := "", pkgPath := "", byteOffset := 16 }, { name := "Err", type := 60, offset := 2, embedded := false, tag := "", pkgPath := "", byteOffset := 32 }], size := 3, bytes := 48, zero := .agg #[.string .empty, .string .empty, .nilIface] }
 | 176 => some { under := .pointer 96, size := 1, bytes := 8, zero := .pointer none }
 | 183 => some { under := .pointer 185, size := 1, bytes := 8, zero := .pointer none }
 | 188 => some { under := .array 32 5, size := 32, bytes := 32, zero := .agg #[.int .u8 0, .int .u8 0, .int .u8 0, .int .u8 0, .int .u8 0, .int .u8 0, .int .u8 0, .int .u8 0, .int .u8 0, .int .u8 0, .int .u8 0, .int .u8 0, .int .u8 0, .int .u8 0, .int .u8 0, .int .u8 0, .int .u8 0, .int .u8 0, .int .u8 0, .int .u8 0, .int .u8 0, .int .u8 0, .int .u8 0, .int .u8 0, .int .u8 0, .int .u8 0, .int .u8 0, .int .u8 0, .int .u8 0, .int .u8 0, .int .u8 0, .int .u8 0], cmp := true }
 | 193 => some { under := .array 0 16, size := 0, bytes := 0, zero := .agg #[] }
 | 197 => some { under := .int .u8, size := 1, bytes := 1, zero := .int .u8 0 }
 | 198 => some { under := .int .u8, size := 1, bytes := 1, zero := .int .u8 0 }
 | 200 => some { under := .int .i32, size := 1, bytes := 4, zero := .int .i32 0 }
 | 201 => some { under := .int .i32, size := 1, bytes := 4, zero := .int .i32 0 }
 | 202 => some { under := .struct #[{ name := "Size_", type := 12, offset := 0, embedded := false, tag := "", pkgPath := "", byteOffset := 0 }, { name := "PtrBytes", type := 12, offset := 1, embedded := false, tag := "", pkgPath := "", byteOffset := 8 }, { name := "Hash", type := 131, offset := 2, embedded := false, tag := "", pkgPath := "", byteOffset := 16 }, { name := "TFlag", type := 197, offset := 3, embedded := false, tag := "", pkgPath := "", byteOffset := 20 }, { name := "Align_", type := 5, offset := 4, embedded := false, tag := "", pkgPath := "", byteOffset := 21 }, { name := "FieldAlign_", type := 5, offset := 5, embedded := false, tag := "", pkgPath := "", byteOffset := 22 }, { name := "Kind_", type := 198, offset := 6, embedded := false, tag := "", pkgPath := "", byteOffset := 23 }, { name := "Equal", type := 199, offset := 7, embedded := false, tag := "", pkgPath := "", byteOffset := 24 }, { name := "GCData", type := 94, offset := 8, embedded := false, tag := "", pkgPath := "", byteOffset := 32 }, { name := "Str", type := 200, offset := 9, embedded := false, tag := "", pkgPath := "", byteOffset := 40 }, { name := "PtrToThis", type := 201, offset := 10, embedded := false, tag := "", pkgPath := "", byteOffset := 44 }], size := 11, bytes := 48, zero := .agg #[.int .u64 0, .int .u64 0, .int .u32 0, .int .u8 0, .int .u8 0, .int .u8 0, .int .u8 0, .nilFunc, .pointer none, .int .i32 0, .int .i32 0] }
 | 203 => some { under := .struct #[{ name := "Size_", type := 12, offset := 0, embedded := false, tag := "", pkgPath := "", byteOffset := 0 }, { name := "PtrBytes", type := 12, offset := 1, embedded := false, tag := "", pkgPath := "", byteOffset := 8 }, { name := "Hash", type := 131, offset := 2, embedded := false, tag := "", pkgPath := "", byteOffset := 16 }, { name := "TFlag", type := 197, offset := 3, embedded := false, tag := "", pkgPath := "", byteOffset := 20 }, { name := "Align_", type := 5, offset := 4, embedded := false, tag := "", pkgPath := "", byteOffset := 21 }, { name := "FieldAlign_", type := 5, offset := 5, embedded := false, tag := "", pkgPath := "", byteOffset := 22 }, { name := "Kind_", type := 198, offset := 6, embedded := false, tag := "", pkgPath := "", byteOffset := 23 }, { name := "Equal", type := 199, offset := 7, embedded := false, tag := "", pkgPath := "", byteOffset := 24 }, { name := "GCData", type := 94, offset := 8, embedded := false, tag := "", pkgPath := "", byteOffset := 32 }, { name := "Str", type := 200, offset := 9, embedded := false, tag := "", pkgPath := "", byteOffset := 40 }, { name := "PtrToThis", type := 201, offset := 10, embedded := false, tag := "", pkgPath := "", byteOffset := 44 }], size := 11, bytes := 48, zero := .agg #[.int .u64 0, .int .u64 0, .int .u32 0, .int .u8 0, .int .u8 0, .int .u8 0, .int .u8 0, .nilFunc, .pointer none, .int .i32 0, .int .i32 0] }
 | _ => none
theorem info_2 : (Tryz.prog.info? 2).map (fun i => (i.zero, i.size, i.bytes)) = some (some (.int .i64 0), 1, 8) := by kernel_rfl
theorem info_3 : (Tryz.prog.info? 3).map (fun i => (i.zero, i.size, i.bytes)) = some (some (.int .i64 0), 1, 8) := by kernel_rfl
theorem info_4 : (Tryz.prog.info? 4).map (fun i => (i.zero, i.size, i.bytes)) = some (some (.bool false), 1, 1) := by kernel_rfl
theorem info_5 : (Tryz.prog.info? 5).map (fun i => (i.zero, i.size, i.bytes)) = some (some (.int .u8 0), 1, 1) := by kernel_rfl
theorem info_6 : (Tryz.prog.info? 6).map (fun i => (i.zero, i.size, i.bytes)) = some (some (.int .u8 0), 1, 1) := by kernel_rfl
theorem info_9 : (Tryz.prog.info? 9).map (fun i => (i.zero, i.size, i.bytes)) = some (some (.string .empty), 1, 16) := by kernel_rfl
theorem info_10 : (Tryz.prog.info? 10).map (fun i => (i.zero, i.size, i.bytes)) = some (some (.string .empty), 1, 16) := by kernel_rfl
theorem info_11 : (Tryz.prog.info? 11).map (fun i => (i.zero, i.size, i.bytes)) = some (some (.string .empty), 1, 16) := by kernel_rfl
theorem info_12 : (Tryz.prog.info? 12).map (fun i => (i.zero, i.size, i.bytes)) = some (some (.int .u64 0), 1, 8) := by kernel_rfl
theorem info_15 : (Tryz.prog.info? 15).map (fun i => (i.zero, i.size, i.bytes)) = some (some (.pointer none), 1, 8) := by kernel_rfl
theorem info_16 : (Tryz.prog.info? 16).map (fun i => (i.zero, i.size, i.bytes)) = some (some (.pointer none), 1, 8) := by kernel_rfl
theorem info_17 : (Tryz.prog.info? 17).map (fun i => (i.zero, i.size, i.bytes)) = some (some (.pointer none), 1, 8) := by kernel_rfl
theorem info_21 : (Tryz.prog.info? 21).map (fun i => (i.zero, i.size, i.bytes)) = some (some (.int .i32 0), 1, 4) := by kernel_rfl
theorem info_23 : (Tryz.prog.info? 23).map (fun i => (i.zero, i.size, i.bytes)) = some (some (.slice none 0 0), 1, 24) := by kernel_rfl
theorem info_24 : (Tryz.prog.info? 24).map (fun i => (i.zero, i.size, i.bytes)) = some (some (.int .i64 0), 1, 8) := by kernel_rfl
theorem info_30 : (Tryz.prog.info? 30).map (fun i => (i.zero, i.size, i.bytes)) = some (some (.slice none 0 0), 1, 24) := by kernel_rfl
theorem info_36 : (Tryz.prog.info? 36).map (fun i => (i.zero, i.size, i.bytes)) = some (some (.slice none 0 0), 1, 24) := by kernel_rfl
theorem info_37 : (Tryz.prog.info? 37).map (fun i => (i.zero, i.size, i.bytes)) = some (some (.slice none 0 0), 1, 24) := by kernel_rfl
theorem info_38 : (Tryz.prog.info? 38).map (fun i => (i.zero, i.size, i.bytes)) = some (some (.slice none 0 0), 1, 24) := by kernel_rfl
theorem info_39 : (Tryz.prog.info? 39).map (fun i => (i.zero, i.size, i.bytes)) = some (some (.agg #[.slice none 0 0, .slice none 0 0]), 2, 48) := by kernel_rfl
theorem info_40 : (Tryz.prog.info? 40).map (fun i => (i.zero, i.size, i.bytes)) = some (some (.agg #[.slice none 0 0, .slice none 0 0]), 2, 48) := by kernel_rfl
theorem info_41 : (Tryz.prog.info? 41).map (fun i => (i.zero, i.size, i.bytes)) = some (some (.agg #[.slice none 0 0, .slice none 0 0, .slice none 0 0, .slice none 0 0, .int .i64 0, .int .i64 0]), 6, 112) := by kernel_rfl
theorem info_42 : (Tryz.prog.info? 42).map (fun i => (i.zero, i.size, i.bytes)) = some (some (.agg #[.slice none 0 0, .slice none 0 0, .slice none 0 0, .slice none 0 0, .int .i64 0, .int .i64 0]), 6, 112) := by kernel_rfl
theorem info_45 : (Tryz.prog.info? 45).map (fun i => (i.zero, i.size, i.bytes)) = some (some (.agg #[.int .i64 0, .slice none 0 0]), 2, 32) := by kernel_rfl
theorem info_46 : (Tryz.prog.info? 46).map (fun i => (i.zero, i.size, i.bytes)) = some (some (.agg #[.int .i64 0, .slice none 0 0]), 2, 32) := by kernel_rfl
theorem info_48 : (Tryz.prog.info? 48).map (fun i => (i.zero, i.size, i.bytes)) = some (some (.agg #[.int .i64 0, .int .i64 0, .int .i64 0, .int .u8 0]), 4, 32) := by kernel_rfl
theorem info_49 : (Tryz.prog.info? 49).map (fun i => (i.zero, i.size, i.bytes)) = some (some (.agg #[.int .i64 0, .int .i64 0, .int .i64 0, .int .u8 0]), 4, 32) := by kernel_rfl
theorem info_51 : (Tryz.prog.info? 51).map (fun i => (i.zero, i.size, i.bytes)) = some (some (.slice none 0 0), 1, 24) := by kernel_rfl
theorem info_54 : (Tryz.prog.info? 54).map (fun i => (i.zero, i.size, i.bytes)) = some (some (.pointer none), 1, 8) := by kernel_rfl
theorem info_55 : (Tryz.prog.info? 55).map (fun i => (i.zero, i.size, i.bytes)) = some (some (.agg #[.pointer none, .slice none 0 0]), 2, 32) := by kernel_rfl
theorem info_56 : (Tryz.prog.info? 56).map (fun i => (i.zero, i.size, i.bytes)) = some (some (.agg #[.pointer none, .slice none 0 0]), 2, 32) := by kernel_rfl
theorem info_68 : (Tryz.prog.info? 68).map (fun i => (i.zero, i.size, i.bytes)) = some (some (.pointer none), 1, 8) := by kernel_rfl
theorem info_72 : (Tryz.prog.info? 72).map (fun i => (i.zero, i.size, i.bytes)) = some (some (.agg #[.slice none 0 0, .slice none 0 0, .int .i64 0, .bool false]), 4, 64) := by kernel_rfl
theorem info_73 : (Tryz.prog.info? 73).map (fun i => (i.zero, i.size, i.bytes)) = some (some (.agg #[.slice none 0 0, .slice none 0 0, .int .i64 0, .bool false]), 4, 64) := by kernel_rfl
theorem info_74 : (Tryz.prog.info? 74).map (fun i => (i.zero, i.size, i.bytes)) = some (some (.slice none 0 0), 1, 24) := by kernel_rfl
theorem info_75 : (Tryz.prog.info? 75).map (fun i => (i.zero, i.size, i.bytes)) = some (some (.int .u64 0), 1, 8) := by kernel_rfl
theorem info_76 : (Tryz.prog.info? 76).map (fun i => (i.zero, i.size, i.bytes)) = some (some (.agg #[.int .u64 0, .int .u64 0, .int .u64 0, .int .u64 0]), 4, 32) := by kernel_rfl
theorem info_77 : (Tryz.prog.info? 77).map (fun i => (i.zero, i.size, i.bytes)) = some (some (.agg #[.int .u64 0, .int .u64 0, .int .u64 0, .int .u64 0]), 4, 32) := by kernel_rfl
theorem info_78 : (Tryz.prog.info? 78).map (fun i => (i.zero, i.size, i.bytes)) = some (some (.agg #[.int .u64 0, .int .u64 0, .int .u64 0, .int .u64 0, .int .u64 0, .int .u64 0, .int .u64 0, .int .u64 0, .int .i64 0]), 9, 72) := by kernel_rfl
theorem info_79 : (Tryz.prog.info? 79).map (fun i => (i.zero, i.size, i.bytes)) = some (some (.agg #[.int .u64 0, .int .u64 0, .int .u64 0, .int .u64 0, .int .u64 0, .int .u64 0, .int .u64 0, .int .u64 0, .int .i64 0]), 9, 72) := by kernel_rfl
theorem info_80 : (Tryz.prog.info? 80).map (fun i => (i.zero, i.size, i.bytes)) = some (some (.slice none 0 0), 1, 24) := by kernel_rfl
theorem info_81 : (Tryz.prog.info? 81).map (fun i => (i.zero, i.size, i.bytes)) = some (some (.agg #[.bool false, .slice none 0 0]), 2, 32) := by kernel_rfl
theorem info_82 : (Tryz.prog.info? 82).map (fun i => (i.zero, i.size, i.bytes)) = some (some (.agg #[.bool false, .slice none 0 0]), 2, 32) := by kernel_rfl
theorem info_83 : (Tryz.prog.info? 83).map (fun i => (i.zero, i.size, i.bytes)) = some (some (.agg #[.int .u64 0, .int .u64 0, .int .u64 0, .int .u64 0, .int .u64 0, .int .u64 0, .int .u64 0, .int .u64 0, .int .i64 0, .bool false, .slice none 0 0, .bool false]), 12, 112) := by kernel_rfl
theorem info_84 : (Tryz.prog.info? 84).map (fun i => (i.zero, i.size, i.bytes)) = some (some (.agg #[.int .u64 0, .int .u64 0, .int .u64 0, .int .u64 0, .int .u64 0, .int .u64 0, .int .u64 0, .int .u64 0, .int .i64 0, .bool false, .slice none 0 0, .bool false]), 12, 112) := by kernel_rfl
theorem info_85 : (Tryz.prog.info? 85).map (fun i => (i.zero, i.size, i.bytes)) = some (some (.agg #[.int .u64 0, .int .u64 0, .int .u64 0, .int .u64 0, .int .u64 0, .int .u64 0, .int .u64 0, .int .u64 0, .int .i64 0, .bool false, .slice none 0 0, .bool false, .int .u64 0, .int .u64 0, .int .u64 0, .int .u64 0, .int .u64 0, .int .u64 0, .int .u64 0, .int .u64 0, .int .i64 0, .bool false, .slice none 0 0, .bool false]), 24, 224) := by kernel_rfl
theorem info_86 : (Tryz.prog.info? 86).map (fun i => (i.zero, i.size, i.bytes)) = some (some (.agg #[.slice none 0 0, .slice none 0 0, .int .i64 0, .bool false, .slice none 0 0, .int .u64 0, .int .u64 0, .int .u64 0, .int .u64 0, .int .u64 0, .int .u64 0, .int .u64 0, .int .u64 0, .int .i64 0, .bool false, .slice none 0 0, .bool false, .int .u64 0, .int .u64 0, .int .u64 0, .int .u64 0, .int .u64 0, .int .u64 0, .int .u64 0, .int .u64 0, .int .i64 0, .bool false, .slice none 0 0, .bool false, .slice none 0 0, .slice none 0 0, .slice none 0 0, .int .i64 0]), 33, 392) := by kernel_rfl
theorem info_87 : (Tryz.prog.info? 87).map (fun i => (i.zero, i.size, i.bytes)) = some (some (.agg #[.slice none 0 0, .slice none 0 0, .int .i64 0, .bool false, .slice none 0 0, .int .u64 0, .int .u64 0, .int .u64 0, .int .u64 0, .int .u64 0, .int .u64 0, .int .u64 0, .int .u64 0, .int .i64 0, .bool false, .slice none 0 0, .bool false, .int .u64 0, .int .u64 0, .int .u64 0, .int .u64 0, .int .u64 0, .int .u64 0, .int .u64 0, .int .u64 0, .int .i64 0, .bool false, .slice none 0 0, .bool false, .slice none 0 0, .slice none 0 0, .slice none 0 0, .int .i64 0]), 33, 392) := by kernel_rfl
theorem info_89 : (Tryz.prog.info? 89).map (fun i => (i.zero, i.size, i.bytes)) = some (some (.int .u64 0), 1, 8) := by kernel_rfl
theorem info_90 : (Tryz.prog.info? 90).map (fun i => (i.zero, i.size, i.bytes)) = some (some (.pointer none), 1, 8) := by kernel_rfl
theorem info_92 : (Tryz.prog.info? 92).map (fun i => (i.zero, i.size, i.bytes)) = some (some (.pointer none), 1, 8) := by kernel_rfl
theorem info_94 : (Tryz.prog.info? 94).map (fun i => (i.zero, i.size, i.bytes)) = some (some (.pointer none), 1, 8) := by kernel_rfl
theorem info_95 : (Tryz.prog.info? 95).map (fun i => (i.zero, i.size, i.bytes)) = some (some (.agg #[.int .i64 0, .int .i64 0, .bool false, .bool false, .bool false, .bool false, .bool false]), 7, 24) := by kernel_rfl
theorem info_96 : (Tryz.prog.info? 96).map (fun i => (i.zero, i.size, i.bytes)) = some (some (.agg #[.int .i64 0, .int .i64 0, .bool false, .bool false, .bool false, .bool false, .bool false]), 7, 24) := by kernel_rfl
theorem info_100 : (Tryz.prog.info? 100).map (fun i => (i.zero, i.size, i.bytes)) = some (some (.agg #[.int .i64 0, .int .u8 0]), 2, 16) := by kernel_rfl
theorem info_101 : (Tryz.prog.info? 101).map (fun i => (i.zero, i.size, i.bytes)) = some (some (.agg #[.int .i64 0, .int .u8 0]), 2, 16) := by kernel_rfl
theorem info_105 : (Tryz.prog.info? 105).map (fun i => (i.zero, i.size, i.bytes)) = some (some (.pointer none), 1, 8) := by kernel_rfl
theorem info_106 : (Tryz.prog.info? 106).map (fun i => (i.zero, i.size, i.bytes)) = some (some (.map none), 1, 8) := by kernel_rfl
theorem info_109 : (Tryz.prog.info? 109).map (fun i => (i.zero, i.size, i.bytes)) = some (some (.pointer none), 1, 8) := by kernel_rfl
theorem info_116 : (Tryz.prog.info? 116).map (fun i => (i.zero, i.size, i.bytes)) = some (some (.agg #[.int .i64 0, .int .i64 0]), 2, 16) := by kernel_rfl
theorem info_117 : (Tryz.prog.info? 117).map (fun i => (i.zero, i.size, i.bytes)) = some (some (.agg #[.int .i64 0, .int .i64 0]), 2, 16) := by kernel_rfl
theorem info_131 : (Tryz.prog.info? 131).map (fun i => (i.zero, i.size, i.bytes)) = some (some (.int .u32 0), 1, 4) := by kernel_rfl
theorem info_134 : (Tryz.prog.info? 134).map (fun i => (i.zero, i.size, i.bytes)) = some (some (.int .i64 0), 1, 8) := by kernel_rfl
theorem info_137 : (Tryz.prog.info? 137).map (fun i => (i.zero, i.size, i.bytes)) = some (some (.pointer none), 1, 8) := by kernel_rfl
theorem info_146 : (Tryz.prog.info? 146).map (fun i => (i.zero, i.size, i.bytes)) = some (some (.slice none 0 0), 1, 24) := by kernel_rfl
theorem info_149 : (Tryz.prog.info? 149).map (fun i => (i.zero, i.size, i.bytes)) = some (some (.agg #[.int .i64 0, .int .i64 0]), 2, 16) := by kernel_rfl
theorem info_150 : (Tryz.prog.info? 150).map (fun i => (i.zero, i.size, i.bytes)) = some (some (.agg #[.int .i64 0, .int .i64 0]), 2, 16) := by kernel_rfl
theorem info_151 : (Tryz.prog.info? 151).map (fun i => (i.zero, i.size, i.bytes)) = some (some (.agg #[.int .i64 0, .int .i64 0, .int .i64 0]), 3, 24) := by kernel_rfl
theorem info_152 : (Tryz.prog.info? 152).map (fun i => (i.zero, i.size, i.bytes)) = some (some (.agg #[.int .i64 0, .int .i64 0, .int .i64 0]), 3, 24) := by kernel_rfl
theorem info_154 : (Tryz.prog.info? 154).map (fun i => (i.zero, i.size, i.bytes)) = some (some (.pointer none), 1, 8) := by kernel_rfl
theorem info_159 : (Tryz.prog.info? 159).map (fun i => (i.zero, i.size, i.bytes)) = some (some (.agg #[.bool false, .bool false]), 2, 2) := by kernel_rfl
theorem info_160 : (Tryz.prog.info? 160).map (fun i => (i.zero, i.size, i.bytes)) = some (some (.agg #[.bool false, .bool false]), 2, 2) := by kernel_rfl
theorem info_170 : (Tryz.prog.info? 170).map (fun i => (i.zero, i.size, i.bytes)) = some (some (.agg #[.string .empty, .string .empty, .nilIface]), 3, 48) := by kernel_rfl
theorem info_171 : (Tryz.prog.info? 171).map (fun i => (i.zero, i.size, i.bytes)) = some (some (.agg #[.string .empty, .string .empty, .nilIface]), 3, 48) := by kernel_rfl
theorem info_176 : (Tryz.prog.info? 176).map (fun i => (i.zero, i.size, i.bytes)) = some (some (.pointer none), 1, 8) := by kernel_rfl
theorem info_183 : (Tryz.prog.info? 183).map (fun i => (i.zero, i.size, i.bytes)) = some (some (.pointer none), 1, 8) := by kernel_rfl
theorem info_188 : (Tryz.prog.info? 188).map (fun i => (i.zero, i.size, i.bytes)) = some (some (.agg #[.int .u8 0, .int .u8 0, .int .u8 0, .int .u8 0, .int .u8 0, .int .u8 0, .int .u8 0, .int .u8 0, .int .u8 0, .int .u8 0, .int .u8 0, .int .u8 0, .int .u8 0, .int .u8 0, .int .u8 0, .int .u8 0, .int .u8 0, .int .u8 0, .int .u8 0, .int .u8 0, .int .u8 0, .int .u8 0, .int .u8 0, .int .u8 0, .int .u8 0, .int .u8 0, .int .u8 0, .int .u8 0, .int .u8 0, .int .u8 0, .int .u8 0, .int .u8 0]), 32, 32) := by kernel_rfl
theorem info_193 : (Tryz.prog.info? 193).map (fun i => (i.zero, i.size, i.bytes)) = some (some (.agg #[]), 0, 0) := by kernel_rfl
theorem info_197 : (Tryz.prog.info? 197).map (fun i => (i.zero, i.size, i.bytes)) = some (some (.int .u8 0), 1, 1) := by kernel_rfl
theorem info_198 : (Tryz.prog.info? 198).map (fun i => (i.zero, i.size, i.bytes)) = some (some (.int .u8 0), 1, 1) := by kernel_rfl
theorem info_200 : (Tryz.prog.info? 200).map (fun i => (i.zero, i.size, i.bytes)) = some (some (.int .i32 0), 1, 4) := by kernel_rfl
theorem info_201 : (Tryz.prog.info? 201).map (fun i => (i.zero, i.size, i.bytes)) = some (some (.int .i32 0), 1, 4) := by kernel_rfl
theorem info_202 : (Tryz.prog.info? 202).map (fun i => (i.zero, i.size, i.bytes)) = some (some (.agg #[.int .u64 0, .int .u64 0, .int .u32 0, .int .u8 0, .int .u8 0, .int .u8 0, .int .u8 0, .nilFunc, .pointer none, .int .i32 0, .int .i32 0]), 11, 48) := by kernel_rfl
theorem info_203 : (Tryz.prog.info? 203).map (fun i => (i.zero, i.size, i.bytes)) = some (some (.agg #[.int .u64 0, .int .u64 0, .int .u32 0, .int .u8 0, .int .u8 0, .int .u8 0, .int .u8 0, .nilFunc, .pointer none, .int .i32 0, .int .i32 0]), 11, 48) := by kernel_rfl
theorem tabOk : Go.Ab.TabOk Tryz.prog tab := by
 intro t i h
 unfold tab at h
 split at h
 ·cases h; exact Go.Ab.tabRow Tryz.underlying2 info_2
 ·cases h; exact Go.Ab.tabRow Tryz.underlying3 info_3
 ·cases h; exact Go.Ab.tabRow Tryz.underlying4 info_4
 ·cases h; exact Go.Ab.tabRow Tryz.underlying5 info_5
 ·cases h; exact Go.Ab.tabRow Tryz.underlying6 info_6
 ·cases h; exact Go.Ab.tabRow Tryz.underlying9 info_9
 ·cases h; exact Go.Ab.tabRow Tryz.underlying10 info_10
 ·cases h; exact Go.Ab.tabRow Tryz.underlying11 info_11
 ·cases h; exact Go.Ab.tabRow Tryz.underlying12 info_12
 ·cases h; exact Go.Ab.tabRow Tryz.underlying15 info_15
 ·cases h; exact Go.Ab.tabRow Tryz.underlying16 info_16
 ·cases h; exact Go.Ab.tabRow Tryz.underlying17 info_17
 ·cases h; exact Go.Ab.tabRow Tryz.underlying21 info_21
 ·cases h; exact Go.Ab.tabRow Tryz.underlying23 info_23
 ·cases h; exact Go.Ab.tabRow Tryz.underlying24 info_24
 ·cases h; exact Go.Ab.tabRow Tryz.underlying30 info_30
 ·cases h; exact Go.Ab.tabRow Tryz.underlying36 info_36
 ·cases h; exact Go.Ab.tabRow Tryz.underlying37 info_37
 ·cases h; exact Go.Ab.tabRow Tryz.underlying38 info_38
 ·cases h; exact Go.Ab.tabRow Tryz.underlying39 info_39
 ·cases h; exact Go.Ab.tabRow Tryz.underlying40 info_40
 ·cases h; exact Go.Ab.tabRow Tryz.underlying41 info_41
 ·cases h; exact Go.Ab.tabRow Tryz.underlying42 info_42
 ·cases h; exact Go.Ab.tabRow Tryz.underlying45 info_45
 ·cases h; exact Go.Ab.tabRow Tryz.underlying46 info_46
 ·cases h; exact Go.Ab.tabRowC Tryz.underlying48 info_48 ⟨by kernel_rfl, by kernel_rfl⟩
 ·cases h; exact Go.Ab.tabRowC Tryz.underlying49 info_49 ⟨by kernel_rfl, by kernel_rfl⟩
 ·cases h; exact Go.Ab.tabRow Tryz.underlying51 info_51
 ·cases h; exact Go.Ab.tabRow Tryz.underlying54 info_54
 ·cases h; exact Go.Ab.tabRow Tryz.underlying55 info_55
 ·cases h; exact Go.Ab.tabRow Tryz.underlying56 info_56
 ·cases h; exact Go.Ab.tabRow Tryz.underlying68 info_68
 ·cases h; exact Go.Ab.tabRow Tryz.underlying72 info_72
 ·cases h; exact Go.Ab.tabRow Tryz.underlying73 info_73
 ·cases h; exact Go.Ab.tabRow Tryz.underlying74 info_74
 ·cases h; exact Go.Ab.tabRow Tryz.underlying75 info_75
 ·cases h; exact Go.Ab.tabRowC Tryz.underlying76 info_76 ⟨by kernel_rfl, by kernel_rfl⟩
 ·cases h; exact Go.Ab.tabRowC Tryz.underlying77 info_77 ⟨by kernel_rfl, by kernel_rfl⟩
 ·cases h; exact Go.Ab.tabRowC Tryz.underlying78 info_78 ⟨by kernel_rfl, by kernel_rfl⟩
 ·cases h; exact Go.Ab.tabRowC Tryz.underlying79 info_79 ⟨by kernel_rfl, by kernel_rfl⟩
 ·cases h; exact Go.Ab.tabRow Tryz.underlying80 info_80
 ·cases h; exact Go.Ab.tabRow Tryz.underlying81 info_81
 ·cases h; exact Go.Ab.tabRow Tryz.underlying82 info_82
 ·cases h; exact Go.Ab.tabRow Tryz.underlying83 info_83
 ·cases h; exact Go.Ab.tabRow Tryz.underlying84 info_84
 ·cases h; exact Go.Ab.tabRow Tryz.underlying85 info_85
 ·cases h; exact Go.Ab.tabRow Tryz.underlying86 info_86
 ·cases h; exact Go.Ab.tabRow Tryz.underlying87 info_87
 ·cases h; exact Go.Ab.tabRow Tryz.underlying89 info_89
 ·cases h; exact Go.Ab.tabRow Tryz.underlying90 info_90
 ·cases h; exact Go.Ab.tabRow Tryz.underlying92 info_92
 ·cases h; exact Go.Ab.tabRow Tryz.underlying94 info_94
 ·cases h; exact Go.Ab.tabRowC Tryz.underlying95 info_95 ⟨by kernel_rfl, by kernel_rfl⟩
 ·cases h; exact Go.Ab.tabRowC Tryz.underlying96 info_96 ⟨by kernel_rfl, by kernel_rfl⟩
 ·cases h; exact Go.Ab.tabRowC Tryz.underlying100 info_100 ⟨by kernel_rfl, by kernel_rfl⟩
 ·cases h; exact Go.Ab.tabRowC Tryz.underlying101 info_101 ⟨by kernel_rfl, by kernel_rfl⟩
 ·cases h; exact Go.Ab.tabRow Tryz.underlying105 info_105
 ·cases h; exact Go.Ab.tabRow Tryz.underlying106 info_106
 ·cases h; exact Go.Ab.tabRow Tryz.underlying109 info_109
 ·cases h; exact Go.Ab.tabRowC Tryz.underlying116 info_116 ⟨by kernel_rfl, by kernel_rfl⟩
 ·cases h; exact Go.Ab.tabRowC Tryz.underlying117 info_117 ⟨by kernel_rfl, by kernel_rfl⟩
 ·cases h; exact Go.Ab.tabRow Tryz.underlying131 info_131
 ·cases h; exact Go.Ab.tabRow Tryz.underlying134 info_134
 ·cases h; exact Go.Ab.tabRow Tryz.underlying137 info_137
 ·cases h; exact Go.Ab.tabRow Tryz.underlying146 info_146
 ·cases h; exact Go.Ab.tabRowC Tryz.underlying149 info_149 ⟨by kernel_rfl, by kernel_rfl⟩
 ·cases h; exact Go.Ab.tabRowC Tryz.underlying150 info_150 ⟨by kernel_rfl, by kernel_rfl⟩
 ·cases h; exact Go.Ab.tabRowC Tryz.underlying151 info_151 ⟨by kernel_rfl, by kernel_rfl⟩
 ·cases h; exact Go.Ab.tabRowC Tryz.underlying152 info_152 ⟨by kernel_rfl, by kernel_rfl⟩
 ·cases h; exact Go.Ab.tabRow Tryz.underlying154 info_154
 ·cases h; exact Go.Ab.tabRowC Tryz.underlying159 info_159 ⟨by kernel_rfl, by kernel_rfl⟩
 ·cases h; exact Go.Ab.tabRowC Tryz.underlying160 info_160 ⟨by kernel_rfl, by kernel_rfl⟩
 ·cases h; exact Go.Ab.tabRow Tryz.underlying170 info_170
 ·cases h; exact Go.Ab.tabRow Tryz.underlying171 info_171
 ·cases h; exact Go.Ab.tabRow Tryz.underlying176 info_176
 ·cases h; exact Go.Ab.tabRow Tryz.underlying183 info_183
 ·cases h; exact Go.Ab.tabRowC Tryz.underlying188 info_188 ⟨by kernel_rfl, by kernel_rfl⟩
 ·cases h; exact Go.Ab.tabRow Tryz.underlying193 info_193
 ·cases h; exact Go.Ab.tabRow Tryz.underlying197 info_197
 ·cases h; exact Go.Ab.tabRow Tryz.underlying198 info_198
 ·cases h; exact Go.Ab.tabRow Tryz.underlying200 info_200
 ·cases h; exact Go.Ab.tabRow Tryz.underlying201 info_201
 ·cases h; exact Go.Ab.tabRow Tryz.underlying202 info_202
 ·cases h; exact Go.Ab.tabRow Tryz.underlying203 info_203
 ·cases h
end Go.Proofs.YtaelmimkdjkmmaaGreatDoor
