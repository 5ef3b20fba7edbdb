import Derived.Test.YthmieigenefilaaGreatDoorRows
import Derived.Test.YthmieigenefilaaGreatDoorAbR
namespace Go.Proofs.YthmieigenefilaaGreatDoor
def tab : Go.Ab.Tab := fun t => match t with
 | 2 => some { under := .int .i64, size := 1, bytes := 8, zero := .int .i64 0 }
 | 3 => some { under := .int .i64, size := 1, bytes := 8, zero := .int .i64 0 }
 | 4 => some { under := .bool, size := 1, bytes := 1, zero := .bool false }
 | 5 => some { under := .int .u8, size := 1, bytes := 1, zero := .int .u8 0 }
 | 9 => some { under := .string, size := 1, bytes := 16, zero := .string .empty }
 | 22 => some { under := .slice 26, size := 1, bytes := 24, zero := .slice none 0 0 }
 | 25 => some { under := .struct #[{ name := "Kind", type := 3, offset := 0, embedded := false, tag := "", pkgPath := "", byteOffset := 0 }, { name := "Core", type := 3, offset := 1, embedded := false, tag := "", pkgPath := "", byteOffset := 8 }, { name := "N", type := 3, offset := 2, embedded := false, tag := "", pkgPath := "", byteOffset := 16 }, { name := "Byte", type := 5, offset := 3, embedded := false, tag := "", pkgPath := "", byteOffset := 24 }], size := 4, bytes := 32, zero := .agg #[.int .i64 0, .int .i64 0, .int .i64 0, .int .u8 0], cmp := true }
 | 26 => some { under := .struct #[{ name := "Kind", type := 3, offset := 0, embedded := false, tag := "", pkgPath := "", byteOffset := 0 }, { name := "Core", type := 3, offset := 1, embedded := false, tag := "", pkgPath := "", byteOffset := 8 }, { name := "N", type := 3, offset := 2, embedded := false, tag := "", pkgPath := "", byteOffset := 16 }, { name := "Byte", type := 5, offset := 3, embedded := false, tag := "", pkgPath := "", byteOffset := 24 }], size := 4, bytes := 32, zero := .agg #[.int .i64 0, .int .i64 0, .int .i64 0, .int .u8 0], cmp := true }
 | 29 => some { under := .slice 78, size := 1, bytes := 24, zero := .slice none 0 0 }
 | 30 => some { under := .slice 5, size := 1, bytes := 24, zero := .slice none 0 0 }
 | 31 => some { under := .slice 30, size := 1, bytes := 24, zero := .slice none 0 0 }
 | 32 => some { under := .struct #[{ name := "Lines", type := 31, offset := 0, embedded := false, tag := "", pkgPath := "", byteOffset := 0 }, { name := "Edit", type := 30, offset := 1, embedded := false, tag := "", pkgPath := "", byteOffset := 24 }], size := 2, bytes := 48, zero := .agg #[.slice none 0 0, .slice none 0 0] }
 | 33 => some { under := .struct #[{ name := "Lines", type := 31, offset := 0, embedded := false, tag := "", pkgPath := "", byteOffset := 0 }, { name := "Edit", type := 30, offset := 1, embedded := false, tag := "", pkgPath := "", byteOffset := 24 }], size := 2, bytes := 48, zero := .agg #[.slice none 0 0, .slice none 0 0] }
 | 34 => some { under := .struct #[{ name := "Device", type := 30, offset := 0, embedded := false, tag := "", pkgPath := "", byteOffset := 0 }, { name := "Fetched", type := 30, offset := 1, embedded := false, tag := "", pkgPath := "", byteOffset := 24 }, { name := "Tty", type := 33, offset := 2, embedded := false, tag := "", pkgPath := "", byteOffset := 48 }, { name := "Lost", type := 3, offset := 4, embedded := false, tag := "", pkgPath := "", byteOffset := 96 }, { name := "Taken", type := 3, offset := 5, embedded := false, tag := "", pkgPath := "", byteOffset := 104 }], size := 6, bytes := 112, zero := .agg #[.slice none 0 0, .slice none 0 0, .slice none 0 0, .slice none 0 0, .int .i64 0, .int .i64 0] }
 | 35 => some { under := .struct #[{ name := "Device", type := 30, offset := 0, embedded := false, tag := "", pkgPath := "", byteOffset := 0 }, { name := "Fetched", type := 30, offset := 1, embedded := false, tag := "", pkgPath := "", byteOffset := 24 }, { name := "Tty", type := 33, offset := 2, embedded := false, tag := "", pkgPath := "", byteOffset := 48 }, { name := "Lost", type := 3, offset := 4, embedded := false, tag := "", pkgPath := "", byteOffset := 96 }, { name := "Taken", type := 3, offset := 5, embedded := false, tag := "", pkgPath := "", byteOffset := 104 }], size := 6, bytes := 112, zero := .agg #[.slice none 0 0, .slice none 0 0, .slice none 0 0, .slice none 0 0, .int .i64 0, .int .i64 0] }
 | 39 => some { under := .slice 98, size := 1, bytes := 24, zero := .slice none 0 0 }
 | 40 => some { under := .slice 4, size := 1, bytes := 24, zero := .slice none 0 0 }
 | 41 => some { under := .slice 103, size := 1, bytes := 24, zero := .slice none 0 0 }
 | 42 => some { under := .slice 44, size := 1, bytes := 24, zero := .slice none 0 0 }
 | 43 => some { under := .slice 50, size := 1, bytes := 24, zero := .slice none 0 0 }
 | 44 => some { under := .int .i64, size := 1, bytes := 8, zero := .int .i64 0 }
 | 47 => some { under := .slice 52, size := 1, bytes := 24, zero := .slice none 0 0 }
 | 48 => some { under := .slice 3, size := 1, bytes := 24, zero := .slice none 0 0 }
 | 49 => some { under := .struct #[{ name := "Core", type := 3, offset := 0, embedded := false, tag := "", pkgPath := "", byteOffset := 0 }, { name := "Vec", type := 3, offset := 1, embedded := false, tag := "", pkgPath := "", byteOffset := 8 }], size := 2, bytes := 16, zero := .agg #[.int .i64 0, .int .i64 0], cmp := true }
 | 50 => some { under := .struct #[{ name := "Core", type := 3, offset := 0, embedded := false, tag := "", pkgPath := "", byteOffset := 0 }, { name := "Vec", type := 3, offset := 1, embedded := false, tag := "", pkgPath := "", byteOffset := 8 }], size := 2, bytes := 16, zero := .agg #[.int .i64 0, .int .i64 0], cmp := true }
 | 51 => some { under := .struct #[{ name := "Core", type := 3, offset := 0, embedded := false, tag := "", pkgPath := "", byteOffset := 0 }, { name := "Vec", type := 3, offset := 1, embedded := false, tag := "", pkgPath := "", byteOffset := 8 }, { name := "Level", type := 4, offset := 2, embedded := false, tag := "", pkgPath := "", byteOffset := 16 }, { name := "Masked", type := 4, offset := 3, embedded := false, tag := "", pkgPath := "", byteOffset := 17 }, { name := "Up", type := 4, offset := 4, embedded := false, tag := "", pkgPath := "", byteOffset := 18 }, { name := "Kept", type := 4, offset := 5, embedded := false, tag := "", pkgPath := "", byteOffset := 19 }, { name := "Sent", type := 4, offset := 6, embedded := false, tag := "", pkgPath := "", byteOffset := 20 }], size := 7, bytes := 24, zero := .agg #[.int .i64 0, .int .i64 0, .bool false, .bool false, .bool false, .bool false, .bool false], cmp := true }
 | 52 => some { under := .struct #[{ name := "Core", type := 3, offset := 0, embedded := false, tag := "", pkgPath := "", byteOffset := 0 }, { name := "Vec", type := 3, offset := 1, embedded := false, tag := "", pkgPath := "", byteOffset := 8 }, { name := "Level", type := 4, offset := 2, embedded := false, tag := "", pkgPath := "", byteOffset := 16 }, { name := "Masked", type := 4, offset := 3, embedded := false, tag := "", pkgPath := "", byteOffset := 17 }, { name := "Up", type := 4, offset := 4, embedded := false, tag := "", pkgPath := "", byteOffset := 18 }, { name := "Kept", type := 4, offset := 5, embedded := false, tag := "", pkgPath := "", byteOffset := 19 }, { name := "Sent", type := 4, offset := 6, embedded := false, tag := "", pkgPath := "", byteOffset := 20 }], size := 7, bytes := 24, zero := .agg #[.int .i64 0, .int .i64 0, .bool false, .bool false, .bool false, .bool false, .bool false], cmp := true }
 | 53 => some { under := .slice 58, size := 1, bytes := 24, zero := .slice none 0 0 }
 | 56 => some { under := .map 50 3, size := 1, bytes := 8, zero := .map none }
 | 57 => some { under := .struct #[{ name := "Pin", type := 3, offset := 0, embedded := false, tag := "", pkgPath := "", byteOffset := 0 }, { name := "Core", type := 3, offset := 1, embedded := false, tag := "", pkgPath := "", byteOffset := 8 }, { name := "Vec", type := 3, offset := 2, embedded := false, tag := "", pkgPath := "", byteOffset := 16 }], size := 3, bytes := 24, zero := .agg #[.int .i64 0, .int .i64 0, .int .i64 0], cmp := true }
 | 58 => some { under := .struct #[{ name := "Pin", type := 3, offset := 0, embedded := false, tag := "", pkgPath := "", byteOffset := 0 }, { name := "Core", type := 3, offset := 1, embedded := false, tag := "", pkgPath := "", byteOffset := 8 }, { name := "Vec", type := 3, offset := 2, embedded := false, tag := "", pkgPath := "", byteOffset := 16 }], size := 3, bytes := 24, zero := .agg #[.int .i64 0, .int .i64 0, .int .i64 0], cmp := true }
 | 61 => some { under := .int .u64, size := 1, bytes := 8, zero := .int .u64 0 }
 | 62 => some { under := .array 4 61, size := 4, bytes := 32, zero := .agg #[.int .u64 0, .int .u64 0, .int .u64 0, .int .u64 0], cmp := true }
 | 63 => some { under := .array 4 61, size := 4, bytes := 32, zero := .agg #[.int .u64 0, .int .u64 0, .int .u64 0, .int .u64 0], cmp := true }
 | 68 => some { under := .slice 9, size := 1, bytes := 24, zero := .slice none 0 0 }
 | 75 => some { under := .pointer 92, size := 1, bytes := 8, zero := .pointer none }
 | 77 => some { under := .struct #[{ name := "Err", type := 44, offset := 0, embedded := false, tag := "", pkgPath := "", byteOffset := 0 }, { name := "Data", type := 30, offset := 1, embedded := false, tag := "", pkgPath := "", byteOffset := 8 }], size := 2, bytes := 32, zero := .agg #[.int .i64 0, .slice none 0 0] }
 | 78 => some { under := .struct #[{ name := "Err", type := 44, offset := 0, embedded := false, tag := "", pkgPath := "", byteOffset := 0 }, { name := "Data", type := 30, offset := 1, embedded := false, tag := "", pkgPath := "", byteOffset := 8 }], size := 2, bytes := 32, zero := .agg #[.int .i64 0, .slice none 0 0] }
 | 81 => some { under := .struct #[{ name := "In", type := 30, offset := 0, embedded := false, tag := "", pkgPath := "", byteOffset := 0 }, { name := "Out", type := 30, offset := 1, embedded := false, tag := "", pkgPath := "", byteOffset := 24 }, { name := "Lost", type := 3, offset := 2, embedded := false, tag := "", pkgPath := "", byteOffset := 48 }, { name := "Asks", type := 4, offset := 3, embedded := false, tag := "", pkgPath := "", byteOffset := 56 }], size := 4, bytes := 64, zero := .agg #[.slice none 0 0, .slice none 0 0, .int .i64 0, .bool false] }
 | 82 => some { under := .struct #[{ name := "In", type := 30, offset := 0, embedded := false, tag := "", pkgPath := "", byteOffset := 0 }, { name := "Out", type := 30, offset := 1, embedded := false, tag := "", pkgPath := "", byteOffset := 24 }, { name := "Lost", type := 3, offset := 2, embedded := false, tag := "", pkgPath := "", byteOffset := 48 }, { name := "Asks", type := 4, offset := 3, embedded := false, tag := "", pkgPath := "", byteOffset := 56 }], size := 4, bytes := 64, zero := .agg #[.slice none 0 0, .slice none 0 0, .int .i64 0, .bool false] }
 | 83 => some { under := .struct #[{ name := "Asked", type := 63, offset := 0, embedded := false, tag := "", pkgPath := "", byteOffset := 0 }, { name := "Served", type := 63, offset := 4, embedded := false, tag := "", pkgPath := "", byteOffset := 32 }, { name := "Class", type := 3, offset := 8, embedded := false, tag := "", pkgPath := "", byteOffset := 64 }], size := 9, bytes := 72, zero := .agg #[.int .u64 0, .int .u64 0, .int .u64 0, .int .u64 0, .int .u64 0, .int .u64 0, .int .u64 0, .int .u64 0, .int .i64 0], cmp := true }
 | 84 => some { under := .struct #[{ name := "Asked", type := 63, offset := 0, embedded := false, tag := "", pkgPath := "", byteOffset := 0 }, { name := "Served", type := 63, offset := 4, embedded := false, tag := "", pkgPath := "", byteOffset := 32 }, { name := "Class", type := 3, offset := 8, embedded := false, tag := "", pkgPath := "", byteOffset := 64 }], size := 9, bytes := 72, zero := .agg #[.int .u64 0, .int .u64 0, .int .u64 0, .int .u64 0, .int .u64 0, .int .u64 0, .int .u64 0, .int .u64 0, .int .i64 0], cmp := true }
 | 85 => some { under := .slice 188, size := 1, bytes := 24, zero := .slice none 0 0 }
 | 86 => some { under := .struct #[{ name := "On", type := 4, offset := 0, embedded := false, tag := "", pkgPath := "", byteOffset := 0 }, { name := "Kept", type := 85, offset := 1, embedded := false, tag := "", pkgPath := "", byteOffset := 8 }], size := 2, bytes := 32, zero := .agg #[.bool false, .slice none 0 0] }
 | 87 => some { under := .struct #[{ name := "On", type := 4, offset := 0, embedded := false, tag := "", pkgPath := "", byteOffset := 0 }, { name := "Kept", type := 85, offset := 1, embedded := false, tag := "", pkgPath := "", byteOffset := 8 }], size := 2, bytes := 32, zero := .agg #[.bool false, .slice none 0 0] }
 | 88 => some { under := .struct #[{ name := "local", type := 84, offset := 0, embedded := false, tag := "", pkgPath := "corebell/kernel", byteOffset := 0 }, { name := "nest", type := 87, offset := 9, embedded := false, tag := "", pkgPath := "corebell/kernel", byteOffset := 72 }, { name := "serving", type := 4, offset := 11, embedded := false, tag := "", pkgPath := "corebell/kernel", byteOffset := 104 }], size := 12, bytes := 112, zero := .agg #[.int .u64 0, .int .u64 0, .int .u64 0, .int .u64 0, .int .u64 0, .int .u64 0, .int .u64 0, .int .u64 0, .int .i64 0, .bool false, .slice none 0 0, .bool false] }
 | 89 => some { under := .struct #[{ name := "local", type := 84, offset := 0, embedded := false, tag := "", pkgPath := "corebell/kernel", byteOffset := 0 }, { name := "nest", type := 87, offset := 9, embedded := false, tag := "", pkgPath := "corebell/kernel", byteOffset := 72 }, { name := "serving", type := 4, offset := 11, embedded := false, tag := "", pkgPath := "corebell/kernel", byteOffset := 104 }], size := 12, bytes := 112, zero := .agg #[.int .u64 0, .int .u64 0, .int .u64 0, .int .u64 0, .int .u64 0, .int .u64 0, .int .u64 0, .int .u64 0, .int .i64 0, .bool false, .slice none 0 0, .bool false] }
 | 90 => some { under := .array 2 89, size := 24, bytes := 224, zero := .agg #[.int .u64 0, .int .u64 0, .int .u64 0, .int .u64 0, .int .u64 0, .int .u64 0, .int .u64 0, .int .u64 0, .int .i64 0, .bool false, .slice none 0 0, .bool false, .int .u64 0, .int .u64 0, .int .u64 0, .int .u64 0, .int .u64 0, .int .u64 0, .int .u64 0, .int .u64 0, .int .i64 0, .bool false, .slice none 0 0, .bool false] }
 | 91 => some { under := .struct #[{ name := "uart", type := 82, offset := 0, embedded := false, tag := "", pkgPath := "corebell/kernel", byteOffset := 0 }, { name := "pins", type := 47, offset := 4, embedded := false, tag := "", pkgPath := "corebell/kernel", byteOffset := 64 }, { name := "cores", type := 90, offset := 5, embedded := false, tag := "", pkgPath := "corebell/kernel", byteOffset := 88 }, { name := "fetched", type := 30, offset := 29, embedded := false, tag := "", pkgPath := "corebell/kernel", byteOffset := 312 }, { name := "tty", type := 33, offset := 30, embedded := false, tag := "", pkgPath := "corebell/kernel", byteOffset := 336 }, { name := "taken", type := 3, offset := 32, embedded := false, tag := "", pkgPath := "corebell/kernel", byteOffset := 384 }], size := 33, bytes := 392, zero := .agg #[.slice none 0 0, .slice none 0 0, .int .i64 0, .bool false, .slice none 0 0, .int .u64 0, .int .u64 0, .int .u64 0, .int .u64 0, .int .u64 0, .int .u64 0, .int .u64 0, .int .u64 0, .int .i64 0, .bool false, .slice none 0 0, .bool false, .int .u64 0, .int .u64 0, .int .u64 0, .int .u64 0, .int .u64 0, .int .u64 0, .int .u64 0, .int .u64 0, .int .i64 0, .bool false, .slice none 0 0, .bool false, .slice none 0 0, .slice none 0 0, .slice none 0 0, .int .i64 0] }
 | 92 => some { under := .struct #[{ name := "uart", type := 82, offset := 0, embedded := false, tag := "", pkgPath := "corebell/kernel", byteOffset := 0 }, { name := "pins", type := 47, offset := 4, embedded := false, tag := "", pkgPath := "corebell/kernel", byteOffset := 64 }, { name := "cores", type := 90, offset := 5, embedded := false, tag := "", pkgPath := "corebell/kernel", byteOffset := 88 }, { name := "fetched", type := 30, offset := 29, embedded := false, tag := "", pkgPath := "corebell/kernel", byteOffset := 312 }, { name := "tty", type := 33, offset := 30, embedded := false, tag := "", pkgPath := "corebell/kernel", byteOffset := 336 }, { name := "taken", type := 3, offset := 32, embedded := false, tag := "", pkgPath := "corebell/kernel", byteOffset := 384 }], size := 33, bytes := 392, zero := .agg #[.slice none 0 0, .slice none 0 0, .int .i64 0, .bool false, .slice none 0 0, .int .u64 0, .int .u64 0, .int .u64 0, .int .u64 0, .int .u64 0, .int .u64 0, .int .u64 0, .int .u64 0, .int .i64 0, .bool false, .slice none 0 0, .bool false, .int .u64 0, .int .u64 0, .int .u64 0, .int .u64 0, .int .u64 0, .int .u64 0, .int .u64 0, .int .u64 0, .int .i64 0, .bool false, .slice none 0 0, .bool false, .slice none 0 0, .slice none 0 0, .slice none 0 0, .int .i64 0] }
 | 93 => some { under := .pointer 96, size := 1, bytes := 8, zero := .pointer none }
 | 94 => some { under := .slice 63, size := 1, bytes := 24, zero := .slice none 0 0 }
 | 95 => some { under := .struct #[{ name := "cores", type := 3, offset := 0, embedded := false, tag := "", pkgPath := "corebell/vector", byteOffset := 0 }, { name := "of", type := 43, offset := 1, embedded := false, tag := "", pkgPath := "corebell/vector", byteOffset := 8 }, { name := "taken", type := 94, offset := 2, embedded := false, tag := "", pkgPath := "corebell/vector", byteOffset := 32 }], size := 3, bytes := 56, zero := .agg #[.int .i64 0, .slice none 0 0, .slice none 0 0] }
 | 96 => some { under := .struct #[{ name := "cores", type := 3, offset := 0, embedded := false, tag := "", pkgPath := "corebell/vector", byteOffset := 0 }, { name := "of", type := 43, offset := 1, embedded := false, tag := "", pkgPath := "corebell/vector", byteOffset := 8 }, { name := "taken", type := 94, offset := 2, embedded := false, tag := "", pkgPath := "corebell/vector", byteOffset := 32 }], size := 3, bytes := 56, zero := .agg #[.int .i64 0, .slice none 0 0, .slice none 0 0] }
 | 97 => some { under := .struct #[{ name := "Kind", type := 3, offset := 0, embedded := false, tag := "", pkgPath := "", byteOffset := 0 }, { name := "Line", type := 3, offset := 1, embedded := false, tag := "", pkgPath := "", byteOffset := 8 }, { name := "Mask", type := 3, offset := 2, embedded := false, tag := "", pkgPath := "", byteOffset := 16 }], size := 3, bytes := 24, zero := .agg #[.int .i64 0, .int .i64 0, .int .i64 0], cmp := true }
 | 98 => some { under := .struct #[{ name := "Kind", type := 3, offset := 0, embedded := false, tag := "", pkgPath := "", byteOffset := 0 }, { name := "Line", type := 3, offset := 1, embedded := false, tag := "", pkgPath := "", byteOffset := 8 }, { name := "Mask", type := 3, offset := 2, embedded := false, tag := "", pkgPath := "", byteOffset := 16 }], size := 3, bytes := 24, zero := .agg #[.int .i64 0, .int .i64 0, .int .i64 0], cmp := true }
 | 102 => some { under := .struct #[{ name := "Kind", type := 3, offset := 0, embedded := false, tag := "", pkgPath := "", byteOffset := 0 }, { name := "Pin", type := 3, offset := 1, embedded := false, tag := "", pkgPath := "", byteOffset := 8 }], size := 2, bytes := 16, zero := .agg #[.int .i64 0, .int .i64 0], cmp := true }
 | 103 => some { under := .struct #[{ name := "Kind", type := 3, offset := 0, embedded := false, tag := "", pkgPath := "", byteOffset := 0 }, { name := "Pin", type := 3, offset := 1, embedded := false, tag := "", pkgPath := "", byteOffset := 8 }], size := 2, bytes := 16, zero := .agg #[.int .i64 0, .int .i64 0], cmp := true }
 | 129 => some { under := .struct #[{ name := "Kind", type := 3, offset := 0, embedded := false, tag := "", pkgPath := "", byteOffset := 0 }, { name := "Byte", type := 5, offset := 1, embedded := false, tag := "", pkgPath := "", byteOffset := 8 }], size := 2, bytes := 16, zero := .agg #[.int .i64 0, .int .u8 0], cmp := true }
 | 130 => some { under := .struct #[{ name := "Kind", type := 3, offset := 0, embedded := false, tag := "", pkgPath := "", byteOffset := 0 }, { name := "Byte", type := 5, offset := 1, embedded := false, tag := "", pkgPath := "", byteOffset := 8 }], size := 2, bytes := 16, zero := .agg #[.int .i64 0, .int .u8 0], cmp := true }
 | 134 => some { under := .pointer 89, size := 1, bytes := 8, zero := .pointer none }
 | 135 => some { under := .map 3 3, size := 1, bytes := 8, zero := .map none }
 | 140 => some { under := .pointer 52, size := 1, bytes := 8, zero := .pointer none }
 | 159 => some { under := .struct #[{ name := "Kind", type := 3, offset := 0, embedded := false, tag := "", pkgPath := "", byteOffset := 0 }, { name := "N", type := 3, offset := 1, embedded := false, tag := "", pkgPath := "", byteOffset := 8 }], size := 2, bytes := 16, zero := .agg #[.int .i64 0, .int .i64 0], cmp := true }
 | 160 => some { under := .struct #[{ name := "Kind", type := 3, offset := 0, embedded := false, tag := "", pkgPath := "", byteOffset := 0 }, { name := "N", type := 3, offset := 1, embedded := false, tag := "", pkgPath := "", byteOffset := 8 }], size := 2, bytes := 16, zero := .agg #[.int .i64 0, .int .i64 0], cmp := true }
 | 182 => some { under := .pointer 33, size := 1, bytes := 8, zero := .pointer none }
 | 187 => some { under := .struct #[{ name := "On", type := 4, offset := 0, embedded := false, tag := "", pkgPath := "", byteOffset := 0 }, { name := "Irq", type := 4, offset := 1, embedded := false, tag := "", pkgPath := "", byteOffset := 1 }], size := 2, bytes := 2, zero := .agg #[.bool false, .bool false], cmp := true }
 | 188 => some { under := .struct #[{ name := "On", type := 4, offset := 0, embedded := false, tag := "", pkgPath := "", byteOffset := 0 }, { name := "Irq", type := 4, offset := 1, embedded := false, tag := "", pkgPath := "", byteOffset := 1 }], size := 2, bytes := 2, zero := .agg #[.bool false, .bool false], cmp := true }
 | _ => none
theorem info_2 : (Tryz.prog.info? 2).map (fun i => (i.zero, i.size, i.bytes)) = some (some (.int .i64 0), 1, 8) := by kernel_rfl
theorem info_3 : (Tryz.prog.info? 3).map (fun i => (i.zero, i.size, i.bytes)) = some (some (.int .i64 0), 1, 8) := by kernel_rfl
theorem info_4 : (Tryz.prog.info? 4).map (fun i => (i.zero, i.size, i.bytes)) = some (some (.bool false), 1, 1) := by kernel_rfl
theorem info_5 : (Tryz.prog.info? 5).map (fun i => (i.zero, i.size, i.bytes)) = some (some (.int .u8 0), 1, 1) := by kernel_rfl
theorem info_9 : (Tryz.prog.info? 9).map (fun i => (i.zero, i.size, i.bytes)) = some (some (.string .empty), 1, 16) := by kernel_rfl
theorem info_22 : (Tryz.prog.info? 22).map (fun i => (i.zero, i.size, i.bytes)) = some (some (.slice none 0 0), 1, 24) := by kernel_rfl
theorem info_25 : (Tryz.prog.info? 25).map (fun i => (i.zero, i.size, i.bytes)) = some (some (.agg #[.int .i64 0, .int .i64 0, .int .i64 0, .int .u8 0]), 4, 32) := by kernel_rfl
theorem info_26 : (Tryz.prog.info? 26).map (fun i => (i.zero, i.size, i.bytes)) = some (some (.agg #[.int .i64 0, .int .i64 0, .int .i64 0, .int .u8 0]), 4, 32) := by kernel_rfl
theorem info_29 : (Tryz.prog.info? 29).map (fun i => (i.zero, i.size, i.bytes)) = some (some (.slice none 0 0), 1, 24) := by kernel_rfl
theorem info_30 : (Tryz.prog.info? 30).map (fun i => (i.zero, i.size, i.bytes)) = some (some (.slice none 0 0), 1, 24) := by kernel_rfl
theorem info_31 : (Tryz.prog.info? 31).map (fun i => (i.zero, i.size, i.bytes)) = some (some (.slice none 0 0), 1, 24) := by kernel_rfl
theorem info_32 : (Tryz.prog.info? 32).map (fun i => (i.zero, i.size, i.bytes)) = some (some (.agg #[.slice none 0 0, .slice none 0 0]), 2, 48) := by kernel_rfl
theorem info_33 : (Tryz.prog.info? 33).map (fun i => (i.zero, i.size, i.bytes)) = some (some (.agg #[.slice none 0 0, .slice none 0 0]), 2, 48) := by kernel_rfl
theorem info_34 : (Tryz.prog.info? 34).map (fun i => (i.zero, i.size, i.bytes)) = some (some (.agg #[.slice none 0 0, .slice none 0 0, .slice none 0 0, .slice none 0 0, .int .i64 0, .int .i64 0]), 6, 112) := by kernel_rfl
theorem info_35 : (Tryz.prog.info? 35).map (fun i => (i.zero, i.size, i.bytes)) = some (some (.agg #[.slice none 0 0, .slice none 0 0, .slice none 0 0, .slice none 0 0, .int .i64 0, .int .i64 0]), 6, 112) := by kernel_rfl
theorem info_39 : (Tryz.prog.info? 39).map (fun i => (i.zero, i.size, i.bytes)) = some (some (.slice none 0 0), 1, 24) := by kernel_rfl
theorem info_40 : (Tryz.prog.info? 40).map (fun i => (i.zero, i.size, i.bytes)) = some (some (.slice none 0 0), 1, 24) := by kernel_rfl
theorem info_41 : (Tryz.prog.info? 41).map (fun i => (i.zero, i.size, i.bytes)) = some (some (.slice none 0 0), 1, 24) := by kernel_rfl
theorem info_42 : (Tryz.prog.info? 42).map (fun i => (i.zero, i.size, i.bytes)) = some (some (.slice none 0 0), 1, 24) := by kernel_rfl
theorem info_43 : (Tryz.prog.info? 43).map (fun i => (i.zero, i.size, i.bytes)) = some (some (.slice none 0 0), 1, 24) := by kernel_rfl
theorem info_44 : (Tryz.prog.info? 44).map (fun i => (i.zero, i.size, i.bytes)) = some (some (.int .i64 0), 1, 8) := by kernel_rfl
theorem info_47 : (Tryz.prog.info? 47).map (fun i => (i.zero, i.size, i.bytes)) = some (some (.slice none 0 0), 1, 24) := by kernel_rfl
theorem info_48 : (Tryz.prog.info? 48).map (fun i => (i.zero, i.size, i.bytes)) = some (some (.slice none 0 0), 1, 24) := by kernel_rfl
theorem info_49 : (Tryz.prog.info? 49).map (fun i => (i.zero, i.size, i.bytes)) = some (some (.agg #[.int .i64 0, .int .i64 0]), 2, 16) := by kernel_rfl
theorem info_50 : (Tryz.prog.info? 50).map (fun i => (i.zero, i.size, i.bytes)) = some (some (.agg #[.int .i64 0, .int .i64 0]), 2, 16) := by kernel_rfl
theorem info_51 : (Tryz.prog.info? 51).map (fun i => (i.zero, i.size, i.bytes)) = some (some (.agg #[.int .i64 0, .int .i64 0, .bool false, .bool false, .bool false, .bool false, .bool false]), 7, 24) := by kernel_rfl
theorem info_52 : (Tryz.prog.info? 52).map (fun i => (i.zero, i.size, i.bytes)) = some (some (.agg #[.int .i64 0, .int .i64 0, .bool false, .bool false, .bool false, .bool false, .bool false]), 7, 24) := by kernel_rfl
theorem info_53 : (Tryz.prog.info? 53).map (fun i => (i.zero, i.size, i.bytes)) = some (some (.slice none 0 0), 1, 24) := by kernel_rfl
theorem info_56 : (Tryz.prog.info? 56).map (fun i => (i.zero, i.size, i.bytes)) = some (some (.map none), 1, 8) := by kernel_rfl
theorem info_57 : (Tryz.prog.info? 57).map (fun i => (i.zero, i.size, i.bytes)) = some (some (.agg #[.int .i64 0, .int .i64 0, .int .i64 0]), 3, 24) := by kernel_rfl
theorem info_58 : (Tryz.prog.info? 58).map (fun i => (i.zero, i.size, i.bytes)) = some (some (.agg #[.int .i64 0, .int .i64 0, .int .i64 0]), 3, 24) := by kernel_rfl
theorem info_61 : (Tryz.prog.info? 61).map (fun i => (i.zero, i.size, i.bytes)) = some (some (.int .u64 0), 1, 8) := by kernel_rfl
theorem info_62 : (Tryz.prog.info? 62).map (fun i => (i.zero, i.size, i.bytes)) = some (some (.agg #[.int .u64 0, .int .u64 0, .int .u64 0, .int .u64 0]), 4, 32) := by kernel_rfl
theorem info_63 : (Tryz.prog.info? 63).map (fun i => (i.zero, i.size, i.bytes)) = some (some (.agg #[.int .u64 0, .int .u64 0, .int .u64 0, .int .u64 0]), 4, 32) := by kernel_rfl
theorem info_68 : (Tryz.prog.info? 68).map (fun i => (i.zero, i.size, i.bytes)) = some (some (.slice none 0 0), 1, 24) := by kernel_rfl
theorem info_75 : (Tryz.prog.info? 75).map (fun i => (i.zero, i.size, i.bytes)) = some (some (.pointer none), 1, 8) := by kernel_rfl
theorem info_77 : (Tryz.prog.info? 77).map (fun i => (i.zero, i.size, i.bytes)) = some (some (.agg #[.int .i64 0, .slice none 0 0]), 2, 32) := by kernel_rfl
theorem info_78 : (Tryz.prog.info? 78).map (fun i => (i.zero, i.size, i.bytes)) = some (some (.agg #[.int .i64 0, .slice none 0 0]), 2, 32) := by kernel_rfl
theorem info_81 : (Tryz.prog.info? 81).map (fun i => (i.zero, i.size, i.bytes)) = some (some (.agg #[.slice none 0 0, .slice none 0 0, .int .i64 0, .bool false]), 4, 64) := by kernel_rfl
theorem info_82 : (Tryz.prog.info? 82).map (fun i => (i.zero, i.size, i.bytes)) = some (some (.agg #[.slice none 0 0, .slice none 0 0, .int .i64 0, .bool false]), 4, 64) := by kernel_rfl
theorem info_83 : (Tryz.prog.info? 83).map (fun i => (i.zero, i.size, i.bytes)) = some (some (.agg #[.int .u64 0, .int .u64 0, .int .u64 0, .int .u64 0, .int .u64 0, .int .u64 0, .int .u64 0, .int .u64 0, .int .i64 0]), 9, 72) := by kernel_rfl
theorem info_84 : (Tryz.prog.info? 84).map (fun i => (i.zero, i.size, i.bytes)) = some (some (.agg #[.int .u64 0, .int .u64 0, .int .u64 0, .int .u64 0, .int .u64 0, .int .u64 0, .int .u64 0, .int .u64 0, .int .i64 0]), 9, 72) := by kernel_rfl
theorem info_85 : (Tryz.prog.info? 85).map (fun i => (i.zero, i.size, i.bytes)) = some (some (.slice none 0 0), 1, 24) := by kernel_rfl
theorem info_86 : (Tryz.prog.info? 86).map (fun i => (i.zero, i.size, i.bytes)) = some (some (.agg #[.bool false, .slice none 0 0]), 2, 32) := by kernel_rfl
theorem info_87 : (Tryz.prog.info? 87).map (fun i => (i.zero, i.size, i.bytes)) = some (some (.agg #[.bool false, .slice none 0 0]), 2, 32) := by kernel_rfl
theorem info_88 : (Tryz.prog.info? 88).map (fun i => (i.zero, i.size, i.bytes)) = some (some (.agg #[.int .u64 0, .int .u64 0, .int .u64 0, .int .u64 0, .int .u64 0, .int .u64 0, .int .u64 0, .int .u64 0, .int .i64 0, .bool false, .slice none 0 0, .bool false]), 12, 112) := by kernel_rfl
theorem info_89 : (Tryz.prog.info? 89).map (fun i => (i.zero, i.size, i.bytes)) = some (some (.agg #[.int .u64 0, .int .u64 0, .int .u64 0, .int .u64 0, .int .u64 0, .int .u64 0, .int .u64 0, .int .u64 0, .int .i64 0, .bool false, .slice none 0 0, .bool false]), 12, 112) := by kernel_rfl
theorem info_90 : (Tryz.prog.info? 90).map (fun i => (i.zero, i.size, i.bytes)) = some (some (.agg #[.int .u64 0, .int .u64 0, .int .u64 0, .int .u64 0, .int .u64 0, .int .u64 0, .int .u64 0, .int .u64 0, .int .i64 0, .bool false, .slice none 0 0, .bool false, .int .u64 0, .int .u64 0, .int .u64 0, .int .u64 0, .int .u64 0, .int .u64 0, .int .u64 0, .int .u64 0, .int .i64 0, .bool false, .slice none 0 0, .bool false]), 24, 224) := by kernel_rfl
theorem info_91 : (Tryz.prog.info? 91).map (fun i => (i.zero, i.size, i.bytes)) = some (some (.agg #[.slice none 0 0, .slice none 0 0, .int .i64 0, .bool false, .slice none 0 0, .int .u64 0, .int .u64 0, .int .u64 0, .int .u64 0, .int .u64 0, .int .u64 0, .int .u64 0, .int .u64 0, .int .i64 0, .bool false, .slice none 0 0, .bool false, .int .u64 0, .int .u64 0, .int .u64 0, .int .u64 0, .int .u64 0, .int .u64 0, .int .u64 0, .int .u64 0, .int .i64 0, .bool false, .slice none 0 0, .bool false, .slice none 0 0, .slice none 0 0, .slice none 0 0, .int .i64 0]), 33, 392) := by kernel_rfl
theorem info_92 : (Tryz.prog.info? 92).map (fun i => (i.zero, i.size, i.bytes)) = some (some (.agg #[.slice none 0 0, .slice none 0 0, .int .i64 0, .bool false, .slice none 0 0, .int .u64 0, .int .u64 0, .int .u64 0, .int .u64 0, .int .u64 0, .int .u64 0, .int .u64 0, .int .u64 0, .int .i64 0, .bool false, .slice none 0 0, .bool false, .int .u64 0, .int .u64 0, .int .u64 0, .int .u64 0, .int .u64 0, .int .u64 0, .int .u64 0, .int .u64 0, .int .i64 0, .bool false, .slice none 0 0, .bool false, .slice none 0 0, .slice none 0 0, .slice none 0 0, .int .i64 0]), 33, 392) := by kernel_rfl
theorem info_93 : (Tryz.prog.info? 93).map (fun i => (i.zero, i.size, i.bytes)) = some (some (.pointer none), 1, 8) := by kernel_rfl
theorem info_94 : (Tryz.prog.info? 94).map (fun i => (i.zero, i.size, i.bytes)) = some (some (.slice none 0 0), 1, 24) := by kernel_rfl
theorem info_95 : (Tryz.prog.info? 95).map (fun i => (i.zero, i.size, i.bytes)) = some (some (.agg #[.int .i64 0, .slice none 0 0, .slice none 0 0]), 3, 56) := by kernel_rfl
theorem info_96 : (Tryz.prog.info? 96).map (fun i => (i.zero, i.size, i.bytes)) = some (some (.agg #[.int .i64 0, .slice none 0 0, .slice none 0 0]), 3, 56) := by kernel_rfl
theorem info_97 : (Tryz.prog.info? 97).map (fun i => (i.zero, i.size, i.bytes)) = some (some (.agg #[.int .i64 0, .int .i64 0, .int .i64 0]), 3, 24) := by kernel_rfl
theorem info_98 : (Tryz.prog.info? 98).map (fun i => (i.zero, i.size, i.bytes)) = some (some (.agg #[.int .i64 0, .int .i64 0, .int .i64 0]), 3, 24) := by kernel_rfl
theorem info_102 : (Tryz.prog.info? 102).map (fun i => (i.zero, i.size, i.bytes)) = some (some (.agg #[.int .i64 0, .int .i64 0]), 2, 16) := by kernel_rfl
theorem info_103 : (Tryz.prog.info? 103).map (fun i => (i.zero, i.size, i.bytes)) = some (some (.agg #[.int .i64 0, .int .i64 0]), 2, 16) := by kernel_rfl
theorem info_129 : (Tryz.prog.info? 129).map (fun i => (i.zero, i.size, i.bytes)) = some (some (.agg #[.int .i64 0, .int .u8 0]), 2, 16) := by kernel_rfl
theorem info_130 : (Tryz.prog.info? 130).map (fun i => (i.zero, i.size, i.bytes)) = some (some (.agg #[.int .i64 0, .int .u8 0]), 2, 16) := by kernel_rfl
theorem info_134 : (Tryz.prog.info? 134).map (fun i => (i.zero, i.size, i.bytes)) = some (some (.pointer none), 1, 8) := by kernel_rfl
theorem info_135 : (Tryz.prog.info? 135).map (fun i => (i.zero, i.size, i.bytes)) = some (some (.map none), 1, 8) := by kernel_rfl
theorem info_140 : (Tryz.prog.info? 140).map (fun i => (i.zero, i.size, i.bytes)) = some (some (.pointer none), 1, 8) := by kernel_rfl
theorem info_159 : (Tryz.prog.info? 159).map (fun i => (i.zero, i.size, i.bytes)) = some (some (.agg #[.int .i64 0, .int .i64 0]), 2, 16) := by kernel_rfl
theorem info_160 : (Tryz.prog.info? 160).map (fun i => (i.zero, i.size, i.bytes)) = some (some (.agg #[.int .i64 0, .int .i64 0]), 2, 16) := by kernel_rfl
theorem info_182 : (Tryz.prog.info? 182).map (fun i => (i.zero, i.size, i.bytes)) = some (some (.pointer none), 1, 8) := by kernel_rfl
theorem info_187 : (Tryz.prog.info? 187).map (fun i => (i.zero, i.size, i.bytes)) = some (some (.agg #[.bool false, .bool false]), 2, 2) := by kernel_rfl
theorem info_188 : (Tryz.prog.info? 188).map (fun i => (i.zero, i.size, i.bytes)) = some (some (.agg #[.bool false, .bool false]), 2, 2) := by kernel_rfl
theorem tabOk : Go.Ab.TabOk Tryz.prog tab := by
 intro t i h
 unfold tab at h
 split at h
 ·cases h; exact Go.Ab.tabRow Tryz.underlying2 info_2
 ·cases h; exact Go.Ab.tabRow Tryz.underlying3 info_3
 ·cases h; exact Go.Ab.tabRow Tryz.underlying4 info_4
 ·cases h; exact Go.Ab.tabRow Tryz.underlying5 info_5
 ·cases h; exact Go.Ab.tabRow Tryz.underlying9 info_9
 ·cases h; exact Go.Ab.tabRow Tryz.underlying22 info_22
 ·cases h; exact Go.Ab.tabRowC Tryz.underlying25 info_25 ⟨by kernel_rfl, by kernel_rfl⟩
 ·cases h; exact Go.Ab.tabRowC Tryz.underlying26 info_26 ⟨by kernel_rfl, by kernel_rfl⟩
 ·cases h; exact Go.Ab.tabRow Tryz.underlying29 info_29
 ·cases h; exact Go.Ab.tabRow Tryz.underlying30 info_30
 ·cases h; exact Go.Ab.tabRow Tryz.underlying31 info_31
 ·cases h; exact Go.Ab.tabRow Tryz.underlying32 info_32
 ·cases h; exact Go.Ab.tabRow Tryz.underlying33 info_33
 ·cases h; exact Go.Ab.tabRow Tryz.underlying34 info_34
 ·cases h; exact Go.Ab.tabRow Tryz.underlying35 info_35
 ·cases h; exact Go.Ab.tabRow Tryz.underlying39 info_39
 ·cases h; exact Go.Ab.tabRow Tryz.underlying40 info_40
 ·cases h; exact Go.Ab.tabRow Tryz.underlying41 info_41
 ·cases h; exact Go.Ab.tabRow Tryz.underlying42 info_42
 ·cases h; exact Go.Ab.tabRow Tryz.underlying43 info_43
 ·cases h; exact Go.Ab.tabRow Tryz.underlying44 info_44
 ·cases h; exact Go.Ab.tabRow Tryz.underlying47 info_47
 ·cases h; exact Go.Ab.tabRow Tryz.underlying48 info_48
 ·cases h; exact Go.Ab.tabRowC Tryz.underlying49 info_49 ⟨by kernel_rfl, by kernel_rfl⟩
 ·cases h; exact Go.Ab.tabRowC Tryz.underlying50 info_50 ⟨by kernel_rfl, by kernel_rfl⟩
 ·cases h; exact Go.Ab.tabRowC Tryz.underlying51 info_51 ⟨by kernel_rfl, by kernel_rfl⟩
 ·cases h; exact Go.Ab.tabRowC Tryz.underlying52 info_52 ⟨by kernel_rfl, by kernel_rfl⟩
 ·cases h; exact Go.Ab.tabRow Tryz.underlying53 info_53
 ·cases h; exact Go.Ab.tabRow Tryz.underlying56 info_56
 ·cases h; exact Go.Ab.tabRowC Tryz.underlying57 info_57 ⟨by kernel_rfl, by kernel_rfl⟩
 ·cases h; exact Go.Ab.tabRowC Tryz.underlying58 info_58 ⟨by kernel_rfl, by kernel_rfl⟩
 ·cases h; exact Go.Ab.tabRow Tryz.underlying61 info_61
 ·cases h; exact Go.Ab.tabRowC Tryz.underlying62 info_62 ⟨by kernel_rfl, by kernel_rfl⟩
 ·cases h; exact Go.Ab.tabRowC Tryz.underlying63 info_63 ⟨by kernel_rfl, by kernel_rfl⟩
 ·cases h; exact Go.Ab.tabRow Tryz.underlying68 info_68
 ·cases h; exact Go.Ab.tabRow Tryz.underlying75 info_75
 ·cases h; exact Go.Ab.tabRow Tryz.underlying77 info_77
 ·cases h; exact Go.Ab.tabRow Tryz.underlying78 info_78
 ·cases h; exact Go.Ab.tabRow Tryz.underlying81 info_81
 ·cases h; exact Go.Ab.tabRow Tryz.underlying82 info_82
 ·cases h; exact Go.Ab.tabRowC Tryz.underlying83 info_83 ⟨by kernel_rfl, by kernel_rfl⟩
 ·cases h; exact Go.Ab.tabRowC Tryz.underlying84 info_84 ⟨by kernel_rfl, by kernel_rfl⟩
 ·cases h; exact Go.Ab.tabRow Tryz.underlying85 info_85
 ·cases h; exact Go.Ab.tabRow Tryz.underlying86 info_86
 ·cases h; exact Go.Ab.tabRow Tryz.underlying87 info_87
 ·cases h; exact Go.Ab.tabRow Tryz.underlying88 info_88
 ·cases h; exact Go.Ab.tabRow Tryz.underlying89 info_89
 ·cases h; exact Go.Ab.tabRow Tryz.underlying90 info_90
 ·cases h; exact Go.Ab.tabRow Tryz.underlying91 info_91
 ·cases h; exact Go.Ab.tabRow Tryz.underlying92 info_92
 ·cases h; exact Go.Ab.tabRow Tryz.underlying93 info_93
 ·cases h; exact Go.Ab.tabRow Tryz.underlying94 info_94
 ·cases h; exact Go.Ab.tabRow Tryz.underlying95 info_95
 ·cases h; exact Go.Ab.tabRow Tryz.underlying96 info_96
 ·cases h; exact Go.Ab.tabRowC Tryz.underlying97 info_97 ⟨by kernel_rfl, by kernel_rfl⟩
 ·cases h; exact Go.Ab.tabRowC Tryz.underlying98 info_98 ⟨by kernel_rfl, by kernel_rfl⟩
 ·cases h; exact Go.Ab.tabRowC Tryz.underlying102 info_102 ⟨by kernel_rfl, by kernel_rfl⟩
 ·cases h; exact Go.Ab.tabRowC Tryz.underlying103 info_103 ⟨by kernel_rfl, by kernel_rfl⟩
 ·cases h; exact Go.Ab.tabRowC Tryz.underlying129 info_129 ⟨by kernel_rfl, by kernel_rfl⟩
 ·cases h; exact Go.Ab.tabRowC Tryz.underlying130 info_130 ⟨by kernel_rfl, by kernel_rfl⟩
 ·cases h; exact Go.Ab.tabRow Tryz.underlying134 info_134
 ·cases h; exact Go.Ab.tabRow Tryz.underlying135 info_135
 ·cases h; exact Go.Ab.tabRow Tryz.underlying140 info_140
 ·cases h; exact Go.Ab.tabRowC Tryz.underlying159 info_159 ⟨by kernel_rfl, by kernel_rfl⟩
 ·cases h; exact Go.Ab.tabRowC Tryz.underlying160 info_160 ⟨by kernel_rfl, by kernel_rfl⟩
 ·cases h; exact Go.Ab.tabRow Tryz.underlying182 info_182
 ·cases h; exact Go.Ab.tabRowC Tryz.underlying187 info_187 ⟨by kernel_rfl, by kernel_rfl⟩
 ·cases h; exact Go.Ab.tabRowC Tryz.underlying188 info_188 ⟨by kernel_rfl, by kernel_rfl⟩
 ·cases h
end Go.Proofs.YthmieigenefilaaGreatDoor
