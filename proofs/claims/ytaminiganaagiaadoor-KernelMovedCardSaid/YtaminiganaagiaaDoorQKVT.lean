import Derived.Test.YtaminiganaagiaaDoorRows
import Derived.Test.YtaminiganaagiaaDoorAbR
namespace Go.Proofs.YtaminiganaagiaaDoor
def tab : Go.Ab.Tab := fun t => match t with
 | 2 => some { under := .int .i64, size := 1, bytes := 8, zero := .int .i64 0 }
 | 3 => some { under := .int .i64, size := 1, bytes := 8, zero := .int .i64 0 }
 | 4 => some { under := .bool, size := 1, bytes := 1, zero := .bool false }
 | 5 => some { under := .int .u8, size := 1, bytes := 1, zero := .int .u8 0 }
 | 6 => some { under := .int .u8, size := 1, bytes := 1, zero := .int .u8 0 }
 | 7 => some { under := .struct #[{ name := "x", type := 2, offset := 0, embedded := false, tag := "", pkgPath := "runtime", byteOffset := 0 }, { name := "y", type := 3, offset := 1, embedded := false, tag := "", pkgPath := "runtime", byteOffset := 8 }, { name := "signed", type := 4, offset := 2, embedded := false, tag := "", pkgPath := "runtime", byteOffset := 16 }, { name := "code", type := 6, offset := 3, embedded := false, tag := "", pkgPath := "runtime", byteOffset := 17 }], size := 4, bytes := 24, zero := .agg #[.int .i64 0, .int .i64 0, .bool false, .int .u8 0] }
 | 8 => some { under := .struct #[{ name := "x", type := 2, offset := 0, embedded := false, tag := "", pkgPath := "runtime", byteOffset := 0 }, { name := "y", type := 3, offset := 1, embedded := false, tag := "", pkgPath := "runtime", byteOffset := 8 }, { name := "signed", type := 4, offset := 2, embedded := false, tag := "", pkgPath := "runtime", byteOffset := 16 }, { name := "code", type := 6, offset := 3, embedded := false, tag := "", pkgPath := "runtime", byteOffset := 17 }], size := 4, bytes := 24, zero := .agg #[.int .i64 0, .int .i64 0, .bool false, .int .u8 0] }
 | 9 => some { under := .string, size := 1, bytes := 16, zero := .string .empty }
 | 10 => some { under := .string, size := 1, bytes := 16, zero := .string .empty }
 | 11 => some { under := .string, size := 1, bytes := 16, zero := .string .empty }
 | 12 => some { under := .int .u64, size := 1, bytes := 8, zero := .int .u64 0 }
 | 13 => some { under := .struct #[{ name := "msg", type := 9, offset := 0, embedded := false, tag := "", pkgPath := "runtime", byteOffset := 0 }, { name := "addr", type := 12, offset := 1, embedded := false, tag := "", pkgPath := "runtime", byteOffset := 16 }], size := 2, bytes := 24, zero := .agg #[.string .empty, .int .u64 0] }
 | 14 => some { under := .struct #[{ name := "msg", type := 9, offset := 0, embedded := false, tag := "", pkgPath := "runtime", byteOffset := 0 }, { name := "addr", type := 12, offset := 1, embedded := false, tag := "", pkgPath := "runtime", byteOffset := 16 }], size := 2, bytes := 24, zero := .agg #[.string .empty, .int .u64 0] }
 | 15 => some { under := .pointer 137, size := 1, bytes := 8, zero := .pointer none }
 | 16 => some { under := .pointer 140, size := 1, bytes := 8, zero := .pointer none }
 | 17 => some { under := .pointer 150, size := 1, bytes := 8, zero := .pointer none }
 | 18 => some { under := .struct #[{ name := "typ", type := 17, offset := 0, embedded := false, tag := "", pkgPath := "internal/runtime/maps", byteOffset := 0 }], size := 1, bytes := 8, zero := .agg #[.pointer none] }
 | 19 => some { under := .struct #[{ name := "typ", type := 17, offset := 0, embedded := false, tag := "", pkgPath := "internal/runtime/maps", byteOffset := 0 }], size := 1, bytes := 8, zero := .agg #[.pointer none] }
 | 21 => some { under := .int .i32, size := 1, bytes := 4, zero := .int .i32 0 }
 | 22 => some { under := .slice 26, size := 1, bytes := 24, zero := .slice none 0 0 }
 | 25 => some { under := .struct #[{ name := "Kind", type := 3, offset := 0, embedded := false, tag := "", pkgPath := "", byteOffset := 0 }, { name := "Core", type := 3, offset := 1, embedded := false, tag := "", pkgPath := "", byteOffset := 8 }, { name := "N", type := 3, offset := 2, embedded := false, tag := "", pkgPath := "", byteOffset := 16 }, { name := "Byte", type := 5, offset := 3, embedded := false, tag := "", pkgPath := "", byteOffset := 24 }], size := 4, bytes := 32, zero := .agg #[.int .i64 0, .int .i64 0, .int .i64 0, .int .u8 0], cmp := true }
 | 26 => some { under := .struct #[{ name := "Kind", type := 3, offset := 0, embedded := false, tag := "", pkgPath := "", byteOffset := 0 }, { name := "Core", type := 3, offset := 1, embedded := false, tag := "", pkgPath := "", byteOffset := 8 }, { name := "N", type := 3, offset := 2, embedded := false, tag := "", pkgPath := "", byteOffset := 16 }, { name := "Byte", type := 5, offset := 3, embedded := false, tag := "", pkgPath := "", byteOffset := 24 }], size := 4, bytes := 32, zero := .agg #[.int .i64 0, .int .i64 0, .int .i64 0, .int .u8 0], cmp := true }
 | 27 => some { under := .slice 38, size := 1, bytes := 24, zero := .slice none 0 0 }
 | 28 => some { under := .slice 5, size := 1, bytes := 24, zero := .slice none 0 0 }
 | 29 => some { under := .slice 28, size := 1, bytes := 24, zero := .slice none 0 0 }
 | 30 => some { under := .struct #[{ name := "Lines", type := 29, offset := 0, embedded := false, tag := "", pkgPath := "", byteOffset := 0 }, { name := "Edit", type := 28, offset := 1, embedded := false, tag := "", pkgPath := "", byteOffset := 24 }], size := 2, bytes := 48, zero := .agg #[.slice none 0 0, .slice none 0 0] }
 | 31 => some { under := .struct #[{ name := "Lines", type := 29, offset := 0, embedded := false, tag := "", pkgPath := "", byteOffset := 0 }, { name := "Edit", type := 28, offset := 1, embedded := false, tag := "", pkgPath := "", byteOffset := 24 }], size := 2, bytes := 48, zero := .agg #[.slice none 0 0, .slice none 0 0] }
 | 32 => some { under := .struct #[{ name := "Device", type := 28, offset := 0, embedded := false, tag := "", pkgPath := "", byteOffset := 0 }, { name := "Fetched", type := 28, offset := 1, embedded := false, tag := "", pkgPath := "", byteOffset := 24 }, { name := "Tty", type := 31, offset := 2, embedded := false, tag := "", pkgPath := "", byteOffset := 48 }, { name := "Lost", type := 3, offset := 4, embedded := false, tag := "", pkgPath := "", byteOffset := 96 }, { name := "Taken", type := 3, offset := 5, embedded := false, tag := "", pkgPath := "", byteOffset := 104 }], size := 6, bytes := 112, zero := .agg #[.slice none 0 0, .slice none 0 0, .slice none 0 0, .slice none 0 0, .int .i64 0, .int .i64 0] }
 | 33 => some { under := .struct #[{ name := "Device", type := 28, offset := 0, embedded := false, tag := "", pkgPath := "", byteOffset := 0 }, { name := "Fetched", type := 28, offset := 1, embedded := false, tag := "", pkgPath := "", byteOffset := 24 }, { name := "Tty", type := 31, offset := 2, embedded := false, tag := "", pkgPath := "", byteOffset := 48 }, { name := "Lost", type := 3, offset := 4, embedded := false, tag := "", pkgPath := "", byteOffset := 96 }, { name := "Taken", type := 3, offset := 5, embedded := false, tag := "", pkgPath := "", byteOffset := 104 }], size := 6, bytes := 112, zero := .agg #[.slice none 0 0, .slice none 0 0, .slice none 0 0, .slice none 0 0, .int .i64 0, .int .i64 0] }
 | 36 => some { under := .int .i64, size := 1, bytes := 8, zero := .int .i64 0 }
 | 37 => some { under := .struct #[{ name := "Err", type := 36, offset := 0, embedded := false, tag := "", pkgPath := "", byteOffset := 0 }, { name := "Data", type := 28, offset := 1, embedded := false, tag := "", pkgPath := "", byteOffset := 8 }], size := 2, bytes := 32, zero := .agg #[.int .i64 0, .slice none 0 0] }
 | 38 => some { under := .struct #[{ name := "Err", type := 36, offset := 0, embedded := false, tag := "", pkgPath := "", byteOffset := 0 }, { name := "Data", type := 28, offset := 1, embedded := false, tag := "", pkgPath := "", byteOffset := 8 }], size := 2, bytes := 32, zero := .agg #[.int .i64 0, .slice none 0 0] }
 | 41 => some { under := .slice 3, size := 1, bytes := 24, zero := .slice none 0 0 }
 | 42 => some { under := .pointer 22, size := 1, bytes := 8, zero := .pointer none }
 | 43 => some { under := .slice 42, size := 1, bytes := 24, zero := .slice none 0 0 }
 | 50 => some { under := .pointer 69, size := 1, bytes := 8, zero := .pointer none }
 | 54 => some { under := .struct #[{ name := "In", type := 28, offset := 0, embedded := false, tag := "", pkgPath := "", byteOffset := 0 }, { name := "Out", type := 28, offset := 1, embedded := false, tag := "", pkgPath := "", byteOffset := 24 }, { name := "Lost", type := 3, offset := 2, embedded := false, tag := "", pkgPath := "", byteOffset := 48 }, { name := "Asks", type := 4, offset := 3, embedded := false, tag := "", pkgPath := "", byteOffset := 56 }], size := 4, bytes := 64, zero := .agg #[.slice none 0 0, .slice none 0 0, .int .i64 0, .bool false] }
 | 55 => some { under := .struct #[{ name := "In", type := 28, offset := 0, embedded := false, tag := "", pkgPath := "", byteOffset := 0 }, { name := "Out", type := 28, offset := 1, embedded := false, tag := "", pkgPath := "", byteOffset := 24 }, { name := "Lost", type := 3, offset := 2, embedded := false, tag := "", pkgPath := "", byteOffset := 48 }, { name := "Asks", type := 4, offset := 3, embedded := false, tag := "", pkgPath := "", byteOffset := 56 }], size := 4, bytes := 64, zero := .agg #[.slice none 0 0, .slice none 0 0, .int .i64 0, .bool false] }
 | 56 => some { under := .slice 75, size := 1, bytes := 24, zero := .slice none 0 0 }
 | 57 => some { under := .int .u64, size := 1, bytes := 8, zero := .int .u64 0 }
 | 58 => some { under := .array 4 57, size := 4, bytes := 32, zero := .agg #[.int .u64 0, .int .u64 0, .int .u64 0, .int .u64 0], cmp := true }
 | 59 => some { under := .array 4 57, size := 4, bytes := 32, zero := .agg #[.int .u64 0, .int .u64 0, .int .u64 0, .int .u64 0], cmp := true }
 | 60 => some { under := .struct #[{ name := "Asked", type := 59, offset := 0, embedded := false, tag := "", pkgPath := "", byteOffset := 0 }, { name := "Served", type := 59, offset := 4, embedded := false, tag := "", pkgPath := "", byteOffset := 32 }, { name := "Class", type := 3, offset := 8, embedded := false, tag := "", pkgPath := "", byteOffset := 64 }], size := 9, bytes := 72, zero := .agg #[.int .u64 0, .int .u64 0, .int .u64 0, .int .u64 0, .int .u64 0, .int .u64 0, .int .u64 0, .int .u64 0, .int .i64 0], cmp := true }
 | 61 => some { under := .struct #[{ name := "Asked", type := 59, offset := 0, embedded := false, tag := "", pkgPath := "", byteOffset := 0 }, { name := "Served", type := 59, offset := 4, embedded := false, tag := "", pkgPath := "", byteOffset := 32 }, { name := "Class", type := 3, offset := 8, embedded := false, tag := "", pkgPath := "", byteOffset := 64 }], size := 9, bytes := 72, zero := .agg #[.int .u64 0, .int .u64 0, .int .u64 0, .int .u64 0, .int .u64 0, .int .u64 0, .int .u64 0, .int .u64 0, .int .i64 0], cmp := true }
 | 62 => some { under := .slice 120, size := 1, bytes := 24, zero := .slice none 0 0 }
 | 63 => some { under := .struct #[{ name := "On", type := 4, offset := 0, embedded := false, tag := "", pkgPath := "", byteOffset := 0 }, { name := "Kept", type := 62, offset := 1, embedded := false, tag := "", pkgPath := "", byteOffset := 8 }], size := 2, bytes := 32, zero := .agg #[.bool false, .slice none 0 0] }
 | 64 => some { under := .struct #[{ name := "On", type := 4, offset := 0, embedded := false, tag := "", pkgPath := "", byteOffset := 0 }, { name := "Kept", type := 62, offset := 1, embedded := false, tag := "", pkgPath := "", byteOffset := 8 }], size := 2, bytes := 32, zero := .agg #[.bool false, .slice none 0 0] }
 | 65 => some { under := .struct #[{ name := "local", type := 61, offset := 0, embedded := false, tag := "", pkgPath := "corebell/kernel", byteOffset := 0 }, { name := "nest", type := 64, offset := 9, embedded := false, tag := "", pkgPath := "corebell/kernel", byteOffset := 72 }, { name := "serving", type := 4, offset := 11, embedded := false, tag := "", pkgPath := "corebell/kernel", byteOffset := 104 }], size := 12, bytes := 112, zero := .agg #[.int .u64 0, .int .u64 0, .int .u64 0, .int .u64 0, .int .u64 0, .int .u64 0, .int .u64 0, .int .u64 0, .int .i64 0, .bool false, .slice none 0 0, .bool false] }
 | 66 => some { under := .struct #[{ name := "local", type := 61, offset := 0, embedded := false, tag := "", pkgPath := "corebell/kernel", byteOffset := 0 }, { name := "nest", type := 64, offset := 9, embedded := false, tag := "", pkgPath := "corebell/kernel", byteOffset := 72 }, { name := "serving", type := 4, offset := 11, embedded := false, tag := "", pkgPath := "corebell/kernel", byteOffset := 104 }], size := 12, bytes := 112, zero := .agg #[.int .u64 0, .int .u64 0, .int .u64 0, .int .u64 0, .int .u64 0, .int .u64 0, .int .u64 0, .int .u64 0, .int .i64 0, .bool false, .slice none 0 0, .bool false] }
 | 67 => some { under := .array 2 66, size := 24, bytes := 224, zero := .agg #[.int .u64 0, .int .u64 0, .int .u64 0, .int .u64 0, .int .u64 0, .int .u64 0, .int .u64 0, .int .u64 0, .int .i64 0, .bool false, .slice none 0 0, .bool false, .int .u64 0, .int .u64 0, .int .u64 0, .int .u64 0, .int .u64 0, .int .u64 0, .int .u64 0, .int .u64 0, .int .i64 0, .bool false, .slice none 0 0, .bool false] }
 | 68 => some { under := .struct #[{ name := "uart", type := 55, offset := 0, embedded := false, tag := "", pkgPath := "corebell/kernel", byteOffset := 0 }, { name := "pins", type := 56, offset := 4, embedded := false, tag := "", pkgPath := "corebell/kernel", byteOffset := 64 }, { name := "cores", type := 67, offset := 5, embedded := false, tag := "", pkgPath := "corebell/kernel", byteOffset := 88 }, { name := "fetched", type := 28, offset := 29, embedded := false, tag := "", pkgPath := "corebell/kernel", byteOffset := 312 }, { name := "tty", type := 31, offset := 30, embedded := false, tag := "", pkgPath := "corebell/kernel", byteOffset := 336 }, { name := "taken", type := 3, offset := 32, embedded := false, tag := "", pkgPath := "corebell/kernel", byteOffset := 384 }], size := 33, bytes := 392, zero := .agg #[.slice none 0 0, .slice none 0 0, .int .i64 0, .bool false, .slice none 0 0, .int .u64 0, .int .u64 0, .int .u64 0, .int .u64 0, .int .u64 0, .int .u64 0, .int .u64 0, .int .u64 0, .int .i64 0, .bool false, .slice none 0 0, .bool false, .int .u64 0, .int .u64 0, .int .u64 0, .int .u64 0, .int .u64 0, .int .u64 0, .int .u64 0, .int .u64 0, .int .i64 0, .bool false, .slice none 0 0, .bool false, .slice none 0 0, .slice none 0 0, .slice none 0 0, .int .i64 0] }
 | 69 => some { under := .struct #[{ name := "uart", type := 55, offset := 0, embedded := false, tag := "", pkgPath := "corebell/kernel", byteOffset := 0 }, { name := "pins", type := 56, offset := 4, embedded := false, tag := "", pkgPath := "corebell/kernel", byteOffset := 64 }, { name := "cores", type := 67, offset := 5, embedded := false, tag := "", pkgPath := "corebell/kernel", byteOffset := 88 }, { name := "fetched", type := 28, offset := 29, embedded := false, tag := "", pkgPath := "corebell/kernel", byteOffset := 312 }, { name := "tty", type := 31, offset := 30, embedded := false, tag := "", pkgPath := "corebell/kernel", byteOffset := 336 }, { name := "taken", type := 3, offset := 32, embedded := false, tag := "", pkgPath := "corebell/kernel", byteOffset := 384 }], size := 33, bytes := 392, zero := .agg #[.slice none 0 0, .slice none 0 0, .int .i64 0, .bool false, .slice none 0 0, .int .u64 0, .int .u64 0, .int .u64 0, .int .u64 0, .int .u64 0, .int .u64 0, .int .u64 0, .int .u64 0, .int .i64 0, .bool false, .slice none 0 0, .bool false, .int .u64 0, .int .u64 0, .int .u64 0, .int .u64 0, .int .u64 0, .int .u64 0, .int .u64 0, .int .u64 0, .int .i64 0, .bool false, .slice none 0 0, .bool false, .slice none 0 0, .slice none 0 0, .slice none 0 0, .int .i64 0] }
 | 74 => some { under := .struct #[{ name := "Core", type := 3, offset := 0, embedded := false, tag := "", pkgPath := "", byteOffset := 0 }, { name := "Vec", type := 3, offset := 1, embedded := false, tag := "", pkgPath := "", byteOffset := 8 }, { name := "Level", type := 4, offset := 2, embedded := false, tag := "", pkgPath := "", byteOffset := 16 }, { name := "Masked", type := 4, offset := 3, embedded := false, tag := "", pkgPath := "", byteOffset := 17 }, { name := "Up", type := 4, offset := 4, embedded := false, tag := "", pkgPath := "", byteOffset := 18 }, { name := "Kept", type := 4, offset := 5, embedded := false, tag := "", pkgPath := "", byteOffset := 19 }, { name := "Sent", type := 4, offset := 6, embedded := false, tag := "", pkgPath := "", byteOffset := 20 }], size := 7, bytes := 24, zero := .agg #[.int .i64 0, .int .i64 0, .bool false, .bool false, .bool false, .bool false, .bool false], cmp := true }
 | 75 => some { under := .struct #[{ name := "Core", type := 3, offset := 0, embedded := false, tag := "", pkgPath := "", byteOffset := 0 }, { name := "Vec", type := 3, offset := 1, embedded := false, tag := "", pkgPath := "", byteOffset := 8 }, { name := "Level", type := 4, offset := 2, embedded := false, tag := "", pkgPath := "", byteOffset := 16 }, { name := "Masked", type := 4, offset := 3, embedded := false, tag := "", pkgPath := "", byteOffset := 17 }, { name := "Up", type := 4, offset := 4, embedded := false, tag := "", pkgPath := "", byteOffset := 18 }, { name := "Kept", type := 4, offset := 5, embedded := false, tag := "", pkgPath := "", byteOffset := 19 }, { name := "Sent", type := 4, offset := 6, embedded := false, tag := "", pkgPath := "", byteOffset := 20 }], size := 7, bytes := 24, zero := .agg #[.int .i64 0, .int .i64 0, .bool false, .bool false, .bool false, .bool false, .bool false], cmp := true }
 | 79 => some { under := .struct #[{ name := "Kind", type := 3, offset := 0, embedded := false, tag := "", pkgPath := "", byteOffset := 0 }, { name := "Byte", type := 5, offset := 1, embedded := false, tag := "", pkgPath := "", byteOffset := 8 }], size := 2, bytes := 16, zero := .agg #[.int .i64 0, .int .u8 0], cmp := true }
 | 80 => some { under := .struct #[{ name := "Kind", type := 3, offset := 0, embedded := false, tag := "", pkgPath := "", byteOffset := 0 }, { name := "Byte", type := 5, offset := 1, embedded := false, tag := "", pkgPath := "", byteOffset := 8 }], size := 2, bytes := 16, zero := .agg #[.int .i64 0, .int .u8 0], cmp := true }
 | 84 => some { under := .pointer 66, size := 1, bytes := 8, zero := .pointer none }
 | 85 => some { under := .map 3 3, size := 1, bytes := 8, zero := .map none }
 | 88 => some { under := .pointer 31, size := 1, bytes := 8, zero := .pointer none }
 | 95 => some { under := .struct #[{ name := "Kind", type := 3, offset := 0, embedded := false, tag := "", pkgPath := "", byteOffset := 0 }, { name := "N", type := 3, offset := 1, embedded := false, tag := "", pkgPath := "", byteOffset := 8 }], size := 2, bytes := 16, zero := .agg #[.int .i64 0, .int .i64 0], cmp := true }
 | 96 => some { under := .struct #[{ name := "Kind", type := 3, offset := 0, embedded := false, tag := "", pkgPath := "", byteOffset := 0 }, { name := "N", type := 3, offset := 1, embedded := false, tag := "", pkgPath := "", byteOffset := 8 }], size := 2, bytes := 16, zero := .agg #[.int .i64 0, .int .i64 0], cmp := true }
 | 110 => some { under := .slice 116, size := 1, bytes := 24, zero := .slice none 0 0 }
 | 113 => some { under := .struct #[{ name := "Kind", type := 3, offset := 0, embedded := false, tag := "", pkgPath := "", byteOffset := 0 }, { name := "Pin", type := 3, offset := 1, embedded := false, tag := "", pkgPath := "", byteOffset := 8 }], size := 2, bytes := 16, zero := .agg #[.int .i64 0, .int .i64 0], cmp := true }
 | 114 => some { under := .struct #[{ name := "Kind", type := 3, offset := 0, embedded := false, tag := "", pkgPath := "", byteOffset := 0 }, { name := "Pin", type := 3, offset := 1, embedded := false, tag := "", pkgPath := "", byteOffset := 8 }], size := 2, bytes := 16, zero := .agg #[.int .i64 0, .int .i64 0], cmp := true }
 | 115 => some { under := .struct #[{ name := "Pin", type := 3, offset := 0, embedded := false, tag := "", pkgPath := "", byteOffset := 0 }, { name := "Core", type := 3, offset := 1, embedded := false, tag := "", pkgPath := "", byteOffset := 8 }, { name := "Vec", type := 3, offset := 2, embedded := false, tag := "", pkgPath := "", byteOffset := 16 }], size := 3, bytes := 24, zero := .agg #[.int .i64 0, .int .i64 0, .int .i64 0], cmp := true }
 | 116 => some { under := .struct #[{ name := "Pin", type := 3, offset := 0, embedded := false, tag := "", pkgPath := "", byteOffset := 0 }, { name := "Core", type := 3, offset := 1, embedded := false, tag := "", pkgPath := "", byteOffset := 8 }, { name := "Vec", type := 3, offset := 2, embedded := false, tag := "", pkgPath := "", byteOffset := 16 }], size := 3, bytes := 24, zero := .agg #[.int .i64 0, .int .i64 0, .int .i64 0], cmp := true }
 | 119 => some { under := .struct #[{ name := "On", type := 4, offset := 0, embedded := false, tag := "", pkgPath := "", byteOffset := 0 }, { name := "Irq", type := 4, offset := 1, embedded := false, tag := "", pkgPath := "", byteOffset := 1 }], size := 2, bytes := 2, zero := .agg #[.bool false, .bool false], cmp := true }
 | 120 => some { under := .struct #[{ name := "On", type := 4, offset := 0, embedded := false, tag := "", pkgPath := "", byteOffset := 0 }, { name := "Irq", type := 4, offset := 1, embedded := false, tag := "", pkgPath := "", byteOffset := 1 }], size := 2, bytes := 2, zero := .agg #[.bool false, .bool false], cmp := true }
 | 128 => some { under := .pointer 75, size := 1, bytes := 8, zero := .pointer none }
 | 132 => some { under := .array 64 5, size := 64, bytes := 64, zero := .agg #[.int .u8 0, .int .u8 0, .int .u8 0, .int .u8 0, .int .u8 0, .int .u8 0, .int .u8 0, .int .u8 0, .int .u8 0, .int .u8 0, .int .u8 0, .int .u8 0, .int .u8 0, .int .u8 0, .int .u8 0, .int .u8 0, .int .u8 0, .int .u8 0, .int .u8 0, .int .u8 0, .int .u8 0, .int .u8 0, .int .u8 0, .int .u8 0, .int .u8 0, .int .u8 0, .int .u8 0, .int .u8 0, .int .u8 0, .int .u8 0, .int .u8 0, .int .u8 0, .int .u8 0, .int .u8 0, .int .u8 0, .int .u8 0, .int .u8 0, .int .u8 0, .int .u8 0, .int .u8 0, .int .u8 0, .int .u8 0, .int .u8 0, .int .u8 0, .int .u8 0, .int .u8 0, .int .u8 0, .int .u8 0, .int .u8 0, .int .u8 0, .int .u8 0, .int .u8 0, .int .u8 0, .int .u8 0, .int .u8 0, .int .u8 0, .int .u8 0, .int .u8 0, .int .u8 0, .int .u8 0, .int .u8 0, .int .u8 0, .int .u8 0, .int .u8 0], cmp := true }
 | 133 => some { under := .int .u64, size := 1, bytes := 8, zero := .int .u64 0 }
 | 136 => some { under := .struct #[{ name := "_interface", type := 17, offset := 0, embedded := false, tag := "", pkgPath := "runtime", byteOffset := 0 }, { name := "concrete", type := 17, offset := 1, embedded := false, tag := "", pkgPath := "runtime", byteOffset := 8 }, { name := "asserted", type := 17, offset := 2, embedded := false, tag := "", pkgPath := "runtime", byteOffset := 16 }, { name := "missingMethod", type := 9, offset := 3, embedded := false, tag := "", pkgPath := "runtime", byteOffset := 24 }], size := 4, bytes := 40, zero := .agg #[.pointer none, .pointer none, .pointer none, .string .empty] }
 | 137 => some { under := .struct #[{ name := "_interface", type := 17, offset := 0, embedded := false, tag := "", pkgPath := "runtime", byteOffset := 0 }, { name := "concrete", type := 17, offset := 1, embedded := false, tag := "", pkgPath := "runtime", byteOffset := 8 }, { name := "asserted", type := 17, offset := 2, embedded := false, tag := "", pkgPath := "runtime", byteOffset := 16 }, { name := "missingMethod", type := 9, offset := 3, embedded := false, tag := "", pkgPath := "runtime", byteOffset := 24 }], size := 4, bytes := 40, zero := .agg #[.pointer none, .pointer none, .pointer none, .string .empty] }
 | 138 => some { under := .array 0 16, size := 0, bytes := 0, zero := .agg #[] }
 | 139 => some { under := .struct #[{ name := "_", type := 138, offset := 0, embedded := false, tag := "", pkgPath := "runtime", byteOffset := 0 }], size := 0, bytes := 0, zero := .agg #[] }
 | 140 => some { under := .struct #[{ name := "_", type := 138, offset := 0, embedded := false, tag := "", pkgPath := "runtime", byteOffset := 0 }], size := 0, bytes := 0, zero := .agg #[] }
 | 142 => some { under := .int .u32, size := 1, bytes := 4, zero := .int .u32 0 }
 | 143 => some { under := .int .u8, size := 1, bytes := 1, zero := .int .u8 0 }
 | 144 => some { under := .int .u8, size := 1, bytes := 1, zero := .int .u8 0 }
 | 146 => some { under := .pointer 5, size := 1, bytes := 8, zero := .pointer none }
 | 147 => some { under := .int .i32, size := 1, bytes := 4, zero := .int .i32 0 }
 | 148 => some { under := .int .i32, size := 1, bytes := 4, zero := .int .i32 0 }
 | 149 => some { under := .struct #[{ name := "Size_", type := 12, offset := 0, embedded := false, tag := "", pkgPath := "", byteOffset := 0 }, { name := "PtrBytes", type := 12, offset := 1, embedded := false, tag := "", pkgPath := "", byteOffset := 8 }, { name := "Hash", type := 142, offset := 2, embedded := false, tag := "", pkgPath := "", byteOffset := 16 }, { name := "TFlag", type := 143, offset := 3, embedded := false, tag := "", pkgPath := "", byteOffset := 20 }, { name := "Align_", type := 5, offset := 4, embedded := false, tag := "", pkgPath := "", byteOffset := 21 }, { name := "FieldAlign_", type := 5, offset := 5, embedded := false, tag := "", pkgPath := "", byteOffset := 22 }, { name := "Kind_", type := 144, offset := 6, embedded := false, tag := "", pkgPath := "", byteOffset := 23 }, { name := "Equal", type := 145, offset := 7, embedded := false, tag := "", pkgPath := "", byteOffset := 24 }, { name := "GCData", type := 146, offset := 8, embedded := false, tag := "", pkgPath := "", byteOffset := 32 }, { name := "Str", type := 147, offset := 9, embedded := false, tag := "", pkgPath := "", byteOffset := 40 }, { name := "PtrToThis", type := 148, offset := 10, embedded := false, tag := "", pkgPath := "", byteOffset := 44 }], size := 11, bytes := 48, zero := .agg #[.int .u64 0, .int .u64 0, .int .u32 0, .int .u8 0, .int .u8 0, .int .u8 0, .int .u8 0, .nilFunc, .pointer none, .int .i32 0, .int .i32 0] }
 | 150 => some { under := .struct #[{ name := "Size_", type := 12, offset := 0, embedded := false, tag := "", pkgPath := "", byteOffset := 0 }, { name := "PtrBytes", type := 12, offset := 1, embedded := false, tag := "", pkgPath := "", byteOffset := 8 }, { name := "Hash", type := 142, offset := 2, embedded := false, tag := "", pkgPath := "", byteOffset := 16 }, { name := "TFlag", type := 143, offset := 3, embedded := false, tag := "", pkgPath := "", byteOffset := 20 }, { name := "Align_", type := 5, offset := 4, embedded := false, tag := "", pkgPath := "", byteOffset := 21 }, { name := "FieldAlign_", type := 5, offset := 5, embedded := false, tag := "", pkgPath := "", byteOffset := 22 }, { name := "Kind_", type := 144, offset := 6, embedded := false, tag := "", pkgPath := "", byteOffset := 23 }, { name := "Equal", type := 145, offset := 7, embedded := false, tag := "", pkgPath := "", byteOffset := 24 }, { name := "GCData", type := 146, offset := 8, embedded := false, tag := "", pkgPath := "", byteOffset := 32 }, { name := "Str", type := 147, offset := 9, embedded := false, tag := "", pkgPath := "", byteOffset := 40 }, { name := "PtrToThis", type := 148, offset := 10, embedded := false, tag := "", pkgPath := "", byteOffset := 44 }], size := 11, bytes := 48, zero := .agg #[.int .u64 0, .int .u64 0, .int .u32 0, .int .u8 0, .int .u8 0, .int .u8 0, .int .u8 0, .nilFunc, .pointer none, .int .i32 0, .int .i32 0] }
 | 151 => some { under := .unsafePointer, size := 1, bytes := 8, zero := .pointer none }
 | _ => none
theorem info_2 : (Tryd.prog.info? 2).map (fun i => (i.zero, i.size, i.bytes)) = some (some (.int .i64 0), 1, 8) := by kernel_rfl
theorem info_3 : (Tryd.prog.info? 3).map (fun i => (i.zero, i.size, i.bytes)) = some (some (.int .i64 0), 1, 8) := by kernel_rfl
theorem info_4 : (Tryd.prog.info? 4).map (fun i => (i.zero, i.size, i.bytes)) = some (some (.bool false), 1, 1) := by kernel_rfl
theorem info_5 : (Tryd.prog.info? 5).map (fun i => (i.zero, i.size, i.bytes)) = some (some (.int .u8 0), 1, 1) := by kernel_rfl
theorem info_6 : (Tryd.prog.info? 6).map (fun i => (i.zero, i.size, i.bytes)) = some (some (.int .u8 0), 1, 1) := by kernel_rfl
theorem info_7 : (Tryd.prog.info? 7).map (fun i => (i.zero, i.size, i.bytes)) = some (some (.agg #[.int .i64 0, .int .i64 0, .bool false, .int .u8 0]), 4, 24) := by kernel_rfl
theorem info_8 : (Tryd.prog.info? 8).map (fun i => (i.zero, i.size, i.bytes)) = some (some (.agg #[.int .i64 0, .int .i64 0, .bool false, .int .u8 0]), 4, 24) := by kernel_rfl
theorem info_9 : (Tryd.prog.info? 9).map (fun i => (i.zero, i.size, i.bytes)) = some (some (.string .empty), 1, 16) := by kernel_rfl
theorem info_10 : (Tryd.prog.info? 10).map (fun i => (i.zero, i.size, i.bytes)) = some (some (.string .empty), 1, 16) := by kernel_rfl
theorem info_11 : (Tryd.prog.info? 11).map (fun i => (i.zero, i.size, i.bytes)) = some (some (.string .empty), 1, 16) := by kernel_rfl
theorem info_12 : (Tryd.prog.info? 12).map (fun i => (i.zero, i.size, i.bytes)) = some (some (.int .u64 0), 1, 8) := by kernel_rfl
theorem info_13 : (Tryd.prog.info? 13).map (fun i => (i.zero, i.size, i.bytes)) = some (some (.agg #[.string .empty, .int .u64 0]), 2, 24) := by kernel_rfl
theorem info_14 : (Tryd.prog.info? 14).map (fun i => (i.zero, i.size, i.bytes)) = some (some (.agg #[.string .empty, .int .u64 0]), 2, 24) := by kernel_rfl
theorem info_15 : (Tryd.prog.info? 15).map (fun i => (i.zero, i.size, i.bytes)) = some (some (.pointer none), 1, 8) := by kernel_rfl
theorem info_16 : (Tryd.prog.info? 16).map (fun i => (i.zero, i.size, i.bytes)) = some (some (.pointer none), 1, 8) := by kernel_rfl
theorem info_17 : (Tryd.prog.info? 17).map (fun i => (i.zero, i.size, i.bytes)) = some (some (.pointer none), 1, 8) := by kernel_rfl
theorem info_18 : (Tryd.prog.info? 18).map (fun i => (i.zero, i.size, i.bytes)) = some (some (.agg #[.pointer none]), 1, 8) := by kernel_rfl
theorem info_19 : (Tryd.prog.info? 19).map (fun i => (i.zero, i.size, i.bytes)) = some (some (.agg #[.pointer none]), 1, 8) := by kernel_rfl
theorem info_21 : (Tryd.prog.info? 21).map (fun i => (i.zero, i.size, i.bytes)) = some (some (.int .i32 0), 1, 4) := by kernel_rfl
theorem info_22 : (Tryd.prog.info? 22).map (fun i => (i.zero, i.size, i.bytes)) = some (some (.slice none 0 0), 1, 24) := by kernel_rfl
theorem info_25 : (Tryd.prog.info? 25).map (fun i => (i.zero, i.size, i.bytes)) = some (some (.agg #[.int .i64 0, .int .i64 0, .int .i64 0, .int .u8 0]), 4, 32) := by kernel_rfl
theorem info_26 : (Tryd.prog.info? 26).map (fun i => (i.zero, i.size, i.bytes)) = some (some (.agg #[.int .i64 0, .int .i64 0, .int .i64 0, .int .u8 0]), 4, 32) := by kernel_rfl
theorem info_27 : (Tryd.prog.info? 27).map (fun i => (i.zero, i.size, i.bytes)) = some (some (.slice none 0 0), 1, 24) := by kernel_rfl
theorem info_28 : (Tryd.prog.info? 28).map (fun i => (i.zero, i.size, i.bytes)) = some (some (.slice none 0 0), 1, 24) := by kernel_rfl
theorem info_29 : (Tryd.prog.info? 29).map (fun i => (i.zero, i.size, i.bytes)) = some (some (.slice none 0 0), 1, 24) := by kernel_rfl
theorem info_30 : (Tryd.prog.info? 30).map (fun i => (i.zero, i.size, i.bytes)) = some (some (.agg #[.slice none 0 0, .slice none 0 0]), 2, 48) := by kernel_rfl
theorem info_31 : (Tryd.prog.info? 31).map (fun i => (i.zero, i.size, i.bytes)) = some (some (.agg #[.slice none 0 0, .slice none 0 0]), 2, 48) := by kernel_rfl
theorem info_32 : (Tryd.prog.info? 32).map (fun i => (i.zero, i.size, i.bytes)) = some (some (.agg #[.slice none 0 0, .slice none 0 0, .slice none 0 0, .slice none 0 0, .int .i64 0, .int .i64 0]), 6, 112) := by kernel_rfl
theorem info_33 : (Tryd.prog.info? 33).map (fun i => (i.zero, i.size, i.bytes)) = some (some (.agg #[.slice none 0 0, .slice none 0 0, .slice none 0 0, .slice none 0 0, .int .i64 0, .int .i64 0]), 6, 112) := by kernel_rfl
theorem info_36 : (Tryd.prog.info? 36).map (fun i => (i.zero, i.size, i.bytes)) = some (some (.int .i64 0), 1, 8) := by kernel_rfl
theorem info_37 : (Tryd.prog.info? 37).map (fun i => (i.zero, i.size, i.bytes)) = some (some (.agg #[.int .i64 0, .slice none 0 0]), 2, 32) := by kernel_rfl
theorem info_38 : (Tryd.prog.info? 38).map (fun i => (i.zero, i.size, i.bytes)) = some (some (.agg #[.int .i64 0, .slice none 0 0]), 2, 32) := by kernel_rfl
theorem info_41 : (Tryd.prog.info? 41).map (fun i => (i.zero, i.size, i.bytes)) = some (some (.slice none 0 0), 1, 24) := by kernel_rfl
theorem info_42 : (Tryd.prog.info? 42).map (fun i => (i.zero, i.size, i.bytes)) = some (some (.pointer none), 1, 8) := by kernel_rfl
theorem info_43 : (Tryd.prog.info? 43).map (fun i => (i.zero, i.size, i.bytes)) = some (some (.slice none 0 0), 1, 24) := by kernel_rfl
theorem info_50 : (Tryd.prog.info? 50).map (fun i => (i.zero, i.size, i.bytes)) = some (some (.pointer none), 1, 8) := by kernel_rfl
theorem info_54 : (Tryd.prog.info? 54).map (fun i => (i.zero, i.size, i.bytes)) = some (some (.agg #[.slice none 0 0, .slice none 0 0, .int .i64 0, .bool false]), 4, 64) := by kernel_rfl
theorem info_55 : (Tryd.prog.info? 55).map (fun i => (i.zero, i.size, i.bytes)) = some (some (.agg #[.slice none 0 0, .slice none 0 0, .int .i64 0, .bool false]), 4, 64) := by kernel_rfl
theorem info_56 : (Tryd.prog.info? 56).map (fun i => (i.zero, i.size, i.bytes)) = some (some (.slice none 0 0), 1, 24) := by kernel_rfl
theorem info_57 : (Tryd.prog.info? 57).map (fun i => (i.zero, i.size, i.bytes)) = some (some (.int .u64 0), 1, 8) := by kernel_rfl
theorem info_58 : (Tryd.prog.info? 58).map (fun i => (i.zero, i.size, i.bytes)) = some (some (.agg #[.int .u64 0, .int .u64 0, .int .u64 0, .int .u64 0]), 4, 32) := by kernel_rfl
theorem info_59 : (Tryd.prog.info? 59).map (fun i => (i.zero, i.size, i.bytes)) = some (some (.agg #[.int .u64 0, .int .u64 0, .int .u64 0, .int .u64 0]), 4, 32) := by kernel_rfl
theorem info_60 : (Tryd.prog.info? 60).map (fun i => (i.zero, i.size, i.bytes)) = some (some (.agg #[.int .u64 0, .int .u64 0, .int .u64 0, .int .u64 0, .int .u64 0, .int .u64 0, .int .u64 0, .int .u64 0, .int .i64 0]), 9, 72) := by kernel_rfl
theorem info_61 : (Tryd.prog.info? 61).map (fun i => (i.zero, i.size, i.bytes)) = some (some (.agg #[.int .u64 0, .int .u64 0, .int .u64 0, .int .u64 0, .int .u64 0, .int .u64 0, .int .u64 0, .int .u64 0, .int .i64 0]), 9, 72) := by kernel_rfl
theorem info_62 : (Tryd.prog.info? 62).map (fun i => (i.zero, i.size, i.bytes)) = some (some (.slice none 0 0), 1, 24) := by kernel_rfl
theorem info_63 : (Tryd.prog.info? 63).map (fun i => (i.zero, i.size, i.bytes)) = some (some (.agg #[.bool false, .slice none 0 0]), 2, 32) := by kernel_rfl
theorem info_64 : (Tryd.prog.info? 64).map (fun i => (i.zero, i.size, i.bytes)) = some (some (.agg #[.bool false, .slice none 0 0]), 2, 32) := by kernel_rfl
theorem info_65 : (Tryd.prog.info? 65).map (fun i => (i.zero, i.size, i.bytes)) = some (some (.agg #[.int .u64 0, .int .u64 0, .int .u64 0, .int .u64 0, .int .u64 0, .int .u64 0, .int .u64 0, .int .u64 0, .int .i64 0, .bool false, .slice none 0 0, .bool false]), 12, 112) := by kernel_rfl
theorem info_66 : (Tryd.prog.info? 66).map (fun i => (i.zero, i.size, i.bytes)) = some (some (.agg #[.int .u64 0, .int .u64 0, .int .u64 0, .int .u64 0, .int .u64 0, .int .u64 0, .int .u64 0, .int .u64 0, .int .i64 0, .bool false, .slice none 0 0, .bool false]), 12, 112) := by kernel_rfl
theorem info_67 : (Tryd.prog.info? 67).map (fun i => (i.zero, i.size, i.bytes)) = some (some (.agg #[.int .u64 0, .int .u64 0, .int .u64 0, .int .u64 0, .int .u64 0, .int .u64 0, .int .u64 0, .int .u64 0, .int .i64 0, .bool false, .slice none 0 0, .bool false, .int .u64 0, .int .u64 0, .int .u64 0, .int .u64 0, .int .u64 0, .int .u64 0, .int .u64 0, .int .u64 0, .int .i64 0, .bool false, .slice none 0 0, .bool false]), 24, 224) := by kernel_rfl
theorem info_68 : (Tryd.prog.info? 68).map (fun i => (i.zero, i.size, i.bytes)) = some (some (.agg #[.slice none 0 0, .slice none 0 0, .int .i64 0, .bool false, .slice none 0 0, .int .u64 0, .int .u64 0, .int .u64 0, .int .u64 0, .int .u64 0, .int .u64 0, .int .u64 0, .int .u64 0, .int .i64 0, .bool false, .slice none 0 0, .bool false, .int .u64 0, .int .u64 0, .int .u64 0, .int .u64 0, .int .u64 0, .int .u64 0, .int .u64 0, .int .u64 0, .int .i64 0, .bool false, .slice none 0 0, .bool false, .slice none 0 0, .slice none 0 0, .slice none 0 0, .int .i64 0]), 33, 392) := by kernel_rfl
theorem info_69 : (Tryd.prog.info? 69).map (fun i => (i.zero, i.size, i.bytes)) = some (some (.agg #[.slice none 0 0, .slice none 0 0, .int .i64 0, .bool false, .slice none 0 0, .int .u64 0, .int .u64 0, .int .u64 0, .int .u64 0, .int .u64 0, .int .u64 0, .int .u64 0, .int .u64 0, .int .i64 0, .bool false, .slice none 0 0, .bool false, .int .u64 0, .int .u64 0, .int .u64 0, .int .u64 0, .int .u64 0, .int .u64 0, .int .u64 0, .int .u64 0, .int .i64 0, .bool false, .slice none 0 0, .bool false, .slice none 0 0, .slice none 0 0, .slice none 0 0, .int .i64 0]), 33, 392) := by kernel_rfl
theorem info_74 : (Tryd.prog.info? 74).map (fun i => (i.zero, i.size, i.bytes)) = some (some (.agg #[.int .i64 0, .int .i64 0, .bool false, .bool false, .bool false, .bool false, .bool false]), 7, 24) := by kernel_rfl
theorem info_75 : (Tryd.prog.info? 75).map (fun i => (i.zero, i.size, i.bytes)) = some (some (.agg #[.int .i64 0, .int .i64 0, .bool false, .bool false, .bool false, .bool false, .bool false]), 7, 24) := by kernel_rfl
theorem info_79 : (Tryd.prog.info? 79).map (fun i => (i.zero, i.size, i.bytes)) = some (some (.agg #[.int .i64 0, .int .u8 0]), 2, 16) := by kernel_rfl
theorem info_80 : (Tryd.prog.info? 80).map (fun i => (i.zero, i.size, i.bytes)) = some (some (.agg #[.int .i64 0, .int .u8 0]), 2, 16) := by kernel_rfl
theorem info_84 : (Tryd.prog.info? 84).map (fun i => (i.zero, i.size, i.bytes)) = some (some (.pointer none), 1, 8) := by kernel_rfl
theorem info_85 : (Tryd.prog.info? 85).map (fun i => (i.zero, i.size, i.bytes)) = some (some (.map none), 1, 8) := by kernel_rfl
theorem info_88 : (Tryd.prog.info? 88).map (fun i => (i.zero, i.size, i.bytes)) = some (some (.pointer none), 1, 8) := by kernel_rfl
theorem info_95 : (Tryd.prog.info? 95).map (fun i => (i.zero, i.size, i.bytes)) = some (some (.agg #[.int .i64 0, .int .i64 0]), 2, 16) := by kernel_rfl
theorem info_96 : (Tryd.prog.info? 96).map (fun i => (i.zero, i.size, i.bytes)) = some (some (.agg #[.int .i64 0, .int .i64 0]), 2, 16) := by kernel_rfl
theorem info_110 : (Tryd.prog.info? 110).map (fun i => (i.zero, i.size, i.bytes)) = some (some (.slice none 0 0), 1, 24) := by kernel_rfl
theorem info_113 : (Tryd.prog.info? 113).map (fun i => (i.zero, i.size, i.bytes)) = some (some (.agg #[.int .i64 0, .int .i64 0]), 2, 16) := by kernel_rfl
theorem info_114 : (Tryd.prog.info? 114).map (fun i => (i.zero, i.size, i.bytes)) = some (some (.agg #[.int .i64 0, .int .i64 0]), 2, 16) := by kernel_rfl
theorem info_115 : (Tryd.prog.info? 115).map (fun i => (i.zero, i.size, i.bytes)) = some (some (.agg #[.int .i64 0, .int .i64 0, .int .i64 0]), 3, 24) := by kernel_rfl
theorem info_116 : (Tryd.prog.info? 116).map (fun i => (i.zero, i.size, i.bytes)) = some (some (.agg #[.int .i64 0, .int .i64 0, .int .i64 0]), 3, 24) := by kernel_rfl
theorem info_119 : (Tryd.prog.info? 119).map (fun i => (i.zero, i.size, i.bytes)) = some (some (.agg #[.bool false, .bool false]), 2, 2) := by kernel_rfl
theorem info_120 : (Tryd.prog.info? 120).map (fun i => (i.zero, i.size, i.bytes)) = some (some (.agg #[.bool false, .bool false]), 2, 2) := by kernel_rfl
theorem info_128 : (Tryd.prog.info? 128).map (fun i => (i.zero, i.size, i.bytes)) = some (some (.pointer none), 1, 8) := by kernel_rfl
theorem info_132 : (Tryd.prog.info? 132).map (fun i => (i.zero, i.size, i.bytes)) = some (some (.agg #[.int .u8 0, .int .u8 0, .int .u8 0, .int .u8 0, .int .u8 0, .int .u8 0, .int .u8 0, .int .u8 0, .int .u8 0, .int .u8 0, .int .u8 0, .int .u8 0, .int .u8 0, .int .u8 0, .int .u8 0, .int .u8 0, .int .u8 0, .int .u8 0, .int .u8 0, .int .u8 0, .int .u8 0, .int .u8 0, .int .u8 0, .int .u8 0, .int .u8 0, .int .u8 0, .int .u8 0, .int .u8 0, .int .u8 0, .int .u8 0, .int .u8 0, .int .u8 0, .int .u8 0, .int .u8 0, .int .u8 0, .int .u8 0, .int .u8 0, .int .u8 0, .int .u8 0, .int .u8 0, .int .u8 0, .int .u8 0, .int .u8 0, .int .u8 0, .int .u8 0, .int .u8 0, .int .u8 0, .int .u8 0, .int .u8 0, .int .u8 0, .int .u8 0, .int .u8 0, .int .u8 0, .int .u8 0, .int .u8 0, .int .u8 0, .int .u8 0, .int .u8 0, .int .u8 0, .int .u8 0, .int .u8 0, .int .u8 0, .int .u8 0, .int .u8 0]), 64, 64) := by kernel_rfl
theorem info_133 : (Tryd.prog.info? 133).map (fun i => (i.zero, i.size, i.bytes)) = some (some (.int .u64 0), 1, 8) := by kernel_rfl
theorem info_136 : (Tryd.prog.info? 136).map (fun i => (i.zero, i.size, i.bytes)) = some (some (.agg #[.pointer none, .pointer none, .pointer none, .string .empty]), 4, 40) := by kernel_rfl
theorem info_137 : (Tryd.prog.info? 137).map (fun i => (i.zero, i.size, i.bytes)) = some (some (.agg #[.pointer none, .pointer none, .pointer none, .string .empty]), 4, 40) := by kernel_rfl
theorem info_138 : (Tryd.prog.info? 138).map (fun i => (i.zero, i.size, i.bytes)) = some (some (.agg #[]), 0, 0) := by kernel_rfl
theorem info_139 : (Tryd.prog.info? 139).map (fun i => (i.zero, i.size, i.bytes)) = some (some (.agg #[]), 0, 0) := by kernel_rfl
theorem info_140 : (Tryd.prog.info? 140).map (fun i => (i.zero, i.size, i.bytes)) = some (some (.agg #[]), 0, 0) := by kernel_rfl
theorem info_142 : (Tryd.prog.info? 142).map (fun i => (i.zero, i.size, i.bytes)) = some (some (.int .u32 0), 1, 4) := by kernel_rfl
theorem info_143 : (Tryd.prog.info? 143).map (fun i => (i.zero, i.size, i.bytes)) = some (some (.int .u8 0), 1, 1) := by kernel_rfl
theorem info_144 : (Tryd.prog.info? 144).map (fun i => (i.zero, i.size, i.bytes)) = some (some (.int .u8 0), 1, 1) := by kernel_rfl
theorem info_146 : (Tryd.prog.info? 146).map (fun i => (i.zero, i.size, i.bytes)) = some (some (.pointer none), 1, 8) := by kernel_rfl
theorem info_147 : (Tryd.prog.info? 147).map (fun i => (i.zero, i.size, i.bytes)) = some (some (.int .i32 0), 1, 4) := by kernel_rfl
theorem info_148 : (Tryd.prog.info? 148).map (fun i => (i.zero, i.size, i.bytes)) = some (some (.int .i32 0), 1, 4) := by kernel_rfl
theorem info_149 : (Tryd.prog.info? 149).map (fun i => (i.zero, i.size, i.bytes)) = some (some (.agg #[.int .u64 0, .int .u64 0, .int .u32 0, .int .u8 0, .int .u8 0, .int .u8 0, .int .u8 0, .nilFunc, .pointer none, .int .i32 0, .int .i32 0]), 11, 48) := by kernel_rfl
theorem info_150 : (Tryd.prog.info? 150).map (fun i => (i.zero, i.size, i.bytes)) = some (some (.agg #[.int .u64 0, .int .u64 0, .int .u32 0, .int .u8 0, .int .u8 0, .int .u8 0, .int .u8 0, .nilFunc, .pointer none, .int .i32 0, .int .i32 0]), 11, 48) := by kernel_rfl
theorem info_151 : (Tryd.prog.info? 151).map (fun i => (i.zero, i.size, i.bytes)) = some (some (.pointer none), 1, 8) := by kernel_rfl
theorem tabOk : Go.Ab.TabOk Tryd.prog tab := by
 intro t i h
 unfold tab at h
 split at h
 ·cases h; exact Go.Ab.tabRow Tryd.underlying2 info_2
 ·cases h; exact Go.Ab.tabRow Tryd.underlying3 info_3
 ·cases h; exact Go.Ab.tabRow Tryd.underlying4 info_4
 ·cases h; exact Go.Ab.tabRow Tryd.underlying5 info_5
 ·cases h; exact Go.Ab.tabRow Tryd.underlying6 info_6
 ·cases h; exact Go.Ab.tabRow Tryd.underlying7 info_7
 ·cases h; exact Go.Ab.tabRow Tryd.underlying8 info_8
 ·cases h; exact Go.Ab.tabRow Tryd.underlying9 info_9
 ·cases h; exact Go.Ab.tabRow Tryd.underlying10 info_10
 ·cases h; exact Go.Ab.tabRow Tryd.underlying11 info_11
 ·cases h; exact Go.Ab.tabRow Tryd.underlying12 info_12
 ·cases h; exact Go.Ab.tabRow Tryd.underlying13 info_13
 ·cases h; exact Go.Ab.tabRow Tryd.underlying14 info_14
 ·cases h; exact Go.Ab.tabRow Tryd.underlying15 info_15
 ·cases h; exact Go.Ab.tabRow Tryd.underlying16 info_16
 ·cases h; exact Go.Ab.tabRow Tryd.underlying17 info_17
 ·cases h; exact Go.Ab.tabRow Tryd.underlying18 info_18
 ·cases h; exact Go.Ab.tabRow Tryd.underlying19 info_19
 ·cases h; exact Go.Ab.tabRow Tryd.underlying21 info_21
 ·cases h; exact Go.Ab.tabRow Tryd.underlying22 info_22
 ·cases h; exact Go.Ab.tabRowC Tryd.underlying25 info_25 ⟨by kernel_rfl, by kernel_rfl⟩
 ·cases h; exact Go.Ab.tabRowC Tryd.underlying26 info_26 ⟨by kernel_rfl, by kernel_rfl⟩
 ·cases h; exact Go.Ab.tabRow Tryd.underlying27 info_27
 ·cases h; exact Go.Ab.tabRow Tryd.underlying28 info_28
 ·cases h; exact Go.Ab.tabRow Tryd.underlying29 info_29
 ·cases h; exact Go.Ab.tabRow Tryd.underlying30 info_30
 ·cases h; exact Go.Ab.tabRow Tryd.underlying31 info_31
 ·cases h; exact Go.Ab.tabRow Tryd.underlying32 info_32
 ·cases h; exact Go.Ab.tabRow Tryd.underlying33 info_33
 ·cases h; exact Go.Ab.tabRow Tryd.underlying36 info_36
 ·cases h; exact Go.Ab.tabRow Tryd.underlying37 info_37
 ·cases h; exact Go.Ab.tabRow Tryd.underlying38 info_38
 ·cases h; exact Go.Ab.tabRow Tryd.underlying41 info_41
 ·cases h; exact Go.Ab.tabRow Tryd.underlying42 info_42
 ·cases h; exact Go.Ab.tabRow Tryd.underlying43 info_43
 ·cases h; exact Go.Ab.tabRow Tryd.underlying50 info_50
 ·cases h; exact Go.Ab.tabRow Tryd.underlying54 info_54
 ·cases h; exact Go.Ab.tabRow Tryd.underlying55 info_55
 ·cases h; exact Go.Ab.tabRow Tryd.underlying56 info_56
 ·cases h; exact Go.Ab.tabRow Tryd.underlying57 info_57
 ·cases h; exact Go.Ab.tabRowC Tryd.underlying58 info_58 ⟨by kernel_rfl, by kernel_rfl⟩
 ·cases h; exact Go.Ab.tabRowC Tryd.underlying59 info_59 ⟨by kernel_rfl, by kernel_rfl⟩
 ·cases h; exact Go.Ab.tabRowC Tryd.underlying60 info_60 ⟨by kernel_rfl, by kernel_rfl⟩
 ·cases h; exact Go.Ab.tabRowC Tryd.underlying61 info_61 ⟨by kernel_rfl, by kernel_rfl⟩
 ·cases h; exact Go.Ab.tabRow Tryd.underlying62 info_62
 ·cases h; exact Go.Ab.tabRow Tryd.underlying63 info_63
 ·cases h; exact Go.Ab.tabRow Tryd.underlying64 info_64
 ·cases h; exact Go.Ab.tabRow Tryd.underlying65 info_65
 ·cases h; exact Go.Ab.tabRow Tryd.underlying66 info_66
 ·cases h; exact Go.Ab.tabRow Tryd.underlying67 info_67
 ·cases h; exact Go.Ab.tabRow Tryd.underlying68 info_68
 ·cases h; exact Go.Ab.tabRow Tryd.underlying69 info_69
 ·cases h; exact Go.Ab.tabRowC Tryd.underlying74 info_74 ⟨by kernel_rfl, by kernel_rfl⟩
 ·cases h; exact Go.Ab.tabRowC Tryd.underlying75 info_75 ⟨by kernel_rfl, by kernel_rfl⟩
 ·cases h; exact Go.Ab.tabRowC Tryd.underlying79 info_79 ⟨by kernel_rfl, by kernel_rfl⟩
 ·cases h; exact Go.Ab.tabRowC Tryd.underlying80 info_80 ⟨by kernel_rfl, by kernel_rfl⟩
 ·cases h; exact Go.Ab.tabRow Tryd.underlying84 info_84
 ·cases h; exact Go.Ab.tabRow Tryd.underlying85 info_85
 ·cases h; exact Go.Ab.tabRow Tryd.underlying88 info_88
 ·cases h; exact Go.Ab.tabRowC Tryd.underlying95 info_95 ⟨by kernel_rfl, by kernel_rfl⟩
 ·cases h; exact Go.Ab.tabRowC Tryd.underlying96 info_96 ⟨by kernel_rfl, by kernel_rfl⟩
 ·cases h; exact Go.Ab.tabRow Tryd.underlying110 info_110
 ·cases h; exact Go.Ab.tabRowC Tryd.underlying113 info_113 ⟨by kernel_rfl, by kernel_rfl⟩
 ·cases h; exact Go.Ab.tabRowC Tryd.underlying114 info_114 ⟨by kernel_rfl, by kernel_rfl⟩
 ·cases h; exact Go.Ab.tabRowC Tryd.underlying115 info_115 ⟨by kernel_rfl, by kernel_rfl⟩
 ·cases h; exact Go.Ab.tabRowC Tryd.underlying116 info_116 ⟨by kernel_rfl, by kernel_rfl⟩
 ·cases h; exact Go.Ab.tabRowC Tryd.underlying119 info_119 ⟨by kernel_rfl, by kernel_rfl⟩
 ·cases h; exact Go.Ab.tabRowC Tryd.underlying120 info_120 ⟨by kernel_rfl, by kernel_rfl⟩
 ·cases h; exact Go.Ab.tabRow Tryd.underlying128 info_128
 ·cases h; exact Go.Ab.tabRowC Tryd.underlying132 info_132 ⟨by kernel_rfl, by kernel_rfl⟩
 ·cases h; exact Go.Ab.tabRow Tryd.underlying133 info_133
 ·cases h; exact Go.Ab.tabRow Tryd.underlying136 info_136
 ·cases h; exact Go.Ab.tabRow Tryd.underlying137 info_137
 ·cases h; exact Go.Ab.tabRow Tryd.underlying138 info_138
 ·cases h; exact Go.Ab.tabRow Tryd.underlying139 info_139
 ·cases h; exact Go.Ab.tabRow Tryd.underlying140 info_140
 ·cases h; exact Go.Ab.tabRow Tryd.underlying142 info_142
 ·cases h; exact Go.Ab.tabRow Tryd.underlying143 info_143
 ·cases h; exact Go.Ab.tabRow Tryd.underlying144 info_144
 ·cases h; exact Go.Ab.tabRow Tryd.underlying146 info_146
 ·cases h; exact Go.Ab.tabRow Tryd.underlying147 info_147
 ·cases h; exact Go.Ab.tabRow Tryd.underlying148 info_148
 ·cases h; exact Go.Ab.tabRow Tryd.underlying149 info_149
 ·cases h; exact Go.Ab.tabRow Tryd.underlying150 info_150
 ·cases h; exact Go.Ab.tabRow Tryd.underlying151 info_151
 ·cases h
end Go.Proofs.YtaminiganaagiaaDoor

