import Derived.Test.YtfnmmlcmjmepjaaRows
import Derived.Test.YtfnmmlcmjmepjaaAbR
namespace Go.Proofs.Ytfnmmlcmjmepjaa
def tab : Go.Ab.Tab := fun t => match t with
 | 2 => some { under := .int .i64, size := 1, bytes := 8, zero := .int .i64 0 }
 | 3 => some { under := .int .i64, size := 1, bytes := 8, zero := .int .i64 0 }
 | 4 => some { under := .bool, size := 1, bytes := 1, zero := .bool false }
 | 5 => some { under := .int .u8, size := 1, bytes := 1, zero := .int .u8 0 }
 | 6 => some { under := .int .u8, size := 1, bytes := 1, zero := .int .u8 0 }
 | 7 => some { under := .struct #[{ name := "x", type := 2, offset := 0, embedded := false, tag := "", pkgPath := "runtime", byteOffset := 0 }, { name := "y", type := 3, offset := 1, embedded := false, tag := "", pkgPath := "runtime", byteOffset := 8 }, { name := "signed", type := 4, offset := 2, embedded := false, tag := "", pkgPath := "runtime", byteOffset := 16 }, { name := "code", type := 6, offset := 3, embedded := false, tag := "", pkgPath := "runtime", byteOffset := 17 }], size := 4, bytes := 24, zero := .agg #[.int .i64 0, .int .i64 0, .bool false, .int .u8 0] }
 | 8 => some { under := .struct #[{ name := "x", type := 2, offset := 0, embedded := false, tag := "", pkgPath := "runtime", byteOffset := 0 }, { name := "y", type := 3, offset := 1, embedded := false, tag := "", pkgPath := "runtime", byteOffset := 8 }, { name := "signed", type := 4, offset := 2, embedded := false, tag := "", pkgPath := "runtime", byteOffset := 16 }, { name := "code", type := 6, offset := 3, embedded := false, tag := "", pkgPath := "runtime", byteOffset := 17 }], size := 4, bytes := 24, zero := .agg #[.int .i64 0, .int .i64 0, .bool false, .int .u8 0] }
 | 9 => some { under := .string, size := 1, bytes := 16, zero := .string .empty }
 | 10 => some { under := .string, size := 1, bytes := 16, zero := .string .empty }
 | 11 => some { under := .string, size := 1, bytes := 16, zero := .string .empty }
 | 12 => some { under := .int .u64, size := 1, bytes := 8, zero := .int .u64 0 }
 | 13 => some { under := .struct #[{ name := "msg", type := 9, offset := 0, embedded := false, tag := "", pkgPath := "runtime", byteOffset := 0 }, { name := "addr", type := 12, offset := 1, embedded := false, tag := "", pkgPath := "runtime", byteOffset := 16 }], size := 2, bytes := 24, zero := .agg #[.string .empty, .int .u64 0] }
 | 14 => some { under := .struct #[{ name := "msg", type := 9, offset := 0, embedded := false, tag := "", pkgPath := "runtime", byteOffset := 0 }, { name := "addr", type := 12, offset := 1, embedded := false, tag := "", pkgPath := "runtime", byteOffset := 16 }], size := 2, bytes := 24, zero := .agg #[.string .empty, .int .u64 0] }
 | 15 => some { under := .pointer 147, size := 1, bytes := 8, zero := .pointer none }
 | 16 => some { under := .pointer 150, size := 1, bytes := 8, zero := .pointer none }
 | 17 => some { under := .pointer 159, size := 1, bytes := 8, zero := .pointer none }
 | 18 => some { under := .struct #[{ name := "typ", type := 17, offset := 0, embedded := false, tag := "", pkgPath := "internal/runtime/maps", byteOffset := 0 }], size := 1, bytes := 8, zero := .agg #[.pointer none] }
 | 19 => some { under := .struct #[{ name := "typ", type := 17, offset := 0, embedded := false, tag := "", pkgPath := "internal/runtime/maps", byteOffset := 0 }], size := 1, bytes := 8, zero := .agg #[.pointer none] }
 | 21 => some { under := .int .i32, size := 1, bytes := 4, zero := .int .i32 0 }
 | 22 => some { under := .slice 35, size := 1, bytes := 24, zero := .slice none 0 0 }
 | 23 => some { under := .slice 28, size := 1, bytes := 24, zero := .slice none 0 0 }
 | 27 => some { under := .struct #[{ name := "Kind", type := 3, offset := 0, embedded := false, tag := "", pkgPath := "", byteOffset := 0 }, { name := "Pin", type := 3, offset := 1, embedded := false, tag := "", pkgPath := "", byteOffset := 8 }], size := 2, bytes := 16, zero := .agg #[.int .i64 0, .int .i64 0], cmp := true }
 | 28 => some { under := .struct #[{ name := "Kind", type := 3, offset := 0, embedded := false, tag := "", pkgPath := "", byteOffset := 0 }, { name := "Pin", type := 3, offset := 1, embedded := false, tag := "", pkgPath := "", byteOffset := 8 }], size := 2, bytes := 16, zero := .agg #[.int .i64 0, .int .i64 0], cmp := true }
 | 30 => some { under := .slice 39, size := 1, bytes := 24, zero := .slice none 0 0 }
 | 31 => some { under := .int .i64, size := 1, bytes := 8, zero := .int .i64 0 }
 | 34 => some { under := .struct #[{ name := "Core", type := 3, offset := 0, embedded := false, tag := "", pkgPath := "", byteOffset := 0 }, { name := "Vec", type := 3, offset := 1, embedded := false, tag := "", pkgPath := "", byteOffset := 8 }, { name := "Level", type := 4, offset := 2, embedded := false, tag := "", pkgPath := "", byteOffset := 16 }, { name := "Masked", type := 4, offset := 3, embedded := false, tag := "", pkgPath := "", byteOffset := 17 }, { name := "Up", type := 4, offset := 4, embedded := false, tag := "", pkgPath := "", byteOffset := 18 }, { name := "Kept", type := 4, offset := 5, embedded := false, tag := "", pkgPath := "", byteOffset := 19 }, { name := "Sent", type := 4, offset := 6, embedded := false, tag := "", pkgPath := "", byteOffset := 20 }], size := 7, bytes := 24, zero := .agg #[.int .i64 0, .int .i64 0, .bool false, .bool false, .bool false, .bool false, .bool false], cmp := true }
 | 35 => some { under := .struct #[{ name := "Core", type := 3, offset := 0, embedded := false, tag := "", pkgPath := "", byteOffset := 0 }, { name := "Vec", type := 3, offset := 1, embedded := false, tag := "", pkgPath := "", byteOffset := 8 }, { name := "Level", type := 4, offset := 2, embedded := false, tag := "", pkgPath := "", byteOffset := 16 }, { name := "Masked", type := 4, offset := 3, embedded := false, tag := "", pkgPath := "", byteOffset := 17 }, { name := "Up", type := 4, offset := 4, embedded := false, tag := "", pkgPath := "", byteOffset := 18 }, { name := "Kept", type := 4, offset := 5, embedded := false, tag := "", pkgPath := "", byteOffset := 19 }, { name := "Sent", type := 4, offset := 6, embedded := false, tag := "", pkgPath := "", byteOffset := 20 }], size := 7, bytes := 24, zero := .agg #[.int .i64 0, .int .i64 0, .bool false, .bool false, .bool false, .bool false, .bool false], cmp := true }
 | 38 => some { under := .struct #[{ name := "Pin", type := 3, offset := 0, embedded := false, tag := "", pkgPath := "", byteOffset := 0 }, { name := "Core", type := 3, offset := 1, embedded := false, tag := "", pkgPath := "", byteOffset := 8 }, { name := "Vec", type := 3, offset := 2, embedded := false, tag := "", pkgPath := "", byteOffset := 16 }], size := 3, bytes := 24, zero := .agg #[.int .i64 0, .int .i64 0, .int .i64 0], cmp := true }
 | 39 => some { under := .struct #[{ name := "Pin", type := 3, offset := 0, embedded := false, tag := "", pkgPath := "", byteOffset := 0 }, { name := "Core", type := 3, offset := 1, embedded := false, tag := "", pkgPath := "", byteOffset := 8 }, { name := "Vec", type := 3, offset := 2, embedded := false, tag := "", pkgPath := "", byteOffset := 16 }], size := 3, bytes := 24, zero := .agg #[.int .i64 0, .int .i64 0, .int .i64 0], cmp := true }
 | 41 => some { under := .slice 51, size := 1, bytes := 24, zero := .slice none 0 0 }
 | 42 => some { under := .slice 31, size := 1, bytes := 24, zero := .slice none 0 0 }
 | 43 => some { under := .slice 5, size := 1, bytes := 24, zero := .slice none 0 0 }
 | 44 => some { under := .struct #[{ name := "Has", type := 43, offset := 0, embedded := false, tag := "", pkgPath := "", byteOffset := 0 }, { name := "Writers", type := 3, offset := 1, embedded := false, tag := "", pkgPath := "", byteOffset := 24 }, { name := "Readers", type := 3, offset := 2, embedded := false, tag := "", pkgPath := "", byteOffset := 32 }], size := 3, bytes := 40, zero := .agg #[.slice none 0 0, .int .i64 0, .int .i64 0] }
 | 45 => some { under := .struct #[{ name := "Has", type := 43, offset := 0, embedded := false, tag := "", pkgPath := "", byteOffset := 0 }, { name := "Writers", type := 3, offset := 1, embedded := false, tag := "", pkgPath := "", byteOffset := 24 }, { name := "Readers", type := 3, offset := 2, embedded := false, tag := "", pkgPath := "", byteOffset := 32 }], size := 3, bytes := 40, zero := .agg #[.slice none 0 0, .int .i64 0, .int .i64 0] }
 | 50 => some { under := .struct #[{ name := "Kind", type := 3, offset := 0, embedded := false, tag := "", pkgPath := "", byteOffset := 0 }, { name := "Most", type := 3, offset := 1, embedded := false, tag := "", pkgPath := "", byteOffset := 8 }, { name := "Data", type := 43, offset := 2, embedded := false, tag := "", pkgPath := "", byteOffset := 16 }], size := 3, bytes := 40, zero := .agg #[.int .i64 0, .int .i64 0, .slice none 0 0] }
 | 51 => some { under := .struct #[{ name := "Kind", type := 3, offset := 0, embedded := false, tag := "", pkgPath := "", byteOffset := 0 }, { name := "Most", type := 3, offset := 1, embedded := false, tag := "", pkgPath := "", byteOffset := 8 }, { name := "Data", type := 43, offset := 2, embedded := false, tag := "", pkgPath := "", byteOffset := 16 }], size := 3, bytes := 40, zero := .agg #[.int .i64 0, .int .i64 0, .slice none 0 0] }
 | 55 => some { under := .slice 43, size := 1, bytes := 24, zero := .slice none 0 0 }
 | 56 => some { under := .struct #[{ name := "Lines", type := 55, offset := 0, embedded := false, tag := "", pkgPath := "", byteOffset := 0 }, { name := "Edit", type := 43, offset := 1, embedded := false, tag := "", pkgPath := "", byteOffset := 24 }], size := 2, bytes := 48, zero := .agg #[.slice none 0 0, .slice none 0 0] }
 | 57 => some { under := .struct #[{ name := "Lines", type := 55, offset := 0, embedded := false, tag := "", pkgPath := "", byteOffset := 0 }, { name := "Edit", type := 43, offset := 1, embedded := false, tag := "", pkgPath := "", byteOffset := 24 }], size := 2, bytes := 48, zero := .agg #[.slice none 0 0, .slice none 0 0] }
 | 63 => some { under := .slice 65, size := 1, bytes := 24, zero := .slice none 0 0 }
 | 64 => some { under := .struct #[{ name := "Kind", type := 3, offset := 0, embedded := false, tag := "", pkgPath := "", byteOffset := 0 }, { name := "Id", type := 3, offset := 1, embedded := false, tag := "", pkgPath := "", byteOffset := 8 }, { name := "Ticks", type := 3, offset := 2, embedded := false, tag := "", pkgPath := "", byteOffset := 16 }], size := 3, bytes := 24, zero := .agg #[.int .i64 0, .int .i64 0, .int .i64 0], cmp := true }
 | 65 => some { under := .struct #[{ name := "Kind", type := 3, offset := 0, embedded := false, tag := "", pkgPath := "", byteOffset := 0 }, { name := "Id", type := 3, offset := 1, embedded := false, tag := "", pkgPath := "", byteOffset := 8 }, { name := "Ticks", type := 3, offset := 2, embedded := false, tag := "", pkgPath := "", byteOffset := 16 }], size := 3, bytes := 24, zero := .agg #[.int .i64 0, .int .i64 0, .int .i64 0], cmp := true }
 | 66 => some { under := .slice 71, size := 1, bytes := 24, zero := .slice none 0 0 }
 | 70 => some { under := .struct #[{ name := "At", type := 3, offset := 0, embedded := false, tag := "", pkgPath := "", byteOffset := 0 }, { name := "Id", type := 3, offset := 1, embedded := false, tag := "", pkgPath := "", byteOffset := 8 }], size := 2, bytes := 16, zero := .agg #[.int .i64 0, .int .i64 0], cmp := true }
 | 71 => some { under := .struct #[{ name := "At", type := 3, offset := 0, embedded := false, tag := "", pkgPath := "", byteOffset := 0 }, { name := "Id", type := 3, offset := 1, embedded := false, tag := "", pkgPath := "", byteOffset := 8 }], size := 2, bytes := 16, zero := .agg #[.int .i64 0, .int .i64 0], cmp := true }
 | 83 => some { under := .pointer 3, size := 1, bytes := 8, zero := .pointer none }
 | 84 => some { under := .map 3 83, size := 1, bytes := 8, zero := .map none }
 | 91 => some { under := .pointer 97, size := 1, bytes := 8, zero := .pointer none }
 | 92 => some { under := .map 3 3, size := 1, bytes := 8, zero := .map none }
 | 93 => some { under := .slice 110, size := 1, bytes := 24, zero := .slice none 0 0 }
 | 94 => some { under := .array 8 93, size := 8, bytes := 192, zero := .agg #[.slice none 0 0, .slice none 0 0, .slice none 0 0, .slice none 0 0, .slice none 0 0, .slice none 0 0, .slice none 0 0, .slice none 0 0] }
 | 95 => some { under := .array 3 94, size := 24, bytes := 576, zero := .agg #[.slice none 0 0, .slice none 0 0, .slice none 0 0, .slice none 0 0, .slice none 0 0, .slice none 0 0, .slice none 0 0, .slice none 0 0, .slice none 0 0, .slice none 0 0, .slice none 0 0, .slice none 0 0, .slice none 0 0, .slice none 0 0, .slice none 0 0, .slice none 0 0, .slice none 0 0, .slice none 0 0, .slice none 0 0, .slice none 0 0, .slice none 0 0, .slice none 0 0, .slice none 0 0, .slice none 0 0] }
 | 96 => some { under := .struct #[{ name := "now", type := 3, offset := 0, embedded := false, tag := "", pkgPath := "corebell/wheel", byteOffset := 0 }, { name := "on", type := 95, offset := 1, embedded := false, tag := "", pkgPath := "corebell/wheel", byteOffset := 8 }, { name := "places", type := 92, offset := 25, embedded := false, tag := "", pkgPath := "corebell/wheel", byteOffset := 584 }, { name := "fired", type := 66, offset := 26, embedded := false, tag := "", pkgPath := "corebell/wheel", byteOffset := 592 }], size := 27, bytes := 616, zero := .agg #[.int .i64 0, .slice none 0 0, .slice none 0 0, .slice none 0 0, .slice none 0 0, .slice none 0 0, .slice none 0 0, .slice none 0 0, .slice none 0 0, .slice none 0 0, .slice none 0 0, .slice none 0 0, .slice none 0 0, .slice none 0 0, .slice none 0 0, .slice none 0 0, .slice none 0 0, .slice none 0 0, .slice none 0 0, .slice none 0 0, .slice none 0 0, .slice none 0 0, .slice none 0 0, .slice none 0 0, .slice none 0 0, .map none, .slice none 0 0] }
 | 97 => some { under := .struct #[{ name := "now", type := 3, offset := 0, embedded := false, tag := "", pkgPath := "corebell/wheel", byteOffset := 0 }, { name := "on", type := 95, offset := 1, embedded := false, tag := "", pkgPath := "corebell/wheel", byteOffset := 8 }, { name := "places", type := 92, offset := 25, embedded := false, tag := "", pkgPath := "corebell/wheel", byteOffset := 584 }, { name := "fired", type := 66, offset := 26, embedded := false, tag := "", pkgPath := "corebell/wheel", byteOffset := 592 }], size := 27, bytes := 616, zero := .agg #[.int .i64 0, .slice none 0 0, .slice none 0 0, .slice none 0 0, .slice none 0 0, .slice none 0 0, .slice none 0 0, .slice none 0 0, .slice none 0 0, .slice none 0 0, .slice none 0 0, .slice none 0 0, .slice none 0 0, .slice none 0 0, .slice none 0 0, .slice none 0 0, .slice none 0 0, .slice none 0 0, .slice none 0 0, .slice none 0 0, .slice none 0 0, .slice none 0 0, .slice none 0 0, .slice none 0 0, .slice none 0 0, .map none, .slice none 0 0] }
 | 100 => some { under := .pointer 35, size := 1, bytes := 8, zero := .pointer none }
 | 105 => some { under := .pointer 57, size := 1, bytes := 8, zero := .pointer none }
 | 109 => some { under := .struct #[{ name := "at", type := 3, offset := 0, embedded := false, tag := "", pkgPath := "corebell/wheel", byteOffset := 0 }, { name := "id", type := 3, offset := 1, embedded := false, tag := "", pkgPath := "corebell/wheel", byteOffset := 8 }], size := 2, bytes := 16, zero := .agg #[.int .i64 0, .int .i64 0], cmp := true }
 | 110 => some { under := .struct #[{ name := "at", type := 3, offset := 0, embedded := false, tag := "", pkgPath := "corebell/wheel", byteOffset := 0 }, { name := "id", type := 3, offset := 1, embedded := false, tag := "", pkgPath := "corebell/wheel", byteOffset := 8 }], size := 2, bytes := 16, zero := .agg #[.int .i64 0, .int .i64 0], cmp := true }
 | 115 => some { under := .pointer 93, size := 1, bytes := 8, zero := .pointer none }
 | 117 => some { under := .slice 3, size := 1, bytes := 24, zero := .slice none 0 0 }
 | 123 => some { under := .int .u64, size := 1, bytes := 8, zero := .int .u64 0 }
 | 125 => some { under := .int .i64, size := 1, bytes := 8, zero := .int .i64 0 }
 | 133 => some { under := .int .u32, size := 1, bytes := 4, zero := .int .u32 0 }
 | 135 => some { under := .int .u64, size := 1, bytes := 8, zero := .int .u64 0 }
 | 136 => some { under := .int .u64, size := 1, bytes := 8, zero := .int .u64 0 }
 | 142 => some { under := .pointer 136, size := 1, bytes := 8, zero := .pointer none }
 | 146 => some { under := .struct #[{ name := "_interface", type := 17, offset := 0, embedded := false, tag := "", pkgPath := "runtime", byteOffset := 0 }, { name := "concrete", type := 17, offset := 1, embedded := false, tag := "", pkgPath := "runtime", byteOffset := 8 }, { name := "asserted", type := 17, offset := 2, embedded := false, tag := "", pkgPath := "runtime", byteOffset := 16 }, { name := "missingMethod", type := 9, offset := 3, embedded := false, tag := "", pkgPath := "runtime", byteOffset := 24 }], size := 4, bytes := 40, zero := .agg #[.pointer none, .pointer none, .pointer none, .string .empty] }
 | 147 => some { under := .struct #[{ name := "_interface", type := 17, offset := 0, embedded := false, tag := "", pkgPath := "runtime", byteOffset := 0 }, { name := "concrete", type := 17, offset := 1, embedded := false, tag := "", pkgPath := "runtime", byteOffset := 8 }, { name := "asserted", type := 17, offset := 2, embedded := false, tag := "", pkgPath := "runtime", byteOffset := 16 }, { name := "missingMethod", type := 9, offset := 3, embedded := false, tag := "", pkgPath := "runtime", byteOffset := 24 }], size := 4, bytes := 40, zero := .agg #[.pointer none, .pointer none, .pointer none, .string .empty] }
 | 148 => some { under := .array 0 16, size := 0, bytes := 0, zero := .agg #[] }
 | 149 => some { under := .struct #[{ name := "_", type := 148, offset := 0, embedded := false, tag := "", pkgPath := "runtime", byteOffset := 0 }], size := 0, bytes := 0, zero := .agg #[] }
 | 150 => some { under := .struct #[{ name := "_", type := 148, offset := 0, embedded := false, tag := "", pkgPath := "runtime", byteOffset := 0 }], size := 0, bytes := 0, zero := .agg #[] }
 | 152 => some { under := .int .u8, size := 1, bytes := 1, zero := .int .u8 0 }
 | 153 => some { under := .int .u8, size := 1, bytes := 1, zero := .int .u8 0 }
 | 155 => some { under := .pointer 5, size := 1, bytes := 8, zero := .pointer none }
 | 156 => some { under := .int .i32, size := 1, bytes := 4, zero := .int .i32 0 }
 | 157 => some { under := .int .i32, size := 1, bytes := 4, zero := .int .i32 0 }
 | 158 => some { under := .struct #[{ name := "Size_", type := 12, offset := 0, embedded := false, tag := "", pkgPath := "", byteOffset := 0 }, { name := "PtrBytes", type := 12, offset := 1, embedded := false, tag := "", pkgPath := "", byteOffset := 8 }, { name := "Hash", type := 133, offset := 2, embedded := false, tag := "", pkgPath := "", byteOffset := 16 }, { name := "TFlag", type := 152, offset := 3, embedded := false, tag := "", pkgPath := "", byteOffset := 20 }, { name := "Align_", type := 5, offset := 4, embedded := false, tag := "", pkgPath := "", byteOffset := 21 }, { name := "FieldAlign_", type := 5, offset := 5, embedded := false, tag := "", pkgPath := "", byteOffset := 22 }, { name := "Kind_", type := 153, offset := 6, embedded := false, tag := "", pkgPath := "", byteOffset := 23 }, { name := "Equal", type := 154, offset := 7, embedded := false, tag := "", pkgPath := "", byteOffset := 24 }, { name := "GCData", type := 155, offset := 8, embedded := false, tag := "", pkgPath := "", byteOffset := 32 }, { name := "Str", type := 156, offset := 9, embedded := false, tag := "", pkgPath := "", byteOffset := 40 }, { name := "PtrToThis", type := 157, offset := 10, embedded := false, tag := "", pkgPath := "", byteOffset := 44 }], size := 11, bytes := 48, zero := .agg #[.int .u64 0, .int .u64 0, .int .u32 0, .int .u8 0, .int .u8 0, .int .u8 0, .int .u8 0, .nilFunc, .pointer none, .int .i32 0, .int .i32 0] }
 | 159 => some { under := .struct #[{ name := "Size_", type := 12, offset := 0, embedded := false, tag := "", pkgPath := "", byteOffset := 0 }, { name := "PtrBytes", type := 12, offset := 1, embedded := false, tag := "", pkgPath := "", byteOffset := 8 }, { name := "Hash", type := 133, offset := 2, embedded := false, tag := "", pkgPath := "", byteOffset := 16 }, { name := "TFlag", type := 152, offset := 3, embedded := false, tag := "", pkgPath := "", byteOffset := 20 }, { name := "Align_", type := 5, offset := 4, embedded := false, tag := "", pkgPath := "", byteOffset := 21 }, { name := "FieldAlign_", type := 5, offset := 5, embedded := false, tag := "", pkgPath := "", byteOffset := 22 }, { name := "Kind_", type := 153, offset := 6, embedded := false, tag := "", pkgPath := "", byteOffset := 23 }, { name := "Equal", type := 154, offset := 7, embedded := false, tag := "", pkgPath := "", byteOffset := 24 }, { name := "GCData", type := 155, offset := 8, embedded := false, tag := "", pkgPath := "", byteOffset := 32 }, { name := "Str", type := 156, offset := 9, embedded := false, tag := "", pkgPath := "", byteOffset := 40 }, { name := "PtrToThis", type := 157, offset := 10, embedded := false, tag := "", pkgPath := "", byteOffset := 44 }], size := 11, bytes := 48, zero := .agg #[.int .u64 0, .int .u64 0, .int .u32 0, .int .u8 0, .int .u8 0, .int .u8 0, .int .u8 0, .nilFunc, .pointer none, .int .i32 0, .int .i32 0] }
 | 160 => some { under := .unsafePointer, size := 1, bytes := 8, zero := .pointer none }
 | _ => none
theorem info_2 : (Try.prog.info? 2).map (fun i => (i.zero, i.size, i.bytes)) = some (some (.int .i64 0), 1, 8) := by kernel_rfl
theorem info_3 : (Try.prog.info? 3).map (fun i => (i.zero, i.size, i.bytes)) = some (some (.int .i64 0), 1, 8) := by kernel_rfl
theorem info_4 : (Try.prog.info? 4).map (fun i => (i.zero, i.size, i.bytes)) = some (some (.bool false), 1, 1) := by kernel_rfl
theorem info_5 : (Try.prog.info? 5).map (fun i => (i.zero, i.size, i.bytes)) = some (some (.int .u8 0), 1, 1) := by kernel_rfl
theorem info_6 : (Try.prog.info? 6).map (fun i => (i.zero, i.size, i.bytes)) = some (some (.int .u8 0), 1, 1) := by kernel_rfl
theorem info_7 : (Try.prog.info? 7).map (fun i => (i.zero, i.size, i.bytes)) = some (some (.agg #[.int .i64 0, .int .i64 0, .bool false, .int .u8 0]), 4, 24) := by kernel_rfl
theorem info_8 : (Try.prog.info? 8).map (fun i => (i.zero, i.size, i.bytes)) = some (some (.agg #[.int .i64 0, .int .i64 0, .bool false, .int .u8 0]), 4, 24) := by kernel_rfl
theorem info_9 : (Try.prog.info? 9).map (fun i => (i.zero, i.size, i.bytes)) = some (some (.string .empty), 1, 16) := by kernel_rfl
theorem info_10 : (Try.prog.info? 10).map (fun i => (i.zero, i.size, i.bytes)) = some (some (.string .empty), 1, 16) := by kernel_rfl
theorem info_11 : (Try.prog.info? 11).map (fun i => (i.zero, i.size, i.bytes)) = some (some (.string .empty), 1, 16) := by kernel_rfl
theorem info_12 : (Try.prog.info? 12).map (fun i => (i.zero, i.size, i.bytes)) = some (some (.int .u64 0), 1, 8) := by kernel_rfl
theorem info_13 : (Try.prog.info? 13).map (fun i => (i.zero, i.size, i.bytes)) = some (some (.agg #[.string .empty, .int .u64 0]), 2, 24) := by kernel_rfl
theorem info_14 : (Try.prog.info? 14).map (fun i => (i.zero, i.size, i.bytes)) = some (some (.agg #[.string .empty, .int .u64 0]), 2, 24) := by kernel_rfl
theorem info_15 : (Try.prog.info? 15).map (fun i => (i.zero, i.size, i.bytes)) = some (some (.pointer none), 1, 8) := by kernel_rfl
theorem info_16 : (Try.prog.info? 16).map (fun i => (i.zero, i.size, i.bytes)) = some (some (.pointer none), 1, 8) := by kernel_rfl
theorem info_17 : (Try.prog.info? 17).map (fun i => (i.zero, i.size, i.bytes)) = some (some (.pointer none), 1, 8) := by kernel_rfl
theorem info_18 : (Try.prog.info? 18).map (fun i => (i.zero, i.size, i.bytes)) = some (some (.agg #[.pointer none]), 1, 8) := by kernel_rfl
theorem info_19 : (Try.prog.info? 19).map (fun i => (i.zero, i.size, i.bytes)) = some (some (.agg #[.pointer none]), 1, 8) := by kernel_rfl
theorem info_21 : (Try.prog.info? 21).map (fun i => (i.zero, i.size, i.bytes)) = some (some (.int .i32 0), 1, 4) := by kernel_rfl
theorem info_22 : (Try.prog.info? 22).map (fun i => (i.zero, i.size, i.bytes)) = some (some (.slice none 0 0), 1, 24) := by kernel_rfl
theorem info_23 : (Try.prog.info? 23).map (fun i => (i.zero, i.size, i.bytes)) = some (some (.slice none 0 0), 1, 24) := by kernel_rfl
theorem info_27 : (Try.prog.info? 27).map (fun i => (i.zero, i.size, i.bytes)) = some (some (.agg #[.int .i64 0, .int .i64 0]), 2, 16) := by kernel_rfl
theorem info_28 : (Try.prog.info? 28).map (fun i => (i.zero, i.size, i.bytes)) = some (some (.agg #[.int .i64 0, .int .i64 0]), 2, 16) := by kernel_rfl
theorem info_30 : (Try.prog.info? 30).map (fun i => (i.zero, i.size, i.bytes)) = some (some (.slice none 0 0), 1, 24) := by kernel_rfl
theorem info_31 : (Try.prog.info? 31).map (fun i => (i.zero, i.size, i.bytes)) = some (some (.int .i64 0), 1, 8) := by kernel_rfl
theorem info_34 : (Try.prog.info? 34).map (fun i => (i.zero, i.size, i.bytes)) = some (some (.agg #[.int .i64 0, .int .i64 0, .bool false, .bool false, .bool false, .bool false, .bool false]), 7, 24) := by kernel_rfl
theorem info_35 : (Try.prog.info? 35).map (fun i => (i.zero, i.size, i.bytes)) = some (some (.agg #[.int .i64 0, .int .i64 0, .bool false, .bool false, .bool false, .bool false, .bool false]), 7, 24) := by kernel_rfl
theorem info_38 : (Try.prog.info? 38).map (fun i => (i.zero, i.size, i.bytes)) = some (some (.agg #[.int .i64 0, .int .i64 0, .int .i64 0]), 3, 24) := by kernel_rfl
theorem info_39 : (Try.prog.info? 39).map (fun i => (i.zero, i.size, i.bytes)) = some (some (.agg #[.int .i64 0, .int .i64 0, .int .i64 0]), 3, 24) := by kernel_rfl
theorem info_41 : (Try.prog.info? 41).map (fun i => (i.zero, i.size, i.bytes)) = some (some (.slice none 0 0), 1, 24) := by kernel_rfl
theorem info_42 : (Try.prog.info? 42).map (fun i => (i.zero, i.size, i.bytes)) = some (some (.slice none 0 0), 1, 24) := by kernel_rfl
theorem info_43 : (Try.prog.info? 43).map (fun i => (i.zero, i.size, i.bytes)) = some (some (.slice none 0 0), 1, 24) := by kernel_rfl
theorem info_44 : (Try.prog.info? 44).map (fun i => (i.zero, i.size, i.bytes)) = some (some (.agg #[.slice none 0 0, .int .i64 0, .int .i64 0]), 3, 40) := by kernel_rfl
theorem info_45 : (Try.prog.info? 45).map (fun i => (i.zero, i.size, i.bytes)) = some (some (.agg #[.slice none 0 0, .int .i64 0, .int .i64 0]), 3, 40) := by kernel_rfl
theorem info_50 : (Try.prog.info? 50).map (fun i => (i.zero, i.size, i.bytes)) = some (some (.agg #[.int .i64 0, .int .i64 0, .slice none 0 0]), 3, 40) := by kernel_rfl
theorem info_51 : (Try.prog.info? 51).map (fun i => (i.zero, i.size, i.bytes)) = some (some (.agg #[.int .i64 0, .int .i64 0, .slice none 0 0]), 3, 40) := by kernel_rfl
theorem info_55 : (Try.prog.info? 55).map (fun i => (i.zero, i.size, i.bytes)) = some (some (.slice none 0 0), 1, 24) := by kernel_rfl
theorem info_56 : (Try.prog.info? 56).map (fun i => (i.zero, i.size, i.bytes)) = some (some (.agg #[.slice none 0 0, .slice none 0 0]), 2, 48) := by kernel_rfl
theorem info_57 : (Try.prog.info? 57).map (fun i => (i.zero, i.size, i.bytes)) = some (some (.agg #[.slice none 0 0, .slice none 0 0]), 2, 48) := by kernel_rfl
theorem info_63 : (Try.prog.info? 63).map (fun i => (i.zero, i.size, i.bytes)) = some (some (.slice none 0 0), 1, 24) := by kernel_rfl
theorem info_64 : (Try.prog.info? 64).map (fun i => (i.zero, i.size, i.bytes)) = some (some (.agg #[.int .i64 0, .int .i64 0, .int .i64 0]), 3, 24) := by kernel_rfl
theorem info_65 : (Try.prog.info? 65).map (fun i => (i.zero, i.size, i.bytes)) = some (some (.agg #[.int .i64 0, .int .i64 0, .int .i64 0]), 3, 24) := by kernel_rfl
theorem info_66 : (Try.prog.info? 66).map (fun i => (i.zero, i.size, i.bytes)) = some (some (.slice none 0 0), 1, 24) := by kernel_rfl
theorem info_70 : (Try.prog.info? 70).map (fun i => (i.zero, i.size, i.bytes)) = some (some (.agg #[.int .i64 0, .int .i64 0]), 2, 16) := by kernel_rfl
theorem info_71 : (Try.prog.info? 71).map (fun i => (i.zero, i.size, i.bytes)) = some (some (.agg #[.int .i64 0, .int .i64 0]), 2, 16) := by kernel_rfl
theorem info_83 : (Try.prog.info? 83).map (fun i => (i.zero, i.size, i.bytes)) = some (some (.pointer none), 1, 8) := by kernel_rfl
theorem info_84 : (Try.prog.info? 84).map (fun i => (i.zero, i.size, i.bytes)) = some (some (.map none), 1, 8) := by kernel_rfl
theorem info_91 : (Try.prog.info? 91).map (fun i => (i.zero, i.size, i.bytes)) = some (some (.pointer none), 1, 8) := by kernel_rfl
theorem info_92 : (Try.prog.info? 92).map (fun i => (i.zero, i.size, i.bytes)) = some (some (.map none), 1, 8) := by kernel_rfl
theorem info_93 : (Try.prog.info? 93).map (fun i => (i.zero, i.size, i.bytes)) = some (some (.slice none 0 0), 1, 24) := by kernel_rfl
theorem info_94 : (Try.prog.info? 94).map (fun i => (i.zero, i.size, i.bytes)) = some (some (.agg #[.slice none 0 0, .slice none 0 0, .slice none 0 0, .slice none 0 0, .slice none 0 0, .slice none 0 0, .slice none 0 0, .slice none 0 0]), 8, 192) := by kernel_rfl
theorem info_95 : (Try.prog.info? 95).map (fun i => (i.zero, i.size, i.bytes)) = some (some (.agg #[.slice none 0 0, .slice none 0 0, .slice none 0 0, .slice none 0 0, .slice none 0 0, .slice none 0 0, .slice none 0 0, .slice none 0 0, .slice none 0 0, .slice none 0 0, .slice none 0 0, .slice none 0 0, .slice none 0 0, .slice none 0 0, .slice none 0 0, .slice none 0 0, .slice none 0 0, .slice none 0 0, .slice none 0 0, .slice none 0 0, .slice none 0 0, .slice none 0 0, .slice none 0 0, .slice none 0 0]), 24, 576) := by kernel_rfl
theorem info_96 : (Try.prog.info? 96).map (fun i => (i.zero, i.size, i.bytes)) = some (some (.agg #[.int .i64 0, .slice none 0 0, .slice none 0 0, .slice none 0 0, .slice none 0 0, .slice none 0 0, .slice none 0 0, .slice none 0 0, .slice none 0 0, .slice none 0 0, .slice none 0 0, .slice none 0 0, .slice none 0 0, .slice none 0 0, .slice none 0 0, .slice none 0 0, .slice none 0 0, .slice none 0 0, .slice none 0 0, .slice none 0 0, .slice none 0 0, .slice none 0 0, .slice none 0 0, .slice none 0 0, .slice none 0 0, .map none, .slice none 0 0]), 27, 616) := by kernel_rfl
theorem info_97 : (Try.prog.info? 97).map (fun i => (i.zero, i.size, i.bytes)) = some (some (.agg #[.int .i64 0, .slice none 0 0, .slice none 0 0, .slice none 0 0, .slice none 0 0, .slice none 0 0, .slice none 0 0, .slice none 0 0, .slice none 0 0, .slice none 0 0, .slice none 0 0, .slice none 0 0, .slice none 0 0, .slice none 0 0, .slice none 0 0, .slice none 0 0, .slice none 0 0, .slice none 0 0, .slice none 0 0, .slice none 0 0, .slice none 0 0, .slice none 0 0, .slice none 0 0, .slice none 0 0, .slice none 0 0, .map none, .slice none 0 0]), 27, 616) := by kernel_rfl
theorem info_100 : (Try.prog.info? 100).map (fun i => (i.zero, i.size, i.bytes)) = some (some (.pointer none), 1, 8) := by kernel_rfl
theorem info_105 : (Try.prog.info? 105).map (fun i => (i.zero, i.size, i.bytes)) = some (some (.pointer none), 1, 8) := by kernel_rfl
theorem info_109 : (Try.prog.info? 109).map (fun i => (i.zero, i.size, i.bytes)) = some (some (.agg #[.int .i64 0, .int .i64 0]), 2, 16) := by kernel_rfl
theorem info_110 : (Try.prog.info? 110).map (fun i => (i.zero, i.size, i.bytes)) = some (some (.agg #[.int .i64 0, .int .i64 0]), 2, 16) := by kernel_rfl
theorem info_115 : (Try.prog.info? 115).map (fun i => (i.zero, i.size, i.bytes)) = some (some (.pointer none), 1, 8) := by kernel_rfl
theorem info_117 : (Try.prog.info? 117).map (fun i => (i.zero, i.size, i.bytes)) = some (some (.slice none 0 0), 1, 24) := by kernel_rfl
theorem info_123 : (Try.prog.info? 123).map (fun i => (i.zero, i.size, i.bytes)) = some (some (.int .u64 0), 1, 8) := by kernel_rfl
theorem info_125 : (Try.prog.info? 125).map (fun i => (i.zero, i.size, i.bytes)) = some (some (.int .i64 0), 1, 8) := by kernel_rfl
theorem info_133 : (Try.prog.info? 133).map (fun i => (i.zero, i.size, i.bytes)) = some (some (.int .u32 0), 1, 4) := by kernel_rfl
theorem info_135 : (Try.prog.info? 135).map (fun i => (i.zero, i.size, i.bytes)) = some (some (.int .u64 0), 1, 8) := by kernel_rfl
theorem info_136 : (Try.prog.info? 136).map (fun i => (i.zero, i.size, i.bytes)) = some (some (.int .u64 0), 1, 8) := by kernel_rfl
theorem info_142 : (Try.prog.info? 142).map (fun i => (i.zero, i.size, i.bytes)) = some (some (.pointer none), 1, 8) := by kernel_rfl
theorem info_146 : (Try.prog.info? 146).map (fun i => (i.zero, i.size, i.bytes)) = some (some (.agg #[.pointer none, .pointer none, .pointer none, .string .empty]), 4, 40) := by kernel_rfl
theorem info_147 : (Try.prog.info? 147).map (fun i => (i.zero, i.size, i.bytes)) = some (some (.agg #[.pointer none, .pointer none, .pointer none, .string .empty]), 4, 40) := by kernel_rfl
theorem info_148 : (Try.prog.info? 148).map (fun i => (i.zero, i.size, i.bytes)) = some (some (.agg #[]), 0, 0) := by kernel_rfl
theorem info_149 : (Try.prog.info? 149).map (fun i => (i.zero, i.size, i.bytes)) = some (some (.agg #[]), 0, 0) := by kernel_rfl
theorem info_150 : (Try.prog.info? 150).map (fun i => (i.zero, i.size, i.bytes)) = some (some (.agg #[]), 0, 0) := by kernel_rfl
theorem info_152 : (Try.prog.info? 152).map (fun i => (i.zero, i.size, i.bytes)) = some (some (.int .u8 0), 1, 1) := by kernel_rfl
theorem info_153 : (Try.prog.info? 153).map (fun i => (i.zero, i.size, i.bytes)) = some (some (.int .u8 0), 1, 1) := by kernel_rfl
theorem info_155 : (Try.prog.info? 155).map (fun i => (i.zero, i.size, i.bytes)) = some (some (.pointer none), 1, 8) := by kernel_rfl
theorem info_156 : (Try.prog.info? 156).map (fun i => (i.zero, i.size, i.bytes)) = some (some (.int .i32 0), 1, 4) := by kernel_rfl
theorem info_157 : (Try.prog.info? 157).map (fun i => (i.zero, i.size, i.bytes)) = some (some (.int .i32 0), 1, 4) := by kernel_rfl
theorem info_158 : (Try.prog.info? 158).map (fun i => (i.zero, i.size, i.bytes)) = some (some (.agg #[.int .u64 0, .int .u64 0, .int .u32 0, .int .u8 0, .int .u8 0, .int .u8 0, .int .u8 0, .nilFunc, .pointer none, .int .i32 0, .int .i32 0]), 11, 48) := by kernel_rfl
theorem info_159 : (Try.prog.info? 159).map (fun i => (i.zero, i.size, i.bytes)) = some (some (.agg #[.int .u64 0, .int .u64 0, .int .u32 0, .int .u8 0, .int .u8 0, .int .u8 0, .int .u8 0, .nilFunc, .pointer none, .int .i32 0, .int .i32 0]), 11, 48) := by kernel_rfl
theorem info_160 : (Try.prog.info? 160).map (fun i => (i.zero, i.size, i.bytes)) = some (some (.pointer none), 1, 8) := by kernel_rfl
theorem tabOk : Go.Ab.TabOk Try.prog tab := by
 intro t i h
 unfold tab at h
 split at h
 ·cases h; exact Go.Ab.tabRow Try.underlying2 info_2
 ·cases h; exact Go.Ab.tabRow Try.underlying3 info_3
 ·cases h; exact Go.Ab.tabRow Try.underlying4 info_4
 ·cases h; exact Go.Ab.tabRow Try.underlying5 info_5
 ·cases h; exact Go.Ab.tabRow Try.underlying6 info_6
 ·cases h; exact Go.Ab.tabRow Try.underlying7 info_7
 ·cases h; exact Go.Ab.tabRow Try.underlying8 info_8
 ·cases h; exact Go.Ab.tabRow Try.underlying9 info_9
 ·cases h; exact Go.Ab.tabRow Try.underlying10 info_10
 ·cases h; exact Go.Ab.tabRow Try.underlying11 info_11
 ·cases h; exact Go.Ab.tabRow Try.underlying12 info_12
 ·cases h; exact Go.Ab.tabRow Try.underlying13 info_13
 ·cases h; exact Go.Ab.tabRow Try.underlying14 info_14
 ·cases h; exact Go.Ab.tabRow Try.underlying15 info_15
 ·cases h; exact Go.Ab.tabRow Try.underlying16 info_16
 ·cases h; exact Go.Ab.tabRow Try.underlying17 info_17
 ·cases h; exact Go.Ab.tabRow Try.underlying18 info_18
 ·cases h; exact Go.Ab.tabRow Try.underlying19 info_19
 ·cases h; exact Go.Ab.tabRow Try.underlying21 info_21
 ·cases h; exact Go.Ab.tabRow Try.underlying22 info_22
 ·cases h; exact Go.Ab.tabRow Try.underlying23 info_23
 ·cases h; exact Go.Ab.tabRowC Try.underlying27 info_27 ⟨by kernel_rfl, by kernel_rfl⟩
 ·cases h; exact Go.Ab.tabRowC Try.underlying28 info_28 ⟨by kernel_rfl, by kernel_rfl⟩
 ·cases h; exact Go.Ab.tabRow Try.underlying30 info_30
 ·cases h; exact Go.Ab.tabRow Try.underlying31 info_31
 ·cases h; exact Go.Ab.tabRowC Try.underlying34 info_34 ⟨by kernel_rfl, by kernel_rfl⟩
 ·cases h; exact Go.Ab.tabRowC Try.underlying35 info_35 ⟨by kernel_rfl, by kernel_rfl⟩
 ·cases h; exact Go.Ab.tabRowC Try.underlying38 info_38 ⟨by kernel_rfl, by kernel_rfl⟩
 ·cases h; exact Go.Ab.tabRowC Try.underlying39 info_39 ⟨by kernel_rfl, by kernel_rfl⟩
 ·cases h; exact Go.Ab.tabRow Try.underlying41 info_41
 ·cases h; exact Go.Ab.tabRow Try.underlying42 info_42
 ·cases h; exact Go.Ab.tabRow Try.underlying43 info_43
 ·cases h; exact Go.Ab.tabRow Try.underlying44 info_44
 ·cases h; exact Go.Ab.tabRow Try.underlying45 info_45
 ·cases h; exact Go.Ab.tabRow Try.underlying50 info_50
 ·cases h; exact Go.Ab.tabRow Try.underlying51 info_51
 ·cases h; exact Go.Ab.tabRow Try.underlying55 info_55
 ·cases h; exact Go.Ab.tabRow Try.underlying56 info_56
 ·cases h; exact Go.Ab.tabRow Try.underlying57 info_57
 ·cases h; exact Go.Ab.tabRow Try.underlying63 info_63
 ·cases h; exact Go.Ab.tabRowC Try.underlying64 info_64 ⟨by kernel_rfl, by kernel_rfl⟩
 ·cases h; exact Go.Ab.tabRowC Try.underlying65 info_65 ⟨by kernel_rfl, by kernel_rfl⟩
 ·cases h; exact Go.Ab.tabRow Try.underlying66 info_66
 ·cases h; exact Go.Ab.tabRowC Try.underlying70 info_70 ⟨by kernel_rfl, by kernel_rfl⟩
 ·cases h; exact Go.Ab.tabRowC Try.underlying71 info_71 ⟨by kernel_rfl, by kernel_rfl⟩
 ·cases h; exact Go.Ab.tabRow Try.underlying83 info_83
 ·cases h; exact Go.Ab.tabRow Try.underlying84 info_84
 ·cases h; exact Go.Ab.tabRow Try.underlying91 info_91
 ·cases h; exact Go.Ab.tabRow Try.underlying92 info_92
 ·cases h; exact Go.Ab.tabRow Try.underlying93 info_93
 ·cases h; exact Go.Ab.tabRow Try.underlying94 info_94
 ·cases h; exact Go.Ab.tabRow Try.underlying95 info_95
 ·cases h; exact Go.Ab.tabRow Try.underlying96 info_96
 ·cases h; exact Go.Ab.tabRow Try.underlying97 info_97
 ·cases h; exact Go.Ab.tabRow Try.underlying100 info_100
 ·cases h; exact Go.Ab.tabRow Try.underlying105 info_105
 ·cases h; exact Go.Ab.tabRowC Try.underlying109 info_109 ⟨by kernel_rfl, by kernel_rfl⟩
 ·cases h; exact Go.Ab.tabRowC Try.underlying110 info_110 ⟨by kernel_rfl, by kernel_rfl⟩
 ·cases h; exact Go.Ab.tabRow Try.underlying115 info_115
 ·cases h; exact Go.Ab.tabRow Try.underlying117 info_117
 ·cases h; exact Go.Ab.tabRow Try.underlying123 info_123
 ·cases h; exact Go.Ab.tabRow Try.underlying125 info_125
 ·cases h; exact Go.Ab.tabRow Try.underlying133 info_133
 ·cases h; exact Go.Ab.tabRow Try.underlying135 info_135
 ·cases h; exact Go.Ab.tabRow Try.underlying136 info_136
 ·cases h; exact Go.Ab.tabRow Try.underlying142 info_142
 ·cases h; exact Go.Ab.tabRow Try.underlying146 info_146
 ·cases h; exact Go.Ab.tabRow Try.underlying147 info_147
 ·cases h; exact Go.Ab.tabRow Try.underlying148 info_148
 ·cases h; exact Go.Ab.tabRow Try.underlying149 info_149
 ·cases h; exact Go.Ab.tabRow Try.underlying150 info_150
 ·cases h; exact Go.Ab.tabRow Try.underlying152 info_152
 ·cases h; exact Go.Ab.tabRow Try.underlying153 info_153
 ·cases h; exact Go.Ab.tabRow Try.underlying155 info_155
 ·cases h; exact Go.Ab.tabRow Try.underlying156 info_156
 ·cases h; exact Go.Ab.tabRow Try.underlying157 info_157
 ·cases h; exact Go.Ab.tabRow Try.underlying158 info_158
 ·cases h; exact Go.Ab.tabRow Try.underlying159 info_159
 ·cases h; exact Go.Ab.tabRow Try.underlying160 info_160
 ·cases h
end Go.Proofs.Ytfnmmlcmjmepjaa

