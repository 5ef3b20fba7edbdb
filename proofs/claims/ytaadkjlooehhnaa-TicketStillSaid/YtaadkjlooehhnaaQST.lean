/- The type table: printed by program. -/
import Derived.Test.YtaadkjlooehhnaaRows
import Derived.Test.YtaadkjlooehhnaaAbR
namespace Go.Proofs.Ytaadkjlooehhnaa
def tab : Go.Ab.Tab := fun t => match t with
  | 2 => some { under := .int .i64, size := 1, bytes := 8, zero := .int .i64 0 }
  | 3 => some { under := .int .i64, size := 1, bytes := 8, zero := .int .i64 0 }
  | 4 => some { under := .bool, size := 1, bytes := 1, zero := .bool false }
  | 5 => some { under := .int .u8, size := 1, bytes := 1, zero := .int .u8 0 }
  | 6 => some { under := .int .u8, size := 1, bytes := 1, zero := .int .u8 0 }
  | 7 => some { under := .struct #[{ name := "x", type := 2, offset := 0, embedded := false, tag := "", pkgPath := "runtime", byteOffset := 0 }, { name := "y", type := 3, offset := 1, embedded := false, tag := "", pkgPath := "runtime", byteOffset := 8 }, { name := "signed", type := 4, offset := 2, embedded := false, tag := "", pkgPath := "runtime", byteOffset := 16 }, { name := "code", type := 6, offset := 3, embedded := false, tag := "", pkgPath := "runtime", byteOffset := 17 }], size := 4, bytes := 24, zero := .agg #[.int .i64 0, .int .i64 0, .bool false, .int .u8 0] }
  | 8 => some { under := .struct #[{ name := "x", type := 2, offset := 0, embedded := false, tag := "", pkgPath := "runtime", byteOffset := 0 }, { name := "y", type := 3, offset := 1, embedded := false, tag := "", pkgPath := "runtime", byteOffset := 8 }, { name := "signed", type := 4, offset := 2, embedded := false, tag := "", pkgPath := "runtime", byteOffset := 16 }, { name := "code", type := 6, offset := 3, embedded := false, tag := "", pkgPath := "runtime", byteOffset := 17 }], size := 4, bytes := 24, zero := .agg #[.int .i64 0, .int .i64 0, .bool false, .int .u8 0] }
  | 9 => some { under := .string, size := 1, bytes := 16, zero := .string .empty }
  | 10 => some { under := .string, size := 1, bytes := 16, zero := .string .empty }
  | 11 => some { under := .string, size := 1, bytes := 16, zero := .string .empty }
  | 12 => some { under := .int .u64, size := 1, bytes := 8, zero := .int .u64 0 }
  | 13 => some { under := .struct #[{ name := "msg", type := 9, offset := 0, embedded := false, tag := "", pkgPath := "runtime", byteOffset := 0 }, { name := "addr", type := 12, offset := 1, embedded := false, tag := "", pkgPath := "runtime", byteOffset := 16 }], size := 2, bytes := 24, zero := .agg #[.string .empty, .int .u64 0] }
  | 14 => some { under := .struct #[{ name := "msg", type := 9, offset := 0, embedded := false, tag := "", pkgPath := "runtime", byteOffset := 0 }, { name := "addr", type := 12, offset := 1, embedded := false, tag := "", pkgPath := "runtime", byteOffset := 16 }], size := 2, bytes := 24, zero := .agg #[.string .empty, .int .u64 0] }
  | 15 => some { under := .pointer 108, size := 1, bytes := 8, zero := .pointer none }
  | 16 => some { under := .pointer 111, size := 1, bytes := 8, zero := .pointer none }
  | 17 => some { under := .pointer 121, size := 1, bytes := 8, zero := .pointer none }
  | 18 => some { under := .struct #[{ name := "typ", type := 17, offset := 0, embedded := false, tag := "", pkgPath := "internal/runtime/maps", byteOffset := 0 }], size := 1, bytes := 8, zero := .agg #[.pointer none] }
  | 19 => some { under := .struct #[{ name := "typ", type := 17, offset := 0, embedded := false, tag := "", pkgPath := "internal/runtime/maps", byteOffset := 0 }], size := 1, bytes := 8, zero := .agg #[.pointer none] }
  | 21 => some { under := .int .i32, size := 1, bytes := 4, zero := .int .i32 0 }
  | 22 => some { under := .slice 31, size := 1, bytes := 24, zero := .slice none 0 0 }
  | 23 => some { under := .struct #[{ name := "Kind", type := 3, offset := 0, embedded := false, tag := "", pkgPath := "", byteOffset := 0 }, { name := "Pin", type := 3, offset := 1, embedded := false, tag := "", pkgPath := "", byteOffset := 8 }], size := 2, bytes := 16, zero := .agg #[.int .i64 0, .int .i64 0], cmp := true }
  | 24 => some { under := .struct #[{ name := "Kind", type := 3, offset := 0, embedded := false, tag := "", pkgPath := "", byteOffset := 0 }, { name := "Pin", type := 3, offset := 1, embedded := false, tag := "", pkgPath := "", byteOffset := 8 }], size := 2, bytes := 16, zero := .agg #[.int .i64 0, .int .i64 0], cmp := true }
  | 26 => some { under := .slice 76, size := 1, bytes := 24, zero := .slice none 0 0 }
  | 27 => some { under := .int .i64, size := 1, bytes := 8, zero := .int .i64 0 }
  | 30 => some { under := .struct #[{ name := "Core", type := 3, offset := 0, embedded := false, tag := "", pkgPath := "", byteOffset := 0 }, { name := "Vec", type := 3, offset := 1, embedded := false, tag := "", pkgPath := "", byteOffset := 8 }, { name := "Level", type := 4, offset := 2, embedded := false, tag := "", pkgPath := "", byteOffset := 16 }, { name := "Masked", type := 4, offset := 3, embedded := false, tag := "", pkgPath := "", byteOffset := 17 }, { name := "Up", type := 4, offset := 4, embedded := false, tag := "", pkgPath := "", byteOffset := 18 }, { name := "Kept", type := 4, offset := 5, embedded := false, tag := "", pkgPath := "", byteOffset := 19 }, { name := "Sent", type := 4, offset := 6, embedded := false, tag := "", pkgPath := "", byteOffset := 20 }], size := 7, bytes := 24, zero := .agg #[.int .i64 0, .int .i64 0, .bool false, .bool false, .bool false, .bool false, .bool false], cmp := true }
  | 31 => some { under := .struct #[{ name := "Core", type := 3, offset := 0, embedded := false, tag := "", pkgPath := "", byteOffset := 0 }, { name := "Vec", type := 3, offset := 1, embedded := false, tag := "", pkgPath := "", byteOffset := 8 }, { name := "Level", type := 4, offset := 2, embedded := false, tag := "", pkgPath := "", byteOffset := 16 }, { name := "Masked", type := 4, offset := 3, embedded := false, tag := "", pkgPath := "", byteOffset := 17 }, { name := "Up", type := 4, offset := 4, embedded := false, tag := "", pkgPath := "", byteOffset := 18 }, { name := "Kept", type := 4, offset := 5, embedded := false, tag := "", pkgPath := "", byteOffset := 19 }, { name := "Sent", type := 4, offset := 6, embedded := false, tag := "", pkgPath := "", byteOffset := 20 }], size := 7, bytes := 24, zero := .agg #[.int .i64 0, .int .i64 0, .bool false, .bool false, .bool false, .bool false, .bool false], cmp := true }
  | 34 => some { under := .slice 24, size := 1, bytes := 24, zero := .slice none 0 0 }
  | 37 => some { under := .slice 64, size := 1, bytes := 24, zero := .slice none 0 0 }
  | 38 => some { under := .slice 3, size := 1, bytes := 24, zero := .slice none 0 0 }
  | 39 => some { under := .struct #[{ name := "Came", type := 3, offset := 0, embedded := false, tag := "", pkgPath := "", byteOffset := 0 }, { name := "Nobody", type := 3, offset := 1, embedded := false, tag := "", pkgPath := "", byteOffset := 8 }, { name := "Off", type := 4, offset := 2, embedded := false, tag := "", pkgPath := "", byteOffset := 16 }], size := 3, bytes := 24, zero := .agg #[.int .i64 0, .int .i64 0, .bool false], cmp := true }
  | 40 => some { under := .struct #[{ name := "Came", type := 3, offset := 0, embedded := false, tag := "", pkgPath := "", byteOffset := 0 }, { name := "Nobody", type := 3, offset := 1, embedded := false, tag := "", pkgPath := "", byteOffset := 8 }, { name := "Off", type := 4, offset := 2, embedded := false, tag := "", pkgPath := "", byteOffset := 16 }], size := 3, bytes := 24, zero := .agg #[.int .i64 0, .int .i64 0, .bool false], cmp := true }
  | 45 => some { under := .array 8 3, size := 8, bytes := 64, zero := .agg #[.int .i64 0, .int .i64 0, .int .i64 0, .int .i64 0, .int .i64 0, .int .i64 0, .int .i64 0, .int .i64 0], cmp := true }
  | 46 => some { under := .array 8 4, size := 8, bytes := 8, zero := .agg #[.bool false, .bool false, .bool false, .bool false, .bool false, .bool false, .bool false, .bool false], cmp := true }
  | 47 => some { under := .struct #[{ name := "Next", type := 3, offset := 0, embedded := false, tag := "", pkgPath := "", byteOffset := 0 }, { name := "Now", type := 3, offset := 1, embedded := false, tag := "", pkgPath := "", byteOffset := 8 }, { name := "Mine", type := 45, offset := 2, embedded := false, tag := "", pkgPath := "", byteOffset := 16 }, { name := "In", type := 46, offset := 10, embedded := false, tag := "", pkgPath := "", byteOffset := 80 }], size := 18, bytes := 88, zero := .agg #[.int .i64 0, .int .i64 0, .int .i64 0, .int .i64 0, .int .i64 0, .int .i64 0, .int .i64 0, .int .i64 0, .int .i64 0, .int .i64 0, .bool false, .bool false, .bool false, .bool false, .bool false, .bool false, .bool false, .bool false], cmp := true }
  | 48 => some { under := .struct #[{ name := "Next", type := 3, offset := 0, embedded := false, tag := "", pkgPath := "", byteOffset := 0 }, { name := "Now", type := 3, offset := 1, embedded := false, tag := "", pkgPath := "", byteOffset := 8 }, { name := "Mine", type := 45, offset := 2, embedded := false, tag := "", pkgPath := "", byteOffset := 16 }, { name := "In", type := 46, offset := 10, embedded := false, tag := "", pkgPath := "", byteOffset := 80 }], size := 18, bytes := 88, zero := .agg #[.int .i64 0, .int .i64 0, .int .i64 0, .int .i64 0, .int .i64 0, .int .i64 0, .int .i64 0, .int .i64 0, .int .i64 0, .int .i64 0, .bool false, .bool false, .bool false, .bool false, .bool false, .bool false, .bool false, .bool false], cmp := true }
  | 49 => some { under := .struct #[{ name := "Kind", type := 3, offset := 0, embedded := false, tag := "", pkgPath := "", byteOffset := 0 }, { name := "Core", type := 3, offset := 1, embedded := false, tag := "", pkgPath := "", byteOffset := 8 }], size := 2, bytes := 16, zero := .agg #[.int .i64 0, .int .i64 0], cmp := true }
  | 50 => some { under := .struct #[{ name := "Kind", type := 3, offset := 0, embedded := false, tag := "", pkgPath := "", byteOffset := 0 }, { name := "Core", type := 3, offset := 1, embedded := false, tag := "", pkgPath := "", byteOffset := 8 }], size := 2, bytes := 16, zero := .agg #[.int .i64 0, .int .i64 0], cmp := true }
  | 55 => some { under := .slice 50, size := 1, bytes := 24, zero := .slice none 0 0 }
  | 63 => some { under := .struct #[{ name := "Says", type := 3, offset := 0, embedded := false, tag := "", pkgPath := "", byteOffset := 0 }, { name := "Left", type := 3, offset := 1, embedded := false, tag := "", pkgPath := "", byteOffset := 8 }], size := 2, bytes := 16, zero := .agg #[.int .i64 0, .int .i64 0], cmp := true }
  | 64 => some { under := .struct #[{ name := "Says", type := 3, offset := 0, embedded := false, tag := "", pkgPath := "", byteOffset := 0 }, { name := "Left", type := 3, offset := 1, embedded := false, tag := "", pkgPath := "", byteOffset := 8 }], size := 2, bytes := 16, zero := .agg #[.int .i64 0, .int .i64 0], cmp := true }
  | 75 => some { under := .struct #[{ name := "Pin", type := 3, offset := 0, embedded := false, tag := "", pkgPath := "", byteOffset := 0 }, { name := "Core", type := 3, offset := 1, embedded := false, tag := "", pkgPath := "", byteOffset := 8 }, { name := "Vec", type := 3, offset := 2, embedded := false, tag := "", pkgPath := "", byteOffset := 16 }], size := 3, bytes := 24, zero := .agg #[.int .i64 0, .int .i64 0, .int .i64 0], cmp := true }
  | 76 => some { under := .struct #[{ name := "Pin", type := 3, offset := 0, embedded := false, tag := "", pkgPath := "", byteOffset := 0 }, { name := "Core", type := 3, offset := 1, embedded := false, tag := "", pkgPath := "", byteOffset := 8 }, { name := "Vec", type := 3, offset := 2, embedded := false, tag := "", pkgPath := "", byteOffset := 16 }], size := 3, bytes := 24, zero := .agg #[.int .i64 0, .int .i64 0, .int .i64 0], cmp := true }
  | 83 => some { under := .pointer 31, size := 1, bytes := 8, zero := .pointer none }
  | 88 => some { under := .pointer 3, size := 1, bytes := 8, zero := .pointer none }
  | 89 => some { under := .pointer 4, size := 1, bytes := 8, zero := .pointer none }
  | 90 => some { under := .slice 4, size := 1, bytes := 24, zero := .slice none 0 0 }
  | 93 => some { under := .pointer 64, size := 1, bytes := 8, zero := .pointer none }
  | 97 => some { under := .slice 34, size := 1, bytes := 24, zero := .slice none 0 0 }
  | 99 => some { under := .slice 26, size := 1, bytes := 24, zero := .slice none 0 0 }
  | 107 => some { under := .struct #[{ name := "_interface", type := 17, offset := 0, embedded := false, tag := "", pkgPath := "runtime", byteOffset := 0 }, { name := "concrete", type := 17, offset := 1, embedded := false, tag := "", pkgPath := "runtime", byteOffset := 8 }, { name := "asserted", type := 17, offset := 2, embedded := false, tag := "", pkgPath := "runtime", byteOffset := 16 }, { name := "missingMethod", type := 9, offset := 3, embedded := false, tag := "", pkgPath := "runtime", byteOffset := 24 }], size := 4, bytes := 40, zero := .agg #[.pointer none, .pointer none, .pointer none, .string .empty] }
  | 108 => some { under := .struct #[{ name := "_interface", type := 17, offset := 0, embedded := false, tag := "", pkgPath := "runtime", byteOffset := 0 }, { name := "concrete", type := 17, offset := 1, embedded := false, tag := "", pkgPath := "runtime", byteOffset := 8 }, { name := "asserted", type := 17, offset := 2, embedded := false, tag := "", pkgPath := "runtime", byteOffset := 16 }, { name := "missingMethod", type := 9, offset := 3, embedded := false, tag := "", pkgPath := "runtime", byteOffset := 24 }], size := 4, bytes := 40, zero := .agg #[.pointer none, .pointer none, .pointer none, .string .empty] }
  | 109 => some { under := .array 0 16, size := 0, bytes := 0, zero := .agg #[] }
  | 110 => some { under := .struct #[{ name := "_", type := 109, offset := 0, embedded := false, tag := "", pkgPath := "runtime", byteOffset := 0 }], size := 0, bytes := 0, zero := .agg #[] }
  | 111 => some { under := .struct #[{ name := "_", type := 109, offset := 0, embedded := false, tag := "", pkgPath := "runtime", byteOffset := 0 }], size := 0, bytes := 0, zero := .agg #[] }
  | 113 => some { under := .int .u32, size := 1, bytes := 4, zero := .int .u32 0 }
  | 114 => some { under := .int .u8, size := 1, bytes := 1, zero := .int .u8 0 }
  | 115 => some { under := .int .u8, size := 1, bytes := 1, zero := .int .u8 0 }
  | 117 => some { under := .pointer 5, size := 1, bytes := 8, zero := .pointer none }
  | 118 => some { under := .int .i32, size := 1, bytes := 4, zero := .int .i32 0 }
  | 119 => some { under := .int .i32, size := 1, bytes := 4, zero := .int .i32 0 }
  | 120 => some { under := .struct #[{ name := "Size_", type := 12, offset := 0, embedded := false, tag := "", pkgPath := "", byteOffset := 0 }, { name := "PtrBytes", type := 12, offset := 1, embedded := false, tag := "", pkgPath := "", byteOffset := 8 }, { name := "Hash", type := 113, offset := 2, embedded := false, tag := "", pkgPath := "", byteOffset := 16 }, { name := "TFlag", type := 114, offset := 3, embedded := false, tag := "", pkgPath := "", byteOffset := 20 }, { name := "Align_", type := 5, offset := 4, embedded := false, tag := "", pkgPath := "", byteOffset := 21 }, { name := "FieldAlign_", type := 5, offset := 5, embedded := false, tag := "", pkgPath := "", byteOffset := 22 }, { name := "Kind_", type := 115, offset := 6, embedded := false, tag := "", pkgPath := "", byteOffset := 23 }, { name := "Equal", type := 116, offset := 7, embedded := false, tag := "", pkgPath := "", byteOffset := 24 }, { name := "GCData", type := 117, offset := 8, embedded := false, tag := "", pkgPath := "", byteOffset := 32 }, { name := "Str", type := 118, offset := 9, embedded := false, tag := "", pkgPath := "", byteOffset := 40 }, { name := "PtrToThis", type := 119, offset := 10, embedded := false, tag := "", pkgPath := "", byteOffset := 44 }], size := 11, bytes := 48, zero := .agg #[.int .u64 0, .int .u64 0, .int .u32 0, .int .u8 0, .int .u8 0, .int .u8 0, .int .u8 0, .nilFunc, .pointer none, .int .i32 0, .int .i32 0] }
  | 121 => some { under := .struct #[{ name := "Size_", type := 12, offset := 0, embedded := false, tag := "", pkgPath := "", byteOffset := 0 }, { name := "PtrBytes", type := 12, offset := 1, embedded := false, tag := "", pkgPath := "", byteOffset := 8 }, { name := "Hash", type := 113, offset := 2, embedded := false, tag := "", pkgPath := "", byteOffset := 16 }, { name := "TFlag", type := 114, offset := 3, embedded := false, tag := "", pkgPath := "", byteOffset := 20 }, { name := "Align_", type := 5, offset := 4, embedded := false, tag := "", pkgPath := "", byteOffset := 21 }, { name := "FieldAlign_", type := 5, offset := 5, embedded := false, tag := "", pkgPath := "", byteOffset := 22 }, { name := "Kind_", type := 115, offset := 6, embedded := false, tag := "", pkgPath := "", byteOffset := 23 }, { name := "Equal", type := 116, offset := 7, embedded := false, tag := "", pkgPath := "", byteOffset := 24 }, { name := "GCData", type := 117, offset := 8, embedded := false, tag := "", pkgPath := "", byteOffset := 32 }, { name := "Str", type := 118, offset := 9, embedded := false, tag := "", pkgPath := "", byteOffset := 40 }, { name := "PtrToThis", type := 119, offset := 10, embedded := false, tag := "", pkgPath := "", byteOffset := 44 }], size := 11, bytes := 48, zero := .agg #[.int .u64 0, .int .u64 0, .int .u32 0, .int .u8 0, .int .u8 0, .int .u8 0, .int .u8 0, .nilFunc, .pointer none, .int .i32 0, .int .i32 0] }
  | 122 => some { under := .unsafePointer, size := 1, bytes := 8, zero := .pointer none }
  | _ => none

theorem tab_2 : tab 2 = some { under := .int .i64, size := 1, bytes := 8, zero := .int .i64 0 } := rfl
theorem tab_3 : tab 3 = some { under := .int .i64, size := 1, bytes := 8, zero := .int .i64 0 } := rfl
theorem tab_4 : tab 4 = some { under := .bool, size := 1, bytes := 1, zero := .bool false } := rfl
theorem tab_5 : tab 5 = some { under := .int .u8, size := 1, bytes := 1, zero := .int .u8 0 } := rfl
theorem tab_6 : tab 6 = some { under := .int .u8, size := 1, bytes := 1, zero := .int .u8 0 } := rfl
theorem tab_7 : tab 7 = some { under := .struct #[{ name := "x", type := 2, offset := 0, embedded := false, tag := "", pkgPath := "runtime", byteOffset := 0 }, { name := "y", type := 3, offset := 1, embedded := false, tag := "", pkgPath := "runtime", byteOffset := 8 }, { name := "signed", type := 4, offset := 2, embedded := false, tag := "", pkgPath := "runtime", byteOffset := 16 }, { name := "code", type := 6, offset := 3, embedded := false, tag := "", pkgPath := "runtime", byteOffset := 17 }], size := 4, bytes := 24, zero := .agg #[.int .i64 0, .int .i64 0, .bool false, .int .u8 0] } := rfl
theorem tab_8 : tab 8 = some { under := .struct #[{ name := "x", type := 2, offset := 0, embedded := false, tag := "", pkgPath := "runtime", byteOffset := 0 }, { name := "y", type := 3, offset := 1, embedded := false, tag := "", pkgPath := "runtime", byteOffset := 8 }, { name := "signed", type := 4, offset := 2, embedded := false, tag := "", pkgPath := "runtime", byteOffset := 16 }, { name := "code", type := 6, offset := 3, embedded := false, tag := "", pkgPath := "runtime", byteOffset := 17 }], size := 4, bytes := 24, zero := .agg #[.int .i64 0, .int .i64 0, .bool false, .int .u8 0] } := rfl
theorem tab_9 : tab 9 = some { under := .string, size := 1, bytes := 16, zero := .string .empty } := rfl
theorem tab_10 : tab 10 = some { under := .string, size := 1, bytes := 16, zero := .string .empty } := rfl
theorem tab_11 : tab 11 = some { under := .string, size := 1, bytes := 16, zero := .string .empty } := rfl
theorem tab_12 : tab 12 = some { under := .int .u64, size := 1, bytes := 8, zero := .int .u64 0 } := rfl
theorem tab_13 : tab 13 = some { under := .struct #[{ name := "msg", type := 9, offset := 0, embedded := false, tag := "", pkgPath := "runtime", byteOffset := 0 }, { name := "addr", type := 12, offset := 1, embedded := false, tag := "", pkgPath := "runtime", byteOffset := 16 }], size := 2, bytes := 24, zero := .agg #[.string .empty, .int .u64 0] } := rfl
theorem tab_14 : tab 14 = some { under := .struct #[{ name := "msg", type := 9, offset := 0, embedded := false, tag := "", pkgPath := "runtime", byteOffset := 0 }, { name := "addr", type := 12, offset := 1, embedded := false, tag := "", pkgPath := "runtime", byteOffset := 16 }], size := 2, bytes := 24, zero := .agg #[.string .empty, .int .u64 0] } := rfl
theorem tab_15 : tab 15 = some { under := .pointer 108, size := 1, bytes := 8, zero := .pointer none } := rfl
theorem tab_16 : tab 16 = some { under := .pointer 111, size := 1, bytes := 8, zero := .pointer none } := rfl
theorem tab_17 : tab 17 = some { under := .pointer 121, size := 1, bytes := 8, zero := .pointer none } := rfl
theorem tab_18 : tab 18 = some { under := .struct #[{ name := "typ", type := 17, offset := 0, embedded := false, tag := "", pkgPath := "internal/runtime/maps", byteOffset := 0 }], size := 1, bytes := 8, zero := .agg #[.pointer none] } := rfl
theorem tab_19 : tab 19 = some { under := .struct #[{ name := "typ", type := 17, offset := 0, embedded := false, tag := "", pkgPath := "internal/runtime/maps", byteOffset := 0 }], size := 1, bytes := 8, zero := .agg #[.pointer none] } := rfl
theorem tab_21 : tab 21 = some { under := .int .i32, size := 1, bytes := 4, zero := .int .i32 0 } := rfl
theorem tab_22 : tab 22 = some { under := .slice 31, size := 1, bytes := 24, zero := .slice none 0 0 } := rfl
theorem tab_23 : tab 23 = some { under := .struct #[{ name := "Kind", type := 3, offset := 0, embedded := false, tag := "", pkgPath := "", byteOffset := 0 }, { name := "Pin", type := 3, offset := 1, embedded := false, tag := "", pkgPath := "", byteOffset := 8 }], size := 2, bytes := 16, zero := .agg #[.int .i64 0, .int .i64 0], cmp := true } := rfl
theorem tab_24 : tab 24 = some { under := .struct #[{ name := "Kind", type := 3, offset := 0, embedded := false, tag := "", pkgPath := "", byteOffset := 0 }, { name := "Pin", type := 3, offset := 1, embedded := false, tag := "", pkgPath := "", byteOffset := 8 }], size := 2, bytes := 16, zero := .agg #[.int .i64 0, .int .i64 0], cmp := true } := rfl
theorem tab_26 : tab 26 = some { under := .slice 76, size := 1, bytes := 24, zero := .slice none 0 0 } := rfl
theorem tab_27 : tab 27 = some { under := .int .i64, size := 1, bytes := 8, zero := .int .i64 0 } := rfl
theorem tab_30 : tab 30 = some { under := .struct #[{ name := "Core", type := 3, offset := 0, embedded := false, tag := "", pkgPath := "", byteOffset := 0 }, { name := "Vec", type := 3, offset := 1, embedded := false, tag := "", pkgPath := "", byteOffset := 8 }, { name := "Level", type := 4, offset := 2, embedded := false, tag := "", pkgPath := "", byteOffset := 16 }, { name := "Masked", type := 4, offset := 3, embedded := false, tag := "", pkgPath := "", byteOffset := 17 }, { name := "Up", type := 4, offset := 4, embedded := false, tag := "", pkgPath := "", byteOffset := 18 }, { name := "Kept", type := 4, offset := 5, embedded := false, tag := "", pkgPath := "", byteOffset := 19 }, { name := "Sent", type := 4, offset := 6, embedded := false, tag := "", pkgPath := "", byteOffset := 20 }], size := 7, bytes := 24, zero := .agg #[.int .i64 0, .int .i64 0, .bool false, .bool false, .bool false, .bool false, .bool false], cmp := true } := rfl
theorem tab_31 : tab 31 = some { under := .struct #[{ name := "Core", type := 3, offset := 0, embedded := false, tag := "", pkgPath := "", byteOffset := 0 }, { name := "Vec", type := 3, offset := 1, embedded := false, tag := "", pkgPath := "", byteOffset := 8 }, { name := "Level", type := 4, offset := 2, embedded := false, tag := "", pkgPath := "", byteOffset := 16 }, { name := "Masked", type := 4, offset := 3, embedded := false, tag := "", pkgPath := "", byteOffset := 17 }, { name := "Up", type := 4, offset := 4, embedded := false, tag := "", pkgPath := "", byteOffset := 18 }, { name := "Kept", type := 4, offset := 5, embedded := false, tag := "", pkgPath := "", byteOffset := 19 }, { name := "Sent", type := 4, offset := 6, embedded := false, tag := "", pkgPath := "", byteOffset := 20 }], size := 7, bytes := 24, zero := .agg #[.int .i64 0, .int .i64 0, .bool false, .bool false, .bool false, .bool false, .bool false], cmp := true } := rfl
theorem tab_34 : tab 34 = some { under := .slice 24, size := 1, bytes := 24, zero := .slice none 0 0 } := rfl
theorem tab_37 : tab 37 = some { under := .slice 64, size := 1, bytes := 24, zero := .slice none 0 0 } := rfl
theorem tab_38 : tab 38 = some { under := .slice 3, size := 1, bytes := 24, zero := .slice none 0 0 } := rfl
theorem tab_39 : tab 39 = some { under := .struct #[{ name := "Came", type := 3, offset := 0, embedded := false, tag := "", pkgPath := "", byteOffset := 0 }, { name := "Nobody", type := 3, offset := 1, embedded := false, tag := "", pkgPath := "", byteOffset := 8 }, { name := "Off", type := 4, offset := 2, embedded := false, tag := "", pkgPath := "", byteOffset := 16 }], size := 3, bytes := 24, zero := .agg #[.int .i64 0, .int .i64 0, .bool false], cmp := true } := rfl
theorem tab_40 : tab 40 = some { under := .struct #[{ name := "Came", type := 3, offset := 0, embedded := false, tag := "", pkgPath := "", byteOffset := 0 }, { name := "Nobody", type := 3, offset := 1, embedded := false, tag := "", pkgPath := "", byteOffset := 8 }, { name := "Off", type := 4, offset := 2, embedded := false, tag := "", pkgPath := "", byteOffset := 16 }], size := 3, bytes := 24, zero := .agg #[.int .i64 0, .int .i64 0, .bool false], cmp := true } := rfl
theorem tab_45 : tab 45 = some { under := .array 8 3, size := 8, bytes := 64, zero := .agg #[.int .i64 0, .int .i64 0, .int .i64 0, .int .i64 0, .int .i64 0, .int .i64 0, .int .i64 0, .int .i64 0], cmp := true } := rfl
theorem tab_46 : tab 46 = some { under := .array 8 4, size := 8, bytes := 8, zero := .agg #[.bool false, .bool false, .bool false, .bool false, .bool false, .bool false, .bool false, .bool false], cmp := true } := rfl
theorem tab_47 : tab 47 = some { under := .struct #[{ name := "Next", type := 3, offset := 0, embedded := false, tag := "", pkgPath := "", byteOffset := 0 }, { name := "Now", type := 3, offset := 1, embedded := false, tag := "", pkgPath := "", byteOffset := 8 }, { name := "Mine", type := 45, offset := 2, embedded := false, tag := "", pkgPath := "", byteOffset := 16 }, { name := "In", type := 46, offset := 10, embedded := false, tag := "", pkgPath := "", byteOffset := 80 }], size := 18, bytes := 88, zero := .agg #[.int .i64 0, .int .i64 0, .int .i64 0, .int .i64 0, .int .i64 0, .int .i64 0, .int .i64 0, .int .i64 0, .int .i64 0, .int .i64 0, .bool false, .bool false, .bool false, .bool false, .bool false, .bool false, .bool false, .bool false], cmp := true } := rfl
theorem tab_48 : tab 48 = some { under := .struct #[{ name := "Next", type := 3, offset := 0, embedded := false, tag := "", pkgPath := "", byteOffset := 0 }, { name := "Now", type := 3, offset := 1, embedded := false, tag := "", pkgPath := "", byteOffset := 8 }, { name := "Mine", type := 45, offset := 2, embedded := false, tag := "", pkgPath := "", byteOffset := 16 }, { name := "In", type := 46, offset := 10, embedded := false, tag := "", pkgPath := "", byteOffset := 80 }], size := 18, bytes := 88, zero := .agg #[.int .i64 0, .int .i64 0, .int .i64 0, .int .i64 0, .int .i64 0, .int .i64 0, .int .i64 0, .int .i64 0, .int .i64 0, .int .i64 0, .bool false, .bool false, .bool false, .bool false, .bool false, .bool false, .bool false, .bool false], cmp := true } := rfl
theorem tab_49 : tab 49 = some { under := .struct #[{ name := "Kind", type := 3, offset := 0, embedded := false, tag := "", pkgPath := "", byteOffset := 0 }, { name := "Core", type := 3, offset := 1, embedded := false, tag := "", pkgPath := "", byteOffset := 8 }], size := 2, bytes := 16, zero := .agg #[.int .i64 0, .int .i64 0], cmp := true } := rfl
theorem tab_50 : tab 50 = some { under := .struct #[{ name := "Kind", type := 3, offset := 0, embedded := false, tag := "", pkgPath := "", byteOffset := 0 }, { name := "Core", type := 3, offset := 1, embedded := false, tag := "", pkgPath := "", byteOffset := 8 }], size := 2, bytes := 16, zero := .agg #[.int .i64 0, .int .i64 0], cmp := true } := rfl
theorem tab_55 : tab 55 = some { under := .slice 50, size := 1, bytes := 24, zero := .slice none 0 0 } := rfl
theorem tab_63 : tab 63 = some { under := .struct #[{ name := "Says", type := 3, offset := 0, embedded := false, tag := "", pkgPath := "", byteOffset := 0 }, { name := "Left", type := 3, offset := 1, embedded := false, tag := "", pkgPath := "", byteOffset := 8 }], size := 2, bytes := 16, zero := .agg #[.int .i64 0, .int .i64 0], cmp := true } := rfl
theorem tab_64 : tab 64 = some { under := .struct #[{ name := "Says", type := 3, offset := 0, embedded := false, tag := "", pkgPath := "", byteOffset := 0 }, { name := "Left", type := 3, offset := 1, embedded := false, tag := "", pkgPath := "", byteOffset := 8 }], size := 2, bytes := 16, zero := .agg #[.int .i64 0, .int .i64 0], cmp := true } := rfl
theorem tab_75 : tab 75 = some { under := .struct #[{ name := "Pin", type := 3, offset := 0, embedded := false, tag := "", pkgPath := "", byteOffset := 0 }, { name := "Core", type := 3, offset := 1, embedded := false, tag := "", pkgPath := "", byteOffset := 8 }, { name := "Vec", type := 3, offset := 2, embedded := false, tag := "", pkgPath := "", byteOffset := 16 }], size := 3, bytes := 24, zero := .agg #[.int .i64 0, .int .i64 0, .int .i64 0], cmp := true } := rfl
theorem tab_76 : tab 76 = some { under := .struct #[{ name := "Pin", type := 3, offset := 0, embedded := false, tag := "", pkgPath := "", byteOffset := 0 }, { name := "Core", type := 3, offset := 1, embedded := false, tag := "", pkgPath := "", byteOffset := 8 }, { name := "Vec", type := 3, offset := 2, embedded := false, tag := "", pkgPath := "", byteOffset := 16 }], size := 3, bytes := 24, zero := .agg #[.int .i64 0, .int .i64 0, .int .i64 0], cmp := true } := rfl
theorem tab_83 : tab 83 = some { under := .pointer 31, size := 1, bytes := 8, zero := .pointer none } := rfl
theorem tab_88 : tab 88 = some { under := .pointer 3, size := 1, bytes := 8, zero := .pointer none } := rfl
theorem tab_89 : tab 89 = some { under := .pointer 4, size := 1, bytes := 8, zero := .pointer none } := rfl
theorem tab_90 : tab 90 = some { under := .slice 4, size := 1, bytes := 24, zero := .slice none 0 0 } := rfl
theorem tab_93 : tab 93 = some { under := .pointer 64, size := 1, bytes := 8, zero := .pointer none } := rfl
theorem tab_97 : tab 97 = some { under := .slice 34, size := 1, bytes := 24, zero := .slice none 0 0 } := rfl
theorem tab_99 : tab 99 = some { under := .slice 26, size := 1, bytes := 24, zero := .slice none 0 0 } := rfl
theorem tab_107 : tab 107 = some { under := .struct #[{ name := "_interface", type := 17, offset := 0, embedded := false, tag := "", pkgPath := "runtime", byteOffset := 0 }, { name := "concrete", type := 17, offset := 1, embedded := false, tag := "", pkgPath := "runtime", byteOffset := 8 }, { name := "asserted", type := 17, offset := 2, embedded := false, tag := "", pkgPath := "runtime", byteOffset := 16 }, { name := "missingMethod", type := 9, offset := 3, embedded := false, tag := "", pkgPath := "runtime", byteOffset := 24 }], size := 4, bytes := 40, zero := .agg #[.pointer none, .pointer none, .pointer none, .string .empty] } := rfl
theorem tab_108 : tab 108 = some { under := .struct #[{ name := "_interface", type := 17, offset := 0, embedded := false, tag := "", pkgPath := "runtime", byteOffset := 0 }, { name := "concrete", type := 17, offset := 1, embedded := false, tag := "", pkgPath := "runtime", byteOffset := 8 }, { name := "asserted", type := 17, offset := 2, embedded := false, tag := "", pkgPath := "runtime", byteOffset := 16 }, { name := "missingMethod", type := 9, offset := 3, embedded := false, tag := "", pkgPath := "runtime", byteOffset := 24 }], size := 4, bytes := 40, zero := .agg #[.pointer none, .pointer none, .pointer none, .string .empty] } := rfl
theorem tab_109 : tab 109 = some { under := .array 0 16, size := 0, bytes := 0, zero := .agg #[] } := rfl
theorem tab_110 : tab 110 = some { under := .struct #[{ name := "_", type := 109, offset := 0, embedded := false, tag := "", pkgPath := "runtime", byteOffset := 0 }], size := 0, bytes := 0, zero := .agg #[] } := rfl
theorem tab_111 : tab 111 = some { under := .struct #[{ name := "_", type := 109, offset := 0, embedded := false, tag := "", pkgPath := "runtime", byteOffset := 0 }], size := 0, bytes := 0, zero := .agg #[] } := rfl
theorem tab_113 : tab 113 = some { under := .int .u32, size := 1, bytes := 4, zero := .int .u32 0 } := rfl
theorem tab_114 : tab 114 = some { under := .int .u8, size := 1, bytes := 1, zero := .int .u8 0 } := rfl
theorem tab_115 : tab 115 = some { under := .int .u8, size := 1, bytes := 1, zero := .int .u8 0 } := rfl
theorem tab_117 : tab 117 = some { under := .pointer 5, size := 1, bytes := 8, zero := .pointer none } := rfl
theorem tab_118 : tab 118 = some { under := .int .i32, size := 1, bytes := 4, zero := .int .i32 0 } := rfl
theorem tab_119 : tab 119 = some { under := .int .i32, size := 1, bytes := 4, zero := .int .i32 0 } := rfl
theorem tab_120 : tab 120 = some { under := .struct #[{ name := "Size_", type := 12, offset := 0, embedded := false, tag := "", pkgPath := "", byteOffset := 0 }, { name := "PtrBytes", type := 12, offset := 1, embedded := false, tag := "", pkgPath := "", byteOffset := 8 }, { name := "Hash", type := 113, offset := 2, embedded := false, tag := "", pkgPath := "", byteOffset := 16 }, { name := "TFlag", type := 114, offset := 3, embedded := false, tag := "", pkgPath := "", byteOffset := 20 }, { name := "Align_", type := 5, offset := 4, embedded := false, tag := "", pkgPath := "", byteOffset := 21 }, { name := "FieldAlign_", type := 5, offset := 5, embedded := false, tag := "", pkgPath := "", byteOffset := 22 }, { name := "Kind_", type := 115, offset := 6, embedded := false, tag := "", pkgPath := "", byteOffset := 23 }, { name := "Equal", type := 116, offset := 7, embedded := false, tag := "", pkgPath := "", byteOffset := 24 }, { name := "GCData", type := 117, offset := 8, embedded := false, tag := "", pkgPath := "", byteOffset := 32 }, { name := "Str", type := 118, offset := 9, embedded := false, tag := "", pkgPath := "", byteOffset := 40 }, { name := "PtrToThis", type := 119, offset := 10, embedded := false, tag := "", pkgPath := "", byteOffset := 44 }], size := 11, bytes := 48, zero := .agg #[.int .u64 0, .int .u64 0, .int .u32 0, .int .u8 0, .int .u8 0, .int .u8 0, .int .u8 0, .nilFunc, .pointer none, .int .i32 0, .int .i32 0] } := rfl
theorem tab_121 : tab 121 = some { under := .struct #[{ name := "Size_", type := 12, offset := 0, embedded := false, tag := "", pkgPath := "", byteOffset := 0 }, { name := "PtrBytes", type := 12, offset := 1, embedded := false, tag := "", pkgPath := "", byteOffset := 8 }, { name := "Hash", type := 113, offset := 2, embedded := false, tag := "", pkgPath := "", byteOffset := 16 }, { name := "TFlag", type := 114, offset := 3, embedded := false, tag := "", pkgPath := "", byteOffset := 20 }, { name := "Align_", type := 5, offset := 4, embedded := false, tag := "", pkgPath := "", byteOffset := 21 }, { name := "FieldAlign_", type := 5, offset := 5, embedded := false, tag := "", pkgPath := "", byteOffset := 22 }, { name := "Kind_", type := 115, offset := 6, embedded := false, tag := "", pkgPath := "", byteOffset := 23 }, { name := "Equal", type := 116, offset := 7, embedded := false, tag := "", pkgPath := "", byteOffset := 24 }, { name := "GCData", type := 117, offset := 8, embedded := false, tag := "", pkgPath := "", byteOffset := 32 }, { name := "Str", type := 118, offset := 9, embedded := false, tag := "", pkgPath := "", byteOffset := 40 }, { name := "PtrToThis", type := 119, offset := 10, embedded := false, tag := "", pkgPath := "", byteOffset := 44 }], size := 11, bytes := 48, zero := .agg #[.int .u64 0, .int .u64 0, .int .u32 0, .int .u8 0, .int .u8 0, .int .u8 0, .int .u8 0, .nilFunc, .pointer none, .int .i32 0, .int .i32 0] } := rfl
theorem tab_122 : tab 122 = some { under := .unsafePointer, size := 1, bytes := 8, zero := .pointer none } := rfl

theorem info_2 : (Try.prog.info? 2).map (fun i => (i.zero, i.size, i.bytes)) = some (some (.int .i64 0), 1, 8) := by kernel_rfl
theorem info_3 : (Try.prog.info? 3).map (fun i => (i.zero, i.size, i.bytes)) = some (some (.int .i64 0), 1, 8) := by kernel_rfl
theorem info_4 : (Try.prog.info? 4).map (fun i => (i.zero, i.size, i.bytes)) = some (some (.bool false), 1, 1) := by kernel_rfl
theorem info_5 : (Try.prog.info? 5).map (fun i => (i.zero, i.size, i.bytes)) = some (some (.int .u8 0), 1, 1) := by kernel_rfl
theorem info_6 : (Try.prog.info? 6).map (fun i => (i.zero, i.size, i.bytes)) = some (some (.int .u8 0), 1, 1) := by kernel_rfl
theorem info_7 : (Try.prog.info? 7).map (fun i => (i.zero, i.size, i.bytes)) = some (some (.agg #[.int .i64 0, .int .i64 0, .bool false, .int .u8 0]), 4, 24) := by kernel_rfl
theorem info_8 : (Try.prog.info? 8).map (fun i => (i.zero, i.size, i.bytes)) = some (some (.agg #[.int .i64 0, .int .i64 0, .bool false, .int .u8 0]), 4, 24) := by kernel_rfl
theorem info_9 : (Try.prog.info? 9).map (fun i => (i.zero, i.size, i.bytes)) = some (some (.string .empty), 1, 16) := by kernel_rfl
theorem info_10 : (Try.prog.info? 10).map (fun i => (i.zero, i.size, i.bytes)) = some (some (.string .empty), 1, 16) := by kernel_rfl
theorem info_11 : (Try.prog.info? 11).map (fun i => (i.zero, i.size, i.bytes)) = some (some (.string .empty), 1, 16) := by kernel_rfl
theorem info_12 : (Try.prog.info? 12).map (fun i => (i.zero, i.size, i.bytes)) = some (some (.int .u64 0), 1, 8) := by kernel_rfl
theorem info_13 : (Try.prog.info? 13).map (fun i => (i.zero, i.size, i.bytes)) = some (some (.agg #[.string .empty, .int .u64 0]), 2, 24) := by kernel_rfl
theorem info_14 : (Try.prog.info? 14).map (fun i => (i.zero, i.size, i.bytes)) = some (some (.agg #[.string .empty, .int .u64 0]), 2, 24) := by kernel_rfl
theorem info_15 : (Try.prog.info? 15).map (fun i => (i.zero, i.size, i.bytes)) = some (some (.pointer none), 1, 8) := by kernel_rfl
theorem info_16 : (Try.prog.info? 16).map (fun i => (i.zero, i.size, i.bytes)) = some (some (.pointer none), 1, 8) := by kernel_rfl
theorem info_17 : (Try.prog.info? 17).map (fun i => (i.zero, i.size, i.bytes)) = some (some (.pointer none), 1, 8) := by kernel_rfl
theorem info_18 : (Try.prog.info? 18).map (fun i => (i.zero, i.size, i.bytes)) = some (some (.agg #[.pointer none]), 1, 8) := by kernel_rfl
theorem info_19 : (Try.prog.info? 19).map (fun i => (i.zero, i.size, i.bytes)) = some (some (.agg #[.pointer none]), 1, 8) := by kernel_rfl
theorem info_21 : (Try.prog.info? 21).map (fun i => (i.zero, i.size, i.bytes)) = some (some (.int .i32 0), 1, 4) := by kernel_rfl
theorem info_22 : (Try.prog.info? 22).map (fun i => (i.zero, i.size, i.bytes)) = some (some (.slice none 0 0), 1, 24) := by kernel_rfl
theorem info_23 : (Try.prog.info? 23).map (fun i => (i.zero, i.size, i.bytes)) = some (some (.agg #[.int .i64 0, .int .i64 0]), 2, 16) := by kernel_rfl
theorem info_24 : (Try.prog.info? 24).map (fun i => (i.zero, i.size, i.bytes)) = some (some (.agg #[.int .i64 0, .int .i64 0]), 2, 16) := by kernel_rfl
theorem info_26 : (Try.prog.info? 26).map (fun i => (i.zero, i.size, i.bytes)) = some (some (.slice none 0 0), 1, 24) := by kernel_rfl
theorem info_27 : (Try.prog.info? 27).map (fun i => (i.zero, i.size, i.bytes)) = some (some (.int .i64 0), 1, 8) := by kernel_rfl
theorem info_30 : (Try.prog.info? 30).map (fun i => (i.zero, i.size, i.bytes)) = some (some (.agg #[.int .i64 0, .int .i64 0, .bool false, .bool false, .bool false, .bool false, .bool false]), 7, 24) := by kernel_rfl
theorem info_31 : (Try.prog.info? 31).map (fun i => (i.zero, i.size, i.bytes)) = some (some (.agg #[.int .i64 0, .int .i64 0, .bool false, .bool false, .bool false, .bool false, .bool false]), 7, 24) := by kernel_rfl
theorem info_34 : (Try.prog.info? 34).map (fun i => (i.zero, i.size, i.bytes)) = some (some (.slice none 0 0), 1, 24) := by kernel_rfl
theorem info_37 : (Try.prog.info? 37).map (fun i => (i.zero, i.size, i.bytes)) = some (some (.slice none 0 0), 1, 24) := by kernel_rfl
theorem info_38 : (Try.prog.info? 38).map (fun i => (i.zero, i.size, i.bytes)) = some (some (.slice none 0 0), 1, 24) := by kernel_rfl
theorem info_39 : (Try.prog.info? 39).map (fun i => (i.zero, i.size, i.bytes)) = some (some (.agg #[.int .i64 0, .int .i64 0, .bool false]), 3, 24) := by kernel_rfl
theorem info_40 : (Try.prog.info? 40).map (fun i => (i.zero, i.size, i.bytes)) = some (some (.agg #[.int .i64 0, .int .i64 0, .bool false]), 3, 24) := by kernel_rfl
theorem info_45 : (Try.prog.info? 45).map (fun i => (i.zero, i.size, i.bytes)) = some (some (.agg #[.int .i64 0, .int .i64 0, .int .i64 0, .int .i64 0, .int .i64 0, .int .i64 0, .int .i64 0, .int .i64 0]), 8, 64) := by kernel_rfl
theorem info_46 : (Try.prog.info? 46).map (fun i => (i.zero, i.size, i.bytes)) = some (some (.agg #[.bool false, .bool false, .bool false, .bool false, .bool false, .bool false, .bool false, .bool false]), 8, 8) := by kernel_rfl
theorem info_47 : (Try.prog.info? 47).map (fun i => (i.zero, i.size, i.bytes)) = some (some (.agg #[.int .i64 0, .int .i64 0, .int .i64 0, .int .i64 0, .int .i64 0, .int .i64 0, .int .i64 0, .int .i64 0, .int .i64 0, .int .i64 0, .bool false, .bool false, .bool false, .bool false, .bool false, .bool false, .bool false, .bool false]), 18, 88) := by kernel_rfl
theorem info_48 : (Try.prog.info? 48).map (fun i => (i.zero, i.size, i.bytes)) = some (some (.agg #[.int .i64 0, .int .i64 0, .int .i64 0, .int .i64 0, .int .i64 0, .int .i64 0, .int .i64 0, .int .i64 0, .int .i64 0, .int .i64 0, .bool false, .bool false, .bool false, .bool false, .bool false, .bool false, .bool false, .bool false]), 18, 88) := by kernel_rfl
theorem info_49 : (Try.prog.info? 49).map (fun i => (i.zero, i.size, i.bytes)) = some (some (.agg #[.int .i64 0, .int .i64 0]), 2, 16) := by kernel_rfl
theorem info_50 : (Try.prog.info? 50).map (fun i => (i.zero, i.size, i.bytes)) = some (some (.agg #[.int .i64 0, .int .i64 0]), 2, 16) := by kernel_rfl
theorem info_55 : (Try.prog.info? 55).map (fun i => (i.zero, i.size, i.bytes)) = some (some (.slice none 0 0), 1, 24) := by kernel_rfl
theorem info_63 : (Try.prog.info? 63).map (fun i => (i.zero, i.size, i.bytes)) = some (some (.agg #[.int .i64 0, .int .i64 0]), 2, 16) := by kernel_rfl
theorem info_64 : (Try.prog.info? 64).map (fun i => (i.zero, i.size, i.bytes)) = some (some (.agg #[.int .i64 0, .int .i64 0]), 2, 16) := by kernel_rfl
theorem info_75 : (Try.prog.info? 75).map (fun i => (i.zero, i.size, i.bytes)) = some (some (.agg #[.int .i64 0, .int .i64 0, .int .i64 0]), 3, 24) := by kernel_rfl
theorem info_76 : (Try.prog.info? 76).map (fun i => (i.zero, i.size, i.bytes)) = some (some (.agg #[.int .i64 0, .int .i64 0, .int .i64 0]), 3, 24) := by kernel_rfl
theorem info_83 : (Try.prog.info? 83).map (fun i => (i.zero, i.size, i.bytes)) = some (some (.pointer none), 1, 8) := by kernel_rfl
theorem info_88 : (Try.prog.info? 88).map (fun i => (i.zero, i.size, i.bytes)) = some (some (.pointer none), 1, 8) := by kernel_rfl
theorem info_89 : (Try.prog.info? 89).map (fun i => (i.zero, i.size, i.bytes)) = some (some (.pointer none), 1, 8) := by kernel_rfl
theorem info_90 : (Try.prog.info? 90).map (fun i => (i.zero, i.size, i.bytes)) = some (some (.slice none 0 0), 1, 24) := by kernel_rfl
theorem info_93 : (Try.prog.info? 93).map (fun i => (i.zero, i.size, i.bytes)) = some (some (.pointer none), 1, 8) := by kernel_rfl
theorem info_97 : (Try.prog.info? 97).map (fun i => (i.zero, i.size, i.bytes)) = some (some (.slice none 0 0), 1, 24) := by kernel_rfl
theorem info_99 : (Try.prog.info? 99).map (fun i => (i.zero, i.size, i.bytes)) = some (some (.slice none 0 0), 1, 24) := by kernel_rfl
theorem info_107 : (Try.prog.info? 107).map (fun i => (i.zero, i.size, i.bytes)) = some (some (.agg #[.pointer none, .pointer none, .pointer none, .string .empty]), 4, 40) := by kernel_rfl
theorem info_108 : (Try.prog.info? 108).map (fun i => (i.zero, i.size, i.bytes)) = some (some (.agg #[.pointer none, .pointer none, .pointer none, .string .empty]), 4, 40) := by kernel_rfl
theorem info_109 : (Try.prog.info? 109).map (fun i => (i.zero, i.size, i.bytes)) = some (some (.agg #[]), 0, 0) := by kernel_rfl
theorem info_110 : (Try.prog.info? 110).map (fun i => (i.zero, i.size, i.bytes)) = some (some (.agg #[]), 0, 0) := by kernel_rfl
theorem info_111 : (Try.prog.info? 111).map (fun i => (i.zero, i.size, i.bytes)) = some (some (.agg #[]), 0, 0) := by kernel_rfl
theorem info_113 : (Try.prog.info? 113).map (fun i => (i.zero, i.size, i.bytes)) = some (some (.int .u32 0), 1, 4) := by kernel_rfl
theorem info_114 : (Try.prog.info? 114).map (fun i => (i.zero, i.size, i.bytes)) = some (some (.int .u8 0), 1, 1) := by kernel_rfl
theorem info_115 : (Try.prog.info? 115).map (fun i => (i.zero, i.size, i.bytes)) = some (some (.int .u8 0), 1, 1) := by kernel_rfl
theorem info_117 : (Try.prog.info? 117).map (fun i => (i.zero, i.size, i.bytes)) = some (some (.pointer none), 1, 8) := by kernel_rfl
theorem info_118 : (Try.prog.info? 118).map (fun i => (i.zero, i.size, i.bytes)) = some (some (.int .i32 0), 1, 4) := by kernel_rfl
theorem info_119 : (Try.prog.info? 119).map (fun i => (i.zero, i.size, i.bytes)) = some (some (.int .i32 0), 1, 4) := by kernel_rfl
theorem info_120 : (Try.prog.info? 120).map (fun i => (i.zero, i.size, i.bytes)) = some (some (.agg #[.int .u64 0, .int .u64 0, .int .u32 0, .int .u8 0, .int .u8 0, .int .u8 0, .int .u8 0, .nilFunc, .pointer none, .int .i32 0, .int .i32 0]), 11, 48) := by kernel_rfl
theorem info_121 : (Try.prog.info? 121).map (fun i => (i.zero, i.size, i.bytes)) = some (some (.agg #[.int .u64 0, .int .u64 0, .int .u32 0, .int .u8 0, .int .u8 0, .int .u8 0, .int .u8 0, .nilFunc, .pointer none, .int .i32 0, .int .i32 0]), 11, 48) := by kernel_rfl
theorem info_122 : (Try.prog.info? 122).map (fun i => (i.zero, i.size, i.bytes)) = some (some (.pointer none), 1, 8) := by kernel_rfl

theorem tabOk : Go.Ab.TabOk Try.prog tab := by
  intro t i h
  unfold tab at h
  split at h
  · cases h; exact Go.Ab.tabRow Try.underlying2 info_2
  · cases h; exact Go.Ab.tabRow Try.underlying3 info_3
  · cases h; exact Go.Ab.tabRow Try.underlying4 info_4
  · cases h; exact Go.Ab.tabRow Try.underlying5 info_5
  · cases h; exact Go.Ab.tabRow Try.underlying6 info_6
  · cases h; exact Go.Ab.tabRow Try.underlying7 info_7
  · cases h; exact Go.Ab.tabRow Try.underlying8 info_8
  · cases h; exact Go.Ab.tabRow Try.underlying9 info_9
  · cases h; exact Go.Ab.tabRow Try.underlying10 info_10
  · cases h; exact Go.Ab.tabRow Try.underlying11 info_11
  · cases h; exact Go.Ab.tabRow Try.underlying12 info_12
  · cases h; exact Go.Ab.tabRow Try.underlying13 info_13
  · cases h; exact Go.Ab.tabRow Try.underlying14 info_14
  · cases h; exact Go.Ab.tabRow Try.underlying15 info_15
  · cases h; exact Go.Ab.tabRow Try.underlying16 info_16
  · cases h; exact Go.Ab.tabRow Try.underlying17 info_17
  · cases h; exact Go.Ab.tabRow Try.underlying18 info_18
  · cases h; exact Go.Ab.tabRow Try.underlying19 info_19
  · cases h; exact Go.Ab.tabRow Try.underlying21 info_21
  · cases h; exact Go.Ab.tabRow Try.underlying22 info_22
  · cases h; exact Go.Ab.tabRowC Try.underlying23 info_23 ⟨by kernel_rfl, by kernel_rfl⟩
  · cases h; exact Go.Ab.tabRowC Try.underlying24 info_24 ⟨by kernel_rfl, by kernel_rfl⟩
  · cases h; exact Go.Ab.tabRow Try.underlying26 info_26
  · cases h; exact Go.Ab.tabRow Try.underlying27 info_27
  · cases h; exact Go.Ab.tabRowC Try.underlying30 info_30 ⟨by kernel_rfl, by kernel_rfl⟩
  · cases h; exact Go.Ab.tabRowC Try.underlying31 info_31 ⟨by kernel_rfl, by kernel_rfl⟩
  · cases h; exact Go.Ab.tabRow Try.underlying34 info_34
  · cases h; exact Go.Ab.tabRow Try.underlying37 info_37
  · cases h; exact Go.Ab.tabRow Try.underlying38 info_38
  · cases h; exact Go.Ab.tabRowC Try.underlying39 info_39 ⟨by kernel_rfl, by kernel_rfl⟩
  · cases h; exact Go.Ab.tabRowC Try.underlying40 info_40 ⟨by kernel_rfl, by kernel_rfl⟩
  · cases h; exact Go.Ab.tabRowC Try.underlying45 info_45 ⟨by kernel_rfl, by kernel_rfl⟩
  · cases h; exact Go.Ab.tabRowC Try.underlying46 info_46 ⟨by kernel_rfl, by kernel_rfl⟩
  · cases h; exact Go.Ab.tabRowC Try.underlying47 info_47 ⟨by kernel_rfl, by kernel_rfl⟩
  · cases h; exact Go.Ab.tabRowC Try.underlying48 info_48 ⟨by kernel_rfl, by kernel_rfl⟩
  · cases h; exact Go.Ab.tabRowC Try.underlying49 info_49 ⟨by kernel_rfl, by kernel_rfl⟩
  · cases h; exact Go.Ab.tabRowC Try.underlying50 info_50 ⟨by kernel_rfl, by kernel_rfl⟩
  · cases h; exact Go.Ab.tabRow Try.underlying55 info_55
  · cases h; exact Go.Ab.tabRowC Try.underlying63 info_63 ⟨by kernel_rfl, by kernel_rfl⟩
  · cases h; exact Go.Ab.tabRowC Try.underlying64 info_64 ⟨by kernel_rfl, by kernel_rfl⟩
  · cases h; exact Go.Ab.tabRowC Try.underlying75 info_75 ⟨by kernel_rfl, by kernel_rfl⟩
  · cases h; exact Go.Ab.tabRowC Try.underlying76 info_76 ⟨by kernel_rfl, by kernel_rfl⟩
  · cases h; exact Go.Ab.tabRow Try.underlying83 info_83
  · cases h; exact Go.Ab.tabRow Try.underlying88 info_88
  · cases h; exact Go.Ab.tabRow Try.underlying89 info_89
  · cases h; exact Go.Ab.tabRow Try.underlying90 info_90
  · cases h; exact Go.Ab.tabRow Try.underlying93 info_93
  · cases h; exact Go.Ab.tabRow Try.underlying97 info_97
  · cases h; exact Go.Ab.tabRow Try.underlying99 info_99
  · cases h; exact Go.Ab.tabRow Try.underlying107 info_107
  · cases h; exact Go.Ab.tabRow Try.underlying108 info_108
  · cases h; exact Go.Ab.tabRow Try.underlying109 info_109
  · cases h; exact Go.Ab.tabRow Try.underlying110 info_110
  · cases h; exact Go.Ab.tabRow Try.underlying111 info_111
  · cases h; exact Go.Ab.tabRow Try.underlying113 info_113
  · cases h; exact Go.Ab.tabRow Try.underlying114 info_114
  · cases h; exact Go.Ab.tabRow Try.underlying115 info_115
  · cases h; exact Go.Ab.tabRow Try.underlying117 info_117
  · cases h; exact Go.Ab.tabRow Try.underlying118 info_118
  · cases h; exact Go.Ab.tabRow Try.underlying119 info_119
  · cases h; exact Go.Ab.tabRow Try.underlying120 info_120
  · cases h; exact Go.Ab.tabRow Try.underlying121 info_121
  · cases h; exact Go.Ab.tabRow Try.underlying122 info_122
  · cases h

end Go.Proofs.Ytaadkjlooehhnaa
