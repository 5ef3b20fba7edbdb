/- The type table: printed by program. -/
import Derived.Test.YtjfadbefmhokeaaRows
import Derived.Test.YtjfadbefmhokeaaAbR
namespace Go.Proofs.Ytjfadbefmhokeaa
def tab : Go.Ab.Tab := fun t => match t with
  | 2 => some { under := .int .i64, size := 1, bytes := 8, zero := .int .i64 0 }
  | 3 => some { under := .int .i64, size := 1, bytes := 8, zero := .int .i64 0 }
  | 4 => some { under := .bool, size := 1, bytes := 1, zero := .bool false }
  | 5 => some { under := .int .u8, size := 1, bytes := 1, zero := .int .u8 0 }
  | 6 => some { under := .int .u8, size := 1, bytes := 1, zero := .int .u8 0 }
  | 7 => some { under := .struct #[{ name := "x", type := 2, offset := 0, embedded := false, tag := "", pkgPath := "runtime", byteOffset := 0 }, { name := "y", type := 3, offset := 1, embedded := false, tag := "", pkgPath := "runtime", byteOffset := 8 }, { name := "signed", type := 4, offset := 2, embedded := false, tag := "", pkgPath := "runtime", byteOffset := 16 }, { name := "code", type := 6, offset := 3, embedded := false, tag := "", pkgPath := "runtime", byteOffset := 17 }], size := 4, bytes := 24, zero := .agg #[.int .i64 0, .int .i64 0, .bool false, .int .u8 0] }
  | 8 => some { under := .struct #[{ name := "x", type := 2, offset := 0, embedded := false, tag := "", pkgPath := "runtime", byteOffset := 0 }, { name := "y", type := 3, offset := 1, embedded := false, tag := "", pkgPath := "runtime", byteOffset := 8 }, { name := "signed", type := 4, offset := 2, embedded := false, tag := "", pkgPath := "runtime", byteOffset := 16 }, { name := "code", type := 6, offset := 3, embedded := false, tag := "", pkgPath := "runtime", byteOffset := 17 }], size := 4, bytes := 24, zero := .agg #[.int .i64 0, .int .i64 0, .bool false, .int .u8 0] }
  | 9 => some { under := .string, size := 1, bytes := 16, zero := .string .empty }
  | 10 => some { under := .string, size := 1, bytes := 16, zero := .string .empty }
  | 11 => some { under := .string, size := 1, bytes := 16, zero := .string .empty }
  | 12 => some { under := .int .u64, size := 1, bytes := 8, zero := .int .u64 0 }
  | 13 => some { under := .struct #[{ name := "msg", type := 9, offset := 0, embedded := false, tag := "", pkgPath := "runtime", byteOffset := 0 }, { name := "addr", type := 12, offset := 1, embedded := false, tag := "", pkgPath := "runtime", byteOffset := 16 }], size := 2, bytes := 24, zero := .agg #[.string .empty, .int .u64 0] }
  | 14 => some { under := .struct #[{ name := "msg", type := 9, offset := 0, embedded := false, tag := "", pkgPath := "runtime", byteOffset := 0 }, { name := "addr", type := 12, offset := 1, embedded := false, tag := "", pkgPath := "runtime", byteOffset := 16 }], size := 2, bytes := 24, zero := .agg #[.string .empty, .int .u64 0] }
  | 15 => some { under := .pointer 88, size := 1, bytes := 8, zero := .pointer none }
  | 16 => some { under := .pointer 91, size := 1, bytes := 8, zero := .pointer none }
  | 17 => some { under := .pointer 100, size := 1, bytes := 8, zero := .pointer none }
  | 18 => some { under := .struct #[{ name := "typ", type := 17, offset := 0, embedded := false, tag := "", pkgPath := "internal/runtime/maps", byteOffset := 0 }], size := 1, bytes := 8, zero := .agg #[.pointer none] }
  | 19 => some { under := .struct #[{ name := "typ", type := 17, offset := 0, embedded := false, tag := "", pkgPath := "internal/runtime/maps", byteOffset := 0 }], size := 1, bytes := 8, zero := .agg #[.pointer none] }
  | 21 => some { under := .int .i32, size := 1, bytes := 4, zero := .int .i32 0 }
  | 22 => some { under := .slice 31, size := 1, bytes := 24, zero := .slice none 0 0 }
  | 24 => some { under := .slice 26, size := 1, bytes := 24, zero := .slice none 0 0 }
  | 25 => some { under := .slice 33, size := 1, bytes := 24, zero := .slice none 0 0 }
  | 26 => some { under := .int .i64, size := 1, bytes := 8, zero := .int .i64 0 }
  | 29 => some { under := .map 3 3, size := 1, bytes := 8, zero := .map none }
  | 30 => some { under := .struct #[{ name := "Kind", type := 3, offset := 0, embedded := false, tag := "", pkgPath := "", byteOffset := 0 }, { name := "Id", type := 3, offset := 1, embedded := false, tag := "", pkgPath := "", byteOffset := 8 }, { name := "Ticks", type := 3, offset := 2, embedded := false, tag := "", pkgPath := "", byteOffset := 16 }], size := 3, bytes := 24, zero := .agg #[.int .i64 0, .int .i64 0, .int .i64 0], cmp := true }
  | 31 => some { under := .struct #[{ name := "Kind", type := 3, offset := 0, embedded := false, tag := "", pkgPath := "", byteOffset := 0 }, { name := "Id", type := 3, offset := 1, embedded := false, tag := "", pkgPath := "", byteOffset := 8 }, { name := "Ticks", type := 3, offset := 2, embedded := false, tag := "", pkgPath := "", byteOffset := 16 }], size := 3, bytes := 24, zero := .agg #[.int .i64 0, .int .i64 0, .int .i64 0], cmp := true }
  | 32 => some { under := .struct #[{ name := "At", type := 3, offset := 0, embedded := false, tag := "", pkgPath := "", byteOffset := 0 }, { name := "Id", type := 3, offset := 1, embedded := false, tag := "", pkgPath := "", byteOffset := 8 }], size := 2, bytes := 16, zero := .agg #[.int .i64 0, .int .i64 0], cmp := true }
  | 33 => some { under := .struct #[{ name := "At", type := 3, offset := 0, embedded := false, tag := "", pkgPath := "", byteOffset := 0 }, { name := "Id", type := 3, offset := 1, embedded := false, tag := "", pkgPath := "", byteOffset := 8 }], size := 2, bytes := 16, zero := .agg #[.int .i64 0, .int .i64 0], cmp := true }
  | 40 => some { under := .slice 3, size := 1, bytes := 24, zero := .slice none 0 0 }
  | 43 => some { under := .pointer 48, size := 1, bytes := 8, zero := .pointer none }
  | 44 => some { under := .slice 55, size := 1, bytes := 24, zero := .slice none 0 0 }
  | 45 => some { under := .array 8 44, size := 8, bytes := 192, zero := .agg #[.slice none 0 0, .slice none 0 0, .slice none 0 0, .slice none 0 0, .slice none 0 0, .slice none 0 0, .slice none 0 0, .slice none 0 0] }
  | 46 => some { under := .array 3 45, size := 24, bytes := 576, zero := .agg #[.slice none 0 0, .slice none 0 0, .slice none 0 0, .slice none 0 0, .slice none 0 0, .slice none 0 0, .slice none 0 0, .slice none 0 0, .slice none 0 0, .slice none 0 0, .slice none 0 0, .slice none 0 0, .slice none 0 0, .slice none 0 0, .slice none 0 0, .slice none 0 0, .slice none 0 0, .slice none 0 0, .slice none 0 0, .slice none 0 0, .slice none 0 0, .slice none 0 0, .slice none 0 0, .slice none 0 0] }
  | 47 => some { under := .struct #[{ name := "now", type := 3, offset := 0, embedded := false, tag := "", pkgPath := "corebell/wheel", byteOffset := 0 }, { name := "on", type := 46, offset := 1, embedded := false, tag := "", pkgPath := "corebell/wheel", byteOffset := 8 }, { name := "places", type := 29, offset := 25, embedded := false, tag := "", pkgPath := "corebell/wheel", byteOffset := 584 }, { name := "fired", type := 25, offset := 26, embedded := false, tag := "", pkgPath := "corebell/wheel", byteOffset := 592 }], size := 27, bytes := 616, zero := .agg #[.int .i64 0, .slice none 0 0, .slice none 0 0, .slice none 0 0, .slice none 0 0, .slice none 0 0, .slice none 0 0, .slice none 0 0, .slice none 0 0, .slice none 0 0, .slice none 0 0, .slice none 0 0, .slice none 0 0, .slice none 0 0, .slice none 0 0, .slice none 0 0, .slice none 0 0, .slice none 0 0, .slice none 0 0, .slice none 0 0, .slice none 0 0, .slice none 0 0, .slice none 0 0, .slice none 0 0, .slice none 0 0, .map none, .slice none 0 0] }
  | 48 => some { under := .struct #[{ name := "now", type := 3, offset := 0, embedded := false, tag := "", pkgPath := "corebell/wheel", byteOffset := 0 }, { name := "on", type := 46, offset := 1, embedded := false, tag := "", pkgPath := "corebell/wheel", byteOffset := 8 }, { name := "places", type := 29, offset := 25, embedded := false, tag := "", pkgPath := "corebell/wheel", byteOffset := 584 }, { name := "fired", type := 25, offset := 26, embedded := false, tag := "", pkgPath := "corebell/wheel", byteOffset := 592 }], size := 27, bytes := 616, zero := .agg #[.int .i64 0, .slice none 0 0, .slice none 0 0, .slice none 0 0, .slice none 0 0, .slice none 0 0, .slice none 0 0, .slice none 0 0, .slice none 0 0, .slice none 0 0, .slice none 0 0, .slice none 0 0, .slice none 0 0, .slice none 0 0, .slice none 0 0, .slice none 0 0, .slice none 0 0, .slice none 0 0, .slice none 0 0, .slice none 0 0, .slice none 0 0, .slice none 0 0, .slice none 0 0, .slice none 0 0, .slice none 0 0, .map none, .slice none 0 0] }
  | 54 => some { under := .struct #[{ name := "at", type := 3, offset := 0, embedded := false, tag := "", pkgPath := "corebell/wheel", byteOffset := 0 }, { name := "id", type := 3, offset := 1, embedded := false, tag := "", pkgPath := "corebell/wheel", byteOffset := 8 }], size := 2, bytes := 16, zero := .agg #[.int .i64 0, .int .i64 0], cmp := true }
  | 55 => some { under := .struct #[{ name := "at", type := 3, offset := 0, embedded := false, tag := "", pkgPath := "corebell/wheel", byteOffset := 0 }, { name := "id", type := 3, offset := 1, embedded := false, tag := "", pkgPath := "corebell/wheel", byteOffset := 8 }], size := 2, bytes := 16, zero := .agg #[.int .i64 0, .int .i64 0], cmp := true }
  | 56 => some { under := .pointer 44, size := 1, bytes := 8, zero := .pointer none }
  | 63 => some { under := .int .u64, size := 1, bytes := 8, zero := .int .u64 0 }
  | 65 => some { under := .int .i64, size := 1, bytes := 8, zero := .int .i64 0 }
  | 73 => some { under := .int .u32, size := 1, bytes := 4, zero := .int .u32 0 }
  | 75 => some { under := .int .u64, size := 1, bytes := 8, zero := .int .u64 0 }
  | 76 => some { under := .int .u64, size := 1, bytes := 8, zero := .int .u64 0 }
  | 80 => some { under := .pointer 3, size := 1, bytes := 8, zero := .pointer none }
  | 83 => some { under := .pointer 76, size := 1, bytes := 8, zero := .pointer none }
  | 87 => some { under := .struct #[{ name := "_interface", type := 17, offset := 0, embedded := false, tag := "", pkgPath := "runtime", byteOffset := 0 }, { name := "concrete", type := 17, offset := 1, embedded := false, tag := "", pkgPath := "runtime", byteOffset := 8 }, { name := "asserted", type := 17, offset := 2, embedded := false, tag := "", pkgPath := "runtime", byteOffset := 16 }, { name := "missingMethod", type := 9, offset := 3, embedded := false, tag := "", pkgPath := "runtime", byteOffset := 24 }], size := 4, bytes := 40, zero := .agg #[.pointer none, .pointer none, .pointer none, .string .empty] }
  | 88 => some { under := .struct #[{ name := "_interface", type := 17, offset := 0, embedded := false, tag := "", pkgPath := "runtime", byteOffset := 0 }, { name := "concrete", type := 17, offset := 1, embedded := false, tag := "", pkgPath := "runtime", byteOffset := 8 }, { name := "asserted", type := 17, offset := 2, embedded := false, tag := "", pkgPath := "runtime", byteOffset := 16 }, { name := "missingMethod", type := 9, offset := 3, embedded := false, tag := "", pkgPath := "runtime", byteOffset := 24 }], size := 4, bytes := 40, zero := .agg #[.pointer none, .pointer none, .pointer none, .string .empty] }
  | 89 => some { under := .array 0 16, size := 0, bytes := 0, zero := .agg #[] }
  | 90 => some { under := .struct #[{ name := "_", type := 89, offset := 0, embedded := false, tag := "", pkgPath := "runtime", byteOffset := 0 }], size := 0, bytes := 0, zero := .agg #[] }
  | 91 => some { under := .struct #[{ name := "_", type := 89, offset := 0, embedded := false, tag := "", pkgPath := "runtime", byteOffset := 0 }], size := 0, bytes := 0, zero := .agg #[] }
  | 93 => some { under := .int .u8, size := 1, bytes := 1, zero := .int .u8 0 }
  | 94 => some { under := .int .u8, size := 1, bytes := 1, zero := .int .u8 0 }
  | 96 => some { under := .pointer 5, size := 1, bytes := 8, zero := .pointer none }
  | 97 => some { under := .int .i32, size := 1, bytes := 4, zero := .int .i32 0 }
  | 98 => some { under := .int .i32, size := 1, bytes := 4, zero := .int .i32 0 }
  | 99 => some { under := .struct #[{ name := "Size_", type := 12, offset := 0, embedded := false, tag := "", pkgPath := "", byteOffset := 0 }, { name := "PtrBytes", type := 12, offset := 1, embedded := false, tag := "", pkgPath := "", byteOffset := 8 }, { name := "Hash", type := 73, offset := 2, embedded := false, tag := "", pkgPath := "", byteOffset := 16 }, { name := "TFlag", type := 93, offset := 3, embedded := false, tag := "", pkgPath := "", byteOffset := 20 }, { name := "Align_", type := 5, offset := 4, embedded := false, tag := "", pkgPath := "", byteOffset := 21 }, { name := "FieldAlign_", type := 5, offset := 5, embedded := false, tag := "", pkgPath := "", byteOffset := 22 }, { name := "Kind_", type := 94, offset := 6, embedded := false, tag := "", pkgPath := "", byteOffset := 23 }, { name := "Equal", type := 95, offset := 7, embedded := false, tag := "", pkgPath := "", byteOffset := 24 }, { name := "GCData", type := 96, offset := 8, embedded := false, tag := "", pkgPath := "", byteOffset := 32 }, { name := "Str", type := 97, offset := 9, embedded := false, tag := "", pkgPath := "", byteOffset := 40 }, { name := "PtrToThis", type := 98, offset := 10, embedded := false, tag := "", pkgPath := "", byteOffset := 44 }], size := 11, bytes := 48, zero := .agg #[.int .u64 0, .int .u64 0, .int .u32 0, .int .u8 0, .int .u8 0, .int .u8 0, .int .u8 0, .nilFunc, .pointer none, .int .i32 0, .int .i32 0] }
  | 100 => some { under := .struct #[{ name := "Size_", type := 12, offset := 0, embedded := false, tag := "", pkgPath := "", byteOffset := 0 }, { name := "PtrBytes", type := 12, offset := 1, embedded := false, tag := "", pkgPath := "", byteOffset := 8 }, { name := "Hash", type := 73, offset := 2, embedded := false, tag := "", pkgPath := "", byteOffset := 16 }, { name := "TFlag", type := 93, offset := 3, embedded := false, tag := "", pkgPath := "", byteOffset := 20 }, { name := "Align_", type := 5, offset := 4, embedded := false, tag := "", pkgPath := "", byteOffset := 21 }, { name := "FieldAlign_", type := 5, offset := 5, embedded := false, tag := "", pkgPath := "", byteOffset := 22 }, { name := "Kind_", type := 94, offset := 6, embedded := false, tag := "", pkgPath := "", byteOffset := 23 }, { name := "Equal", type := 95, offset := 7, embedded := false, tag := "", pkgPath := "", byteOffset := 24 }, { name := "GCData", type := 96, offset := 8, embedded := false, tag := "", pkgPath := "", byteOffset := 32 }, { name := "Str", type := 97, offset := 9, embedded := false, tag := "", pkgPath := "", byteOffset := 40 }, { name := "PtrToThis", type := 98, offset := 10, embedded := false, tag := "", pkgPath := "", byteOffset := 44 }], size := 11, bytes := 48, zero := .agg #[.int .u64 0, .int .u64 0, .int .u32 0, .int .u8 0, .int .u8 0, .int .u8 0, .int .u8 0, .nilFunc, .pointer none, .int .i32 0, .int .i32 0] }
  | 101 => some { under := .unsafePointer, size := 1, bytes := 8, zero := .pointer none }
  | _ => none

theorem tab_2 : tab 2 = some { under := .int .i64, size := 1, bytes := 8, zero := .int .i64 0 } := rfl
theorem tab_3 : tab 3 = some { under := .int .i64, size := 1, bytes := 8, zero := .int .i64 0 } := rfl
theorem tab_4 : tab 4 = some { under := .bool, size := 1, bytes := 1, zero := .bool false } := rfl
theorem tab_5 : tab 5 = some { under := .int .u8, size := 1, bytes := 1, zero := .int .u8 0 } := rfl
theorem tab_6 : tab 6 = some { under := .int .u8, size := 1, bytes := 1, zero := .int .u8 0 } := rfl
theorem tab_7 : tab 7 = some { under := .struct #[{ name := "x", type := 2, offset := 0, embedded := false, tag := "", pkgPath := "runtime", byteOffset := 0 }, { name := "y", type := 3, offset := 1, embedded := false, tag := "", pkgPath := "runtime", byteOffset := 8 }, { name := "signed", type := 4, offset := 2, embedded := false, tag := "", pkgPath := "runtime", byteOffset := 16 }, { name := "code", type := 6, offset := 3, embedded := false, tag := "", pkgPath := "runtime", byteOffset := 17 }], size := 4, bytes := 24, zero := .agg #[.int .i64 0, .int .i64 0, .bool false, .int .u8 0] } := rfl
theorem tab_8 : tab 8 = some { under := .struct #[{ name := "x", type := 2, offset := 0, embedded := false, tag := "", pkgPath := "runtime", byteOffset := 0 }, { name := "y", type := 3, offset := 1, embedded := false, tag := "", pkgPath := "runtime", byteOffset := 8 }, { name := "signed", type := 4, offset := 2, embedded := false, tag := "", pkgPath := "runtime", byteOffset := 16 }, { name := "code", type := 6, offset := 3, embedded := false, tag := "", pkgPath := "runtime", byteOffset := 17 }], size := 4, bytes := 24, zero := .agg #[.int .i64 0, .int .i64 0, .bool false, .int .u8 0] } := rfl
theorem tab_9 : tab 9 = some { under := .string, size := 1, bytes := 16, zero := .string .empty } := rfl
theorem tab_10 : tab 10 = some { under := .string, size := 1, bytes := 16, zero := .string .empty } := rfl
theorem tab_11 : tab 11 = some { under := .string, size := 1, bytes := 16, zero := .string .empty } := rfl
theorem tab_12 : tab 12 = some { under := .int .u64, size := 1, bytes := 8, zero := .int .u64 0 } := rfl
theorem tab_13 : tab 13 = some { under := .struct #[{ name := "msg", type := 9, offset := 0, embedded := false, tag := "", pkgPath := "runtime", byteOffset := 0 }, { name := "addr", type := 12, offset := 1, embedded := false, tag := "", pkgPath := "runtime", byteOffset := 16 }], size := 2, bytes := 24, zero := .agg #[.string .empty, .int .u64 0] } := rfl
theorem tab_14 : tab 14 = some { under := .struct #[{ name := "msg", type := 9, offset := 0, embedded := false, tag := "", pkgPath := "runtime", byteOffset := 0 }, { name := "addr", type := 12, offset := 1, embedded := false, tag := "", pkgPath := "runtime", byteOffset := 16 }], size := 2, bytes := 24, zero := .agg #[.string .empty, .int .u64 0] } := rfl
theorem tab_15 : tab 15 = some { under := .pointer 88, size := 1, bytes := 8, zero := .pointer none } := rfl
theorem tab_16 : tab 16 = some { under := .pointer 91, size := 1, bytes := 8, zero := .pointer none } := rfl
theorem tab_17 : tab 17 = some { under := .pointer 100, size := 1, bytes := 8, zero := .pointer none } := rfl
theorem tab_18 : tab 18 = some { under := .struct #[{ name := "typ", type := 17, offset := 0, embedded := false, tag := "", pkgPath := "internal/runtime/maps", byteOffset := 0 }], size := 1, bytes := 8, zero := .agg #[.pointer none] } := rfl
theorem tab_19 : tab 19 = some { under := .struct #[{ name := "typ", type := 17, offset := 0, embedded := false, tag := "", pkgPath := "internal/runtime/maps", byteOffset := 0 }], size := 1, bytes := 8, zero := .agg #[.pointer none] } := rfl
theorem tab_21 : tab 21 = some { under := .int .i32, size := 1, bytes := 4, zero := .int .i32 0 } := rfl
theorem tab_22 : tab 22 = some { under := .slice 31, size := 1, bytes := 24, zero := .slice none 0 0 } := rfl
theorem tab_24 : tab 24 = some { under := .slice 26, size := 1, bytes := 24, zero := .slice none 0 0 } := rfl
theorem tab_25 : tab 25 = some { under := .slice 33, size := 1, bytes := 24, zero := .slice none 0 0 } := rfl
theorem tab_26 : tab 26 = some { under := .int .i64, size := 1, bytes := 8, zero := .int .i64 0 } := rfl
theorem tab_29 : tab 29 = some { under := .map 3 3, size := 1, bytes := 8, zero := .map none } := rfl
theorem tab_30 : tab 30 = some { under := .struct #[{ name := "Kind", type := 3, offset := 0, embedded := false, tag := "", pkgPath := "", byteOffset := 0 }, { name := "Id", type := 3, offset := 1, embedded := false, tag := "", pkgPath := "", byteOffset := 8 }, { name := "Ticks", type := 3, offset := 2, embedded := false, tag := "", pkgPath := "", byteOffset := 16 }], size := 3, bytes := 24, zero := .agg #[.int .i64 0, .int .i64 0, .int .i64 0], cmp := true } := rfl
theorem tab_31 : tab 31 = some { under := .struct #[{ name := "Kind", type := 3, offset := 0, embedded := false, tag := "", pkgPath := "", byteOffset := 0 }, { name := "Id", type := 3, offset := 1, embedded := false, tag := "", pkgPath := "", byteOffset := 8 }, { name := "Ticks", type := 3, offset := 2, embedded := false, tag := "", pkgPath := "", byteOffset := 16 }], size := 3, bytes := 24, zero := .agg #[.int .i64 0, .int .i64 0, .int .i64 0], cmp := true } := rfl
theorem tab_32 : tab 32 = some { under := .struct #[{ name := "At", type := 3, offset := 0, embedded := false, tag := "", pkgPath := "", byteOffset := 0 }, { name := "Id", type := 3, offset := 1, embedded := false, tag := "", pkgPath := "", byteOffset := 8 }], size := 2, bytes := 16, zero := .agg #[.int .i64 0, .int .i64 0], cmp := true } := rfl
theorem tab_33 : tab 33 = some { under := .struct #[{ name := "At", type := 3, offset := 0, embedded := false, tag := "", pkgPath := "", byteOffset := 0 }, { name := "Id", type := 3, offset := 1, embedded := false, tag := "", pkgPath := "", byteOffset := 8 }], size := 2, bytes := 16, zero := .agg #[.int .i64 0, .int .i64 0], cmp := true } := rfl
theorem tab_40 : tab 40 = some { under := .slice 3, size := 1, bytes := 24, zero := .slice none 0 0 } := rfl
theorem tab_43 : tab 43 = some { under := .pointer 48, size := 1, bytes := 8, zero := .pointer none } := rfl
theorem tab_44 : tab 44 = some { under := .slice 55, size := 1, bytes := 24, zero := .slice none 0 0 } := rfl
theorem tab_45 : tab 45 = some { under := .array 8 44, size := 8, bytes := 192, zero := .agg #[.slice none 0 0, .slice none 0 0, .slice none 0 0, .slice none 0 0, .slice none 0 0, .slice none 0 0, .slice none 0 0, .slice none 0 0] } := rfl
theorem tab_46 : tab 46 = some { under := .array 3 45, size := 24, bytes := 576, zero := .agg #[.slice none 0 0, .slice none 0 0, .slice none 0 0, .slice none 0 0, .slice none 0 0, .slice none 0 0, .slice none 0 0, .slice none 0 0, .slice none 0 0, .slice none 0 0, .slice none 0 0, .slice none 0 0, .slice none 0 0, .slice none 0 0, .slice none 0 0, .slice none 0 0, .slice none 0 0, .slice none 0 0, .slice none 0 0, .slice none 0 0, .slice none 0 0, .slice none 0 0, .slice none 0 0, .slice none 0 0] } := rfl
theorem tab_47 : tab 47 = some { under := .struct #[{ name := "now", type := 3, offset := 0, embedded := false, tag := "", pkgPath := "corebell/wheel", byteOffset := 0 }, { name := "on", type := 46, offset := 1, embedded := false, tag := "", pkgPath := "corebell/wheel", byteOffset := 8 }, { name := "places", type := 29, offset := 25, embedded := false, tag := "", pkgPath := "corebell/wheel", byteOffset := 584 }, { name := "fired", type := 25, offset := 26, embedded := false, tag := "", pkgPath := "corebell/wheel", byteOffset := 592 }], size := 27, bytes := 616, zero := .agg #[.int .i64 0, .slice none 0 0, .slice none 0 0, .slice none 0 0, .slice none 0 0, .slice none 0 0, .slice none 0 0, .slice none 0 0, .slice none 0 0, .slice none 0 0, .slice none 0 0, .slice none 0 0, .slice none 0 0, .slice none 0 0, .slice none 0 0, .slice none 0 0, .slice none 0 0, .slice none 0 0, .slice none 0 0, .slice none 0 0, .slice none 0 0, .slice none 0 0, .slice none 0 0, .slice none 0 0, .slice none 0 0, .map none, .slice none 0 0] } := rfl
theorem tab_48 : tab 48 = some { under := .struct #[{ name := "now", type := 3, offset := 0, embedded := false, tag := "", pkgPath := "corebell/wheel", byteOffset := 0 }, { name := "on", type := 46, offset := 1, embedded := false, tag := "", pkgPath := "corebell/wheel", byteOffset := 8 }, { name := "places", type := 29, offset := 25, embedded := false, tag := "", pkgPath := "corebell/wheel", byteOffset := 584 }, { name := "fired", type := 25, offset := 26, embedded := false, tag := "", pkgPath := "corebell/wheel", byteOffset := 592 }], size := 27, bytes := 616, zero := .agg #[.int .i64 0, .slice none 0 0, .slice none 0 0, .slice none 0 0, .slice none 0 0, .slice none 0 0, .slice none 0 0, .slice none 0 0, .slice none 0 0, .slice none 0 0, .slice none 0 0, .slice none 0 0, .slice none 0 0, .slice none 0 0, .slice none 0 0, .slice none 0 0, .slice none 0 0, .slice none 0 0, .slice none 0 0, .slice none 0 0, .slice none 0 0, .slice none 0 0, .slice none 0 0, .slice none 0 0, .slice none 0 0, .map none, .slice none 0 0] } := rfl
theorem tab_54 : tab 54 = some { under := .struct #[{ name := "at", type := 3, offset := 0, embedded := false, tag := "", pkgPath := "corebell/wheel", byteOffset := 0 }, { name := "id", type := 3, offset := 1, embedded := false, tag := "", pkgPath := "corebell/wheel", byteOffset := 8 }], size := 2, bytes := 16, zero := .agg #[.int .i64 0, .int .i64 0], cmp := true } := rfl
theorem tab_55 : tab 55 = some { under := .struct #[{ name := "at", type := 3, offset := 0, embedded := false, tag := "", pkgPath := "corebell/wheel", byteOffset := 0 }, { name := "id", type := 3, offset := 1, embedded := false, tag := "", pkgPath := "corebell/wheel", byteOffset := 8 }], size := 2, bytes := 16, zero := .agg #[.int .i64 0, .int .i64 0], cmp := true } := rfl
theorem tab_56 : tab 56 = some { under := .pointer 44, size := 1, bytes := 8, zero := .pointer none } := rfl
theorem tab_63 : tab 63 = some { under := .int .u64, size := 1, bytes := 8, zero := .int .u64 0 } := rfl
theorem tab_65 : tab 65 = some { under := .int .i64, size := 1, bytes := 8, zero := .int .i64 0 } := rfl
theorem tab_73 : tab 73 = some { under := .int .u32, size := 1, bytes := 4, zero := .int .u32 0 } := rfl
theorem tab_75 : tab 75 = some { under := .int .u64, size := 1, bytes := 8, zero := .int .u64 0 } := rfl
theorem tab_76 : tab 76 = some { under := .int .u64, size := 1, bytes := 8, zero := .int .u64 0 } := rfl
theorem tab_80 : tab 80 = some { under := .pointer 3, size := 1, bytes := 8, zero := .pointer none } := rfl
theorem tab_83 : tab 83 = some { under := .pointer 76, size := 1, bytes := 8, zero := .pointer none } := rfl
theorem tab_87 : tab 87 = some { under := .struct #[{ name := "_interface", type := 17, offset := 0, embedded := false, tag := "", pkgPath := "runtime", byteOffset := 0 }, { name := "concrete", type := 17, offset := 1, embedded := false, tag := "", pkgPath := "runtime", byteOffset := 8 }, { name := "asserted", type := 17, offset := 2, embedded := false, tag := "", pkgPath := "runtime", byteOffset := 16 }, { name := "missingMethod", type := 9, offset := 3, embedded := false, tag := "", pkgPath := "runtime", byteOffset := 24 }], size := 4, bytes := 40, zero := .agg #[.pointer none, .pointer none, .pointer none, .string .empty] } := rfl
theorem tab_88 : tab 88 = some { under := .struct #[{ name := "_interface", type := 17, offset := 0, embedded := false, tag := "", pkgPath := "runtime", byteOffset := 0 }, { name := "concrete", type := 17, offset := 1, embedded := false, tag := "", pkgPath := "runtime", byteOffset := 8 }, { name := "asserted", type := 17, offset := 2, embedded := false, tag := "", pkgPath := "runtime", byteOffset := 16 }, { name := "missingMethod", type := 9, offset := 3, embedded := false, tag := "", pkgPath := "runtime", byteOffset := 24 }], size := 4, bytes := 40, zero := .agg #[.pointer none, .pointer none, .pointer none, .string .empty] } := rfl
theorem tab_89 : tab 89 = some { under := .array 0 16, size := 0, bytes := 0, zero := .agg #[] } := rfl
theorem tab_90 : tab 90 = some { under := .struct #[{ name := "_", type := 89, offset := 0, embedded := false, tag := "", pkgPath := "runtime", byteOffset := 0 }], size := 0, bytes := 0, zero := .agg #[] } := rfl
theorem tab_91 : tab 91 = some { under := .struct #[{ name := "_", type := 89, offset := 0, embedded := false, tag := "", pkgPath := "runtime", byteOffset := 0 }], size := 0, bytes := 0, zero := .agg #[] } := rfl
theorem tab_93 : tab 93 = some { under := .int .u8, size := 1, bytes := 1, zero := .int .u8 0 } := rfl
theorem tab_94 : tab 94 = some { under := .int .u8, size := 1, bytes := 1, zero := .int .u8 0 } := rfl
theorem tab_96 : tab 96 = some { under := .pointer 5, size := 1, bytes := 8, zero := .pointer none } := rfl
theorem tab_97 : tab 97 = some { under := .int .i32, size := 1, bytes := 4, zero := .int .i32 0 } := rfl
theorem tab_98 : tab 98 = some { under := .int .i32, size := 1, bytes := 4, zero := .int .i32 0 } := rfl
theorem tab_99 : tab 99 = some { under := .struct #[{ name := "Size_", type := 12, offset := 0, embedded := false, tag := "", pkgPath := "", byteOffset := 0 }, { name := "PtrBytes", type := 12, offset := 1, embedded := false, tag := "", pkgPath := "", byteOffset := 8 }, { name := "Hash", type := 73, offset := 2, embedded := false, tag := "", pkgPath := "", byteOffset := 16 }, { name := "TFlag", type := 93, offset := 3, embedded := false, tag := "", pkgPath := "", byteOffset := 20 }, { name := "Align_", type := 5, offset := 4, embedded := false, tag := "", pkgPath := "", byteOffset := 21 }, { name := "FieldAlign_", type := 5, offset := 5, embedded := false, tag := "", pkgPath := "", byteOffset := 22 }, { name := "Kind_", type := 94, offset := 6, embedded := false, tag := "", pkgPath := "", byteOffset := 23 }, { name := "Equal", type := 95, offset := 7, embedded := false, tag := "", pkgPath := "", byteOffset := 24 }, { name := "GCData", type := 96, offset := 8, embedded := false, tag := "", pkgPath := "", byteOffset := 32 }, { name := "Str", type := 97, offset := 9, embedded := false, tag := "", pkgPath := "", byteOffset := 40 }, { name := "PtrToThis", type := 98, offset := 10, embedded := false, tag := "", pkgPath := "", byteOffset := 44 }], size := 11, bytes := 48, zero := .agg #[.int .u64 0, .int .u64 0, .int .u32 0, .int .u8 0, .int .u8 0, .int .u8 0, .int .u8 0, .nilFunc, .pointer none, .int .i32 0, .int .i32 0] } := rfl
theorem tab_100 : tab 100 = some { under := .struct #[{ name := "Size_", type := 12, offset := 0, embedded := false, tag := "", pkgPath := "", byteOffset := 0 }, { name := "PtrBytes", type := 12, offset := 1, embedded := false, tag := "", pkgPath := "", byteOffset := 8 }, { name := "Hash", type := 73, offset := 2, embedded := false, tag := "", pkgPath := "", byteOffset := 16 }, { name := "TFlag", type := 93, offset := 3, embedded := false, tag := "", pkgPath := "", byteOffset := 20 }, { name := "Align_", type := 5, offset := 4, embedded := false, tag := "", pkgPath := "", byteOffset := 21 }, { name := "FieldAlign_", type := 5, offset := 5, embedded := false, tag := "", pkgPath := "", byteOffset := 22 }, { name := "Kind_", type := 94, offset := 6, embedded := false, tag := "", pkgPath := "", byteOffset := 23 }, { name := "Equal", type := 95, offset := 7, embedded := false, tag := "", pkgPath := "", byteOffset := 24 }, { name := "GCData", type := 96, offset := 8, embedded := false, tag := "", pkgPath := "", byteOffset := 32 }, { name := "Str", type := 97, offset := 9, embedded := false, tag := "", pkgPath := "", byteOffset := 40 }, { name := "PtrToThis", type := 98, offset := 10, embedded := false, tag := "", pkgPath := "", byteOffset := 44 }], size := 11, bytes := 48, zero := .agg #[.int .u64 0, .int .u64 0, .int .u32 0, .int .u8 0, .int .u8 0, .int .u8 0, .int .u8 0, .nilFunc, .pointer none, .int .i32 0, .int .i32 0] } := rfl
theorem tab_101 : tab 101 = some { under := .unsafePointer, size := 1, bytes := 8, zero := .pointer none } := rfl

theorem info_2 : (Try.prog.info? 2).map (fun i => (i.zero, i.size, i.bytes)) = some (some (.int .i64 0), 1, 8) := by kernel_rfl
theorem info_3 : (Try.prog.info? 3).map (fun i => (i.zero, i.size, i.bytes)) = some (some (.int .i64 0), 1, 8) := by kernel_rfl
theorem info_4 : (Try.prog.info? 4).map (fun i => (i.zero, i.size, i.bytes)) = some (some (.bool false), 1, 1) := by kernel_rfl
theorem info_5 : (Try.prog.info? 5).map (fun i => (i.zero, i.size, i.bytes)) = some (some (.int .u8 0), 1, 1) := by kernel_rfl
theorem info_6 : (Try.prog.info? 6).map (fun i => (i.zero, i.size, i.bytes)) = some (some (.int .u8 0), 1, 1) := by kernel_rfl
theorem info_7 : (Try.prog.info? 7).map (fun i => (i.zero, i.size, i.bytes)) = some (some (.agg #[.int .i64 0, .int .i64 0, .bool false, .int .u8 0]), 4, 24) := by kernel_rfl
theorem info_8 : (Try.prog.info? 8).map (fun i => (i.zero, i.size, i.bytes)) = some (some (.agg #[.int .i64 0, .int .i64 0, .bool false, .int .u8 0]), 4, 24) := by kernel_rfl
theorem info_9 : (Try.prog.info? 9).map (fun i => (i.zero, i.size, i.bytes)) = some (some (.string .empty), 1, 16) := by kernel_rfl
theorem info_10 : (Try.prog.info? 10).map (fun i => (i.zero, i.size, i.bytes)) = some (some (.string .empty), 1, 16) := by kernel_rfl
theorem info_11 : (Try.prog.info? 11).map (fun i => (i.zero, i.size, i.bytes)) = some (some (.string .empty), 1, 16) := by kernel_rfl
theorem info_12 : (Try.prog.info? 12).map (fun i => (i.zero, i.size, i.bytes)) = some (some (.int .u64 0), 1, 8) := by kernel_rfl
theorem info_13 : (Try.prog.info? 13).map (fun i => (i.zero, i.size, i.bytes)) = some (some (.agg #[.string .empty, .int .u64 0]), 2, 24) := by kernel_rfl
theorem info_14 : (Try.prog.info? 14).map (fun i => (i.zero, i.size, i.bytes)) = some (some (.agg #[.string .empty, .int .u64 0]), 2, 24) := by kernel_rfl
theorem info_15 : (Try.prog.info? 15).map (fun i => (i.zero, i.size, i.bytes)) = some (some (.pointer none), 1, 8) := by kernel_rfl
theorem info_16 : (Try.prog.info? 16).map (fun i => (i.zero, i.size, i.bytes)) = some (some (.pointer none), 1, 8) := by kernel_rfl
theorem info_17 : (Try.prog.info? 17).map (fun i => (i.zero, i.size, i.bytes)) = some (some (.pointer none), 1, 8) := by kernel_rfl
theorem info_18 : (Try.prog.info? 18).map (fun i => (i.zero, i.size, i.bytes)) = some (some (.agg #[.pointer none]), 1, 8) := by kernel_rfl
theorem info_19 : (Try.prog.info? 19).map (fun i => (i.zero, i.size, i.bytes)) = some (some (.agg #[.pointer none]), 1, 8) := by kernel_rfl
theorem info_21 : (Try.prog.info? 21).map (fun i => (i.zero, i.size, i.bytes)) = some (some (.int .i32 0), 1, 4) := by kernel_rfl
theorem info_22 : (Try.prog.info? 22).map (fun i => (i.zero, i.size, i.bytes)) = some (some (.slice none 0 0), 1, 24) := by kernel_rfl
theorem info_24 : (Try.prog.info? 24).map (fun i => (i.zero, i.size, i.bytes)) = some (some (.slice none 0 0), 1, 24) := by kernel_rfl
theorem info_25 : (Try.prog.info? 25).map (fun i => (i.zero, i.size, i.bytes)) = some (some (.slice none 0 0), 1, 24) := by kernel_rfl
theorem info_26 : (Try.prog.info? 26).map (fun i => (i.zero, i.size, i.bytes)) = some (some (.int .i64 0), 1, 8) := by kernel_rfl
theorem info_29 : (Try.prog.info? 29).map (fun i => (i.zero, i.size, i.bytes)) = some (some (.map none), 1, 8) := by kernel_rfl
theorem info_30 : (Try.prog.info? 30).map (fun i => (i.zero, i.size, i.bytes)) = some (some (.agg #[.int .i64 0, .int .i64 0, .int .i64 0]), 3, 24) := by kernel_rfl
theorem info_31 : (Try.prog.info? 31).map (fun i => (i.zero, i.size, i.bytes)) = some (some (.agg #[.int .i64 0, .int .i64 0, .int .i64 0]), 3, 24) := by kernel_rfl
theorem info_32 : (Try.prog.info? 32).map (fun i => (i.zero, i.size, i.bytes)) = some (some (.agg #[.int .i64 0, .int .i64 0]), 2, 16) := by kernel_rfl
theorem info_33 : (Try.prog.info? 33).map (fun i => (i.zero, i.size, i.bytes)) = some (some (.agg #[.int .i64 0, .int .i64 0]), 2, 16) := by kernel_rfl
theorem info_40 : (Try.prog.info? 40).map (fun i => (i.zero, i.size, i.bytes)) = some (some (.slice none 0 0), 1, 24) := by kernel_rfl
theorem info_43 : (Try.prog.info? 43).map (fun i => (i.zero, i.size, i.bytes)) = some (some (.pointer none), 1, 8) := by kernel_rfl
theorem info_44 : (Try.prog.info? 44).map (fun i => (i.zero, i.size, i.bytes)) = some (some (.slice none 0 0), 1, 24) := by kernel_rfl
theorem info_45 : (Try.prog.info? 45).map (fun i => (i.zero, i.size, i.bytes)) = some (some (.agg #[.slice none 0 0, .slice none 0 0, .slice none 0 0, .slice none 0 0, .slice none 0 0, .slice none 0 0, .slice none 0 0, .slice none 0 0]), 8, 192) := by kernel_rfl
theorem info_46 : (Try.prog.info? 46).map (fun i => (i.zero, i.size, i.bytes)) = some (some (.agg #[.slice none 0 0, .slice none 0 0, .slice none 0 0, .slice none 0 0, .slice none 0 0, .slice none 0 0, .slice none 0 0, .slice none 0 0, .slice none 0 0, .slice none 0 0, .slice none 0 0, .slice none 0 0, .slice none 0 0, .slice none 0 0, .slice none 0 0, .slice none 0 0, .slice none 0 0, .slice none 0 0, .slice none 0 0, .slice none 0 0, .slice none 0 0, .slice none 0 0, .slice none 0 0, .slice none 0 0]), 24, 576) := by kernel_rfl
theorem info_47 : (Try.prog.info? 47).map (fun i => (i.zero, i.size, i.bytes)) = some (some (.agg #[.int .i64 0, .slice none 0 0, .slice none 0 0, .slice none 0 0, .slice none 0 0, .slice none 0 0, .slice none 0 0, .slice none 0 0, .slice none 0 0, .slice none 0 0, .slice none 0 0, .slice none 0 0, .slice none 0 0, .slice none 0 0, .slice none 0 0, .slice none 0 0, .slice none 0 0, .slice none 0 0, .slice none 0 0, .slice none 0 0, .slice none 0 0, .slice none 0 0, .slice none 0 0, .slice none 0 0, .slice none 0 0, .map none, .slice none 0 0]), 27, 616) := by kernel_rfl
theorem info_48 : (Try.prog.info? 48).map (fun i => (i.zero, i.size, i.bytes)) = some (some (.agg #[.int .i64 0, .slice none 0 0, .slice none 0 0, .slice none 0 0, .slice none 0 0, .slice none 0 0, .slice none 0 0, .slice none 0 0, .slice none 0 0, .slice none 0 0, .slice none 0 0, .slice none 0 0, .slice none 0 0, .slice none 0 0, .slice none 0 0, .slice none 0 0, .slice none 0 0, .slice none 0 0, .slice none 0 0, .slice none 0 0, .slice none 0 0, .slice none 0 0, .slice none 0 0, .slice none 0 0, .slice none 0 0, .map none, .slice none 0 0]), 27, 616) := by kernel_rfl
theorem info_54 : (Try.prog.info? 54).map (fun i => (i.zero, i.size, i.bytes)) = some (some (.agg #[.int .i64 0, .int .i64 0]), 2, 16) := by kernel_rfl
theorem info_55 : (Try.prog.info? 55).map (fun i => (i.zero, i.size, i.bytes)) = some (some (.agg #[.int .i64 0, .int .i64 0]), 2, 16) := by kernel_rfl
theorem info_56 : (Try.prog.info? 56).map (fun i => (i.zero, i.size, i.bytes)) = some (some (.pointer none), 1, 8) := by kernel_rfl
theorem info_63 : (Try.prog.info? 63).map (fun i => (i.zero, i.size, i.bytes)) = some (some (.int .u64 0), 1, 8) := by kernel_rfl
theorem info_65 : (Try.prog.info? 65).map (fun i => (i.zero, i.size, i.bytes)) = some (some (.int .i64 0), 1, 8) := by kernel_rfl
theorem info_73 : (Try.prog.info? 73).map (fun i => (i.zero, i.size, i.bytes)) = some (some (.int .u32 0), 1, 4) := by kernel_rfl
theorem info_75 : (Try.prog.info? 75).map (fun i => (i.zero, i.size, i.bytes)) = some (some (.int .u64 0), 1, 8) := by kernel_rfl
theorem info_76 : (Try.prog.info? 76).map (fun i => (i.zero, i.size, i.bytes)) = some (some (.int .u64 0), 1, 8) := by kernel_rfl
theorem info_80 : (Try.prog.info? 80).map (fun i => (i.zero, i.size, i.bytes)) = some (some (.pointer none), 1, 8) := by kernel_rfl
theorem info_83 : (Try.prog.info? 83).map (fun i => (i.zero, i.size, i.bytes)) = some (some (.pointer none), 1, 8) := by kernel_rfl
theorem info_87 : (Try.prog.info? 87).map (fun i => (i.zero, i.size, i.bytes)) = some (some (.agg #[.pointer none, .pointer none, .pointer none, .string .empty]), 4, 40) := by kernel_rfl
theorem info_88 : (Try.prog.info? 88).map (fun i => (i.zero, i.size, i.bytes)) = some (some (.agg #[.pointer none, .pointer none, .pointer none, .string .empty]), 4, 40) := by kernel_rfl
theorem info_89 : (Try.prog.info? 89).map (fun i => (i.zero, i.size, i.bytes)) = some (some (.agg #[]), 0, 0) := by kernel_rfl
theorem info_90 : (Try.prog.info? 90).map (fun i => (i.zero, i.size, i.bytes)) = some (some (.agg #[]), 0, 0) := by kernel_rfl
theorem info_91 : (Try.prog.info? 91).map (fun i => (i.zero, i.size, i.bytes)) = some (some (.agg #[]), 0, 0) := by kernel_rfl
theorem info_93 : (Try.prog.info? 93).map (fun i => (i.zero, i.size, i.bytes)) = some (some (.int .u8 0), 1, 1) := by kernel_rfl
theorem info_94 : (Try.prog.info? 94).map (fun i => (i.zero, i.size, i.bytes)) = some (some (.int .u8 0), 1, 1) := by kernel_rfl
theorem info_96 : (Try.prog.info? 96).map (fun i => (i.zero, i.size, i.bytes)) = some (some (.pointer none), 1, 8) := by kernel_rfl
theorem info_97 : (Try.prog.info? 97).map (fun i => (i.zero, i.size, i.bytes)) = some (some (.int .i32 0), 1, 4) := by kernel_rfl
theorem info_98 : (Try.prog.info? 98).map (fun i => (i.zero, i.size, i.bytes)) = some (some (.int .i32 0), 1, 4) := by kernel_rfl
theorem info_99 : (Try.prog.info? 99).map (fun i => (i.zero, i.size, i.bytes)) = some (some (.agg #[.int .u64 0, .int .u64 0, .int .u32 0, .int .u8 0, .int .u8 0, .int .u8 0, .int .u8 0, .nilFunc, .pointer none, .int .i32 0, .int .i32 0]), 11, 48) := by kernel_rfl
theorem info_100 : (Try.prog.info? 100).map (fun i => (i.zero, i.size, i.bytes)) = some (some (.agg #[.int .u64 0, .int .u64 0, .int .u32 0, .int .u8 0, .int .u8 0, .int .u8 0, .int .u8 0, .nilFunc, .pointer none, .int .i32 0, .int .i32 0]), 11, 48) := by kernel_rfl
theorem info_101 : (Try.prog.info? 101).map (fun i => (i.zero, i.size, i.bytes)) = some (some (.pointer none), 1, 8) := by kernel_rfl

theorem tabOk : Go.Ab.TabOk Try.prog tab := by
  intro t i h
  unfold tab at h
  split at h
  · cases h; exact Go.Ab.tabRow Try.underlying2 info_2
  · cases h; exact Go.Ab.tabRow Try.underlying3 info_3
  · cases h; exact Go.Ab.tabRow Try.underlying4 info_4
  · cases h; exact Go.Ab.tabRow Try.underlying5 info_5
  · cases h; exact Go.Ab.tabRow Try.underlying6 info_6
  · cases h; exact Go.Ab.tabRow Try.underlying7 info_7
  · cases h; exact Go.Ab.tabRow Try.underlying8 info_8
  · cases h; exact Go.Ab.tabRow Try.underlying9 info_9
  · cases h; exact Go.Ab.tabRow Try.underlying10 info_10
  · cases h; exact Go.Ab.tabRow Try.underlying11 info_11
  · cases h; exact Go.Ab.tabRow Try.underlying12 info_12
  · cases h; exact Go.Ab.tabRow Try.underlying13 info_13
  · cases h; exact Go.Ab.tabRow Try.underlying14 info_14
  · cases h; exact Go.Ab.tabRow Try.underlying15 info_15
  · cases h; exact Go.Ab.tabRow Try.underlying16 info_16
  · cases h; exact Go.Ab.tabRow Try.underlying17 info_17
  · cases h; exact Go.Ab.tabRow Try.underlying18 info_18
  · cases h; exact Go.Ab.tabRow Try.underlying19 info_19
  · cases h; exact Go.Ab.tabRow Try.underlying21 info_21
  · cases h; exact Go.Ab.tabRow Try.underlying22 info_22
  · cases h; exact Go.Ab.tabRow Try.underlying24 info_24
  · cases h; exact Go.Ab.tabRow Try.underlying25 info_25
  · cases h; exact Go.Ab.tabRow Try.underlying26 info_26
  · cases h; exact Go.Ab.tabRow Try.underlying29 info_29
  · cases h; exact Go.Ab.tabRowC Try.underlying30 info_30 ⟨by kernel_rfl, by kernel_rfl⟩
  · cases h; exact Go.Ab.tabRowC Try.underlying31 info_31 ⟨by kernel_rfl, by kernel_rfl⟩
  · cases h; exact Go.Ab.tabRowC Try.underlying32 info_32 ⟨by kernel_rfl, by kernel_rfl⟩
  · cases h; exact Go.Ab.tabRowC Try.underlying33 info_33 ⟨by kernel_rfl, by kernel_rfl⟩
  · cases h; exact Go.Ab.tabRow Try.underlying40 info_40
  · cases h; exact Go.Ab.tabRow Try.underlying43 info_43
  · cases h; exact Go.Ab.tabRow Try.underlying44 info_44
  · cases h; exact Go.Ab.tabRow Try.underlying45 info_45
  · cases h; exact Go.Ab.tabRow Try.underlying46 info_46
  · cases h; exact Go.Ab.tabRow Try.underlying47 info_47
  · cases h; exact Go.Ab.tabRow Try.underlying48 info_48
  · cases h; exact Go.Ab.tabRowC Try.underlying54 info_54 ⟨by kernel_rfl, by kernel_rfl⟩
  · cases h; exact Go.Ab.tabRowC Try.underlying55 info_55 ⟨by kernel_rfl, by kernel_rfl⟩
  · cases h; exact Go.Ab.tabRow Try.underlying56 info_56
  · cases h; exact Go.Ab.tabRow Try.underlying63 info_63
  · cases h; exact Go.Ab.tabRow Try.underlying65 info_65
  · cases h; exact Go.Ab.tabRow Try.underlying73 info_73
  · cases h; exact Go.Ab.tabRow Try.underlying75 info_75
  · cases h; exact Go.Ab.tabRow Try.underlying76 info_76
  · cases h; exact Go.Ab.tabRow Try.underlying80 info_80
  · cases h; exact Go.Ab.tabRow Try.underlying83 info_83
  · cases h; exact Go.Ab.tabRow Try.underlying87 info_87
  · cases h; exact Go.Ab.tabRow Try.underlying88 info_88
  · cases h; exact Go.Ab.tabRow Try.underlying89 info_89
  · cases h; exact Go.Ab.tabRow Try.underlying90 info_90
  · cases h; exact Go.Ab.tabRow Try.underlying91 info_91
  · cases h; exact Go.Ab.tabRow Try.underlying93 info_93
  · cases h; exact Go.Ab.tabRow Try.underlying94 info_94
  · cases h; exact Go.Ab.tabRow Try.underlying96 info_96
  · cases h; exact Go.Ab.tabRow Try.underlying97 info_97
  · cases h; exact Go.Ab.tabRow Try.underlying98 info_98
  · cases h; exact Go.Ab.tabRow Try.underlying99 info_99
  · cases h; exact Go.Ab.tabRow Try.underlying100 info_100
  · cases h; exact Go.Ab.tabRow Try.underlying101 info_101
  · cases h

end Go.Proofs.Ytjfadbefmhokeaa
