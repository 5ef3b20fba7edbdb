/- The type table: printed by program. -/
import Derived.Test.YtnbjjhhgpcpbgaaRows
import Derived.Test.YtnbjjhhgpcpbgaaAbR
namespace Go.Proofs.Ytnbjjhhgpcpbgaa
def tab : Go.Ab.Tab := fun t => match t with
  | 1 => some { under := .func #[] #[] false, size := 1, bytes := 8, zero := .nilFunc }
  | 2 => some { under := .int .i64, size := 1, bytes := 8, zero := .int .i64 0 }
  | 3 => some { under := .int .i64, size := 1, bytes := 8, zero := .int .i64 0 }
  | 4 => some { under := .bool, size := 1, bytes := 1, zero := .bool false }
  | 5 => some { under := .int .u8, size := 1, bytes := 1, zero := .int .u8 0 }
  | 6 => some { under := .int .u8, size := 1, bytes := 1, zero := .int .u8 0 }
  | 7 => some { under := .struct #[{ name := "x", type := 2, offset := 0, embedded := false, tag := "", pkgPath := "runtime", byteOffset := 0 }, { name := "y", type := 3, offset := 1, embedded := false, tag := "", pkgPath := "runtime", byteOffset := 8 }, { name := "signed", type := 4, offset := 2, embedded := false, tag := "", pkgPath := "runtime", byteOffset := 16 }, { name := "code", type := 6, offset := 3, embedded := false, tag := "", pkgPath := "runtime", byteOffset := 17 }], size := 4, bytes := 24, zero := .agg #[.int .i64 0, .int .i64 0, .bool false, .int .u8 0] }
  | 8 => some { under := .struct #[{ name := "x", type := 2, offset := 0, embedded := false, tag := "", pkgPath := "runtime", byteOffset := 0 }, { name := "y", type := 3, offset := 1, embedded := false, tag := "", pkgPath := "runtime", byteOffset := 8 }, { name := "signed", type := 4, offset := 2, embedded := false, tag := "", pkgPath := "runtime", byteOffset := 16 }, { name := "code", type := 6, offset := 3, embedded := false, tag := "", pkgPath := "runtime", byteOffset := 17 }], size := 4, bytes := 24, zero := .agg #[.int .i64 0, .int .i64 0, .bool false, .int .u8 0] }
  | 9 => some { under := .string, size := 1, bytes := 16, zero := .string .empty }
  | 10 => some { under := .string, size := 1, bytes := 16, zero := .string .empty }
  | 11 => some { under := .string, size := 1, bytes := 16, zero := .string .empty }
  | 12 => some { under := .int .u64, size := 1, bytes := 8, zero := .int .u64 0 }
  | 13 => some { under := .struct #[{ name := "msg", type := 9, offset := 0, embedded := false, tag := "", pkgPath := "runtime", byteOffset := 0 }, { name := "addr", type := 12, offset := 1, embedded := false, tag := "", pkgPath := "runtime", byteOffset := 16 }], size := 2, bytes := 24, zero := .agg #[.string .empty, .int .u64 0] }
  | 14 => some { under := .struct #[{ name := "msg", type := 9, offset := 0, embedded := false, tag := "", pkgPath := "runtime", byteOffset := 0 }, { name := "addr", type := 12, offset := 1, embedded := false, tag := "", pkgPath := "runtime", byteOffset := 16 }], size := 2, bytes := 24, zero := .agg #[.string .empty, .int .u64 0] }
  | 15 => some { under := .pointer 53, size := 1, bytes := 8, zero := .pointer none }
  | 16 => some { under := .pointer 56, size := 1, bytes := 8, zero := .pointer none }
  | 17 => some { under := .pointer 66, size := 1, bytes := 8, zero := .pointer none }
  | 18 => some { under := .struct #[{ name := "typ", type := 17, offset := 0, embedded := false, tag := "", pkgPath := "internal/runtime/maps", byteOffset := 0 }], size := 1, bytes := 8, zero := .agg #[.pointer none] }
  | 19 => some { under := .struct #[{ name := "typ", type := 17, offset := 0, embedded := false, tag := "", pkgPath := "internal/runtime/maps", byteOffset := 0 }], size := 1, bytes := 8, zero := .agg #[.pointer none] }
  | 21 => some { under := .int .i32, size := 1, bytes := 4, zero := .int .i32 0 }
  | 22 => some { under := .slice 3, size := 1, bytes := 24, zero := .slice none 0 0 }
  | 23 => some { under := .func #[] #[4] false, size := 1, bytes := 8, zero := .nilFunc }
  | 24 => some { under := .struct #[{ name := "Core", type := 22, offset := 0, embedded := false, tag := "", pkgPath := "", byteOffset := 0 }, { name := "Most", type := 3, offset := 1, embedded := false, tag := "", pkgPath := "", byteOffset := 24 }], size := 2, bytes := 32, zero := .agg #[.slice none 0 0, .int .i64 0] }
  | 25 => some { under := .struct #[{ name := "Core", type := 22, offset := 0, embedded := false, tag := "", pkgPath := "", byteOffset := 0 }, { name := "Most", type := 3, offset := 1, embedded := false, tag := "", pkgPath := "", byteOffset := 24 }], size := 2, bytes := 32, zero := .agg #[.slice none 0 0, .int .i64 0] }
  | 26 => some { under := .int .i64, size := 1, bytes := 8, zero := .int .i64 0 }
  | 28 => some { under := .func #[22, 3] #[25, 26] false, size := 1, bytes := 8, zero := .nilFunc }
  | 29 => some { under := .func #[22, 3] #[26] false, size := 1, bytes := 8, zero := .nilFunc }
  | 30 => some { under := .func #[22] #[3] false, size := 1, bytes := 8, zero := .nilFunc }
  | 32 => some { under := .func #[22, 3] #[3, 26] false, size := 1, bytes := 8, zero := .nilFunc }
  | 33 => some { under := .func #[22, 3] #[4] false, size := 1, bytes := 8, zero := .nilFunc }
  | 34 => some { under := .slice 28, size := 1, bytes := 24, zero := .slice none 0 0 }
  | 35 => some { under := .func #[22] #[22] false, size := 1, bytes := 8, zero := .nilFunc }
  | 36 => some { under := .func #[22] #[] false, size := 1, bytes := 8, zero := .nilFunc }
  | 37 => some { under := .func #[22, 22] #[4] false, size := 1, bytes := 8, zero := .nilFunc }
  | 38 => some { under := .func #[22, 3, 22] #[25] false, size := 1, bytes := 8, zero := .nilFunc }
  | 39 => some { under := .func #[3] #[22] false, size := 1, bytes := 8, zero := .nilFunc }
  | 40 => some { under := .func #[22, 41] #[4] false, size := 1, bytes := 8, zero := .nilFunc }
  | 41 => some { under := .func #[3] #[4] false, size := 1, bytes := 8, zero := .nilFunc }
  | 42 => some { under := .func #[3] #[] false, size := 1, bytes := 8, zero := .nilFunc }
  | 43 => some { under := .func #[22, 44] #[] false, size := 1, bytes := 8, zero := .nilFunc }
  | 44 => some { under := .func #[3, 3] #[3] false, size := 1, bytes := 8, zero := .nilFunc }
  | 45 => some { under := .func #[22, 41] #[3] false, size := 1, bytes := 8, zero := .nilFunc }
  | 46 => some { under := .func #[22, 3, 44] #[] false, size := 1, bytes := 8, zero := .nilFunc }
  | 47 => some { under := .func #[22, 3] #[3] false, size := 1, bytes := 8, zero := .nilFunc }
  | 48 => some { under := .func #[22, 3, 3, 44] #[] false, size := 1, bytes := 8, zero := .nilFunc }
  | 49 => some { under := .func #[22, 3, 3, 3, 44] #[] false, size := 1, bytes := 8, zero := .nilFunc }
  | 50 => some { under := .int .u64, size := 1, bytes := 8, zero := .int .u64 0 }
  | 51 => some { under := .func #[] #[9] false, size := 1, bytes := 8, zero := .nilFunc }
  | 52 => some { under := .struct #[{ name := "_interface", type := 17, offset := 0, embedded := false, tag := "", pkgPath := "runtime", byteOffset := 0 }, { name := "concrete", type := 17, offset := 1, embedded := false, tag := "", pkgPath := "runtime", byteOffset := 8 }, { name := "asserted", type := 17, offset := 2, embedded := false, tag := "", pkgPath := "runtime", byteOffset := 16 }, { name := "missingMethod", type := 9, offset := 3, embedded := false, tag := "", pkgPath := "runtime", byteOffset := 24 }], size := 4, bytes := 40, zero := .agg #[.pointer none, .pointer none, .pointer none, .string .empty] }
  | 53 => some { under := .struct #[{ name := "_interface", type := 17, offset := 0, embedded := false, tag := "", pkgPath := "runtime", byteOffset := 0 }, { name := "concrete", type := 17, offset := 1, embedded := false, tag := "", pkgPath := "runtime", byteOffset := 8 }, { name := "asserted", type := 17, offset := 2, embedded := false, tag := "", pkgPath := "runtime", byteOffset := 16 }, { name := "missingMethod", type := 9, offset := 3, embedded := false, tag := "", pkgPath := "runtime", byteOffset := 24 }], size := 4, bytes := 40, zero := .agg #[.pointer none, .pointer none, .pointer none, .string .empty] }
  | 54 => some { under := .array 0 16, size := 0, bytes := 0, zero := .agg #[] }
  | 55 => some { under := .struct #[{ name := "_", type := 54, offset := 0, embedded := false, tag := "", pkgPath := "runtime", byteOffset := 0 }], size := 0, bytes := 0, zero := .agg #[] }
  | 56 => some { under := .struct #[{ name := "_", type := 54, offset := 0, embedded := false, tag := "", pkgPath := "runtime", byteOffset := 0 }], size := 0, bytes := 0, zero := .agg #[] }
  | 57 => some { under := .func #[] #[3] false, size := 1, bytes := 8, zero := .nilFunc }
  | 58 => some { under := .int .u32, size := 1, bytes := 4, zero := .int .u32 0 }
  | 59 => some { under := .int .u8, size := 1, bytes := 1, zero := .int .u8 0 }
  | 60 => some { under := .int .u8, size := 1, bytes := 1, zero := .int .u8 0 }
  | 61 => some { under := .func #[67, 67] #[4] false, size := 1, bytes := 8, zero := .nilFunc }
  | 62 => some { under := .pointer 5, size := 1, bytes := 8, zero := .pointer none }
  | 63 => some { under := .int .i32, size := 1, bytes := 4, zero := .int .i32 0 }
  | 64 => some { under := .int .i32, size := 1, bytes := 4, zero := .int .i32 0 }
  | 65 => some { under := .struct #[{ name := "Size_", type := 12, offset := 0, embedded := false, tag := "", pkgPath := "", byteOffset := 0 }, { name := "PtrBytes", type := 12, offset := 1, embedded := false, tag := "", pkgPath := "", byteOffset := 8 }, { name := "Hash", type := 58, offset := 2, embedded := false, tag := "", pkgPath := "", byteOffset := 16 }, { name := "TFlag", type := 59, offset := 3, embedded := false, tag := "", pkgPath := "", byteOffset := 20 }, { name := "Align_", type := 5, offset := 4, embedded := false, tag := "", pkgPath := "", byteOffset := 21 }, { name := "FieldAlign_", type := 5, offset := 5, embedded := false, tag := "", pkgPath := "", byteOffset := 22 }, { name := "Kind_", type := 60, offset := 6, embedded := false, tag := "", pkgPath := "", byteOffset := 23 }, { name := "Equal", type := 61, offset := 7, embedded := false, tag := "", pkgPath := "", byteOffset := 24 }, { name := "GCData", type := 62, offset := 8, embedded := false, tag := "", pkgPath := "", byteOffset := 32 }, { name := "Str", type := 63, offset := 9, embedded := false, tag := "", pkgPath := "", byteOffset := 40 }, { name := "PtrToThis", type := 64, offset := 10, embedded := false, tag := "", pkgPath := "", byteOffset := 44 }], size := 11, bytes := 48, zero := .agg #[.int .u64 0, .int .u64 0, .int .u32 0, .int .u8 0, .int .u8 0, .int .u8 0, .int .u8 0, .nilFunc, .pointer none, .int .i32 0, .int .i32 0] }
  | 66 => some { under := .struct #[{ name := "Size_", type := 12, offset := 0, embedded := false, tag := "", pkgPath := "", byteOffset := 0 }, { name := "PtrBytes", type := 12, offset := 1, embedded := false, tag := "", pkgPath := "", byteOffset := 8 }, { name := "Hash", type := 58, offset := 2, embedded := false, tag := "", pkgPath := "", byteOffset := 16 }, { name := "TFlag", type := 59, offset := 3, embedded := false, tag := "", pkgPath := "", byteOffset := 20 }, { name := "Align_", type := 5, offset := 4, embedded := false, tag := "", pkgPath := "", byteOffset := 21 }, { name := "FieldAlign_", type := 5, offset := 5, embedded := false, tag := "", pkgPath := "", byteOffset := 22 }, { name := "Kind_", type := 60, offset := 6, embedded := false, tag := "", pkgPath := "", byteOffset := 23 }, { name := "Equal", type := 61, offset := 7, embedded := false, tag := "", pkgPath := "", byteOffset := 24 }, { name := "GCData", type := 62, offset := 8, embedded := false, tag := "", pkgPath := "", byteOffset := 32 }, { name := "Str", type := 63, offset := 9, embedded := false, tag := "", pkgPath := "", byteOffset := 40 }, { name := "PtrToThis", type := 64, offset := 10, embedded := false, tag := "", pkgPath := "", byteOffset := 44 }], size := 11, bytes := 48, zero := .agg #[.int .u64 0, .int .u64 0, .int .u32 0, .int .u8 0, .int .u8 0, .int .u8 0, .int .u8 0, .nilFunc, .pointer none, .int .i32 0, .int .i32 0] }
  | 67 => some { under := .unsafePointer, size := 1, bytes := 8, zero := .pointer none }
  | _ => none

theorem tab_1 : tab 1 = some { under := .func #[] #[] false, size := 1, bytes := 8, zero := .nilFunc } := rfl
theorem tab_2 : tab 2 = some { under := .int .i64, size := 1, bytes := 8, zero := .int .i64 0 } := rfl
theorem tab_3 : tab 3 = some { under := .int .i64, size := 1, bytes := 8, zero := .int .i64 0 } := rfl
theorem tab_4 : tab 4 = some { under := .bool, size := 1, bytes := 1, zero := .bool false } := rfl
theorem tab_5 : tab 5 = some { under := .int .u8, size := 1, bytes := 1, zero := .int .u8 0 } := rfl
theorem tab_6 : tab 6 = some { under := .int .u8, size := 1, bytes := 1, zero := .int .u8 0 } := rfl
theorem tab_7 : tab 7 = some { under := .struct #[{ name := "x", type := 2, offset := 0, embedded := false, tag := "", pkgPath := "runtime", byteOffset := 0 }, { name := "y", type := 3, offset := 1, embedded := false, tag := "", pkgPath := "runtime", byteOffset := 8 }, { name := "signed", type := 4, offset := 2, embedded := false, tag := "", pkgPath := "runtime", byteOffset := 16 }, { name := "code", type := 6, offset := 3, embedded := false, tag := "", pkgPath := "runtime", byteOffset := 17 }], size := 4, bytes := 24, zero := .agg #[.int .i64 0, .int .i64 0, .bool false, .int .u8 0] } := rfl
theorem tab_8 : tab 8 = some { under := .struct #[{ name := "x", type := 2, offset := 0, embedded := false, tag := "", pkgPath := "runtime", byteOffset := 0 }, { name := "y", type := 3, offset := 1, embedded := false, tag := "", pkgPath := "runtime", byteOffset := 8 }, { name := "signed", type := 4, offset := 2, embedded := false, tag := "", pkgPath := "runtime", byteOffset := 16 }, { name := "code", type := 6, offset := 3, embedded := false, tag := "", pkgPath := "runtime", byteOffset := 17 }], size := 4, bytes := 24, zero := .agg #[.int .i64 0, .int .i64 0, .bool false, .int .u8 0] } := rfl
theorem tab_9 : tab 9 = some { under := .string, size := 1, bytes := 16, zero := .string .empty } := rfl
theorem tab_10 : tab 10 = some { under := .string, size := 1, bytes := 16, zero := .string .empty } := rfl
theorem tab_11 : tab 11 = some { under := .string, size := 1, bytes := 16, zero := .string .empty } := rfl
theorem tab_12 : tab 12 = some { under := .int .u64, size := 1, bytes := 8, zero := .int .u64 0 } := rfl
theorem tab_13 : tab 13 = some { under := .struct #[{ name := "msg", type := 9, offset := 0, embedded := false, tag := "", pkgPath := "runtime", byteOffset := 0 }, { name := "addr", type := 12, offset := 1, embedded := false, tag := "", pkgPath := "runtime", byteOffset := 16 }], size := 2, bytes := 24, zero := .agg #[.string .empty, .int .u64 0] } := rfl
theorem tab_14 : tab 14 = some { under := .struct #[{ name := "msg", type := 9, offset := 0, embedded := false, tag := "", pkgPath := "runtime", byteOffset := 0 }, { name := "addr", type := 12, offset := 1, embedded := false, tag := "", pkgPath := "runtime", byteOffset := 16 }], size := 2, bytes := 24, zero := .agg #[.string .empty, .int .u64 0] } := rfl
theorem tab_15 : tab 15 = some { under := .pointer 53, size := 1, bytes := 8, zero := .pointer none } := rfl
theorem tab_16 : tab 16 = some { under := .pointer 56, size := 1, bytes := 8, zero := .pointer none } := rfl
theorem tab_17 : tab 17 = some { under := .pointer 66, size := 1, bytes := 8, zero := .pointer none } := rfl
theorem tab_18 : tab 18 = some { under := .struct #[{ name := "typ", type := 17, offset := 0, embedded := false, tag := "", pkgPath := "internal/runtime/maps", byteOffset := 0 }], size := 1, bytes := 8, zero := .agg #[.pointer none] } := rfl
theorem tab_19 : tab 19 = some { under := .struct #[{ name := "typ", type := 17, offset := 0, embedded := false, tag := "", pkgPath := "internal/runtime/maps", byteOffset := 0 }], size := 1, bytes := 8, zero := .agg #[.pointer none] } := rfl
theorem tab_21 : tab 21 = some { under := .int .i32, size := 1, bytes := 4, zero := .int .i32 0 } := rfl
theorem tab_22 : tab 22 = some { under := .slice 3, size := 1, bytes := 24, zero := .slice none 0 0 } := rfl
theorem tab_23 : tab 23 = some { under := .func #[] #[4] false, size := 1, bytes := 8, zero := .nilFunc } := rfl
theorem tab_24 : tab 24 = some { under := .struct #[{ name := "Core", type := 22, offset := 0, embedded := false, tag := "", pkgPath := "", byteOffset := 0 }, { name := "Most", type := 3, offset := 1, embedded := false, tag := "", pkgPath := "", byteOffset := 24 }], size := 2, bytes := 32, zero := .agg #[.slice none 0 0, .int .i64 0] } := rfl
theorem tab_25 : tab 25 = some { under := .struct #[{ name := "Core", type := 22, offset := 0, embedded := false, tag := "", pkgPath := "", byteOffset := 0 }, { name := "Most", type := 3, offset := 1, embedded := false, tag := "", pkgPath := "", byteOffset := 24 }], size := 2, bytes := 32, zero := .agg #[.slice none 0 0, .int .i64 0] } := rfl
theorem tab_26 : tab 26 = some { under := .int .i64, size := 1, bytes := 8, zero := .int .i64 0 } := rfl
theorem tab_28 : tab 28 = some { under := .func #[22, 3] #[25, 26] false, size := 1, bytes := 8, zero := .nilFunc } := rfl
theorem tab_29 : tab 29 = some { under := .func #[22, 3] #[26] false, size := 1, bytes := 8, zero := .nilFunc } := rfl
theorem tab_30 : tab 30 = some { under := .func #[22] #[3] false, size := 1, bytes := 8, zero := .nilFunc } := rfl
theorem tab_32 : tab 32 = some { under := .func #[22, 3] #[3, 26] false, size := 1, bytes := 8, zero := .nilFunc } := rfl
theorem tab_33 : tab 33 = some { under := .func #[22, 3] #[4] false, size := 1, bytes := 8, zero := .nilFunc } := rfl
theorem tab_34 : tab 34 = some { under := .slice 28, size := 1, bytes := 24, zero := .slice none 0 0 } := rfl
theorem tab_35 : tab 35 = some { under := .func #[22] #[22] false, size := 1, bytes := 8, zero := .nilFunc } := rfl
theorem tab_36 : tab 36 = some { under := .func #[22] #[] false, size := 1, bytes := 8, zero := .nilFunc } := rfl
theorem tab_37 : tab 37 = some { under := .func #[22, 22] #[4] false, size := 1, bytes := 8, zero := .nilFunc } := rfl
theorem tab_38 : tab 38 = some { under := .func #[22, 3, 22] #[25] false, size := 1, bytes := 8, zero := .nilFunc } := rfl
theorem tab_39 : tab 39 = some { under := .func #[3] #[22] false, size := 1, bytes := 8, zero := .nilFunc } := rfl
theorem tab_40 : tab 40 = some { under := .func #[22, 41] #[4] false, size := 1, bytes := 8, zero := .nilFunc } := rfl
theorem tab_41 : tab 41 = some { under := .func #[3] #[4] false, size := 1, bytes := 8, zero := .nilFunc } := rfl
theorem tab_42 : tab 42 = some { under := .func #[3] #[] false, size := 1, bytes := 8, zero := .nilFunc } := rfl
theorem tab_43 : tab 43 = some { under := .func #[22, 44] #[] false, size := 1, bytes := 8, zero := .nilFunc } := rfl
theorem tab_44 : tab 44 = some { under := .func #[3, 3] #[3] false, size := 1, bytes := 8, zero := .nilFunc } := rfl
theorem tab_45 : tab 45 = some { under := .func #[22, 41] #[3] false, size := 1, bytes := 8, zero := .nilFunc } := rfl
theorem tab_46 : tab 46 = some { under := .func #[22, 3, 44] #[] false, size := 1, bytes := 8, zero := .nilFunc } := rfl
theorem tab_47 : tab 47 = some { under := .func #[22, 3] #[3] false, size := 1, bytes := 8, zero := .nilFunc } := rfl
theorem tab_48 : tab 48 = some { under := .func #[22, 3, 3, 44] #[] false, size := 1, bytes := 8, zero := .nilFunc } := rfl
theorem tab_49 : tab 49 = some { under := .func #[22, 3, 3, 3, 44] #[] false, size := 1, bytes := 8, zero := .nilFunc } := rfl
theorem tab_50 : tab 50 = some { under := .int .u64, size := 1, bytes := 8, zero := .int .u64 0 } := rfl
theorem tab_51 : tab 51 = some { under := .func #[] #[9] false, size := 1, bytes := 8, zero := .nilFunc } := rfl
theorem tab_52 : tab 52 = some { under := .struct #[{ name := "_interface", type := 17, offset := 0, embedded := false, tag := "", pkgPath := "runtime", byteOffset := 0 }, { name := "concrete", type := 17, offset := 1, embedded := false, tag := "", pkgPath := "runtime", byteOffset := 8 }, { name := "asserted", type := 17, offset := 2, embedded := false, tag := "", pkgPath := "runtime", byteOffset := 16 }, { name := "missingMethod", type := 9, offset := 3, embedded := false, tag := "", pkgPath := "runtime", byteOffset := 24 }], size := 4, bytes := 40, zero := .agg #[.pointer none, .pointer none, .pointer none, .string .empty] } := rfl
theorem tab_53 : tab 53 = some { under := .struct #[{ name := "_interface", type := 17, offset := 0, embedded := false, tag := "", pkgPath := "runtime", byteOffset := 0 }, { name := "concrete", type := 17, offset := 1, embedded := false, tag := "", pkgPath := "runtime", byteOffset := 8 }, { name := "asserted", type := 17, offset := 2, embedded := false, tag := "", pkgPath := "runtime", byteOffset := 16 }, { name := "missingMethod", type := 9, offset := 3, embedded := false, tag := "", pkgPath := "runtime", byteOffset := 24 }], size := 4, bytes := 40, zero := .agg #[.pointer none, .pointer none, .pointer none, .string .empty] } := rfl
theorem tab_54 : tab 54 = some { under := .array 0 16, size := 0, bytes := 0, zero := .agg #[] } := rfl
theorem tab_55 : tab 55 = some { under := .struct #[{ name := "_", type := 54, offset := 0, embedded := false, tag := "", pkgPath := "runtime", byteOffset := 0 }], size := 0, bytes := 0, zero := .agg #[] } := rfl
theorem tab_56 : tab 56 = some { under := .struct #[{ name := "_", type := 54, offset := 0, embedded := false, tag := "", pkgPath := "runtime", byteOffset := 0 }], size := 0, bytes := 0, zero := .agg #[] } := rfl
theorem tab_57 : tab 57 = some { under := .func #[] #[3] false, size := 1, bytes := 8, zero := .nilFunc } := rfl
theorem tab_58 : tab 58 = some { under := .int .u32, size := 1, bytes := 4, zero := .int .u32 0 } := rfl
theorem tab_59 : tab 59 = some { under := .int .u8, size := 1, bytes := 1, zero := .int .u8 0 } := rfl
theorem tab_60 : tab 60 = some { under := .int .u8, size := 1, bytes := 1, zero := .int .u8 0 } := rfl
theorem tab_61 : tab 61 = some { under := .func #[67, 67] #[4] false, size := 1, bytes := 8, zero := .nilFunc } := rfl
theorem tab_62 : tab 62 = some { under := .pointer 5, size := 1, bytes := 8, zero := .pointer none } := rfl
theorem tab_63 : tab 63 = some { under := .int .i32, size := 1, bytes := 4, zero := .int .i32 0 } := rfl
theorem tab_64 : tab 64 = some { under := .int .i32, size := 1, bytes := 4, zero := .int .i32 0 } := rfl
theorem tab_65 : tab 65 = some { under := .struct #[{ name := "Size_", type := 12, offset := 0, embedded := false, tag := "", pkgPath := "", byteOffset := 0 }, { name := "PtrBytes", type := 12, offset := 1, embedded := false, tag := "", pkgPath := "", byteOffset := 8 }, { name := "Hash", type := 58, offset := 2, embedded := false, tag := "", pkgPath := "", byteOffset := 16 }, { name := "TFlag", type := 59, offset := 3, embedded := false, tag := "", pkgPath := "", byteOffset := 20 }, { name := "Align_", type := 5, offset := 4, embedded := false, tag := "", pkgPath := "", byteOffset := 21 }, { name := "FieldAlign_", type := 5, offset := 5, embedded := false, tag := "", pkgPath := "", byteOffset := 22 }, { name := "Kind_", type := 60, offset := 6, embedded := false, tag := "", pkgPath := "", byteOffset := 23 }, { name := "Equal", type := 61, offset := 7, embedded := false, tag := "", pkgPath := "", byteOffset := 24 }, { name := "GCData", type := 62, offset := 8, embedded := false, tag := "", pkgPath := "", byteOffset := 32 }, { name := "Str", type := 63, offset := 9, embedded := false, tag := "", pkgPath := "", byteOffset := 40 }, { name := "PtrToThis", type := 64, offset := 10, embedded := false, tag := "", pkgPath := "", byteOffset := 44 }], size := 11, bytes := 48, zero := .agg #[.int .u64 0, .int .u64 0, .int .u32 0, .int .u8 0, .int .u8 0, .int .u8 0, .int .u8 0, .nilFunc, .pointer none, .int .i32 0, .int .i32 0] } := rfl
theorem tab_66 : tab 66 = some { under := .struct #[{ name := "Size_", type := 12, offset := 0, embedded := false, tag := "", pkgPath := "", byteOffset := 0 }, { name := "PtrBytes", type := 12, offset := 1, embedded := false, tag := "", pkgPath := "", byteOffset := 8 }, { name := "Hash", type := 58, offset := 2, embedded := false, tag := "", pkgPath := "", byteOffset := 16 }, { name := "TFlag", type := 59, offset := 3, embedded := false, tag := "", pkgPath := "", byteOffset := 20 }, { name := "Align_", type := 5, offset := 4, embedded := false, tag := "", pkgPath := "", byteOffset := 21 }, { name := "FieldAlign_", type := 5, offset := 5, embedded := false, tag := "", pkgPath := "", byteOffset := 22 }, { name := "Kind_", type := 60, offset := 6, embedded := false, tag := "", pkgPath := "", byteOffset := 23 }, { name := "Equal", type := 61, offset := 7, embedded := false, tag := "", pkgPath := "", byteOffset := 24 }, { name := "GCData", type := 62, offset := 8, embedded := false, tag := "", pkgPath := "", byteOffset := 32 }, { name := "Str", type := 63, offset := 9, embedded := false, tag := "", pkgPath := "", byteOffset := 40 }, { name := "PtrToThis", type := 64, offset := 10, embedded := false, tag := "", pkgPath := "", byteOffset := 44 }], size := 11, bytes := 48, zero := .agg #[.int .u64 0, .int .u64 0, .int .u32 0, .int .u8 0, .int .u8 0, .int .u8 0, .int .u8 0, .nilFunc, .pointer none, .int .i32 0, .int .i32 0] } := rfl
theorem tab_67 : tab 67 = some { under := .unsafePointer, size := 1, bytes := 8, zero := .pointer none } := rfl

theorem info_1 : (Try.prog.info? 1).map (fun i => (i.zero, i.size, i.bytes)) = some (some (.nilFunc), 1, 8) := by kernel_rfl
theorem info_2 : (Try.prog.info? 2).map (fun i => (i.zero, i.size, i.bytes)) = some (some (.int .i64 0), 1, 8) := by kernel_rfl
theorem info_3 : (Try.prog.info? 3).map (fun i => (i.zero, i.size, i.bytes)) = some (some (.int .i64 0), 1, 8) := by kernel_rfl
theorem info_4 : (Try.prog.info? 4).map (fun i => (i.zero, i.size, i.bytes)) = some (some (.bool false), 1, 1) := by kernel_rfl
theorem info_5 : (Try.prog.info? 5).map (fun i => (i.zero, i.size, i.bytes)) = some (some (.int .u8 0), 1, 1) := by kernel_rfl
theorem info_6 : (Try.prog.info? 6).map (fun i => (i.zero, i.size, i.bytes)) = some (some (.int .u8 0), 1, 1) := by kernel_rfl
theorem info_7 : (Try.prog.info? 7).map (fun i => (i.zero, i.size, i.bytes)) = some (some (.agg #[.int .i64 0, .int .i64 0, .bool false, .int .u8 0]), 4, 24) := by kernel_rfl
theorem info_8 : (Try.prog.info? 8).map (fun i => (i.zero, i.size, i.bytes)) = some (some (.agg #[.int .i64 0, .int .i64 0, .bool false, .int .u8 0]), 4, 24) := by kernel_rfl
theorem info_9 : (Try.prog.info? 9).map (fun i => (i.zero, i.size, i.bytes)) = some (some (.string .empty), 1, 16) := by kernel_rfl
theorem info_10 : (Try.prog.info? 10).map (fun i => (i.zero, i.size, i.bytes)) = some (some (.string .empty), 1, 16) := by kernel_rfl
theorem info_11 : (Try.prog.info? 11).map (fun i => (i.zero, i.size, i.bytes)) = some (some (.string .empty), 1, 16) := by kernel_rfl
theorem info_12 : (Try.prog.info? 12).map (fun i => (i.zero, i.size, i.bytes)) = some (some (.int .u64 0), 1, 8) := by kernel_rfl
theorem info_13 : (Try.prog.info? 13).map (fun i => (i.zero, i.size, i.bytes)) = some (some (.agg #[.string .empty, .int .u64 0]), 2, 24) := by kernel_rfl
theorem info_14 : (Try.prog.info? 14).map (fun i => (i.zero, i.size, i.bytes)) = some (some (.agg #[.string .empty, .int .u64 0]), 2, 24) := by kernel_rfl
theorem info_15 : (Try.prog.info? 15).map (fun i => (i.zero, i.size, i.bytes)) = some (some (.pointer none), 1, 8) := by kernel_rfl
theorem info_16 : (Try.prog.info? 16).map (fun i => (i.zero, i.size, i.bytes)) = some (some (.pointer none), 1, 8) := by kernel_rfl
theorem info_17 : (Try.prog.info? 17).map (fun i => (i.zero, i.size, i.bytes)) = some (some (.pointer none), 1, 8) := by kernel_rfl
theorem info_18 : (Try.prog.info? 18).map (fun i => (i.zero, i.size, i.bytes)) = some (some (.agg #[.pointer none]), 1, 8) := by kernel_rfl
theorem info_19 : (Try.prog.info? 19).map (fun i => (i.zero, i.size, i.bytes)) = some (some (.agg #[.pointer none]), 1, 8) := by kernel_rfl
theorem info_21 : (Try.prog.info? 21).map (fun i => (i.zero, i.size, i.bytes)) = some (some (.int .i32 0), 1, 4) := by kernel_rfl
theorem info_22 : (Try.prog.info? 22).map (fun i => (i.zero, i.size, i.bytes)) = some (some (.slice none 0 0), 1, 24) := by kernel_rfl
theorem info_23 : (Try.prog.info? 23).map (fun i => (i.zero, i.size, i.bytes)) = some (some (.nilFunc), 1, 8) := by kernel_rfl
theorem info_24 : (Try.prog.info? 24).map (fun i => (i.zero, i.size, i.bytes)) = some (some (.agg #[.slice none 0 0, .int .i64 0]), 2, 32) := by kernel_rfl
theorem info_25 : (Try.prog.info? 25).map (fun i => (i.zero, i.size, i.bytes)) = some (some (.agg #[.slice none 0 0, .int .i64 0]), 2, 32) := by kernel_rfl
theorem info_26 : (Try.prog.info? 26).map (fun i => (i.zero, i.size, i.bytes)) = some (some (.int .i64 0), 1, 8) := by kernel_rfl
theorem info_28 : (Try.prog.info? 28).map (fun i => (i.zero, i.size, i.bytes)) = some (some (.nilFunc), 1, 8) := by kernel_rfl
theorem info_29 : (Try.prog.info? 29).map (fun i => (i.zero, i.size, i.bytes)) = some (some (.nilFunc), 1, 8) := by kernel_rfl
theorem info_30 : (Try.prog.info? 30).map (fun i => (i.zero, i.size, i.bytes)) = some (some (.nilFunc), 1, 8) := by kernel_rfl
theorem info_32 : (Try.prog.info? 32).map (fun i => (i.zero, i.size, i.bytes)) = some (some (.nilFunc), 1, 8) := by kernel_rfl
theorem info_33 : (Try.prog.info? 33).map (fun i => (i.zero, i.size, i.bytes)) = some (some (.nilFunc), 1, 8) := by kernel_rfl
theorem info_34 : (Try.prog.info? 34).map (fun i => (i.zero, i.size, i.bytes)) = some (some (.slice none 0 0), 1, 24) := by kernel_rfl
theorem info_35 : (Try.prog.info? 35).map (fun i => (i.zero, i.size, i.bytes)) = some (some (.nilFunc), 1, 8) := by kernel_rfl
theorem info_36 : (Try.prog.info? 36).map (fun i => (i.zero, i.size, i.bytes)) = some (some (.nilFunc), 1, 8) := by kernel_rfl
theorem info_37 : (Try.prog.info? 37).map (fun i => (i.zero, i.size, i.bytes)) = some (some (.nilFunc), 1, 8) := by kernel_rfl
theorem info_38 : (Try.prog.info? 38).map (fun i => (i.zero, i.size, i.bytes)) = some (some (.nilFunc), 1, 8) := by kernel_rfl
theorem info_39 : (Try.prog.info? 39).map (fun i => (i.zero, i.size, i.bytes)) = some (some (.nilFunc), 1, 8) := by kernel_rfl
theorem info_40 : (Try.prog.info? 40).map (fun i => (i.zero, i.size, i.bytes)) = some (some (.nilFunc), 1, 8) := by kernel_rfl
theorem info_41 : (Try.prog.info? 41).map (fun i => (i.zero, i.size, i.bytes)) = some (some (.nilFunc), 1, 8) := by kernel_rfl
theorem info_42 : (Try.prog.info? 42).map (fun i => (i.zero, i.size, i.bytes)) = some (some (.nilFunc), 1, 8) := by kernel_rfl
theorem info_43 : (Try.prog.info? 43).map (fun i => (i.zero, i.size, i.bytes)) = some (some (.nilFunc), 1, 8) := by kernel_rfl
theorem info_44 : (Try.prog.info? 44).map (fun i => (i.zero, i.size, i.bytes)) = some (some (.nilFunc), 1, 8) := by kernel_rfl
theorem info_45 : (Try.prog.info? 45).map (fun i => (i.zero, i.size, i.bytes)) = some (some (.nilFunc), 1, 8) := by kernel_rfl
theorem info_46 : (Try.prog.info? 46).map (fun i => (i.zero, i.size, i.bytes)) = some (some (.nilFunc), 1, 8) := by kernel_rfl
theorem info_47 : (Try.prog.info? 47).map (fun i => (i.zero, i.size, i.bytes)) = some (some (.nilFunc), 1, 8) := by kernel_rfl
theorem info_48 : (Try.prog.info? 48).map (fun i => (i.zero, i.size, i.bytes)) = some (some (.nilFunc), 1, 8) := by kernel_rfl
theorem info_49 : (Try.prog.info? 49).map (fun i => (i.zero, i.size, i.bytes)) = some (some (.nilFunc), 1, 8) := by kernel_rfl
theorem info_50 : (Try.prog.info? 50).map (fun i => (i.zero, i.size, i.bytes)) = some (some (.int .u64 0), 1, 8) := by kernel_rfl
theorem info_51 : (Try.prog.info? 51).map (fun i => (i.zero, i.size, i.bytes)) = some (some (.nilFunc), 1, 8) := by kernel_rfl
theorem info_52 : (Try.prog.info? 52).map (fun i => (i.zero, i.size, i.bytes)) = some (some (.agg #[.pointer none, .pointer none, .pointer none, .string .empty]), 4, 40) := by kernel_rfl
theorem info_53 : (Try.prog.info? 53).map (fun i => (i.zero, i.size, i.bytes)) = some (some (.agg #[.pointer none, .pointer none, .pointer none, .string .empty]), 4, 40) := by kernel_rfl
theorem info_54 : (Try.prog.info? 54).map (fun i => (i.zero, i.size, i.bytes)) = some (some (.agg #[]), 0, 0) := by kernel_rfl
theorem info_55 : (Try.prog.info? 55).map (fun i => (i.zero, i.size, i.bytes)) = some (some (.agg #[]), 0, 0) := by kernel_rfl
theorem info_56 : (Try.prog.info? 56).map (fun i => (i.zero, i.size, i.bytes)) = some (some (.agg #[]), 0, 0) := by kernel_rfl
theorem info_57 : (Try.prog.info? 57).map (fun i => (i.zero, i.size, i.bytes)) = some (some (.nilFunc), 1, 8) := by kernel_rfl
theorem info_58 : (Try.prog.info? 58).map (fun i => (i.zero, i.size, i.bytes)) = some (some (.int .u32 0), 1, 4) := by kernel_rfl
theorem info_59 : (Try.prog.info? 59).map (fun i => (i.zero, i.size, i.bytes)) = some (some (.int .u8 0), 1, 1) := by kernel_rfl
theorem info_60 : (Try.prog.info? 60).map (fun i => (i.zero, i.size, i.bytes)) = some (some (.int .u8 0), 1, 1) := by kernel_rfl
theorem info_61 : (Try.prog.info? 61).map (fun i => (i.zero, i.size, i.bytes)) = some (some (.nilFunc), 1, 8) := by kernel_rfl
theorem info_62 : (Try.prog.info? 62).map (fun i => (i.zero, i.size, i.bytes)) = some (some (.pointer none), 1, 8) := by kernel_rfl
theorem info_63 : (Try.prog.info? 63).map (fun i => (i.zero, i.size, i.bytes)) = some (some (.int .i32 0), 1, 4) := by kernel_rfl
theorem info_64 : (Try.prog.info? 64).map (fun i => (i.zero, i.size, i.bytes)) = some (some (.int .i32 0), 1, 4) := by kernel_rfl
theorem info_65 : (Try.prog.info? 65).map (fun i => (i.zero, i.size, i.bytes)) = some (some (.agg #[.int .u64 0, .int .u64 0, .int .u32 0, .int .u8 0, .int .u8 0, .int .u8 0, .int .u8 0, .nilFunc, .pointer none, .int .i32 0, .int .i32 0]), 11, 48) := by kernel_rfl
theorem info_66 : (Try.prog.info? 66).map (fun i => (i.zero, i.size, i.bytes)) = some (some (.agg #[.int .u64 0, .int .u64 0, .int .u32 0, .int .u8 0, .int .u8 0, .int .u8 0, .int .u8 0, .nilFunc, .pointer none, .int .i32 0, .int .i32 0]), 11, 48) := by kernel_rfl
theorem info_67 : (Try.prog.info? 67).map (fun i => (i.zero, i.size, i.bytes)) = some (some (.pointer none), 1, 8) := by kernel_rfl

theorem tabOk : Go.Ab.TabOk Try.prog tab := by
  intro t i h
  unfold tab at h
  split at h
  · cases h; exact Go.Ab.tabRow Try.underlying1 info_1
  · cases h; exact Go.Ab.tabRow Try.underlying2 info_2
  · cases h; exact Go.Ab.tabRow Try.underlying3 info_3
  · cases h; exact Go.Ab.tabRow Try.underlying4 info_4
  · cases h; exact Go.Ab.tabRow Try.underlying5 info_5
  · cases h; exact Go.Ab.tabRow Try.underlying6 info_6
  · cases h; exact Go.Ab.tabRow Try.underlying7 info_7
  · cases h; exact Go.Ab.tabRow Try.underlying8 info_8
  · cases h; exact Go.Ab.tabRow Try.underlying9 info_9
  · cases h; exact Go.Ab.tabRow Try.underlying10 info_10
  · cases h; exact Go.Ab.tabRow Try.underlying11 info_11
  · cases h; exact Go.Ab.tabRow Try.underlying12 info_12
  · cases h; exact Go.Ab.tabRow Try.underlying13 info_13
  · cases h; exact Go.Ab.tabRow Try.underlying14 info_14
  · cases h; exact Go.Ab.tabRow Try.underlying15 info_15
  · cases h; exact Go.Ab.tabRow Try.underlying16 info_16
  · cases h; exact Go.Ab.tabRow Try.underlying17 info_17
  · cases h; exact Go.Ab.tabRow Try.underlying18 info_18
  · cases h; exact Go.Ab.tabRow Try.underlying19 info_19
  · cases h; exact Go.Ab.tabRow Try.underlying21 info_21
  · cases h; exact Go.Ab.tabRow Try.underlying22 info_22
  · cases h; exact Go.Ab.tabRow Try.underlying23 info_23
  · cases h; exact Go.Ab.tabRow Try.underlying24 info_24
  · cases h; exact Go.Ab.tabRow Try.underlying25 info_25
  · cases h; exact Go.Ab.tabRow Try.underlying26 info_26
  · cases h; exact Go.Ab.tabRow Try.underlying28 info_28
  · cases h; exact Go.Ab.tabRow Try.underlying29 info_29
  · cases h; exact Go.Ab.tabRow Try.underlying30 info_30
  · cases h; exact Go.Ab.tabRow Try.underlying32 info_32
  · cases h; exact Go.Ab.tabRow Try.underlying33 info_33
  · cases h; exact Go.Ab.tabRow Try.underlying34 info_34
  · cases h; exact Go.Ab.tabRow Try.underlying35 info_35
  · cases h; exact Go.Ab.tabRow Try.underlying36 info_36
  · cases h; exact Go.Ab.tabRow Try.underlying37 info_37
  · cases h; exact Go.Ab.tabRow Try.underlying38 info_38
  · cases h; exact Go.Ab.tabRow Try.underlying39 info_39
  · cases h; exact Go.Ab.tabRow Try.underlying40 info_40
  · cases h; exact Go.Ab.tabRow Try.underlying41 info_41
  · cases h; exact Go.Ab.tabRow Try.underlying42 info_42
  · cases h; exact Go.Ab.tabRow Try.underlying43 info_43
  · cases h; exact Go.Ab.tabRow Try.underlying44 info_44
  · cases h; exact Go.Ab.tabRow Try.underlying45 info_45
  · cases h; exact Go.Ab.tabRow Try.underlying46 info_46
  · cases h; exact Go.Ab.tabRow Try.underlying47 info_47
  · cases h; exact Go.Ab.tabRow Try.underlying48 info_48
  · cases h; exact Go.Ab.tabRow Try.underlying49 info_49
  · cases h; exact Go.Ab.tabRow Try.underlying50 info_50
  · cases h; exact Go.Ab.tabRow Try.underlying51 info_51
  · cases h; exact Go.Ab.tabRow Try.underlying52 info_52
  · cases h; exact Go.Ab.tabRow Try.underlying53 info_53
  · cases h; exact Go.Ab.tabRow Try.underlying54 info_54
  · cases h; exact Go.Ab.tabRow Try.underlying55 info_55
  · cases h; exact Go.Ab.tabRow Try.underlying56 info_56
  · cases h; exact Go.Ab.tabRow Try.underlying57 info_57
  · cases h; exact Go.Ab.tabRow Try.underlying58 info_58
  · cases h; exact Go.Ab.tabRow Try.underlying59 info_59
  · cases h; exact Go.Ab.tabRow Try.underlying60 info_60
  · cases h; exact Go.Ab.tabRow Try.underlying61 info_61
  · cases h; exact Go.Ab.tabRow Try.underlying62 info_62
  · cases h; exact Go.Ab.tabRow Try.underlying63 info_63
  · cases h; exact Go.Ab.tabRow Try.underlying64 info_64
  · cases h; exact Go.Ab.tabRow Try.underlying65 info_65
  · cases h; exact Go.Ab.tabRow Try.underlying66 info_66
  · cases h; exact Go.Ab.tabRow Try.underlying67 info_67
  · cases h

end Go.Proofs.Ytnbjjhhgpcpbgaa
