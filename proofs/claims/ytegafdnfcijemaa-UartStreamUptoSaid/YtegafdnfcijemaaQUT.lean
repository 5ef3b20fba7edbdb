/- The type table: printed by program. -/
import Derived.Test.YtegafdnfcijemaaRows
import Derived.Test.YtegafdnfcijemaaAbR
namespace Go.Proofs.Ytegafdnfcijemaa
def tab : Go.Ab.Tab := fun t => match t with
  | 2 => some { under := .int .i64, size := 1, bytes := 8, zero := .int .i64 0 }
  | 3 => some { under := .int .i64, size := 1, bytes := 8, zero := .int .i64 0 }
  | 4 => some { under := .bool, size := 1, bytes := 1, zero := .bool false }
  | 5 => some { under := .int .u8, size := 1, bytes := 1, zero := .int .u8 0 }
  | 6 => some { under := .int .u8, size := 1, bytes := 1, zero := .int .u8 0 }
  | 7 => some { under := .struct #[{ name := "x", type := 2, offset := 0, embedded := false, tag := "", pkgPath := "runtime", byteOffset := 0 }, { name := "y", type := 3, offset := 1, embedded := false, tag := "", pkgPath := "runtime", byteOffset := 8 }, { name := "signed", type := 4, offset := 2, embedded := false, tag := "", pkgPath := "runtime", byteOffset := 16 }, { name := "code", type := 6, offset := 3, embedded := false, tag := "", pkgPath := "runtime", byteOffset := 17 }], size := 4, bytes := 24, zero := .agg #[.int .i64 0, .int .i64 0, .bool false, .int .u8 0] }
  | 8 => some { under := .struct #[{ name := "x", type := 2, offset := 0, embedded := false, tag := "", pkgPath := "runtime", byteOffset := 0 }, { name := "y", type := 3, offset := 1, embedded := false, tag := "", pkgPath := "runtime", byteOffset := 8 }, { name := "signed", type := 4, offset := 2, embedded := false, tag := "", pkgPath := "runtime", byteOffset := 16 }, { name := "code", type := 6, offset := 3, embedded := false, tag := "", pkgPath := "runtime", byteOffset := 17 }], size := 4, bytes := 24, zero := .agg #[.int .i64 0, .int .i64 0, .bool false, .int .u8 0] }
  | 9 => some { under := .string, size := 1, bytes := 16, zero := .string .empty }
  | 10 => some { under := .string, size := 1, bytes := 16, zero := .string .empty }
  | 11 => some { under := .string, size := 1, bytes := 16, zero := .string .empty }
  | 12 => some { under := .int .u64, size := 1, bytes := 8, zero := .int .u64 0 }
  | 13 => some { under := .struct #[{ name := "msg", type := 9, offset := 0, embedded := false, tag := "", pkgPath := "runtime", byteOffset := 0 }, { name := "addr", type := 12, offset := 1, embedded := false, tag := "", pkgPath := "runtime", byteOffset := 16 }], size := 2, bytes := 24, zero := .agg #[.string .empty, .int .u64 0] }
  | 14 => some { under := .struct #[{ name := "msg", type := 9, offset := 0, embedded := false, tag := "", pkgPath := "runtime", byteOffset := 0 }, { name := "addr", type := 12, offset := 1, embedded := false, tag := "", pkgPath := "runtime", byteOffset := 16 }], size := 2, bytes := 24, zero := .agg #[.string .empty, .int .u64 0] }
  | 15 => some { under := .pointer 79, size := 1, bytes := 8, zero := .pointer none }
  | 16 => some { under := .pointer 82, size := 1, bytes := 8, zero := .pointer none }
  | 17 => some { under := .pointer 92, size := 1, bytes := 8, zero := .pointer none }
  | 18 => some { under := .struct #[{ name := "typ", type := 17, offset := 0, embedded := false, tag := "", pkgPath := "internal/runtime/maps", byteOffset := 0 }], size := 1, bytes := 8, zero := .agg #[.pointer none] }
  | 19 => some { under := .struct #[{ name := "typ", type := 17, offset := 0, embedded := false, tag := "", pkgPath := "internal/runtime/maps", byteOffset := 0 }], size := 1, bytes := 8, zero := .agg #[.pointer none] }
  | 21 => some { under := .int .i32, size := 1, bytes := 4, zero := .int .i32 0 }
  | 22 => some { under := .slice 67, size := 1, bytes := 24, zero := .slice none 0 0 }
  | 23 => some { under := .struct #[{ name := "On", type := 4, offset := 0, embedded := false, tag := "", pkgPath := "", byteOffset := 0 }, { name := "Kept", type := 22, offset := 1, embedded := false, tag := "", pkgPath := "", byteOffset := 8 }], size := 2, bytes := 32, zero := .agg #[.bool false, .slice none 0 0] }
  | 24 => some { under := .struct #[{ name := "On", type := 4, offset := 0, embedded := false, tag := "", pkgPath := "", byteOffset := 0 }, { name := "Kept", type := 22, offset := 1, embedded := false, tag := "", pkgPath := "", byteOffset := 8 }], size := 2, bytes := 32, zero := .agg #[.bool false, .slice none 0 0] }
  | 26 => some { under := .array 2 3, size := 2, bytes := 16, zero := .agg #[.int .i64 0, .int .i64 0], cmp := true }
  | 27 => some { under := .slice 26, size := 1, bytes := 24, zero := .slice none 0 0 }
  | 28 => some { under := .int .i64, size := 1, bytes := 8, zero := .int .i64 0 }
  | 33 => some { under := .slice 3, size := 1, bytes := 24, zero := .slice none 0 0 }
  | 34 => some { under := .slice 28, size := 1, bytes := 24, zero := .slice none 0 0 }
  | 42 => some { under := .slice 5, size := 1, bytes := 24, zero := .slice none 0 0 }
  | 43 => some { under := .struct #[{ name := "In", type := 42, offset := 0, embedded := false, tag := "", pkgPath := "", byteOffset := 0 }, { name := "Out", type := 42, offset := 1, embedded := false, tag := "", pkgPath := "", byteOffset := 24 }, { name := "Lost", type := 3, offset := 2, embedded := false, tag := "", pkgPath := "", byteOffset := 48 }, { name := "Asks", type := 4, offset := 3, embedded := false, tag := "", pkgPath := "", byteOffset := 56 }], size := 4, bytes := 64, zero := .agg #[.slice none 0 0, .slice none 0 0, .int .i64 0, .bool false] }
  | 44 => some { under := .struct #[{ name := "In", type := 42, offset := 0, embedded := false, tag := "", pkgPath := "", byteOffset := 0 }, { name := "Out", type := 42, offset := 1, embedded := false, tag := "", pkgPath := "", byteOffset := 24 }, { name := "Lost", type := 3, offset := 2, embedded := false, tag := "", pkgPath := "", byteOffset := 48 }, { name := "Asks", type := 4, offset := 3, embedded := false, tag := "", pkgPath := "", byteOffset := 56 }], size := 4, bytes := 64, zero := .agg #[.slice none 0 0, .slice none 0 0, .int .i64 0, .bool false] }
  | 45 => some { under := .struct #[{ name := "Kind", type := 3, offset := 0, embedded := false, tag := "", pkgPath := "", byteOffset := 0 }, { name := "Byte", type := 5, offset := 1, embedded := false, tag := "", pkgPath := "", byteOffset := 8 }], size := 2, bytes := 16, zero := .agg #[.int .i64 0, .int .u8 0], cmp := true }
  | 46 => some { under := .struct #[{ name := "Kind", type := 3, offset := 0, embedded := false, tag := "", pkgPath := "", byteOffset := 0 }, { name := "Byte", type := 5, offset := 1, embedded := false, tag := "", pkgPath := "", byteOffset := 8 }], size := 2, bytes := 16, zero := .agg #[.int .i64 0, .int .u8 0], cmp := true }
  | 52 => some { under := .struct #[{ name := "Num", type := 3, offset := 0, embedded := false, tag := "", pkgPath := "", byteOffset := 0 }, { name := "Den", type := 3, offset := 1, embedded := false, tag := "", pkgPath := "", byteOffset := 8 }], size := 2, bytes := 16, zero := .agg #[.int .i64 0, .int .i64 0], cmp := true }
  | 53 => some { under := .struct #[{ name := "Num", type := 3, offset := 0, embedded := false, tag := "", pkgPath := "", byteOffset := 0 }, { name := "Den", type := 3, offset := 1, embedded := false, tag := "", pkgPath := "", byteOffset := 8 }], size := 2, bytes := 16, zero := .agg #[.int .i64 0, .int .i64 0], cmp := true }
  | 60 => some { under := .slice 46, size := 1, bytes := 24, zero := .slice none 0 0 }
  | 66 => some { under := .struct #[{ name := "On", type := 4, offset := 0, embedded := false, tag := "", pkgPath := "", byteOffset := 0 }, { name := "Irq", type := 4, offset := 1, embedded := false, tag := "", pkgPath := "", byteOffset := 1 }], size := 2, bytes := 2, zero := .agg #[.bool false, .bool false], cmp := true }
  | 67 => some { under := .struct #[{ name := "On", type := 4, offset := 0, embedded := false, tag := "", pkgPath := "", byteOffset := 0 }, { name := "Irq", type := 4, offset := 1, embedded := false, tag := "", pkgPath := "", byteOffset := 1 }], size := 2, bytes := 2, zero := .agg #[.bool false, .bool false], cmp := true }
  | 74 => some { under := .slice 42, size := 1, bytes := 24, zero := .slice none 0 0 }
  | 78 => some { under := .struct #[{ name := "_interface", type := 17, offset := 0, embedded := false, tag := "", pkgPath := "runtime", byteOffset := 0 }, { name := "concrete", type := 17, offset := 1, embedded := false, tag := "", pkgPath := "runtime", byteOffset := 8 }, { name := "asserted", type := 17, offset := 2, embedded := false, tag := "", pkgPath := "runtime", byteOffset := 16 }, { name := "missingMethod", type := 9, offset := 3, embedded := false, tag := "", pkgPath := "runtime", byteOffset := 24 }], size := 4, bytes := 40, zero := .agg #[.pointer none, .pointer none, .pointer none, .string .empty] }
  | 79 => some { under := .struct #[{ name := "_interface", type := 17, offset := 0, embedded := false, tag := "", pkgPath := "runtime", byteOffset := 0 }, { name := "concrete", type := 17, offset := 1, embedded := false, tag := "", pkgPath := "runtime", byteOffset := 8 }, { name := "asserted", type := 17, offset := 2, embedded := false, tag := "", pkgPath := "runtime", byteOffset := 16 }, { name := "missingMethod", type := 9, offset := 3, embedded := false, tag := "", pkgPath := "runtime", byteOffset := 24 }], size := 4, bytes := 40, zero := .agg #[.pointer none, .pointer none, .pointer none, .string .empty] }
  | 80 => some { under := .array 0 16, size := 0, bytes := 0, zero := .agg #[] }
  | 81 => some { under := .struct #[{ name := "_", type := 80, offset := 0, embedded := false, tag := "", pkgPath := "runtime", byteOffset := 0 }], size := 0, bytes := 0, zero := .agg #[] }
  | 82 => some { under := .struct #[{ name := "_", type := 80, offset := 0, embedded := false, tag := "", pkgPath := "runtime", byteOffset := 0 }], size := 0, bytes := 0, zero := .agg #[] }
  | 84 => some { under := .int .u32, size := 1, bytes := 4, zero := .int .u32 0 }
  | 85 => some { under := .int .u8, size := 1, bytes := 1, zero := .int .u8 0 }
  | 86 => some { under := .int .u8, size := 1, bytes := 1, zero := .int .u8 0 }
  | 88 => some { under := .pointer 5, size := 1, bytes := 8, zero := .pointer none }
  | 89 => some { under := .int .i32, size := 1, bytes := 4, zero := .int .i32 0 }
  | 90 => some { under := .int .i32, size := 1, bytes := 4, zero := .int .i32 0 }
  | 91 => some { under := .struct #[{ name := "Size_", type := 12, offset := 0, embedded := false, tag := "", pkgPath := "", byteOffset := 0 }, { name := "PtrBytes", type := 12, offset := 1, embedded := false, tag := "", pkgPath := "", byteOffset := 8 }, { name := "Hash", type := 84, offset := 2, embedded := false, tag := "", pkgPath := "", byteOffset := 16 }, { name := "TFlag", type := 85, offset := 3, embedded := false, tag := "", pkgPath := "", byteOffset := 20 }, { name := "Align_", type := 5, offset := 4, embedded := false, tag := "", pkgPath := "", byteOffset := 21 }, { name := "FieldAlign_", type := 5, offset := 5, embedded := false, tag := "", pkgPath := "", byteOffset := 22 }, { name := "Kind_", type := 86, offset := 6, embedded := false, tag := "", pkgPath := "", byteOffset := 23 }, { name := "Equal", type := 87, offset := 7, embedded := false, tag := "", pkgPath := "", byteOffset := 24 }, { name := "GCData", type := 88, offset := 8, embedded := false, tag := "", pkgPath := "", byteOffset := 32 }, { name := "Str", type := 89, offset := 9, embedded := false, tag := "", pkgPath := "", byteOffset := 40 }, { name := "PtrToThis", type := 90, offset := 10, embedded := false, tag := "", pkgPath := "", byteOffset := 44 }], size := 11, bytes := 48, zero := .agg #[.int .u64 0, .int .u64 0, .int .u32 0, .int .u8 0, .int .u8 0, .int .u8 0, .int .u8 0, .nilFunc, .pointer none, .int .i32 0, .int .i32 0] }
  | 92 => some { under := .struct #[{ name := "Size_", type := 12, offset := 0, embedded := false, tag := "", pkgPath := "", byteOffset := 0 }, { name := "PtrBytes", type := 12, offset := 1, embedded := false, tag := "", pkgPath := "", byteOffset := 8 }, { name := "Hash", type := 84, offset := 2, embedded := false, tag := "", pkgPath := "", byteOffset := 16 }, { name := "TFlag", type := 85, offset := 3, embedded := false, tag := "", pkgPath := "", byteOffset := 20 }, { name := "Align_", type := 5, offset := 4, embedded := false, tag := "", pkgPath := "", byteOffset := 21 }, { name := "FieldAlign_", type := 5, offset := 5, embedded := false, tag := "", pkgPath := "", byteOffset := 22 }, { name := "Kind_", type := 86, offset := 6, embedded := false, tag := "", pkgPath := "", byteOffset := 23 }, { name := "Equal", type := 87, offset := 7, embedded := false, tag := "", pkgPath := "", byteOffset := 24 }, { name := "GCData", type := 88, offset := 8, embedded := false, tag := "", pkgPath := "", byteOffset := 32 }, { name := "Str", type := 89, offset := 9, embedded := false, tag := "", pkgPath := "", byteOffset := 40 }, { name := "PtrToThis", type := 90, offset := 10, embedded := false, tag := "", pkgPath := "", byteOffset := 44 }], size := 11, bytes := 48, zero := .agg #[.int .u64 0, .int .u64 0, .int .u32 0, .int .u8 0, .int .u8 0, .int .u8 0, .int .u8 0, .nilFunc, .pointer none, .int .i32 0, .int .i32 0] }
  | 93 => some { under := .unsafePointer, size := 1, bytes := 8, zero := .pointer none }
  | _ => none

theorem tab_2 : tab 2 = some { under := .int .i64, size := 1, bytes := 8, zero := .int .i64 0 } := rfl
theorem tab_3 : tab 3 = some { under := .int .i64, size := 1, bytes := 8, zero := .int .i64 0 } := rfl
theorem tab_4 : tab 4 = some { under := .bool, size := 1, bytes := 1, zero := .bool false } := rfl
theorem tab_5 : tab 5 = some { under := .int .u8, size := 1, bytes := 1, zero := .int .u8 0 } := rfl
theorem tab_6 : tab 6 = some { under := .int .u8, size := 1, bytes := 1, zero := .int .u8 0 } := rfl
theorem tab_7 : tab 7 = some { under := .struct #[{ name := "x", type := 2, offset := 0, embedded := false, tag := "", pkgPath := "runtime", byteOffset := 0 }, { name := "y", type := 3, offset := 1, embedded := false, tag := "", pkgPath := "runtime", byteOffset := 8 }, { name := "signed", type := 4, offset := 2, embedded := false, tag := "", pkgPath := "runtime", byteOffset := 16 }, { name := "code", type := 6, offset := 3, embedded := false, tag := "", pkgPath := "runtime", byteOffset := 17 }], size := 4, bytes := 24, zero := .agg #[.int .i64 0, .int .i64 0, .bool false, .int .u8 0] } := rfl
theorem tab_8 : tab 8 = some { under := .struct #[{ name := "x", type := 2, offset := 0, embedded := false, tag := "", pkgPath := "runtime", byteOffset := 0 }, { name := "y", type := 3, offset := 1, embedded := false, tag := "", pkgPath := "runtime", byteOffset := 8 }, { name := "signed", type := 4, offset := 2, embedded := false, tag := "", pkgPath := "runtime", byteOffset := 16 }, { name := "code", type := 6, offset := 3, embedded := false, tag := "", pkgPath := "runtime", byteOffset := 17 }], size := 4, bytes := 24, zero := .agg #[.int .i64 0, .int .i64 0, .bool false, .int .u8 0] } := rfl
theorem tab_9 : tab 9 = some { under := .string, size := 1, bytes := 16, zero := .string .empty } := rfl
theorem tab_10 : tab 10 = some { under := .string, size := 1, bytes := 16, zero := .string .empty } := rfl
theorem tab_11 : tab 11 = some { under := .string, size := 1, bytes := 16, zero := .string .empty } := rfl
theorem tab_12 : tab 12 = some { under := .int .u64, size := 1, bytes := 8, zero := .int .u64 0 } := rfl
theorem tab_13 : tab 13 = some { under := .struct #[{ name := "msg", type := 9, offset := 0, embedded := false, tag := "", pkgPath := "runtime", byteOffset := 0 }, { name := "addr", type := 12, offset := 1, embedded := false, tag := "", pkgPath := "runtime", byteOffset := 16 }], size := 2, bytes := 24, zero := .agg #[.string .empty, .int .u64 0] } := rfl
theorem tab_14 : tab 14 = some { under := .struct #[{ name := "msg", type := 9, offset := 0, embedded := false, tag := "", pkgPath := "runtime", byteOffset := 0 }, { name := "addr", type := 12, offset := 1, embedded := false, tag := "", pkgPath := "runtime", byteOffset := 16 }], size := 2, bytes := 24, zero := .agg #[.string .empty, .int .u64 0] } := rfl
theorem tab_15 : tab 15 = some { under := .pointer 79, size := 1, bytes := 8, zero := .pointer none } := rfl
theorem tab_16 : tab 16 = some { under := .pointer 82, size := 1, bytes := 8, zero := .pointer none } := rfl
theorem tab_17 : tab 17 = some { under := .pointer 92, size := 1, bytes := 8, zero := .pointer none } := rfl
theorem tab_18 : tab 18 = some { under := .struct #[{ name := "typ", type := 17, offset := 0, embedded := false, tag := "", pkgPath := "internal/runtime/maps", byteOffset := 0 }], size := 1, bytes := 8, zero := .agg #[.pointer none] } := rfl
theorem tab_19 : tab 19 = some { under := .struct #[{ name := "typ", type := 17, offset := 0, embedded := false, tag := "", pkgPath := "internal/runtime/maps", byteOffset := 0 }], size := 1, bytes := 8, zero := .agg #[.pointer none] } := rfl
theorem tab_21 : tab 21 = some { under := .int .i32, size := 1, bytes := 4, zero := .int .i32 0 } := rfl
theorem tab_22 : tab 22 = some { under := .slice 67, size := 1, bytes := 24, zero := .slice none 0 0 } := rfl
theorem tab_23 : tab 23 = some { under := .struct #[{ name := "On", type := 4, offset := 0, embedded := false, tag := "", pkgPath := "", byteOffset := 0 }, { name := "Kept", type := 22, offset := 1, embedded := false, tag := "", pkgPath := "", byteOffset := 8 }], size := 2, bytes := 32, zero := .agg #[.bool false, .slice none 0 0] } := rfl
theorem tab_24 : tab 24 = some { under := .struct #[{ name := "On", type := 4, offset := 0, embedded := false, tag := "", pkgPath := "", byteOffset := 0 }, { name := "Kept", type := 22, offset := 1, embedded := false, tag := "", pkgPath := "", byteOffset := 8 }], size := 2, bytes := 32, zero := .agg #[.bool false, .slice none 0 0] } := rfl
theorem tab_26 : tab 26 = some { under := .array 2 3, size := 2, bytes := 16, zero := .agg #[.int .i64 0, .int .i64 0], cmp := true } := rfl
theorem tab_27 : tab 27 = some { under := .slice 26, size := 1, bytes := 24, zero := .slice none 0 0 } := rfl
theorem tab_28 : tab 28 = some { under := .int .i64, size := 1, bytes := 8, zero := .int .i64 0 } := rfl
theorem tab_33 : tab 33 = some { under := .slice 3, size := 1, bytes := 24, zero := .slice none 0 0 } := rfl
theorem tab_34 : tab 34 = some { under := .slice 28, size := 1, bytes := 24, zero := .slice none 0 0 } := rfl
theorem tab_42 : tab 42 = some { under := .slice 5, size := 1, bytes := 24, zero := .slice none 0 0 } := rfl
theorem tab_43 : tab 43 = some { under := .struct #[{ name := "In", type := 42, offset := 0, embedded := false, tag := "", pkgPath := "", byteOffset := 0 }, { name := "Out", type := 42, offset := 1, embedded := false, tag := "", pkgPath := "", byteOffset := 24 }, { name := "Lost", type := 3, offset := 2, embedded := false, tag := "", pkgPath := "", byteOffset := 48 }, { name := "Asks", type := 4, offset := 3, embedded := false, tag := "", pkgPath := "", byteOffset := 56 }], size := 4, bytes := 64, zero := .agg #[.slice none 0 0, .slice none 0 0, .int .i64 0, .bool false] } := rfl
theorem tab_44 : tab 44 = some { under := .struct #[{ name := "In", type := 42, offset := 0, embedded := false, tag := "", pkgPath := "", byteOffset := 0 }, { name := "Out", type := 42, offset := 1, embedded := false, tag := "", pkgPath := "", byteOffset := 24 }, { name := "Lost", type := 3, offset := 2, embedded := false, tag := "", pkgPath := "", byteOffset := 48 }, { name := "Asks", type := 4, offset := 3, embedded := false, tag := "", pkgPath := "", byteOffset := 56 }], size := 4, bytes := 64, zero := .agg #[.slice none 0 0, .slice none 0 0, .int .i64 0, .bool false] } := rfl
theorem tab_45 : tab 45 = some { under := .struct #[{ name := "Kind", type := 3, offset := 0, embedded := false, tag := "", pkgPath := "", byteOffset := 0 }, { name := "Byte", type := 5, offset := 1, embedded := false, tag := "", pkgPath := "", byteOffset := 8 }], size := 2, bytes := 16, zero := .agg #[.int .i64 0, .int .u8 0], cmp := true } := rfl
theorem tab_46 : tab 46 = some { under := .struct #[{ name := "Kind", type := 3, offset := 0, embedded := false, tag := "", pkgPath := "", byteOffset := 0 }, { name := "Byte", type := 5, offset := 1, embedded := false, tag := "", pkgPath := "", byteOffset := 8 }], size := 2, bytes := 16, zero := .agg #[.int .i64 0, .int .u8 0], cmp := true } := rfl
theorem tab_52 : tab 52 = some { under := .struct #[{ name := "Num", type := 3, offset := 0, embedded := false, tag := "", pkgPath := "", byteOffset := 0 }, { name := "Den", type := 3, offset := 1, embedded := false, tag := "", pkgPath := "", byteOffset := 8 }], size := 2, bytes := 16, zero := .agg #[.int .i64 0, .int .i64 0], cmp := true } := rfl
theorem tab_53 : tab 53 = some { under := .struct #[{ name := "Num", type := 3, offset := 0, embedded := false, tag := "", pkgPath := "", byteOffset := 0 }, { name := "Den", type := 3, offset := 1, embedded := false, tag := "", pkgPath := "", byteOffset := 8 }], size := 2, bytes := 16, zero := .agg #[.int .i64 0, .int .i64 0], cmp := true } := rfl
theorem tab_60 : tab 60 = some { under := .slice 46, size := 1, bytes := 24, zero := .slice none 0 0 } := rfl
theorem tab_66 : tab 66 = some { under := .struct #[{ name := "On", type := 4, offset := 0, embedded := false, tag := "", pkgPath := "", byteOffset := 0 }, { name := "Irq", type := 4, offset := 1, embedded := false, tag := "", pkgPath := "", byteOffset := 1 }], size := 2, bytes := 2, zero := .agg #[.bool false, .bool false], cmp := true } := rfl
theorem tab_67 : tab 67 = some { under := .struct #[{ name := "On", type := 4, offset := 0, embedded := false, tag := "", pkgPath := "", byteOffset := 0 }, { name := "Irq", type := 4, offset := 1, embedded := false, tag := "", pkgPath := "", byteOffset := 1 }], size := 2, bytes := 2, zero := .agg #[.bool false, .bool false], cmp := true } := rfl
theorem tab_74 : tab 74 = some { under := .slice 42, size := 1, bytes := 24, zero := .slice none 0 0 } := rfl
theorem tab_78 : tab 78 = some { under := .struct #[{ name := "_interface", type := 17, offset := 0, embedded := false, tag := "", pkgPath := "runtime", byteOffset := 0 }, { name := "concrete", type := 17, offset := 1, embedded := false, tag := "", pkgPath := "runtime", byteOffset := 8 }, { name := "asserted", type := 17, offset := 2, embedded := false, tag := "", pkgPath := "runtime", byteOffset := 16 }, { name := "missingMethod", type := 9, offset := 3, embedded := false, tag := "", pkgPath := "runtime", byteOffset := 24 }], size := 4, bytes := 40, zero := .agg #[.pointer none, .pointer none, .pointer none, .string .empty] } := rfl
theorem tab_79 : tab 79 = some { under := .struct #[{ name := "_interface", type := 17, offset := 0, embedded := false, tag := "", pkgPath := "runtime", byteOffset := 0 }, { name := "concrete", type := 17, offset := 1, embedded := false, tag := "", pkgPath := "runtime", byteOffset := 8 }, { name := "asserted", type := 17, offset := 2, embedded := false, tag := "", pkgPath := "runtime", byteOffset := 16 }, { name := "missingMethod", type := 9, offset := 3, embedded := false, tag := "", pkgPath := "runtime", byteOffset := 24 }], size := 4, bytes := 40, zero := .agg #[.pointer none, .pointer none, .pointer none, .string .empty] } := rfl
theorem tab_80 : tab 80 = some { under := .array 0 16, size := 0, bytes := 0, zero := .agg #[] } := rfl
theorem tab_81 : tab 81 = some { under := .struct #[{ name := "_", type := 80, offset := 0, embedded := false, tag := "", pkgPath := "runtime", byteOffset := 0 }], size := 0, bytes := 0, zero := .agg #[] } := rfl
theorem tab_82 : tab 82 = some { under := .struct #[{ name := "_", type := 80, offset := 0, embedded := false, tag := "", pkgPath := "runtime", byteOffset := 0 }], size := 0, bytes := 0, zero := .agg #[] } := rfl
theorem tab_84 : tab 84 = some { under := .int .u32, size := 1, bytes := 4, zero := .int .u32 0 } := rfl
theorem tab_85 : tab 85 = some { under := .int .u8, size := 1, bytes := 1, zero := .int .u8 0 } := rfl
theorem tab_86 : tab 86 = some { under := .int .u8, size := 1, bytes := 1, zero := .int .u8 0 } := rfl
theorem tab_88 : tab 88 = some { under := .pointer 5, size := 1, bytes := 8, zero := .pointer none } := rfl
theorem tab_89 : tab 89 = some { under := .int .i32, size := 1, bytes := 4, zero := .int .i32 0 } := rfl
theorem tab_90 : tab 90 = some { under := .int .i32, size := 1, bytes := 4, zero := .int .i32 0 } := rfl
theorem tab_91 : tab 91 = some { under := .struct #[{ name := "Size_", type := 12, offset := 0, embedded := false, tag := "", pkgPath := "", byteOffset := 0 }, { name := "PtrBytes", type := 12, offset := 1, embedded := false, tag := "", pkgPath := "", byteOffset := 8 }, { name := "Hash", type := 84, offset := 2, embedded := false, tag := "", pkgPath := "", byteOffset := 16 }, { name := "TFlag", type := 85, offset := 3, embedded := false, tag := "", pkgPath := "", byteOffset := 20 }, { name := "Align_", type := 5, offset := 4, embedded := false, tag := "", pkgPath := "", byteOffset := 21 }, { name := "FieldAlign_", type := 5, offset := 5, embedded := false, tag := "", pkgPath := "", byteOffset := 22 }, { name := "Kind_", type := 86, offset := 6, embedded := false, tag := "", pkgPath := "", byteOffset := 23 }, { name := "Equal", type := 87, offset := 7, embedded := false, tag := "", pkgPath := "", byteOffset := 24 }, { name := "GCData", type := 88, offset := 8, embedded := false, tag := "", pkgPath := "", byteOffset := 32 }, { name := "Str", type := 89, offset := 9, embedded := false, tag := "", pkgPath := "", byteOffset := 40 }, { name := "PtrToThis", type := 90, offset := 10, embedded := false, tag := "", pkgPath := "", byteOffset := 44 }], size := 11, bytes := 48, zero := .agg #[.int .u64 0, .int .u64 0, .int .u32 0, .int .u8 0, .int .u8 0, .int .u8 0, .int .u8 0, .nilFunc, .pointer none, .int .i32 0, .int .i32 0] } := rfl
theorem tab_92 : tab 92 = some { under := .struct #[{ name := "Size_", type := 12, offset := 0, embedded := false, tag := "", pkgPath := "", byteOffset := 0 }, { name := "PtrBytes", type := 12, offset := 1, embedded := false, tag := "", pkgPath := "", byteOffset := 8 }, { name := "Hash", type := 84, offset := 2, embedded := false, tag := "", pkgPath := "", byteOffset := 16 }, { name := "TFlag", type := 85, offset := 3, embedded := false, tag := "", pkgPath := "", byteOffset := 20 }, { name := "Align_", type := 5, offset := 4, embedded := false, tag := "", pkgPath := "", byteOffset := 21 }, { name := "FieldAlign_", type := 5, offset := 5, embedded := false, tag := "", pkgPath := "", byteOffset := 22 }, { name := "Kind_", type := 86, offset := 6, embedded := false, tag := "", pkgPath := "", byteOffset := 23 }, { name := "Equal", type := 87, offset := 7, embedded := false, tag := "", pkgPath := "", byteOffset := 24 }, { name := "GCData", type := 88, offset := 8, embedded := false, tag := "", pkgPath := "", byteOffset := 32 }, { name := "Str", type := 89, offset := 9, embedded := false, tag := "", pkgPath := "", byteOffset := 40 }, { name := "PtrToThis", type := 90, offset := 10, embedded := false, tag := "", pkgPath := "", byteOffset := 44 }], size := 11, bytes := 48, zero := .agg #[.int .u64 0, .int .u64 0, .int .u32 0, .int .u8 0, .int .u8 0, .int .u8 0, .int .u8 0, .nilFunc, .pointer none, .int .i32 0, .int .i32 0] } := rfl
theorem tab_93 : tab 93 = some { under := .unsafePointer, size := 1, bytes := 8, zero := .pointer none } := rfl

theorem info_2 : (Try.prog.info? 2).map (fun i => (i.zero, i.size, i.bytes)) = some (some (.int .i64 0), 1, 8) := by kernel_rfl
theorem info_3 : (Try.prog.info? 3).map (fun i => (i.zero, i.size, i.bytes)) = some (some (.int .i64 0), 1, 8) := by kernel_rfl
theorem info_4 : (Try.prog.info? 4).map (fun i => (i.zero, i.size, i.bytes)) = some (some (.bool false), 1, 1) := by kernel_rfl
theorem info_5 : (Try.prog.info? 5).map (fun i => (i.zero, i.size, i.bytes)) = some (some (.int .u8 0), 1, 1) := by kernel_rfl
theorem info_6 : (Try.prog.info? 6).map (fun i => (i.zero, i.size, i.bytes)) = some (some (.int .u8 0), 1, 1) := by kernel_rfl
theorem info_7 : (Try.prog.info? 7).map (fun i => (i.zero, i.size, i.bytes)) = some (some (.agg #[.int .i64 0, .int .i64 0, .bool false, .int .u8 0]), 4, 24) := by kernel_rfl
theorem info_8 : (Try.prog.info? 8).map (fun i => (i.zero, i.size, i.bytes)) = some (some (.agg #[.int .i64 0, .int .i64 0, .bool false, .int .u8 0]), 4, 24) := by kernel_rfl
theorem info_9 : (Try.prog.info? 9).map (fun i => (i.zero, i.size, i.bytes)) = some (some (.string .empty), 1, 16) := by kernel_rfl
theorem info_10 : (Try.prog.info? 10).map (fun i => (i.zero, i.size, i.bytes)) = some (some (.string .empty), 1, 16) := by kernel_rfl
theorem info_11 : (Try.prog.info? 11).map (fun i => (i.zero, i.size, i.bytes)) = some (some (.string .empty), 1, 16) := by kernel_rfl
theorem info_12 : (Try.prog.info? 12).map (fun i => (i.zero, i.size, i.bytes)) = some (some (.int .u64 0), 1, 8) := by kernel_rfl
theorem info_13 : (Try.prog.info? 13).map (fun i => (i.zero, i.size, i.bytes)) = some (some (.agg #[.string .empty, .int .u64 0]), 2, 24) := by kernel_rfl
theorem info_14 : (Try.prog.info? 14).map (fun i => (i.zero, i.size, i.bytes)) = some (some (.agg #[.string .empty, .int .u64 0]), 2, 24) := by kernel_rfl
theorem info_15 : (Try.prog.info? 15).map (fun i => (i.zero, i.size, i.bytes)) = some (some (.pointer none), 1, 8) := by kernel_rfl
theorem info_16 : (Try.prog.info? 16).map (fun i => (i.zero, i.size, i.bytes)) = some (some (.pointer none), 1, 8) := by kernel_rfl
theorem info_17 : (Try.prog.info? 17).map (fun i => (i.zero, i.size, i.bytes)) = some (some (.pointer none), 1, 8) := by kernel_rfl
theorem info_18 : (Try.prog.info? 18).map (fun i => (i.zero, i.size, i.bytes)) = some (some (.agg #[.pointer none]), 1, 8) := by kernel_rfl
theorem info_19 : (Try.prog.info? 19).map (fun i => (i.zero, i.size, i.bytes)) = some (some (.agg #[.pointer none]), 1, 8) := by kernel_rfl
theorem info_21 : (Try.prog.info? 21).map (fun i => (i.zero, i.size, i.bytes)) = some (some (.int .i32 0), 1, 4) := by kernel_rfl
theorem info_22 : (Try.prog.info? 22).map (fun i => (i.zero, i.size, i.bytes)) = some (some (.slice none 0 0), 1, 24) := by kernel_rfl
theorem info_23 : (Try.prog.info? 23).map (fun i => (i.zero, i.size, i.bytes)) = some (some (.agg #[.bool false, .slice none 0 0]), 2, 32) := by kernel_rfl
theorem info_24 : (Try.prog.info? 24).map (fun i => (i.zero, i.size, i.bytes)) = some (some (.agg #[.bool false, .slice none 0 0]), 2, 32) := by kernel_rfl
theorem info_26 : (Try.prog.info? 26).map (fun i => (i.zero, i.size, i.bytes)) = some (some (.agg #[.int .i64 0, .int .i64 0]), 2, 16) := by kernel_rfl
theorem info_27 : (Try.prog.info? 27).map (fun i => (i.zero, i.size, i.bytes)) = some (some (.slice none 0 0), 1, 24) := by kernel_rfl
theorem info_28 : (Try.prog.info? 28).map (fun i => (i.zero, i.size, i.bytes)) = some (some (.int .i64 0), 1, 8) := by kernel_rfl
theorem info_33 : (Try.prog.info? 33).map (fun i => (i.zero, i.size, i.bytes)) = some (some (.slice none 0 0), 1, 24) := by kernel_rfl
theorem info_34 : (Try.prog.info? 34).map (fun i => (i.zero, i.size, i.bytes)) = some (some (.slice none 0 0), 1, 24) := by kernel_rfl
theorem info_42 : (Try.prog.info? 42).map (fun i => (i.zero, i.size, i.bytes)) = some (some (.slice none 0 0), 1, 24) := by kernel_rfl
theorem info_43 : (Try.prog.info? 43).map (fun i => (i.zero, i.size, i.bytes)) = some (some (.agg #[.slice none 0 0, .slice none 0 0, .int .i64 0, .bool false]), 4, 64) := by kernel_rfl
theorem info_44 : (Try.prog.info? 44).map (fun i => (i.zero, i.size, i.bytes)) = some (some (.agg #[.slice none 0 0, .slice none 0 0, .int .i64 0, .bool false]), 4, 64) := by kernel_rfl
theorem info_45 : (Try.prog.info? 45).map (fun i => (i.zero, i.size, i.bytes)) = some (some (.agg #[.int .i64 0, .int .u8 0]), 2, 16) := by kernel_rfl
theorem info_46 : (Try.prog.info? 46).map (fun i => (i.zero, i.size, i.bytes)) = some (some (.agg #[.int .i64 0, .int .u8 0]), 2, 16) := by kernel_rfl
theorem info_52 : (Try.prog.info? 52).map (fun i => (i.zero, i.size, i.bytes)) = some (some (.agg #[.int .i64 0, .int .i64 0]), 2, 16) := by kernel_rfl
theorem info_53 : (Try.prog.info? 53).map (fun i => (i.zero, i.size, i.bytes)) = some (some (.agg #[.int .i64 0, .int .i64 0]), 2, 16) := by kernel_rfl
theorem info_60 : (Try.prog.info? 60).map (fun i => (i.zero, i.size, i.bytes)) = some (some (.slice none 0 0), 1, 24) := by kernel_rfl
theorem info_66 : (Try.prog.info? 66).map (fun i => (i.zero, i.size, i.bytes)) = some (some (.agg #[.bool false, .bool false]), 2, 2) := by kernel_rfl
theorem info_67 : (Try.prog.info? 67).map (fun i => (i.zero, i.size, i.bytes)) = some (some (.agg #[.bool false, .bool false]), 2, 2) := by kernel_rfl
theorem info_74 : (Try.prog.info? 74).map (fun i => (i.zero, i.size, i.bytes)) = some (some (.slice none 0 0), 1, 24) := by kernel_rfl
theorem info_78 : (Try.prog.info? 78).map (fun i => (i.zero, i.size, i.bytes)) = some (some (.agg #[.pointer none, .pointer none, .pointer none, .string .empty]), 4, 40) := by kernel_rfl
theorem info_79 : (Try.prog.info? 79).map (fun i => (i.zero, i.size, i.bytes)) = some (some (.agg #[.pointer none, .pointer none, .pointer none, .string .empty]), 4, 40) := by kernel_rfl
theorem info_80 : (Try.prog.info? 80).map (fun i => (i.zero, i.size, i.bytes)) = some (some (.agg #[]), 0, 0) := by kernel_rfl
theorem info_81 : (Try.prog.info? 81).map (fun i => (i.zero, i.size, i.bytes)) = some (some (.agg #[]), 0, 0) := by kernel_rfl
theorem info_82 : (Try.prog.info? 82).map (fun i => (i.zero, i.size, i.bytes)) = some (some (.agg #[]), 0, 0) := by kernel_rfl
theorem info_84 : (Try.prog.info? 84).map (fun i => (i.zero, i.size, i.bytes)) = some (some (.int .u32 0), 1, 4) := by kernel_rfl
theorem info_85 : (Try.prog.info? 85).map (fun i => (i.zero, i.size, i.bytes)) = some (some (.int .u8 0), 1, 1) := by kernel_rfl
theorem info_86 : (Try.prog.info? 86).map (fun i => (i.zero, i.size, i.bytes)) = some (some (.int .u8 0), 1, 1) := by kernel_rfl
theorem info_88 : (Try.prog.info? 88).map (fun i => (i.zero, i.size, i.bytes)) = some (some (.pointer none), 1, 8) := by kernel_rfl
theorem info_89 : (Try.prog.info? 89).map (fun i => (i.zero, i.size, i.bytes)) = some (some (.int .i32 0), 1, 4) := by kernel_rfl
theorem info_90 : (Try.prog.info? 90).map (fun i => (i.zero, i.size, i.bytes)) = some (some (.int .i32 0), 1, 4) := by kernel_rfl
theorem info_91 : (Try.prog.info? 91).map (fun i => (i.zero, i.size, i.bytes)) = some (some (.agg #[.int .u64 0, .int .u64 0, .int .u32 0, .int .u8 0, .int .u8 0, .int .u8 0, .int .u8 0, .nilFunc, .pointer none, .int .i32 0, .int .i32 0]), 11, 48) := by kernel_rfl
theorem info_92 : (Try.prog.info? 92).map (fun i => (i.zero, i.size, i.bytes)) = some (some (.agg #[.int .u64 0, .int .u64 0, .int .u32 0, .int .u8 0, .int .u8 0, .int .u8 0, .int .u8 0, .nilFunc, .pointer none, .int .i32 0, .int .i32 0]), 11, 48) := by kernel_rfl
theorem info_93 : (Try.prog.info? 93).map (fun i => (i.zero, i.size, i.bytes)) = some (some (.pointer none), 1, 8) := by kernel_rfl

theorem tabOk : Go.Ab.TabOk Try.prog tab := by
  intro t i h
  unfold tab at h
  split at h
  · cases h; exact Go.Ab.tabRow Try.underlying2 info_2
  · cases h; exact Go.Ab.tabRow Try.underlying3 info_3
  · cases h; exact Go.Ab.tabRow Try.underlying4 info_4
  · cases h; exact Go.Ab.tabRow Try.underlying5 info_5
  · cases h; exact Go.Ab.tabRow Try.underlying6 info_6
  · cases h; exact Go.Ab.tabRow Try.underlying7 info_7
  · cases h; exact Go.Ab.tabRow Try.underlying8 info_8
  · cases h; exact Go.Ab.tabRow Try.underlying9 info_9
  · cases h; exact Go.Ab.tabRow Try.underlying10 info_10
  · cases h; exact Go.Ab.tabRow Try.underlying11 info_11
  · cases h; exact Go.Ab.tabRow Try.underlying12 info_12
  · cases h; exact Go.Ab.tabRow Try.underlying13 info_13
  · cases h; exact Go.Ab.tabRow Try.underlying14 info_14
  · cases h; exact Go.Ab.tabRow Try.underlying15 info_15
  · cases h; exact Go.Ab.tabRow Try.underlying16 info_16
  · cases h; exact Go.Ab.tabRow Try.underlying17 info_17
  · cases h; exact Go.Ab.tabRow Try.underlying18 info_18
  · cases h; exact Go.Ab.tabRow Try.underlying19 info_19
  · cases h; exact Go.Ab.tabRow Try.underlying21 info_21
  · cases h; exact Go.Ab.tabRow Try.underlying22 info_22
  · cases h; exact Go.Ab.tabRow Try.underlying23 info_23
  · cases h; exact Go.Ab.tabRow Try.underlying24 info_24
  · cases h; exact Go.Ab.tabRowC Try.underlying26 info_26 ⟨by kernel_rfl, by kernel_rfl⟩
  · cases h; exact Go.Ab.tabRow Try.underlying27 info_27
  · cases h; exact Go.Ab.tabRow Try.underlying28 info_28
  · cases h; exact Go.Ab.tabRow Try.underlying33 info_33
  · cases h; exact Go.Ab.tabRow Try.underlying34 info_34
  · cases h; exact Go.Ab.tabRow Try.underlying42 info_42
  · cases h; exact Go.Ab.tabRow Try.underlying43 info_43
  · cases h; exact Go.Ab.tabRow Try.underlying44 info_44
  · cases h; exact Go.Ab.tabRowC Try.underlying45 info_45 ⟨by kernel_rfl, by kernel_rfl⟩
  · cases h; exact Go.Ab.tabRowC Try.underlying46 info_46 ⟨by kernel_rfl, by kernel_rfl⟩
  · cases h; exact Go.Ab.tabRowC Try.underlying52 info_52 ⟨by kernel_rfl, by kernel_rfl⟩
  · cases h; exact Go.Ab.tabRowC Try.underlying53 info_53 ⟨by kernel_rfl, by kernel_rfl⟩
  · cases h; exact Go.Ab.tabRow Try.underlying60 info_60
  · cases h; exact Go.Ab.tabRowC Try.underlying66 info_66 ⟨by kernel_rfl, by kernel_rfl⟩
  · cases h; exact Go.Ab.tabRowC Try.underlying67 info_67 ⟨by kernel_rfl, by kernel_rfl⟩
  · cases h; exact Go.Ab.tabRow Try.underlying74 info_74
  · cases h; exact Go.Ab.tabRow Try.underlying78 info_78
  · cases h; exact Go.Ab.tabRow Try.underlying79 info_79
  · cases h; exact Go.Ab.tabRow Try.underlying80 info_80
  · cases h; exact Go.Ab.tabRow Try.underlying81 info_81
  · cases h; exact Go.Ab.tabRow Try.underlying82 info_82
  · cases h; exact Go.Ab.tabRow Try.underlying84 info_84
  · cases h; exact Go.Ab.tabRow Try.underlying85 info_85
  · cases h; exact Go.Ab.tabRow Try.underlying86 info_86
  · cases h; exact Go.Ab.tabRow Try.underlying88 info_88
  · cases h; exact Go.Ab.tabRow Try.underlying89 info_89
  · cases h; exact Go.Ab.tabRow Try.underlying90 info_90
  · cases h; exact Go.Ab.tabRow Try.underlying91 info_91
  · cases h; exact Go.Ab.tabRow Try.underlying92 info_92
  · cases h; exact Go.Ab.tabRow Try.underlying93 info_93
  · cases h

end Go.Proofs.Ytegafdnfcijemaa
