/- The type table: printed by program. -/
import Derived.Test.YtcbknmjbhjbifaaRows
import Derived.Test.YtcbknmjbhjbifaaAbR
namespace Go.Proofs.Ytcbknmjbhjbifaa
def tab : Go.Ab.Tab := fun t => match t with
  | 2 => some { under := .int .i64, size := 1, bytes := 8, zero := .int .i64 0 }
  | 3 => some { under := .int .i64, size := 1, bytes := 8, zero := .int .i64 0 }
  | 4 => some { under := .bool, size := 1, bytes := 1, zero := .bool false }
  | 5 => some { under := .int .u8, size := 1, bytes := 1, zero := .int .u8 0 }
  | 6 => some { under := .int .u8, size := 1, bytes := 1, zero := .int .u8 0 }
  | 7 => some { under := .struct #[{ name := "x", type := 2, offset := 0, embedded := false, tag := "", pkgPath := "runtime", byteOffset := 0 }, { name := "y", type := 3, offset := 1, embedded := false, tag := "", pkgPath := "runtime", byteOffset := 8 }, { name := "signed", type := 4, offset := 2, embedded := false, tag := "", pkgPath := "runtime", byteOffset := 16 }, { name := "code", type := 6, offset := 3, embedded := false, tag := "", pkgPath := "runtime", byteOffset := 17 }], size := 4, bytes := 24, zero := .agg #[.int .i64 0, .int .i64 0, .bool false, .int .u8 0] }
  | 8 => some { under := .struct #[{ name := "x", type := 2, offset := 0, embedded := false, tag := "", pkgPath := "runtime", byteOffset := 0 }, { name := "y", type := 3, offset := 1, embedded := false, tag := "", pkgPath := "runtime", byteOffset := 8 }, { name := "signed", type := 4, offset := 2, embedded := false, tag := "", pkgPath := "runtime", byteOffset := 16 }, { name := "code", type := 6, offset := 3, embedded := false, tag := "", pkgPath := "runtime", byteOffset := 17 }], size := 4, bytes := 24, zero := .agg #[.int .i64 0, .int .i64 0, .bool false, .int .u8 0] }
  | 9 => some { under := .string, size := 1, bytes := 16, zero := .string .empty }
  | 10 => some { under := .string, size := 1, bytes := 16, zero := .string .empty }
  | 11 => some { under := .string, size := 1, bytes := 16, zero := .string .empty }
  | 12 => some { under := .int .u64, size := 1, bytes := 8, zero := .int .u64 0 }
  | 13 => some { under := .struct #[{ name := "msg", type := 9, offset := 0, embedded := false, tag := "", pkgPath := "runtime", byteOffset := 0 }, { name := "addr", type := 12, offset := 1, embedded := false, tag := "", pkgPath := "runtime", byteOffset := 16 }], size := 2, bytes := 24, zero := .agg #[.string .empty, .int .u64 0] }
  | 14 => some { under := .struct #[{ name := "msg", type := 9, offset := 0, embedded := false, tag := "", pkgPath := "runtime", byteOffset := 0 }, { name := "addr", type := 12, offset := 1, embedded := false, tag := "", pkgPath := "runtime", byteOffset := 16 }], size := 2, bytes := 24, zero := .agg #[.string .empty, .int .u64 0] }
  | 15 => some { under := .pointer 117, size := 1, bytes := 8, zero := .pointer none }
  | 16 => some { under := .pointer 120, size := 1, bytes := 8, zero := .pointer none }
  | 17 => some { under := .pointer 129, size := 1, bytes := 8, zero := .pointer none }
  | 18 => some { under := .struct #[{ name := "typ", type := 17, offset := 0, embedded := false, tag := "", pkgPath := "internal/runtime/maps", byteOffset := 0 }], size := 1, bytes := 8, zero := .agg #[.pointer none] }
  | 19 => some { under := .struct #[{ name := "typ", type := 17, offset := 0, embedded := false, tag := "", pkgPath := "internal/runtime/maps", byteOffset := 0 }], size := 1, bytes := 8, zero := .agg #[.pointer none] }
  | 21 => some { under := .int .i32, size := 1, bytes := 4, zero := .int .i32 0 }
  | 22 => some { under := .slice 30, size := 1, bytes := 24, zero := .slice none 0 0 }
  | 24 => some { under := .slice 31, size := 1, bytes := 24, zero := .slice none 0 0 }
  | 25 => some { under := .slice 3, size := 1, bytes := 24, zero := .slice none 0 0 }
  | 28 => some { under := .map 3 3, size := 1, bytes := 8, zero := .map none }
  | 29 => some { under := .struct #[{ name := "Kind", type := 3, offset := 0, embedded := false, tag := "", pkgPath := "", byteOffset := 0 }, { name := "Core", type := 3, offset := 1, embedded := false, tag := "", pkgPath := "", byteOffset := 8 }, { name := "Thing", type := 3, offset := 2, embedded := false, tag := "", pkgPath := "", byteOffset := 16 }], size := 3, bytes := 24, zero := .agg #[.int .i64 0, .int .i64 0, .int .i64 0], cmp := true }
  | 30 => some { under := .struct #[{ name := "Kind", type := 3, offset := 0, embedded := false, tag := "", pkgPath := "", byteOffset := 0 }, { name := "Core", type := 3, offset := 1, embedded := false, tag := "", pkgPath := "", byteOffset := 8 }, { name := "Thing", type := 3, offset := 2, embedded := false, tag := "", pkgPath := "", byteOffset := 16 }], size := 3, bytes := 24, zero := .agg #[.int .i64 0, .int .i64 0, .int .i64 0], cmp := true }
  | 31 => some { under := .int .i64, size := 1, bytes := 8, zero := .int .i64 0 }
  | 36 => some { under := .slice 41, size := 1, bytes := 24, zero := .slice none 0 0 }
  | 40 => some { under := .struct #[{ name := "When", type := 3, offset := 0, embedded := false, tag := "", pkgPath := "", byteOffset := 0 }, { name := "Soft", type := 3, offset := 1, embedded := false, tag := "", pkgPath := "", byteOffset := 8 }], size := 2, bytes := 16, zero := .agg #[.int .i64 0, .int .i64 0], cmp := true }
  | 41 => some { under := .struct #[{ name := "When", type := 3, offset := 0, embedded := false, tag := "", pkgPath := "", byteOffset := 0 }, { name := "Soft", type := 3, offset := 1, embedded := false, tag := "", pkgPath := "", byteOffset := 8 }], size := 2, bytes := 16, zero := .agg #[.int .i64 0, .int .i64 0], cmp := true }
  | 48 => some { under := .slice 52, size := 1, bytes := 24, zero := .slice none 0 0 }
  | 51 => some { under := .struct #[{ name := "Kind", type := 3, offset := 0, embedded := false, tag := "", pkgPath := "", byteOffset := 0 }, { name := "Item", type := 3, offset := 1, embedded := false, tag := "", pkgPath := "", byteOffset := 8 }], size := 2, bytes := 16, zero := .agg #[.int .i64 0, .int .i64 0], cmp := true }
  | 52 => some { under := .struct #[{ name := "Kind", type := 3, offset := 0, embedded := false, tag := "", pkgPath := "", byteOffset := 0 }, { name := "Item", type := 3, offset := 1, embedded := false, tag := "", pkgPath := "", byteOffset := 8 }], size := 2, bytes := 16, zero := .agg #[.int .i64 0, .int .i64 0], cmp := true }
  | 64 => some { under := .pointer 68, size := 1, bytes := 8, zero := .pointer none }
  | 65 => some { under := .array 8 4, size := 8, bytes := 8, zero := .agg #[.bool false, .bool false, .bool false, .bool false, .bool false, .bool false, .bool false, .bool false], cmp := true }
  | 66 => some { under := .slice 71, size := 1, bytes := 24, zero := .slice none 0 0 }
  | 67 => some { under := .struct #[{ name := "in", type := 65, offset := 0, embedded := false, tag := "", pkgPath := "corebell/grace", byteOffset := 0 }, { name := "waits", type := 66, offset := 8, embedded := false, tag := "", pkgPath := "corebell/grace", byteOffset := 8 }, { name := "freed", type := 25, offset := 9, embedded := false, tag := "", pkgPath := "corebell/grace", byteOffset := 32 }], size := 10, bytes := 56, zero := .agg #[.bool false, .bool false, .bool false, .bool false, .bool false, .bool false, .bool false, .bool false, .slice none 0 0, .slice none 0 0] }
  | 68 => some { under := .struct #[{ name := "in", type := 65, offset := 0, embedded := false, tag := "", pkgPath := "corebell/grace", byteOffset := 0 }, { name := "waits", type := 66, offset := 8, embedded := false, tag := "", pkgPath := "corebell/grace", byteOffset := 8 }, { name := "freed", type := 25, offset := 9, embedded := false, tag := "", pkgPath := "corebell/grace", byteOffset := 32 }], size := 10, bytes := 56, zero := .agg #[.bool false, .bool false, .bool false, .bool false, .bool false, .bool false, .bool false, .bool false, .slice none 0 0, .slice none 0 0] }
  | 70 => some { under := .struct #[{ name := "thing", type := 3, offset := 0, embedded := false, tag := "", pkgPath := "corebell/grace", byteOffset := 0 }, { name := "cores", type := 65, offset := 1, embedded := false, tag := "", pkgPath := "corebell/grace", byteOffset := 8 }], size := 9, bytes := 16, zero := .agg #[.int .i64 0, .bool false, .bool false, .bool false, .bool false, .bool false, .bool false, .bool false, .bool false], cmp := true }
  | 71 => some { under := .struct #[{ name := "thing", type := 3, offset := 0, embedded := false, tag := "", pkgPath := "corebell/grace", byteOffset := 0 }, { name := "cores", type := 65, offset := 1, embedded := false, tag := "", pkgPath := "corebell/grace", byteOffset := 8 }], size := 9, bytes := 16, zero := .agg #[.int .i64 0, .bool false, .bool false, .bool false, .bool false, .bool false, .bool false, .bool false, .bool false], cmp := true }
  | 73 => some { under := .pointer 75, size := 1, bytes := 8, zero := .pointer none }
  | 74 => some { under := .struct #[{ name := "pending", type := 65, offset := 0, embedded := false, tag := "", pkgPath := "corebell/soft", byteOffset := 0 }, { name := "raises", type := 36, offset := 8, embedded := false, tag := "", pkgPath := "corebell/soft", byteOffset := 8 }, { name := "ran", type := 25, offset := 9, embedded := false, tag := "", pkgPath := "corebell/soft", byteOffset := 32 }], size := 10, bytes := 56, zero := .agg #[.bool false, .bool false, .bool false, .bool false, .bool false, .bool false, .bool false, .bool false, .slice none 0 0, .slice none 0 0] }
  | 75 => some { under := .struct #[{ name := "pending", type := 65, offset := 0, embedded := false, tag := "", pkgPath := "corebell/soft", byteOffset := 0 }, { name := "raises", type := 36, offset := 8, embedded := false, tag := "", pkgPath := "corebell/soft", byteOffset := 8 }, { name := "ran", type := 25, offset := 9, embedded := false, tag := "", pkgPath := "corebell/soft", byteOffset := 32 }], size := 10, bytes := 56, zero := .agg #[.bool false, .bool false, .bool false, .bool false, .bool false, .bool false, .bool false, .bool false, .slice none 0 0, .slice none 0 0] }
  | 77 => some { under := .slice 25, size := 1, bytes := 24, zero := .slice none 0 0 }
  | 79 => some { under := .pointer 81, size := 1, bytes := 8, zero := .pointer none }
  | 80 => some { under := .struct #[{ name := "waits", type := 25, offset := 0, embedded := false, tag := "", pkgPath := "corebell/work", byteOffset := 0 }, { name := "begun", type := 3, offset := 1, embedded := false, tag := "", pkgPath := "corebell/work", byteOffset := 24 }, { name := "done", type := 25, offset := 2, embedded := false, tag := "", pkgPath := "corebell/work", byteOffset := 32 }], size := 3, bytes := 56, zero := .agg #[.slice none 0 0, .int .i64 0, .slice none 0 0] }
  | 81 => some { under := .struct #[{ name := "waits", type := 25, offset := 0, embedded := false, tag := "", pkgPath := "corebell/work", byteOffset := 0 }, { name := "begun", type := 3, offset := 1, embedded := false, tag := "", pkgPath := "corebell/work", byteOffset := 24 }, { name := "done", type := 25, offset := 2, embedded := false, tag := "", pkgPath := "corebell/work", byteOffset := 32 }], size := 3, bytes := 56, zero := .agg #[.slice none 0 0, .int .i64 0, .slice none 0 0] }
  | 86 => some { under := .slice 4, size := 1, bytes := 24, zero := .slice none 0 0 }
  | 92 => some { under := .int .u64, size := 1, bytes := 8, zero := .int .u64 0 }
  | 95 => some { under := .int .i64, size := 1, bytes := 8, zero := .int .i64 0 }
  | 103 => some { under := .int .u32, size := 1, bytes := 4, zero := .int .u32 0 }
  | 105 => some { under := .int .u64, size := 1, bytes := 8, zero := .int .u64 0 }
  | 106 => some { under := .int .u64, size := 1, bytes := 8, zero := .int .u64 0 }
  | 110 => some { under := .pointer 3, size := 1, bytes := 8, zero := .pointer none }
  | 112 => some { under := .pointer 106, size := 1, bytes := 8, zero := .pointer none }
  | 116 => some { under := .struct #[{ name := "_interface", type := 17, offset := 0, embedded := false, tag := "", pkgPath := "runtime", byteOffset := 0 }, { name := "concrete", type := 17, offset := 1, embedded := false, tag := "", pkgPath := "runtime", byteOffset := 8 }, { name := "asserted", type := 17, offset := 2, embedded := false, tag := "", pkgPath := "runtime", byteOffset := 16 }, { name := "missingMethod", type := 9, offset := 3, embedded := false, tag := "", pkgPath := "runtime", byteOffset := 24 }], size := 4, bytes := 40, zero := .agg #[.pointer none, .pointer none, .pointer none, .string .empty] }
  | 117 => some { under := .struct #[{ name := "_interface", type := 17, offset := 0, embedded := false, tag := "", pkgPath := "runtime", byteOffset := 0 }, { name := "concrete", type := 17, offset := 1, embedded := false, tag := "", pkgPath := "runtime", byteOffset := 8 }, { name := "asserted", type := 17, offset := 2, embedded := false, tag := "", pkgPath := "runtime", byteOffset := 16 }, { name := "missingMethod", type := 9, offset := 3, embedded := false, tag := "", pkgPath := "runtime", byteOffset := 24 }], size := 4, bytes := 40, zero := .agg #[.pointer none, .pointer none, .pointer none, .string .empty] }
  | 118 => some { under := .array 0 16, size := 0, bytes := 0, zero := .agg #[] }
  | 119 => some { under := .struct #[{ name := "_", type := 118, offset := 0, embedded := false, tag := "", pkgPath := "runtime", byteOffset := 0 }], size := 0, bytes := 0, zero := .agg #[] }
  | 120 => some { under := .struct #[{ name := "_", type := 118, offset := 0, embedded := false, tag := "", pkgPath := "runtime", byteOffset := 0 }], size := 0, bytes := 0, zero := .agg #[] }
  | 122 => some { under := .int .u8, size := 1, bytes := 1, zero := .int .u8 0 }
  | 123 => some { under := .int .u8, size := 1, bytes := 1, zero := .int .u8 0 }
  | 125 => some { under := .pointer 5, size := 1, bytes := 8, zero := .pointer none }
  | 126 => some { under := .int .i32, size := 1, bytes := 4, zero := .int .i32 0 }
  | 127 => some { under := .int .i32, size := 1, bytes := 4, zero := .int .i32 0 }
  | 128 => some { under := .struct #[{ name := "Size_", type := 12, offset := 0, embedded := false, tag := "", pkgPath := "", byteOffset := 0 }, { name := "PtrBytes", type := 12, offset := 1, embedded := false, tag := "", pkgPath := "", byteOffset := 8 }, { name := "Hash", type := 103, offset := 2, embedded := false, tag := "", pkgPath := "", byteOffset := 16 }, { name := "TFlag", type := 122, offset := 3, embedded := false, tag := "", pkgPath := "", byteOffset := 20 }, { name := "Align_", type := 5, offset := 4, embedded := false, tag := "", pkgPath := "", byteOffset := 21 }, { name := "FieldAlign_", type := 5, offset := 5, embedded := false, tag := "", pkgPath := "", byteOffset := 22 }, { name := "Kind_", type := 123, offset := 6, embedded := false, tag := "", pkgPath := "", byteOffset := 23 }, { name := "Equal", type := 124, offset := 7, embedded := false, tag := "", pkgPath := "", byteOffset := 24 }, { name := "GCData", type := 125, offset := 8, embedded := false, tag := "", pkgPath := "", byteOffset := 32 }, { name := "Str", type := 126, offset := 9, embedded := false, tag := "", pkgPath := "", byteOffset := 40 }, { name := "PtrToThis", type := 127, offset := 10, embedded := false, tag := "", pkgPath := "", byteOffset := 44 }], size := 11, bytes := 48, zero := .agg #[.int .u64 0, .int .u64 0, .int .u32 0, .int .u8 0, .int .u8 0, .int .u8 0, .int .u8 0, .nilFunc, .pointer none, .int .i32 0, .int .i32 0] }
  | 129 => some { under := .struct #[{ name := "Size_", type := 12, offset := 0, embedded := false, tag := "", pkgPath := "", byteOffset := 0 }, { name := "PtrBytes", type := 12, offset := 1, embedded := false, tag := "", pkgPath := "", byteOffset := 8 }, { name := "Hash", type := 103, offset := 2, embedded := false, tag := "", pkgPath := "", byteOffset := 16 }, { name := "TFlag", type := 122, offset := 3, embedded := false, tag := "", pkgPath := "", byteOffset := 20 }, { name := "Align_", type := 5, offset := 4, embedded := false, tag := "", pkgPath := "", byteOffset := 21 }, { name := "FieldAlign_", type := 5, offset := 5, embedded := false, tag := "", pkgPath := "", byteOffset := 22 }, { name := "Kind_", type := 123, offset := 6, embedded := false, tag := "", pkgPath := "", byteOffset := 23 }, { name := "Equal", type := 124, offset := 7, embedded := false, tag := "", pkgPath := "", byteOffset := 24 }, { name := "GCData", type := 125, offset := 8, embedded := false, tag := "", pkgPath := "", byteOffset := 32 }, { name := "Str", type := 126, offset := 9, embedded := false, tag := "", pkgPath := "", byteOffset := 40 }, { name := "PtrToThis", type := 127, offset := 10, embedded := false, tag := "", pkgPath := "", byteOffset := 44 }], size := 11, bytes := 48, zero := .agg #[.int .u64 0, .int .u64 0, .int .u32 0, .int .u8 0, .int .u8 0, .int .u8 0, .int .u8 0, .nilFunc, .pointer none, .int .i32 0, .int .i32 0] }
  | 130 => some { under := .unsafePointer, size := 1, bytes := 8, zero := .pointer none }
  | _ => none

theorem tab_2 : tab 2 = some { under := .int .i64, size := 1, bytes := 8, zero := .int .i64 0 } := rfl
theorem tab_3 : tab 3 = some { under := .int .i64, size := 1, bytes := 8, zero := .int .i64 0 } := rfl
theorem tab_4 : tab 4 = some { under := .bool, size := 1, bytes := 1, zero := .bool false } := rfl
theorem tab_5 : tab 5 = some { under := .int .u8, size := 1, bytes := 1, zero := .int .u8 0 } := rfl
theorem tab_6 : tab 6 = some { under := .int .u8, size := 1, bytes := 1, zero := .int .u8 0 } := rfl
theorem tab_7 : tab 7 = some { under := .struct #[{ name := "x", type := 2, offset := 0, embedded := false, tag := "", pkgPath := "runtime", byteOffset := 0 }, { name := "y", type := 3, offset := 1, embedded := false, tag := "", pkgPath := "runtime", byteOffset := 8 }, { name := "signed", type := 4, offset := 2, embedded := false, tag := "", pkgPath := "runtime", byteOffset := 16 }, { name := "code", type := 6, offset := 3, embedded := false, tag := "", pkgPath := "runtime", byteOffset := 17 }], size := 4, bytes := 24, zero := .agg #[.int .i64 0, .int .i64 0, .bool false, .int .u8 0] } := rfl
theorem tab_8 : tab 8 = some { under := .struct #[{ name := "x", type := 2, offset := 0, embedded := false, tag := "", pkgPath := "runtime", byteOffset := 0 }, { name := "y", type := 3, offset := 1, embedded := false, tag := "", pkgPath := "runtime", byteOffset := 8 }, { name := "signed", type := 4, offset := 2, embedded := false, tag := "", pkgPath := "runtime", byteOffset := 16 }, { name := "code", type := 6, offset := 3, embedded := false, tag := "", pkgPath := "runtime", byteOffset := 17 }], size := 4, bytes := 24, zero := .agg #[.int .i64 0, .int .i64 0, .bool false, .int .u8 0] } := rfl
theorem tab_9 : tab 9 = some { under := .string, size := 1, bytes := 16, zero := .string .empty } := rfl
theorem tab_10 : tab 10 = some { under := .string, size := 1, bytes := 16, zero := .string .empty } := rfl
theorem tab_11 : tab 11 = some { under := .string, size := 1, bytes := 16, zero := .string .empty } := rfl
theorem tab_12 : tab 12 = some { under := .int .u64, size := 1, bytes := 8, zero := .int .u64 0 } := rfl
theorem tab_13 : tab 13 = some { under := .struct #[{ name := "msg", type := 9, offset := 0, embedded := false, tag := "", pkgPath := "runtime", byteOffset := 0 }, { name := "addr", type := 12, offset := 1, embedded := false, tag := "", pkgPath := "runtime", byteOffset := 16 }], size := 2, bytes := 24, zero := .agg #[.string .empty, .int .u64 0] } := rfl
theorem tab_14 : tab 14 = some { under := .struct #[{ name := "msg", type := 9, offset := 0, embedded := false, tag := "", pkgPath := "runtime", byteOffset := 0 }, { name := "addr", type := 12, offset := 1, embedded := false, tag := "", pkgPath := "runtime", byteOffset := 16 }], size := 2, bytes := 24, zero := .agg #[.string .empty, .int .u64 0] } := rfl
theorem tab_15 : tab 15 = some { under := .pointer 117, size := 1, bytes := 8, zero := .pointer none } := rfl
theorem tab_16 : tab 16 = some { under := .pointer 120, size := 1, bytes := 8, zero := .pointer none } := rfl
theorem tab_17 : tab 17 = some { under := .pointer 129, size := 1, bytes := 8, zero := .pointer none } := rfl
theorem tab_18 : tab 18 = some { under := .struct #[{ name := "typ", type := 17, offset := 0, embedded := false, tag := "", pkgPath := "internal/runtime/maps", byteOffset := 0 }], size := 1, bytes := 8, zero := .agg #[.pointer none] } := rfl
theorem tab_19 : tab 19 = some { under := .struct #[{ name := "typ", type := 17, offset := 0, embedded := false, tag := "", pkgPath := "internal/runtime/maps", byteOffset := 0 }], size := 1, bytes := 8, zero := .agg #[.pointer none] } := rfl
theorem tab_21 : tab 21 = some { under := .int .i32, size := 1, bytes := 4, zero := .int .i32 0 } := rfl
theorem tab_22 : tab 22 = some { under := .slice 30, size := 1, bytes := 24, zero := .slice none 0 0 } := rfl
theorem tab_24 : tab 24 = some { under := .slice 31, size := 1, bytes := 24, zero := .slice none 0 0 } := rfl
theorem tab_25 : tab 25 = some { under := .slice 3, size := 1, bytes := 24, zero := .slice none 0 0 } := rfl
theorem tab_28 : tab 28 = some { under := .map 3 3, size := 1, bytes := 8, zero := .map none } := rfl
theorem tab_29 : tab 29 = some { under := .struct #[{ name := "Kind", type := 3, offset := 0, embedded := false, tag := "", pkgPath := "", byteOffset := 0 }, { name := "Core", type := 3, offset := 1, embedded := false, tag := "", pkgPath := "", byteOffset := 8 }, { name := "Thing", type := 3, offset := 2, embedded := false, tag := "", pkgPath := "", byteOffset := 16 }], size := 3, bytes := 24, zero := .agg #[.int .i64 0, .int .i64 0, .int .i64 0], cmp := true } := rfl
theorem tab_30 : tab 30 = some { under := .struct #[{ name := "Kind", type := 3, offset := 0, embedded := false, tag := "", pkgPath := "", byteOffset := 0 }, { name := "Core", type := 3, offset := 1, embedded := false, tag := "", pkgPath := "", byteOffset := 8 }, { name := "Thing", type := 3, offset := 2, embedded := false, tag := "", pkgPath := "", byteOffset := 16 }], size := 3, bytes := 24, zero := .agg #[.int .i64 0, .int .i64 0, .int .i64 0], cmp := true } := rfl
theorem tab_31 : tab 31 = some { under := .int .i64, size := 1, bytes := 8, zero := .int .i64 0 } := rfl
theorem tab_36 : tab 36 = some { under := .slice 41, size := 1, bytes := 24, zero := .slice none 0 0 } := rfl
theorem tab_40 : tab 40 = some { under := .struct #[{ name := "When", type := 3, offset := 0, embedded := false, tag := "", pkgPath := "", byteOffset := 0 }, { name := "Soft", type := 3, offset := 1, embedded := false, tag := "", pkgPath := "", byteOffset := 8 }], size := 2, bytes := 16, zero := .agg #[.int .i64 0, .int .i64 0], cmp := true } := rfl
theorem tab_41 : tab 41 = some { under := .struct #[{ name := "When", type := 3, offset := 0, embedded := false, tag := "", pkgPath := "", byteOffset := 0 }, { name := "Soft", type := 3, offset := 1, embedded := false, tag := "", pkgPath := "", byteOffset := 8 }], size := 2, bytes := 16, zero := .agg #[.int .i64 0, .int .i64 0], cmp := true } := rfl
theorem tab_48 : tab 48 = some { under := .slice 52, size := 1, bytes := 24, zero := .slice none 0 0 } := rfl
theorem tab_51 : tab 51 = some { under := .struct #[{ name := "Kind", type := 3, offset := 0, embedded := false, tag := "", pkgPath := "", byteOffset := 0 }, { name := "Item", type := 3, offset := 1, embedded := false, tag := "", pkgPath := "", byteOffset := 8 }], size := 2, bytes := 16, zero := .agg #[.int .i64 0, .int .i64 0], cmp := true } := rfl
theorem tab_52 : tab 52 = some { under := .struct #[{ name := "Kind", type := 3, offset := 0, embedded := false, tag := "", pkgPath := "", byteOffset := 0 }, { name := "Item", type := 3, offset := 1, embedded := false, tag := "", pkgPath := "", byteOffset := 8 }], size := 2, bytes := 16, zero := .agg #[.int .i64 0, .int .i64 0], cmp := true } := rfl
theorem tab_64 : tab 64 = some { under := .pointer 68, size := 1, bytes := 8, zero := .pointer none } := rfl
theorem tab_65 : tab 65 = some { under := .array 8 4, size := 8, bytes := 8, zero := .agg #[.bool false, .bool false, .bool false, .bool false, .bool false, .bool false, .bool false, .bool false], cmp := true } := rfl
theorem tab_66 : tab 66 = some { under := .slice 71, size := 1, bytes := 24, zero := .slice none 0 0 } := rfl
theorem tab_67 : tab 67 = some { under := .struct #[{ name := "in", type := 65, offset := 0, embedded := false, tag := "", pkgPath := "corebell/grace", byteOffset := 0 }, { name := "waits", type := 66, offset := 8, embedded := false, tag := "", pkgPath := "corebell/grace", byteOffset := 8 }, { name := "freed", type := 25, offset := 9, embedded := false, tag := "", pkgPath := "corebell/grace", byteOffset := 32 }], size := 10, bytes := 56, zero := .agg #[.bool false, .bool false, .bool false, .bool false, .bool false, .bool false, .bool false, .bool false, .slice none 0 0, .slice none 0 0] } := rfl
theorem tab_68 : tab 68 = some { under := .struct #[{ name := "in", type := 65, offset := 0, embedded := false, tag := "", pkgPath := "corebell/grace", byteOffset := 0 }, { name := "waits", type := 66, offset := 8, embedded := false, tag := "", pkgPath := "corebell/grace", byteOffset := 8 }, { name := "freed", type := 25, offset := 9, embedded := false, tag := "", pkgPath := "corebell/grace", byteOffset := 32 }], size := 10, bytes := 56, zero := .agg #[.bool false, .bool false, .bool false, .bool false, .bool false, .bool false, .bool false, .bool false, .slice none 0 0, .slice none 0 0] } := rfl
theorem tab_70 : tab 70 = some { under := .struct #[{ name := "thing", type := 3, offset := 0, embedded := false, tag := "", pkgPath := "corebell/grace", byteOffset := 0 }, { name := "cores", type := 65, offset := 1, embedded := false, tag := "", pkgPath := "corebell/grace", byteOffset := 8 }], size := 9, bytes := 16, zero := .agg #[.int .i64 0, .bool false, .bool false, .bool false, .bool false, .bool false, .bool false, .bool false, .bool false], cmp := true } := rfl
theorem tab_71 : tab 71 = some { under := .struct #[{ name := "thing", type := 3, offset := 0, embedded := false, tag := "", pkgPath := "corebell/grace", byteOffset := 0 }, { name := "cores", type := 65, offset := 1, embedded := false, tag := "", pkgPath := "corebell/grace", byteOffset := 8 }], size := 9, bytes := 16, zero := .agg #[.int .i64 0, .bool false, .bool false, .bool false, .bool false, .bool false, .bool false, .bool false, .bool false], cmp := true } := rfl
theorem tab_73 : tab 73 = some { under := .pointer 75, size := 1, bytes := 8, zero := .pointer none } := rfl
theorem tab_74 : tab 74 = some { under := .struct #[{ name := "pending", type := 65, offset := 0, embedded := false, tag := "", pkgPath := "corebell/soft", byteOffset := 0 }, { name := "raises", type := 36, offset := 8, embedded := false, tag := "", pkgPath := "corebell/soft", byteOffset := 8 }, { name := "ran", type := 25, offset := 9, embedded := false, tag := "", pkgPath := "corebell/soft", byteOffset := 32 }], size := 10, bytes := 56, zero := .agg #[.bool false, .bool false, .bool false, .bool false, .bool false, .bool false, .bool false, .bool false, .slice none 0 0, .slice none 0 0] } := rfl
theorem tab_75 : tab 75 = some { under := .struct #[{ name := "pending", type := 65, offset := 0, embedded := false, tag := "", pkgPath := "corebell/soft", byteOffset := 0 }, { name := "raises", type := 36, offset := 8, embedded := false, tag := "", pkgPath := "corebell/soft", byteOffset := 8 }, { name := "ran", type := 25, offset := 9, embedded := false, tag := "", pkgPath := "corebell/soft", byteOffset := 32 }], size := 10, bytes := 56, zero := .agg #[.bool false, .bool false, .bool false, .bool false, .bool false, .bool false, .bool false, .bool false, .slice none 0 0, .slice none 0 0] } := rfl
theorem tab_77 : tab 77 = some { under := .slice 25, size := 1, bytes := 24, zero := .slice none 0 0 } := rfl
theorem tab_79 : tab 79 = some { under := .pointer 81, size := 1, bytes := 8, zero := .pointer none } := rfl
theorem tab_80 : tab 80 = some { under := .struct #[{ name := "waits", type := 25, offset := 0, embedded := false, tag := "", pkgPath := "corebell/work", byteOffset := 0 }, { name := "begun", type := 3, offset := 1, embedded := false, tag := "", pkgPath := "corebell/work", byteOffset := 24 }, { name := "done", type := 25, offset := 2, embedded := false, tag := "", pkgPath := "corebell/work", byteOffset := 32 }], size := 3, bytes := 56, zero := .agg #[.slice none 0 0, .int .i64 0, .slice none 0 0] } := rfl
theorem tab_81 : tab 81 = some { under := .struct #[{ name := "waits", type := 25, offset := 0, embedded := false, tag := "", pkgPath := "corebell/work", byteOffset := 0 }, { name := "begun", type := 3, offset := 1, embedded := false, tag := "", pkgPath := "corebell/work", byteOffset := 24 }, { name := "done", type := 25, offset := 2, embedded := false, tag := "", pkgPath := "corebell/work", byteOffset := 32 }], size := 3, bytes := 56, zero := .agg #[.slice none 0 0, .int .i64 0, .slice none 0 0] } := rfl
theorem tab_86 : tab 86 = some { under := .slice 4, size := 1, bytes := 24, zero := .slice none 0 0 } := rfl
theorem tab_92 : tab 92 = some { under := .int .u64, size := 1, bytes := 8, zero := .int .u64 0 } := rfl
theorem tab_95 : tab 95 = some { under := .int .i64, size := 1, bytes := 8, zero := .int .i64 0 } := rfl
theorem tab_103 : tab 103 = some { under := .int .u32, size := 1, bytes := 4, zero := .int .u32 0 } := rfl
theorem tab_105 : tab 105 = some { under := .int .u64, size := 1, bytes := 8, zero := .int .u64 0 } := rfl
theorem tab_106 : tab 106 = some { under := .int .u64, size := 1, bytes := 8, zero := .int .u64 0 } := rfl
theorem tab_110 : tab 110 = some { under := .pointer 3, size := 1, bytes := 8, zero := .pointer none } := rfl
theorem tab_112 : tab 112 = some { under := .pointer 106, size := 1, bytes := 8, zero := .pointer none } := rfl
theorem tab_116 : tab 116 = some { under := .struct #[{ name := "_interface", type := 17, offset := 0, embedded := false, tag := "", pkgPath := "runtime", byteOffset := 0 }, { name := "concrete", type := 17, offset := 1, embedded := false, tag := "", pkgPath := "runtime", byteOffset := 8 }, { name := "asserted", type := 17, offset := 2, embedded := false, tag := "", pkgPath := "runtime", byteOffset := 16 }, { name := "missingMethod", type := 9, offset := 3, embedded := false, tag := "", pkgPath := "runtime", byteOffset := 24 }], size := 4, bytes := 40, zero := .agg #[.pointer none, .pointer none, .pointer none, .string .empty] } := rfl
theorem tab_117 : tab 117 = some { under := .struct #[{ name := "_interface", type := 17, offset := 0, embedded := false, tag := "", pkgPath := "runtime", byteOffset := 0 }, { name := "concrete", type := 17, offset := 1, embedded := false, tag := "", pkgPath := "runtime", byteOffset := 8 }, { name := "asserted", type := 17, offset := 2, embedded := false, tag := "", pkgPath := "runtime", byteOffset := 16 }, { name := "missingMethod", type := 9, offset := 3, embedded := false, tag := "", pkgPath := "runtime", byteOffset := 24 }], size := 4, bytes := 40, zero := .agg #[.pointer none, .pointer none, .pointer none, .string .empty] } := rfl
theorem tab_118 : tab 118 = some { under := .array 0 16, size := 0, bytes := 0, zero := .agg #[] } := rfl
theorem tab_119 : tab 119 = some { under := .struct #[{ name := "_", type := 118, offset := 0, embedded := false, tag := "", pkgPath := "runtime", byteOffset := 0 }], size := 0, bytes := 0, zero := .agg #[] } := rfl
theorem tab_120 : tab 120 = some { under := .struct #[{ name := "_", type := 118, offset := 0, embedded := false, tag := "", pkgPath := "runtime", byteOffset := 0 }], size := 0, bytes := 0, zero := .agg #[] } := rfl
theorem tab_122 : tab 122 = some { under := .int .u8, size := 1, bytes := 1, zero := .int .u8 0 } := rfl
theorem tab_123 : tab 123 = some { under := .int .u8, size := 1, bytes := 1, zero := .int .u8 0 } := rfl
theorem tab_125 : tab 125 = some { under := .pointer 5, size := 1, bytes := 8, zero := .pointer none } := rfl
theorem tab_126 : tab 126 = some { under := .int .i32, size := 1, bytes := 4, zero := .int .i32 0 } := rfl
theorem tab_127 : tab 127 = some { under := .int .i32, size := 1, bytes := 4, zero := .int .i32 0 } := rfl
theorem tab_128 : tab 128 = some { under := .struct #[{ name := "Size_", type := 12, offset := 0, embedded := false, tag := "", pkgPath := "", byteOffset := 0 }, { name := "PtrBytes", type := 12, offset := 1, embedded := false, tag := "", pkgPath := "", byteOffset := 8 }, { name := "Hash", type := 103, offset := 2, embedded := false, tag := "", pkgPath := "", byteOffset := 16 }, { name := "TFlag", type := 122, offset := 3, embedded := false, tag := "", pkgPath := "", byteOffset := 20 }, { name := "Align_", type := 5, offset := 4, embedded := false, tag := "", pkgPath := "", byteOffset := 21 }, { name := "FieldAlign_", type := 5, offset := 5, embedded := false, tag := "", pkgPath := "", byteOffset := 22 }, { name := "Kind_", type := 123, offset := 6, embedded := false, tag := "", pkgPath := "", byteOffset := 23 }, { name := "Equal", type := 124, offset := 7, embedded := false, tag := "", pkgPath := "", byteOffset := 24 }, { name := "GCData", type := 125, offset := 8, embedded := false, tag := "", pkgPath := "", byteOffset := 32 }, { name := "Str", type := 126, offset := 9, embedded := false, tag := "", pkgPath := "", byteOffset := 40 }, { name := "PtrToThis", type := 127, offset := 10, embedded := false, tag := "", pkgPath := "", byteOffset := 44 }], size := 11, bytes := 48, zero := .agg #[.int .u64 0, .int .u64 0, .int .u32 0, .int .u8 0, .int .u8 0, .int .u8 0, .int .u8 0, .nilFunc, .pointer none, .int .i32 0, .int .i32 0] } := rfl
theorem tab_129 : tab 129 = some { under := .struct #[{ name := "Size_", type := 12, offset := 0, embedded := false, tag := "", pkgPath := "", byteOffset := 0 }, { name := "PtrBytes", type := 12, offset := 1, embedded := false, tag := "", pkgPath := "", byteOffset := 8 }, { name := "Hash", type := 103, offset := 2, embedded := false, tag := "", pkgPath := "", byteOffset := 16 }, { name := "TFlag", type := 122, offset := 3, embedded := false, tag := "", pkgPath := "", byteOffset := 20 }, { name := "Align_", type := 5, offset := 4, embedded := false, tag := "", pkgPath := "", byteOffset := 21 }, { name := "FieldAlign_", type := 5, offset := 5, embedded := false, tag := "", pkgPath := "", byteOffset := 22 }, { name := "Kind_", type := 123, offset := 6, embedded := false, tag := "", pkgPath := "", byteOffset := 23 }, { name := "Equal", type := 124, offset := 7, embedded := false, tag := "", pkgPath := "", byteOffset := 24 }, { name := "GCData", type := 125, offset := 8, embedded := false, tag := "", pkgPath := "", byteOffset := 32 }, { name := "Str", type := 126, offset := 9, embedded := false, tag := "", pkgPath := "", byteOffset := 40 }, { name := "PtrToThis", type := 127, offset := 10, embedded := false, tag := "", pkgPath := "", byteOffset := 44 }], size := 11, bytes := 48, zero := .agg #[.int .u64 0, .int .u64 0, .int .u32 0, .int .u8 0, .int .u8 0, .int .u8 0, .int .u8 0, .nilFunc, .pointer none, .int .i32 0, .int .i32 0] } := rfl
theorem tab_130 : tab 130 = some { under := .unsafePointer, size := 1, bytes := 8, zero := .pointer none } := rfl

theorem info_2 : (Try.prog.info? 2).map (fun i => (i.zero, i.size, i.bytes)) = some (some (.int .i64 0), 1, 8) := by kernel_rfl
theorem info_3 : (Try.prog.info? 3).map (fun i => (i.zero, i.size, i.bytes)) = some (some (.int .i64 0), 1, 8) := by kernel_rfl
theorem info_4 : (Try.prog.info? 4).map (fun i => (i.zero, i.size, i.bytes)) = some (some (.bool false), 1, 1) := by kernel_rfl
theorem info_5 : (Try.prog.info? 5).map (fun i => (i.zero, i.size, i.bytes)) = some (some (.int .u8 0), 1, 1) := by kernel_rfl
theorem info_6 : (Try.prog.info? 6).map (fun i => (i.zero, i.size, i.bytes)) = some (some (.int .u8 0), 1, 1) := by kernel_rfl
theorem info_7 : (Try.prog.info? 7).map (fun i => (i.zero, i.size, i.bytes)) = some (some (.agg #[.int .i64 0, .int .i64 0, .bool false, .int .u8 0]), 4, 24) := by kernel_rfl
theorem info_8 : (Try.prog.info? 8).map (fun i => (i.zero, i.size, i.bytes)) = some (some (.agg #[.int .i64 0, .int .i64 0, .bool false, .int .u8 0]), 4, 24) := by kernel_rfl
theorem info_9 : (Try.prog.info? 9).map (fun i => (i.zero, i.size, i.bytes)) = some (some (.string .empty), 1, 16) := by kernel_rfl
theorem info_10 : (Try.prog.info? 10).map (fun i => (i.zero, i.size, i.bytes)) = some (some (.string .empty), 1, 16) := by kernel_rfl
theorem info_11 : (Try.prog.info? 11).map (fun i => (i.zero, i.size, i.bytes)) = some (some (.string .empty), 1, 16) := by kernel_rfl
theorem info_12 : (Try.prog.info? 12).map (fun i => (i.zero, i.size, i.bytes)) = some (some (.int .u64 0), 1, 8) := by kernel_rfl
theorem info_13 : (Try.prog.info? 13).map (fun i => (i.zero, i.size, i.bytes)) = some (some (.agg #[.string .empty, .int .u64 0]), 2, 24) := by kernel_rfl
theorem info_14 : (Try.prog.info? 14).map (fun i => (i.zero, i.size, i.bytes)) = some (some (.agg #[.string .empty, .int .u64 0]), 2, 24) := by kernel_rfl
theorem info_15 : (Try.prog.info? 15).map (fun i => (i.zero, i.size, i.bytes)) = some (some (.pointer none), 1, 8) := by kernel_rfl
theorem info_16 : (Try.prog.info? 16).map (fun i => (i.zero, i.size, i.bytes)) = some (some (.pointer none), 1, 8) := by kernel_rfl
theorem info_17 : (Try.prog.info? 17).map (fun i => (i.zero, i.size, i.bytes)) = some (some (.pointer none), 1, 8) := by kernel_rfl
theorem info_18 : (Try.prog.info? 18).map (fun i => (i.zero, i.size, i.bytes)) = some (some (.agg #[.pointer none]), 1, 8) := by kernel_rfl
theorem info_19 : (Try.prog.info? 19).map (fun i => (i.zero, i.size, i.bytes)) = some (some (.agg #[.pointer none]), 1, 8) := by kernel_rfl
theorem info_21 : (Try.prog.info? 21).map (fun i => (i.zero, i.size, i.bytes)) = some (some (.int .i32 0), 1, 4) := by kernel_rfl
theorem info_22 : (Try.prog.info? 22).map (fun i => (i.zero, i.size, i.bytes)) = some (some (.slice none 0 0), 1, 24) := by kernel_rfl
theorem info_24 : (Try.prog.info? 24).map (fun i => (i.zero, i.size, i.bytes)) = some (some (.slice none 0 0), 1, 24) := by kernel_rfl
theorem info_25 : (Try.prog.info? 25).map (fun i => (i.zero, i.size, i.bytes)) = some (some (.slice none 0 0), 1, 24) := by kernel_rfl
theorem info_28 : (Try.prog.info? 28).map (fun i => (i.zero, i.size, i.bytes)) = some (some (.map none), 1, 8) := by kernel_rfl
theorem info_29 : (Try.prog.info? 29).map (fun i => (i.zero, i.size, i.bytes)) = some (some (.agg #[.int .i64 0, .int .i64 0, .int .i64 0]), 3, 24) := by kernel_rfl
theorem info_30 : (Try.prog.info? 30).map (fun i => (i.zero, i.size, i.bytes)) = some (some (.agg #[.int .i64 0, .int .i64 0, .int .i64 0]), 3, 24) := by kernel_rfl
theorem info_31 : (Try.prog.info? 31).map (fun i => (i.zero, i.size, i.bytes)) = some (some (.int .i64 0), 1, 8) := by kernel_rfl
theorem info_36 : (Try.prog.info? 36).map (fun i => (i.zero, i.size, i.bytes)) = some (some (.slice none 0 0), 1, 24) := by kernel_rfl
theorem info_40 : (Try.prog.info? 40).map (fun i => (i.zero, i.size, i.bytes)) = some (some (.agg #[.int .i64 0, .int .i64 0]), 2, 16) := by kernel_rfl
theorem info_41 : (Try.prog.info? 41).map (fun i => (i.zero, i.size, i.bytes)) = some (some (.agg #[.int .i64 0, .int .i64 0]), 2, 16) := by kernel_rfl
theorem info_48 : (Try.prog.info? 48).map (fun i => (i.zero, i.size, i.bytes)) = some (some (.slice none 0 0), 1, 24) := by kernel_rfl
theorem info_51 : (Try.prog.info? 51).map (fun i => (i.zero, i.size, i.bytes)) = some (some (.agg #[.int .i64 0, .int .i64 0]), 2, 16) := by kernel_rfl
theorem info_52 : (Try.prog.info? 52).map (fun i => (i.zero, i.size, i.bytes)) = some (some (.agg #[.int .i64 0, .int .i64 0]), 2, 16) := by kernel_rfl
theorem info_64 : (Try.prog.info? 64).map (fun i => (i.zero, i.size, i.bytes)) = some (some (.pointer none), 1, 8) := by kernel_rfl
theorem info_65 : (Try.prog.info? 65).map (fun i => (i.zero, i.size, i.bytes)) = some (some (.agg #[.bool false, .bool false, .bool false, .bool false, .bool false, .bool false, .bool false, .bool false]), 8, 8) := by kernel_rfl
theorem info_66 : (Try.prog.info? 66).map (fun i => (i.zero, i.size, i.bytes)) = some (some (.slice none 0 0), 1, 24) := by kernel_rfl
theorem info_67 : (Try.prog.info? 67).map (fun i => (i.zero, i.size, i.bytes)) = some (some (.agg #[.bool false, .bool false, .bool false, .bool false, .bool false, .bool false, .bool false, .bool false, .slice none 0 0, .slice none 0 0]), 10, 56) := by kernel_rfl
theorem info_68 : (Try.prog.info? 68).map (fun i => (i.zero, i.size, i.bytes)) = some (some (.agg #[.bool false, .bool false, .bool false, .bool false, .bool false, .bool false, .bool false, .bool false, .slice none 0 0, .slice none 0 0]), 10, 56) := by kernel_rfl
theorem info_70 : (Try.prog.info? 70).map (fun i => (i.zero, i.size, i.bytes)) = some (some (.agg #[.int .i64 0, .bool false, .bool false, .bool false, .bool false, .bool false, .bool false, .bool false, .bool false]), 9, 16) := by kernel_rfl
theorem info_71 : (Try.prog.info? 71).map (fun i => (i.zero, i.size, i.bytes)) = some (some (.agg #[.int .i64 0, .bool false, .bool false, .bool false, .bool false, .bool false, .bool false, .bool false, .bool false]), 9, 16) := by kernel_rfl
theorem info_73 : (Try.prog.info? 73).map (fun i => (i.zero, i.size, i.bytes)) = some (some (.pointer none), 1, 8) := by kernel_rfl
theorem info_74 : (Try.prog.info? 74).map (fun i => (i.zero, i.size, i.bytes)) = some (some (.agg #[.bool false, .bool false, .bool false, .bool false, .bool false, .bool false, .bool false, .bool false, .slice none 0 0, .slice none 0 0]), 10, 56) := by kernel_rfl
theorem info_75 : (Try.prog.info? 75).map (fun i => (i.zero, i.size, i.bytes)) = some (some (.agg #[.bool false, .bool false, .bool false, .bool false, .bool false, .bool false, .bool false, .bool false, .slice none 0 0, .slice none 0 0]), 10, 56) := by kernel_rfl
theorem info_77 : (Try.prog.info? 77).map (fun i => (i.zero, i.size, i.bytes)) = some (some (.slice none 0 0), 1, 24) := by kernel_rfl
theorem info_79 : (Try.prog.info? 79).map (fun i => (i.zero, i.size, i.bytes)) = some (some (.pointer none), 1, 8) := by kernel_rfl
theorem info_80 : (Try.prog.info? 80).map (fun i => (i.zero, i.size, i.bytes)) = some (some (.agg #[.slice none 0 0, .int .i64 0, .slice none 0 0]), 3, 56) := by kernel_rfl
theorem info_81 : (Try.prog.info? 81).map (fun i => (i.zero, i.size, i.bytes)) = some (some (.agg #[.slice none 0 0, .int .i64 0, .slice none 0 0]), 3, 56) := by kernel_rfl
theorem info_86 : (Try.prog.info? 86).map (fun i => (i.zero, i.size, i.bytes)) = some (some (.slice none 0 0), 1, 24) := by kernel_rfl
theorem info_92 : (Try.prog.info? 92).map (fun i => (i.zero, i.size, i.bytes)) = some (some (.int .u64 0), 1, 8) := by kernel_rfl
theorem info_95 : (Try.prog.info? 95).map (fun i => (i.zero, i.size, i.bytes)) = some (some (.int .i64 0), 1, 8) := by kernel_rfl
theorem info_103 : (Try.prog.info? 103).map (fun i => (i.zero, i.size, i.bytes)) = some (some (.int .u32 0), 1, 4) := by kernel_rfl
theorem info_105 : (Try.prog.info? 105).map (fun i => (i.zero, i.size, i.bytes)) = some (some (.int .u64 0), 1, 8) := by kernel_rfl
theorem info_106 : (Try.prog.info? 106).map (fun i => (i.zero, i.size, i.bytes)) = some (some (.int .u64 0), 1, 8) := by kernel_rfl
theorem info_110 : (Try.prog.info? 110).map (fun i => (i.zero, i.size, i.bytes)) = some (some (.pointer none), 1, 8) := by kernel_rfl
theorem info_112 : (Try.prog.info? 112).map (fun i => (i.zero, i.size, i.bytes)) = some (some (.pointer none), 1, 8) := by kernel_rfl
theorem info_116 : (Try.prog.info? 116).map (fun i => (i.zero, i.size, i.bytes)) = some (some (.agg #[.pointer none, .pointer none, .pointer none, .string .empty]), 4, 40) := by kernel_rfl
theorem info_117 : (Try.prog.info? 117).map (fun i => (i.zero, i.size, i.bytes)) = some (some (.agg #[.pointer none, .pointer none, .pointer none, .string .empty]), 4, 40) := by kernel_rfl
theorem info_118 : (Try.prog.info? 118).map (fun i => (i.zero, i.size, i.bytes)) = some (some (.agg #[]), 0, 0) := by kernel_rfl
theorem info_119 : (Try.prog.info? 119).map (fun i => (i.zero, i.size, i.bytes)) = some (some (.agg #[]), 0, 0) := by kernel_rfl
theorem info_120 : (Try.prog.info? 120).map (fun i => (i.zero, i.size, i.bytes)) = some (some (.agg #[]), 0, 0) := by kernel_rfl
theorem info_122 : (Try.prog.info? 122).map (fun i => (i.zero, i.size, i.bytes)) = some (some (.int .u8 0), 1, 1) := by kernel_rfl
theorem info_123 : (Try.prog.info? 123).map (fun i => (i.zero, i.size, i.bytes)) = some (some (.int .u8 0), 1, 1) := by kernel_rfl
theorem info_125 : (Try.prog.info? 125).map (fun i => (i.zero, i.size, i.bytes)) = some (some (.pointer none), 1, 8) := by kernel_rfl
theorem info_126 : (Try.prog.info? 126).map (fun i => (i.zero, i.size, i.bytes)) = some (some (.int .i32 0), 1, 4) := by kernel_rfl
theorem info_127 : (Try.prog.info? 127).map (fun i => (i.zero, i.size, i.bytes)) = some (some (.int .i32 0), 1, 4) := by kernel_rfl
theorem info_128 : (Try.prog.info? 128).map (fun i => (i.zero, i.size, i.bytes)) = some (some (.agg #[.int .u64 0, .int .u64 0, .int .u32 0, .int .u8 0, .int .u8 0, .int .u8 0, .int .u8 0, .nilFunc, .pointer none, .int .i32 0, .int .i32 0]), 11, 48) := by kernel_rfl
theorem info_129 : (Try.prog.info? 129).map (fun i => (i.zero, i.size, i.bytes)) = some (some (.agg #[.int .u64 0, .int .u64 0, .int .u32 0, .int .u8 0, .int .u8 0, .int .u8 0, .int .u8 0, .nilFunc, .pointer none, .int .i32 0, .int .i32 0]), 11, 48) := by kernel_rfl
theorem info_130 : (Try.prog.info? 130).map (fun i => (i.zero, i.size, i.bytes)) = some (some (.pointer none), 1, 8) := by kernel_rfl

theorem tabOk : Go.Ab.TabOk Try.prog tab := by
  intro t i h
  unfold tab at h
  split at h
  · cases h; exact Go.Ab.tabRow Try.underlying2 info_2
  · cases h; exact Go.Ab.tabRow Try.underlying3 info_3
  · cases h; exact Go.Ab.tabRow Try.underlying4 info_4
  · cases h; exact Go.Ab.tabRow Try.underlying5 info_5
  · cases h; exact Go.Ab.tabRow Try.underlying6 info_6
  · cases h; exact Go.Ab.tabRow Try.underlying7 info_7
  · cases h; exact Go.Ab.tabRow Try.underlying8 info_8
  · cases h; exact Go.Ab.tabRow Try.underlying9 info_9
  · cases h; exact Go.Ab.tabRow Try.underlying10 info_10
  · cases h; exact Go.Ab.tabRow Try.underlying11 info_11
  · cases h; exact Go.Ab.tabRow Try.underlying12 info_12
  · cases h; exact Go.Ab.tabRow Try.underlying13 info_13
  · cases h; exact Go.Ab.tabRow Try.underlying14 info_14
  · cases h; exact Go.Ab.tabRow Try.underlying15 info_15
  · cases h; exact Go.Ab.tabRow Try.underlying16 info_16
  · cases h; exact Go.Ab.tabRow Try.underlying17 info_17
  · cases h; exact Go.Ab.tabRow Try.underlying18 info_18
  · cases h; exact Go.Ab.tabRow Try.underlying19 info_19
  · cases h; exact Go.Ab.tabRow Try.underlying21 info_21
  · cases h; exact Go.Ab.tabRow Try.underlying22 info_22
  · cases h; exact Go.Ab.tabRow Try.underlying24 info_24
  · cases h; exact Go.Ab.tabRow Try.underlying25 info_25
  · cases h; exact Go.Ab.tabRow Try.underlying28 info_28
  · cases h; exact Go.Ab.tabRowC Try.underlying29 info_29 ⟨by kernel_rfl, by kernel_rfl⟩
  · cases h; exact Go.Ab.tabRowC Try.underlying30 info_30 ⟨by kernel_rfl, by kernel_rfl⟩
  · cases h; exact Go.Ab.tabRow Try.underlying31 info_31
  · cases h; exact Go.Ab.tabRow Try.underlying36 info_36
  · cases h; exact Go.Ab.tabRowC Try.underlying40 info_40 ⟨by kernel_rfl, by kernel_rfl⟩
  · cases h; exact Go.Ab.tabRowC Try.underlying41 info_41 ⟨by kernel_rfl, by kernel_rfl⟩
  · cases h; exact Go.Ab.tabRow Try.underlying48 info_48
  · cases h; exact Go.Ab.tabRowC Try.underlying51 info_51 ⟨by kernel_rfl, by kernel_rfl⟩
  · cases h; exact Go.Ab.tabRowC Try.underlying52 info_52 ⟨by kernel_rfl, by kernel_rfl⟩
  · cases h; exact Go.Ab.tabRow Try.underlying64 info_64
  · cases h; exact Go.Ab.tabRowC Try.underlying65 info_65 ⟨by kernel_rfl, by kernel_rfl⟩
  · cases h; exact Go.Ab.tabRow Try.underlying66 info_66
  · cases h; exact Go.Ab.tabRow Try.underlying67 info_67
  · cases h; exact Go.Ab.tabRow Try.underlying68 info_68
  · cases h; exact Go.Ab.tabRowC Try.underlying70 info_70 ⟨by kernel_rfl, by kernel_rfl⟩
  · cases h; exact Go.Ab.tabRowC Try.underlying71 info_71 ⟨by kernel_rfl, by kernel_rfl⟩
  · cases h; exact Go.Ab.tabRow Try.underlying73 info_73
  · cases h; exact Go.Ab.tabRow Try.underlying74 info_74
  · cases h; exact Go.Ab.tabRow Try.underlying75 info_75
  · cases h; exact Go.Ab.tabRow Try.underlying77 info_77
  · cases h; exact Go.Ab.tabRow Try.underlying79 info_79
  · cases h; exact Go.Ab.tabRow Try.underlying80 info_80
  · cases h; exact Go.Ab.tabRow Try.underlying81 info_81
  · cases h; exact Go.Ab.tabRow Try.underlying86 info_86
  · cases h; exact Go.Ab.tabRow Try.underlying92 info_92
  · cases h; exact Go.Ab.tabRow Try.underlying95 info_95
  · cases h; exact Go.Ab.tabRow Try.underlying103 info_103
  · cases h; exact Go.Ab.tabRow Try.underlying105 info_105
  · cases h; exact Go.Ab.tabRow Try.underlying106 info_106
  · cases h; exact Go.Ab.tabRow Try.underlying110 info_110
  · cases h; exact Go.Ab.tabRow Try.underlying112 info_112
  · cases h; exact Go.Ab.tabRow Try.underlying116 info_116
  · cases h; exact Go.Ab.tabRow Try.underlying117 info_117
  · cases h; exact Go.Ab.tabRow Try.underlying118 info_118
  · cases h; exact Go.Ab.tabRow Try.underlying119 info_119
  · cases h; exact Go.Ab.tabRow Try.underlying120 info_120
  · cases h; exact Go.Ab.tabRow Try.underlying122 info_122
  · cases h; exact Go.Ab.tabRow Try.underlying123 info_123
  · cases h; exact Go.Ab.tabRow Try.underlying125 info_125
  · cases h; exact Go.Ab.tabRow Try.underlying126 info_126
  · cases h; exact Go.Ab.tabRow Try.underlying127 info_127
  · cases h; exact Go.Ab.tabRow Try.underlying128 info_128
  · cases h; exact Go.Ab.tabRow Try.underlying129 info_129
  · cases h; exact Go.Ab.tabRow Try.underlying130 info_130
  · cases h

end Go.Proofs.Ytcbknmjbhjbifaa
