/- The laying of slices.insertionSortCmpFunc[int] at this seat. -/
import Derived.Shelf.SlSortCmp.Insertion1
import Derived.Test.YtnbjjhhgpcpbgaaRows
namespace Go.Proofs
open Go.RowKit Go.Sort Go.Shelf
def Try.laysF20_ren : Go.Shelf.Ren := ⟨fun | 20 => 30 | n => n, fun | 24 => 3 | 22 => 22 | 3 => 3 | 25 => 44 | 4 => 4 | 0 => 0 | n => n, fun | n => n⟩
theorem Try.laysF20 : SlLaysF.n20 Try.prog Try.laysF20_ren where
  mixed := by kernel_rfl
  f20 := ⟨"slices.insertionSortCmpFunc[int]", by decide, Try.func30.trans (congrArg some (by kernel_rfl))⟩
  t0 := Try.underlying0
  a0 := Try.isAgg0
  z0 := Try.sizeOf0
  v0 := Try.zeroValue0
  t3 := Try.underlying3
  a3 := Try.isAgg3
  z3 := Try.sizeOf3
  v3 := Try.zeroValue3
  t4 := Try.underlying4
  a4 := Try.isAgg4
  z4 := Try.sizeOf4
  v4 := Try.zeroValue4
  t22 := Try.underlying22
  a22 := Try.isAgg22
  z22 := Try.sizeOf22
  v22 := Try.zeroValue22
  a24 := Try.isAgg3
  z24 := Try.sizeOf3
  t25 := Try.underlying44
  a25 := Try.isAgg44
  z25 := Try.sizeOf44
  v25 := Try.zeroValue44
end Go.Proofs
