/- slices.SortFunc at this seat, with the closure of number 33. -/
import Derived.Shelf.SlSortCmp.NoneTotal
import Derived.Test.YtkccegeejlbhnaaAbYf
import Derived.Test.YtkccegeejlbhnaaQLFM
import Derived.Test.YtkccegeejlbhnaaRows
namespace Go.Proofs
open Go.RowKit Go.Maps Go.Sort Go.Shelf
def Try.laysF6_ren : Go.Shelf.Ren := ⟨fun | 6 => 43 | 15 => 41 | 14 => 59 | 28 => 56 | 29 => 57 | 20 => 66 | 21 => 67 | 22 => 68 | 23 => 69 | 24 => 70 | 25 => 71 | 26 => 72 | 27 => 73 | 46 => 75 | 47 => 62 | 48 => 63 | 49 => 76 | 50 => 77 | 57 => 78 | n => n, fun | 22 => 33 | 24 => 38 | 25 => 60 | 3 => 3 | 39 => 63 | 0 => 0 | 53 => 81 | 55 => 83 | 4 => 4 | 46 => 75 | 45 => 74 | 50 => 51 | 5 => 5 | 9 => 9 | 66 => 87 | 70 => 91 | 76 => 98 | 77 => 99 | n => n, fun | n => n⟩
theorem Try.laysF6 : SlLaysF0.n6 Try.prog Try.laysF6_ren where
  mixed := by kernel_rfl
  f6 := ⟨"slices.SortFunc[[]corebell/api.Span,corebell/api.Span]", by decide, Try.func43.trans (congrArg some (by kernel_rfl))⟩
  f14 := ⟨"slices.pdqsortCmpFunc[corebell/api.Span]", by decide, Try.func59.trans (congrArg some (by kernel_rfl))⟩
  f15 := Try.func41.trans (congrArg some (by kernel_rfl))
  f20 := ⟨"slices.insertionSortCmpFunc[corebell/api.Span]", by decide, Try.func66.trans (congrArg some (by kernel_rfl))⟩
  f21 := ⟨"slices.heapSortCmpFunc[corebell/api.Span]", by decide, Try.func67.trans (congrArg some (by kernel_rfl))⟩
  f22 := ⟨"slices.breakPatternsCmpFunc[corebell/api.Span]", by decide, Try.func68.trans (congrArg some (by kernel_rfl))⟩
  f23 := ⟨"slices.choosePivotCmpFunc[corebell/api.Span]", by decide, Try.func69.trans (congrArg some (by kernel_rfl))⟩
  f24 := ⟨"slices.reverseRangeCmpFunc[corebell/api.Span]", by decide, Try.func70.trans (congrArg some (by kernel_rfl))⟩
  f25 := ⟨"slices.partialInsertionSortCmpFunc[corebell/api.Span]", by decide, Try.func71.trans (congrArg some (by kernel_rfl))⟩
  f26 := ⟨"slices.partitionEqualCmpFunc[corebell/api.Span]", by decide, Try.func72.trans (congrArg some (by kernel_rfl))⟩
  f27 := ⟨"slices.partitionCmpFunc[corebell/api.Span]", by decide, Try.func73.trans (congrArg some (by kernel_rfl))⟩
  f28 := Try.func56.trans (congrArg some (by kernel_rfl))
  f29 := Try.func57.trans (congrArg some (by kernel_rfl))
  f46 := ⟨"slices.siftDownCmpFunc[corebell/api.Span]", by decide, Try.func75.trans (congrArg some (by kernel_rfl))⟩
  f47 := Try.func62.trans (congrArg some (by kernel_rfl))
  f48 := Try.func63.trans (congrArg some (by kernel_rfl))
  f49 := ⟨"slices.medianAdjacentCmpFunc[corebell/api.Span]", by decide, Try.func76.trans (congrArg some (by kernel_rfl))⟩
  f50 := ⟨"slices.medianCmpFunc[corebell/api.Span]", by decide, Try.func77.trans (congrArg some (by kernel_rfl))⟩
  f57 := ⟨"slices.order2CmpFunc[corebell/api.Span]", by decide, Try.func78.trans (congrArg some (by kernel_rfl))⟩
  t0 := Try.underlying0
  a0 := Try.isAgg0
  z0 := Try.sizeOf0
  v0 := Try.zeroValue0
  t3 := Try.underlying3
  a3 := Try.isAgg3
  z3 := Try.sizeOf3
  v3 := Try.zeroValue3
  t4 := Try.underlying4
  a4 := Try.isAgg4
  z4 := Try.sizeOf4
  v4 := Try.zeroValue4
  t5 := Try.underlying5
  a5 := Try.isAgg5
  z5 := Try.sizeOf5
  v5 := Try.zeroValue5
  t9 := Try.underlying9
  a9 := Try.isAgg9
  z9 := Try.sizeOf9
  v9 := Try.zeroValue9
  t22 := Try.underlying33
  a22 := Try.isAgg33
  z22 := Try.sizeOf33
  v22 := Try.zeroValue33
  t25 := Try.underlying60
  a25 := Try.isAgg60
  z25 := Try.sizeOf60
  v25 := Try.zeroValue60
  t39 := Try.underlying63
  a39 := Try.isAgg63
  z39 := Try.sizeOf63
  v39 := Try.zeroValue63
  t45 := Try.underlying74
  a45 := Try.isAgg74
  z45 := Try.sizeOf74
  v45 := Try.zeroValue74
  t46 := Try.underlying75
  a46 := Try.isAgg75
  z46 := Try.sizeOf75
  v46 := Try.zeroValue75
  t50 := Try.underlying51
  a50 := Try.isAgg51
  z50 := Try.sizeOf51
  v50 := Try.zeroValue51
  t53 := Try.underlying81
  a53 := Try.isAgg81
  z53 := Try.sizeOf81
  v53 := Try.zeroValue81
  t55 := Try.underlying83
  a55 := Try.isAgg83
  z55 := Try.sizeOf83
  v55 := Try.zeroValue83
  t66 := Try.underlying87
  a66 := Try.isAgg87
  z66 := Try.sizeOf87
  v66 := Try.zeroValue87
  t70 := Try.underlying91
  a70 := Try.isAgg91
  z70 := Try.sizeOf91
  v70 := Try.zeroValue91
  t76 := Try.underlying98
  a76 := Try.isAgg98
  z76 := Try.sizeOf98
  v76 := Try.zeroValue98
  t77 := Try.underlying99
  a77 := Try.isAgg99
  z77 := Try.sizeOf99
  v77 := Try.zeroValue99

namespace Ytkccegeejlbhnaa
open Go.Ab
def sfq (x : Api_Span) : List Value := [.int .i64 x.From, .int .i64 x.To]
theorem sfq_length (x : Api_Span) : (sfq x).length = 2 := rfl
theorem sfq_one (x : Api_Span) : ∀ v ∈ sfq x, v.oneCell' = true := by
  intro v hv
  unfold sfq at hv
  simp only [List.mem_cons, List.not_mem_nil, or_false] at hv
  rcases hv with rfl | rfl <;> rfl
theorem sf_swo : SWO (ltOf fun x y : {x : Api_Span // sfDom x} => sfCmp x.1 y.1) :=
  swo_of (fun x => by unfold sfCmp; omega) (fun x y z h1 h2 => by unfold sfCmp at *; omega) (fun x y z h1 h2 => by unfold sfCmp at *; omega)

set_option maxHeartbeats 1000000 in
theorem sf_closure (x y : Api_Span) (W : World) (hx : sfDom x) (hy : sfDom y) : Calls Try.prog 33 #[.agg (sfq x).toArray, .agg (sfq y).toArray] W fun e w' => e = .returned (.int .i64 (sfCmp x y)) ∧ ∃ q os', w' = grow (W.drewN q) os' := by
  unfold sfDom at hx hy
  unfold sfq sfCmp
  go_enter Try.func33, Try.ntmps33
  go_wp2
  go_ret
  exact ⟨by first | rfl | go_num | (simp only [IntKind.wrap_i64]; omega), 0, _, by rw [alloc_eq_grow, alloc_eq_grow, grow_grow]; rfl⟩

theorem sf_calls {xs : List (Api_Span)} {h : ∀ x ∈ xs, sfDom x} (g o c : Nat) (w : World) (hg : g < w.heap.size) (hH : Holds id w g o (xs.flatMap sfq).toArray) (hsz : xs.length < 4611686018427387904) :
    Calls Try.prog 43 #[.slice (some ⟨g, o, none⟩) xs.length c, .func (.func 33) #[] #[]] w fun ex w' => ex = .returned (.tuple #[]) ∧ ∃ n os, w' = grow (putRow id (Sort.ahead w n) g o ((srtF sfDom sfCmp xs h).flatMap sfq).toArray) os :=
  srtF_calls Try.laysF6 Try.isAgg38 Try.sizeOf38 sfq_length sfq_one sf_swo ⟨_, Try.func33, by kernel_rfl, by kernel_rfl⟩ (fun x y w hx hy => sf_closure x y w hx hy) (enters_of Try.func33 (by kernel_rfl) rfl) g o c w hg hH hsz
theorem sf_none (a : Option Addr) (c : Nat) (v : Value) (w : World) : Calls Try.prog 43 #[.slice a 0 c, v] w fun e w' => e = .returned (.tuple #[]) ∧ w' = w := AnyF.slices_SortFunc_none Try.laysF6 a c v w
end Ytkccegeejlbhnaa
end Go.Proofs
