/- slices.Sorted(slices.Values(xs)) at this seat. -/
import Derived.Shelf.SlIterI.Sorted
import Derived.Test.YtkccegeejlbhnaaQLFS
namespace Go.Proofs
open Go.RowKit Go.Maps Go.Sort Go.Shelf
def Try.laysZI6_ren : Go.Shelf.Ren := ⟨fun | 6 => 10 | 8 => 28 | 9 => 29 | 11 => 39 | 13 => 41 | 12 => 40 | 23 => 56 | 24 => 57 | 14 => 48 | 15 => 49 | 16 => 50 | 17 => 51 | 18 => 52 | 19 => 53 | 20 => 36 | 21 => 54 | 22 => 55 | 25 => 61 | 26 => 62 | 27 => 63 | 28 => 64 | 29 => 65 | 30 => 47 | 31 => 74 | n => n, fun | 26 => 3 | 28 => 29 | 24 => 22 | 0 => 0 | 3 => 3 | 37 => 63 | 48 => 81 | 50 => 83 | 4 => 4 | 40 => 75 | 39 => 74 | 45 => 51 | 5 => 5 | 9 => 9 | 51 => 87 | 55 => 91 | 57 => 98 | 58 => 99 | 33 => 55 | n => n, fun | n => n⟩
theorem Try.laysZI6 : SlLaysZI.n6 Try.prog Try.laysZI6_ren where
  mixed := by kernel_rfl
  f6 := ⟨"slices.Sorted[int]", by decide, Try.func10.trans (congrArg some (by kernel_rfl))⟩
  f8 := ⟨"slices.Collect[int]", by decide, Try.func28.trans (congrArg some (by kernel_rfl))⟩
  f11 := ⟨"slices.AppendSeq[[]int,int]", by decide, Try.func39.trans (congrArg some (by kernel_rfl))⟩
  t0 := Try.underlying0
  a0 := Try.isAgg0
  z0 := Try.sizeOf0
  v0 := Try.zeroValue0
  t24 := Try.underlying22
  a24 := Try.isAgg22
  z24 := Try.sizeOf22
  v24 := Try.zeroValue22
  t26 := Try.underlying3
  a26 := Try.isAgg3
  z26 := Try.sizeOf3
  v26 := Try.zeroValue3
  t28 := Try.underlying29
  a28 := Try.isAgg29
  z28 := Try.sizeOf29
  v28 := Try.zeroValue29
  i26 := by kernel_rfl

set_option maxRecDepth 100000 in
set_option maxHeartbeats 2000000 in
theorem Try.vals_in (n : Nat) (hn : 1 ≤ n) (l g o b off cap : Nat) (xs : List Int) (hbig : xs.length ≤ 9223372036854775807) (w0 W : World) (J : List Int → World → Prop)
    (hgl : g < w0.heap.size) (hbl : 0 < xs.length → b < w0.heap.size) (a : Option Addr) (ha : 0 < xs.length → a = some ⟨b, off, none⟩)
    (hp : w0.cell? ⟨g, o, none⟩ = some (.slice a xs.length cap)) (hc : ∀ j, j < xs.length → w0.cell? ⟨b, off + j, none⟩ = some (.int .i64 (xs.getD j 0)))
    (hJb : ∀ pre W, J pre W → Below w0.heap.size w0 W)
    (hY : ∀ pre x W1, J pre W1 → pre.length < xs.length → YieldAt Fence.wide (n - 1) Try.prog l #[.int .i64 x] W1 fun e W' => e = .returned (.bool true) ∧ J (pre ++ [x]) W')
    (h0 : J [] W) : CallsIn Fence.wide n Try.prog 30 #[.func (.yield l) #[] #[], .pointer (some ⟨g, o, none⟩)] W fun e W' => (∃ v, e = .returned v) ∧ J xs W' := by
  have hpW : W.cell? ⟨g, o, none⟩ = some (.slice a xs.length cap) := ((hJb _ _ h0).cell (p := ⟨g, o, none⟩) hgl).trans hp
  refine callsIn_of_wp Try.func30 rfl trivial ?_ rfl
  simp only [Try.ntmps30, List.size_toArray, List.length_cons, List.length_nil, Nat.reduceAdd, Nat.reduceSub, Array.replicate_succ, Array.replicate_zero, List.push_toArray, List.append_toArray, List.nil_append, List.cons_append]
  gi_wp2
  gi_loopg [7] xs.length (fun gg s7 wr => ∃ k : Nat, k ≤ xs.length ∧ xs.length - k ≤ gg ∧ s7 = .int .i64 k ∧ J (xs.take k) wr)
  case atStart => exact ⟨0, Nat.zero_le _, by omega, rfl, by simpa using h0⟩
  case round =>
    obtain ⟨k, hk, hg, rfl, hJ⟩ := hrel
    by_cases hlt : k < xs.length
    · obtain rfl := ha (by omega)
      have ck : wr.cell? ⟨b, off + k, none⟩ = some (.int .i64 (xs.getD k 0)) := ((hJb _ _ hJ).cell (p := ⟨b, off + k, none⟩) (hbl (by omega))).trans (hc k hlt)
      obtain ⟨fn, tmps, assign, body, hy, hR⟩ := hY (xs.take k) (xs.getD k 0) wr hJ (by simp; omega)
      have hnx : xs.take k ++ [xs.getD k 0] = xs.take (k + 1) := by
        rw [List.take_succ_eq_append_getElem hlt]; simp [List.getD_eq_getElem?_getD, hlt]
      rw [hnx] at hR
      clear hc hY hnx
      generalize xs.getD k 0 = y at ck hy hR
      gi_wp2
      refine hR.mono ?_
      rintro e W3 ⟨rfl, hJ3⟩
      gi_wp2
      gi_roundg (xs.length - (k + 1))
      case measure => omega
      case rel => exact ⟨k + 1, by omega, Nat.le_refl _, by go_num, hJ3⟩
    · gi_wp2
      go_end0
      have : xs.take k = xs := List.take_of_length_le (by omega)
      rw [this] at hJ
      exact ⟨⟨_, rfl⟩, hJ⟩

set_option maxRecDepth 100000 in
set_option maxHeartbeats 2000000 in
/-- AppendSeq(nil, Values(xs)). -/
theorem Try.append_vals (g o b off cap : Nat) (xs : List Int) (hN : xs.length ≤ maxLen) (hNb : xs.length * 8 ≤ 140737488355328) (w : World)
    (hgl : g < w.heap.size) (hbl : 0 < xs.length → b < w.heap.size) (a : Option Addr) (ha : 0 < xs.length → a = some ⟨b, off, none⟩)
    (hp : w.cell? ⟨g, o, none⟩ = some (.slice a xs.length cap)) (hc : ∀ j, j < xs.length → w.cell? ⟨b, off + j, none⟩ = some (.int .i64 (xs.getD j 0))) :
    CallsIn Fence.wide 9 Try.prog 39 #[.slice none 0 0, .func (.func 30) #[] #[.pointer (some ⟨g, o, none⟩)]] w fun e w' => ∃ v : Value, e = .returned v ∧ w'.ownsRow w.heap.size 3 1 v xs.length (xs.map encZ) ∧ (v = .slice none 0 0 ↔ xs = []) ∧ Below w.heap.size w w' := by
  have L : SlLaysZI.n11 Try.prog Try.laysZI6_ren := { Try.laysZI6 with }
  have mixed := L.mixed; have t0 := L.t0; have a0 := L.a0; have z0 := L.z0; have v0 := L.v0; have t24 := L.t24; have a24 := L.a24; have z24 := L.z24; have v24 := L.v24; have t26 := L.t26; have a26 := L.a26; have z26 := L.z26; have v26 := L.v26; have t28 := L.t28; have a28 := L.a28; have z28 := L.z28; have v28 := L.v28
  have u0 := run_underlying L.t0; have u24 := run_underlying L.t24; have u26 := run_underlying L.t26; have u28 := run_underlying L.t28
  have en : ∀ args w, (callFunc 30 args).run Try.prog w = .ok (.enter 30 args) w := enters_of Try.func30 (by kernel_rfl) rfl
  refine callsIn_of_wp_marks Try.func39 rfl trivial ?_ rfl
  simp only [Try.ntmps39, List.size_toArray, List.length_cons, List.length_nil, Nat.reduceAdd, Nat.reduceSub, Array.replicate_succ, Array.replicate_zero, List.push_toArray, List.append_toArray, List.nil_append, List.cons_append]
  gi_wp2
  refine wpIn_rangeFunc ?_
  intro fn hfn
  obtain ⟨S, hS⟩ : ∃ S, S = w.heap.size := ⟨_, rfl⟩
  obtain ⟨sv, hsv⟩ : ∃ sv : Value, sv = .func (.func 30) #[] #[.pointer (some ⟨g, o, none⟩)] := ⟨_, rfl⟩
  obtain ⟨W0, hW0⟩ : ∃ W0, W0 = w.alloc (.cells #[.slice none 0 0] 22) := ⟨_, rfl⟩
  obtain ⟨W1, hW1⟩ : ∃ W1, W1 = (W0.alloc (.deferred (some []))).alloc (.loop (AnyZI.apRec Try.laysZI6_ren fn sv S (S + 1) .ready none)) := ⟨_, rfl⟩
  have hs0 : W0.heap.size = S + 1 := by rw [hW0, hS]; simp
  have hs1 : W1.heap.size = S + 3 := by rw [hW1]; simp [hs0]
  have hb0 : Below S w W0 := by rw [hW0, hS]; exact (Below.refl _ w).alloc (Nat.le_refl _) _
  have hb1 : Below S w W1 := by rw [hW1]; exact (hb0.alloc (by omega) _).alloc (by simp [hs0]; omega) _
  have hold : ∀ k, k < S + 1 → W1.heap[k]? = W0.heap[k]? := fun k hk => by
    rw [hW1]; exact (Below.heap_alloc _ _ k (by simp; omega)).trans (Below.heap_alloc _ _ k (by omega))
  have hbox : W1.heap[S]? = some (.cells #[.slice none 0 0] 22 (0, 0)) := (hold S (by omega)).trans (by rw [hW0, hS]; exact World.alloc_heap_new w _)
  have hloop : W1.heap[S + 2]? = some (.loop (AnyZI.apRec Try.laysZI6_ren fn sv S (S + 1) .ready none)) := by
    rw [hW1]; have := World.alloc_heap_new (W0.alloc (.deferred (some []))) (.loop (AnyZI.apRec Try.laysZI6_ren fn sv S (S + 1) .ready none)); rwa [World.size_alloc, hs0] at this
  have hdef : W1.heap[S + 1]? = some (.deferred (some [])) := by
    rw [hW1, ← hs0]; exact (Below.heap_alloc _ _ _ (by simp)).trans (World.alloc_heap_new W0 _)
  have hA : AnyZI.ApAt Try.laysZI6_ren w fn sv S (S + 2) (S + 1) [] W1 := ⟨⟨_, hbox, ⟨rfl, .inl ⟨rfl, rfl⟩⟩, by simp⟩, hloop, hdef, by rw [← hS]; exact hb1⟩
  refine ⟨S + 2, [{ target := .collected (S + 1), args := #[] }], W1, { target := .fn (.func 30) #[.pointer (some ⟨g, o, none⟩)], args := #[.func (.yield (S + 2)) #[] #[]] }, W1, 30,
    #[.func (.yield (S + 2)) #[] #[], .pointer (some ⟨g, o, none⟩)], W1, ?_, ?_, ?_, ?_, fun _ => by omega, ?_⟩
  · have h := run_enterLoop_outer (P := Try.prog) (w := W0) fn #[.slice none 0 0, sv, .pointer (some ⟨S, 0, none⟩), undef, .slice none 0 0, undef, sv, undef, undef, undef, undef, undef, undef] #[7] (AnyZI.apAssign Try.laysZI6_ren) (AnyZI.apBody Try.laysZI6_ren)
    rw [hs0] at h
    rw [← hW0, ← hsv, ← hS, hW1]
    exact h
  · simp [resolve, go_sem]
  · intro f' hf'; trivial
  · simp [invoke, go_sem, en]
  · refine (Try.vals_in 8 (by omega) (S + 2) g o b off cap xs (by unfold maxLen at hN; omega) w W1 (fun pre W => AnyZI.ApAt Try.laysZI6_ren w fn sv S (S + 2) (S + 1) pre W) hgl hbl a ha hp hc (fun pre W h => h.below) (fun pre x W h hl => ?_) hA).mono ?_
    · obtain ⟨f', tmps, assign, body, e1, e2⟩ := AnyZI.apYield L Fence.wide 7 w fn trivial sv S (S + 2) (S + 1) (by omega) (by omega) (by omega) (by omega) (by omega) xs.length hN hNb pre x W h hl
      exact ⟨f', tmps, assign, body, e1, e2.mono fun e W' h => ⟨h.1, h.2.1⟩⟩
    rintro e W2 ⟨⟨v0, rfl⟩, h2⟩
    obtain ⟨v, hv, hrow, hnil⟩ := h2.box
    have hend := run_endLoop (P := Try.prog) h2.L (by simp [AnyZI.apRec])
    obtain ⟨W3, hW3⟩ : ∃ W3, W3 = W2.putObj (S + 2) (.loop { AnyZI.apRec Try.laysZI6_ren fn sv S (S + 1) .ready none with state := .exhausted }) := ⟨_, rfl⟩
    rw [← hW3] at hend
    have hg3 : W2.grownBy W3 (some (S + 2)) := by rw [hW3]; exact grownBy_putObj_a _ _ _
    have hv3 : W3.heap[S]? = some (.cells #[v] 22 (0, 0)) := by rw [hW3]; exact (World.putObj_heap_other (by omega)).trans hv
    have hK3 : W3.heap[S + 1]? = some (.deferred (some [])) := by rw [hW3]; exact (World.putObj_heap_other (by omega)).trans h2.K
    have hne : ∀ cur : Array Value, Obj.cells #[v] 22 (0, 0) ≠ .cells cur 3 (0, 0) := fun cur e => by injection e with _ e; exact absurd e (by decide)
    have hrow3 := hrow.kept hg3 (ownsRow_ne_a hrow h2.L (fun cur e => by cases e))
    have hb3 : Below w.heap.size w W3 := h2.below.grown hg3 h2.below.size (fun k e => by cases e; omega)
    obtain ⟨hc3, hf3⟩ := cell_of_box_a hv3
    refine ⟨none, W3, hend, ?_⟩
    clear hc hN hNb hW0 hW1 hW3 hsv hold hs0 hs1
    subst hS
    gi_wp2
    refine ⟨by simp, .inl ⟨_, _, rfl, run_takeDeferred hK3, ?_⟩⟩
    exact ⟨_, results_tmp rfl _ _ _, v, rfl, hrow3.kept (grownBy_putObj_a _ _ _) (ownsRow_ne_a hrow3 hK3 (fun cur e => by cases e)), hnil, hb3.grown (grownBy_putObj_a _ _ _) hb3.size (fun k e => by cases e; omega)⟩

set_option maxHeartbeats 1000000 in
/-- Collect(Values(xs)). -/
theorem Try.collect_vals (g o b off cap : Nat) (xs : List Int) (hN : xs.length ≤ maxLen) (hNb : xs.length * 8 ≤ 140737488355328) (w : World)
    (hgl : g < w.heap.size) (hbl : 0 < xs.length → b < w.heap.size) (a : Option Addr) (ha : 0 < xs.length → a = some ⟨b, off, none⟩)
    (hp : w.cell? ⟨g, o, none⟩ = some (.slice a xs.length cap)) (hc : ∀ j, j < xs.length → w.cell? ⟨b, off + j, none⟩ = some (.int .i64 (xs.getD j 0))) :
    CallsIn Fence.wide 10 Try.prog 28 #[.func (.func 30) #[] #[.pointer (some ⟨g, o, none⟩)]] w fun e w' => ∃ v : Value, e = .returned v ∧ w'.ownsRow w.heap.size 3 1 v xs.length (xs.map encZ) ∧ (v = .slice none 0 0 ↔ xs = []) ∧ Below w.heap.size w w' := by
  have cA := Try.append_vals g o b off cap xs hN hNb w hgl hbl a ha hp hc
  have hfA : Fence.wide.fn 39 := trivial
  refine callsIn_of_wp Try.func28 rfl trivial ?_ rfl
  simp only [Try.ntmps28, List.size_toArray, List.length_cons, List.length_nil, Nat.reduceAdd, Nat.reduceSub, Array.replicate_succ, Array.replicate_zero, List.push_toArray, List.append_toArray, List.nil_append, List.cons_append]
  clear hc hp
  gi_wp2_with (gi_at_call 39; refine cA.mono ?_; rintro e w' ⟨v, rfl, hrow, hnil, hb⟩)
  go_ret
  exact ⟨v, rfl, hrow, hnil, hb⟩

set_option maxRecDepth 100000 in
set_option maxHeartbeats 2000000 in
/-- Sorted(Values(xs)). -/
theorem Try.sorted_vals (g o b off cap : Nat) (xs : List Int) (hN : xs.length ≤ maxLen) (hNb : xs.length * 8 ≤ 140737488355328) (w : World)
    (hgl : g < w.heap.size) (hbl : 0 < xs.length → b < w.heap.size) (a : Option Addr) (ha : 0 < xs.length → a = some ⟨b, off, none⟩)
    (hp : w.cell? ⟨g, o, none⟩ = some (.slice a xs.length cap)) (hc : ∀ j, j < xs.length → w.cell? ⟨b, off + j, none⟩ = some (.int .i64 (xs.getD j 0))) :
    CallsIn Fence.wide 11 Try.prog 10 #[.func (.func 30) #[] #[.pointer (some ⟨g, o, none⟩)]] w fun e w' => ∃ v : Value, e = .returned v ∧ w'.ownsRow w.heap.size 3 1 v xs.length ((xs.mergeSort (fun x y => decide (x ≤ y))).map encZ) ∧ Below w.heap.size w w' := by
  have cC := Try.collect_vals g o b off cap xs hN hNb w hgl hbl a ha hp hc
  have hfC : Fence.wide.fn 28 := trivial
  have hfS : Fence.wide.fn 29 := trivial
  refine callsIn_of_wp Try.func10 rfl trivial ?_ rfl
  simp only [Try.ntmps10, List.size_toArray, List.length_cons, List.length_nil, Nat.reduceAdd, Nat.reduceSub, Array.replicate_succ, Array.replicate_zero, List.push_toArray, List.append_toArray, List.nil_append, List.cons_append]
  clear hc hp
  gi_wp2_with (gi_at_call 28; refine cC.mono ?_; rintro e W ⟨v, rfl, hrow, hnil, hb⟩)
  rcases hrow.2 with ⟨rfl, hz⟩ | ⟨gb, cap', cur, rfl, hbase, hgb, r1, r2, r3, r4⟩
  · have hss : xs = [] := List.eq_nil_of_length_eq_zero hz
    subst hss
    gi_wp2_with (gi_at_call 29; refine (callsIn_wide.2 (Try.slices_Sort_int_none none 0 W)).mono ?_; rintro e w' ⟨rfl, rfl⟩)
    go_ret
    exact ⟨_, rfl, by simpa using hrow, hb⟩
  · have hH : Holds encZ W gb 0 xs.toArray := holds_of_block_i hgb (by simpa using r4)
    have hgl' : gb < W.heap.size := (Array.getElem?_eq_some_iff.1 hgb).1
    have hsz : xs.length < 4611686018427387904 := by omega
    have cS : CallsIn Fence.wide 10 Try.prog 29 #[.slice (some ⟨gb, 0, none⟩) xs.length cap'] W _ := callsIn_wide.2 (Try.slices_Sort_int gb 0 cap' xs W hH hgl' hsz)
    gi_wp2_with (gi_at_call 29; refine cS.mono ?_; rintro e w' ⟨rfl, nn, os, rfl⟩)
    go_ret
    exact ⟨_, rfl, ownsRow_sorted_i (by simp) hbase hgb r1 r2 r3, hb.grown (grownBy_sorted_i _) hb.size (fun j hj => by cases hj; exact hbase)⟩

/-- Values(s). -/
theorem Try.values_calls (a : Option Addr) (n cap : Nat) (w : World) : Calls Try.prog 11 #[.slice a n cap] w fun ex w' => ex = .returned (.func (.func 30) #[] #[.pointer (some ⟨w.heap.size, 0, none⟩)]) ∧ w' = w.alloc (.cells #[.slice a n cap] 22) := by
  refine (callsIn_wide (n := 9)).1 ?_
  refine callsIn_of_wp Try.func11 rfl trivial ?_ rfl
  simp only [Try.ntmps11, List.size_toArray, List.length_cons, List.length_nil, Nat.reduceAdd, Nat.reduceSub, Array.replicate_succ, Array.replicate_zero, List.push_toArray, List.append_toArray, List.nil_append, List.cons_append]
  gi_wp2
  go_ret
  exact ⟨rfl, rfl⟩

theorem Try.sorted_calls (g o b off cap : Nat) (xs : List Int) (hN : xs.length * 8 ≤ 140737488355328) (w : World) (hgl : g < w.heap.size) (hbl : 0 < xs.length → b < w.heap.size) (a : Option Addr) (ha : 0 < xs.length → a = some ⟨b, off, none⟩)
    (hp : w.cell? ⟨g, o, none⟩ = some (.slice a xs.length cap)) (hc : ∀ j, j < xs.length → w.cell? ⟨b, off + j, none⟩ = some (.int .i64 (xs.getD j 0))) :
    Calls Try.prog 10 #[.func (.func 30) #[] #[.pointer (some ⟨g, o, none⟩)]] w fun e w' => ∃ v : Value, e = .returned v ∧ w'.ownsRow w.heap.size 3 1 v xs.length ((xs.mergeSort (fun x y => decide (x ≤ y))).map fun x => .int .i64 x) ∧ Below w.heap.size w w' :=
  (callsIn_wide (n := 11)).1 (Try.sorted_vals g o b off cap xs (by unfold maxLen; omega) hN w hgl hbl a ha hp hc)

end Go.Proofs
