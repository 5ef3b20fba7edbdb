import Derived.Test.YtfkoglicoabbaaaQFV
set_option linter.unusedVariables false
set_option linter.unusedSimpArgs false
namespace Go.Proofs
open Go.RowKit Go.Fp
set_option maxRecDepth 100000 in
set_option maxHeartbeats 4000000 in
theorem Try.open_ok (sb tb p n : Nat) (name size fd dst most : Int) (eo : Nat → Nat) (t : Nat → Option Nat) (arr : Array Value) (w : World) (hp : p < 4) (hsb : sb < w.heap.size) (cs : w.cell? ⟨sb, p, none⟩ = some (.pointer (some ⟨tb, 0, none⟩)))
    (hs0 : 0 ≤ size) (hs1 : size ≤ 1099511627776) (hb : Hid (w.heap[tb]? = some (.cells arr 49 (0, 0)))) (htb : tb < w.heap.size) (hsz : Hid (arr.size = 16)) (hc : Hid (∀ j, j < 16 → w.cell? ⟨tb, j, none⟩ = some (ptrO eo (t j))))
    (hn : n < 16) (hlt : Hid (∀ j, j < n → (t j).isSome = true)) (hat : Hid (t n = none)) :
    Calls Try.prog 13 #[.pointer (some ⟨sb, 0, none⟩), .agg #[.int .i64 1, .int .i64 p, .int .i64 name, .int .i64 size, .int .i64 fd, .int .i64 dst, .int .i64 most]] w fun x w' => x = .returned (ansV 0 n) ∧ ∃ ob, w.heap.size ≤ ob ∧
      w'.heap[ob]? = some (.cells #[.int .i64 name, .int .i64 size, .int .i64 0, .int .i64 1] 52 (0, 0)) ∧ w'.heap[tb]? = some (.cells (arr.setIfInBounds n (.pointer (some ⟨ob, 0, none⟩))) 49 (0, 0)) ∧ Only (fun k => k = tb) w w' := by
  have hp0 : (0 : Int) ≤ p := by omega
  have hp1 : (p : Int) < 4 := by omega
  have hb2 : decide ((p : Int) < 0) = false := by simp
  have hb3 : decide ((p : Int) ≥ 4) = false := by simp; omega
  have hb4 : decide (size < 0) = false := by simp; omega
  have hb5 : decide (size > 1099511627776) = false := by simp; omega
  go_enter Try.func13, Try.ntmps13
  go_wp2
  go_quiet (fail)
  go_wp2
  go_quiet (fail)
  go_wp2_with (first
    | (go_at_call 15; refine (Try.least tb t eo _ (fun j hj => (cell_old (by repeat (first | exact Only.refl _ _ | refine Only.alloc ?_ _ | refine Only.drew ?_ _ | refine Only.set ?_ (.inr (by simp)) _)) htb j).trans (hc.out j hj)) n (by omega) hlt (fun _ => hat) n true (.inl ⟨hn, rfl, rfl⟩)).mono ?_; rintro e w' ⟨rfl, q, rfl⟩))
  refine (Try.set tb _ n (by omega) name size 0 0 arr hsz _ ?_ ?_ ⟨by omega, by omega⟩).mono ?_
  · exact new_at (by simp)
  · exact (heap_old (by repeat (first | exact Only.refl _ _ | refine Only.alloc ?_ _ | refine Only.drew ?_ _ | refine Only.set ?_ (.inr (by simp)) _)) htb).trans hb
  rintro e w2 ⟨⟨v, rfl⟩, h1, h2, ho⟩
  have hB : w2.heap[w.heap.size + 1]? = some (.cells #[.int .i64 0, .int .i64 0] 34 (0, 0)) := by
    rw [ho.block _ (by simp) (by rintro (h | h) <;> omega)]
    rw [Below.heap_alloc _ _ _ (by simp)]
    exact new_at (by simp)
  obtain ⟨⟨c0, c1⟩, ⟨g0, g1⟩, _, hlt2⟩ := box34 hB
  go_wp2
  have hB' : ((w2.setCell ⟨w.heap.size + 1, 0, none⟩ (.int .i64 0)).setCell ⟨w.heap.size + 1, 1, none⟩ (.int .i64 n)).heap[w.heap.size + 1]? = some (.cells #[.int .i64 0, .int .i64 n] 34 (0, 0)) := heap_set (heap_set hB 0 _) 1 _
  obtain ⟨⟨d0, d1⟩, _, _, _⟩ := box34 hB'
  refine bodyPost_ret (v := ansV 0 n) (by simp [results, Try.results13, go_sem, d0, d1]) rfl ⟨rfl, w.heap.size + 1 + 1, by omega, ?_, ?_, ?_⟩
  · rw [Below.heap_setCell _ _ _ _ (by simp), Below.heap_setCell _ _ _ _ (by simp)]; exact h1
  · rw [Below.heap_setCell _ _ _ _ (by simp; omega), Below.heap_setCell _ _ _ _ (by simp; omega)]; exact h2
  · refine Only.set (Only.set (only_via (by repeat (first | exact Only.refl _ _ | refine Only.alloc ?_ _ | refine Only.drew ?_ _ | refine Only.set ?_ (.inr (by simp)) _)) ho fun k hk h => ?_) (.inr (by simp)) _) (.inr (by simp)) _
    rcases h with h | h
    · omega
    · exact h
end Go.Proofs
namespace Go.Proofs
open Go.RowKit Go.Fp
set_option maxRecDepth 100000 in
set_option maxHeartbeats 4000000 in
theorem Try.dup_ok (sb tb ob p f n : Nat) (name size dst most nm sz ps rf : Int) (eo : Nat → Nat) (t : Nat → Option Nat) (arr : Array Value) (w : World) (hp : p < 4) (hsb : sb < w.heap.size) (cs : w.cell? ⟨sb, p, none⟩ = some (.pointer (some ⟨tb, 0, none⟩))) (hb : Hid (w.heap[tb]? = some (.cells arr 49 (0, 0)))) (htb : tb < w.heap.size) (hsz : Hid (arr.size = 16)) (hc : Hid (∀ j, j < 16 → w.cell? ⟨tb, j, none⟩ = some (ptrO eo (t j)))) (hn : n < 16) (hlt : Hid (∀ j, j < n → (t j).isSome = true)) (hat : Hid (t n = none)) (hf : f < 16) (ce : w.cell? ⟨tb, f, none⟩ = some (.pointer (some ⟨ob, 0, none⟩))) (ho : Hid (w.heap[ob]? = some (.cells #[.int .i64 nm, .int .i64 sz, .int .i64 ps, .int .i64 rf] 52 (0, 0)))) (hob : ob < w.heap.size) (hr : Hid (0 ≤ rf ∧ rf ≤ 1000000)) :
    Calls Try.prog 13 #[.pointer (some ⟨sb, 0, none⟩), .agg #[.int .i64 2, .int .i64 p, .int .i64 name, .int .i64 size, .int .i64 f, .int .i64 dst, .int .i64 most]] w fun x w' => x = .returned (ansV 0 n) ∧ w'.heap[ob]? = some (.cells #[.int .i64 nm, .int .i64 sz, .int .i64 ps, .int .i64 (rf + 1)] 52 (0, 0)) ∧ w'.heap[tb]? = some (.cells (arr.setIfInBounds n (.pointer (some ⟨ob, 0, none⟩))) 49 (0, 0)) ∧ Only (fun k => k = ob ∨ k = tb) w w' := by
  have hp0 : (0 : Int) ≤ p := by omega
  have hp1 : (p : Int) < 4 := by omega
  have hb2 : decide ((p : Int) < 0) = false := by simp
  have hb3 : decide ((p : Int) ≥ 4) = false := by simp; omega
  have hf0 : (0 : Int) ≤ f := by omega
  have hf1 : (f : Int) < 16 := by omega
  have hb4 : decide ((f : Int) < 0) = false := by simp
  have hb5 : decide ((f : Int) ≥ 16) = false := by simp; omega
  go_enter Try.func13, Try.ntmps13
  go_wp2
  go_quiet (fail)
  go_wp2
  go_quiet (fail)
  go_wp2
  go_quiet (fail)
  go_wp2
  go_quiet (fail)
  go_wp2_with (first | (go_at_call 15; refine (Try.least tb t eo _ (fun j hj => (cell_old (by repeat (first | exact Only.refl _ _ | refine Only.alloc ?_ _ | refine Only.drew ?_ _ | refine Only.set ?_ (.inr (by simp)) _)) htb j).trans (hc.out j hj)) n (by omega) hlt (fun _ => hat) n true (.inl ⟨hn, rfl, rfl⟩)).mono ?_; rintro e w' ⟨rfl, q, rfl⟩))
  refine (Try.set tb ob n (by omega) nm sz ps rf arr hsz _ ((heap_old (by repeat (first | exact Only.refl _ _ | refine Only.alloc ?_ _ | refine Only.drew ?_ _ | refine Only.set ?_ (.inr (by simp)) _)) hob).trans ho) ((heap_old (by repeat (first | exact Only.refl _ _ | refine Only.alloc ?_ _ | refine Only.drew ?_ _ | refine Only.set ?_ (.inr (by simp)) _)) htb).trans hb) hr).mono ?_
  rintro e w2 ⟨⟨v, rfl⟩, h1, h2, hk⟩
  have hB : w2.heap[w.heap.size + 1]? = some (.cells #[.int .i64 0, .int .i64 0] 34 (0, 0)) := by
    rw [hk.block _ (by simp) (by rintro (h | h) <;> omega)]
    exact new_at (by simp)
  obtain ⟨⟨c0, c1⟩, ⟨g0, g1⟩, _, hlt2⟩ := box34 hB
  go_wp2
  have hB' : ((w2.setCell ⟨w.heap.size + 1, 0, none⟩ (.int .i64 0)).setCell ⟨w.heap.size + 1, 1, none⟩ (.int .i64 n)).heap[w.heap.size + 1]? = some (.cells #[.int .i64 0, .int .i64 n] 34 (0, 0)) := heap_set (heap_set hB 0 _) 1 _
  obtain ⟨⟨d0, d1⟩, _, _, _⟩ := box34 hB'
  refine bodyPost_ret (v := ansV 0 n) (by simp [results, Try.results13, go_sem, d0, d1]) rfl ⟨rfl, ?_, ?_, ?_⟩
  · rw [Below.heap_setCell _ _ _ _ (by simp; omega), Below.heap_setCell _ _ _ _ (by simp; omega)]; exact h1
  · rw [Below.heap_setCell _ _ _ _ (by simp; omega), Below.heap_setCell _ _ _ _ (by simp; omega)]; exact h2
  · exact Only.set (Only.set (only_via (by repeat (first | exact Only.refl _ _ | refine Only.alloc ?_ _ | refine Only.drew ?_ _ | refine Only.set ?_ (.inr (by simp)) _)) hk fun k _ h => h) (.inr (by simp)) _) (.inr (by simp)) _
set_option maxRecDepth 100000 in
set_option maxHeartbeats 4000000 in
theorem Try.dup_full (sb tb ob p f n : Nat) (name size dst most : Int) (eo : Nat → Nat) (t : Nat → Option Nat) (w : World) (hp : p < 4) (hsb : sb < w.heap.size) (cs : w.cell? ⟨sb, p, none⟩ = some (.pointer (some ⟨tb, 0, none⟩))) (htb : tb < w.heap.size) (hc : Hid (∀ j, j < 16 → w.cell? ⟨tb, j, none⟩ = some (ptrO eo (t j)))) (hn : n = 16) (hlt : Hid (∀ j, j < n → (t j).isSome = true)) (hf : f < 16) (ce : w.cell? ⟨tb, f, none⟩ = some (.pointer (some ⟨ob, 0, none⟩))) :
    Calls Try.prog 13 #[.pointer (some ⟨sb, 0, none⟩), .agg #[.int .i64 2, .int .i64 p, .int .i64 name, .int .i64 size, .int .i64 f, .int .i64 dst, .int .i64 most]] w fun x w' => x = .returned (ansV 4 0) ∧ Only (fun _ => False) w w' := by
  have hp0 : (0 : Int) ≤ p := by omega
  have hp1 : (p : Int) < 4 := by omega
  have hb2 : decide ((p : Int) < 0) = false := by simp
  have hb3 : decide ((p : Int) ≥ 4) = false := by simp; omega
  have hf0 : (0 : Int) ≤ f := by omega
  have hf1 : (f : Int) < 16 := by omega
  have hb4 : decide ((f : Int) < 0) = false := by simp
  have hb5 : decide ((f : Int) ≥ 16) = false := by simp; omega
  go_enter Try.func13, Try.ntmps13
  subst hn
  go_wp2
  go_quiet (fail)
  go_wp2
  go_quiet (fail)
  go_wp2
  go_quiet (fail)
  go_wp2
  go_quiet (fail)
  go_wp2_with (first | (go_at_call 15; refine (Try.least tb t eo _ (fun j hj => (cell_old (by repeat (first | exact Only.refl _ _ | refine Only.alloc ?_ _ | refine Only.drew ?_ _ | refine Only.set ?_ (.inr (by simp)) _)) htb j).trans (hc.out j hj)) 16 (by omega) hlt (fun h => absurd h (by omega)) 0 false (.inr ⟨rfl, rfl, rfl⟩)).mono ?_; rintro e w' ⟨rfl, q, rfl⟩) | (go_at_call 14; refine (Try.fails _ _).mono ?_; rintro e w' ⟨rfl, rfl⟩))
  exact bodyPost_ret (v := ansV 4 0) (by simp [results, Try.results13, go_sem]) rfl ⟨rfl, by repeat (first | exact Only.refl _ _ | refine Only.alloc ?_ _ | refine Only.drew ?_ _ | refine Only.set ?_ (.inr (by simp)) _)⟩
set_option maxRecDepth 100000 in
set_option maxHeartbeats 4000000 in
theorem Try.open_full (sb tb p n : Nat) (name size fd dst most : Int) (eo : Nat → Nat) (t : Nat → Option Nat) (w : World) (hp : p < 4) (hsb : sb < w.heap.size) (cs : w.cell? ⟨sb, p, none⟩ = some (.pointer (some ⟨tb, 0, none⟩))) (htb : tb < w.heap.size) (hs0 : 0 ≤ size) (hs1 : size ≤ 1099511627776) (hc : Hid (∀ j, j < 16 → w.cell? ⟨tb, j, none⟩ = some (ptrO eo (t j)))) (hn : n = 16) (hlt : Hid (∀ j, j < n → (t j).isSome = true)) :
    Calls Try.prog 13 #[.pointer (some ⟨sb, 0, none⟩), .agg #[.int .i64 1, .int .i64 p, .int .i64 name, .int .i64 size, .int .i64 fd, .int .i64 dst, .int .i64 most]] w fun x w' => x = .returned (ansV 4 0) ∧ Only (fun _ => False) w w' := by
  have hp0 : (0 : Int) ≤ p := by omega
  have hp1 : (p : Int) < 4 := by omega
  have hb2 : decide ((p : Int) < 0) = false := by simp
  have hb3 : decide ((p : Int) ≥ 4) = false := by simp; omega
  have hb4 : decide (size < 0) = false := by simp; omega
  have hb5 : decide (size > 1099511627776) = false := by simp; omega
  go_enter Try.func13, Try.ntmps13
  subst hn
  go_wp2
  go_quiet (fail)
  go_wp2
  go_quiet (fail)
  go_wp2_with (first | (go_at_call 15; refine (Try.least tb t eo _ (fun j hj => (cell_old (by repeat (first | exact Only.refl _ _ | refine Only.alloc ?_ _ | refine Only.drew ?_ _ | refine Only.set ?_ (.inr (by simp)) _)) htb j).trans (hc.out j hj)) 16 (by omega) hlt (fun h => absurd h (by omega)) 0 false (.inr ⟨rfl, rfl, rfl⟩)).mono ?_; rintro e w' ⟨rfl, q, rfl⟩) | (go_at_call 14; refine (Try.fails _ _).mono ?_; rintro e w' ⟨rfl, rfl⟩))
  exact bodyPost_ret (v := ansV 4 0) (by simp [results, Try.results13, go_sem]) rfl ⟨rfl, by repeat (first | exact Only.refl _ _ | refine Only.alloc ?_ _ | refine Only.drew ?_ _ | refine Only.set ?_ (.inr (by simp)) _)⟩
end Go.Proofs
namespace Go.Proofs
open Go.RowKit Go.Fp
set_option maxRecDepth 100000 in
set_option maxHeartbeats 4000000 in
theorem Try.fd16 (sb tb p : Nat) (kind name size fd dst most : Int) (w : World) (hk0 : ¬ kind < 1) (hk1 : ¬ 7 < kind) (hk2 : kind ≠ 1) (hk3 : kind ≠ 7) (hp : p < 4) (hsb : sb < w.heap.size) (cs : w.cell? ⟨sb, p, none⟩ = some (.pointer (some ⟨tb, 0, none⟩))) (hs : 16 ≤ fd) :
    Calls Try.prog 13 #[.pointer (some ⟨sb, 0, none⟩), .agg #[.int .i64 kind, .int .i64 p, .int .i64 name, .int .i64 size, .int .i64 fd, .int .i64 dst, .int .i64 most]] w fun x w' => x = .returned (ansV 3 0) ∧ Only (fun _ => False) w w' := by
  have hb0 : decide (kind < 1) = false := by simp; omega
  have hb1 : decide (kind > 7) = false := by simp; omega
  have hb6 : decide (kind = 1) = false := by simp [hk2]
  have hb7 : decide (kind = 7) = false := by simp [hk3]
  have hp0 : (0 : Int) ≤ p := by omega
  have hp1 : (p : Int) < 4 := by omega
  have hb2 : decide ((p : Int) < 0) = false := by simp
  have hb3 : decide ((p : Int) ≥ 4) = false := by simp; omega
  have hb4 : decide (fd < 0) = false := by simp; omega
  have hb5 : decide (fd ≥ 16) = true := by simp; omega
  go_enter Try.func13, Try.ntmps13
  go_wp2
  go_quiet (fail)
  go_wp2
  go_quiet (fail)
  go_wp2
  go_quiet (fail)
  go_wp2_with ((go_at_call 14; refine (Try.fails _ _).mono ?_; rintro e w' ⟨rfl, rfl⟩))
  exact bodyPost_ret (v := ansV 3 0) (by simp [results, Try.results13, go_sem]) rfl ⟨rfl, by repeat (first | exact Only.refl _ _ | refine Only.alloc ?_ _ | refine Only.drew ?_ _ | refine Only.set ?_ (.inr (by simp)) _)⟩
set_option maxRecDepth 100000 in
set_option maxHeartbeats 4000000 in
theorem Try.fd_none (sb tb p f : Nat) (kind name size dst most : Int) (w : World) (hk0 : ¬ kind < 1) (hk1 : ¬ 7 < kind) (hk2 : kind ≠ 1) (hk3 : kind ≠ 7) (hp : p < 4) (hsb : sb < w.heap.size) (cs : w.cell? ⟨sb, p, none⟩ = some (.pointer (some ⟨tb, 0, none⟩))) (htb : tb < w.heap.size) (hf : f < 16) (ce : w.cell? ⟨tb, f, none⟩ = some (.pointer none)) :
    Calls Try.prog 13 #[.pointer (some ⟨sb, 0, none⟩), .agg #[.int .i64 kind, .int .i64 p, .int .i64 name, .int .i64 size, .int .i64 f, .int .i64 dst, .int .i64 most]] w fun x w' => x = .returned (ansV 3 0) ∧ Only (fun _ => False) w w' := by
  have hb0 : decide (kind < 1) = false := by simp; omega
  have hb1 : decide (kind > 7) = false := by simp; omega
  have hb6 : decide (kind = 1) = false := by simp [hk2]
  have hb7 : decide (kind = 7) = false := by simp [hk3]
  have hp0 : (0 : Int) ≤ p := by omega
  have hp1 : (p : Int) < 4 := by omega
  have hb2 : decide ((p : Int) < 0) = false := by simp
  have hb3 : decide ((p : Int) ≥ 4) = false := by simp; omega
  have hf0 : (0 : Int) ≤ f := by omega
  have hf1 : (f : Int) < 16 := by omega
  have hb4 : decide ((f : Int) < 0) = false := by simp
  have hb5 : decide ((f : Int) ≥ 16) = false := by simp; omega
  go_enter Try.func13, Try.ntmps13
  go_wp2
  go_quiet (fail)
  go_wp2
  go_quiet (fail)
  go_wp2
  go_quiet (fail)
  go_wp2_with ((go_at_call 14; refine (Try.fails _ _).mono ?_; rintro e w' ⟨rfl, rfl⟩))
  exact bodyPost_ret (v := ansV 3 0) (by simp [results, Try.results13, go_sem]) rfl ⟨rfl, by repeat (first | exact Only.refl _ _ | refine Only.alloc ?_ _ | refine Only.drew ?_ _ | refine Only.set ?_ (.inr (by simp)) _)⟩
set_option maxRecDepth 100000 in
set_option maxHeartbeats 4000000 in
theorem Try.over_dst0 (sb tb ob p f : Nat) (name size dst most : Int) (w : World) (hp : p < 4) (hsb : sb < w.heap.size) (cs : w.cell? ⟨sb, p, none⟩ = some (.pointer (some ⟨tb, 0, none⟩))) (htb : tb < w.heap.size) (hf : f < 16) (ce : w.cell? ⟨tb, f, none⟩ = some (.pointer (some ⟨ob, 0, none⟩))) (hs : dst < 0) :
    Calls Try.prog 13 #[.pointer (some ⟨sb, 0, none⟩), .agg #[.int .i64 3, .int .i64 p, .int .i64 name, .int .i64 size, .int .i64 f, .int .i64 dst, .int .i64 most]] w fun x w' => x = .returned (ansV 2 0) ∧ Only (fun _ => False) w w' := by
  have hp0 : (0 : Int) ≤ p := by omega
  have hp1 : (p : Int) < 4 := by omega
  have hb2 : decide ((p : Int) < 0) = false := by simp
  have hb3 : decide ((p : Int) ≥ 4) = false := by simp; omega
  have hf0 : (0 : Int) ≤ f := by omega
  have hf1 : (f : Int) < 16 := by omega
  have hb4 : decide ((f : Int) < 0) = false := by simp
  have hb5 : decide ((f : Int) ≥ 16) = false := by simp; omega
  have hb8 : decide (dst < 0) = true := by simp [hs]
  go_enter Try.func13, Try.ntmps13
  go_wp2
  go_quiet (fail)
  go_wp2
  go_quiet (fail)
  go_wp2
  go_quiet (fail)
  go_wp2
  go_quiet (fail)
  go_wp2_with ((go_at_call 14; refine (Try.fails _ _).mono ?_; rintro e w' ⟨rfl, rfl⟩))
  exact bodyPost_ret (v := ansV 2 0) (by simp [results, Try.results13, go_sem]) rfl ⟨rfl, by repeat (first | exact Only.refl _ _ | refine Only.alloc ?_ _ | refine Only.drew ?_ _ | refine Only.set ?_ (.inr (by simp)) _)⟩
set_option maxRecDepth 100000 in
set_option maxHeartbeats 4000000 in
theorem Try.over_dst16 (sb tb ob p f : Nat) (name size dst most : Int) (w : World) (hp : p < 4) (hsb : sb < w.heap.size) (cs : w.cell? ⟨sb, p, none⟩ = some (.pointer (some ⟨tb, 0, none⟩))) (htb : tb < w.heap.size) (hf : f < 16) (ce : w.cell? ⟨tb, f, none⟩ = some (.pointer (some ⟨ob, 0, none⟩))) (hs : 16 ≤ dst) :
    Calls Try.prog 13 #[.pointer (some ⟨sb, 0, none⟩), .agg #[.int .i64 3, .int .i64 p, .int .i64 name, .int .i64 size, .int .i64 f, .int .i64 dst, .int .i64 most]] w fun x w' => x = .returned (ansV 2 0) ∧ Only (fun _ => False) w w' := by
  have hp0 : (0 : Int) ≤ p := by omega
  have hp1 : (p : Int) < 4 := by omega
  have hb2 : decide ((p : Int) < 0) = false := by simp
  have hb3 : decide ((p : Int) ≥ 4) = false := by simp; omega
  have hf0 : (0 : Int) ≤ f := by omega
  have hf1 : (f : Int) < 16 := by omega
  have hb4 : decide ((f : Int) < 0) = false := by simp
  have hb5 : decide ((f : Int) ≥ 16) = false := by simp; omega
  have hb8 : decide (dst < 0) = false := by simp; omega
  have hb9 : decide (dst ≥ 16) = true := by simp; omega
  go_enter Try.func13, Try.ntmps13
  go_wp2
  go_quiet (fail)
  go_wp2
  go_quiet (fail)
  go_wp2
  go_quiet (fail)
  go_wp2
  go_quiet (fail)
  go_wp2_with ((go_at_call 14; refine (Try.fails _ _).mono ?_; rintro e w' ⟨rfl, rfl⟩))
  exact bodyPost_ret (v := ansV 2 0) (by simp [results, Try.results13, go_sem]) rfl ⟨rfl, by repeat (first | exact Only.refl _ _ | refine Only.alloc ?_ _ | refine Only.drew ?_ _ | refine Only.set ?_ (.inr (by simp)) _)⟩
set_option maxRecDepth 100000 in
set_option maxHeartbeats 4000000 in
theorem Try.seek_no0 (sb tb ob p f : Nat) (name size dst most : Int) (w : World) (hp : p < 4) (hsb : sb < w.heap.size) (cs : w.cell? ⟨sb, p, none⟩ = some (.pointer (some ⟨tb, 0, none⟩))) (htb : tb < w.heap.size) (hf : f < 16) (ce : w.cell? ⟨tb, f, none⟩ = some (.pointer (some ⟨ob, 0, none⟩))) (hs : most < 0) :
    Calls Try.prog 13 #[.pointer (some ⟨sb, 0, none⟩), .agg #[.int .i64 6, .int .i64 p, .int .i64 name, .int .i64 size, .int .i64 f, .int .i64 dst, .int .i64 most]] w fun x w' => x = .returned (ansV 2 0) ∧ Only (fun _ => False) w w' := by
  have hp0 : (0 : Int) ≤ p := by omega
  have hp1 : (p : Int) < 4 := by omega
  have hb2 : decide ((p : Int) < 0) = false := by simp
  have hb3 : decide ((p : Int) ≥ 4) = false := by simp; omega
  have hf0 : (0 : Int) ≤ f := by omega
  have hf1 : (f : Int) < 16 := by omega
  have hb4 : decide ((f : Int) < 0) = false := by simp
  have hb5 : decide ((f : Int) ≥ 16) = false := by simp; omega
  have hb8 : decide (most < 0) = true := by simp [hs]
  go_enter Try.func13, Try.ntmps13
  go_wp2
  go_quiet (fail)
  go_wp2
  go_quiet (fail)
  go_wp2
  go_quiet (fail)
  go_wp2
  go_quiet (fail)
  go_wp2_with ((go_at_call 14; refine (Try.fails _ _).mono ?_; rintro e w' ⟨rfl, rfl⟩))
  exact bodyPost_ret (v := ansV 2 0) (by simp [results, Try.results13, go_sem]) rfl ⟨rfl, by repeat (first | exact Only.refl _ _ | refine Only.alloc ?_ _ | refine Only.drew ?_ _ | refine Only.set ?_ (.inr (by simp)) _)⟩
set_option maxRecDepth 100000 in
set_option maxHeartbeats 4000000 in
theorem Try.seek_no1 (sb tb ob p f : Nat) (name size dst most : Int) (w : World) (hp : p < 4) (hsb : sb < w.heap.size) (cs : w.cell? ⟨sb, p, none⟩ = some (.pointer (some ⟨tb, 0, none⟩))) (htb : tb < w.heap.size) (hf : f < 16) (ce : w.cell? ⟨tb, f, none⟩ = some (.pointer (some ⟨ob, 0, none⟩))) (hs : 1099511627776 < most) :
    Calls Try.prog 13 #[.pointer (some ⟨sb, 0, none⟩), .agg #[.int .i64 6, .int .i64 p, .int .i64 name, .int .i64 size, .int .i64 f, .int .i64 dst, .int .i64 most]] w fun x w' => x = .returned (ansV 2 0) ∧ Only (fun _ => False) w w' := by
  have hp0 : (0 : Int) ≤ p := by omega
  have hp1 : (p : Int) < 4 := by omega
  have hb2 : decide ((p : Int) < 0) = false := by simp
  have hb3 : decide ((p : Int) ≥ 4) = false := by simp; omega
  have hf0 : (0 : Int) ≤ f := by omega
  have hf1 : (f : Int) < 16 := by omega
  have hb4 : decide ((f : Int) < 0) = false := by simp
  have hb5 : decide ((f : Int) ≥ 16) = false := by simp; omega
  have hb8 : decide (most < 0) = false := by simp; omega
  have hb9 : decide (most > 1099511627776) = true := by simp; omega
  go_enter Try.func13, Try.ntmps13
  go_wp2
  go_quiet (fail)
  go_wp2
  go_quiet (fail)
  go_wp2
  go_quiet (fail)
  go_wp2
  go_quiet (fail)
  go_wp2_with ((go_at_call 14; refine (Try.fails _ _).mono ?_; rintro e w' ⟨rfl, rfl⟩))
  exact bodyPost_ret (v := ansV 2 0) (by simp [results, Try.results13, go_sem]) rfl ⟨rfl, by repeat (first | exact Only.refl _ _ | refine Only.alloc ?_ _ | refine Only.drew ?_ _ | refine Only.set ?_ (.inr (by simp)) _)⟩
set_option maxRecDepth 100000 in
set_option maxHeartbeats 4000000 in
theorem Try.read_no (sb tb ob p f : Nat) (name size dst most : Int) (w : World) (hp : p < 4) (hsb : sb < w.heap.size) (cs : w.cell? ⟨sb, p, none⟩ = some (.pointer (some ⟨tb, 0, none⟩))) (htb : tb < w.heap.size) (hf : f < 16) (ce : w.cell? ⟨tb, f, none⟩ = some (.pointer (some ⟨ob, 0, none⟩))) (hs : most < 1) :
    Calls Try.prog 13 #[.pointer (some ⟨sb, 0, none⟩), .agg #[.int .i64 5, .int .i64 p, .int .i64 name, .int .i64 size, .int .i64 f, .int .i64 dst, .int .i64 most]] w fun x w' => x = .returned (ansV 2 0) ∧ Only (fun _ => False) w w' := by
  have hp0 : (0 : Int) ≤ p := by omega
  have hp1 : (p : Int) < 4 := by omega
  have hb2 : decide ((p : Int) < 0) = false := by simp
  have hb3 : decide ((p : Int) ≥ 4) = false := by simp; omega
  have hf0 : (0 : Int) ≤ f := by omega
  have hf1 : (f : Int) < 16 := by omega
  have hb4 : decide ((f : Int) < 0) = false := by simp
  have hb5 : decide ((f : Int) ≥ 16) = false := by simp; omega
  have hb8 : decide (most < 1) = true := by simp [hs]
  go_enter Try.func13, Try.ntmps13
  go_wp2
  go_quiet (fail)
  go_wp2
  go_quiet (fail)
  go_wp2
  go_quiet (fail)
  go_wp2
  go_quiet (fail)
  go_wp2_with ((go_at_call 14; refine (Try.fails _ _).mono ?_; rintro e w' ⟨rfl, rfl⟩))
  exact bodyPost_ret (v := ansV 2 0) (by simp [results, Try.results13, go_sem]) rfl ⟨rfl, by repeat (first | exact Only.refl _ _ | refine Only.alloc ?_ _ | refine Only.drew ?_ _ | refine Only.set ?_ (.inr (by simp)) _)⟩
end Go.Proofs

