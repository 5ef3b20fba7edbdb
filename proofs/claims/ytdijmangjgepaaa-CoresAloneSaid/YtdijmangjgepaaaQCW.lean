/- Cores: the walk of Wrong. -/
import Derived.Test.YtdijmangjgepaaaQCO
set_option linter.unusedVariables false
set_option linter.unusedSimpArgs false
namespace Go.Proofs
open Go.RowKit Go.Cp Go.Sort

def tinF (t : Tin) : Nat → Int
  | 0 => t.1
  | 1 => t.2.1
  | _ => t.2.2
def dT : Tin := (0, 0, 0)
theorem below_drew' {B : Nat} {w0 w : World} (h : Below B w0 w) (n : Nat) : Below B w0 (w.drewN n) := ⟨h.os, h.tape, h.output, h.size, h.block⟩

theorem wrong_any {c s : Int} {xs : List Tin} (h : (decide (c < 1) || decide (8 < c) || decide (s < 1) || decide (100 < s) || decide (64 < xs.length)) = false) : wrongF c s xs = xs.any badT := by
  unfold wrongF; rw [h]; rfl
theorem any_take {xs : List Tin} (h : ∀ t ∈ xs.take xs.length, badT t = false) : xs.any badT = false := by
  rw [List.take_length] at h
  rw [List.any_eq_false]
  intro t ht
  rw [h t ht]; simp
theorem any_at {xs : List Tin} {k : Nat} (hk : k < xs.length) (h : badT xs[k] = true) : xs.any badT = true := List.any_eq_true.2 ⟨_, List.getElem_mem hk, h⟩

set_option maxRecDepth 100000 in
set_option maxHeartbeats 4000000 in
theorem Try.wrong (g off cap : Nat) (a : Option Addr) (xs : List Tin) (c s : Int) (w : World) (ha : Hid (0 < xs.length → a = some ⟨g, off, none⟩)) (hg : Hid (0 < xs.length → g < w.heap.size))
    (hc : Hid (∀ i, i < xs.length → ∀ j, j < 3 → w.cell? ⟨g, off + i * 3 + j, none⟩ = some (.int .i64 (tinF (xs.getD i dT) j)))) :
    Calls Try.prog 19 #[.int .i64 c, .int .i64 s, .slice a xs.length cap] w fun e w' => e = .returned (.int .i64 (if wrongF c s xs = true then 2 else 0)) ∧ Below w.heap.size w w' := by
  have key : ∀ r : Int, Hid (r = if wrongF c s xs = true then 2 else 0) → Calls Try.prog 19 #[.int .i64 c, .int .i64 s, .slice a xs.length cap] w fun e w' => e = .returned (.int .i64 r) ∧ Below w.heap.size w w' := by
    intro r hr
    have hb0 : Below w.heap.size w w := Below.refl _ _
    by_cases c1 : c < 1
    · have : r = 2 := by rw [hr.out]; simp [wrongF, c1]
      subst this
      go_enter Try.func19, Try.ntmps19
      go_wp2
      go_ret
      exact ⟨rfl, hb0⟩
    by_cases c2 : 8 < c
    · have : r = 2 := by rw [hr.out]; simp [wrongF, c2]
      subst this
      go_enter Try.func19, Try.ntmps19
      go_wp2
      go_ret
      exact ⟨rfl, hb0⟩
    by_cases c3 : s < 1
    · have : r = 2 := by rw [hr.out]; simp [wrongF, c3]
      subst this
      go_enter Try.func19, Try.ntmps19
      go_wp2
      go_ret
      exact ⟨rfl, hb0⟩
    by_cases c4 : 100 < s
    · have : r = 2 := by rw [hr.out]; simp [wrongF, c4]
      subst this
      go_enter Try.func19, Try.ntmps19
      go_wp2
      go_ret
      exact ⟨rfl, hb0⟩
    by_cases c5 : 64 < xs.length
    · have : r = 2 := by rw [hr.out]; simp [wrongF, c5]
      subst this
      have c5' : (64 : Int) < (xs.length : Int) := by omega
      go_enter Try.func19, Try.ntmps19
      go_wp2
      go_ret
      exact ⟨rfl, hb0⟩
    have hany : Hid (wrongF c s xs = xs.any badT) := wrong_any (by simp [c1, c2, c3, c4, c5])
    have c5' : (xs.length : Int) ≤ 64 := by omega
    go_enter Try.func19, Try.ntmps19
    go_wp2
    go_loopw [30] (fun i wr => ∃ k : Nat, k ≤ xs.length ∧ i = .int .i64 k ∧ Hid (Below w.heap.size w wr) ∧ Hid (∀ t ∈ xs.take k, badT t = false)) (fun i _ => xs.length + 1 - (intOf i).toNat)
    case atStart => exact ⟨0, Nat.zero_le _, rfl, hb0, by intro t ht; simp at ht⟩
    case round =>
      obtain ⟨k, hk, rfl, hB, hA⟩ := hrel
      by_cases hlt : k < xs.length
      · obtain rfl := ha.out (by omega)
        have hgl := hg.out (by omega)
        obtain ⟨t, ht⟩ : ∃ t, t = xs[k] := ⟨_, rfl⟩
        have hcell : Hid (∀ j, j < 3 → wr.cell? ⟨g, off + k * 3 + j, none⟩ = some (.int .i64 (tinF t j))) := fun j hj => by
          rw [ht]
          have := (hB.out.cell (p := ⟨g, off + k * 3 + j, none⟩) hgl).trans (hc.out k hlt j hj)
          rwa [show xs.getD k dT = xs[k] by simp [List.getD_eq_getElem?_getD, hlt]] at this
        have q0 : wr.cell? ⟨g, off + k * 3, none⟩ = some (.int .i64 t.1) := hcell.out 0 (by omega)
        have q1 : wr.cell? ⟨g, off + k * 3 + 1, none⟩ = some (.int .i64 t.2.1) := hcell.out 1 (by omega)
        have q2 : wr.cell? ⟨g, off + k * 3 + 2, none⟩ = some (.int .i64 t.2.2) := hcell.out 2 (by omega)
        have k0 : (0 : Int) ≤ (k : Int) := by omega
        have k1 : (k : Int) < (xs.length : Int) := by omega
        replace ht := Lib.hid ht
        obtain ⟨x0, hx0⟩ : ∃ x, x = t.1 := ⟨_, rfl⟩
        obtain ⟨x1, hx1⟩ : ∃ x, x = t.2.1 := ⟨_, rfl⟩
        obtain ⟨x2, hx2⟩ : ∃ x, x = t.2.2 := ⟨_, rfl⟩
        rw [← hx0] at q0
        rw [← hx1] at q1
        rw [← hx2] at q2
        replace hx0 := Lib.hid hx0
        replace hx1 := Lib.hid hx1
        replace hx2 := Lib.hid hx2
        have hbad : ∀ (h : badT t = true), r = 2 := fun h => by rw [hr.out, hany.out, any_at hlt (by rw [← ht.out]; exact h)]; rfl
        replace hbad := Lib.hid hbad
        have hal : Hid (Below w.heap.size w (wr.alloc (.cells #[.int .i64 x0, .int .i64 x1, .int .i64 x2] 25 (0, 0)))) := hB.out.alloc hB.out.size _
        by_cases b0 : x0 < 0
        · have := hbad.out (by unfold badT; rw [← hx0.out]; simp [b0])
          subst this
          go_wp2
          go_ret
          exact ⟨rfl, hal.out⟩
        by_cases b1 : 10000 < x0
        · have := hbad.out (by unfold badT; rw [← hx0.out]; simp [b1])
          subst this
          go_wp2
          go_ret
          exact ⟨rfl, hal.out⟩
        by_cases b2 : x1 < 0
        · have := hbad.out (by unfold badT; rw [← hx1.out]; simp [b2])
          subst this
          go_wp2
          go_ret
          exact ⟨rfl, hal.out⟩
        by_cases b3 : 32 ≤ x1
        · have := hbad.out (by unfold badT; rw [← hx1.out]; simp [b3])
          subst this
          go_wp2
          go_ret
          exact ⟨rfl, hal.out⟩
        by_cases b4 : x2 < 0
        · have := hbad.out (by unfold badT; rw [← hx2.out]; simp [b4])
          subst this
          go_wp2
          go_ret
          exact ⟨rfl, hal.out⟩
        by_cases b5 : 10000 < x2
        · have := hbad.out (by unfold badT; rw [← hx2.out]; simp [b5])
          subst this
          go_wp2
          go_ret
          exact ⟨rfl, hal.out⟩
        go_wp2
        go_roundw
        case rel =>
          refine ⟨k + 1, by omega, by go_num, hal, fun u hu => ?_⟩
          rw [List.take_succ_eq_append_getElem hlt] at hu
          rcases List.mem_append.1 hu with hu | hu
          · exact hA.out u hu
          · rw [List.mem_singleton.1 hu, ← ht.out]
            unfold badT
            rw [← hx0.out, ← hx1.out, ← hx2.out]
            simp [b0, b1, b2, b3, b4, b5]
        case measure => simp [intOf]; omega
      · obtain rfl : k = xs.length := by omega
        have : r = 0 := by rw [hr.out, hany.out, any_take hA.out]; rfl
        subst this
        go_wp2
        go_ret
        exact ⟨rfl, hB.out⟩
  exact key _ rfl
end Go.Proofs
