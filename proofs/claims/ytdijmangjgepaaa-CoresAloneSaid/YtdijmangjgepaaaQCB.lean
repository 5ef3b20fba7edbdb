/- Cores: nobody is idle; all is done in time. -/
import Derived.Test.YtdijmangjgepaaaQCA
set_option linter.unusedVariables false
set_option linter.unusedSimpArgs false
namespace Go.Cp

theorem busy (n : Nat) (now : Int) (s : S) : (idsOf n now s).length = min n (readyOf now s.ths).length ∧ (∀ k ∈ idsOf n now s, k ∈ readyOf now s.ths) ∧ (idsOf n now s).Pairwise (fun a b => a < b) ∧
    ∀ k ∈ idsOf n now s, ∀ j ∈ readyOf now s.ths, j ∉ idsOf n now s → (th s.ths j).level ≤ (th s.ths k).level := by
  have hp := ids_perm n now s
  refine ⟨by rw [hp.length_eq, chosen_length, ready_come], fun k hk => by rw [← ready_come]; exact chosen_ready (hp.mem_iff.1 hk), ids_sorted n now s, fun k hk j hj hn => ?_⟩
  exact chosen_level (hp.mem_iff.1 hk) (by rw [ready_come]; exact hj) (fun h => hn (hp.mem_iff.2 h))

def sumW (l : List Th) : Int := ((List.range l.length).map fun k => (th l k).work).sum

theorem sum_sub (f : Nat → Int) (c : List Nat) : ∀ (r : List Nat), (r.map fun k => if k ∈ c then f k - 1 else f k).sum = (r.map f).sum - ((r.filter fun k => decide (k ∈ c)).length : Nat)
  | [] => by simp
  | k :: r => by
    have ih := sum_sub f c r
    by_cases h : k ∈ c
    · simp [h, ih]; omega
    · simp [h, ih]; omega
theorem filter_len {c : List Nat} (hc : c.Nodup) {m : Nat} (hm : ∀ k ∈ c, k < m) : ((List.range m).filter fun k => decide (k ∈ c)).length = c.length := by
  have hp : ((List.range m).filter fun k => decide (k ∈ c)).Perm c := by
    rw [List.perm_ext_iff_of_nodup (List.Nodup.sublist List.filter_sublist List.nodup_range) hc]
    intro k
    simp only [List.mem_filter, List.mem_range, decide_eq_true_eq]
    exact ⟨fun h => h.2, fun h => ⟨hm k h, h⟩⟩
  exact hp.length_eq

theorem tick_sum (n : Nat) (slice now : Int) (s : S) : sumW (tick n slice now s).ths = sumW s.ths - ((chosen n now s).length : Nat) := by
  unfold sumW
  rw [← (tick_same n slice now s).1]
  have hlt : ∀ k ∈ chosen n now s, k < s.ths.length := fun k hk => by
    have := (mem_ready.1 (chosen_ready hk)).1
    rwa [← (come_same now s).1] at this
  have : ((List.range s.ths.length).map fun k => (th (tick n slice now s).ths k).work) = (List.range s.ths.length).map fun k => if k ∈ chosen n now s then (th s.ths k).work - 1 else (th s.ths k).work :=
    List.map_congr_left fun k _ => tick_work n slice now s k
  rw [this, sum_sub, filter_len (chosen_nodup n now s) hlt]

theorem sum_nonneg {f : Nat → Int} (h : ∀ k, 0 ≤ f k) : ∀ r : List Nat, 0 ≤ (r.map f).sum
  | [] => by simp
  | k :: r => by have := sum_nonneg h r; have := h k; simp; omega
theorem sum_zero {f : Nat → Int} (h : ∀ k, 0 ≤ f k) : ∀ {r : List Nat}, (r.map f).sum = 0 → ∀ k ∈ r, f k = 0
  | [], _, k, hk => by cases hk
  | a :: r, hs, k, hk => by
    have h1 := sum_nonneg h r
    have h2 := h a
    simp at hs
    rcases List.mem_cons.1 hk with rfl | hk
    · omega
    · exact sum_zero h (by omega) k hk
theorem sum_pos {f : Nat → Int} (h : ∀ k, 0 ≤ f k) {r : List Nat} (hs : (r.map f).sum ≠ 0) : ∃ k ∈ r, 0 < f k := by
  by_cases he : ∃ k ∈ r, 0 < f k
  · exact he
  · exfalso
    apply hs
    have hz : ∀ k ∈ r, f k = 0 := fun k hk => by
      have h1 := h k
      have h2 : ¬ 0 < f k := fun h3 => he ⟨k, hk, h3⟩
      omega
    clear he hs
    induction r with
    | nil => rfl
    | cons a r ih => simp [hz a (by simp), ih (fun k hk => hz k (by simp [hk]))]

/-- From the last coming on each tick does something, while there is something. -/
theorem tick_less {n : Nat} (hn : 1 ≤ n) {slice now : Int} {s : S} (hc : ∀ k, k < s.ths.length → (th s.ths k).come ≤ now) (hw : ∀ k, 0 ≤ (th s.ths k).work) (h : sumW s.ths ≠ 0) : sumW (tick n slice now s).ths ≤ sumW s.ths - 1 := by
  obtain ⟨k, hk, hp⟩ := sum_pos (f := fun k => (th s.ths k).work) hw h
  have hkl : k < s.ths.length := by simpa using hk
  have hr : k ∈ readyOf now (come now s).ths := by rw [ready_come]; exact mem_ready.2 ⟨hkl, hc k hkl, hp⟩
  have hl := chosen_length n now s
  have h1 : 1 ≤ (readyOf now (come now s).ths).length := List.length_pos_iff.2 (List.ne_nil_of_mem hr)
  rw [tick_sum]
  omega
theorem tick_le (n : Nat) (slice now : Int) (s : S) : sumW (tick n slice now s).ths ≤ sumW s.ths := by rw [tick_sum]; omega

theorem after_le (n : Nat) (slice : Int) : ∀ (m now : Nat) (s : S), sumW (after n slice m now s).ths ≤ sumW s.ths
  | 0, _, s => Int.le_refl _
  | m + 1, now, s => Int.le_trans (after_le n slice m (now + 1) _) (tick_le n slice now s)
theorem after_same (n : Nat) (slice : Int) : ∀ (m now : Nat) (s : S), Same s.ths (after n slice m now s).ths
  | 0, _, s => Same.refl _
  | m + 1, now, s => (tick_same n slice now s).trans (after_same n slice m (now + 1) _)
theorem after_nonneg {n : Nat} {slice : Int} : ∀ (m now : Nat) {s : S}, (∀ j, 0 ≤ (th s.ths j).work) → ∀ j, 0 ≤ (th (after n slice m now s).ths j).work
  | 0, _, s, h, j => h j
  | m + 1, now, s, h, j => after_nonneg m (now + 1) (fun j => tick_nonneg h j) j
theorem after_add (n : Nat) (slice : Int) : ∀ (a b now : Nat) (s : S), after n slice (a + b) now s = after n slice b (now + a) (after n slice a now s)
  | 0, b, now, s => by simp [after]
  | a + 1, b, now, s => by
    rw [show a + 1 + b = (a + b) + 1 by omega]
    show after n slice (a + b) (now + 1) _ = _
    rw [after_add n slice a b (now + 1)]
    rw [show now + 1 + a = now + (a + 1) by omega]
    rfl

theorem after_less {n : Nat} (hn : 1 ≤ n) {slice : Int} : ∀ (m now : Nat) {s : S}, (∀ k, k < s.ths.length → (th s.ths k).come ≤ now) → (∀ k, 0 ≤ (th s.ths k).work) → sumW s.ths ≤ m → sumW (after n slice m now s).ths ≤ 0
  | 0, _, s, _, _, h => h
  | m + 1, now, s, hc, hw, h => by
    have hs := tick_same n slice now s
    refine after_less hn m (now + 1) (fun k hk => ?_) (fun j => tick_nonneg hw j) ?_
    · rw [← hs.1] at hk
      rw [← (hs.2 k).1]
      have := hc k hk
      omega
    · by_cases h0 : sumW s.ths = 0
      · have := tick_le n slice now s; omega
      · have := tick_less hn (slice := slice) hc hw h0; omega

/-- All is done in time. -/
theorem done {n : Nat} (hn : 1 ≤ n) {slice : Int} {s : S} {c w : Nat} (hc : ∀ k, k < s.ths.length → (th s.ths k).come ≤ c) (hw : ∀ k, 0 ≤ (th s.ths k).work) (h : sumW s.ths ≤ w) (j : Nat) (hj : j < s.ths.length) : (th (after n slice (c + w) 0 s).ths j).work = 0 := by
  rw [after_add]
  have hs := after_same n slice c 0 s
  have h1 := after_less hn (slice := slice) w (0 + c) (s := after n slice c 0 s) (fun k hk => by
    rw [← hs.1] at hk
    rw [← (hs.2 k).1]
    have := hc k hk
    omega) (after_nonneg c 0 hw) (Int.le_trans (after_le n slice c 0 s) h)
  have h2 : ∀ j, 0 ≤ (th (after n slice w (0 + c) (after n slice c 0 s)).ths j).work := after_nonneg w (0 + c) (after_nonneg c 0 hw)
  have h3 := sum_nonneg (f := fun k => (th (after n slice w (0 + c) (after n slice c 0 s)).ths k).work) h2 (List.range (after n slice w (0 + c) (after n slice c 0 s)).ths.length)
  refine sum_zero (f := fun k => (th (after n slice w (0 + c) (after n slice c 0 s)).ths k).work) h2 (r := List.range (after n slice w (0 + c) (after n slice c 0 s)).ths.length) ?_ j ?_
  · unfold sumW at h1; omega
  · have := after_same n slice w (0 + c) (after n slice c 0 s)
    rw [← this.1, ← hs.1]; simpa using hj

/-- How often one ran is what is done of it. -/
theorem ran_work (n : Nat) (slice : Int) (j : Nat) : ∀ (m now : Nat) (s : S), (((runs n slice m now s).countP fun r => decide (j ∈ r) : Nat) : Int) = (th s.ths j).work - (th (after n slice m now s).ths j).work
  | 0, _, s => by simp [runs, after]
  | m + 1, now, s => by
    have ih := ran_work n slice j m (now + 1) (tick n slice now s)
    show (((idsOf n now s :: runs n slice m (now + 1) (tick n slice now s)).countP fun r => decide (j ∈ r) : Nat) : Int) = (th s.ths j).work - (th (after n slice m (now + 1) (tick n slice now s)).ths j).work
    rw [List.countP_cons, tick_work] at *
    have hm : j ∈ idsOf n now s ↔ j ∈ chosen n now s := (ids_perm n now s).mem_iff
    by_cases h : j ∈ chosen n now s
    · rw [if_pos h] at ih
      rw [if_pos (by simpa using hm.2 h)]
      push_cast
      omega
    · rw [if_neg h] at ih
      rw [if_neg (by simpa using fun hh => h (hm.1 hh))]
      push_cast
      omega

end Go.Cp
