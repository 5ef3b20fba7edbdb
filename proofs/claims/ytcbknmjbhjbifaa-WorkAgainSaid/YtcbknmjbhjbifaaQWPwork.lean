/- Plain laws of work. -/
import Derived.Test.YtcbknmjbhjbifaaQWM
import Derived.Test.YtcbknmjbhjbifaaPLib
import Derived.Test.YtcbknmjbhjbifaaQWK
set_option linter.unusedSimpArgs false
set_option linter.unusedVariables false
namespace Go.Proofs.Ytcbknmjbhjbifaa
open Go Go.Ab

theorem alive12_eq : keep_alive12 = some true := by decide +kernel

abbrev Wq := Work_queue
abbrev Wo := Api_WorkOp
def cur (b : Int) : List Int := if 0 ≤ b then [b] else []
/-- All that was begun, in order, and then what waits. -/
def allS (s : Wq) : List Int := s.done_ ++ cur s.begun_ ++ s.waits_

def beginF (s : Wq) : Int × Wq := if 0 ≤ s.begun_ then (6, s) else match s.waits_ with | [] => (3, s) | x :: w => (0, ⟨w, x, s.done_⟩)
def endF (s : Wq) : Int × Wq := if s.begun_ < 0 then (3, s) else (0, ⟨s.waits_, -1, s.done_ ++ [s.begun_]⟩)
def flushF (s : Wq) (x : Int) : Wq :=
  if x ∈ s.waits_ then ⟨s.waits_.drop (s.waits_.idxOf x + 1), -1, s.done_ ++ cur s.begun_ ++ s.waits_.take (s.waits_.idxOf x + 1)⟩
  else if s.begun_ = x then ⟨s.waits_, -1, s.done_ ++ [s.begun_]⟩ else s
def stepF (s : Wq) (o : Wo) : Int × Wq :=
  if o.Kind < 1 ∨ o.Kind > 5 then (5, s)
  else if (o.Kind ≠ 2 ∧ o.Kind ≠ 3) ∧ (o.Item < 0 ∨ o.Item > 99) then (2, s)
  else if o.Kind = 1 then (if o.Item ∈ s.waits_ then (6, s) else (0, ⟨s.waits_ ++ [o.Item], s.begun_, s.done_⟩))
  else if o.Kind = 2 then beginF s
  else if o.Kind = 3 then endF s
  else if o.Kind = 4 then (if o.Item ∈ s.waits_ then (0, ⟨s.waits_.take (s.waits_.idxOf o.Item) ++ s.waits_.drop (s.waits_.idxOf o.Item + 1), s.begun_, s.done_⟩) else (3, s))
  else (0, flushF s o.Item)

structure Inv (s : Wq) (k : Nat) : Prop where
  nd : s.waits_.Nodup
  ok : ∀ x ∈ s.waits_, 0 ≤ x ∧ x ≤ 99
  bg : s.begun_ = -1 ∨ (0 ≤ s.begun_ ∧ s.begun_ ≤ 99)
  len : (allS s).length ≤ k

theorem all_len (s : Wq) : (allS s).length = s.done_.length + (cur s.begun_).length + s.waits_.length := by
  unfold allS; simp; omega

theorem begin_eq (s : Wq) : work_queue_begin s = some (beginF s) := by
  obtain ⟨w, b, d⟩ := s
  unfold work_queue_begin beginF
  by_cases hb : 0 ≤ b
  · rw [show decide (b ≥ 0) = true from decide_eq_true hb, cond_true, if_pos hb]
  · rw [show decide (b ≥ 0) = false from decide_eq_false hb, cond_false, if_neg hb]
    cases w with
    | nil => rfl
    | cons x w =>
      have : ((((x :: w).length : Nat) : Int) == 0) = false := by rw [beq_eq_false_iff_ne, List.length_cons]; omega
      rw [this, cond_false, if_pos (by simp), if_pos (by simp)]
      simp

theorem end_eq (s : Wq) (h : s.done_.length ≤ 1000) : work_queue_end s = some (endF s) := by
  obtain ⟨w, b, d⟩ := s
  have h : d.length ≤ 1000 := h
  unfold work_queue_end endF
  by_cases hb : b < 0
  · rw [show decide (b < 0) = true from decide_eq_true hb, cond_true, if_pos hb]
  · rw [show decide (b < 0) = false from decide_eq_false hb, cond_false, if_neg hb]
    simp only [List.length_cons, List.length_nil]
    rw [if_pos (by omega)]

theorem busy_eq (s : Wq) (x : Int) (h : s.waits_.length ≤ 1000) : work_queue_busy s x = some (decide (s.begun_ = x ∨ x ∈ s.waits_)) := by
  obtain ⟨w, b, d⟩ := s
  have h : w.length ≤ 1000 := h
  unfold work_queue_busy
  simp only
  rw [slices_Contains_int_eq _ _ (by omega)]
  by_cases hb : b = x
  · subst hb; simp
  · have : (b == x) = false := by simpa using hb
    rw [this]
    simp [hb]

theorem idxOf_cons_ne {x y : Int} {w : List Int} (h : y ≠ x) : (y :: w).idxOf x = w.idxOf x + 1 := by
  rw [List.idxOf_cons]
  have : (y == x) = false := by simpa using h
  rw [this]; rfl

theorem flush_eq (a0 : Wq) (o : Wo) (hi : 0 ≤ o.Item) : ∀ n (s : Wq), 2 * s.waits_.length + (cur s.begun_).length < n → s.waits_.Nodup → (∀ x ∈ s.waits_, 0 ≤ x) → s.done_.length + s.waits_.length + (cur s.begun_).length ≤ 1000 →
    work_queue_do_l1 a0 o n s.waits_ s.begun_ s.done_ = some (0, flushF s o.Item) := by
  intro n
  induction n with
  | zero => intro s h; omega
  | succ n ih =>
    intro s hm hnd hpos hlen
    obtain ⟨w, b, d⟩ := s
    simp only at hm hnd hpos hlen ⊢
    unfold work_queue_do_l1
    rw [busy_eq _ _ (by show w.length ≤ 1000; omega), Option.bind_some]
    simp only
    by_cases hbusy : b = o.Item ∨ o.Item ∈ w
    · rw [decide_eq_true hbusy, cond_true, begin_eq, Option.bind_some]
      by_cases hb : 0 ≤ b
      · have e1 : beginF ⟨w, b, d⟩ = (6, ⟨w, b, d⟩) := by unfold beginF; rw [if_pos hb]
        have c1 : cur b = [b] := by unfold cur; rw [if_pos hb]
        rw [c1] at hm hlen
        simp only [List.length_cons, List.length_nil] at hm hlen
        rw [e1]
        simp only
        rw [show ((6 : Int) == 6) = true from rfl, cond_true, end_eq _ (by show d.length ≤ 1000; omega), Option.bind_some]
        have e2 : endF ⟨w, b, d⟩ = (0, ⟨w, -1, d ++ [b]⟩) := by unfold endF; rw [if_neg (by simp only; omega)]
        rw [e2]
        simp only
        have := ih ⟨w, -1, d ++ [b]⟩ (by show 2 * w.length + 0 < n; omega) hnd hpos (by simp [cur]; omega)
        simp only at this
        rw [this]
        congr 2
        unfold flushF
        simp only
        by_cases hmem : o.Item ∈ w
        · rw [if_pos hmem, if_pos hmem, c1]
          simp [cur]
        · rw [if_neg hmem, if_neg hmem, if_neg (by omega), if_pos (by simpa [hmem] using hbusy)]
      · have hmem : o.Item ∈ w := by
          rcases hbusy with h | h
          · omega
          · exact h
        have c0 : cur b = [] := by unfold cur; rw [if_neg hb]
        rw [c0] at hm hlen
        cases w with
        | nil => simp at hmem
        | cons x w =>
          have hx := hpos x (by simp)
          have e1 : beginF ⟨x :: w, b, d⟩ = (0, ⟨w, x, d⟩) := by unfold beginF; rw [if_neg hb]
          have cx : cur x = [x] := by unfold cur; rw [if_pos hx]
          rw [e1]
          simp only
          rw [show ((0 : Int) == 6) = false from rfl, cond_false]
          simp only [List.length_cons, List.length_nil] at hm hlen
          have := ih ⟨w, x, d⟩ (by rw [cx]; simp only [List.length_cons, List.length_nil]; omega) (List.nodup_cons.1 hnd).2 (fun y hy => hpos y (by simp [hy])) (by rw [cx]; simp only [List.length_cons, List.length_nil]; omega)
          simp only at this
          rw [this]
          congr 2
          unfold flushF
          simp only
          rw [if_pos hmem, c0]
          by_cases hxe : x = o.Item
          · subst hxe
            rw [if_neg (List.nodup_cons.1 hnd).1, if_pos rfl]
            simp
          · have hmw : o.Item ∈ w := by
              rcases List.mem_cons.1 hmem with h | h
              · exact absurd h.symm hxe
              · exact h
            rw [if_pos hmw, idxOf_cons_ne hxe, cx]
            simp
    · rw [decide_eq_false hbusy, cond_false]
      have h1 : ¬ b = o.Item := fun h => hbusy (.inl h)
      have h2 : ¬ o.Item ∈ w := fun h => hbusy (.inr h)
      unfold flushF
      simp only
      rw [if_neg h2, if_neg h1]

theorem do_eq {s : Wq} {k : Nat} (h : Inv s k) (hk : k ≤ 400) (o : Wo) : work_queue_do s o = some (stepF s o) := by
  have hl := all_len s
  have hl2 := h.len
  have hlw : s.waits_.length ≤ 400 := by omega
  have hld : s.done_.length ≤ 400 := by omega
  unfold work_queue_do stepF
  by_cases c1 : o.Kind < 1 ∨ o.Kind > 5
  · rw [if_pos c1]
    have : (decide (o.Kind < 1) || decide (o.Kind > 5)) = true := by simpa using c1
    rw [this, cond_true]
  rw [if_neg c1]
  have : (decide (o.Kind < 1) || decide (o.Kind > 5)) = false := by simp; omega
  rw [this, cond_false]
  by_cases c2 : (o.Kind ≠ 2 ∧ o.Kind ≠ 3) ∧ (o.Item < 0 ∨ o.Item > 99)
  · rw [if_pos c2]
    have : (((o.Kind != 2) && (o.Kind != 3)) && (decide (o.Item < 0) || decide (o.Item > 99))) = true := by simpa using c2
    rw [this, cond_true]
  rw [if_neg c2]
  have : (((o.Kind != 2) && (o.Kind != 3)) && (decide (o.Item < 0) || decide (o.Item > 99))) = false := by
    rw [Bool.eq_false_iff]; intro hh; exact c2 (by simpa using hh)
  rw [this, cond_false]
  by_cases k1 : o.Kind = 1
  · rw [if_pos k1, show (o.Kind == 1) = true by simpa using k1, cond_true, slices_Contains_int_eq _ _ (by omega), Option.bind_some]
    by_cases hm : o.Item ∈ s.waits_
    · rw [decide_eq_true hm, cond_true, if_pos hm]
    · rw [decide_eq_false hm, cond_false, if_neg hm]
      simp only [List.length_cons, List.length_nil]
      rw [if_pos (by omega)]
  rw [if_neg k1, show (o.Kind == 1) = false by simpa using k1, cond_false]
  by_cases k2 : o.Kind = 2
  · rw [if_pos k2, show (o.Kind == 2) = true by simpa using k2, cond_true, begin_eq, Option.bind_some]
  rw [if_neg k2, show (o.Kind == 2) = false by simpa using k2, cond_false]
  by_cases k3 : o.Kind = 3
  · rw [if_pos k3, show (o.Kind == 3) = true by simpa using k3, cond_true, end_eq _ (by omega), Option.bind_some]
  rw [if_neg k3, show (o.Kind == 3) = false by simpa using k3, cond_false]
  have hitem : 0 ≤ o.Item ∧ o.Item ≤ 99 := by
    by_cases h1 : 0 ≤ o.Item ∧ o.Item ≤ 99
    · exact h1
    · exact absurd ⟨⟨k2, k3⟩, by omega⟩ c2
  by_cases k4 : o.Kind = 4
  · rw [if_pos k4, show (o.Kind == 4) = true by simpa using k4, cond_true, slices_Index_int_eq _ _ (by omega), Option.bind_some]
    by_cases hm : o.Item ∈ s.waits_
    · rw [if_pos hm, if_pos hm]
      have hi : s.waits_.idxOf o.Item < s.waits_.length := List.idxOf_lt_length_iff.2 hm
      rw [show decide (((s.waits_.idxOf o.Item : Nat) : Int) < 0) = false from decide_eq_false (by omega), cond_false]
      unfold slices_Clone_int
      rw [if_pos (by omega), Option.bind_some, wrap_id (by omega) (by omega)]
      unfold slices_Delete_int
      rw [if_pos (by omega), Option.bind_some]
      have e1 : (((s.waits_.idxOf o.Item : Nat) : Int)).toNat = s.waits_.idxOf o.Item := by omega
      have e2 : (((s.waits_.idxOf o.Item : Nat) : Int) + 1).toNat = s.waits_.idxOf o.Item + 1 := by omega
      rw [e1, e2]
    · rw [if_neg hm, if_neg hm, show decide ((-1 : Int) < 0) = true from rfl, cond_true]
  rw [if_neg k4, show (o.Kind == 4) = false by simpa using k4, cond_false]
  rw [show (o.Kind == 5) = true by simp; omega, cond_true]
  exact flush_eq s o hitem.1 FUEL s (by unfold FUEL; omega) h.nd (fun x hx => (h.ok x hx).1) (by omega)

theorem begin_all (s : Wq) (hpos : ∀ x ∈ s.waits_, 0 ≤ x) : allS (beginF s).2 = allS s := by
  obtain ⟨w, b, d⟩ := s
  unfold beginF
  by_cases hb : 0 ≤ b
  · rw [if_pos hb]
  · rw [if_neg hb]
    cases w with
    | nil => rfl
    | cons x w =>
      have hx := hpos x (by simp)
      simp [allS, cur, hb, hx]
theorem end_all (s : Wq) : allS (endF s).2 = allS s := by
  obtain ⟨w, b, d⟩ := s
  unfold endF
  by_cases hb : b < 0
  · rw [if_pos hb]
  · rw [if_neg hb]
    simp [allS, cur, show 0 ≤ b by simpa using hb]
theorem flush_all (s : Wq) (x : Int) (hx : 0 ≤ x) : allS (flushF s x) = allS s := by
  obtain ⟨w, b, d⟩ := s
  unfold flushF
  simp only
  by_cases hm : x ∈ w
  · rw [if_pos hm]
    simp only [allS, show cur (-1) = [] from rfl, List.append_nil, List.append_assoc, List.take_append_drop]
  · rw [if_neg hm]
    by_cases hb : b = x
    · rw [if_pos hb]
      subst hb
      simp [allS, cur, hx]
    · rw [if_neg hb]

theorem begin_inv {s : Wq} {k : Nat} (h : Inv s k) : Inv (beginF s).2 k := by
  have ha := begin_all s (fun x hx => (h.ok x hx).1)
  refine ⟨?_, ?_, ?_, by rw [ha]; exact h.len⟩
  all_goals
    obtain ⟨w, b, d⟩ := s
    obtain ⟨h1, h2, h3, h4⟩ := h
    simp only at h1 h2 h3
    unfold beginF
    by_cases hb : 0 ≤ b
    · rw [if_pos hb]; first | exact h1 | exact h2 | exact h3
    · rw [if_neg hb]
      cases w with
      | nil => first | exact h1 | exact h2 | exact h3
      | cons x w => first | exact (List.nodup_cons.1 h1).2 | exact fun y hy => h2 y (by simp [hy]) | exact .inr (h2 x (by simp))
theorem end_inv {s : Wq} {k : Nat} (h : Inv s k) : Inv (endF s).2 k := by
  have ha := end_all s
  refine ⟨?_, ?_, ?_, by rw [ha]; exact h.len⟩
  all_goals
    obtain ⟨w, b, d⟩ := s
    obtain ⟨h1, h2, h3, h4⟩ := h
    simp only at h1 h2 h3
    unfold endF
    by_cases hb : b < 0
    · rw [if_pos hb]; first | exact h1 | exact h2 | exact h3
    · rw [if_neg hb]; first | exact h1 | exact h2 | exact .inl rfl
theorem flush_inv {s : Wq} {k : Nat} {x : Int} (h : Inv s k) (hx : 0 ≤ x) : Inv (flushF s x) k := by
  have ha := flush_all s x hx
  refine ⟨?_, ?_, ?_, by rw [ha]; exact h.len⟩
  all_goals
    obtain ⟨w, b, d⟩ := s
    obtain ⟨h1, h2, h3, h4⟩ := h
    simp only at h1 h2 h3
    unfold flushF
    simp only
    by_cases hm : x ∈ w
    · rw [if_pos hm]; first | exact h1.sublist (List.drop_sublist _ _) | exact fun y hy => h2 y (List.mem_of_mem_drop hy) | exact .inl rfl
    · rw [if_neg hm]
      by_cases hb : b = x
      · rw [if_pos hb]; first | exact h1 | exact h2 | exact .inl rfl
      · rw [if_neg hb]; first | exact h1 | exact h2 | exact h3

theorem cancel_sub (w : List Int) (i : Nat) : (w.take i ++ w.drop (i + 1)).Sublist w := by
  conv => rhs; rw [← List.take_append_drop i w]
  refine List.Sublist.append_left ?_ _
  rw [← List.drop_drop]
  exact List.drop_sublist _ _

theorem step_inv {s : Wq} {k : Nat} (h : Inv s k) (o : Wo) : Inv (stepF s o).2 (k + 1) := by
  have up : ∀ {t : Wq}, Inv t k → Inv t (k + 1) := fun h => ⟨h.nd, h.ok, h.bg, by have := h.len; omega⟩
  unfold stepF
  split
  · exact up h
  split
  · exact up h
  rename_i c1 c2
  split
  · rename_i k1
    split
    · exact up h
    · rename_i hm
      refine ⟨?_, ?_, h.bg, ?_⟩
      · simp only [List.nodup_append]
        exact ⟨h.nd, by simp, fun a ha b hb => by simp at hb; subst hb; exact fun e => hm (e ▸ ha)⟩
      · intro x hx
        simp only [List.mem_append, List.mem_singleton] at hx
        rcases hx with hx | rfl
        · exact h.ok x hx
        · by_cases h1 : 0 ≤ o.Item ∧ o.Item ≤ 99
          · exact h1
          · exact absurd ⟨⟨by omega, by omega⟩, by omega⟩ c2
      · have := h.len
        rw [all_len] at this ⊢
        simp only [List.length_append, List.length_cons, List.length_nil]
        omega
  rename_i k1
  split
  · exact up (begin_inv h)
  rename_i k2
  split
  · exact up (end_inv h)
  rename_i k3
  split
  · split
    · have hsub := cancel_sub s.waits_ (s.waits_.idxOf o.Item)
      refine ⟨h.nd.sublist hsub, fun x hx => h.ok x (hsub.subset hx), h.bg, ?_⟩
      have := h.len
      rw [all_len] at this ⊢
      have := hsub.length_le
      simp only at this ⊢
      omega
    · exact up h
  · refine up (flush_inv h ?_)
    by_cases h1 : 0 ≤ o.Item
    · exact h1
    · exact absurd ⟨⟨k2, k3⟩, by omega⟩ c2

/-- What a step leaves of all that was queued. -/
theorem step_all {s : Wq} {k : Nat} (h : Inv s k) (o : Wo) :
    ((stepF s o).1 ≠ 0 → (stepF s o).2 = s) ∧ ((stepF s o).1 = 0 → o.Kind = 1 → allS (stepF s o).2 = allS s ++ [o.Item]) ∧
    ((stepF s o).1 = 0 → o.Kind = 4 → (allS (stepF s o).2).length < (allS s).length) ∧ ((stepF s o).1 = 0 → o.Kind ≠ 1 → o.Kind ≠ 4 → allS (stepF s o).2 = allS s) := by
  unfold stepF
  split
  · exact ⟨fun _ => rfl, fun h => (by cases h), fun h => (by cases h), fun h => (by cases h)⟩
  split
  · exact ⟨fun _ => rfl, fun h => (by cases h), fun h => (by cases h), fun h => (by cases h)⟩
  rename_i c1 c2
  split
  · rename_i k1
    split
    · exact ⟨fun _ => rfl, fun h => (by cases h), fun h => (by cases h), fun h => (by cases h)⟩
    · exact ⟨fun h => absurd rfl h, fun _ _ => by simp [allS], fun _ h => (by omega), fun _ h => absurd k1 h⟩
  rename_i k1
  split
  · rename_i k2
    refine ⟨fun he => ?_, fun _ h => (by omega), fun _ h => (by omega), fun _ _ _ => begin_all s (fun x hx => (h.ok x hx).1)⟩
    obtain ⟨w, b, d⟩ := s
    unfold beginF at he ⊢
    by_cases hb : 0 ≤ b
    · rw [if_pos hb]
    · rw [if_neg hb] at he ⊢
      cases w with
      | nil => rfl
      | cons x w => exact absurd rfl he
  rename_i k2
  split
  · rename_i k3
    refine ⟨fun he => ?_, fun _ h => (by omega), fun _ h => (by omega), fun _ _ _ => end_all s⟩
    obtain ⟨w, b, d⟩ := s
    unfold endF at he ⊢
    by_cases hb : b < 0
    · rw [if_pos hb]
    · rw [if_neg hb] at he; exact absurd rfl he
  rename_i k3
  split
  · rename_i k4
    split
    · rename_i hm
      refine ⟨fun h => absurd rfl h, fun _ h => (by omega), fun _ _ => ?_, fun _ _ h => absurd k4 h⟩
      have hi : s.waits_.idxOf o.Item < s.waits_.length := List.idxOf_lt_length_iff.2 hm
      rw [all_len, all_len]
      simp only [List.length_append, List.length_take, List.length_drop]
      omega
    · exact ⟨fun _ => rfl, fun h => (by cases h), fun h => (by cases h), fun h => (by cases h)⟩
  · rename_i k4
    refine ⟨fun h => absurd rfl h, fun _ h => (by omega), fun _ h => (by omega), fun _ _ _ => flush_all s _ ?_⟩
    by_cases h1 : 0 ≤ o.Item
    · exact h1
    · exact absurd ⟨⟨k2, k3⟩, by omega⟩ c2

/-- A run. -/
def runF (s : Wq) : List Wo → List Int × Wq
  | [] => ([], s)
  | o :: l => ((stepF s o).1 :: (runF (stepF s o).2 l).1, (runF (stepF s o).2 l).2)
theorem runF_append (s : Wq) : ∀ l l', runF s (l ++ l') = ((runF s l).1 ++ (runF (runF s l).2 l').1, (runF (runF s l).2 l').2)
  | [], l' => rfl
  | o :: l, l' => by simp only [runF, List.cons_append, runF_append _ l l']
theorem runF_length (s : Wq) : ∀ l, (runF s l).1.length = l.length
  | [] => rfl
  | o :: l => by simp only [runF, List.length_cons, runF_length _ l]
theorem runF_inv {s : Wq} {k : Nat} (h : Inv s k) : ∀ l, Inv (runF s l).2 (k + l.length)
  | [] => h
  | o :: l => by
    have := runF_inv (step_inv h o) l
    simp only [runF, List.length_cons]
    rw [show k + (l.length + 1) = k + 1 + l.length by omega]
    exact this

def s0 : Wq := ⟨[], -1, []⟩
theorem s0_inv : Inv s0 0 := ⟨by simp [s0], by simp [s0], .inl rfl, by simp [allS, s0, cur]⟩

theorem play_l1_eq (a : List Wo) (ha : a.length ≤ 400) : ∀ n k (acc : List Int) (s : Wq), k ≤ a.length → a.length - k < n → acc.length = k → Inv s k →
    work_Play_l1 a n acc k s.waits_ s.begun_ s.done_ = some (acc ++ (runF s (a.drop k)).1, (runF s (a.drop k)).2.done_, (runF s (a.drop k)).2.waits_, (runF s (a.drop k)).2.begun_, 0) := by
  intro n
  induction n with
  | zero => intro k acc s h1 h2; omega
  | succ n ih =>
    intro k acc s h1 h2 hacc hinv
    unfold work_Play_l1
    rcases Nat.lt_or_ge k a.length with hlt | hge
    · rw [dec_lt hlt, cond_true, getD_lt _ _ hlt]
      have := do_eq hinv (by omega) a[k]
      rw [show (⟨s.waits_, s.begun_, s.done_⟩ : Wq) = s from rfl, this, Option.bind_some]
      simp only [List.length_cons, List.length_nil]
      rw [if_pos (by omega), ih (k + 1) _ _ (by omega) (by omega) (by simp; omega) (step_inv hinv _)]
      rw [List.drop_eq_getElem_cons hlt]
      simp only [runF, List.append_assoc, List.cons_append, List.nil_append]
    · rw [dec_ge hge, cond_false]
      have hl := hinv.len
      rw [all_len] at hl
      unfold slices_Clone_int
      rw [if_pos (by omega), Option.bind_some, List.drop_of_length_le hge]
      simp [runF]

theorem play_eq (a : List Wo) (h47 : a.length ≤ 140737488355328) : work_Play a = some (if a.length ≤ 400 then ((runF s0 a).1, (runF s0 a).2.done_, (runF s0 a).2.waits_, (runF s0 a).2.begun_, 0) else ([], [], [], 0, 2)) := by
  unfold work_Play
  by_cases h : a.length ≤ 400
  · rw [show decide (((a.length : Nat) : Int) > 400) = false from decide_eq_false (by omega), cond_false, if_pos h]
    have := play_l1_eq a h FUEL 0 [] s0 (by omega) (fuel_gt (by omega)) rfl s0_inv
    simp only [List.drop_zero, List.nil_append] at this
    exact this
  · rw [show decide (((a.length : Nat) : Int) > 400) = true from decide_eq_true (by omega), cond_true, if_neg h]

theorem once_l1_eq (a : List Wo) (ha : a.length ≤ 400) (r : List Int × List Int × List Int × Int × Int) (hr : r = ((runF s0 a).1, (runF s0 a).2.done_, (runF s0 a).2.waits_, (runF s0 a).2.begun_, 0)) :
    ∀ n k (l : List Int) (b : Bool), k ≤ a.length → a.length - k < n → l.length ≤ k → (b = false → allS (runF s0 (a.take k)).2 = l) → (b = true → (allS (runF s0 (a.take k)).2).length < l.length) →
    keep_WorkOnce_l1 a r n l b k = some true := by
  intro n
  induction n with
  | zero => intro k l b h1 h2; omega
  | succ n ih =>
    intro k l b h1 h2 hlk hb1 hb2
    unfold keep_WorkOnce_l1
    rcases Nat.lt_or_ge k a.length with hlt | hge
    · rw [dec_lt hlt, cond_true]
      have hsplit : a = a.take k ++ a[k] :: a.drop (k + 1) := by
        rw [← List.drop_eq_getElem_cons hlt, List.take_append_drop]
      have hrl : r.1.length = a.length := by rw [hr]; exact runF_length _ _
      have hek : r.1.getD (0 + k) 0 = (stepF (runF s0 (a.take k)).2 a[k]).1 := by
        rw [hr]
        simp only [Nat.zero_add]
        conv => lhs; rw [hsplit]
        rw [runF_append]
        simp only [runF]
        rw [List.getD_eq_getElem?_getD, List.getElem?_append_right (by rw [runF_length, List.length_take]; omega), runF_length]
        simp [Nat.min_eq_left (Nat.le_of_lt hlt)]
      have hnext : (runF s0 (a.take (k + 1))).2 = (stepF (runF s0 (a.take k)).2 a[k]).2 := by
        rw [List.take_add_one, List.getElem?_eq_getElem hlt, Option.toList_some, runF_append]
        rfl
      have hinv : Inv (runF s0 (a.take k)).2 k := by
        have := runF_inv s0_inv (a.take k)
        rw [List.length_take, Nat.min_eq_left h1, Nat.zero_add] at this
        exact this
      obtain ⟨q1, q2, q3, q4⟩ := step_all hinv a[k]
      rw [if_pos (by omega), hek, getD_lt _ _ hlt]
      generalize hst : stepF (runF s0 (a.take k)).2 a[k] = st at *
      by_cases he : st.1 = 0
      · rw [show (st.1 != 0) = false by simpa using he, cond_false]
        by_cases k1 : a[k].Kind = 1
        · rw [show (a[k].Kind == 1) = true by simpa using k1, cond_true]
          simp only [List.length_cons, List.length_nil]
          rw [if_pos (by omega)]
          have hk4 : (a[k].Kind == 4) = false := by simp; omega
          rw [hk4, Bool.or_false]
          refine ih (k + 1) _ b (by omega) (by omega) (by simp; omega) (fun h => ?_) (fun h => ?_)
          · rw [hnext, q2 he k1, hb1 h]
          · rw [hnext, q2 he k1]; have := hb2 h; simp; omega
        · rw [show (a[k].Kind == 1) = false by simpa using k1, cond_false]
          refine ih (k + 1) _ _ (by omega) (by omega) (by omega) (fun h => ?_) (fun h => ?_)
          · simp only [Bool.or_eq_false_iff] at h
            rw [hnext, q4 he k1 (by simpa using h.2), hb1 h.1]
          · rw [hnext]
            by_cases k4 : a[k].Kind = 4
            · have := q3 he k4
              cases b with
              | false => rw [hb1 rfl] at this; exact this
              | true => have := hb2 rfl; omega
            · rw [q4 he k1 k4]
              have hk4 : (a[k].Kind == 4) = false := by simpa using k4
              rw [hk4, Bool.or_false] at h
              exact hb2 h
      · rw [show (st.1 != 0) = true by simpa using he, cond_true]
        refine ih (k + 1) l b (by omega) (by omega) (by omega) (fun h => ?_) (fun h => ?_)
        · rw [hnext, q1 he, hb1 h]
        · rw [hnext, q1 he]; exact hb2 h
    · rw [dec_ge hge, cond_false]
      rw [List.take_of_length_le hge] at hb1 hb2
      have hinv : Inv (runF s0 a).2 a.length := by simpa using runF_inv s0_inv a
      have hl := hinv.len
      rw [all_len] at hl
      rw [hr]
      simp only
      generalize (runF s0 a).2 = s at *
      obtain ⟨w, bg, d⟩ := s
      simp only at hl hb1 hb2 ⊢
      have fin : ∀ all : List Int, all = allS ⟨w, bg, d⟩ → all.length ≤ 1000 →
          ((bif ((!(b && (decide (((all.length : Nat) : Int) < ((l.length : Nat) : Int))))) && (!b)) then slices_Equal_int all l else some false).bind fun r52 => some ((b && (decide (((all.length : Nat) : Int) < ((l.length : Nat) : Int)))) || ((!b) && r52))) = some true := by
        intro all hall hle
        cases b with
        | false =>
          have := hb1 rfl
          simp only [Bool.false_and, Bool.not_false, Bool.true_and, cond_true, Bool.false_or]
          rw [slices_Equal_int_eq _ _ (by omega), Option.bind_some, hall, this]
          simp
        | true =>
          have := hb2 rfl
          rw [← hall] at this
          have hd : decide (((all.length : Nat) : Int) < ((l.length : Nat) : Int)) = true := decide_eq_true (by omega)
          simp only [hd, Bool.true_and, Bool.not_true, Bool.and_false, cond_false, Option.bind_some, Bool.true_or]
      unfold slices_Clone_int
      rw [if_pos (by omega), Option.bind_some]
      by_cases hb : 0 ≤ bg
      · have c1 : cur bg = [bg] := by unfold cur; rw [if_pos hb]
        rw [c1] at hl
        simp only [List.length_cons, List.length_nil] at hl
        rw [show decide (bg ≥ 0) = true from decide_eq_true hb, cond_true]
        simp only [List.length_cons, List.length_nil, List.length_append]
        rw [if_pos (by omega), if_pos (by omega)]
        have := fin ((d ++ [bg]) ++ w) (by simp [allS, c1]) (by simp; omega)
        simpa only [List.length_cons, List.length_nil, List.length_append] using this
      · have c1 : cur bg = [] := by unfold cur; rw [if_neg hb]
        rw [show decide (bg ≥ 0) = false from decide_eq_false hb, cond_false]
        simp only [List.length_append]
        rw [if_pos (by omega)]
        have := fin (d ++ w) (by simp [allS, c1]) (by simp; omega)
        simpa only [List.length_append] using this

theorem WorkOnce_true (a : List Wo) (h : a.length * 16 ≤ 140737488351232 ∧ ∀ y ∈ a, Ok_Api_WorkOp y) : keep_WorkOnce a = some true := by
  unfold keep_WorkOnce
  rw [alive12_eq, Option.bind_some, Bool.not_true, cond_false, play_eq a (by omega), Option.bind_some]
  by_cases hl : a.length ≤ 400
  · rw [if_pos hl]
    have h1 : (((0 : Int) != 0) || ((((runF s0 a).1.length : Nat) : Int) != ((a.length : Nat) : Int))) = false := by rw [runF_length]; simp
    rw [h1, cond_false]
    exact once_l1_eq a hl _ rfl FUEL 0 [] false (by omega) (fuel_gt (by omega)) (by simp) (fun _ => rfl) (fun h => (by cases h))
  · rw [if_neg hl]
    have h1 : (((2 : Int) != 0) || (((([] : List Int).length : Nat) : Int) != ((a.length : Nat) : Int))) = true := rfl
    simp only [h1, cond_true]
    rfl


theorem clone_op (a : List Wo) (h : a.length ≤ 8796093022208) : slices_Clone_api_WorkOp a = some a := by
  unfold slices_Clone_api_WorkOp; rw [if_pos (by omega)]

theorem flush_last {s : Wq} {x : Int} (hnd : s.waits_.Nodup) (hm : x ∈ s.waits_) : (s.waits_.take (s.waits_.idxOf x + 1)).getLast? = some x ∧ x ∉ s.waits_.drop (s.waits_.idxOf x + 1) := by
  have hi : s.waits_.idxOf x < s.waits_.length := List.idxOf_lt_length_iff.2 hm
  have hx : s.waits_[s.waits_.idxOf x] = x := List.getElem_idxOf hi
  refine ⟨?_, ?_⟩
  · rw [List.take_add_one, List.getElem?_eq_getElem hi, hx]; simp
  · intro h
    have hs : s.waits_ = s.waits_.take (s.waits_.idxOf x) ++ x :: s.waits_.drop (s.waits_.idxOf x + 1) := by
      conv => lhs; rw [← List.take_append_drop (s.waits_.idxOf x) s.waits_, List.drop_eq_getElem_cons hi, hx]
    rw [hs] at hnd
    have := (List.nodup_append.1 hnd).2.1
    exact (List.nodup_cons.1 this).1 h

/-- What a flush does, told by what is done. -/
theorem flush_cases {s : Wq} {k : Nat} (h : Inv s k) (x : Int) (hx : 0 ≤ x) :
    ((s.begun_ ≠ x ∧ x ∉ s.waits_) ∧ flushF s x = s) ∨
    ((s.begun_ = x ∨ x ∈ s.waits_) ∧ (flushF s x).begun_ = -1 ∧ x ∉ (flushF s x).waits_ ∧ ∃ l, (flushF s x).done_ = s.done_ ++ l ∧ l.getLast? = some x) := by
  unfold flushF
  by_cases hm : x ∈ s.waits_
  · right
    rw [if_pos hm]
    obtain ⟨h1, h2⟩ := flush_last h.nd hm
    refine ⟨.inr hm, rfl, h2, cur s.begun_ ++ s.waits_.take (s.waits_.idxOf x + 1), by simp, ?_⟩
    rw [List.getLast?_append, h1]
    rfl
  · rw [if_neg hm]
    by_cases hb : s.begun_ = x
    · right
      rw [if_pos hb]
      exact ⟨.inl hb, rfl, hm, [s.begun_], rfl, by simp [hb]⟩
    · left
      rw [if_neg hb]
      exact ⟨⟨hb, hm⟩, rfl⟩

/-- What the call with the flush behind it gives. -/
theorem play_flush (a : List Wo) (x : Int) (hl : a.length + 1 ≤ 400) (r9 : List Int × List Int × List Int × Int × Int)
    (h : (if (a ++ [(⟨5, x⟩ : Wo)]).length ≤ 400 then ((runF s0 (a ++ [(⟨5, x⟩ : Wo)])).1, (runF s0 (a ++ [(⟨5, x⟩ : Wo)])).2.done_, (runF s0 (a ++ [(⟨5, x⟩ : Wo)])).2.waits_, (runF s0 (a ++ [(⟨5, x⟩ : Wo)])).2.begun_, (0 : Int)) else ([], [], [], 0, 2)) = r9) :
    r9.1 = (runF s0 a).1 ++ [(stepF (runF s0 a).2 ⟨5, x⟩).1] ∧ r9.2.1 = (stepF (runF s0 a).2 ⟨5, x⟩).2.done_ ∧ r9.2.2.1 = (stepF (runF s0 a).2 ⟨5, x⟩).2.waits_ ∧ r9.2.2.2.1 = (stepF (runF s0 a).2 ⟨5, x⟩).2.begun_ ∧ r9.2.2.2.2 = 0 := by
  rw [if_pos (by simp; omega), runF_append] at h
  subst h
  exact ⟨rfl, rfl, rfl, rfl, rfl⟩

theorem WorkFlushed_true (a : List Wo) (x : Int) (h : a.length * 16 ≤ 140737488351232 ∧ ∀ y ∈ a, Ok_Api_WorkOp y) (hx : -9223372036854775808 ≤ x ∧ x ≤ 9223372036854775807) : keep_WorkFlushed a x = some true := by
  unfold keep_WorkFlushed
  rw [alive12_eq, Option.bind_some, Bool.not_true, cond_false, play_eq a (by omega), Option.bind_some, clone_op a (by omega), Option.bind_some]
  have hap : ((a).length + ([(⟨5, x⟩ : Wo)]).length) * 16 ≤ 140737488355328 ∧ (a).length + ([(⟨5, x⟩ : Wo)]).length ≤ 140737488355328 := by
    simp only [List.length_cons, List.length_nil]; omega
  rw [if_pos hap, play_eq _ (by simp; omega), Option.bind_some]
  by_cases hl : a.length ≤ 400
  · rw [if_pos hl]
    by_cases hl2 : a.length + 1 ≤ 400
    · generalize hr9 : (if (a ++ [(⟨5, x⟩ : Wo)]).length ≤ 400 then ((runF s0 (a ++ [(⟨5, x⟩ : Wo)])).1, (runF s0 (a ++ [(⟨5, x⟩ : Wo)])).2.done_, (runF s0 (a ++ [(⟨5, x⟩ : Wo)])).2.waits_, (runF s0 (a ++ [(⟨5, x⟩ : Wo)])).2.begun_, (0 : Int)) else ([], [], [], 0, 2)) = r9
      obtain ⟨q1, q2, q3, q4, q5⟩ := play_flush a x hl2 r9 hr9
      clear hr9
      have hinv : Inv (runF s0 a).2 a.length := by simpa using runF_inv s0_inv a
      have hlen := runF_length s0 a
      have hln := hinv.len
      rw [all_len] at hln
      generalize hs : (runF s0 a).2 = s at *
      generalize (runF s0 a).1 = errs at *
      generalize hr4 : ((errs, s.done_, s.waits_, s.begun_, (0 : Int)) : List Int × List Int × List Int × Int × Int) = r4
      have p1 : r4.1 = errs := by rw [← hr4]
      have p2 : r4.2.1 = s.done_ := by rw [← hr4]
      have p3 : r4.2.2.1 = s.waits_ := by rw [← hr4]
      have p4 : r4.2.2.2.1 = s.begun_ := by rw [← hr4]
      have p5 : r4.2.2.2.2 = 0 := by rw [← hr4]
      clear hr4
      have hl9 : r9.1.length = a.length + 1 := by rw [q1]; simp [hlen]
      have hw : IntKind.i64.wrap ((a.length : Int) + 1) = (a.length : Int) + 1 := wrap_id (by omega) (by omega)
      have hcond : (((r4.2.2.2.2 != 0) || (r9.2.2.2.2 != 0)) || (((r9.1.length : Nat) : Int) != IntKind.i64.wrap ((a.length : Int) + 1))) = false := by
        rw [p5, q5, hw, hl9]; simp
      rw [hcond, cond_false, if_pos (by omega)]
      have hge : r9.1.getD (0 + a.length) 0 = (stepF s ⟨5, x⟩).1 := by
        rw [q1, Nat.zero_add, List.getD_eq_getElem?_getD, List.getElem?_append_right (by omega), hlen]; simp
      by_cases hr : x < 0 ∨ x > 99
      · have hst : stepF s ⟨5, x⟩ = (2, s) := by
          unfold stepF
          rw [if_neg (by simp only; omega), if_pos ⟨⟨by simp only; omega, by simp only; omega⟩, hr⟩]
        rw [hst] at q2 q3 q4 hge
        simp only at q2 q3 q4 hge
        rw [hge, q2, q3, q4, p2, p3, p4, show ((2 : Int) != 0) = true from rfl, cond_true, slices_Equal_int_eq _ _ (by omega), Option.bind_some, slices_Equal_int_eq _ _ (by omega)]
        simp
      · have hx0 : 0 ≤ x ∧ x ≤ 99 := by omega
        have hst : stepF s ⟨5, x⟩ = (0, flushF s x) := by
          unfold stepF
          rw [if_neg (by simp only; omega), if_neg (by rintro ⟨_, h⟩; exact hr h), if_neg (by simp only; omega), if_neg (by simp only; omega), if_neg (by simp only; omega), if_neg (by simp only; omega)]
        rw [hst] at q2 q3 q4 hge
        simp only at q2 q3 q4 hge
        have hfi := (flush_inv hinv hx0.1).len
        rw [all_len] at hfi
        rw [hge, show ((0 : Int) != 0) = false from rfl, cond_false]
        rcases flush_cases hinv x hx0.1 with ⟨⟨h1, h2⟩, hf⟩ | ⟨hbusy, hb, hnw, l, hd, hlast⟩
        · rw [hf] at q2 q3 q4
          rw [q2, q3, q4, p2, p3, p4]
          have e1 : (s.begun_ == x) = false := by simpa using h1
          have e2 : (s.begun_ != x) = true := by simpa using h1
          rw [e1, e2]
          simp only [Bool.not_false, cond_true]
          rw [slices_Contains_int_eq _ _ (by omega), decide_eq_false h2, Option.bind_some]
          have e3 : decide (((s.done_.length : Nat) : Int) < ((s.done_.length : Nat) : Int)) = false := decide_eq_false (by omega)
          simp only [e3, Bool.or_false, Bool.not_false, cond_true, Option.bind_some, Bool.and_true]
          rw [if_pos (fun _ => by omega), if_pos (fun _ => Nat.le_refl _)]
          simp only [Nat.zero_add, List.drop_zero, Nat.sub_zero, List.take_length]
          rw [slices_Equal_int_eq _ _ (by omega)]
          simp
        · rw [hb] at q4
          rw [hd] at q2
          rw [hd] at hfi
          have hlne : l ≠ [] := by intro e; rw [e] at hlast; cases hlast
          have hlp : 0 < l.length := List.length_pos_iff.2 hlne
          have hdl : (s.done_ ++ l).length = s.done_.length + l.length := List.length_append
          rw [hdl] at hfi
          rw [q2, q3, q4, p2, p3, p4, hdl]
          have e1 : ((-1 : Int) == x) = false := by rw [beq_eq_false_iff_ne]; omega
          rw [e1]
          simp only [Bool.not_false, cond_true]
          rw [slices_Contains_int_eq _ _ (by omega), decide_eq_false hnw, Option.bind_some]
          have e3 : decide (((s.done_.length + l.length : Nat) : Int) < ((s.done_.length : Nat) : Int)) = false := decide_eq_false (by omega)
          simp only [e3, Bool.or_false, Bool.not_false, cond_true]
          rw [if_pos (fun _ => by omega), if_pos (fun _ => by omega)]
          simp only [Nat.zero_add, List.drop_zero, Nat.sub_zero, List.take_left]
          rw [slices_Equal_int_eq _ _ (by omega), decide_eq_true rfl, Option.bind_some]
          simp only [Bool.not_true, Bool.or_false, cond_false]
          have hcont : ∃ r50, (bif (s.begun_ != x) then slices_Contains_int s.waits_ x else some false) = some r50 ∧ ((s.begun_ != x) && !r50) = false := by
            by_cases h1 : s.begun_ = x
            · have : (s.begun_ != x) = false := by simpa using h1
              rw [this]; exact ⟨false, rfl, rfl⟩
            · have e5 : (s.begun_ != x) = true := by simpa using h1
              rw [e5, cond_true, slices_Contains_int_eq _ _ (by omega)]
              have : x ∈ s.waits_ := by
                rcases hbusy with h | h
                · exact absurd h h1
                · exact h
              rw [decide_eq_true this]; exact ⟨true, rfl, rfl⟩
          obtain ⟨r50, hr50, hr50'⟩ := hcont
          rw [hr50, Option.bind_some, hr50', cond_false]
          have hwr : IntKind.i64.wrap (((s.done_.length + l.length : Nat) : Int) - 1) = ((s.done_.length + l.length - 1 : Nat) : Int) := by
            rw [wrap_id (by omega) (by omega)]; omega
          rw [hwr, if_pos (by omega), Int.toNat_natCast]
          have hlastd : (s.done_ ++ l).getD (s.done_.length + l.length - 1) 0 = x := by
            rw [List.getD_eq_getElem?_getD, ← hdl, ← List.getLast?_eq_getElem?, List.getLast?_append, hlast]; rfl
          rw [hlastd]
          simp
    · rw [if_neg (show ¬ (a ++ [(⟨5, x⟩ : Wo)]).length ≤ 400 by rw [List.length_append]; simp only [List.length_cons, List.length_nil]; omega)]
      rfl
  · rw [if_neg hl, if_neg (show ¬ (a ++ [(⟨5, x⟩ : Wo)]).length ≤ 400 by rw [List.length_append]; simp only [List.length_cons, List.length_nil]; omega)]
    rfl

theorem again_l1_eq (a : List Wo) (r4 r18 : List Int × List Int × List Int × Int × Int) (m : Nat) (hm : Int.toNat (if ((r18.2.1.length : Nat) : Int) < ((r4.2.1.length : Nat) : Int) then ((r18.2.1.length : Nat) : Int) else ((r4.2.1.length : Nat) : Int)) = m) (hmr : m ≤ r18.2.1.length) (hlen : r18.2.1.length ≤ 1000)
    (h5 : r18.2.2.2.2 = 0) (hal : a.length < r18.1.length) (he : r18.1.getD a.length 0 = 0) : ∀ n k (c : Int), k ≤ r18.2.1.length - m → r18.2.1.length - m - k < n → 0 ≤ c → c ≤ k → c + (((r18.2.1.drop (m + k)).count r4.2.2.2.1 : Nat) : Int) = 2 → keep_WorkAgain_l1 a r4 r18 n c k = some true := by
  intro n
  induction n with
  | zero => intro k c h1 h2; omega
  | succ n ih =>
    intro k c h1 h2 hc0 hck hcount
    unfold keep_WorkAgain_l1
    rw [hm]
    rcases Nat.lt_or_ge k (r18.2.1.length - m) with hlt | hge
    · rw [dec_lt hlt, cond_true, Nat.zero_add, getD_lt _ _ (show m + k < r18.2.1.length by omega)]
      rw [List.drop_eq_getElem_cons (show m + k < r18.2.1.length by omega), List.count_cons] at hcount
      by_cases hx : r18.2.1[m + k] = r4.2.2.2.1
      · have hb : (r18.2.1[m + k] == r4.2.2.2.1) = true := by simpa using hx
        rw [hb, if_pos rfl] at hcount
        rw [hb, cond_true, wrap_id (by omega) (by omega)]
        exact ih (k + 1) _ (by omega) (by omega) (by omega) (by omega) (by rw [← Nat.add_assoc]; omega)
      · have hb : (r18.2.1[m + k] == r4.2.2.2.1) = false := by simpa using hx
        rw [hb] at hcount
        rw [hb, cond_false]
        exact ih (k + 1) _ (by omega) (by omega) (by omega) (by omega) (by rw [← Nat.add_assoc]; simpa using hcount)
    · rw [dec_ge hge, cond_false, if_pos (fun _ => by omega), h5, Nat.zero_add, he]
      rw [List.drop_of_length_le (by omega)] at hcount
      have : c = 2 := by simpa using hcount
      rw [this]
      rfl

theorem WorkAgain_true (a : List Wo) (h : a.length * 16 ≤ 140737488351232 ∧ ∀ y ∈ a, Ok_Api_WorkOp y) : keep_WorkAgain a = some true := by
  unfold keep_WorkAgain
  rw [alive12_eq, Option.bind_some, Bool.not_true, cond_false, play_eq a (by omega), Option.bind_some]
  by_cases hl : a.length ≤ 400
  · rw [if_pos hl]
    have hinv : Inv (runF s0 a).2 a.length := by simpa using runF_inv s0_inv a
    have hlen := runF_length s0 a
    have hln := hinv.len
    rw [all_len] at hln
    simp only
    by_cases hb : (runF s0 a).2.begun_ < 0
    · rw [decide_eq_true hb]
      rfl
    rw [decide_eq_false hb]
    simp only [show ((0 : Int) != 0) = false from rfl, Bool.false_or, Bool.not_false, cond_true]
    rw [slices_Contains_int_eq _ _ (by omega), Option.bind_some]
    by_cases hc : (runF s0 a).2.begun_ ∈ (runF s0 a).2.waits_
    · rw [decide_eq_true hc]
      rfl
    rw [decide_eq_false hc, Bool.false_or]
    by_cases hl2 : a.length ≤ 398
    · rw [show decide (((a.length : Nat) : Int) > 398) = false from decide_eq_false (by omega), cond_false, clone_op a (by omega), Option.bind_some]
      simp only [List.length_cons, List.length_nil]
      rw [if_pos (by omega), play_eq _ (by simp; omega), Option.bind_some, if_pos (show (a ++ [(⟨1, (runF s0 a).2.begun_⟩ : Wo), ⟨5, (runF s0 a).2.begun_⟩]).length ≤ 400 by rw [List.length_append]; simp only [List.length_cons, List.length_nil]; omega), runF_append]
      have hbg : 0 ≤ (runF s0 a).2.begun_ ∧ (runF s0 a).2.begun_ ≤ 99 := by
        rcases hinv.bg with h | h <;> omega
      generalize hs : (runF s0 a).2 = s at *
      have e1 : stepF s ⟨1, s.begun_⟩ = (0, ⟨s.waits_ ++ [s.begun_], s.begun_, s.done_⟩) := by
        unfold stepF
        rw [if_neg (by simp only; omega), if_neg (by rintro ⟨_, h⟩; simp only at h; omega), if_pos rfl, if_neg hc]
      have hmem : s.begun_ ∈ s.waits_ ++ [s.begun_] := by simp
      have hidx : (s.waits_ ++ [s.begun_]).idxOf s.begun_ = s.waits_.length := by
        rw [List.idxOf_append, if_neg hc]; simp
      have e2 : stepF ⟨s.waits_ ++ [s.begun_], s.begun_, s.done_⟩ ⟨5, s.begun_⟩ = (0, ⟨[], -1, s.done_ ++ [s.begun_] ++ (s.waits_ ++ [s.begun_])⟩) := by
        unfold stepF
        rw [if_neg (by simp only; omega), if_neg (by rintro ⟨_, h⟩; simp only at h; omega), if_neg (by simp only; omega), if_neg (by simp only; omega), if_neg (by simp only; omega), if_neg (by simp only; omega)]
        unfold flushF
        simp only
        rw [if_pos hmem, hidx, show cur s.begun_ = [s.begun_] from if_pos hbg.1, List.take_of_length_le (by simp), List.drop_of_length_le (by simp)]
      simp only [runF, e1, e2]
      have hdl : s.done_.length ≤ (s.done_ ++ [s.begun_] ++ (s.waits_ ++ [s.begun_])).length := by simp only [List.length_append]; omega
      have hif : (if (((s.done_ ++ [s.begun_] ++ (s.waits_ ++ [s.begun_])).length : Nat) : Int) < ((s.done_.length : Nat) : Int) then (((s.done_ ++ [s.begun_] ++ (s.waits_ ++ [s.begun_])).length : Nat) : Int) else ((s.done_.length : Nat) : Int)) = ((s.done_.length : Nat) : Int) := if_neg (by omega)
      rw [hif, if_pos (by omega), if_pos (by rw [Int.toNat_natCast]; exact hdl)]
      refine again_l1_eq a _ _ s.done_.length ?_ hdl ?_ rfl ?_ ?_ FUEL 0 0 (by omega) (fuel_gt (by simp; omega)) (by omega) (by omega) ?_
      · simp only
        rw [hif, Int.toNat_natCast]
      · have hcl : (cur s.begun_).length = 1 := by rw [show cur s.begun_ = [s.begun_] from if_pos hbg.1]; rfl
        simp; omega
      · simp [hlen]
      · simp only
        rw [List.getD_eq_getElem?_getD, List.getElem?_append_right (by omega), hlen]
        simp
      · simp only [Nat.add_zero, List.append_assoc, List.drop_left]
        have : s.waits_.count s.begun_ = 0 := List.count_eq_zero.2 hc
        simp [this]
    · rw [show decide (((a.length : Nat) : Int) > 398) = true from decide_eq_true (by omega), cond_true]
  · rw [if_neg hl]
    rfl

end Go.Proofs.Ytcbknmjbhjbifaa
