/- Plain laws of work: a cancelled item. -/
import Derived.Test.YtdfgmloipigmfaaQVM
import Derived.Test.YtdfgmloipigmfaaPLib
import Derived.Test.YtdfgmloipigmfaaQVK
set_option linter.unusedSimpArgs false
set_option linter.unusedVariables false
namespace Go.Proofs.Ytdfgmloipigmfaa
open Go Go.Ab
theorem alive12_eq : keep_alive12 = some true := by decide +kernel

abbrev Wq := Work_queue
abbrev Wo := Api_WorkOp
def cur (b : Int) : List Int := if 0 ≤ b then [b] else []
/-- All that was begun, in order, and then what waits. -/
def allS (s : Wq) : List Int := s.done_ ++ cur s.begun_ ++ s.waits_

def beginF (s : Wq) : Int × Wq := if 0 ≤ s.begun_ then (6, s) else match s.waits_ with | [] => (3, s) | x :: w => (0, ⟨w, x, s.done_⟩)
def endF (s : Wq) : Int × Wq := if s.begun_ < 0 then (3, s) else (0, ⟨s.waits_, -1, s.done_ ++ [s.begun_]⟩)
def flushF (s : Wq) (x : Int) : Wq :=
  if x ∈ s.waits_ then ⟨s.waits_.drop (s.waits_.idxOf x + 1), -1, s.done_ ++ cur s.begun_ ++ s.waits_.take (s.waits_.idxOf x + 1)⟩
  else if s.begun_ = x then ⟨s.waits_, -1, s.done_ ++ [s.begun_]⟩ else s
def stepF (s : Wq) (o : Wo) : Int × Wq :=
  if o.Kind < 1 ∨ o.Kind > 5 then (5, s)
  else if (o.Kind ≠ 2 ∧ o.Kind ≠ 3) ∧ (o.Item < 0 ∨ o.Item > 99) then (2, s)
  else if o.Kind = 1 then (if o.Item ∈ s.waits_ then (6, s) else (0, ⟨s.waits_ ++ [o.Item], s.begun_, s.done_⟩))
  else if o.Kind = 2 then beginF s
  else if o.Kind = 3 then endF s
  else if o.Kind = 4 then (if o.Item ∈ s.waits_ then (0, ⟨s.waits_.take (s.waits_.idxOf o.Item) ++ s.waits_.drop (s.waits_.idxOf o.Item + 1), s.begun_, s.done_⟩) else (3, s))
  else (0, flushF s o.Item)

structure Inv (s : Wq) (k : Nat) : Prop where
  nd : s.waits_.Nodup
  ok : ∀ x ∈ s.waits_, 0 ≤ x ∧ x ≤ 99
  bg : s.begun_ = -1 ∨ (0 ≤ s.begun_ ∧ s.begun_ ≤ 99)
  len : (allS s).length ≤ k

theorem all_len (s : Wq) : (allS s).length = s.done_.length + (cur s.begun_).length + s.waits_.length := by
  unfold allS; simp; omega

theorem begin_eq (s : Wq) : work_queue_begin s = some (beginF s) := by
  obtain ⟨w, b, d⟩ := s
  unfold work_queue_begin beginF
  by_cases hb : 0 ≤ b
  · rw [show decide (b ≥ 0) = true from decide_eq_true hb, cond_true, if_pos hb]
  · rw [show decide (b ≥ 0) = false from decide_eq_false hb, cond_false, if_neg hb]
    cases w with
    | nil => rfl
    | cons x w =>
      have : ((((x :: w).length : Nat) : Int) == 0) = false := by rw [beq_eq_false_iff_ne, List.length_cons]; omega
      rw [this, cond_false, if_pos (by simp), if_pos (by simp)]
      simp

theorem end_eq (s : Wq) (h : s.done_.length ≤ 1000) : work_queue_end s = some (endF s) := by
  obtain ⟨w, b, d⟩ := s
  have h : d.length ≤ 1000 := h
  unfold work_queue_end endF
  by_cases hb : b < 0
  · rw [show decide (b < 0) = true from decide_eq_true hb, cond_true, if_pos hb]
  · rw [show decide (b < 0) = false from decide_eq_false hb, cond_false, if_neg hb]
    simp only [List.length_cons, List.length_nil]
    rw [if_pos (by omega)]

theorem busy_eq (s : Wq) (x : Int) (h : s.waits_.length ≤ 1000) : work_queue_busy s x = some (decide (s.begun_ = x ∨ x ∈ s.waits_)) := by
  obtain ⟨w, b, d⟩ := s
  have h : w.length ≤ 1000 := h
  unfold work_queue_busy
  simp only
  rw [slices_Contains_int_eq _ _ (by omega)]
  by_cases hb : b = x
  · subst hb; simp
  · have : (b == x) = false := by simpa using hb
    rw [this]
    simp [hb]

theorem idxOf_cons_ne {x y : Int} {w : List Int} (h : y ≠ x) : (y :: w).idxOf x = w.idxOf x + 1 := by
  rw [List.idxOf_cons]
  have : (y == x) = false := by simpa using h
  rw [this]; rfl

theorem flush_eq (a0 : Wq) (o : Wo) (hi : 0 ≤ o.Item) : ∀ n (s : Wq), 2 * s.waits_.length + (cur s.begun_).length < n → s.waits_.Nodup → (∀ x ∈ s.waits_, 0 ≤ x) → s.done_.length + s.waits_.length + (cur s.begun_).length ≤ 1000 →
    work_queue_do_l1 a0 o n s.waits_ s.begun_ s.done_ = some (0, flushF s o.Item) := by
  intro n
  induction n with
  | zero => intro s h; omega
  | succ n ih =>
    intro s hm hnd hpos hlen
    obtain ⟨w, b, d⟩ := s
    simp only at hm hnd hpos hlen ⊢
    unfold work_queue_do_l1
    rw [busy_eq _ _ (by show w.length ≤ 1000; omega), Option.bind_some]
    simp only
    by_cases hbusy : b = o.Item ∨ o.Item ∈ w
    · rw [decide_eq_true hbusy, cond_true, begin_eq, Option.bind_some]
      by_cases hb : 0 ≤ b
      · have e1 : beginF ⟨w, b, d⟩ = (6, ⟨w, b, d⟩) := by unfold beginF; rw [if_pos hb]
        have c1 : cur b = [b] := by unfold cur; rw [if_pos hb]
        rw [c1] at hm hlen
        simp only [List.length_cons, List.length_nil] at hm hlen
        rw [e1]
        simp only
        rw [show ((6 : Int) == 6) = true from rfl, cond_true, end_eq _ (by show d.length ≤ 1000; omega), Option.bind_some]
        have e2 : endF ⟨w, b, d⟩ = (0, ⟨w, -1, d ++ [b]⟩) := by unfold endF; rw [if_neg (by simp only; omega)]
        rw [e2]
        simp only
        have := ih ⟨w, -1, d ++ [b]⟩ (by show 2 * w.length + 0 < n; omega) hnd hpos (by simp [cur]; omega)
        simp only at this
        rw [this]
        congr 2
        unfold flushF
        simp only
        by_cases hmem : o.Item ∈ w
        · rw [if_pos hmem, if_pos hmem, c1]
          simp [cur]
        · rw [if_neg hmem, if_neg hmem, if_neg (by omega), if_pos (by simpa [hmem] using hbusy)]
      · have hmem : o.Item ∈ w := by
          rcases hbusy with h | h
          · omega
          · exact h
        have c0 : cur b = [] := by unfold cur; rw [if_neg hb]
        rw [c0] at hm hlen
        cases w with
        | nil => simp at hmem
        | cons x w =>
          have hx := hpos x (by simp)
          have e1 : beginF ⟨x :: w, b, d⟩ = (0, ⟨w, x, d⟩) := by unfold beginF; rw [if_neg hb]
          have cx : cur x = [x] := by unfold cur; rw [if_pos hx]
          rw [e1]
          simp only
          rw [show ((0 : Int) == 6) = false from rfl, cond_false]
          simp only [List.length_cons, List.length_nil] at hm hlen
          have := ih ⟨w, x, d⟩ (by rw [cx]; simp only [List.length_cons, List.length_nil]; omega) (List.nodup_cons.1 hnd).2 (fun y hy => hpos y (by simp [hy])) (by rw [cx]; simp only [List.length_cons, List.length_nil]; omega)
          simp only at this
          rw [this]
          congr 2
          unfold flushF
          simp only
          rw [if_pos hmem, c0]
          by_cases hxe : x = o.Item
          · subst hxe
            rw [if_neg (List.nodup_cons.1 hnd).1, if_pos rfl]
            simp
          · have hmw : o.Item ∈ w := by
              rcases List.mem_cons.1 hmem with h | h
              · exact absurd h.symm hxe
              · exact h
            rw [if_pos hmw, idxOf_cons_ne hxe, cx]
            simp
    · rw [decide_eq_false hbusy, cond_false]
      have h1 : ¬ b = o.Item := fun h => hbusy (.inl h)
      have h2 : ¬ o.Item ∈ w := fun h => hbusy (.inr h)
      unfold flushF
      simp only
      rw [if_neg h2, if_neg h1]

theorem do_eq {s : Wq} {k : Nat} (h : Inv s k) (hk : k ≤ 400) (o : Wo) : work_queue_do s o = some (stepF s o) := by
  have hl := all_len s
  have hl2 := h.len
  have hlw : s.waits_.length ≤ 400 := by omega
  have hld : s.done_.length ≤ 400 := by omega
  unfold work_queue_do stepF
  by_cases c1 : o.Kind < 1 ∨ o.Kind > 5
  · rw [if_pos c1]
    have : (decide (o.Kind < 1) || decide (o.Kind > 5)) = true := by simpa using c1
    rw [this, cond_true]
  rw [if_neg c1]
  have : (decide (o.Kind < 1) || decide (o.Kind > 5)) = false := by simp; omega
  rw [this, cond_false]
  by_cases c2 : (o.Kind ≠ 2 ∧ o.Kind ≠ 3) ∧ (o.Item < 0 ∨ o.Item > 99)
  · rw [if_pos c2]
    have : (((o.Kind != 2) && (o.Kind != 3)) && (decide (o.Item < 0) || decide (o.Item > 99))) = true := by simpa using c2
    rw [this, cond_true]
  rw [if_neg c2]
  have : (((o.Kind != 2) && (o.Kind != 3)) && (decide (o.Item < 0) || decide (o.Item > 99))) = false := by
    rw [Bool.eq_false_iff]; intro hh; exact c2 (by simpa using hh)
  rw [this, cond_false]
  by_cases k1 : o.Kind = 1
  · rw [if_pos k1, show (o.Kind == 1) = true by simpa using k1, cond_true, slices_Contains_int_eq _ _ (by omega), Option.bind_some]
    by_cases hm : o.Item ∈ s.waits_
    · rw [decide_eq_true hm, cond_true, if_pos hm]
    · rw [decide_eq_false hm, cond_false, if_neg hm]
      simp only [List.length_cons, List.length_nil]
      rw [if_pos (by omega)]
  rw [if_neg k1, show (o.Kind == 1) = false by simpa using k1, cond_false]
  by_cases k2 : o.Kind = 2
  · rw [if_pos k2, show (o.Kind == 2) = true by simpa using k2, cond_true, begin_eq, Option.bind_some]
  rw [if_neg k2, show (o.Kind == 2) = false by simpa using k2, cond_false]
  by_cases k3 : o.Kind = 3
  · rw [if_pos k3, show (o.Kind == 3) = true by simpa using k3, cond_true, end_eq _ (by omega), Option.bind_some]
  rw [if_neg k3, show (o.Kind == 3) = false by simpa using k3, cond_false]
  have hitem : 0 ≤ o.Item ∧ o.Item ≤ 99 := by
    by_cases h1 : 0 ≤ o.Item ∧ o.Item ≤ 99
    · exact h1
    · exact absurd ⟨⟨k2, k3⟩, by omega⟩ c2
  by_cases k4 : o.Kind = 4
  · rw [if_pos k4, show (o.Kind == 4) = true by simpa using k4, cond_true, slices_Index_int_eq _ _ (by omega), Option.bind_some]
    by_cases hm : o.Item ∈ s.waits_
    · rw [if_pos hm, if_pos hm]
      have hi : s.waits_.idxOf o.Item < s.waits_.length := List.idxOf_lt_length_iff.2 hm
      rw [show decide (((s.waits_.idxOf o.Item : Nat) : Int) < 0) = false from decide_eq_false (by omega), cond_false]
      unfold slices_Clone_int
      rw [if_pos (by omega), Option.bind_some, wrap_id (by omega) (by omega)]
      unfold slices_Delete_int
      rw [if_pos (by omega), Option.bind_some]
      have e1 : (((s.waits_.idxOf o.Item : Nat) : Int)).toNat = s.waits_.idxOf o.Item := by omega
      have e2 : (((s.waits_.idxOf o.Item : Nat) : Int) + 1).toNat = s.waits_.idxOf o.Item + 1 := by omega
      rw [e1, e2]
    · rw [if_neg hm, if_neg hm, show decide ((-1 : Int) < 0) = true from rfl, cond_true]
  rw [if_neg k4, show (o.Kind == 4) = false by simpa using k4, cond_false]
  rw [show (o.Kind == 5) = true by simp; omega, cond_true]
  exact flush_eq s o hitem.1 FUEL s (by unfold FUEL; omega) h.nd (fun x hx => (h.ok x hx).1) (by omega)

theorem begin_all (s : Wq) (hpos : ∀ x ∈ s.waits_, 0 ≤ x) : allS (beginF s).2 = allS s := by
  obtain ⟨w, b, d⟩ := s
  unfold beginF
  by_cases hb : 0 ≤ b
  · rw [if_pos hb]
  · rw [if_neg hb]
    cases w with
    | nil => rfl
    | cons x w =>
      have hx := hpos x (by simp)
      simp [allS, cur, hb, hx]
theorem end_all (s : Wq) : allS (endF s).2 = allS s := by
  obtain ⟨w, b, d⟩ := s
  unfold endF
  by_cases hb : b < 0
  · rw [if_pos hb]
  · rw [if_neg hb]
    simp [allS, cur, show 0 ≤ b by simpa using hb]
theorem flush_all (s : Wq) (x : Int) (hx : 0 ≤ x) : allS (flushF s x) = allS s := by
  obtain ⟨w, b, d⟩ := s
  unfold flushF
  simp only
  by_cases hm : x ∈ w
  · rw [if_pos hm]
    simp only [allS, show cur (-1) = [] from rfl, List.append_nil, List.append_assoc, List.take_append_drop]
  · rw [if_neg hm]
    by_cases hb : b = x
    · rw [if_pos hb]
      subst hb
      simp [allS, cur, hx]
    · rw [if_neg hb]

theorem begin_inv {s : Wq} {k : Nat} (h : Inv s k) : Inv (beginF s).2 k := by
  have ha := begin_all s (fun x hx => (h.ok x hx).1)
  refine ⟨?_, ?_, ?_, by rw [ha]; exact h.len⟩
  all_goals
    obtain ⟨w, b, d⟩ := s
    obtain ⟨h1, h2, h3, h4⟩ := h
    simp only at h1 h2 h3
    unfold beginF
    by_cases hb : 0 ≤ b
    · rw [if_pos hb]; first | exact h1 | exact h2 | exact h3
    · rw [if_neg hb]
      cases w with
      | nil => first | exact h1 | exact h2 | exact h3
      | cons x w => first | exact (List.nodup_cons.1 h1).2 | exact fun y hy => h2 y (by simp [hy]) | exact .inr (h2 x (by simp))
theorem end_inv {s : Wq} {k : Nat} (h : Inv s k) : Inv (endF s).2 k := by
  have ha := end_all s
  refine ⟨?_, ?_, ?_, by rw [ha]; exact h.len⟩
  all_goals
    obtain ⟨w, b, d⟩ := s
    obtain ⟨h1, h2, h3, h4⟩ := h
    simp only at h1 h2 h3
    unfold endF
    by_cases hb : b < 0
    · rw [if_pos hb]; first | exact h1 | exact h2 | exact h3
    · rw [if_neg hb]; first | exact h1 | exact h2 | exact .inl rfl
theorem flush_inv {s : Wq} {k : Nat} {x : Int} (h : Inv s k) (hx : 0 ≤ x) : Inv (flushF s x) k := by
  have ha := flush_all s x hx
  refine ⟨?_, ?_, ?_, by rw [ha]; exact h.len⟩
  all_goals
    obtain ⟨w, b, d⟩ := s
    obtain ⟨h1, h2, h3, h4⟩ := h
    simp only at h1 h2 h3
    unfold flushF
    simp only
    by_cases hm : x ∈ w
    · rw [if_pos hm]; first | exact h1.sublist (List.drop_sublist _ _) | exact fun y hy => h2 y (List.mem_of_mem_drop hy) | exact .inl rfl
    · rw [if_neg hm]
      by_cases hb : b = x
      · rw [if_pos hb]; first | exact h1 | exact h2 | exact .inl rfl
      · rw [if_neg hb]; first | exact h1 | exact h2 | exact h3

theorem cancel_sub (w : List Int) (i : Nat) : (w.take i ++ w.drop (i + 1)).Sublist w := by
  conv => rhs; rw [← List.take_append_drop i w]
  refine List.Sublist.append_left ?_ _
  rw [← List.drop_drop]
  exact List.drop_sublist _ _

theorem step_inv {s : Wq} {k : Nat} (h : Inv s k) (o : Wo) : Inv (stepF s o).2 (k + 1) := by
  have up : ∀ {t : Wq}, Inv t k → Inv t (k + 1) := fun h => ⟨h.nd, h.ok, h.bg, by have := h.len; omega⟩
  unfold stepF
  split
  · exact up h
  split
  · exact up h
  rename_i c1 c2
  split
  · rename_i k1
    split
    · exact up h
    · rename_i hm
      refine ⟨?_, ?_, h.bg, ?_⟩
      · simp only [List.nodup_append]
        exact ⟨h.nd, by simp, fun a ha b hb => by simp at hb; subst hb; exact fun e => hm (e ▸ ha)⟩
      · intro x hx
        simp only [List.mem_append, List.mem_singleton] at hx
        rcases hx with hx | rfl
        · exact h.ok x hx
        · by_cases h1 : 0 ≤ o.Item ∧ o.Item ≤ 99
          · exact h1
          · exact absurd ⟨⟨by omega, by omega⟩, by omega⟩ c2
      · have := h.len
        rw [all_len] at this ⊢
        simp only [List.length_append, List.length_cons, List.length_nil]
        omega
  rename_i k1
  split
  · exact up (begin_inv h)
  rename_i k2
  split
  · exact up (end_inv h)
  rename_i k3
  split
  · split
    · have hsub := cancel_sub s.waits_ (s.waits_.idxOf o.Item)
      refine ⟨h.nd.sublist hsub, fun x hx => h.ok x (hsub.subset hx), h.bg, ?_⟩
      have := h.len
      rw [all_len] at this ⊢
      have := hsub.length_le
      simp only at this ⊢
      omega
    · exact up h
  · refine up (flush_inv h ?_)
    by_cases h1 : 0 ≤ o.Item
    · exact h1
    · exact absurd ⟨⟨k2, k3⟩, by omega⟩ c2

/-- What a step leaves of all that was queued. -/
theorem step_all {s : Wq} {k : Nat} (h : Inv s k) (o : Wo) :
    ((stepF s o).1 ≠ 0 → (stepF s o).2 = s) ∧ ((stepF s o).1 = 0 → o.Kind = 1 → allS (stepF s o).2 = allS s ++ [o.Item]) ∧
    ((stepF s o).1 = 0 → o.Kind = 4 → (allS (stepF s o).2).length < (allS s).length) ∧ ((stepF s o).1 = 0 → o.Kind ≠ 1 → o.Kind ≠ 4 → allS (stepF s o).2 = allS s) := by
  unfold stepF
  split
  · exact ⟨fun _ => rfl, fun h => (by cases h), fun h => (by cases h), fun h => (by cases h)⟩
  split
  · exact ⟨fun _ => rfl, fun h => (by cases h), fun h => (by cases h), fun h => (by cases h)⟩
  rename_i c1 c2
  split
  · rename_i k1
    split
    · exact ⟨fun _ => rfl, fun h => (by cases h), fun h => (by cases h), fun h => (by cases h)⟩
    · exact ⟨fun h => absurd rfl h, fun _ _ => by simp [allS], fun _ h => (by omega), fun _ h => absurd k1 h⟩
  rename_i k1
  split
  · rename_i k2
    refine ⟨fun he => ?_, fun _ h => (by omega), fun _ h => (by omega), fun _ _ _ => begin_all s (fun x hx => (h.ok x hx).1)⟩
    obtain ⟨w, b, d⟩ := s
    unfold beginF at he ⊢
    by_cases hb : 0 ≤ b
    · rw [if_pos hb]
    · rw [if_neg hb] at he ⊢
      cases w with
      | nil => rfl
      | cons x w => exact absurd rfl he
  rename_i k2
  split
  · rename_i k3
    refine ⟨fun he => ?_, fun _ h => (by omega), fun _ h => (by omega), fun _ _ _ => end_all s⟩
    obtain ⟨w, b, d⟩ := s
    unfold endF at he ⊢
    by_cases hb : b < 0
    · rw [if_pos hb]
    · rw [if_neg hb] at he; exact absurd rfl he
  rename_i k3
  split
  · rename_i k4
    split
    · rename_i hm
      refine ⟨fun h => absurd rfl h, fun _ h => (by omega), fun _ _ => ?_, fun _ _ h => absurd k4 h⟩
      have hi : s.waits_.idxOf o.Item < s.waits_.length := List.idxOf_lt_length_iff.2 hm
      rw [all_len, all_len]
      simp only [List.length_append, List.length_take, List.length_drop]
      omega
    · exact ⟨fun _ => rfl, fun h => (by cases h), fun h => (by cases h), fun h => (by cases h)⟩
  · rename_i k4
    refine ⟨fun h => absurd rfl h, fun _ h => (by omega), fun _ h => (by omega), fun _ _ _ => flush_all s _ ?_⟩
    by_cases h1 : 0 ≤ o.Item
    · exact h1
    · exact absurd ⟨⟨k2, k3⟩, by omega⟩ c2

/-- A run. -/
def runF (s : Wq) : List Wo → List Int × Wq
  | [] => ([], s)
  | o :: l => ((stepF s o).1 :: (runF (stepF s o).2 l).1, (runF (stepF s o).2 l).2)
theorem runF_append (s : Wq) : ∀ l l', runF s (l ++ l') = ((runF s l).1 ++ (runF (runF s l).2 l').1, (runF (runF s l).2 l').2)
  | [], l' => rfl
  | o :: l, l' => by simp only [runF, List.cons_append, runF_append _ l l']
theorem runF_length (s : Wq) : ∀ l, (runF s l).1.length = l.length
  | [] => rfl
  | o :: l => by simp only [runF, List.length_cons, runF_length _ l]
theorem runF_inv {s : Wq} {k : Nat} (h : Inv s k) : ∀ l, Inv (runF s l).2 (k + l.length)
  | [] => h
  | o :: l => by
    have := runF_inv (step_inv h o) l
    simp only [runF, List.length_cons]
    rw [show k + (l.length + 1) = k + 1 + l.length by omega]
    exact this

def s0 : Wq := ⟨[], -1, []⟩
theorem s0_inv : Inv s0 0 := ⟨by simp [s0], by simp [s0], .inl rfl, by simp [allS, s0, cur]⟩

theorem play_l1_eq (a : List Wo) (ha : a.length ≤ 400) : ∀ n k (acc : List Int) (s : Wq), k ≤ a.length → a.length - k < n → acc.length = k → Inv s k →
    work_Play_l1 a n acc k s.waits_ s.begun_ s.done_ = some (acc ++ (runF s (a.drop k)).1, (runF s (a.drop k)).2.done_, (runF s (a.drop k)).2.waits_, (runF s (a.drop k)).2.begun_, 0) := by
  intro n
  induction n with
  | zero => intro k acc s h1 h2; omega
  | succ n ih =>
    intro k acc s h1 h2 hacc hinv
    unfold work_Play_l1
    rcases Nat.lt_or_ge k a.length with hlt | hge
    · rw [dec_lt hlt, cond_true, getD_lt _ _ hlt]
      have := do_eq hinv (by omega) a[k]
      rw [show (⟨s.waits_, s.begun_, s.done_⟩ : Wq) = s from rfl, this, Option.bind_some]
      simp only [List.length_cons, List.length_nil]
      rw [if_pos (by omega), ih (k + 1) _ _ (by omega) (by omega) (by simp; omega) (step_inv hinv _)]
      rw [List.drop_eq_getElem_cons hlt]
      simp only [runF, List.append_assoc, List.cons_append, List.nil_append]
    · rw [dec_ge hge, cond_false]
      have hl := hinv.len
      rw [all_len] at hl
      unfold slices_Clone_int
      rw [if_pos (by omega), Option.bind_some, List.drop_of_length_le hge]
      simp [runF]

theorem play_eq (a : List Wo) (h47 : a.length ≤ 140737488355328) : work_Play a = some (if a.length ≤ 400 then ((runF s0 a).1, (runF s0 a).2.done_, (runF s0 a).2.waits_, (runF s0 a).2.begun_, 0) else ([], [], [], 0, 2)) := by
  unfold work_Play
  by_cases h : a.length ≤ 400
  · rw [show decide (((a.length : Nat) : Int) > 400) = false from decide_eq_false (by omega), cond_false, if_pos h]
    have := play_l1_eq a h FUEL 0 [] s0 (by omega) (fuel_gt (by omega)) rfl s0_inv
    simp only [List.drop_zero, List.nil_append] at this
    exact this
  · rw [show decide (((a.length : Nat) : Int) > 400) = true from decide_eq_true (by omega), cond_true, if_neg h]

theorem clone_op (a : List Wo) (h : a.length ≤ 8796093022208) : slices_Clone_api_WorkOp a = some a := by
  unfold slices_Clone_api_WorkOp; rw [if_pos (by omega)]


theorem filter_ne (w : List Int) (x : Int) (hnd : w.Nodup) (hm : x ∈ w) : w.filter (fun y => !(y == x)) = w.take (w.idxOf x) ++ w.drop (w.idxOf x + 1) := by
  induction w with
  | nil => simp at hm
  | cons y w ih =>
    obtain ⟨h1, h2⟩ := List.nodup_cons.1 hnd
    by_cases hy : y = x
    · subst hy
      have : w.filter (fun z => !(z == y)) = w := List.filter_eq_self.2 fun z hz => by
        have : z ≠ y := fun e => h1 (e ▸ hz)
        simpa using this
      simp [this]
    · have hmw : x ∈ w := by
        rcases List.mem_cons.1 hm with h | h
        · exact absurd h.symm hy
        · exact h
      rw [idxOf_cons_ne hy, List.filter_cons_of_pos (by simpa using hy), ih h2 hmw]
      simp
theorem filter_ne_none (w : List Int) (x : Int) (hm : ¬ x ∈ w) : w.filter (fun y => !(y == x)) = w := List.filter_eq_self.2 fun z hz => by
  have : z ≠ x := fun e => hm (e ▸ hz)
  simpa using this
theorem play_cancel (a : List Wo) (x : Int) (hl : a.length + 1 ≤ 400) (r9 : List Int × List Int × List Int × Int × Int)
    (h : (if (a ++ [(⟨4, x⟩ : Wo)]).length ≤ 400 then ((runF s0 (a ++ [(⟨4, x⟩ : Wo)])).1, (runF s0 (a ++ [(⟨4, x⟩ : Wo)])).2.done_, (runF s0 (a ++ [(⟨4, x⟩ : Wo)])).2.waits_, (runF s0 (a ++ [(⟨4, x⟩ : Wo)])).2.begun_, (0 : Int)) else ([], [], [], 0, 2)) = r9) :
    r9.1 = (runF s0 a).1 ++ [(stepF (runF s0 a).2 ⟨4, x⟩).1] ∧ r9.2.1 = (stepF (runF s0 a).2 ⟨4, x⟩).2.done_ ∧ r9.2.2.1 = (stepF (runF s0 a).2 ⟨4, x⟩).2.waits_ ∧ r9.2.2.2.1 = (stepF (runF s0 a).2 ⟨4, x⟩).2.begun_ ∧ r9.2.2.2.2 = 0 := by
  rw [if_pos (by simp; omega), runF_append] at h
  subst h
  exact ⟨rfl, rfl, rfl, rfl, rfl⟩
theorem cancel_step {s : Wq} {k : Nat} (h : Inv s k) (x : Int) : (stepF s ⟨4, x⟩).2.done_ = s.done_ ∧ (stepF s ⟨4, x⟩).2.begun_ = s.begun_ ∧ (stepF s ⟨4, x⟩).2.waits_ = s.waits_.filter (fun y => !(y == x)) ∧ ((stepF s ⟨4, x⟩).1 = 0 ↔ x ∈ s.waits_) := by
  unfold stepF
  rw [if_neg (by simp only; omega)]
  by_cases hr : x < 0 ∨ x > 99
  · rw [if_pos ⟨⟨by simp only; omega, by simp only; omega⟩, hr⟩]
    have hm : ¬ x ∈ s.waits_ := fun hm => by have := h.ok x hm; omega
    exact ⟨rfl, rfl, (filter_ne_none _ _ hm).symm, by simp [hm]⟩
  · rw [if_neg (by rintro ⟨_, h⟩; exact hr h), if_neg (by simp only; omega), if_neg (by simp only; omega), if_neg (by simp only; omega), if_pos rfl]
    by_cases hm : x ∈ s.waits_
    · simp only [if_pos hm]
      exact ⟨trivial, trivial, (filter_ne _ _ h.nd hm).symm, by simp [hm]⟩
    · simp only [if_neg hm]
      exact ⟨trivial, trivial, (filter_ne_none _ _ hm).symm, by simp [hm]⟩

theorem WorkCancelled_true (a : List Wo) (x : Int) (h : a.length * 16 ≤ 140737488351232 ∧ ∀ y ∈ a, Ok_Api_WorkOp y) (hx : -9223372036854775808 ≤ x ∧ x ≤ 9223372036854775807) : keep_WorkCancelled a x = some true := by
  unfold keep_WorkCancelled
  rw [alive12_eq, Option.bind_some, Bool.not_true, cond_false, play_eq a (by omega), Option.bind_some, clone_op a (by omega), Option.bind_some]
  have hap : ((a).length + ([(⟨4, x⟩ : Wo)]).length) * 16 ≤ 140737488355328 ∧ (a).length + ([(⟨4, x⟩ : Wo)]).length ≤ 140737488355328 := by
    simp only [List.length_cons, List.length_nil]; omega
  rw [if_pos hap, play_eq _ (by simp; omega), Option.bind_some]
  by_cases hl : a.length ≤ 400
  · rw [if_pos hl]
    by_cases hl2 : a.length + 1 ≤ 400
    · generalize hr9 : (if (a ++ [(⟨4, x⟩ : Wo)]).length ≤ 400 then ((runF s0 (a ++ [(⟨4, x⟩ : Wo)])).1, (runF s0 (a ++ [(⟨4, x⟩ : Wo)])).2.done_, (runF s0 (a ++ [(⟨4, x⟩ : Wo)])).2.waits_, (runF s0 (a ++ [(⟨4, x⟩ : Wo)])).2.begun_, (0 : Int)) else ([], [], [], 0, 2)) = r9
      obtain ⟨q1, q2, q3, q4, q5⟩ := play_cancel a x hl2 r9 hr9
      clear hr9
      have hinv : Inv (runF s0 a).2 a.length := by simpa using runF_inv s0_inv a
      have hlen := runF_length s0 a
      have hln := hinv.len
      rw [all_len] at hln
      generalize hs : (runF s0 a).2 = s at *
      generalize (runF s0 a).1 = errs at *
      generalize hr4 : ((errs, s.done_, s.waits_, s.begun_, (0 : Int)) : List Int × List Int × List Int × Int × Int) = r4
      have p1 : r4.1 = errs := by rw [← hr4]
      have p2 : r4.2.1 = s.done_ := by rw [← hr4]
      have p3 : r4.2.2.1 = s.waits_ := by rw [← hr4]
      have p4 : r4.2.2.2.1 = s.begun_ := by rw [← hr4]
      have p5 : r4.2.2.2.2 = 0 := by rw [← hr4]
      clear hr4
      have hl9 : r9.1.length = a.length + 1 := by rw [q1]; simp [hlen]
      have hw : IntKind.i64.wrap ((a.length : Int) + 1) = (a.length : Int) + 1 := wrap_id (by omega) (by omega)
      have hcond : (((r4.2.2.2.2 != 0) || (r9.2.2.2.2 != 0)) || (((r9.1.length : Nat) : Int) != IntKind.i64.wrap ((a.length : Int) + 1))) = false := by
        rw [p5, q5, hw, hl9]; simp
      rw [hcond, cond_false]
      have hge : r9.1.getD (0 + a.length) 0 = (stepF s ⟨4, x⟩).1 := by
        rw [q1, Nat.zero_add, List.getD_eq_getElem?_getD, List.getElem?_append_right (by omega), hlen]; simp
      obtain ⟨c1, c2, c3, c4⟩ := cancel_step hinv x
      rw [c1] at q2
      rw [c3] at q3
      rw [c2] at q4
      have hfl := List.length_filter_le (fun y => !(y == x)) s.waits_
      have hf : ∀ y, keep_WorkCancelled_1 y x = some (y == x) := fun y => rfl
      rw [hge, q2, q3, q4, p2, p3, p4]
      unfold slices_Clone_int
      rw [if_pos (by omega), Option.bind_some, slices_DeleteFunc_int_keep_WorkCancelled_1_h0_eq x hf _ (by omega), Option.bind_some, slices_Equal_int_eq _ _ (by omega), decide_eq_true rfl, Option.bind_some, beq_self_eq_true, Bool.and_self, cond_true, slices_Equal_int_eq _ _ (by omega), decide_eq_true rfl, Option.bind_some, Bool.and_self, if_pos (fun _ => by omega), cond_true, slices_Contains_int_eq _ _ (by omega), Option.bind_some, Bool.true_and]
      congr 1
      by_cases hm : x ∈ s.waits_
      · rw [c4.2 hm, decide_eq_true hm]; rfl
      · have : ((stepF s ⟨4, x⟩).1 == 0) = false := by
          rw [beq_eq_false_iff_ne]; exact fun e => hm (c4.1 e)
        rw [this, decide_eq_false hm]; rfl
    · rw [if_neg (show ¬ (a ++ [(⟨4, x⟩ : Wo)]).length ≤ 400 by rw [List.length_append]; simp only [List.length_cons, List.length_nil]; omega)]
      rfl
  · rw [if_neg hl, if_neg (show ¬ (a ++ [(⟨4, x⟩ : Wo)]).length ≤ 400 by rw [List.length_append]; simp only [List.length_cons, List.length_nil]; omega)]
    rfl
end Go.Proofs.Ytdfgmloipigmfaa
