/- Plain lemmas of library functions: printed by program. -/
import Derived.Test.YtkccegeejlbhnaaQLFM
import Derived.Test.YtkccegeejlbhnaaPLib
set_option linter.unusedSimpArgs false
set_option linter.unusedVariables false
namespace Go.Proofs.Ytkccegeejlbhnaa
open Go Go.Ab
theorem slices_IndexFunc_int_lift_Wrong_1_l1_eq2  {f : Int → Bool} (hf : ∀ x, lift_Wrong_1 x = some (f x)) (l : List Int) : ∀ n k, k ≤ l.length → l.length - k < n → ∃ x : Int, slices_IndexFunc_int_lift_Wrong_1_l1 l n k = some x ∧
    ((x = -1 ∧ ∀ y ∈ l.drop k, f y = false) ∨ ∃ j, k ≤ j ∧ ∃ h : j < l.length, x = (j : Int) ∧ f l[j] = true ∧ ∀ y ∈ (l.drop k).take (j - k), f y = false) := by
  intro n
  induction n with
  | zero => intro k h1 h2; omega
  | succ n ih =>
    intro k h1 h2
    unfold slices_IndexFunc_int_lift_Wrong_1_l1
    rcases Nat.lt_or_ge k l.length with hlt | hge
    · rw [dec_lt hlt, cond_true, getD_lt _ _ hlt, hf, Option.bind_some, List.drop_eq_getElem_cons hlt]
      cases hc : f l[k] with
      | true => exact ⟨_, rfl, .inr ⟨k, Nat.le_refl _, hlt, rfl, hc, by simp⟩⟩
      | false =>
        obtain ⟨x, hx, h⟩ := ih (k + 1) (by omega) (by omega)
        refine ⟨x, hx, ?_⟩
        rcases h with ⟨h3, h4⟩ | ⟨j, h3, h4, h5, h6, h7⟩
        · refine .inl ⟨h3, fun y hy => ?_⟩
          rcases List.mem_cons.1 hy with rfl | hy
          · exact hc
          · exact h4 y hy
        · refine .inr ⟨j, by omega, h4, h5, h6, fun y hy => ?_⟩
          rw [show j - k = (j - (k + 1)) + 1 by omega, List.take_succ_cons] at hy
          rcases List.mem_cons.1 hy with rfl | hy
          · exact hc
          · exact h7 y hy
    · rw [dec_ge hge, cond_false, List.drop_of_length_le hge]
      exact ⟨_, rfl, .inl ⟨rfl, by simp⟩⟩

theorem slices_IndexFunc_int_lift_Wrong_1_l1_eq {f : Int → Bool} (hf : ∀ x, lift_Wrong_1 x = some (f x)) (l : List Int) (hl : l.length ≤ 140737488355328) : ∀ n k, k ≤ l.length → l.length - k < n → ∃ x : Int, slices_IndexFunc_int_lift_Wrong_1_l1 l n k = some x ∧ decide (x ≥ 0) = (l.drop k).any f := by
  intro n
  induction n with
  | zero => intro k h1 h2; omega
  | succ n ih =>
    intro k h1 h2
    unfold slices_IndexFunc_int_lift_Wrong_1_l1
    rcases Nat.lt_or_ge k l.length with hlt | hge
    · rw [dec_lt hlt, cond_true, getD_lt _ _ hlt, hf, Option.bind_some, List.drop_eq_getElem_cons hlt, List.any_cons]
      cases f l[k] with
      | true => exact ⟨_, rfl, by simp⟩
      | false =>
        obtain ⟨x, hx, h⟩ := ih (k + 1) (by omega) (by omega)
        exact ⟨x, hx, by rw [h, Bool.false_or]⟩
    · rw [dec_ge hge, cond_false, List.drop_of_length_le hge]
      exact ⟨_, rfl, rfl⟩

theorem slices_ContainsFunc_int_lift_Wrong_1_eq {f : Int → Bool} (hf : ∀ x, lift_Wrong_1 x = some (f x)) (l : List Int) (hl : l.length ≤ 140737488355328) : slices_ContainsFunc_int_lift_Wrong_1 l = some (l.any f) := by
  unfold slices_ContainsFunc_int_lift_Wrong_1 slices_IndexFunc_int_lift_Wrong_1
  obtain ⟨x, hx, h⟩ := slices_IndexFunc_int_lift_Wrong_1_l1_eq hf l hl FUEL 0 (by omega) (fuel_gt (by omega))
  rw [hx, Option.bind_some, h, List.drop_zero]

theorem slices_Concat_int_l2_eq (L : List (List Int)) (r6 : List Int) : ∀ n k (l8 : List Int), k ≤ L.length → L.length - k < n → (l8.length + (L.drop k).flatten.length) * 8 ≤ 140737488355328 ∧ l8.length + (L.drop k).flatten.length ≤ 140737488355328 →
    slices_Concat_int_l2 L r6 n l8 k = some (l8 ++ (L.drop k).flatten) := by
  intro n
  induction n with
  | zero => intro k l8 h1 h2; omega
  | succ n ih =>
    intro k l8 h1 h2 hb
    unfold slices_Concat_int_l2
    rcases Nat.lt_or_ge k L.length with hlt | hge
    · rw [List.drop_eq_getElem_cons hlt, List.flatten_cons, List.length_append] at hb
      rw [dec_lt hlt, cond_true, getD_lt _ _ hlt, if_pos (by omega), ih (k + 1) _ (by omega) (by omega) (by rw [List.length_append]; omega), List.drop_eq_getElem_cons hlt, List.flatten_cons, List.append_assoc]
    · rw [dec_ge hge, cond_false, List.drop_of_length_le hge]; simp
theorem slices_Concat_int_l1_eq (L : List (List Int)) : ∀ n k (x : Int), k ≤ L.length → L.length - k < n → 0 ≤ x → x + (L.drop k).flatten.length ≤ 140737488355328 →
    slices_Concat_int_l1 L n x k = (slices_Grow_int_nil (x + (L.drop k).flatten.length)).bind fun r6 => slices_Concat_int_l2 L r6 FUEL r6 0 := by
  intro n
  induction n with
  | zero => intro k x h1 h2; omega
  | succ n ih =>
    intro k x h1 h2 h3 h4
    unfold slices_Concat_int_l1
    rcases Nat.lt_or_ge k L.length with hlt | hge
    · rw [List.drop_eq_getElem_cons hlt, List.flatten_cons, List.length_append] at h4
      rw [dec_lt hlt, cond_true, getD_lt _ _ hlt, wrap_id (by omega) (by omega)]
      have : decide ((x + ((L[k].length : Nat) : Int) : Int) < 0) = false := by simp; omega
      rw [this, cond_false, ih (k + 1) _ (by omega) (by omega) (by omega) (by omega), List.drop_eq_getElem_cons hlt, List.flatten_cons, List.length_append]
      congr 2
      omega
    · rw [dec_ge hge, cond_false, List.drop_of_length_le hge]; simp
theorem slices_Concat_int_eq (L : List (List Int)) (hl : L.length ≤ 140737488355328) (hb : L.flatten.length * 8 ≤ 140737488355328 ∧ L.flatten.length ≤ 140737488355328) : slices_Concat_int L = some L.flatten := by
  unfold slices_Concat_int
  rw [slices_Concat_int_l1_eq L FUEL 0 0 (by omega) (fuel_gt (by omega)) (by omega) (by simp only [List.drop_zero]; omega), List.drop_zero]
  unfold slices_Grow_int_nil
  rw [if_pos (by omega), Option.bind_some, slices_Concat_int_l2_eq L [] FUEL 0 [] (by omega) (fuel_gt (by omega)) (by simp only [List.drop_zero, List.length_nil]; omega)]
  simp

theorem slices_Equal_int_l1_eq (a b : List Int) (hab : a.length = b.length) : ∀ n k, k ≤ a.length → a.length - k < n → slices_Equal_int_l1 a b n k = some (decide (a.drop k = b.drop k)) := by
  intro n
  induction n with
  | zero => intro k h1 h2; omega
  | succ n ih =>
    intro k h1 h2
    unfold slices_Equal_int_l1
    rcases Nat.lt_or_ge k a.length with hlt | hge
    · have hlb : k < b.length := by omega
      rw [dec_lt hlt, cond_true, if_pos (idx_ok hlb), List.drop_eq_getElem_cons hlt, List.drop_eq_getElem_cons hlb, getD_lt _ _ hlt, getD_lt _ _ hlb, ih (k + 1) (by omega) (by omega)]
      generalize a[k] = p
      generalize b[k] = q
      generalize List.drop (k + 1) a = u
      generalize List.drop (k + 1) b = v
      by_cases h : p = q
      · simp [h]
      · have : (p != q) = true := by simpa using h
        simp [h, this]
    · rw [dec_ge hge, cond_false, List.drop_of_length_le hge, List.drop_of_length_le (by omega)]; simp
theorem slices_Equal_int_eq (a b : List Int) (ha : a.length ≤ 140737488355328) : slices_Equal_int a b = some (decide (a = b)) := by
  unfold slices_Equal_int
  by_cases h : a.length = b.length
  · have : ((((a.length : Nat) : Int) : Int) != ((b.length : Nat) : Int)) = false := by simp [h]
    rw [this, cond_false, slices_Equal_int_l1_eq a b h _ _ (by omega) (fuel_gt (by omega))]
    simp
  · have : ((((a.length : Nat) : Int) : Int) != ((b.length : Nat) : Int)) = true := by simp; omega
    rw [this, cond_true]
    have : a ≠ b := fun e => h (by rw [e])
    simp [this]

theorem slices_Equal_api_Span_l1_eq (a b : List Api_Span) (hab : a.length = b.length) : ∀ n k, k ≤ a.length → a.length - k < n → slices_Equal_api_Span_l1 a b n k = some (decide (a.drop k = b.drop k)) := by
  intro n
  induction n with
  | zero => intro k h1 h2; omega
  | succ n ih =>
    intro k h1 h2
    unfold slices_Equal_api_Span_l1
    rcases Nat.lt_or_ge k a.length with hlt | hge
    · have hlb : k < b.length := by omega
      rw [dec_lt hlt, cond_true, if_pos (idx_ok hlb), List.drop_eq_getElem_cons hlt, List.drop_eq_getElem_cons hlb, getD_lt _ _ hlt, getD_lt _ _ hlb, ih (k + 1) (by omega) (by omega)]
      generalize a[k] = p
      generalize b[k] = q
      generalize List.drop (k + 1) a = u
      generalize List.drop (k + 1) b = v
      by_cases h : p = q
      · subst h; simp
      · generalize hc : (!_) = c
        have : c = true := by
          rw [← hc]
          obtain ⟨p0, p1⟩ := p
          obtain ⟨q0, q1⟩ := q
          simp only [Api_Span.mk.injEq] at h
          rw [Bool.not_eq_true', ← Bool.not_eq_true]
          intro hh
          apply h
          simpa using hh
        rw [this, cond_true]
        simp [h]
    · rw [dec_ge hge, cond_false, List.drop_of_length_le hge, List.drop_of_length_le (by omega)]; simp
theorem slices_Equal_api_Span_eq (a b : List Api_Span) (ha : a.length ≤ 140737488355328) : slices_Equal_api_Span a b = some (decide (a = b)) := by
  unfold slices_Equal_api_Span
  by_cases h : a.length = b.length
  · have : ((((a.length : Nat) : Int) : Int) != ((b.length : Nat) : Int)) = false := by simp [h]
    rw [this, cond_false, slices_Equal_api_Span_l1_eq a b h _ _ (by omega) (fuel_gt (by omega))]
    simp
  · have : ((((a.length : Nat) : Int) : Int) != ((b.length : Nat) : Int)) = true := by simp; omega
    rw [this, cond_true]
    have : a ≠ b := fun e => h (by rw [e])
    simp [this]

theorem slices_IndexFunc_api_Span_keep_LiftMerged_1_1_l1_eq2 (a1 : Int) {f : Api_Span → Bool} (hf : ∀ x, keep_LiftMerged_1_1 x a1 = some (f x)) (l : List Api_Span) : ∀ n k, k ≤ l.length → l.length - k < n → ∃ x : Int, slices_IndexFunc_api_Span_keep_LiftMerged_1_1_l1 l a1 n k = some x ∧
    ((x = -1 ∧ ∀ y ∈ l.drop k, f y = false) ∨ ∃ j, k ≤ j ∧ ∃ h : j < l.length, x = (j : Int) ∧ f l[j] = true ∧ ∀ y ∈ (l.drop k).take (j - k), f y = false) := by
  intro n
  induction n with
  | zero => intro k h1 h2; omega
  | succ n ih =>
    intro k h1 h2
    unfold slices_IndexFunc_api_Span_keep_LiftMerged_1_1_l1
    rcases Nat.lt_or_ge k l.length with hlt | hge
    · rw [dec_lt hlt, cond_true, getD_lt _ _ hlt, hf, Option.bind_some, List.drop_eq_getElem_cons hlt]
      cases hc : f l[k] with
      | true => exact ⟨_, rfl, .inr ⟨k, Nat.le_refl _, hlt, rfl, hc, by simp⟩⟩
      | false =>
        obtain ⟨x, hx, h⟩ := ih (k + 1) (by omega) (by omega)
        refine ⟨x, hx, ?_⟩
        rcases h with ⟨h3, h4⟩ | ⟨j, h3, h4, h5, h6, h7⟩
        · refine .inl ⟨h3, fun y hy => ?_⟩
          rcases List.mem_cons.1 hy with rfl | hy
          · exact hc
          · exact h4 y hy
        · refine .inr ⟨j, by omega, h4, h5, h6, fun y hy => ?_⟩
          rw [show j - k = (j - (k + 1)) + 1 by omega, List.take_succ_cons] at hy
          rcases List.mem_cons.1 hy with rfl | hy
          · exact hc
          · exact h7 y hy
    · rw [dec_ge hge, cond_false, List.drop_of_length_le hge]
      exact ⟨_, rfl, .inl ⟨rfl, by simp⟩⟩

end Go.Proofs.Ytkccegeejlbhnaa
