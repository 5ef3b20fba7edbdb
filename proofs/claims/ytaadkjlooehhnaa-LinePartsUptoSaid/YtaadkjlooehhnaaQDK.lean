/- Plain lemmas of library functions: printed by program. -/
import Derived.Test.YtaadkjlooehhnaaQDM
import Derived.Test.YtaadkjlooehhnaaPLib
set_option linter.unusedSimpArgs false
set_option linter.unusedVariables false
namespace Go.Proofs.Ytaadkjlooehhnaa
open Go Go.Ab
theorem slices_IndexFunc_api_Pin_line_Right_1_l1_eq {f : Api_Pin → Bool} (hf : ∀ x, line_Right_1 x = some (f x)) (l : List Api_Pin) (hl : l.length ≤ 140737488355328) : ∀ n k, k ≤ l.length → l.length - k < n → ∃ x : Int, slices_IndexFunc_api_Pin_line_Right_1_l1 l n k = some x ∧ decide (x ≥ 0) = (l.drop k).any f := by
  intro n
  induction n with
  | zero => intro k h1 h2; omega
  | succ n ih =>
    intro k h1 h2
    unfold slices_IndexFunc_api_Pin_line_Right_1_l1
    rcases Nat.lt_or_ge k l.length with hlt | hge
    · rw [dec_lt hlt, cond_true, getD_lt _ _ hlt, hf, Option.bind_some, List.drop_eq_getElem_cons hlt, List.any_cons]
      cases f l[k] with
      | true => exact ⟨_, rfl, by simp⟩
      | false =>
        obtain ⟨x, hx, h⟩ := ih (k + 1) (by omega) (by omega)
        exact ⟨x, hx, by rw [h, Bool.false_or]⟩
    · rw [dec_ge hge, cond_false, List.drop_of_length_le hge]
      exact ⟨_, rfl, rfl⟩

theorem slices_ContainsFunc_api_Pin_line_Right_1_eq {f : Api_Pin → Bool} (hf : ∀ x, line_Right_1 x = some (f x)) (l : List Api_Pin) (hl : l.length ≤ 140737488355328) : slices_ContainsFunc_api_Pin_line_Right_1 l = some (l.any f) := by
  unfold slices_ContainsFunc_api_Pin_line_Right_1 slices_IndexFunc_api_Pin_line_Right_1
  obtain ⟨x, hx, h⟩ := slices_IndexFunc_api_Pin_line_Right_1_l1_eq hf l hl FUEL 0 (by omega) (fuel_gt (by omega))
  rw [hx, Option.bind_some, h, List.drop_zero]

theorem slices_Equal_api_Sent_l1_eq (a b : List Api_Sent) (hab : a.length = b.length) : ∀ n k, k ≤ a.length → a.length - k < n → slices_Equal_api_Sent_l1 a b n k = some (decide (a.drop k = b.drop k)) := by
  intro n
  induction n with
  | zero => intro k h1 h2; omega
  | succ n ih =>
    intro k h1 h2
    unfold slices_Equal_api_Sent_l1
    rcases Nat.lt_or_ge k a.length with hlt | hge
    · have hlb : k < b.length := by omega
      rw [dec_lt hlt, cond_true, if_pos (idx_ok hlb), List.drop_eq_getElem_cons hlt, List.drop_eq_getElem_cons hlb, getD_lt _ _ hlt, getD_lt _ _ hlb, ih (k + 1) (by omega) (by omega)]
      generalize a[k] = p
      generalize b[k] = q
      generalize List.drop (k + 1) a = u
      generalize List.drop (k + 1) b = v
      by_cases h : p = q
      · subst h; simp
      · generalize hc : (!_) = c
        have : c = true := by
          rw [← hc]
          obtain ⟨p0, p1, p2⟩ := p
          obtain ⟨q0, q1, q2⟩ := q
          simp only [Api_Sent.mk.injEq] at h
          rw [Bool.not_eq_true', ← Bool.not_eq_true]
          intro hh
          apply h
          simpa using hh
        rw [this, cond_true]
        simp [h]
    · rw [dec_ge hge, cond_false, List.drop_of_length_le hge, List.drop_of_length_le (by omega)]; simp
theorem slices_Equal_api_Sent_eq (a b : List Api_Sent) (ha : a.length ≤ 140737488355328) : slices_Equal_api_Sent a b = some (decide (a = b)) := by
  unfold slices_Equal_api_Sent
  by_cases h : a.length = b.length
  · have : ((((a.length : Nat) : Int) : Int) != ((b.length : Nat) : Int)) = false := by simp [h]
    rw [this, cond_false, slices_Equal_api_Sent_l1_eq a b h _ _ (by omega) (fuel_gt (by omega))]
    simp
  · have : ((((a.length : Nat) : Int) : Int) != ((b.length : Nat) : Int)) = true := by simp; omega
    rw [this, cond_true]
    have : a ≠ b := fun e => h (by rw [e])
    simp [this]

theorem slices_Concat_api_PinOp_l2_eq (L : List (List Api_PinOp)) (r6 : List Api_PinOp) : ∀ n k (l8 : List Api_PinOp), k ≤ L.length → L.length - k < n → (l8.length + (L.drop k).flatten.length) * 16 ≤ 140737488355328 ∧ l8.length + (L.drop k).flatten.length ≤ 140737488355328 →
    slices_Concat_api_PinOp_l2 L r6 n l8 k = some (l8 ++ (L.drop k).flatten) := by
  intro n
  induction n with
  | zero => intro k l8 h1 h2; omega
  | succ n ih =>
    intro k l8 h1 h2 hb
    unfold slices_Concat_api_PinOp_l2
    rcases Nat.lt_or_ge k L.length with hlt | hge
    · rw [List.drop_eq_getElem_cons hlt, List.flatten_cons, List.length_append] at hb
      rw [dec_lt hlt, cond_true, getD_lt _ _ hlt, if_pos (by omega), ih (k + 1) _ (by omega) (by omega) (by rw [List.length_append]; omega), List.drop_eq_getElem_cons hlt, List.flatten_cons, List.append_assoc]
    · rw [dec_ge hge, cond_false, List.drop_of_length_le hge]; simp
theorem slices_Concat_api_PinOp_l1_eq (L : List (List Api_PinOp)) : ∀ n k (x : Int), k ≤ L.length → L.length - k < n → 0 ≤ x → x + (L.drop k).flatten.length ≤ 140737488355328 →
    slices_Concat_api_PinOp_l1 L n x k = (slices_Grow_api_PinOp_nil (x + (L.drop k).flatten.length)).bind fun r6 => slices_Concat_api_PinOp_l2 L r6 FUEL r6 0 := by
  intro n
  induction n with
  | zero => intro k x h1 h2; omega
  | succ n ih =>
    intro k x h1 h2 h3 h4
    unfold slices_Concat_api_PinOp_l1
    rcases Nat.lt_or_ge k L.length with hlt | hge
    · rw [List.drop_eq_getElem_cons hlt, List.flatten_cons, List.length_append] at h4
      rw [dec_lt hlt, cond_true, getD_lt _ _ hlt, wrap_id (by omega) (by omega)]
      have : decide ((x + ((L[k].length : Nat) : Int) : Int) < 0) = false := by simp; omega
      rw [this, cond_false, ih (k + 1) _ (by omega) (by omega) (by omega) (by omega), List.drop_eq_getElem_cons hlt, List.flatten_cons, List.length_append]
      congr 2
      omega
    · rw [dec_ge hge, cond_false, List.drop_of_length_le hge]; simp
theorem slices_Concat_api_PinOp_eq (L : List (List Api_PinOp)) (hl : L.length ≤ 140737488355328) (hb : L.flatten.length * 16 ≤ 140737488355328 ∧ L.flatten.length ≤ 140737488355328) : slices_Concat_api_PinOp L = some L.flatten := by
  unfold slices_Concat_api_PinOp
  rw [slices_Concat_api_PinOp_l1_eq L FUEL 0 0 (by omega) (fuel_gt (by omega)) (by omega) (by simp only [List.drop_zero]; omega), List.drop_zero]
  unfold slices_Grow_api_PinOp_nil
  rw [if_pos (by omega), Option.bind_some, slices_Concat_api_PinOp_l2_eq L [] FUEL 0 [] (by omega) (fuel_gt (by omega)) (by simp only [List.drop_zero, List.length_nil]; omega)]
  simp

theorem slices_Equal_api_Pin_l1_eq (a b : List Api_Pin) (hab : a.length = b.length) : ∀ n k, k ≤ a.length → a.length - k < n → slices_Equal_api_Pin_l1 a b n k = some (decide (a.drop k = b.drop k)) := by
  intro n
  induction n with
  | zero => intro k h1 h2; omega
  | succ n ih =>
    intro k h1 h2
    unfold slices_Equal_api_Pin_l1
    rcases Nat.lt_or_ge k a.length with hlt | hge
    · have hlb : k < b.length := by omega
      rw [dec_lt hlt, cond_true, if_pos (idx_ok hlb), List.drop_eq_getElem_cons hlt, List.drop_eq_getElem_cons hlb, getD_lt _ _ hlt, getD_lt _ _ hlb, ih (k + 1) (by omega) (by omega)]
      generalize a[k] = p
      generalize b[k] = q
      generalize List.drop (k + 1) a = u
      generalize List.drop (k + 1) b = v
      by_cases h : p = q
      · subst h; simp
      · generalize hc : (!_) = c
        have : c = true := by
          rw [← hc]
          obtain ⟨p0, p1, p2, p3, p4, p5, p6⟩ := p
          obtain ⟨q0, q1, q2, q3, q4, q5, q6⟩ := q
          simp only [Api_Pin.mk.injEq] at h
          rw [Bool.not_eq_true', ← Bool.not_eq_true]
          intro hh
          apply h
          simpa using hh
        rw [this, cond_true]
        simp [h]
    · rw [dec_ge hge, cond_false, List.drop_of_length_le hge, List.drop_of_length_le (by omega)]; simp
theorem slices_Equal_api_Pin_eq (a b : List Api_Pin) (ha : a.length ≤ 140737488355328) : slices_Equal_api_Pin a b = some (decide (a = b)) := by
  unfold slices_Equal_api_Pin
  by_cases h : a.length = b.length
  · have : ((((a.length : Nat) : Int) : Int) != ((b.length : Nat) : Int)) = false := by simp [h]
    rw [this, cond_false, slices_Equal_api_Pin_l1_eq a b h _ _ (by omega) (fuel_gt (by omega))]
    simp
  · have : ((((a.length : Nat) : Int) : Int) != ((b.length : Nat) : Int)) = true := by simp; omega
    rw [this, cond_true]
    have : a ≠ b := fun e => h (by rw [e])
    simp [this]

theorem slices_Concat_api_Sent_l2_eq (L : List (List Api_Sent)) (r6 : List Api_Sent) : ∀ n k (l8 : List Api_Sent), k ≤ L.length → L.length - k < n → (l8.length + (L.drop k).flatten.length) * 24 ≤ 140737488355328 ∧ l8.length + (L.drop k).flatten.length ≤ 140737488355328 →
    slices_Concat_api_Sent_l2 L r6 n l8 k = some (l8 ++ (L.drop k).flatten) := by
  intro n
  induction n with
  | zero => intro k l8 h1 h2; omega
  | succ n ih =>
    intro k l8 h1 h2 hb
    unfold slices_Concat_api_Sent_l2
    rcases Nat.lt_or_ge k L.length with hlt | hge
    · rw [List.drop_eq_getElem_cons hlt, List.flatten_cons, List.length_append] at hb
      rw [dec_lt hlt, cond_true, getD_lt _ _ hlt, if_pos (by omega), ih (k + 1) _ (by omega) (by omega) (by rw [List.length_append]; omega), List.drop_eq_getElem_cons hlt, List.flatten_cons, List.append_assoc]
    · rw [dec_ge hge, cond_false, List.drop_of_length_le hge]; simp
theorem slices_Concat_api_Sent_l1_eq (L : List (List Api_Sent)) : ∀ n k (x : Int), k ≤ L.length → L.length - k < n → 0 ≤ x → x + (L.drop k).flatten.length ≤ 140737488355328 →
    slices_Concat_api_Sent_l1 L n x k = (slices_Grow_api_Sent_nil (x + (L.drop k).flatten.length)).bind fun r6 => slices_Concat_api_Sent_l2 L r6 FUEL r6 0 := by
  intro n
  induction n with
  | zero => intro k x h1 h2; omega
  | succ n ih =>
    intro k x h1 h2 h3 h4
    unfold slices_Concat_api_Sent_l1
    rcases Nat.lt_or_ge k L.length with hlt | hge
    · rw [List.drop_eq_getElem_cons hlt, List.flatten_cons, List.length_append] at h4
      rw [dec_lt hlt, cond_true, getD_lt _ _ hlt, wrap_id (by omega) (by omega)]
      have : decide ((x + ((L[k].length : Nat) : Int) : Int) < 0) = false := by simp; omega
      rw [this, cond_false, ih (k + 1) _ (by omega) (by omega) (by omega) (by omega), List.drop_eq_getElem_cons hlt, List.flatten_cons, List.length_append]
      congr 2
      omega
    · rw [dec_ge hge, cond_false, List.drop_of_length_le hge]; simp
theorem slices_Concat_api_Sent_eq (L : List (List Api_Sent)) (hl : L.length ≤ 140737488355328) (hb : L.flatten.length * 24 ≤ 140737488355328 ∧ L.flatten.length ≤ 140737488355328) : slices_Concat_api_Sent L = some L.flatten := by
  unfold slices_Concat_api_Sent
  rw [slices_Concat_api_Sent_l1_eq L FUEL 0 0 (by omega) (fuel_gt (by omega)) (by omega) (by simp only [List.drop_zero]; omega), List.drop_zero]
  unfold slices_Grow_api_Sent_nil
  rw [if_pos (by omega), Option.bind_some, slices_Concat_api_Sent_l2_eq L [] FUEL 0 [] (by omega) (fuel_gt (by omega)) (by simp only [List.drop_zero, List.length_nil]; omega)]
  simp

end Go.Proofs.Ytaadkjlooehhnaa
