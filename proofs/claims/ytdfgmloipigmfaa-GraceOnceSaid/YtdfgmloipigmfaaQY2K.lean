/- Plain lemmas of library functions: printed by program. -/
import Derived.Test.YtdfgmloipigmfaaQY2M
import Derived.Test.YtdfgmloipigmfaaPLib
set_option linter.unusedSimpArgs false
set_option linter.unusedVariables false
namespace Go.Proofs.Ytdfgmloipigmfaa
open Go Go.Ab
theorem slices_Equal_api_Errno_l1_eq (a b : List Int) (hab : a.length = b.length) : ∀ n k, k ≤ a.length → a.length - k < n → slices_Equal_api_Errno_l1 a b n k = some (decide (a.drop k = b.drop k)) := by
  intro n
  induction n with
  | zero => intro k h1 h2; omega
  | succ n ih =>
    intro k h1 h2
    unfold slices_Equal_api_Errno_l1
    rcases Nat.lt_or_ge k a.length with hlt | hge
    · have hlb : k < b.length := by omega
      rw [dec_lt hlt, cond_true, if_pos (idx_ok hlb), List.drop_eq_getElem_cons hlt, List.drop_eq_getElem_cons hlb, getD_lt _ _ hlt, getD_lt _ _ hlb, ih (k + 1) (by omega) (by omega)]
      generalize a[k] = p
      generalize b[k] = q
      generalize List.drop (k + 1) a = u
      generalize List.drop (k + 1) b = v
      by_cases h : p = q
      · simp [h]
      · have : (p != q) = true := by simpa using h
        simp [h, this]
    · rw [dec_ge hge, cond_false, List.drop_of_length_le hge, List.drop_of_length_le (by omega)]; simp
theorem slices_Equal_api_Errno_eq (a b : List Int) (ha : a.length ≤ 140737488355328) : slices_Equal_api_Errno a b = some (decide (a = b)) := by
  unfold slices_Equal_api_Errno
  by_cases h : a.length = b.length
  · have : ((((a.length : Nat) : Int) : Int) != ((b.length : Nat) : Int)) = false := by simp [h]
    rw [this, cond_false, slices_Equal_api_Errno_l1_eq a b h _ _ (by omega) (fuel_gt (by omega))]
    simp
  · have : ((((a.length : Nat) : Int) : Int) != ((b.length : Nat) : Int)) = true := by simp; omega
    rw [this, cond_true]
    have : a ≠ b := fun e => h (by rw [e])
    simp [this]

theorem slices_Equal_int_l1_eq (a b : List Int) (hab : a.length = b.length) : ∀ n k, k ≤ a.length → a.length - k < n → slices_Equal_int_l1 a b n k = some (decide (a.drop k = b.drop k)) := by
  intro n
  induction n with
  | zero => intro k h1 h2; omega
  | succ n ih =>
    intro k h1 h2
    unfold slices_Equal_int_l1
    rcases Nat.lt_or_ge k a.length with hlt | hge
    · have hlb : k < b.length := by omega
      rw [dec_lt hlt, cond_true, if_pos (idx_ok hlb), List.drop_eq_getElem_cons hlt, List.drop_eq_getElem_cons hlb, getD_lt _ _ hlt, getD_lt _ _ hlb, ih (k + 1) (by omega) (by omega)]
      generalize a[k] = p
      generalize b[k] = q
      generalize List.drop (k + 1) a = u
      generalize List.drop (k + 1) b = v
      by_cases h : p = q
      · simp [h]
      · have : (p != q) = true := by simpa using h
        simp [h, this]
    · rw [dec_ge hge, cond_false, List.drop_of_length_le hge, List.drop_of_length_le (by omega)]; simp
theorem slices_Equal_int_eq (a b : List Int) (ha : a.length ≤ 140737488355328) : slices_Equal_int a b = some (decide (a = b)) := by
  unfold slices_Equal_int
  by_cases h : a.length = b.length
  · have : ((((a.length : Nat) : Int) : Int) != ((b.length : Nat) : Int)) = false := by simp [h]
    rw [this, cond_false, slices_Equal_int_l1_eq a b h _ _ (by omega) (fuel_gt (by omega))]
    simp
  · have : ((((a.length : Nat) : Int) : Int) != ((b.length : Nat) : Int)) = true := by simp; omega
    rw [this, cond_true]
    have : a ≠ b := fun e => h (by rw [e])
    simp [this]

theorem slices_Concat_int_l2_eq (L : List (List Int)) (r6 : List Int) : ∀ n k (l8 : List Int), k ≤ L.length → L.length - k < n → (l8.length + (L.drop k).flatten.length) * 8 ≤ 140737488355328 ∧ l8.length + (L.drop k).flatten.length ≤ 140737488355328 →
    slices_Concat_int_l2 L r6 n l8 k = some (l8 ++ (L.drop k).flatten) := by
  intro n
  induction n with
  | zero => intro k l8 h1 h2; omega
  | succ n ih =>
    intro k l8 h1 h2 hb
    unfold slices_Concat_int_l2
    rcases Nat.lt_or_ge k L.length with hlt | hge
    · rw [List.drop_eq_getElem_cons hlt, List.flatten_cons, List.length_append] at hb
      rw [dec_lt hlt, cond_true, getD_lt _ _ hlt, if_pos (by omega), ih (k + 1) _ (by omega) (by omega) (by rw [List.length_append]; omega), List.drop_eq_getElem_cons hlt, List.flatten_cons, List.append_assoc]
    · rw [dec_ge hge, cond_false, List.drop_of_length_le hge]; simp
theorem slices_Concat_int_l1_eq (L : List (List Int)) : ∀ n k (x : Int), k ≤ L.length → L.length - k < n → 0 ≤ x → x + (L.drop k).flatten.length ≤ 140737488355328 →
    slices_Concat_int_l1 L n x k = (slices_Grow_int_nil (x + (L.drop k).flatten.length)).bind fun r6 => slices_Concat_int_l2 L r6 FUEL r6 0 := by
  intro n
  induction n with
  | zero => intro k x h1 h2; omega
  | succ n ih =>
    intro k x h1 h2 h3 h4
    unfold slices_Concat_int_l1
    rcases Nat.lt_or_ge k L.length with hlt | hge
    · rw [List.drop_eq_getElem_cons hlt, List.flatten_cons, List.length_append] at h4
      rw [dec_lt hlt, cond_true, getD_lt _ _ hlt, wrap_id (by omega) (by omega)]
      have : decide ((x + ((L[k].length : Nat) : Int) : Int) < 0) = false := by simp; omega
      rw [this, cond_false, ih (k + 1) _ (by omega) (by omega) (by omega) (by omega), List.drop_eq_getElem_cons hlt, List.flatten_cons, List.length_append]
      congr 2
      omega
    · rw [dec_ge hge, cond_false, List.drop_of_length_le hge]; simp
theorem slices_Concat_int_eq (L : List (List Int)) (hl : L.length ≤ 140737488355328) (hb : L.flatten.length * 8 ≤ 140737488355328 ∧ L.flatten.length ≤ 140737488355328) : slices_Concat_int L = some L.flatten := by
  unfold slices_Concat_int
  rw [slices_Concat_int_l1_eq L FUEL 0 0 (by omega) (fuel_gt (by omega)) (by omega) (by simp only [List.drop_zero]; omega), List.drop_zero]
  unfold slices_Grow_int_nil
  rw [if_pos (by omega), Option.bind_some, slices_Concat_int_l2_eq L [] FUEL 0 [] (by omega) (fuel_gt (by omega)) (by simp only [List.drop_zero, List.length_nil]; omega)]
  simp

end Go.Proofs.Ytdfgmloipigmfaa
