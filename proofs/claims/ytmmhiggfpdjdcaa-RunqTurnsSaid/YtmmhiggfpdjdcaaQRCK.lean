/- Plain lemmas of library functions: printed by program. -/
import Derived.Test.YtmmhiggfpdjdcaaQRCM
import Derived.Test.YtmmhiggfpdjdcaaPLib
set_option linter.unusedSimpArgs false
set_option linter.unusedVariables false
namespace Go.Proofs.Ytmmhiggfpdjdcaa
open Go Go.Ab
theorem slices_Index_int_l1_eq (a : List Int) (x : Int) : ∀ n k, k ≤ a.length → a.length - k < n → slices_Index_int_l1 a x n k = some (if x ∈ a.drop k then ((k + (a.drop k).idxOf x : Nat) : Int) else -1) := by
  intro n
  induction n with
  | zero => intro k h1 h2; omega
  | succ n ih =>
    intro k h1 h2
    unfold slices_Index_int_l1
    rcases Nat.lt_or_ge k a.length with hlt | hge
    · rw [dec_lt hlt, cond_true, List.drop_eq_getElem_cons hlt, ih (k + 1) (by omega) (by omega), getD_lt _ _ hlt]
      generalize a[k] = p
      generalize List.drop (k + 1) a = u
      by_cases h : p = x
      · subst h; simp
      · have h' : ¬ x = p := fun e => h e.symm
        have hb : (p == x) = false := by simpa using h
        have hb' : (x == p) = false := by simpa using h'
        by_cases hm : x ∈ u
        · simp [h, h', hm, List.idxOf_cons, hb, hb']; omega
        · simp [h, h', hm, hb']
    · rw [dec_ge hge, cond_false, List.drop_of_length_le hge]; simp
theorem slices_Index_int_eq (a : List Int) (x : Int) (ha : a.length ≤ 140737488355328) : slices_Index_int a x = some (if x ∈ a then (a.idxOf x : Int) else -1) := by
  unfold slices_Index_int
  rw [slices_Index_int_l1_eq a x _ _ (by omega) (fuel_gt (by omega))]
  simp

theorem slices_Equal_api_Errno_l1_eq (a b : List Int) (hab : a.length = b.length) : ∀ n k, k ≤ a.length → a.length - k < n → slices_Equal_api_Errno_l1 a b n k = some (decide (a.drop k = b.drop k)) := by
  intro n
  induction n with
  | zero => intro k h1 h2; omega
  | succ n ih =>
    intro k h1 h2
    unfold slices_Equal_api_Errno_l1
    rcases Nat.lt_or_ge k a.length with hlt | hge
    · have hlb : k < b.length := by omega
      rw [dec_lt hlt, cond_true, if_pos (idx_ok hlb), List.drop_eq_getElem_cons hlt, List.drop_eq_getElem_cons hlb, getD_lt _ _ hlt, getD_lt _ _ hlb, ih (k + 1) (by omega) (by omega)]
      generalize a[k] = p
      generalize b[k] = q
      generalize List.drop (k + 1) a = u
      generalize List.drop (k + 1) b = v
      by_cases h : p = q
      · simp [h]
      · have : (p != q) = true := by simpa using h
        simp [h, this]
    · rw [dec_ge hge, cond_false, List.drop_of_length_le hge, List.drop_of_length_le (by omega)]; simp
theorem slices_Equal_api_Errno_eq (a b : List Int) (ha : a.length ≤ 140737488355328) : slices_Equal_api_Errno a b = some (decide (a = b)) := by
  unfold slices_Equal_api_Errno
  by_cases h : a.length = b.length
  · have : ((((a.length : Nat) : Int) : Int) != ((b.length : Nat) : Int)) = false := by simp [h]
    rw [this, cond_false, slices_Equal_api_Errno_l1_eq a b h _ _ (by omega) (fuel_gt (by omega))]
    simp
  · have : ((((a.length : Nat) : Int) : Int) != ((b.length : Nat) : Int)) = true := by simp; omega
    rw [this, cond_true]
    have : a ≠ b := fun e => h (by rw [e])
    simp [this]

theorem slices_Equal_int_l1_eq (a b : List Int) (hab : a.length = b.length) : ∀ n k, k ≤ a.length → a.length - k < n → slices_Equal_int_l1 a b n k = some (decide (a.drop k = b.drop k)) := by
  intro n
  induction n with
  | zero => intro k h1 h2; omega
  | succ n ih =>
    intro k h1 h2
    unfold slices_Equal_int_l1
    rcases Nat.lt_or_ge k a.length with hlt | hge
    · have hlb : k < b.length := by omega
      rw [dec_lt hlt, cond_true, if_pos (idx_ok hlb), List.drop_eq_getElem_cons hlt, List.drop_eq_getElem_cons hlb, getD_lt _ _ hlt, getD_lt _ _ hlb, ih (k + 1) (by omega) (by omega)]
      generalize a[k] = p
      generalize b[k] = q
      generalize List.drop (k + 1) a = u
      generalize List.drop (k + 1) b = v
      by_cases h : p = q
      · simp [h]
      · have : (p != q) = true := by simpa using h
        simp [h, this]
    · rw [dec_ge hge, cond_false, List.drop_of_length_le hge, List.drop_of_length_le (by omega)]; simp
theorem slices_Equal_int_eq (a b : List Int) (ha : a.length ≤ 140737488355328) : slices_Equal_int a b = some (decide (a = b)) := by
  unfold slices_Equal_int
  by_cases h : a.length = b.length
  · have : ((((a.length : Nat) : Int) : Int) != ((b.length : Nat) : Int)) = false := by simp [h]
    rw [this, cond_false, slices_Equal_int_l1_eq a b h _ _ (by omega) (fuel_gt (by omega))]
    simp
  · have : ((((a.length : Nat) : Int) : Int) != ((b.length : Nat) : Int)) = true := by simp; omega
    rw [this, cond_true]
    have : a ≠ b := fun e => h (by rw [e])
    simp [this]

end Go.Proofs.Ytmmhiggfpdjdcaa
