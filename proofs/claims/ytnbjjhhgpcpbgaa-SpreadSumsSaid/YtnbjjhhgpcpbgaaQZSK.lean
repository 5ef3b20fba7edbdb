/- Plain lemmas of library functions: printed by program. -/
import Derived.Test.YtnbjjhhgpcpbgaaQZSM
import Derived.Test.YtnbjjhhgpcpbgaaPLib
set_option linter.unusedSimpArgs false
set_option linter.unusedVariables false
namespace Go.Proofs.Ytnbjjhhgpcpbgaa
open Go Go.Ab
theorem slices_IndexFunc_int_spread_Wrong_1_l1_eq2  {f : Int → Bool} (hf : ∀ x, spread_Wrong_1 x = some (f x)) (l : List Int) : ∀ n k, k ≤ l.length → l.length - k < n → ∃ x : Int, slices_IndexFunc_int_spread_Wrong_1_l1 l n k = some x ∧
    ((x = -1 ∧ ∀ y ∈ l.drop k, f y = false) ∨ ∃ j, k ≤ j ∧ ∃ h : j < l.length, x = (j : Int) ∧ f l[j] = true ∧ ∀ y ∈ (l.drop k).take (j - k), f y = false) := by
  intro n
  induction n with
  | zero => intro k h1 h2; omega
  | succ n ih =>
    intro k h1 h2
    unfold slices_IndexFunc_int_spread_Wrong_1_l1
    rcases Nat.lt_or_ge k l.length with hlt | hge
    · rw [dec_lt hlt, cond_true, getD_lt _ _ hlt, hf, Option.bind_some, List.drop_eq_getElem_cons hlt]
      cases hc : f l[k] with
      | true => exact ⟨_, rfl, .inr ⟨k, Nat.le_refl _, hlt, rfl, hc, by simp⟩⟩
      | false =>
        obtain ⟨x, hx, h⟩ := ih (k + 1) (by omega) (by omega)
        refine ⟨x, hx, ?_⟩
        rcases h with ⟨h3, h4⟩ | ⟨j, h3, h4, h5, h6, h7⟩
        · refine .inl ⟨h3, fun y hy => ?_⟩
          rcases List.mem_cons.1 hy with rfl | hy
          · exact hc
          · exact h4 y hy
        · refine .inr ⟨j, by omega, h4, h5, h6, fun y hy => ?_⟩
          rw [show j - k = (j - (k + 1)) + 1 by omega, List.take_succ_cons] at hy
          rcases List.mem_cons.1 hy with rfl | hy
          · exact hc
          · exact h7 y hy
    · rw [dec_ge hge, cond_false, List.drop_of_length_le hge]
      exact ⟨_, rfl, .inl ⟨rfl, by simp⟩⟩

theorem slices_IndexFunc_int_spread_Wrong_1_l1_eq {f : Int → Bool} (hf : ∀ x, spread_Wrong_1 x = some (f x)) (l : List Int) (hl : l.length ≤ 140737488355328) : ∀ n k, k ≤ l.length → l.length - k < n → ∃ x : Int, slices_IndexFunc_int_spread_Wrong_1_l1 l n k = some x ∧ decide (x ≥ 0) = (l.drop k).any f := by
  intro n
  induction n with
  | zero => intro k h1 h2; omega
  | succ n ih =>
    intro k h1 h2
    unfold slices_IndexFunc_int_spread_Wrong_1_l1
    rcases Nat.lt_or_ge k l.length with hlt | hge
    · rw [dec_lt hlt, cond_true, getD_lt _ _ hlt, hf, Option.bind_some, List.drop_eq_getElem_cons hlt, List.any_cons]
      cases f l[k] with
      | true => exact ⟨_, rfl, by simp⟩
      | false =>
        obtain ⟨x, hx, h⟩ := ih (k + 1) (by omega) (by omega)
        exact ⟨x, hx, by rw [h, Bool.false_or]⟩
    · rw [dec_ge hge, cond_false, List.drop_of_length_le hge]
      exact ⟨_, rfl, rfl⟩

theorem slices_ContainsFunc_int_spread_Wrong_1_eq {f : Int → Bool} (hf : ∀ x, spread_Wrong_1 x = some (f x)) (l : List Int) (hl : l.length ≤ 140737488355328) : slices_ContainsFunc_int_spread_Wrong_1 l = some (l.any f) := by
  unfold slices_ContainsFunc_int_spread_Wrong_1 slices_IndexFunc_int_spread_Wrong_1
  obtain ⟨x, hx, h⟩ := slices_IndexFunc_int_spread_Wrong_1_l1_eq hf l hl FUEL 0 (by omega) (fuel_gt (by omega))
  rw [hx, Option.bind_some, h, List.drop_zero]

theorem slices_Index_int_l1_eq (a : List Int) (x : Int) : ∀ n k, k ≤ a.length → a.length - k < n → slices_Index_int_l1 a x n k = some (if x ∈ a.drop k then ((k + (a.drop k).idxOf x : Nat) : Int) else -1) := by
  intro n
  induction n with
  | zero => intro k h1 h2; omega
  | succ n ih =>
    intro k h1 h2
    unfold slices_Index_int_l1
    rcases Nat.lt_or_ge k a.length with hlt | hge
    · rw [dec_lt hlt, cond_true, List.drop_eq_getElem_cons hlt, ih (k + 1) (by omega) (by omega), getD_lt _ _ hlt]
      generalize a[k] = p
      generalize List.drop (k + 1) a = u
      by_cases h : p = x
      · subst h; simp
      · have h' : ¬ x = p := fun e => h e.symm
        have hb : (p == x) = false := by simpa using h
        have hb' : (x == p) = false := by simpa using h'
        by_cases hm : x ∈ u
        · simp [h, h', hm, List.idxOf_cons, hb, hb']; omega
        · simp [h, h', hm, hb']
    · rw [dec_ge hge, cond_false, List.drop_of_length_le hge]; simp
theorem slices_Index_int_eq (a : List Int) (x : Int) (ha : a.length ≤ 140737488355328) : slices_Index_int a x = some (if x ∈ a then (a.idxOf x : Int) else -1) := by
  unfold slices_Index_int
  rw [slices_Index_int_l1_eq a x _ _ (by omega) (fuel_gt (by omega))]
  simp

theorem slices_Equal_int_l1_eq (a b : List Int) (hab : a.length = b.length) : ∀ n k, k ≤ a.length → a.length - k < n → slices_Equal_int_l1 a b n k = some (decide (a.drop k = b.drop k)) := by
  intro n
  induction n with
  | zero => intro k h1 h2; omega
  | succ n ih =>
    intro k h1 h2
    unfold slices_Equal_int_l1
    rcases Nat.lt_or_ge k a.length with hlt | hge
    · have hlb : k < b.length := by omega
      rw [dec_lt hlt, cond_true, if_pos (idx_ok hlb), List.drop_eq_getElem_cons hlt, List.drop_eq_getElem_cons hlb, getD_lt _ _ hlt, getD_lt _ _ hlb, ih (k + 1) (by omega) (by omega)]
      generalize a[k] = p
      generalize b[k] = q
      generalize List.drop (k + 1) a = u
      generalize List.drop (k + 1) b = v
      by_cases h : p = q
      · simp [h]
      · have : (p != q) = true := by simpa using h
        simp [h, this]
    · rw [dec_ge hge, cond_false, List.drop_of_length_le hge, List.drop_of_length_le (by omega)]; simp
theorem slices_Equal_int_eq (a b : List Int) (ha : a.length ≤ 140737488355328) : slices_Equal_int a b = some (decide (a = b)) := by
  unfold slices_Equal_int
  by_cases h : a.length = b.length
  · have : ((((a.length : Nat) : Int) : Int) != ((b.length : Nat) : Int)) = false := by simp [h]
    rw [this, cond_false, slices_Equal_int_l1_eq a b h _ _ (by omega) (fuel_gt (by omega))]
    simp
  · have : ((((a.length : Nat) : Int) : Int) != ((b.length : Nat) : Int)) = true := by simp; omega
    rw [this, cond_true]
    have : a ≠ b := fun e => h (by rw [e])
    simp [this]

end Go.Proofs.Ytnbjjhhgpcpbgaa
