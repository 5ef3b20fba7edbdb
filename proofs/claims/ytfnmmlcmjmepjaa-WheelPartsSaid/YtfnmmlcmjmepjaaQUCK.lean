import Derived.Test.YtfnmmlcmjmepjaaQUCM
import Derived.Test.YtfnmmlcmjmepjaaPLib
set_option linter.unusedSimpArgs false
set_option linter.unusedVariables false
namespace Go.Proofs.Ytfnmmlcmjmepjaa
open Go Go.Ab
theorem slices_Equal_api_Fired_l1_eq (a b : List Api_Fired) (hab : a.length = b.length) : ∀ n k, k ≤ a.length → a.length - k < n → slices_Equal_api_Fired_l1 a b n k = some (decide (a.drop k = b.drop k)) := by
 intro n
 induction n with
 | zero => intro k h1 h2; omega
 | succ n ih =>
  intro k h1 h2
  unfold slices_Equal_api_Fired_l1
  rcases Nat.lt_or_ge k a.length with hlt | hge
  ·have hlb : k < b.length := by omega
   rw [dec_lt hlt, cond_true, if_pos (idx_ok hlb), List.drop_eq_getElem_cons hlt, List.drop_eq_getElem_cons hlb, getD_lt _ _ hlt, getD_lt _ _ hlb, ih (k + 1) (by omega) (by omega)]
   generalize a[k] = p
   generalize b[k] = q
   generalize List.drop (k + 1) a = u
   generalize List.drop (k + 1) b = v
   by_cases h : p = q
   ·subst h; simp
   ·generalize hc : (!_) = c
    have : c = true := by
     rw [← hc]
     obtain ⟨p0, p1⟩ := p
     obtain ⟨q0, q1⟩ := q
     simp only [Api_Fired.mk.injEq] at h
     rw [Bool.not_eq_true', ← Bool.not_eq_true]
     intro hh
     apply h
     simpa using hh
    rw [this, cond_true]
    simp [h]
  ·rw [dec_ge hge, cond_false, List.drop_of_length_le hge, List.drop_of_length_le (by omega)]; simp
theorem slices_Equal_api_Fired_eq (a b : List Api_Fired) (ha : a.length ≤ 140737488355328) : slices_Equal_api_Fired a b = some (decide (a = b)) := by
 unfold slices_Equal_api_Fired
 by_cases h : a.length = b.length
 ·have : ((((a.length : Nat) : Int) : Int) != ((b.length : Nat) : Int)) = false := by simp [h]
  rw [this, cond_false, slices_Equal_api_Fired_l1_eq a b h _ _ (by omega) (fuel_gt (by omega))]
  simp
 ·have : ((((a.length : Nat) : Int) : Int) != ((b.length : Nat) : Int)) = true := by simp; omega
  rw [this, cond_true]
  have : a ≠ b := fun e => h (by rw [e])
  simp [this]
end Go.Proofs.Ytfnmmlcmjmepjaa

