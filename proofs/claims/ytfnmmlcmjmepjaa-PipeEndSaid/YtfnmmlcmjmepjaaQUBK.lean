import Derived.Test.YtfnmmlcmjmepjaaQUBM
import Derived.Test.YtfnmmlcmjmepjaaPLib
set_option linter.unusedSimpArgs false
set_option linter.unusedVariables false
namespace Go.Proofs.Ytfnmmlcmjmepjaa
open Go Go.Ab
theorem slices_Concat_byte_l2_eq (L : List (List Int)) (r6 : List Int) : ∀ n k (l8 : List Int), k ≤ L.length → L.length - k < n → (l8.length + (L.drop k).flatten.length) * 1 ≤ 140737488355328 ∧ l8.length + (L.drop k).flatten.length ≤ 140737488355328 →
  slices_Concat_byte_l2 L r6 n l8 k = some (l8 ++ (L.drop k).flatten) := by
 intro n
 induction n with
 | zero => intro k l8 h1 h2; omega
 | succ n ih =>
  intro k l8 h1 h2 hb
  unfold slices_Concat_byte_l2
  rcases Nat.lt_or_ge k L.length with hlt | hge
  ·rw [List.drop_eq_getElem_cons hlt, List.flatten_cons, List.length_append] at hb
   rw [dec_lt hlt, cond_true, getD_lt _ _ hlt, if_pos (by omega), ih (k + 1) _ (by omega) (by omega) (by rw [List.length_append]; omega), List.drop_eq_getElem_cons hlt, List.flatten_cons, List.append_assoc]
  ·rw [dec_ge hge, cond_false, List.drop_of_length_le hge]; simp
theorem slices_Concat_byte_l1_eq (L : List (List Int)) : ∀ n k (x : Int), k ≤ L.length → L.length - k < n → 0 ≤ x → x + (L.drop k).flatten.length ≤ 140737488355328 →
  slices_Concat_byte_l1 L n x k = (slices_Grow_byte_nil (x + (L.drop k).flatten.length)).bind fun r6 => slices_Concat_byte_l2 L r6 FUEL r6 0 := by
 intro n
 induction n with
 | zero => intro k x h1 h2; omega
 | succ n ih =>
  intro k x h1 h2 h3 h4
  unfold slices_Concat_byte_l1
  rcases Nat.lt_or_ge k L.length with hlt | hge
  ·rw [List.drop_eq_getElem_cons hlt, List.flatten_cons, List.length_append] at h4
   rw [dec_lt hlt, cond_true, getD_lt _ _ hlt, wrap_id (by omega) (by omega)]
   have : decide ((x + ((L[k].length : Nat) : Int) : Int) < 0) = false := by simp; omega
   rw [this, cond_false, ih (k + 1) _ (by omega) (by omega) (by omega) (by omega), List.drop_eq_getElem_cons hlt, List.flatten_cons, List.length_append]
   congr 2
   omega
  ·rw [dec_ge hge, cond_false, List.drop_of_length_le hge]; simp
theorem slices_Concat_byte_eq (L : List (List Int)) (hl : L.length ≤ 140737488355328) (hb : L.flatten.length * 1 ≤ 140737488355328 ∧ L.flatten.length ≤ 140737488355328) : slices_Concat_byte L = some L.flatten := by
 unfold slices_Concat_byte
 rw [slices_Concat_byte_l1_eq L FUEL 0 0 (by omega) (fuel_gt (by omega)) (by omega) (by simp only [List.drop_zero]; omega), List.drop_zero]
 unfold slices_Grow_byte_nil
 rw [if_pos (by omega), Option.bind_some, slices_Concat_byte_l2_eq L [] FUEL 0 [] (by omega) (fuel_gt (by omega)) (by simp only [List.drop_zero, List.length_nil]; omega)]
 simp
end Go.Proofs.Ytfnmmlcmjmepjaa

