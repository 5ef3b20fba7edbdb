import Derived.Test.YthmieigenefilaaGreatDoorQBWM
import Derived.Test.YthmieigenefilaaGreatDoorPLib
set_option linter.unusedSimpArgs false
set_option linter.unusedVariables false
namespace Go.Proofs.YthmieigenefilaaGreatDoor
open Go Go.Ab
theorem slices_IndexFunc_slbyte_tty_Right_1_l1_eq {f : (List Int) → Bool} (hf : ∀ x, tty_Right_1 x = some (f x)) (l : List (List Int)) (hl : l.length ≤ 140737488355328) : ∀ n k, k ≤ l.length → l.length - k < n → ∃ x : Int, slices_IndexFunc_slbyte_tty_Right_1_l1 l n k = some x ∧ decide (x ≥ 0) = (l.drop k).any f := by
 intro n
 induction n with
 | zero => intro k h1 h2; omega
 | succ n ih =>
  intro k h1 h2
  unfold slices_IndexFunc_slbyte_tty_Right_1_l1
  rcases Nat.lt_or_ge k l.length with hlt | hge
  ·rw [dec_lt hlt, cond_true, getD_lt _ _ hlt, hf, Option.bind_some, List.drop_eq_getElem_cons hlt, List.any_cons]
   cases f l[k] with
   | true => exact ⟨_, rfl, by simp⟩
   | false =>
    obtain ⟨x, hx, h⟩ := ih (k + 1) (by omega) (by omega)
    exact ⟨x, hx, by rw [h, Bool.false_or]⟩
  ·rw [dec_ge hge, cond_false, List.drop_of_length_le hge]
   exact ⟨_, rfl, rfl⟩
theorem slices_ContainsFunc_slbyte_tty_Right_1_eq {f : (List Int) → Bool} (hf : ∀ x, tty_Right_1 x = some (f x)) (l : List (List Int)) (hl : l.length ≤ 140737488355328) : slices_ContainsFunc_slbyte_tty_Right_1 l = some (l.any f) := by
 unfold slices_ContainsFunc_slbyte_tty_Right_1 slices_IndexFunc_slbyte_tty_Right_1
 obtain ⟨x, hx, h⟩ := slices_IndexFunc_slbyte_tty_Right_1_l1_eq hf l hl FUEL 0 (by omega) (fuel_gt (by omega))
 rw [hx, Option.bind_some, h, List.drop_zero]
end Go.Proofs.YthmieigenefilaaGreatDoor
