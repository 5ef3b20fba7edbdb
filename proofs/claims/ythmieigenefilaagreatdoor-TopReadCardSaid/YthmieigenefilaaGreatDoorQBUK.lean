import Derived.Test.YthmieigenefilaaGreatDoorQBUM
import Derived.Test.YthmieigenefilaaGreatDoorPLib
set_option linter.unusedSimpArgs false
set_option linter.unusedVariables false
namespace Go.Proofs.YthmieigenefilaaGreatDoor
open Go Go.Ab
theorem slices_IndexFunc_slbyte_tty_Right_1_l1_eq {f : (List Int) → Bool} (hf : ∀ x, tty_Right_1 x = some (f x)) (l : List (List Int)) (hl : l.length ≤ 140737488355328) : ∀ n k, k ≤ l.length → l.length - k < n → ∃ x : Int, slices_IndexFunc_slbyte_tty_Right_1_l1 l n k = some x ∧ decide (x ≥ 0) = (l.drop k).any f := by
 intro n
 induction n with
 | zero => intro k h1 h2; omega
 | succ n ih =>
  intro k h1 h2
  unfold slices_IndexFunc_slbyte_tty_Right_1_l1
  rcases Nat.lt_or_ge k l.length with hlt | hge
  ·rw [dec_lt hlt, cond_true, getD_lt _ _ hlt, hf, Option.bind_some, List.drop_eq_getElem_cons hlt, List.any_cons]
   cases f l[k] with
   | true => exact ⟨_, rfl, by simp⟩
   | false =>
    obtain ⟨x, hx, h⟩ := ih (k + 1) (by omega) (by omega)
    exact ⟨x, hx, by rw [h, Bool.false_or]⟩
  ·rw [dec_ge hge, cond_false, List.drop_of_length_le hge]
   exact ⟨_, rfl, rfl⟩
theorem slices_ContainsFunc_slbyte_tty_Right_1_eq {f : (List Int) → Bool} (hf : ∀ x, tty_Right_1 x = some (f x)) (l : List (List Int)) (hl : l.length ≤ 140737488355328) : slices_ContainsFunc_slbyte_tty_Right_1 l = some (l.any f) := by
 unfold slices_ContainsFunc_slbyte_tty_Right_1 slices_IndexFunc_slbyte_tty_Right_1
 obtain ⟨x, hx, h⟩ := slices_IndexFunc_slbyte_tty_Right_1_l1_eq hf l hl FUEL 0 (by omega) (fuel_gt (by omega))
 rw [hx, Option.bind_some, h, List.drop_zero]
theorem sIdx_l1_eq2  {f : AKO → Bool} (hf : ∀ x, top_TopRead_1 x = some (f x)) (l : List AKO) : ∀ n k, k ≤ l.length → l.length - k < n → ∃ x : Int, sIdx_l1 l n k = some x ∧
  ((x = -1 ∧ ∀ y ∈ l.drop k, f y = false) ∨ ∃ j, k ≤ j ∧ ∃ h : j < l.length, x = (j : Int) ∧ f l[j] = true ∧ ∀ y ∈ (l.drop k).take (j - k), f y = false) := by
 intro n
 induction n with
 | zero => intro k h1 h2; omega
 | succ n ih =>
  intro k h1 h2
  unfold sIdx_l1
  rcases Nat.lt_or_ge k l.length with hlt | hge
  ·rw [dec_lt hlt, cond_true, getD_lt _ _ hlt, hf, Option.bind_some, List.drop_eq_getElem_cons hlt]
   cases hc : f l[k] with
   | true => exact ⟨_, rfl, .inr ⟨k, Nat.le_refl _, hlt, rfl, hc, by simp⟩⟩
   | false =>
    obtain ⟨x, hx, h⟩ := ih (k + 1) (by omega) (by omega)
    refine ⟨x, hx, ?_⟩
    rcases h with ⟨h3, h4⟩ | ⟨j, h3, h4, h5, h6, h7⟩
    ·refine .inl ⟨h3, fun y hy => ?_⟩
     rcases List.mem_cons.1 hy with rfl | hy
     ·exact hc
     ·exact h4 y hy
    ·refine .inr ⟨j, by omega, h4, h5, h6, fun y hy => ?_⟩
     rw [show j - k = (j - (k + 1)) + 1 by omega, List.take_succ_cons] at hy
     rcases List.mem_cons.1 hy with rfl | hy
     ·exact hc
     ·exact h7 y hy
  ·rw [dec_ge hge, cond_false, List.drop_of_length_le hge]
   exact ⟨_, rfl, .inl ⟨rfl, by simp⟩⟩
theorem sDel_h0_l1_eq  {f : AKO → Bool} (hf : ∀ x, top_TopRead_1 x = some (f x)) (l0 : List AKO) (r1 : Int) (l : List AKO) (hl : l.length ≤ 140737488355328) : ∀ n (i j : Nat) (l6 : List AKO), i ≤ j → j ≤ l.length → l.length - j < n → l6.length = l.length → l6.drop j = l.drop j → l6.take i = (l.take j).filter (fun x => !f x) →
  sDel_h0_l1 l0 r1 n (i : Int) (j : Int) l6 = some (l.filter fun x => !f x) := by
 intro n
 induction n with
 | zero => intro i j l6 _ _ h; omega
 | succ n ih =>
  intro i j l6 h1 h2 h3 h4 h5 h6
  unfold sDel_h0_l1
  rcases Nat.lt_or_ge j l.length with hlt | hge
  ·have hj6 : j < l6.length := by omega
   have hd : decide ((((j : Nat) : Int) : Int) < ((l6.length : Nat) : Int)) = true := by simpa using hj6
   have hge6 : l6[j] = l[j] := by
    have e1 := List.drop_eq_getElem_cons hj6
    have e2 := List.drop_eq_getElem_cons hlt
    rw [h5, e2] at e1
    exact (List.cons.inj e1).1.symm
   have hdr : l6.drop (j + 1) = l.drop (j + 1) := by
    have e1 := List.drop_eq_getElem_cons hj6
    have e2 := List.drop_eq_getElem_cons hlt
    rw [h5, e2] at e1
    exact (List.cons.inj e1).2.symm
   simp only [hd, cond_true, Int.toNat_natCast, Nat.zero_add]
   rw [if_pos (by omega), getD_lt _ _ hj6, hge6, hf, Option.bind_some, wrap_id (x := (j : Int) + 1) (by omega) (by omega)]
   cases hc : f l[j] with
   | true =>
    rw [Bool.not_true, cond_false]
    refine ih i (j + 1) l6 (by omega) (by omega) (by omega) h4 hdr ?_
    rw [List.take_succ_eq_append_getElem hlt, List.filter_append, h6]
    simp [hc]
   | false =>
    rw [Bool.not_false, cond_true, if_pos (by omega), wrap_id (x := (i : Int) + 1) (by omega) (by omega)]
    refine ih (i + 1) (j + 1) _ (by omega) (by omega) (by omega) (by simp [h4]) ?_ ?_
    ·rw [List.drop_set_of_lt (by omega)]; exact hdr
    ·rw [List.take_succ_eq_append_getElem (by simp; omega), List.take_set_of_le (Nat.le_refl _), h6, List.getElem_set_self, List.take_succ_eq_append_getElem hlt, List.filter_append]
     simp [hc]
  ·have hd : decide ((((j : Nat) : Int) : Int) < ((l6.length : Nat) : Int)) = false := by simp; omega
   simp only [hd, cond_false, Int.toNat_natCast, Nat.zero_add]
   rw [if_pos (by omega), if_pos (by omega), if_pos (by omega), if_pos (by omega), if_pos (by omega)]
   congr 1
   rw [List.take_of_length_le hge] at h6
   rw [← h6]
   unfold cpL
   rw [List.drop_zero, List.append_assoc, Nat.sub_zero, List.take_append_of_le_length (by simp; omega), List.take_take, Nat.min_self]
theorem sDel_h0_eq  {f : AKO → Bool} (hf : ∀ x, top_TopRead_1 x = some (f x)) (l : List AKO) (hl : l.length ≤ 140737488355328) : sDel_h0 l = some (l.filter fun x => !f x) := by
 unfold sDel_h0 sIdx
 obtain ⟨x, hx, h⟩ := sIdx_l1_eq2 hf l FUEL 0 (by omega) (fuel_gt (by omega))
 rw [hx, Option.bind_some]
 rcases h with ⟨rfl, h⟩ | ⟨j, _, h4, rfl, h6, h7⟩
 ·rw [List.drop_zero] at h
  have : l.filter (fun x => !f x) = l := List.filter_eq_self.2 fun y hy => by simp [h y hy]
  rw [this]; rfl
 ·have hn : (((j : Nat) : Int) == -1) = false := by rw [beq_eq_false_iff_ne]; omega
  rw [hn, cond_false, wrap_id (by omega) (by omega)]
  have hall : (l.take j).filter (fun x => !f x) = l.take j := List.filter_eq_self.2 fun y hy => by
   have := h7 y (by simpa using hy)
   simp [this]
  refine sDel_h0_l1_eq hf l _ l hl FUEL j (j + 1) l (by omega) (by omega) (fuel_gt (by omega)) rfl rfl ?_
  rw [List.take_succ_eq_append_getElem h4, List.filter_append, hall]
  simp [h6]
end Go.Proofs.YthmieigenefilaaGreatDoor
