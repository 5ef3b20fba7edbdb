import Derived.Test.YthmieigenefilaaGreatDoorQBYM
import Derived.Test.YthmieigenefilaaGreatDoorPLib
import Derived.Lib.TrailingZeros
import Derived.Lib.ItoaNum
set_option linter.unusedSimpArgs false
set_option linter.unusedVariables false
namespace Go.Proofs.YthmieigenefilaaGreatDoor
open Go Go.Ab
abbrev PZ : Api_Pin := ⟨0, 0, false, false, false, false, false⟩
def badP (p : Api_Pin) : Bool := ((((((((decide ((p.Core : Int) < 0)) || (decide ((p.Core : Int) ≥ 8))) || (decide ((p.Vec : Int) < 32))) || (decide ((p.Vec : Int) ≥ 256))) || (p.Level && p.Kept)) || ((!p.Level) && p.Sent)) || (p.Kept && (!p.Masked))) || (((p.Level && p.Up) && (!p.Masked)) && (!p.Sent)))
theorem Right_1_eq (p : Api_Pin) : line_Right_1 p = some (badP p) := rfl
theorem idxPin_eq (l : List Api_Pin) (hl : l.length ≤ 140737488355328) : ∀ n k, k ≤ l.length → l.length - k < n → ∃ x : Int, sIdp_l1 l n k = some x ∧ decide (x ≥ 0) = (l.drop k).any badP := by
 intro n
 induction n with
 | zero => intro k h1 h2; omega
 | succ n ih =>
  intro k h1 h2
  unfold sIdp_l1
  rcases Nat.lt_or_ge k l.length with hlt | hge
  ·rw [dec_lt hlt, cond_true, getD_lt _ _ hlt, Right_1_eq, Option.bind_some, List.drop_eq_getElem_cons hlt, List.any_cons]
   cases badP l[k] with
   | true => exact ⟨_, rfl, by simp⟩
   | false =>
    obtain ⟨x, hx, h⟩ := ih (k + 1) (by omega) (by omega)
    exact ⟨x, hx, by rw [h, Bool.false_or]⟩
  ·rw [dec_ge hge, cond_false, List.drop_of_length_le hge]
   exact ⟨_, rfl, rfl⟩
def rightB (l : List Api_Pin) : Bool := decide (l.length ≤ 24) && !(l.any badP)
theorem Right_eq (l : List Api_Pin) : line_Right l = some (rightB l) := by
 unfold line_Right rightB
 by_cases h : l.length ≤ 24
 ·have : decide ((((l.length : Nat) : Int) : Int) ≤ 24) = true := by simp; omega
  have h2 : decide (l.length ≤ 24) = true := by simpa using h
  rw [this, cond_true, h2]
  unfold sCon sIdp
  obtain ⟨x, hx, h⟩ := idxPin_eq l (by omega) FUEL 0 (by omega) (fuel_gt (by omega))
  rw [hx, Option.bind_some, h, Option.bind_some]
  rfl
 ·have : decide ((((l.length : Nat) : Int) : Int) ≤ 24) = false := by simp; omega
  have h2 : decide (l.length ≤ 24) = false := by simpa using h
  rw [this, cond_false, h2]
  rfl
theorem right_pin {l : List Api_Pin} (h : rightB l = true) {i : Nat} (hi : i < l.length) : badP (l.getD i PZ) = false := by
 simp only [rightB, Bool.and_eq_true, Bool.not_eq_true', List.any_eq_false] at h
 rw [getD_lt _ _ hi]
 simpa using h.2 _ (List.getElem_mem hi)
theorem right_len {l : List Api_Pin} (h : rightB l = true) : l.length ≤ 24 := by
 simp only [rightB, Bool.and_eq_true, decide_eq_true_eq] at h
 exact h.1
theorem right_set {l : List Api_Pin} (h : rightB l = true) {p : Api_Pin} (hp : badP p = false) (i : Nat) : rightB (l.set i p) = true := by
 simp only [rightB, Bool.and_eq_true, Bool.not_eq_true', List.any_eq_false, decide_eq_true_eq, List.length_set] at h ⊢
 refine ⟨h.1, fun x hx => ?_⟩
 rcases List.mem_or_eq_of_mem_set hx with hx | rfl
 ·exact h.2 x hx
 ·simp [hp]
def fireF (p : Api_Pin) (edge : Bool) : Bool × Api_Pin :=
 if p.Level then (if p.Up && !p.Masked && !p.Sent then (true, ⟨p.Core, p.Vec, p.Level, p.Masked, p.Up, p.Kept, true⟩) else (false, p))
 else if edge && p.Masked then (false, ⟨p.Core, p.Vec, p.Level, p.Masked, p.Up, true, p.Sent⟩)
 else if edge || (p.Kept && !p.Masked) then (true, ⟨p.Core, p.Vec, p.Level, p.Masked, p.Up, false, p.Sent⟩) else (false, p)
theorem fire_eq (p : Api_Pin) (e : Bool) : line_fire p e = some (fireF p e) := by
 unfold line_fire fireF
 obtain ⟨c, v, lv, m, u, k, s⟩ := p
 cases lv <;> cases m <;> cases u <;> cases k <;> cases s <;> cases e <;> rfl
def chg (p : Api_Pin) (k : Int) : Api_Pin :=
 if k = 1 ∨ k = 2 then ⟨p.Core, p.Vec, p.Level, p.Masked, k == 1, p.Kept, p.Sent⟩
 else if k = 3 ∨ k = 4 then ⟨p.Core, p.Vec, p.Level, k == 3, p.Up, p.Kept, p.Sent⟩
 else ⟨p.Core, p.Vec, p.Level, p.Masked, p.Up, p.Kept, false⟩
def stepP (p : Api_Pin) (k : Int) : Bool × Api_Pin := fireF (chg p k) ((k == 1) && !p.Up)
def sentF (i : Int) (q : Bool × Api_Pin) : List Api_Sent := if q.1 then [⟨i, q.2.Core, q.2.Vec⟩] else []
theorem step_cases {l : List Api_Pin} (o : Api_PinOp) (h : rightB l = true) :
  (∃ e, e ≠ 0 ∧ line_Step l o = some ([], [], e)) ∨
  (1 ≤ o.Kind ∧ o.Kind ≤ 5 ∧ 0 ≤ o.Pin ∧ o.Pin.toNat < l.length ∧ line_Step l o = some (l.set o.Pin.toNat (stepP (l.getD o.Pin.toNat PZ) o.Kind).2, sentF o.Pin (stepP (l.getD o.Pin.toNat PZ) o.Kind), 0)) := by
 have hlen := right_len h
 unfold line_Step
 rw [Right_eq, Option.bind_some, h, Bool.not_true, cond_false]
 by_cases hk : o.Kind < 1 ∨ o.Kind > 5
 ·have : (decide (o.Kind < 1) || decide (o.Kind > 5)) = true := by simpa using hk
  rw [this]
  exact .inl ⟨5, by decide, rfl⟩
 have e1 : (decide (o.Kind < 1) || decide (o.Kind > 5)) = false := by simp at hk ⊢; omega
 rw [e1, cond_false]
 by_cases hp : o.Pin < 0 ∨ o.Pin ≥ (l.length : Int)
 ·have : (decide (o.Pin < 0) || decide (o.Pin ≥ ((l.length : Nat) : Int))) = true := by simpa using hp
  rw [this]
  exact .inl ⟨3, by decide, rfl⟩
 have e2 : (decide (o.Pin < 0) || decide (o.Pin ≥ ((l.length : Nat) : Int))) = false := by simp at hp ⊢; omega
 rw [e2, cond_false]
 have hi : o.Pin.toNat < l.length := by omega
 refine .inr ⟨by omega, by omega, by omega, hi, ?_⟩
 unfold slices_Clone_api_Pin
 rw [if_pos (by omega), Option.bind_some, if_pos (by omega)]
 simp only [Z0_0, Z0_1, Z0_2, Z0_3, Z0_4, Z0_5, Z0_6, Z0_7]
 generalize o.Pin.toNat = i at *
 have hset : ∀ (x y : Api_Pin), (l.set i x).set i y = l.set i y := fun x y => List.set_set _
 have hget : ∀ (x : Api_Pin), (l.set i x).getD i PZ = x := fun x => focus_get hi
 simp only [Nat.zero_add, hget, hset, fire_eq, Option.bind_some]
 unfold stepP sentF chg
 have hkk : o.Kind = 1 ∨ o.Kind = 2 ∨ o.Kind = 3 ∨ o.Kind = 4 ∨ o.Kind = 5 := by omega
 rcases hkk with hk | hk | hk | hk | hk <;> simp only [hk] <;> (split <;> simp_all) <;> (generalize fireF _ _ = q; obtain ⟨b, p⟩ := q; cases b <;> rfl)
theorem stepP_ok (p : Api_Pin) (k : Int) (hk : 1 ≤ k ∧ k ≤ 5) (h : badP p = false) : badP (stepP p k).2 = false ∧ (stepP p k).2.Level = p.Level := by
 obtain ⟨c, v, lv, m, u, kp, s⟩ := p
 have hkk : k = 1 ∨ k = 2 ∨ k = 3 ∨ k = 4 ∨ k = 5 := by omega
 simp only [badP, Bool.or_eq_false_iff, decide_eq_false_iff_not] at h
 obtain ⟨⟨⟨⟨⟨⟨⟨h1, h2⟩, h3⟩, h4⟩, h5⟩, h6⟩, h7⟩, h8⟩ := h
 rcases hkk with rfl | rfl | rfl | rfl | rfl <;> cases lv <;> cases m <;> cases u <;> cases kp <;> cases s <;> simp_all [stepP, fireF, chg, badP]
end Go.Proofs.YthmieigenefilaaGreatDoor
