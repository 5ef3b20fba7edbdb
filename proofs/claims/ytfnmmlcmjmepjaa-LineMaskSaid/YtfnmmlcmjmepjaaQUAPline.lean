import Derived.Test.YtfnmmlcmjmepjaaQUAM
import Derived.Test.YtfnmmlcmjmepjaaPLib
import Derived.Test.YtfnmmlcmjmepjaaQUAK
set_option linter.unusedSimpArgs false
set_option linter.unusedVariables false
namespace Go.Proofs.Ytfnmmlcmjmepjaa
open Go Go.Ab
theorem alive3_eq : keep_alive3 = some true := by decide +kernel
abbrev PZ : Api_Pin := ⟨0, 0, false, false, false, false, false⟩
def badP (p : Api_Pin) : Bool := ((((((((decide ((p.Core : Int) < 0)) || (decide ((p.Core : Int) ≥ 8))) || (decide ((p.Vec : Int) < 32))) || (decide ((p.Vec : Int) ≥ 256))) || (p.Level && p.Kept)) || ((!p.Level) && p.Sent)) || (p.Kept && (!p.Masked))) || (((p.Level && p.Up) && (!p.Masked)) && (!p.Sent)))
theorem Right_1_eq (p : Api_Pin) : line_Right_1 p = some (badP p) := rfl
theorem idxPin_eq (l : List Api_Pin) (hl : l.length ≤ 140737488355328) : ∀ n k, k ≤ l.length → l.length - k < n → ∃ x : Int, slices_IndexFunc_api_Pin_line_Right_1_l1 l n k = some x ∧ decide (x ≥ 0) = (l.drop k).any badP := by
 intro n
 induction n with
 | zero => intro k h1 h2; omega
 | succ n ih =>
  intro k h1 h2
  unfold slices_IndexFunc_api_Pin_line_Right_1_l1
  rcases Nat.lt_or_ge k l.length with hlt | hge
  ·rw [dec_lt hlt, cond_true, getD_lt _ _ hlt, Right_1_eq, Option.bind_some, List.drop_eq_getElem_cons hlt, List.any_cons]
   cases badP l[k] with
   | true => exact ⟨_, rfl, by simp⟩
   | false =>
    obtain ⟨x, hx, h⟩ := ih (k + 1) (by omega) (by omega)
    exact ⟨x, hx, by rw [h, Bool.false_or]⟩
  ·rw [dec_ge hge, cond_false, List.drop_of_length_le hge]
   exact ⟨_, rfl, rfl⟩
def rightB (l : List Api_Pin) : Bool := decide (l.length ≤ 24) && !(l.any badP)
theorem Right_eq (l : List Api_Pin) : line_Right l = some (rightB l) := by
 unfold line_Right rightB
 by_cases h : l.length ≤ 24
 ·have : decide ((((l.length : Nat) : Int) : Int) ≤ 24) = true := by simp; omega
  have h2 : decide (l.length ≤ 24) = true := by simpa using h
  rw [this, cond_true, h2]
  unfold slices_ContainsFunc_api_Pin_line_Right_1 slices_IndexFunc_api_Pin_line_Right_1
  obtain ⟨x, hx, h⟩ := idxPin_eq l (by omega) FUEL 0 (by omega) (fuel_gt (by omega))
  rw [hx, Option.bind_some, h, Option.bind_some]
  rfl
 ·have : decide ((((l.length : Nat) : Int) : Int) ≤ 24) = false := by simp; omega
  have h2 : decide (l.length ≤ 24) = false := by simpa using h
  rw [this, cond_false, h2]
  rfl
theorem right_pin {l : List Api_Pin} (h : rightB l = true) {i : Nat} (hi : i < l.length) : badP (l.getD i PZ) = false := by
 simp only [rightB, Bool.and_eq_true, Bool.not_eq_true', List.any_eq_false] at h
 rw [getD_lt _ _ hi]
 simpa using h.2 _ (List.getElem_mem hi)
theorem right_len {l : List Api_Pin} (h : rightB l = true) : l.length ≤ 24 := by
 simp only [rightB, Bool.and_eq_true, decide_eq_true_eq] at h
 exact h.1
theorem right_set {l : List Api_Pin} (h : rightB l = true) {p : Api_Pin} (hp : badP p = false) (i : Nat) : rightB (l.set i p) = true := by
 simp only [rightB, Bool.and_eq_true, Bool.not_eq_true', List.any_eq_false, decide_eq_true_eq, List.length_set] at h ⊢
 refine ⟨h.1, fun x hx => ?_⟩
 rcases List.mem_or_eq_of_mem_set hx with hx | rfl
 ·exact h.2 x hx
 ·simp [hp]
def fireF (p : Api_Pin) (edge : Bool) : Bool × Api_Pin :=
 if p.Level then (if p.Up && !p.Masked && !p.Sent then (true, ⟨p.Core, p.Vec, p.Level, p.Masked, p.Up, p.Kept, true⟩) else (false, p))
 else if edge && p.Masked then (false, ⟨p.Core, p.Vec, p.Level, p.Masked, p.Up, true, p.Sent⟩)
 else if edge || (p.Kept && !p.Masked) then (true, ⟨p.Core, p.Vec, p.Level, p.Masked, p.Up, false, p.Sent⟩) else (false, p)
theorem fire_eq (p : Api_Pin) (e : Bool) : line_fire p e = some (fireF p e) := by
 unfold line_fire fireF
 obtain ⟨c, v, lv, m, u, k, s⟩ := p
 cases lv <;> cases m <;> cases u <;> cases k <;> cases s <;> cases e <;> rfl
def chg (p : Api_Pin) (k : Int) : Api_Pin :=
 if k = 1 ∨ k = 2 then ⟨p.Core, p.Vec, p.Level, p.Masked, k == 1, p.Kept, p.Sent⟩
 else if k = 3 ∨ k = 4 then ⟨p.Core, p.Vec, p.Level, k == 3, p.Up, p.Kept, p.Sent⟩
 else ⟨p.Core, p.Vec, p.Level, p.Masked, p.Up, p.Kept, false⟩
def stepP (p : Api_Pin) (k : Int) : Bool × Api_Pin := fireF (chg p k) ((k == 1) && !p.Up)
def sentF (i : Int) (q : Bool × Api_Pin) : List Api_Sent := if q.1 then [⟨i, q.2.Core, q.2.Vec⟩] else []
theorem step_cases {l : List Api_Pin} (o : Api_PinOp) (h : rightB l = true) :
  (∃ e, e ≠ 0 ∧ line_Step l o = some ([], [], e)) ∨
  (1 ≤ o.Kind ∧ o.Kind ≤ 5 ∧ 0 ≤ o.Pin ∧ o.Pin.toNat < l.length ∧ line_Step l o = some (l.set o.Pin.toNat (stepP (l.getD o.Pin.toNat PZ) o.Kind).2, sentF o.Pin (stepP (l.getD o.Pin.toNat PZ) o.Kind), 0)) := by
 have hlen := right_len h
 unfold line_Step
 rw [Right_eq, Option.bind_some, h, Bool.not_true, cond_false]
 by_cases hk : o.Kind < 1 ∨ o.Kind > 5
 ·have : (decide (o.Kind < 1) || decide (o.Kind > 5)) = true := by simpa using hk
  rw [this]
  exact .inl ⟨5, by decide, rfl⟩
 have e1 : (decide (o.Kind < 1) || decide (o.Kind > 5)) = false := by simp at hk ⊢; omega
 rw [e1, cond_false]
 by_cases hp : o.Pin < 0 ∨ o.Pin ≥ (l.length : Int)
 ·have : (decide (o.Pin < 0) || decide (o.Pin ≥ ((l.length : Nat) : Int))) = true := by simpa using hp
  rw [this]
  exact .inl ⟨3, by decide, rfl⟩
 have e2 : (decide (o.Pin < 0) || decide (o.Pin ≥ ((l.length : Nat) : Int))) = false := by simp at hp ⊢; omega
 rw [e2, cond_false]
 have hi : o.Pin.toNat < l.length := by omega
 refine .inr ⟨by omega, by omega, by omega, hi, ?_⟩
 unfold slices_Clone_api_Pin
 rw [if_pos (by omega), Option.bind_some, if_pos (by omega)]
 generalize o.Pin.toNat = i at *
 have hset : ∀ (x y : Api_Pin), (l.set i x).set i y = l.set i y := fun x y => List.set_set _
 have hget : ∀ (x : Api_Pin), (l.set i x).getD i PZ = x := fun x => focus_get hi
 simp only [Nat.zero_add, hget, hset, fire_eq, Option.bind_some]
 unfold stepP sentF chg
 have hkk : o.Kind = 1 ∨ o.Kind = 2 ∨ o.Kind = 3 ∨ o.Kind = 4 ∨ o.Kind = 5 := by omega
 rcases hkk with hk | hk | hk | hk | hk <;> simp only [hk] <;> (split <;> simp_all) <;> (generalize fireF _ _ = q; obtain ⟨b, p⟩ := q; cases b <;> rfl)
theorem stepP_ok (p : Api_Pin) (k : Int) (hk : 1 ≤ k ∧ k ≤ 5) (h : badP p = false) : badP (stepP p k).2 = false ∧ (stepP p k).2.Level = p.Level := by
 obtain ⟨c, v, lv, m, u, kp, s⟩ := p
 have hkk : k = 1 ∨ k = 2 ∨ k = 3 ∨ k = 4 ∨ k = 5 := by omega
 simp only [badP, Bool.or_eq_false_iff, decide_eq_false_iff_not] at h
 obtain ⟨⟨⟨⟨⟨⟨⟨h1, h2⟩, h3⟩, h4⟩, h5⟩, h6⟩, h7⟩, h8⟩ := h
 rcases hkk with rfl | rfl | rfl | rfl | rfl <;> cases lv <;> cases m <;> cases u <;> cases kp <;> cases s <;> simp_all [stepP, fireF, chg, badP]
theorem sentF_len (i : Int) (q : Bool × Api_Pin) : (sentF i q).length = if q.1 then 1 else 0 := by
 unfold sentF; split <;> rfl
def stepF (q : List Api_Pin × List Api_Sent) (o : Api_PinOp) : List Api_Pin × List Api_Sent :=
 match line_Step q.1 o with
 | some (l, t, e) => if e = 0 then (l, q.2 ++ t) else q
 | none => q
theorem stepF_spec (l : List Api_Pin) (h : rightB l = true) (o : Api_PinOp) : ∃ l' t e, line_Step l o = some (l', t, e) ∧ t.length ≤ 1 ∧ (e = 0 → rightB l' = true) := by
 rcases step_cases o h with ⟨e, he, hs⟩ | ⟨h1, h2, h3, h4, hs⟩
 ·exact ⟨_, _, _, hs, by simp, fun x => absurd x he⟩
 ·refine ⟨_, _, _, hs, by rw [sentF_len]; split <;> omega, fun _ => ?_⟩
  exact right_set h (stepP_ok _ _ ⟨h1, h2⟩ (right_pin h h4)).1 _
theorem play_l1_eq (a0 : List Api_Pin) (a1 : List Api_PinOp) (h1 : a1.length * 16 ≤ 140737488355328) : ∀ n k l s, k ≤ a1.length → a1.length - k < n → rightB l = true → s.length ≤ k →
  line_Play_l1 a0 a1 n l s k = some (((a1.drop k).foldl stepF (l, s)).1, ((a1.drop k).foldl stepF (l, s)).2, 0) := by
 intro n
 induction n with
 | zero => intro k l s h1 h2; omega
 | succ n ih =>
  intro k l s hk hn hl hs
  unfold line_Play_l1
  rcases Nat.lt_or_ge k a1.length with hlt | hge
  ·rw [dec_lt hlt, cond_true, getD_lt _ _ hlt, List.drop_eq_getElem_cons hlt, List.foldl_cons]
   obtain ⟨l', t, e, hst, ht, hr⟩ := stepF_spec l hl a1[k]
   have hF : stepF (l, s) a1[k] = if e = 0 then (l', s ++ t) else (l, s) := by
    unfold stepF
    rw [hst]
   rw [hst, Option.bind_some, hF]
   by_cases he : e = 0
   ·subst he
    simp only [beq_self_eq_true, cond_true, if_true]
    rw [if_pos (by omega)]
    exact ih (k + 1) _ _ (by omega) (by omega) (hr rfl) (by rw [List.length_append]; omega)
   ·have : (e == 0) = false := by simpa using he
    simp only [this, cond_false, if_neg he]
    exact ih (k + 1) _ _ (by omega) (by omega) hl (by omega)
  ·rw [dec_ge hge, cond_false, List.drop_of_length_le hge]
   have := right_len hl
   unfold slices_Clone_api_Pin
   rw [if_pos (by omega), Option.bind_some, List.foldl_nil]
theorem play_eq (l : List Api_Pin) (a : List Api_PinOp) (ha : a.length * 16 ≤ 140737488355328) (h : rightB l = true) : line_Play l a = some ((a.foldl stepF (l, [])).1, (a.foldl stepF (l, [])).2, 0) := by
 unfold line_Play
 rw [Right_eq, Option.bind_some, h, Bool.not_true, cond_false, play_l1_eq l a ha FUEL 0 l [] (by omega) (fuel_gt (by omega)) h (by simp), List.drop_zero]
theorem fold_right (a : List Api_PinOp) : ∀ l s, rightB l = true → rightB (a.foldl stepF (l, s)).1 = true ∧ (a.foldl stepF (l, s)).2.length ≤ s.length + a.length ∧ a.foldl stepF (l, s) = ((a.foldl stepF (l, [])).1, s ++ (a.foldl stepF (l, [])).2) := by
 induction a with
 | nil => intro l s h; exact ⟨h, by simp, by simp⟩
 | cons o a ih =>
  intro l s h
  obtain ⟨l', t, e, hst, ht, hr⟩ := stepF_spec l h o
  have hF : ∀ s, stepF (l, s) o = if e = 0 then (l', s ++ t) else (l, s) := by
   intro s
   unfold stepF
   rw [hst]
  rw [List.foldl_cons, List.foldl_cons, hF, hF]
  by_cases he : e = 0
  ·rw [if_pos he, if_pos he]
   obtain ⟨i1, i2, i3⟩ := ih l' (s ++ t) (hr he)
   obtain ⟨j1, j2, j3⟩ := ih l' ([] ++ t) (hr he)
   refine ⟨i1, by rw [List.length_append] at i2; rw [List.length_cons]; omega, ?_⟩
   rw [i3, j3]
   simp
  ·rw [if_neg he, if_neg he]
   obtain ⟨i1, i2, i3⟩ := ih l s h
   exact ⟨i1, by rw [List.length_cons]; omega, i3⟩
theorem step_ok {l : List Api_Pin} (o : Api_PinOp) (h : rightB l = true) (hk : 1 ≤ o.Kind ∧ o.Kind ≤ 5) (hp : 0 ≤ o.Pin ∧ o.Pin < (l.length : Int)) :
  line_Step l o = some (l.set o.Pin.toNat (stepP (l.getD o.Pin.toNat PZ) o.Kind).2, sentF o.Pin (stepP (l.getD o.Pin.toNat PZ) o.Kind), 0) := by
 rcases step_cases o h with ⟨e, he, hs⟩ | ⟨_, _, _, _, hs⟩
 ·exfalso
  have hlen := right_len h
  unfold line_Step at hs
  rw [Right_eq, Option.bind_some, h, Bool.not_true, cond_false] at hs
  have e1 : (decide (o.Kind < 1) || decide (o.Kind > 5)) = false := by simp; omega
  have e2 : (decide (o.Pin < 0) || decide (o.Pin ≥ ((l.length : Nat) : Int))) = false := by simp; omega
  have hi : o.Pin.toNat < l.length := by omega
  rw [e1, cond_false, e2, cond_false] at hs
  unfold slices_Clone_api_Pin at hs
  rw [if_pos (by omega), Option.bind_some, if_pos (by omega)] at hs
  generalize o.Pin.toNat = i at *
  have hget : ∀ (x : Api_Pin), (l.set i x).getD i PZ = x := fun x => focus_get hi
  simp only [Nat.zero_add, hget, fire_eq, Option.bind_some] at hs
  have hkk : o.Kind = 1 ∨ o.Kind = 2 ∨ o.Kind = 3 ∨ o.Kind = 4 ∨ o.Kind = 5 := by omega
  rcases hkk with hk | hk | hk | hk | hk <;> simp only [hk] at hs <;> simp at hs <;> (revert hs; generalize fireF _ _ = q; obtain ⟨b, p⟩ := q; cases b <;> intro hs <;> simp at hs <;> exact he hs.2.symm)
 ·exact hs
theorem mask_back (p : Api_Pin) (hb : badP p = false) (hm : p.Masked = false) :
  stepP p 3 = (false, ⟨p.Core, p.Vec, p.Level, true, p.Up, p.Kept, p.Sent⟩) ∧ stepP ⟨p.Core, p.Vec, p.Level, true, p.Up, p.Kept, p.Sent⟩ 4 = (false, p) := by
 obtain ⟨c, v, lv, m, u, kp, s⟩ := p
 simp only [badP, Bool.or_eq_false_iff, decide_eq_false_iff_not] at hb
 obtain ⟨⟨⟨⟨⟨⟨⟨h1, h2⟩, h3⟩, h4⟩, h5⟩, h6⟩, h7⟩, h8⟩ := hb
 simp only at hm
 subst hm
 cases lv <;> cases u <;> cases kp <;> cases s <;> simp_all [stepP, fireF, chg]
theorem mask_fold (l : List Api_Pin) (s : List Api_Sent) (i : Int) (h : rightB l = true) (hi : 0 ≤ i ∧ i < (l.length : Int)) (hm : (l.getD i.toNat PZ).Masked = false) :
  stepF (stepF (l, s) ⟨3, i⟩) ⟨4, i⟩ = (l, s) := by
 have hil : i.toNat < l.length := by omega
 have hb := right_pin h hil
 obtain ⟨m1, m2⟩ := mask_back _ hb hm
 have s1 := step_ok (l := l) ⟨3, i⟩ h (by simp) hi
 simp only at s1
 rw [m1] at s1
 have hb' : badP (⟨(l.getD i.toNat PZ).Core, (l.getD i.toNat PZ).Vec, (l.getD i.toNat PZ).Level, true, (l.getD i.toNat PZ).Up, (l.getD i.toNat PZ).Kept, (l.getD i.toNat PZ).Sent⟩ : Api_Pin) = false := by
  have := (stepP_ok _ 3 (by decide) hb).1
  rw [m1] at this
  exact this
 have e1 : stepF (l, s) ⟨3, i⟩ = (l.set i.toNat ⟨(l.getD i.toNat PZ).Core, (l.getD i.toNat PZ).Vec, (l.getD i.toNat PZ).Level, true, (l.getD i.toNat PZ).Up, (l.getD i.toNat PZ).Kept, (l.getD i.toNat PZ).Sent⟩, s) := by
  unfold stepF
  rw [s1]
  simp [sentF]
 rw [e1]
 have s2 := step_ok (l := l.set i.toNat ⟨(l.getD i.toNat PZ).Core, (l.getD i.toNat PZ).Vec, (l.getD i.toNat PZ).Level, true, (l.getD i.toNat PZ).Up, (l.getD i.toNat PZ).Kept, (l.getD i.toNat PZ).Sent⟩) ⟨4, i⟩ (right_set h hb' _) (by simp) (by simpa using hi)
 simp only at s2
 rw [focus_get hil, m2] at s2
 unfold stepF
 rw [s2]
 have hself : l.set i.toNat (l.getD i.toNat PZ) = l := by
  rw [getD_lt _ _ hil]
  exact List.set_getElem_self hil
 simp only [List.set_set, hself]
 simp [sentF]
theorem fold_len (a : List Api_PinOp) : ∀ l s, rightB l = true → (a.foldl stepF (l, s)).1.length = l.length := by
 induction a with
 | nil => intro l s h; rfl
 | cons o a ih =>
  intro l s h
  rw [List.foldl_cons]
  rcases step_cases o h with ⟨e, he, hs⟩ | ⟨h1, h2, h3, h4, hs⟩
  ·have hF : stepF (l, s) o = (l, s) := by
    unfold stepF
    rw [hs]
    simp [he]
   rw [hF]; exact ih l s h
  ·have hF : stepF (l, s) o = (l.set o.Pin.toNat (stepP (l.getD o.Pin.toNat PZ) o.Kind).2, s ++ sentF o.Pin (stepP (l.getD o.Pin.toNat PZ) o.Kind)) := by
    unfold stepF
    rw [hs]
    simp
   rw [hF, ih _ _ (right_set h (stepP_ok _ _ ⟨h1, h2⟩ (right_pin h h4)).1 _)]
   simp
theorem LineMask_true (a0 : List Api_Pin) (a1 : List Api_PinOp) (a2 a3 : Int) (h0 : a0.length * 24 ≤ 140737488351232 ∧ ∀ y ∈ a0, Ok_Api_Pin y) (h1 : a1.length * 16 ≤ 140737488351232 ∧ ∀ y ∈ a1, Ok_Api_PinOp y) (h2 : -9223372036854775808 ≤ a2 ∧ a2 ≤ 9223372036854775807) (h3 : -9223372036854775808 ≤ a3 ∧ a3 ≤ 9223372036854775807) : keep_LineMask a0 a1 a2 a3 = some true := by
 unfold keep_LineMask
 have l1 := h1.1
 rw [alive3_eq, Option.bind_some, Bool.not_true, cond_false, Right_eq, Option.bind_some]
 cases h : rightB a0 with
 | false => rfl
 | true =>
 by_cases hc : a2 < 0 ∨ a2 ≥ (a0.length : Int) ∨ a3 < 0 ∨ a3 > (a1.length : Int)
 ·have : (((((!true) || (decide ((a2 : Int) < 0))) || (decide ((a2 : Int) ≥ ((a0.length : Nat) : Int)))) || (decide ((a3 : Int) < 0))) || (decide ((a3 : Int) > ((a1.length : Nat) : Int)))) = true := by
   simp only [Bool.not_true, Bool.false_or, Bool.or_eq_true, decide_eq_true_eq]; omega
  rw [this, cond_true]
 have hcf : (((((!true) || (decide ((a2 : Int) < 0))) || (decide ((a2 : Int) ≥ ((a0.length : Nat) : Int)))) || (decide ((a3 : Int) < 0))) || (decide ((a3 : Int) > ((a1.length : Nat) : Int)))) = false := by
  simp only [Bool.not_true, Bool.false_or, Bool.or_eq_false_iff, decide_eq_false_iff_not]; omega
 rw [hcf, cond_false]
 have hp : 0 ≤ a2 ∧ a2 < (a0.length : Int) := by omega
 have ha : 0 ≤ a3 ∧ a3 ≤ (a1.length : Int) := by omega
 unfold slices_Clone_api_PinOp
 rw [if_pos (by omega), Option.bind_some]
 unfold slices_Insert_api_PinOp
 rw [if_pos (by simp only [List.length_cons, List.length_nil]; omega), Option.bind_some, play_eq a0 a1 (by omega) h, Option.bind_some, play_eq a0 _ (by simp; omega) h, Option.bind_some, if_pos ha.1, if_pos (by omega), List.drop_zero, Nat.sub_zero, play_eq a0 _ (by simp; omega) h, Option.bind_some]
 have e0 : ((0 : Int) != 0) = false := by decide
 simp only [e0, Bool.or_self, cond_false]
 have hsplit : a1.foldl stepF (a0, []) = (a1.drop a3.toNat).foldl stepF ((a1.take a3.toNat).foldl stepF (a0, [])) := by rw [← List.foldl_append, List.take_append_drop]
 have hfl := fold_len (a1.take a3.toNat) a0 [] h
 obtain ⟨hr, -, -⟩ := fold_right (a1.take a3.toNat) a0 [] h
 obtain ⟨hr2, hs2, -⟩ := fold_right a1 a0 [] h
 rw [if_pos (by rw [hfl]; exact hp), Nat.zero_add]
 rw [List.foldl_append, List.foldl_append]
 generalize hx : (a1.take a3.toNat).foldl stepF (a0, []) = x at *
 cases hm : (x.1.getD a2.toNat PZ).Masked with
 | true =>
  simp only [Bool.not_true, cond_false, Option.bind_some, Bool.false_and, Bool.true_or]
 | false =>
  have hmf : List.foldl stepF x [(⟨3, a2⟩ : Api_PinOp), ⟨4, a2⟩] = x := mask_fold x.1 x.2 a2 hr (by rw [hfl]; exact hp) hm
  rw [hmf, ← hsplit]
  have hl := right_len hr2
  simp only [Bool.not_false, cond_true]
  rw [slices_Equal_api_Pin_eq _ _ (by omega), Option.bind_some]
  simp only [decide_true, Bool.and_true, cond_true, Bool.true_and]
  rw [slices_Equal_api_Sent_eq _ _ (by simp at hs2; omega)]
  simp
end Go.Proofs.Ytfnmmlcmjmepjaa

