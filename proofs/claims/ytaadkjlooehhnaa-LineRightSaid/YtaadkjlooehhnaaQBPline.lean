/- Plain laws of line. -/
import Derived.Test.YtaadkjlooehhnaaQBM
import Derived.Test.YtaadkjlooehhnaaPLib
import Derived.Test.YtaadkjlooehhnaaQBK
set_option linter.unusedSimpArgs false
set_option linter.unusedVariables false
namespace Go.Proofs.Ytaadkjlooehhnaa
open Go Go.Ab

theorem alive3_eq : keep_alive3 = some true := by decide +kernel

abbrev PZ : Api_Pin := ⟨0, 0, false, false, false, false, false⟩
def badP (p : Api_Pin) : Bool := ((((((((decide ((p.Core : Int) < 0)) || (decide ((p.Core : Int) ≥ 8))) || (decide ((p.Vec : Int) < 32))) || (decide ((p.Vec : Int) ≥ 256))) || (p.Level && p.Kept)) || ((!p.Level) && p.Sent)) || (p.Kept && (!p.Masked))) || (((p.Level && p.Up) && (!p.Masked)) && (!p.Sent)))
theorem Right_1_eq (p : Api_Pin) : line_Right_1 p = some (badP p) := rfl

theorem idxPin_eq (l : List Api_Pin) (hl : l.length ≤ 140737488355328) : ∀ n k, k ≤ l.length → l.length - k < n → ∃ x : Int, slices_IndexFunc_api_Pin_line_Right_1_l1 l n k = some x ∧ decide (x ≥ 0) = (l.drop k).any badP := by
  intro n
  induction n with
  | zero => intro k h1 h2; omega
  | succ n ih =>
    intro k h1 h2
    unfold slices_IndexFunc_api_Pin_line_Right_1_l1
    rcases Nat.lt_or_ge k l.length with hlt | hge
    · rw [dec_lt hlt, cond_true, getD_lt _ _ hlt, Right_1_eq, Option.bind_some, List.drop_eq_getElem_cons hlt, List.any_cons]
      cases badP l[k] with
      | true => exact ⟨_, rfl, by simp⟩
      | false =>
        obtain ⟨x, hx, h⟩ := ih (k + 1) (by omega) (by omega)
        exact ⟨x, hx, by rw [h, Bool.false_or]⟩
    · rw [dec_ge hge, cond_false, List.drop_of_length_le hge]
      exact ⟨_, rfl, rfl⟩

def rightB (l : List Api_Pin) : Bool := decide (l.length ≤ 24) && !(l.any badP)
theorem Right_eq (l : List Api_Pin) : line_Right l = some (rightB l) := by
  unfold line_Right rightB
  by_cases h : l.length ≤ 24
  · have : decide ((((l.length : Nat) : Int) : Int) ≤ 24) = true := by simp; omega
    have h2 : decide (l.length ≤ 24) = true := by simpa using h
    rw [this, cond_true, h2]
    unfold slices_ContainsFunc_api_Pin_line_Right_1 slices_IndexFunc_api_Pin_line_Right_1
    obtain ⟨x, hx, h⟩ := idxPin_eq l (by omega) FUEL 0 (by omega) (fuel_gt (by omega))
    rw [hx, Option.bind_some, h, Option.bind_some]
    rfl
  · have : decide ((((l.length : Nat) : Int) : Int) ≤ 24) = false := by simp; omega
    have h2 : decide (l.length ≤ 24) = false := by simpa using h
    rw [this, cond_false, h2]
    rfl
theorem right_pin {l : List Api_Pin} (h : rightB l = true) {i : Nat} (hi : i < l.length) : badP (l.getD i PZ) = false := by
  simp only [rightB, Bool.and_eq_true, Bool.not_eq_true', List.any_eq_false] at h
  rw [getD_lt _ _ hi]
  simpa using h.2 _ (List.getElem_mem hi)
theorem right_len {l : List Api_Pin} (h : rightB l = true) : l.length ≤ 24 := by
  simp only [rightB, Bool.and_eq_true, decide_eq_true_eq] at h
  exact h.1
theorem right_set {l : List Api_Pin} (h : rightB l = true) {p : Api_Pin} (hp : badP p = false) (i : Nat) : rightB (l.set i p) = true := by
  simp only [rightB, Bool.and_eq_true, Bool.not_eq_true', List.any_eq_false, decide_eq_true_eq, List.length_set] at h ⊢
  refine ⟨h.1, fun x hx => ?_⟩
  rcases List.mem_or_eq_of_mem_set hx with hx | rfl
  · exact h.2 x hx
  · simp [hp]

def fireF (p : Api_Pin) (edge : Bool) : Bool × Api_Pin :=
  if p.Level then (if p.Up && !p.Masked && !p.Sent then (true, ⟨p.Core, p.Vec, p.Level, p.Masked, p.Up, p.Kept, true⟩) else (false, p))
  else if edge && p.Masked then (false, ⟨p.Core, p.Vec, p.Level, p.Masked, p.Up, true, p.Sent⟩)
  else if edge || (p.Kept && !p.Masked) then (true, ⟨p.Core, p.Vec, p.Level, p.Masked, p.Up, false, p.Sent⟩) else (false, p)
theorem fire_eq (p : Api_Pin) (e : Bool) : line_fire p e = some (fireF p e) := by
  unfold line_fire fireF
  obtain ⟨c, v, lv, m, u, k, s⟩ := p
  cases lv <;> cases m <;> cases u <;> cases k <;> cases s <;> cases e <;> rfl

def chg (p : Api_Pin) (k : Int) : Api_Pin :=
  if k = 1 ∨ k = 2 then ⟨p.Core, p.Vec, p.Level, p.Masked, k == 1, p.Kept, p.Sent⟩
  else if k = 3 ∨ k = 4 then ⟨p.Core, p.Vec, p.Level, k == 3, p.Up, p.Kept, p.Sent⟩
  else ⟨p.Core, p.Vec, p.Level, p.Masked, p.Up, p.Kept, false⟩
def stepP (p : Api_Pin) (k : Int) : Bool × Api_Pin := fireF (chg p k) ((k == 1) && !p.Up)
def sentF (i : Int) (q : Bool × Api_Pin) : List Api_Sent := if q.1 then [⟨i, q.2.Core, q.2.Vec⟩] else []

theorem step_bad {l : List Api_Pin} (o : Api_PinOp) (h : rightB l = false) : line_Step l o = some ([], [], 1) := by
  unfold line_Step
  rw [Right_eq, Option.bind_some, h]
  rfl
theorem step_cases {l : List Api_Pin} (o : Api_PinOp) (h : rightB l = true) :
    (∃ e, e ≠ 0 ∧ line_Step l o = some ([], [], e)) ∨
    (1 ≤ o.Kind ∧ o.Kind ≤ 5 ∧ 0 ≤ o.Pin ∧ o.Pin.toNat < l.length ∧ line_Step l o = some (l.set o.Pin.toNat (stepP (l.getD o.Pin.toNat PZ) o.Kind).2, sentF o.Pin (stepP (l.getD o.Pin.toNat PZ) o.Kind), 0)) := by
  have hlen := right_len h
  unfold line_Step
  rw [Right_eq, Option.bind_some, h, Bool.not_true, cond_false]
  by_cases hk : o.Kind < 1 ∨ o.Kind > 5
  · have : (decide (o.Kind < 1) || decide (o.Kind > 5)) = true := by simpa using hk
    rw [this]
    exact .inl ⟨5, by decide, rfl⟩
  have e1 : (decide (o.Kind < 1) || decide (o.Kind > 5)) = false := by simp at hk ⊢; omega
  rw [e1, cond_false]
  by_cases hp : o.Pin < 0 ∨ o.Pin ≥ (l.length : Int)
  · have : (decide (o.Pin < 0) || decide (o.Pin ≥ ((l.length : Nat) : Int))) = true := by simpa using hp
    rw [this]
    exact .inl ⟨3, by decide, rfl⟩
  have e2 : (decide (o.Pin < 0) || decide (o.Pin ≥ ((l.length : Nat) : Int))) = false := by simp at hp ⊢; omega
  rw [e2, cond_false]
  have hi : o.Pin.toNat < l.length := by omega
  refine .inr ⟨by omega, by omega, by omega, hi, ?_⟩
  unfold slices_Clone_api_Pin
  rw [if_pos (by omega), Option.bind_some, if_pos (by omega)]
  generalize o.Pin.toNat = i at *
  have hset : ∀ (x y : Api_Pin), (l.set i x).set i y = l.set i y := fun x y => List.set_set _
  have hget : ∀ (x : Api_Pin), (l.set i x).getD i PZ = x := fun x => focus_get hi
  simp only [Nat.zero_add, hget, hset, fire_eq, Option.bind_some]
  unfold stepP sentF chg
  have hkk : o.Kind = 1 ∨ o.Kind = 2 ∨ o.Kind = 3 ∨ o.Kind = 4 ∨ o.Kind = 5 := by omega
  rcases hkk with hk | hk | hk | hk | hk <;> simp only [hk] <;> (split <;> simp_all) <;> (generalize fireF _ _ = q; obtain ⟨b, p⟩ := q; cases b <;> rfl)

theorem stepP_ok (p : Api_Pin) (k : Int) (hk : 1 ≤ k ∧ k ≤ 5) (h : badP p = false) : badP (stepP p k).2 = false ∧ (stepP p k).2.Level = p.Level := by
  obtain ⟨c, v, lv, m, u, kp, s⟩ := p
  have hkk : k = 1 ∨ k = 2 ∨ k = 3 ∨ k = 4 ∨ k = 5 := by omega
  simp only [badP, Bool.or_eq_false_iff, decide_eq_false_iff_not] at h
  obtain ⟨⟨⟨⟨⟨⟨⟨h1, h2⟩, h3⟩, h4⟩, h5⟩, h6⟩, h7⟩, h8⟩ := h
  rcases hkk with rfl | rfl | rfl | rfl | rfl <;> cases lv <;> cases m <;> cases u <;> cases kp <;> cases s <;> simp_all [stepP, fireF, chg, badP]

theorem sentF_len (i : Int) (q : Bool × Api_Pin) : (sentF i q).length = if q.1 then 1 else 0 := by
  unfold sentF; split <;> rfl
theorem get_set_ne {l : List Api_Pin} {i j : Nat} {p : Api_Pin} (h : i ≠ j) : (l.set i p).getD j PZ = l.getD j PZ := by
  simp [List.getD_eq_getElem?_getD, h]


theorem right_l1_eq (a0 : List Api_Pin) (o : Api_PinOp) (l : List Api_Pin) (s : List Api_Sent) (hl : rightB l = true) (hs : s.length ≤ 1) (p : Api_Pin) (ho : 0 ≤ o.Pin) (he : l = a0.set o.Pin.toNat p) : ∀ n k, k ≤ a0.length → a0.length - k < n → keep_LineRight_l1 a0 o (l, s, 0) n k = some true := by
  have hlen : l.length = a0.length := by rw [he]; simp
  intro n
  induction n with
  | zero => intro k h1 h2; omega
  | succ n ih =>
    intro k h1 h2
    unfold keep_LineRight_l1
    rcases Nat.lt_or_ge k a0.length with hlt | hge
    · rw [dec_lt hlt, cond_true]
      simp only [hlen]
      rw [if_pos (fun _ => idx_ok hlt), if_pos (fun _ => idx_ok hlt), Nat.zero_add]
      by_cases hk : ((k : Nat) : Int) = o.Pin
      · have : ((((k : Nat) : Int) : Int) != o.Pin) = false := by simpa using hk
        rw [this, Bool.false_and, cond_false]
        exact ih (k + 1) (by omega) (by omega)
      · have hget : l.getD k PZ = a0.getD k PZ := by rw [he]; exact get_set_ne (by omega)
        rw [hget]
        simp only [beq_self_eq_true, Bool.and_self, Bool.not_true, Bool.and_false, cond_false]
        exact ih (k + 1) (by omega) (by omega)
    · rw [dec_ge hge, cond_false, Right_eq, Option.bind_some, hl]
      simp [hlen]
      omega
theorem LineRight_true (a0 : List Api_Pin) (a1 : Api_PinOp) (h0 : a0.length * 24 ≤ 140737488351232 ∧ ∀ y ∈ a0, Ok_Api_Pin y) (h1 : Ok_Api_PinOp a1) : keep_LineRight a0 a1 = some true := by
  unfold keep_LineRight
  rw [alive3_eq, Option.bind_some, Bool.not_true, cond_false]
  have bad : ∀ e : Int, e ≠ 0 → line_Step a0 a1 = some ([], [], e) → ((line_Step a0 a1).bind fun r4 => bif ((r4.2.2 : Int) != 0) then some (((IntKind.i64.wrap (((r4.1.length : Nat) : Int) + ((r4.2.1.length : Nat) : Int))) : Int) == 0) else keep_LineRight_l1 a0 a1 r4 FUEL 0) = some true := by
    intro e he h
    have he' : ((e : Int) != 0) = true := by simpa using he
    rw [h, Option.bind_some]
    simp only [he', cond_true]
    rfl
  cases hr : rightB a0 with
  | false => exact bad 1 (by decide) (step_bad a1 hr)
  | true =>
    rcases step_cases a1 hr with ⟨e, he, hs⟩ | ⟨k1, k5, p0, pl, hs⟩
    · exact bad e he hs
    · rw [hs, Option.bind_some]
      have hbp := right_pin hr pl
      obtain ⟨ok1, ok2⟩ := stepP_ok _ a1.Kind ⟨k1, k5⟩ hbp
      have hlen := right_len hr
      simp only [show ((0 : Int) != 0) = false by decide, cond_false]
      exact right_l1_eq a0 a1 _ _ (right_set hr ok1 _) (by rw [sentF_len]; split <;> omega) _ p0 rfl FUEL 0 (by omega) (fuel_gt (by omega))
end Go.Proofs.Ytaadkjlooehhnaa
