/- Plain laws of line. -/
import Derived.Test.YtaadkjlooehhnaaQ7M
import Derived.Test.YtaadkjlooehhnaaPLib
import Derived.Test.YtaadkjlooehhnaaQ7K
set_option linter.unusedSimpArgs false
set_option linter.unusedVariables false
namespace Go.Proofs.Ytaadkjlooehhnaa
open Go Go.Ab

theorem alive3_eq : keep_alive3 = some true := by decide +kernel

abbrev PZ : Api_Pin := ⟨0, 0, false, false, false, false, false⟩
def badP (p : Api_Pin) : Bool := ((((((((decide ((p.Core : Int) < 0)) || (decide ((p.Core : Int) ≥ 8))) || (decide ((p.Vec : Int) < 32))) || (decide ((p.Vec : Int) ≥ 256))) || (p.Level && p.Kept)) || ((!p.Level) && p.Sent)) || (p.Kept && (!p.Masked))) || (((p.Level && p.Up) && (!p.Masked)) && (!p.Sent)))
theorem Right_1_eq (p : Api_Pin) : line_Right_1 p = some (badP p) := rfl

theorem idxPin_eq (l : List Api_Pin) (hl : l.length ≤ 140737488355328) : ∀ n k, k ≤ l.length → l.length - k < n → ∃ x : Int, slices_IndexFunc_api_Pin_line_Right_1_l1 l n k = some x ∧ decide (x ≥ 0) = (l.drop k).any badP := by
  intro n
  induction n with
  | zero => intro k h1 h2; omega
  | succ n ih =>
    intro k h1 h2
    unfold slices_IndexFunc_api_Pin_line_Right_1_l1
    rcases Nat.lt_or_ge k l.length with hlt | hge
    · rw [dec_lt hlt, cond_true, getD_lt _ _ hlt, Right_1_eq, Option.bind_some, List.drop_eq_getElem_cons hlt, List.any_cons]
      cases badP l[k] with
      | true => exact ⟨_, rfl, by simp⟩
      | false =>
        obtain ⟨x, hx, h⟩ := ih (k + 1) (by omega) (by omega)
        exact ⟨x, hx, by rw [h, Bool.false_or]⟩
    · rw [dec_ge hge, cond_false, List.drop_of_length_le hge]
      exact ⟨_, rfl, rfl⟩

def rightB (l : List Api_Pin) : Bool := decide (l.length ≤ 24) && !(l.any badP)
theorem Right_eq (l : List Api_Pin) : line_Right l = some (rightB l) := by
  unfold line_Right rightB
  by_cases h : l.length ≤ 24
  · have : decide ((((l.length : Nat) : Int) : Int) ≤ 24) = true := by simp; omega
    have h2 : decide (l.length ≤ 24) = true := by simpa using h
    rw [this, cond_true, h2]
    unfold slices_ContainsFunc_api_Pin_line_Right_1 slices_IndexFunc_api_Pin_line_Right_1
    obtain ⟨x, hx, h⟩ := idxPin_eq l (by omega) FUEL 0 (by omega) (fuel_gt (by omega))
    rw [hx, Option.bind_some, h, Option.bind_some]
    rfl
  · have : decide ((((l.length : Nat) : Int) : Int) ≤ 24) = false := by simp; omega
    have h2 : decide (l.length ≤ 24) = false := by simpa using h
    rw [this, cond_false, h2]
    rfl
theorem right_pin {l : List Api_Pin} (h : rightB l = true) {i : Nat} (hi : i < l.length) : badP (l.getD i PZ) = false := by
  simp only [rightB, Bool.and_eq_true, Bool.not_eq_true', List.any_eq_false] at h
  rw [getD_lt _ _ hi]
  simpa using h.2 _ (List.getElem_mem hi)
theorem right_len {l : List Api_Pin} (h : rightB l = true) : l.length ≤ 24 := by
  simp only [rightB, Bool.and_eq_true, decide_eq_true_eq] at h
  exact h.1
theorem right_set {l : List Api_Pin} (h : rightB l = true) {p : Api_Pin} (hp : badP p = false) (i : Nat) : rightB (l.set i p) = true := by
  simp only [rightB, Bool.and_eq_true, Bool.not_eq_true', List.any_eq_false, decide_eq_true_eq, List.length_set] at h ⊢
  refine ⟨h.1, fun x hx => ?_⟩
  rcases List.mem_or_eq_of_mem_set hx with hx | rfl
  · exact h.2 x hx
  · simp [hp]

def fireF (p : Api_Pin) (edge : Bool) : Bool × Api_Pin :=
  if p.Level then (if p.Up && !p.Masked && !p.Sent then (true, ⟨p.Core, p.Vec, p.Level, p.Masked, p.Up, p.Kept, true⟩) else (false, p))
  else if edge && p.Masked then (false, ⟨p.Core, p.Vec, p.Level, p.Masked, p.Up, true, p.Sent⟩)
  else if edge || (p.Kept && !p.Masked) then (true, ⟨p.Core, p.Vec, p.Level, p.Masked, p.Up, false, p.Sent⟩) else (false, p)
theorem fire_eq (p : Api_Pin) (e : Bool) : line_fire p e = some (fireF p e) := by
  unfold line_fire fireF
  obtain ⟨c, v, lv, m, u, k, s⟩ := p
  cases lv <;> cases m <;> cases u <;> cases k <;> cases s <;> cases e <;> rfl

def chg (p : Api_Pin) (k : Int) : Api_Pin :=
  if k = 1 ∨ k = 2 then ⟨p.Core, p.Vec, p.Level, p.Masked, k == 1, p.Kept, p.Sent⟩
  else if k = 3 ∨ k = 4 then ⟨p.Core, p.Vec, p.Level, k == 3, p.Up, p.Kept, p.Sent⟩
  else ⟨p.Core, p.Vec, p.Level, p.Masked, p.Up, p.Kept, false⟩
def stepP (p : Api_Pin) (k : Int) : Bool × Api_Pin := fireF (chg p k) ((k == 1) && !p.Up)
def sentF (i : Int) (q : Bool × Api_Pin) : List Api_Sent := if q.1 then [⟨i, q.2.Core, q.2.Vec⟩] else []

theorem step_bad {l : List Api_Pin} (o : Api_PinOp) (h : rightB l = false) : line_Step l o = some ([], [], 1) := by
  unfold line_Step
  rw [Right_eq, Option.bind_some, h]
  rfl
theorem step_cases {l : List Api_Pin} (o : Api_PinOp) (h : rightB l = true) :
    (∃ e, e ≠ 0 ∧ line_Step l o = some ([], [], e)) ∨
    (1 ≤ o.Kind ∧ o.Kind ≤ 5 ∧ 0 ≤ o.Pin ∧ o.Pin.toNat < l.length ∧ line_Step l o = some (l.set o.Pin.toNat (stepP (l.getD o.Pin.toNat PZ) o.Kind).2, sentF o.Pin (stepP (l.getD o.Pin.toNat PZ) o.Kind), 0)) := by
  have hlen := right_len h
  unfold line_Step
  rw [Right_eq, Option.bind_some, h, Bool.not_true, cond_false]
  by_cases hk : o.Kind < 1 ∨ o.Kind > 5
  · have : (decide (o.Kind < 1) || decide (o.Kind > 5)) = true := by simpa using hk
    rw [this]
    exact .inl ⟨5, by decide, rfl⟩
  have e1 : (decide (o.Kind < 1) || decide (o.Kind > 5)) = false := by simp at hk ⊢; omega
  rw [e1, cond_false]
  by_cases hp : o.Pin < 0 ∨ o.Pin ≥ (l.length : Int)
  · have : (decide (o.Pin < 0) || decide (o.Pin ≥ ((l.length : Nat) : Int))) = true := by simpa using hp
    rw [this]
    exact .inl ⟨3, by decide, rfl⟩
  have e2 : (decide (o.Pin < 0) || decide (o.Pin ≥ ((l.length : Nat) : Int))) = false := by simp at hp ⊢; omega
  rw [e2, cond_false]
  have hi : o.Pin.toNat < l.length := by omega
  refine .inr ⟨by omega, by omega, by omega, hi, ?_⟩
  unfold slices_Clone_api_Pin
  rw [if_pos (by omega), Option.bind_some, if_pos (by omega)]
  generalize o.Pin.toNat = i at *
  have hset : ∀ (x y : Api_Pin), (l.set i x).set i y = l.set i y := fun x y => List.set_set _
  have hget : ∀ (x : Api_Pin), (l.set i x).getD i PZ = x := fun x => focus_get hi
  simp only [Nat.zero_add, hget, hset, fire_eq, Option.bind_some]
  unfold stepP sentF chg
  have hkk : o.Kind = 1 ∨ o.Kind = 2 ∨ o.Kind = 3 ∨ o.Kind = 4 ∨ o.Kind = 5 := by omega
  rcases hkk with hk | hk | hk | hk | hk <;> simp only [hk] <;> (split <;> simp_all) <;> (generalize fireF _ _ = q; obtain ⟨b, p⟩ := q; cases b <;> rfl)

theorem stepP_ok (p : Api_Pin) (k : Int) (hk : 1 ≤ k ∧ k ≤ 5) (h : badP p = false) : badP (stepP p k).2 = false ∧ (stepP p k).2.Level = p.Level := by
  obtain ⟨c, v, lv, m, u, kp, s⟩ := p
  have hkk : k = 1 ∨ k = 2 ∨ k = 3 ∨ k = 4 ∨ k = 5 := by omega
  simp only [badP, Bool.or_eq_false_iff, decide_eq_false_iff_not] at h
  obtain ⟨⟨⟨⟨⟨⟨⟨h1, h2⟩, h3⟩, h4⟩, h5⟩, h6⟩, h7⟩, h8⟩ := h
  rcases hkk with rfl | rfl | rfl | rfl | rfl <;> cases lv <;> cases m <;> cases u <;> cases kp <;> cases s <;> simp_all [stepP, fireF, chg, badP]

def K (b : Bool) : Int := if b then 1 else 0
theorem stepP_edge (p : Api_Pin) (k : Int) (hk : 1 ≤ k ∧ k ≤ 5) (h : badP p = false) (hl : p.Level = false) :
    (if (k == 1) && !p.Up then (1 : Int) else K p.Kept) - (if (stepP p k).1 then 1 else 0) = K (stepP p k).2.Kept := by
  obtain ⟨c, v, lv, m, u, kp, s⟩ := p
  have hkk : k = 1 ∨ k = 2 ∨ k = 3 ∨ k = 4 ∨ k = 5 := by omega
  simp only [badP, Bool.or_eq_false_iff, decide_eq_false_iff_not] at h
  obtain ⟨⟨⟨⟨⟨⟨⟨h1, h2⟩, h3⟩, h4⟩, h5⟩, h6⟩, h7⟩, h8⟩ := h
  rcases hkk with rfl | rfl | rfl | rfl | rfl <;> cases lv <;> cases m <;> cases u <;> cases kp <;> cases s <;> simp_all [stepP, fireF, chg, K]
theorem stepP_level (p : Api_Pin) (k : Int) (hk : 1 ≤ k ∧ k ≤ 5) (h : badP p = false) (hl : p.Level = true) :
    let b := if k = 5 then false else p.Sent
    ((stepP p k).1 && b) = false ∧ (b || (stepP p k).1) = (stepP p k).2.Sent ∧ ((stepP p k).2.Up && !(stepP p k).2.Masked && !(stepP p k).2.Sent) = false := by
  obtain ⟨c, v, lv, m, u, kp, s⟩ := p
  have hkk : k = 1 ∨ k = 2 ∨ k = 3 ∨ k = 4 ∨ k = 5 := by omega
  simp only [badP, Bool.or_eq_false_iff, decide_eq_false_iff_not] at h
  obtain ⟨⟨⟨⟨⟨⟨⟨h1, h2⟩, h3⟩, h4⟩, h5⟩, h6⟩, h7⟩, h8⟩ := h
  rcases hkk with rfl | rfl | rfl | rfl | rfl <;> cases lv <;> cases m <;> cases u <;> cases kp <;> cases s <;> simp_all [stepP, fireF, chg, K]
theorem kept_masked {p : Api_Pin} (h : badP p = false) (hk : p.Kept = true) : p.Masked = true := by
  obtain ⟨c, v, lv, m, u, kp, s⟩ := p
  simp only at hk
  subst hk
  simp only [badP, Bool.or_eq_false_iff] at h
  simpa using h.1.2
theorem sentF_len (i : Int) (q : Bool × Api_Pin) : (sentF i q).length = if q.1 then 1 else 0 := by
  unfold sentF; split <;> rfl
theorem get_set_ne {l : List Api_Pin} {i j : Nat} {p : Api_Pin} (h : i ≠ j) : (l.set i p).getD j PZ = l.getD j PZ := by
  simp [List.getD_eq_getElem?_getD, h]

theorem edges_loop (a0 : List Api_Pin) (a1 : List Api_PinOp) (a2 r20 : Int) (h2 : 0 ≤ a2 ∧ a2 < (a0.length : Int)) (hb : a1.length ≤ 140737488355328) : ∀ n k (l : List Api_Pin), k ≤ a1.length → a1.length - k < n →
    rightB l = true → l.length = a0.length → (l.getD a2.toNat PZ).Level = false → keep_LineEdges_l1 a0 a1 a2 r20 n l (K (l.getD a2.toNat PZ).Kept) k = some true := by
  intro n
  induction n with
  | zero => intro k l h1 h2; omega
  | succ n ih =>
    intro k l h1 hn hr hlen hlv
    unfold keep_LineEdges_l1
    have hidx : 0 ≤ a2 ∧ a2 < ((l.length : Nat) : Int) := by omega
    have hi : a2.toNat < l.length := by omega
    rcases Nat.lt_or_ge k a1.length with hlt | hge
    · rw [dec_lt hlt, cond_true]
      generalize a1.getD k (⟨0, 0⟩ : Api_PinOp) = o
      rcases step_cases o hr with ⟨e, he, hs⟩ | ⟨k1, k5, p0, pl, hs⟩
      · have he' : ((e : Int) != 0) = true := by simpa using he
        rw [hs, Option.bind_some, he', cond_true]
        exact ih (k + 1) l (by omega) (by omega) hr hlen hlv
      · rw [hs, Option.bind_some]
        have hbp := right_pin hr pl
        obtain ⟨ok1, ok2⟩ := stepP_ok _ o.Kind ⟨k1, k5⟩ hbp
        have hr' := right_set hr ok1 o.Pin.toNat
        simp only [show ((0 : Int) != 0) = false by decide, cond_false, Nat.zero_add, sentF_len, List.length_set]
        rw [if_pos (fun _ => hidx)]
        by_cases hp : o.Pin = a2
        · have hpb : ((o.Pin : Int) == a2) = true := by simpa using hp
          rw [hp] at hs pl p0 hbp ok1 ok2 hr' ⊢
          have hget : ∀ x : Api_Pin, (l.set a2.toNat x).getD a2.toNat PZ = x := fun x => focus_get hi
          have hed := stepP_edge _ o.Kind ⟨k1, k5⟩ hbp hlv
          have hkm := kept_masked ok1
          have ih' := ih (k + 1) (l.set a2.toNat (stepP (l.getD a2.toNat PZ) o.Kind).2) (by omega) (by omega) hr' (by simpa using hlen) (by rw [hget, ok2, hlv])
          rw [hget] at ih'
          simp only [beq_self_eq_true, Bool.true_and, hget, cond_true]
          have hK : ∀ b, K b = 0 ∨ K b = 1 := by intro b; cases b <;> simp [K]
          generalize hq : stepP (l.getD a2.toNat PZ) o.Kind = q at *
          have hrest : ∀ x : Int, x = K q.2.Kept → (if ((!(decide (x < 0))) && (decide (x > 0))) = true → 0 ≤ a2 ∧ a2 < ((l.length : Nat) : Int) then (bif decide (x < 0) || (decide (x > 0) && !q.2.Masked) then some false else keep_LineEdges_l1 a0 a1 a2 r20 n (l.set a2.toNat q.2) x (k + 1)) else none) = some true := by
            intro x hx
            rw [if_pos (fun _ => hidx)]
            have : (decide (x < 0) || (decide (x > 0) && !q.2.Masked)) = false := by
              cases hkq : q.2.Kept with
              | true => rw [hkm hkq]; rw [hkq] at hx; subst hx; simp [K]
              | false => rw [hkq] at hx; subst hx; simp [K]
            rw [this, cond_false, hx]
            exact ih'
          have hmin : (if (1 : Int) < IntKind.i64.wrap (K (l.getD a2.toNat PZ).Kept + 1) then 1 else IntKind.i64.wrap (K (l.getD a2.toNat PZ).Kept + 1)) = 1 := by
            rcases hK (l.getD a2.toNat PZ).Kept with h | h <;> rw [h] <;> decide
          have hsl : (((if q.1 = true then 1 else 0 : Nat)) : Int) = if q.1 = true then (1 : Int) else 0 := by split <;> rfl
          rw [hmin, hsl]
          cases hc : ((o.Kind == 1) && !(l.getD a2.toNat PZ).Up) with
          | true =>
            rw [hc, if_pos rfl] at hed
            rw [cond_true, hed, wrap_id (by rcases hK q.2.Kept with h | h <;> rw [h] <;> decide) (by rcases hK q.2.Kept with h | h <;> rw [h] <;> decide)]
            exact hrest _ rfl
          | false =>
            rw [hc, if_neg (by simp)] at hed
            rw [cond_false, hed, wrap_id (by rcases hK q.2.Kept with h | h <;> rw [h] <;> decide) (by rcases hK q.2.Kept with h | h <;> rw [h] <;> decide)]
            exact hrest _ rfl
        · have hpb : ((o.Pin : Int) == a2) = false := by simpa using hp
          have hget : ∀ x : Api_Pin, (l.set o.Pin.toNat x).getD a2.toNat PZ = l.getD a2.toNat PZ := fun x => get_set_ne (by omega)
          have ih' := ih (k + 1) (l.set o.Pin.toNat (stepP (l.getD o.Pin.toNat PZ) o.Kind).2) (by omega) (by omega) hr' (by simpa using hlen) (by rw [hget, hlv])
          rw [hget] at ih'
          simp only [hpb, Bool.false_and, cond_false, hget]
          rw [if_pos (fun _ => hidx)]
          have hkm := kept_masked (right_pin hr hi)
          generalize l.getD a2.toNat PZ = p at *
          have : (decide (K p.Kept < 0) || (decide (K p.Kept > 0) && !p.Masked)) = false := by
            cases hkq : p.Kept with
            | true => rw [hkm hkq]; simp [K]
            | false => simp [K]
          rw [this, cond_false]
          exact ih'
    · rw [dec_ge hge, cond_false, if_pos hidx]
      change (bif (l.getD a2.toNat PZ).Kept then some (1 : Int) else some 0).bind _ = _
      cases (l.getD a2.toNat PZ).Kept <;> rfl

theorem LineEdges_true (a0 : List Api_Pin) (a1 : List Api_PinOp) (a2 : Int) (h0 : a0.length * 24 ≤ 140737488351232 ∧ ∀ y ∈ a0, Ok_Api_Pin y) (h1 : a1.length * 16 ≤ 140737488351232 ∧ ∀ y ∈ a1, Ok_Api_PinOp y) (h2 : -9223372036854775808 ≤ a2 ∧ a2 ≤ 9223372036854775807) : keep_LineEdges a0 a1 a2 = some true := by
  unfold keep_LineEdges
  have l1 := h1.1
  rw [alive3_eq, Option.bind_some, Bool.not_true, cond_false, Right_eq, Option.bind_some]
  by_cases hg : (rightB a0 = true ∧ 0 ≤ a2 ∧ a2 < (a0.length : Int))
  · obtain ⟨hr, hx⟩ := hg
    have e : ((!rightB a0) || decide (a2 < 0) || decide (a2 ≥ ((a0.length : Nat) : Int))) = false := by
      rw [hr]; simp; omega
    rw [e, if_pos (fun _ => hx), Bool.false_or]
    cases hlv : (a0.getD a2.toNat PZ).Level with
    | true => rfl
    | false =>
      rw [cond_false, if_pos hx]
      have : keep_LineEdges_1 (a0.getD a2.toNat PZ).Kept = some (K (a0.getD a2.toNat PZ).Kept) := by cases (a0.getD a2.toNat PZ).Kept <;> rfl
      rw [this, Option.bind_some]
      exact edges_loop a0 a1 a2 _ hx (by omega) FUEL 0 a0 (by omega) (fuel_gt (by omega)) hr rfl hlv
  · have e : ((!rightB a0) || decide (a2 < 0) || decide (a2 ≥ ((a0.length : Nat) : Int))) = true := by
      cases hr : rightB a0 with
      | false => rfl
      | true => simp [hr] at hg ⊢; omega
    rw [e, if_pos (fun h => by cases h), Bool.true_or, cond_true]

theorem level_loop (a0 : List Api_Pin) (a1 : List Api_PinOp) (a2 : Int) (h2 : 0 ≤ a2 ∧ a2 < (a0.length : Int)) (hb : a1.length ≤ 140737488355328) : ∀ n k (l : List Api_Pin), k ≤ a1.length → a1.length - k < n →
    rightB l = true → l.length = a0.length → (l.getD a2.toNat PZ).Level = true → keep_LineLevel_l1 a0 a1 a2 n l (l.getD a2.toNat PZ).Sent k = some true := by
  intro n
  induction n with
  | zero => intro k l h1 h2; omega
  | succ n ih =>
    intro k l h1 hn hr hlen hlv
    unfold keep_LineLevel_l1
    have hidx : 0 ≤ a2 ∧ a2 < ((l.length : Nat) : Int) := by omega
    have hi : a2.toNat < l.length := by omega
    rcases Nat.lt_or_ge k a1.length with hlt | hge
    · rw [dec_lt hlt, cond_true]
      generalize a1.getD k (⟨0, 0⟩ : Api_PinOp) = o
      rcases step_cases o hr with ⟨e, he, hs⟩ | ⟨k1, k5, p0, pl, hs⟩
      · have he' : ((e : Int) != 0) = true := by simpa using he
        rw [hs, Option.bind_some, he', cond_true]
        exact ih (k + 1) l (by omega) (by omega) hr hlen hlv
      · rw [hs, Option.bind_some]
        have hbp := right_pin hr pl
        obtain ⟨ok1, ok2⟩ := stepP_ok _ o.Kind ⟨k1, k5⟩ hbp
        have hr' := right_set hr ok1 o.Pin.toNat
        simp only [show ((0 : Int) != 0) = false by decide, cond_false, Nat.zero_add, sentF_len, List.length_set]
        by_cases hp : o.Pin = a2
        · have hpb : ((o.Pin : Int) != a2) = false := by simpa using hp
          rw [hp] at hs pl p0 hbp ok1 ok2 hr' ⊢
          have hget : ∀ x : Api_Pin, (l.set a2.toNat x).getD a2.toNat PZ = x := fun x => focus_get hi
          obtain ⟨hl1, hl2, hl3⟩ := stepP_level _ o.Kind ⟨k1, k5⟩ hbp hlv
          have ih' := ih (k + 1) (l.set a2.toNat (stepP (l.getD a2.toNat PZ) o.Kind).2) (by omega) (by omega) hr' (by simpa using hlen) (by rw [hget, ok2, hlv])
          rw [hget] at ih'
          have hsl : ∀ q : Bool, decide ((((if q = true then 1 else 0 : Nat)) : Int) > 0) = q := by intro q; cases q <;> rfl
          simp only [bne_self_eq_false, cond_false, hget, hsl]
          generalize stepP (l.getD a2.toNat PZ) o.Kind = q at *
          rw [if_pos hidx, if_pos (fun _ => hidx), if_pos hidx, if_pos (fun _ => hidx)]
          by_cases hk5 : o.Kind = 5
          · rw [if_pos hk5] at hl1 hl2
            have : ((o.Kind : Int) == 5) = true := by simpa using hk5
            rw [this, cond_true, Bool.and_false, cond_false, hl2, hl3, cond_false]
            exact ih'
          · rw [if_neg hk5] at hl1 hl2
            have : ((o.Kind : Int) == 5) = false := by simpa using hk5
            rw [this, cond_false, hl1, cond_false, hl2, hl3, cond_false]
            exact ih'
        · have hpb : ((o.Pin : Int) != a2) = true := by simpa using hp
          have hget : ∀ x : Api_Pin, (l.set o.Pin.toNat x).getD a2.toNat PZ = l.getD a2.toNat PZ := fun x => get_set_ne (by omega)
          have ih' := ih (k + 1) (l.set o.Pin.toNat (stepP (l.getD o.Pin.toNat PZ) o.Kind).2) (by omega) (by omega) hr' (by simpa using hlen) (by rw [hget, hlv])
          rw [hget] at ih'
          rw [hpb, cond_true]
          exact ih'
    · rw [dec_ge hge, cond_false, if_pos hidx]
      simp

theorem LineLevel_true (a0 : List Api_Pin) (a1 : List Api_PinOp) (a2 : Int) (h0 : a0.length * 24 ≤ 140737488351232 ∧ ∀ y ∈ a0, Ok_Api_Pin y) (h1 : a1.length * 16 ≤ 140737488351232 ∧ ∀ y ∈ a1, Ok_Api_PinOp y) (h2 : -9223372036854775808 ≤ a2 ∧ a2 ≤ 9223372036854775807) : keep_LineLevel a0 a1 a2 = some true := by
  unfold keep_LineLevel
  have l1 := h1.1
  rw [alive3_eq, Option.bind_some, Bool.not_true, cond_false, Right_eq, Option.bind_some]
  by_cases hg : (rightB a0 = true ∧ 0 ≤ a2 ∧ a2 < (a0.length : Int))
  · obtain ⟨hr, hx⟩ := hg
    have e : ((!rightB a0) || decide (a2 < 0) || decide (a2 ≥ ((a0.length : Nat) : Int))) = false := by
      rw [hr]; simp; omega
    rw [e, if_pos (fun _ => hx), Bool.false_or]
    cases hlv : (a0.getD a2.toNat PZ).Level with
    | false => rfl
    | true =>
      rw [Bool.not_true, cond_false, if_pos hx]
      exact level_loop a0 a1 a2 hx (by omega) FUEL 0 a0 (by omega) (fuel_gt (by omega)) hr rfl hlv
  · have e : ((!rightB a0) || decide (a2 < 0) || decide (a2 ≥ ((a0.length : Nat) : Int))) = true := by
      cases hr : rightB a0 with
      | false => rfl
      | true => simp [hr] at hg ⊢; omega
    rw [e, if_pos (fun h => by cases h), Bool.true_or, cond_true]
end Go.Proofs.Ytaadkjlooehhnaa
