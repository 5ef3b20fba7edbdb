/- Plain laws of grace. -/
import Derived.Test.YthdkndfckfglpaaQ5M
import Derived.Test.YthdkndfckfglpaaPLib
import Derived.Test.YthdkndfckfglpaaQ5K
set_option linter.unusedSimpArgs false
set_option linter.unusedVariables false
namespace Go.Proofs.Ythdkndfckfglpaa
open Go Go.Ab

abbrev GS := Grace_state
theorem alive24_eq : keep_alive24 = some true := by decide +kernel

def emp (r : Grace_retired) : Bool := (r.cores_ 0 == false) && ((r.cores_ 1 == false) && ((r.cores_ 2 == false) && ((r.cores_ 3 == false) && ((r.cores_ 4 == false) && ((r.cores_ 5 == false) && ((r.cores_ 6 == false) && ((r.cores_ 7 == false) && true)))))))
theorem lt8 {c : Nat} (h : c < 8) : c = 0 ∨ c = 1 ∨ c = 2 ∨ c = 3 ∨ c = 4 ∨ c = 5 ∨ c = 6 ∨ c = 7 := by omega
theorem emp_iff (r : Grace_retired) : emp r = true ↔ ∀ c, c < 8 → r.cores_ c = false := by
  constructor
  · intro h c hc
    simp only [emp, Bool.and_eq_true, beq_iff_eq] at h
    rcases lt8 hc with rfl | rfl | rfl | rfl | rfl | rfl | rfl | rfl <;> simp_all
  · intro h
    simp [emp, h]

def freeF (s : GS) : GS := ⟨s.in_, s.waits_.filter (fun r => !emp r), s.freed_ ++ (s.waits_.filter emp).map (·.thing_)⟩

theorem free_l1_eq (a0 : GS) (hb : (a0.waits_.length + a0.freed_.length) * 16 ≤ 140737488355328) : ∀ n l1 k l3, k ≤ a0.waits_.length → a0.waits_.length - k < n → l1.length + l3.length ≤ k + a0.freed_.length →
    grace_state_free_l1 a0 n l1 k l3 = some ⟨a0.in_, l1 ++ (a0.waits_.drop k).filter (fun r => !emp r), l3 ++ ((a0.waits_.drop k).filter emp).map (·.thing_)⟩ := by
  intro n
  induction n with
  | zero => intro l1 k l3 h1 h2; omega
  | succ n ih =>
    intro l1 k l3 h1 h2 h3
    unfold grace_state_free_l1
    rcases Nat.lt_or_ge k a0.waits_.length with hlt | hge
    · rw [dec_lt hlt, cond_true, List.drop_eq_getElem_cons hlt, Nat.zero_add, getD_lt _ _ hlt]
      generalize a0.waits_[k] = r
      have g1 : (l3.length + [r.thing_].length) * 8 ≤ 140737488355328 ∧ l3.length + [r.thing_].length ≤ 140737488355328 := by simp only [List.length_cons, List.length_nil]; omega
      have g2 : (l1.length + [(⟨r.thing_, r.cores_⟩ : Grace_retired)].length) * 16 ≤ 140737488355328 ∧ l1.length + [(⟨r.thing_, r.cores_⟩ : Grace_retired)].length ≤ 140737488355328 := by simp only [List.length_cons, List.length_nil]; omega
      change (bif emp r then _ else _) = _
      rw [if_pos g1, if_pos g2, ih (l1 ++ [(⟨r.thing_, r.cores_⟩ : Grace_retired)]) (k + 1) l3 (by omega) (by omega) (by simp; omega), ih l1 (k + 1) (l3 ++ [r.thing_]) (by omega) (by omega) (by simp; omega)]
      cases he : emp r <;> simp [he]
    · rw [dec_ge hge, cond_false, List.drop_of_length_le hge]; simp

theorem free_eq (s : GS) (hb : (s.waits_.length + s.freed_.length) * 16 ≤ 140737488355328) : grace_state_free s = some (freeF s) := by
  unfold grace_state_free
  rw [free_l1_eq s hb _ _ _ _ (by omega) (fuel_gt (by omega)) (by simp)]
  simp [freeF]

theorem waiting_l1_eq (s : GS) (t : Int) : ∀ n k, k ≤ s.waits_.length → s.waits_.length - k < n → grace_state_waiting_l1 s t n k = some ((s.waits_.drop k).any (fun r => r.thing_ == t)) := by
  intro n
  induction n with
  | zero => intro k h1 h2; omega
  | succ n ih =>
    intro k h1 h2
    unfold grace_state_waiting_l1
    rcases Nat.lt_or_ge k s.waits_.length with hlt | hge
    · rw [dec_lt hlt, cond_true, List.drop_eq_getElem_cons hlt, getD_lt _ _ hlt, ih (k + 1) (by omega) (by omega)]
      rw [List.any_cons]
      cases h : (s.waits_[k].thing_ == t) <;> rfl
    · rw [dec_ge hge, cond_false, List.drop_of_length_le hge]; simp

theorem waiting_eq (s : GS) (t : Int) (hb : s.waits_.length ≤ 140737488355328) : grace_state_waiting s t = some (s.waits_.any (fun r => r.thing_ == t)) := by
  unfold grace_state_waiting
  rw [waiting_l1_eq s t _ _ (by omega) (fuel_gt (by omega))]
  simp

def clr (c : Nat) (r : Grace_retired) : Grace_retired := ⟨r.thing_, upd r.cores_ c false⟩

theorem set_step {α : Type} (f : α → α) (l : List α) {k : Nat} (h : k < l.length) : ((l.set k (f l[k])).take (k + 1) ++ ((l.set k (f l[k])).drop (k + 1)).map f) = l.take k ++ (l.drop k).map f := by
  rw [List.take_succ_eq_append_getElem (by simpa using h), List.take_set_of_le (Nat.le_refl _), List.drop_set_of_lt (by omega), List.drop_eq_getElem_cons h, List.map_cons, List.getElem_set_self, List.append_assoc]
  rfl

theorem do_l1_eq (s : GS) (o : Api_GraceOp) (hc : 0 ≤ o.Core ∧ o.Core < 8) : ∀ n k (l : List Grace_retired), l.length = s.waits_.length → k ≤ s.waits_.length → s.waits_.length - k < n →
    grace_state_do_l1 s o n k l = (grace_state_free ⟨upd s.in_ o.Core.toNat (o.Kind == 1), l.take k ++ (l.drop k).map (clr o.Core.toNat), s.freed_⟩).bind fun r => some (0, r) := by
  intro n
  induction n with
  | zero => intro k l h0 h1 h2; omega
  | succ n ih =>
    intro k l h0 h1 h2
    unfold grace_state_do_l1
    rcases Nat.lt_or_ge k s.waits_.length with hlt | hge
    · have hl : k < l.length := by omega
      rw [dec_lt hlt, cond_true, if_pos (idx_ok hl), if_pos (by exact hc), Nat.zero_add, getD_lt _ _ hl]
      rw [ih (k + 1) _ (by simpa using h0) (by omega) (by omega)]
      have := set_step (clr o.Core.toNat) l hl
      unfold clr at this ⊢
      rw [this]
    · rw [dec_ge hge, cond_false, List.drop_of_length_le (by omega), List.take_of_length_le (by omega)]
      simp

/-- One thing done. -/
def stepG (s : GS) (o : Api_GraceOp) : Int × GS :=
  if o.Kind < 1 ∨ 3 < o.Kind then (5, s)
  else if o.Kind = 3 then
    if s.waits_.any (fun r => r.thing_ == o.Thing) then (6, s)
    else (0, freeF ⟨s.in_, s.waits_ ++ [⟨o.Thing, s.in_⟩], s.freed_⟩)
  else if o.Core < 0 ∨ 8 ≤ o.Core then (2, s)
  else if o.Kind = 1 then
    if s.in_ o.Core.toNat then (6, s) else (0, ⟨upd s.in_ o.Core.toNat true, s.waits_, s.freed_⟩)
  else if s.in_ o.Core.toNat then (0, freeF ⟨upd s.in_ o.Core.toNat false, s.waits_.map (clr o.Core.toNat), s.freed_⟩) else (3, s)

theorem do_eq (s : GS) (o : Api_GraceOp) (hb : (s.waits_.length + 1 + s.freed_.length) * 16 ≤ 140737488355328) : grace_state_do s o = some (stepG s o) := by
  unfold grace_state_do stepG
  by_cases h1 : o.Kind < 1 ∨ 3 < o.Kind
  · have : (decide (o.Kind < 1) || decide (o.Kind > 3)) = true := by simpa using h1
    rw [this, if_pos h1]; rfl
  have e1 : (decide (o.Kind < 1) || decide (o.Kind > 3)) = false := by simp at h1 ⊢; omega
  rw [e1, cond_false, if_neg h1]
  by_cases h3 : o.Kind = 3
  · have : ((o.Kind : Int) == 3) = true := by simpa using h3
    rw [this, cond_true, if_pos h3, waiting_eq _ _ (by omega), Option.bind_some]
    cases hw : s.waits_.any (fun r => r.thing_ == o.Thing) with
    | true => rfl
    | false =>
      rw [cond_false, if_pos (by simp only [List.length_cons, List.length_nil]; omega), free_eq _ (by simp; omega), Option.bind_some]
      rfl
  have e3 : ((o.Kind : Int) == 3) = false := by simpa using h3
  rw [e3, cond_false, if_neg h3]
  by_cases hc : o.Core < 0 ∨ 8 ≤ o.Core
  · have : (decide (o.Core < 0) || decide (o.Core ≥ 8)) = true := by simpa using hc
    rw [this, cond_true, if_pos hc]
  have ec : (decide (o.Core < 0) || decide (o.Core ≥ 8)) = false := by simp at hc ⊢; omega
  have hc' : 0 ≤ o.Core ∧ o.Core < 8 := by omega
  rw [ec, cond_false, if_neg hc, if_pos (fun _ => by exact hc')]
  by_cases hk : o.Kind = 1
  · have k1 : ((o.Kind : Int) == 1) = true := by simpa using hk
    have k2 : ((o.Kind : Int) == 2) = false := by simp [hk]
    rw [k1, k2, if_pos hk]
    cases hi : s.in_ o.Core.toNat with
    | true => rfl
    | false =>
      simp only [Bool.true_and, Bool.false_and, cond_false, Bool.false_eq_true, false_implies, if_true, if_false]
      rw [if_pos (by exact hc')]
  · have hk2 : o.Kind = 2 := by omega
    have k1 : ((o.Kind : Int) == 1) = false := by simpa using hk
    have k2 : ((o.Kind : Int) == 2) = true := by simpa using hk2
    rw [k1, k2, if_neg hk]
    simp only [Bool.true_and, Bool.false_and, cond_false]
    rw [if_pos (fun _ => by exact hc')]
    cases hi : s.in_ o.Core.toNat with
    | true =>
      simp only [Bool.not_true, cond_false, if_true]
      rw [if_pos (by exact hc'), cond_true, do_l1_eq s o hc' _ _ _ rfl (by omega) (fuel_gt (by omega)), k1, free_eq _ (by simp; omega)]
      simp
    | false => rfl

/-- All of them, one behind the other. -/
def playG (s : GS) : List Api_GraceOp → List Int × List Int × GS
  | [] => ([], [], s)
  | o :: r => let t := stepG s o; let q := playG t.2 r; (t.1 :: q.1, (t.2.freed_.length : Int) :: q.2.1, q.2.2)

theorem stepG_len (s : GS) (o : Api_GraceOp) : (stepG s o).2.waits_.length + (stepG s o).2.freed_.length ≤ s.waits_.length + s.freed_.length + 1 := by
  have hf : ∀ (t : GS), (freeF t).waits_.length + (freeF t).freed_.length = t.waits_.length + t.freed_.length := by
    intro t
    have : ∀ l : List Grace_retired, (l.filter (fun r => !emp r)).length + (l.filter emp).length = l.length := by
      intro l
      induction l with
      | nil => rfl
      | cons r l ih => cases h : emp r <;> simp [h] <;> omega
    have := this t.waits_
    simp [freeF]; omega
  unfold stepG
  repeat' split
  all_goals simp [hf]
  all_goals omega

theorem Play_l2_eq (e m : List Int) (w : List Grace_retired) (f : List Int) (hw : w.length * 8 ≤ 140737488355328) : ∀ n out k, k ≤ w.length → w.length - k < n → out.length = k →
    grace_Play_l2 e m w f n out k = some (e, m, f, out ++ (w.drop k).map (·.thing_)) := by
  intro n
  induction n with
  | zero => intro out k h1 h2; omega
  | succ n ih =>
    intro out k h1 h2 h3
    unfold grace_Play_l2
    rcases Nat.lt_or_ge k w.length with hlt | hge
    · rw [dec_lt hlt, cond_true, List.drop_eq_getElem_cons hlt, Nat.zero_add, getD_lt _ _ hlt, if_pos (by simp only [List.length_cons, List.length_nil]; omega), ih _ (k + 1) (by omega) (by omega) (by simp; omega), List.map_cons, List.append_assoc]
      rfl
    · rw [dec_ge hge, cond_false, List.drop_of_length_le hge]; simp

theorem Play_l1_eq (ops : List Api_GraceOp) (hn : (ops.length + 1) * 16 ≤ 140737488355328) : ∀ n e m k (s : GS), k ≤ ops.length → ops.length - k < n → e.length = k → m.length = k → s.waits_.length + s.freed_.length ≤ k →
    grace_Play_l1 ops n e m k s.in_ s.waits_ s.freed_ = some (e ++ (playG s (ops.drop k)).1, m ++ (playG s (ops.drop k)).2.1, (playG s (ops.drop k)).2.2.freed_, (playG s (ops.drop k)).2.2.waits_.map (·.thing_)) := by
  intro n
  induction n with
  | zero => intro e m k s h1 h2; omega
  | succ n ih =>
    intro e m k s h1 h2 he hm hs
    unfold grace_Play_l1
    rcases Nat.lt_or_ge k ops.length with hlt | hge
    · have hl := stepG_len s ops[k]
      rw [dec_lt hlt, cond_true, List.drop_eq_getElem_cons hlt, getD_lt _ _ hlt]
      change ((grace_state_do s ops[k]).bind _) = _
      rw [do_eq _ _ (by omega), Option.bind_some, if_pos (by simp only [List.length_cons, List.length_nil]; omega), if_pos (by simp only [List.length_cons, List.length_nil]; omega), ih _ _ (k + 1) (stepG s ops[k]).2 (by omega) (by omega) (by simp; omega) (by simp; omega) (by omega)]
      simp [playG]
    · rw [dec_ge hge, cond_false, List.drop_of_length_le hge, Play_l2_eq e m s.waits_ s.freed_ (by omega) FUEL [] 0 (by omega) (fuel_gt (by omega)) rfl]
      simp [playG]

def st0 : GS := ⟨fun _ => false, [], []⟩
theorem Play_eq (ops : List Api_GraceOp) (hn : (ops.length + 1) * 16 ≤ 140737488355328) :
    grace_Play ops = some ((playG st0 ops).1, (playG st0 ops).2.1, (playG st0 ops).2.2.freed_, (playG st0 ops).2.2.waits_.map (·.thing_)) := by
  unfold grace_Play
  have := Play_l1_eq ops hn FUEL [] [] 0 st0 (by omega) (fuel_gt (by omega)) rfl rfl (by simp [st0])
  simpa [st0] using this

/-- The state behind all of them. -/
def stG (s : GS) (ops : List Api_GraceOp) : GS := (playG s ops).2.2
theorem stG_cons (s : GS) (o : Api_GraceOp) (r : List Api_GraceOp) : stG s (o :: r) = stG (stepG s o).2 r := rfl
theorem stG_append : ∀ (a b : List Api_GraceOp) (s : GS), stG s (a ++ b) = stG (stG s a) b
  | [], b, s => rfl
  | o :: a, b, s => by rw [List.cons_append, stG_cons, stG_cons, stG_append a b]

/-- Whoever waits waits for somebody who looks. -/
def Inv (s : GS) : Prop := ∀ r ∈ s.waits_, emp r = false ∧ ∀ c, c < 8 → r.cores_ c = true → s.in_ c = true
def Ext (s t : GS) : Prop := (∃ x, t.freed_ = s.freed_ ++ x) ∧ t.waits_.length + t.freed_.length = s.waits_.length + s.freed_.length
theorem Ext.refl (s : GS) : Ext s s := ⟨⟨[], by simp⟩, rfl⟩
theorem Ext.trans {a b c : GS} (h : Ext a b) (k : Ext b c) : Ext a c := by
  obtain ⟨⟨x, hx⟩, h2⟩ := h
  obtain ⟨⟨y, hy⟩, k2⟩ := k
  exact ⟨⟨x ++ y, by rw [hy, hx, List.append_assoc]⟩, k2.trans h2⟩
theorem freeF_lens (t : GS) : (freeF t).waits_.length + (freeF t).freed_.length = t.waits_.length + t.freed_.length := by
  have : ∀ l : List Grace_retired, (l.filter (fun r => !emp r)).length + (l.filter emp).length = l.length := by
    intro l
    induction l with
    | nil => rfl
    | cons r l ih => cases h : emp r <;> simp [h] <;> omega
  have := this t.waits_
  simp [freeF]; omega
theorem upd_same {α : Type} (f : Nat → α) (d : Nat) (v : α) : upd f d v d = v := by simp [upd]
theorem upd_other {α : Type} (f : Nat → α) {d t : Nat} (v : α) (h : t ≠ d) : upd f d v t = f t := by simp [upd, h]

theorem Inv.step {s : GS} (h : Inv s) (o : Api_GraceOp) : Inv (stepG s o).2 := by
  unfold stepG
  split
  · exact h
  split
  · split
    · exact h
    · intro r hr
      simp only [freeF, List.mem_filter, List.mem_append, List.mem_singleton, Bool.not_eq_true'] at hr
      obtain ⟨hr, he⟩ := hr
      refine ⟨he, ?_⟩
      rcases hr with hr | rfl
      · exact (h r hr).2
      · intro c hc hcc; exact hcc
  split
  · exact h
  split
  · split
    · exact h
    · intro r hr
      refine ⟨(h r hr).1, fun c hc hcc => ?_⟩
      have := (h r hr).2 c hc hcc
      simp only [upd]
      split
      · rfl
      · exact this
  · split
    · intro r hr
      simp only [freeF, List.mem_filter, List.mem_map, Bool.not_eq_true'] at hr
      obtain ⟨⟨r0, hr0, rfl⟩, he⟩ := hr
      refine ⟨he, fun c hc hcc => ?_⟩
      simp only [clr, upd] at hcc
      split at hcc
      · cases hcc
      · rename_i hne
        have := (h r0 hr0).2 c hc hcc
        show upd s.in_ _ false c = true
        rw [upd_other _ _ hne]
        exact this
    · exact h
theorem Inv.stG : ∀ (ops : List Api_GraceOp) {s : GS}, Inv s → Inv (stG s ops)
  | [], s, h => h
  | o :: r, s, h => by rw [stG_cons]; exact Inv.stG r (h.step o)
theorem inv0 : Inv st0 := by intro r hr; simp [st0] at hr

theorem out_step {s : GS} (c : Nat) (hc : c < 8) : Ext s (stepG s ⟨2, (c : Int), 0⟩).2 ∧ (stepG s ⟨2, (c : Int), 0⟩).2.in_ c = false ∧ ∀ d, s.in_ d = false → (stepG s ⟨2, (c : Int), 0⟩).2.in_ d = false := by
  have e : stepG s ⟨2, (c : Int), 0⟩ = if s.in_ c then (0, freeF ⟨upd s.in_ c false, s.waits_.map (clr c), s.freed_⟩) else (3, s) := by
    unfold stepG
    have h1 : ¬ ((c : Int) < 0 ∨ (8 : Int) ≤ c) := by omega
    simp [h1]
  rw [e]
  cases hi : s.in_ c with
  | true =>
    simp only [if_true]
    refine ⟨⟨⟨_, rfl⟩, by rw [freeF_lens]; simp⟩, upd_same _ _ _, fun d hd => ?_⟩
    show upd s.in_ c false d = false
    simp only [upd]
    split
    · rfl
    · exact hd
  | false => exact ⟨Ext.refl s, hi, fun d hd => hd⟩

def outs (k : Nat) : Nat → List Api_GraceOp
  | 0 => []
  | j + 1 => ⟨2, (k : Int), 0⟩ :: outs (k + 1) j
theorem outs_all : ∀ (j k : Nat) (s : GS), k + j = 8 → (∀ d, d < k → s.in_ d = false) → Ext s (stG s (outs k j)) ∧ ∀ d, d < 8 → (stG s (outs k j)).in_ d = false
  | 0, k, s, hk, h => ⟨Ext.refl s, fun d hd => h d (by omega)⟩
  | j + 1, k, s, hk, h => by
    obtain ⟨h1, h2, h3⟩ := out_step (s := s) k (by omega)
    have := outs_all j (k + 1) (stepG s ⟨2, (k : Int), 0⟩).2 (by omega) (fun d hd => by
      by_cases hdk : d = k
      · rw [hdk]; exact h2
      · exact h3 d (h d (by omega)))
    exact ⟨h1.trans this.1, this.2⟩
theorem outs_len : ∀ (j k : Nat), (outs k j).length = j
  | 0, k => rfl
  | j + 1, k => by simp [outs, outs_len j]

theorem all_l1_eq (r4 : List Int × List Int × List Int × List Int) (r6 : List Api_GraceOp) : ∀ (j n k : Nat) (l : List Api_GraceOp), k + j = 8 → j < n → (l.length + j) * 24 ≤ 140737488355328 →
    keep_GraceAll_l1 r4 r6 n l k = keep_GraceAll_l1 r4 r6 1 (l ++ outs k j) 8 := by
  intro j
  induction j with
  | zero =>
    intro n k l hk hn hl
    obtain rfl : k = 8 := by omega
    obtain _ | n := n
    · omega
    · simp only [outs, List.append_nil]
      unfold keep_GraceAll_l1
      rfl
  | succ j ih =>
    intro n k l hk hn hl
    obtain _ | n := n
    · omega
    · rw [keep_GraceAll_l1]
      have hd : decide ((((k : Nat) : Int) : Int) < 8) = true := by simp; omega
      rw [hd, cond_true, if_pos (by simp only [List.length_cons, List.length_nil]; omega), ih n (k + 1) _ (by omega) (by omega) (by simp; omega)]
      simp [outs]

theorem GraceAll_true (a0 : List Api_GraceOp) (h : a0.length * 24 ≤ 140737488351232 ∧ ∀ y ∈ a0, Ok_Api_GraceOp y) : keep_GraceAll a0 = some true := by
  unfold keep_GraceAll
  have hl := h.1
  rw [alive24_eq, Option.bind_some, Bool.not_true, cond_false, Play_eq _ (by omega), Option.bind_some]
  unfold slices_Clone_api_GraceOp
  rw [if_pos (by omega), Option.bind_some, all_l1_eq _ _ 8 _ 0 _ rfl (by unfold FUEL; omega) (by omega), keep_GraceAll_l1]
  have hd : decide ((((8 : Nat) : Int) : Int) < 8) = false := by decide
  rw [hd, cond_false, Play_eq _ (by rw [List.length_append, outs_len]; omega), Option.bind_some]
  have hs : ∀ x, (playG st0 x).2.2 = stG st0 x := fun _ => rfl
  simp only [hs, stG_append]
  have hinv := Inv.stG a0 inv0
  have hbound : ∀ (ops : List Api_GraceOp) (s : GS), (stG s ops).waits_.length + (stG s ops).freed_.length ≤ s.waits_.length + s.freed_.length + ops.length := by
    intro ops
    induction ops with
    | nil => intro s; simp [stG, playG]
    | cons o r ih =>
      intro s
      have := ih (stepG s o).2
      have := stepG_len s o
      rw [stG_cons]
      simp only [List.length_cons]
      omega
  have hb := hbound a0 st0
  have hb0 : st0.waits_.length + st0.freed_.length = 0 := rfl
  obtain ⟨⟨⟨x, hx⟩, hlen⟩, hin⟩ := outs_all 8 0 (stG st0 a0) rfl (fun d hd => by omega)
  have hinv2 := Inv.stG (outs 0 8) hinv
  generalize stG st0 a0 = s at *
  generalize stG s (outs 0 8) = t at *
  have hw : t.waits_ = [] := by
    cases hw : t.waits_ with
    | nil => rfl
    | cons r l =>
      exfalso
      obtain ⟨h1, h2⟩ := hinv2 r (by rw [hw]; simp)
      have : emp r = true := (emp_iff r).2 fun c hc => by
        cases hcc : r.cores_ c with
        | false => rfl
        | true => have := h2 c hc hcc; rw [hin c hc] at this; cases this
      rw [h1] at this; cases this
  rw [hw, List.length_nil, Nat.zero_add] at hlen
  have hwr : IntKind.i64.wrap ((s.freed_.length : Int) + ((s.waits_.map (·.thing_)).length : Int)) = (t.freed_.length : Int) := by
    rw [List.length_map, wrap_id (by omega) (by omega)]; omega
  have hlt : s.freed_.length ≤ t.freed_.length := by omega
  have hmin : (if ((t.freed_.length : Int)) < (s.freed_.length : Int) then (t.freed_.length : Int) else (s.freed_.length : Int)) = (s.freed_.length : Int) := by
    rw [if_neg (by omega)]
  rw [hw, hwr, hmin]
  have htake : t.freed_.take s.freed_.length = s.freed_ := by rw [hx]; simp
  simp only [List.map_nil, List.length_nil, Int.toNat_natCast, Nat.zero_add, List.drop_zero, Nat.sub_zero, htake]
  rw [if_pos (fun _ => by omega), if_pos (fun _ => hlt), slices_Equal_int_eq _ _ (by omega)]
  simp

theorem nob_l1_eq (a0 : List Int) (hb : a0.length ≤ 1048576) : ∀ (n k : Nat) (l : List Api_GraceOp), k ≤ a0.length → a0.length - k < n → l.length = k →
    keep_GraceNobody_l1 a0 n l k = keep_GraceNobody_l1 a0 1 (l ++ (a0.drop k).map (fun t => ⟨3, 0, t⟩)) a0.length := by
  intro n
  induction n with
  | zero => intro k l h1 h2; omega
  | succ n ih =>
    intro k l h1 h2 h3
    rcases Nat.lt_or_ge k a0.length with hlt | hge
    · rw [keep_GraceNobody_l1, dec_lt hlt, cond_true, if_pos (by simp only [List.length_cons, List.length_nil]; omega), ih (k + 1) _ (by omega) (by omega) (by simp; omega), List.drop_eq_getElem_cons hlt, getD_lt _ _ hlt, List.map_cons, List.append_assoc]
      rfl
    · obtain rfl : k = a0.length := by omega
      rw [List.drop_of_length_le (Nat.le_refl _), List.map_nil, List.append_nil, keep_GraceNobody_l1, keep_GraceNobody_l1]
      rw [dec_ge (Nat.le_refl _), cond_false, cond_false]

theorem nobody_step (s : GS) (t : Int) (hw : s.waits_ = []) (hi : ∀ c, s.in_ c = false) : stepG s ⟨3, 0, t⟩ = (0, ⟨s.in_, [], s.freed_ ++ [t]⟩) := by
  have he : emp ⟨t, s.in_⟩ = true := (emp_iff _).2 fun c hc => hi c
  simp [stepG, hw, freeF, he]
theorem nobody_all : ∀ (ts : List Int) (s : GS), s.waits_ = [] → (∀ c, s.in_ c = false) → (stG s (ts.map fun t => ⟨3, 0, t⟩)).waits_ = [] ∧ (stG s (ts.map fun t => ⟨3, 0, t⟩)).freed_ = s.freed_ ++ ts
  | [], s, hw, hi => ⟨hw, by simp [stG, playG]⟩
  | t :: ts, s, hw, hi => by
    rw [List.map_cons, stG_cons, nobody_step s t hw hi]
    have := nobody_all ts ⟨s.in_, [], s.freed_ ++ [t]⟩ rfl hi
    refine ⟨this.1, ?_⟩
    rw [this.2]; simp

theorem GraceNobody_trueU (a0 : List Int) (h : a0.length ≤ 1048576 ∧ ∀ y ∈ a0, -9223372036854775808 ≤ y ∧ y ≤ 9223372036854775807) : keep_GraceNobody a0 = some true := by
  unfold keep_GraceNobody
  have hl := h.1
  rw [alive24_eq, Option.bind_some, Bool.not_true, cond_false, nob_l1_eq a0 hl FUEL 0 [] (by omega) (fuel_gt (by omega)) rfl, keep_GraceNobody_l1, dec_ge (Nat.le_refl _), cond_false]
  simp only [List.nil_append, List.drop_zero]
  rw [Play_eq _ (by simp; omega), Option.bind_some]
  have hs : ∀ x, (playG st0 x).2.2 = stG st0 x := fun _ => rfl
  obtain ⟨h1, h2⟩ := nobody_all a0 st0 rfl (fun _ => rfl)
  have h3 : st0.freed_ = [] := rfl
  simp only [hs, h1, h2, h3, List.nil_append]
  rw [slices_Equal_int_eq _ _ (by omega)]
  simp

end Go.Proofs.Ythdkndfckfglpaa
