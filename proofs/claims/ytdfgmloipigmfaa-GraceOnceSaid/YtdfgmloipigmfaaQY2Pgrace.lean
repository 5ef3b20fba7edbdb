/- Plain laws of grace: nothing is freed under eyes; each thing once. -/
import Derived.Test.YtdfgmloipigmfaaQY2M
import Derived.Test.YtdfgmloipigmfaaPLib
import Derived.Test.YtdfgmloipigmfaaQY2K
set_option linter.unusedSimpArgs false
set_option linter.unusedVariables false
namespace Go.Proofs.Ytdfgmloipigmfaa
open Go Go.Ab

abbrev GS := Grace_state
theorem alive24_eq : keep_alive24 = some true := by decide +kernel

def emp (r : Grace_retired) : Bool := (r.cores_ 0 == false) && ((r.cores_ 1 == false) && ((r.cores_ 2 == false) && ((r.cores_ 3 == false) && ((r.cores_ 4 == false) && ((r.cores_ 5 == false) && ((r.cores_ 6 == false) && ((r.cores_ 7 == false) && true)))))))
theorem lt8 {c : Nat} (h : c < 8) : c = 0 ∨ c = 1 ∨ c = 2 ∨ c = 3 ∨ c = 4 ∨ c = 5 ∨ c = 6 ∨ c = 7 := by omega
theorem emp_iff (r : Grace_retired) : emp r = true ↔ ∀ c, c < 8 → r.cores_ c = false := by
  constructor
  · intro h c hc
    simp only [emp, Bool.and_eq_true, beq_iff_eq] at h
    rcases lt8 hc with rfl | rfl | rfl | rfl | rfl | rfl | rfl | rfl <;> simp_all
  · intro h
    simp [emp, h]

def freeF (s : GS) : GS := ⟨s.in_, s.waits_.filter (fun r => !emp r), s.freed_ ++ (s.waits_.filter emp).map (·.thing_)⟩

theorem free_l1_eq (a0 : GS) (hb : (a0.waits_.length + a0.freed_.length) * 16 ≤ 140737488355328) : ∀ n l1 k l3, k ≤ a0.waits_.length → a0.waits_.length - k < n → l1.length + l3.length ≤ k + a0.freed_.length →
    grace_state_free_l1 a0 n l1 k l3 = some ⟨a0.in_, l1 ++ (a0.waits_.drop k).filter (fun r => !emp r), l3 ++ ((a0.waits_.drop k).filter emp).map (·.thing_)⟩ := by
  intro n
  induction n with
  | zero => intro l1 k l3 h1 h2; omega
  | succ n ih =>
    intro l1 k l3 h1 h2 h3
    unfold grace_state_free_l1
    rcases Nat.lt_or_ge k a0.waits_.length with hlt | hge
    · rw [dec_lt hlt, cond_true, List.drop_eq_getElem_cons hlt, Nat.zero_add, getD_lt _ _ hlt]
      generalize a0.waits_[k] = r
      have g1 : (l3.length + [r.thing_].length) * 8 ≤ 140737488355328 ∧ l3.length + [r.thing_].length ≤ 140737488355328 := by simp only [List.length_cons, List.length_nil]; omega
      have g2 : (l1.length + [(⟨r.thing_, r.cores_⟩ : Grace_retired)].length) * 16 ≤ 140737488355328 ∧ l1.length + [(⟨r.thing_, r.cores_⟩ : Grace_retired)].length ≤ 140737488355328 := by simp only [List.length_cons, List.length_nil]; omega
      change (bif emp r then _ else _) = _
      rw [if_pos g1, if_pos g2, ih (l1 ++ [(⟨r.thing_, r.cores_⟩ : Grace_retired)]) (k + 1) l3 (by omega) (by omega) (by simp; omega), ih l1 (k + 1) (l3 ++ [r.thing_]) (by omega) (by omega) (by simp; omega)]
      cases he : emp r <;> simp [he]
    · rw [dec_ge hge, cond_false, List.drop_of_length_le hge]; simp

theorem free_eq (s : GS) (hb : (s.waits_.length + s.freed_.length) * 16 ≤ 140737488355328) : grace_state_free s = some (freeF s) := by
  unfold grace_state_free
  rw [free_l1_eq s hb _ _ _ _ (by omega) (fuel_gt (by omega)) (by simp)]
  simp [freeF]

theorem waiting_l1_eq (s : GS) (t : Int) : ∀ n k, k ≤ s.waits_.length → s.waits_.length - k < n → grace_state_waiting_l1 s t n k = some ((s.waits_.drop k).any (fun r => r.thing_ == t)) := by
  intro n
  induction n with
  | zero => intro k h1 h2; omega
  | succ n ih =>
    intro k h1 h2
    unfold grace_state_waiting_l1
    rcases Nat.lt_or_ge k s.waits_.length with hlt | hge
    · rw [dec_lt hlt, cond_true, List.drop_eq_getElem_cons hlt, getD_lt _ _ hlt, ih (k + 1) (by omega) (by omega)]
      rw [List.any_cons]
      cases h : (s.waits_[k].thing_ == t) <;> rfl
    · rw [dec_ge hge, cond_false, List.drop_of_length_le hge]; simp

theorem waiting_eq (s : GS) (t : Int) (hb : s.waits_.length ≤ 140737488355328) : grace_state_waiting s t = some (s.waits_.any (fun r => r.thing_ == t)) := by
  unfold grace_state_waiting
  rw [waiting_l1_eq s t _ _ (by omega) (fuel_gt (by omega))]
  simp

def clr (c : Nat) (r : Grace_retired) : Grace_retired := ⟨r.thing_, upd r.cores_ c false⟩

theorem set_step {α : Type} (f : α → α) (l : List α) {k : Nat} (h : k < l.length) : ((l.set k (f l[k])).take (k + 1) ++ ((l.set k (f l[k])).drop (k + 1)).map f) = l.take k ++ (l.drop k).map f := by
  rw [List.take_succ_eq_append_getElem (by simpa using h), List.take_set_of_le (Nat.le_refl _), List.drop_set_of_lt (by omega), List.drop_eq_getElem_cons h, List.map_cons, List.getElem_set_self, List.append_assoc]
  rfl

theorem do_l1_eq (s : GS) (o : Api_GraceOp) (hc : 0 ≤ o.Core ∧ o.Core < 8) : ∀ n k (l : List Grace_retired), l.length = s.waits_.length → k ≤ s.waits_.length → s.waits_.length - k < n →
    grace_state_do_l1 s o n k l = (grace_state_free ⟨upd s.in_ o.Core.toNat (o.Kind == 1), l.take k ++ (l.drop k).map (clr o.Core.toNat), s.freed_⟩).bind fun r => some (0, r) := by
  intro n
  induction n with
  | zero => intro k l h0 h1 h2; omega
  | succ n ih =>
    intro k l h0 h1 h2
    unfold grace_state_do_l1
    rcases Nat.lt_or_ge k s.waits_.length with hlt | hge
    · have hl : k < l.length := by omega
      rw [dec_lt hlt, cond_true, if_pos (idx_ok hl), if_pos (by exact hc), Nat.zero_add, getD_lt _ _ hl]
      rw [ih (k + 1) _ (by simpa using h0) (by omega) (by omega)]
      have := set_step (clr o.Core.toNat) l hl
      unfold clr at this ⊢
      rw [this]
    · rw [dec_ge hge, cond_false, List.drop_of_length_le (by omega), List.take_of_length_le (by omega)]
      simp

/-- One thing done. -/
def stepG (s : GS) (o : Api_GraceOp) : Int × GS :=
  if o.Kind < 1 ∨ 3 < o.Kind then (5, s)
  else if o.Kind = 3 then
    if s.waits_.any (fun r => r.thing_ == o.Thing) then (6, s)
    else (0, freeF ⟨s.in_, s.waits_ ++ [⟨o.Thing, s.in_⟩], s.freed_⟩)
  else if o.Core < 0 ∨ 8 ≤ o.Core then (2, s)
  else if o.Kind = 1 then
    if s.in_ o.Core.toNat then (6, s) else (0, ⟨upd s.in_ o.Core.toNat true, s.waits_, s.freed_⟩)
  else if s.in_ o.Core.toNat then (0, freeF ⟨upd s.in_ o.Core.toNat false, s.waits_.map (clr o.Core.toNat), s.freed_⟩) else (3, s)

theorem do_eq (s : GS) (o : Api_GraceOp) (hb : (s.waits_.length + 1 + s.freed_.length) * 16 ≤ 140737488355328) : grace_state_do s o = some (stepG s o) := by
  unfold grace_state_do stepG
  by_cases h1 : o.Kind < 1 ∨ 3 < o.Kind
  · have : (decide (o.Kind < 1) || decide (o.Kind > 3)) = true := by simpa using h1
    rw [this, if_pos h1]; rfl
  have e1 : (decide (o.Kind < 1) || decide (o.Kind > 3)) = false := by simp at h1 ⊢; omega
  rw [e1, cond_false, if_neg h1]
  by_cases h3 : o.Kind = 3
  · have : ((o.Kind : Int) == 3) = true := by simpa using h3
    rw [this, cond_true, if_pos h3, waiting_eq _ _ (by omega), Option.bind_some]
    cases hw : s.waits_.any (fun r => r.thing_ == o.Thing) with
    | true => rfl
    | false =>
      rw [cond_false, if_pos (by simp only [List.length_cons, List.length_nil]; omega), free_eq _ (by simp; omega), Option.bind_some]
      rfl
  have e3 : ((o.Kind : Int) == 3) = false := by simpa using h3
  rw [e3, cond_false, if_neg h3]
  by_cases hc : o.Core < 0 ∨ 8 ≤ o.Core
  · have : (decide (o.Core < 0) || decide (o.Core ≥ 8)) = true := by simpa using hc
    rw [this, cond_true, if_pos hc]
  have ec : (decide (o.Core < 0) || decide (o.Core ≥ 8)) = false := by simp at hc ⊢; omega
  have hc' : 0 ≤ o.Core ∧ o.Core < 8 := by omega
  rw [ec, cond_false, if_neg hc, if_pos (fun _ => by exact hc')]
  by_cases hk : o.Kind = 1
  · have k1 : ((o.Kind : Int) == 1) = true := by simpa using hk
    have k2 : ((o.Kind : Int) == 2) = false := by simp [hk]
    rw [k1, k2, if_pos hk]
    cases hi : s.in_ o.Core.toNat with
    | true => rfl
    | false =>
      simp only [Bool.true_and, Bool.false_and, cond_false, Bool.false_eq_true, false_implies, if_true, if_false]
      rw [if_pos (by exact hc')]
  · have hk2 : o.Kind = 2 := by omega
    have k1 : ((o.Kind : Int) == 1) = false := by simpa using hk
    have k2 : ((o.Kind : Int) == 2) = true := by simpa using hk2
    rw [k1, k2, if_neg hk]
    simp only [Bool.true_and, Bool.false_and, cond_false]
    rw [if_pos (fun _ => by exact hc')]
    cases hi : s.in_ o.Core.toNat with
    | true =>
      simp only [Bool.not_true, cond_false, if_true]
      rw [if_pos (by exact hc'), cond_true, do_l1_eq s o hc' _ _ _ rfl (by omega) (fuel_gt (by omega)), k1, free_eq _ (by simp; omega)]
      simp
    | false => rfl

/-- All of them, one behind the other. -/
def playG (s : GS) : List Api_GraceOp → List Int × List Int × GS
  | [] => ([], [], s)
  | o :: r => let t := stepG s o; let q := playG t.2 r; (t.1 :: q.1, (t.2.freed_.length : Int) :: q.2.1, q.2.2)

theorem stepG_len (s : GS) (o : Api_GraceOp) : (stepG s o).2.waits_.length + (stepG s o).2.freed_.length ≤ s.waits_.length + s.freed_.length + 1 := by
  have hf : ∀ (t : GS), (freeF t).waits_.length + (freeF t).freed_.length = t.waits_.length + t.freed_.length := by
    intro t
    have : ∀ l : List Grace_retired, (l.filter (fun r => !emp r)).length + (l.filter emp).length = l.length := by
      intro l
      induction l with
      | nil => rfl
      | cons r l ih => cases h : emp r <;> simp [h] <;> omega
    have := this t.waits_
    simp [freeF]; omega
  unfold stepG
  repeat' split
  all_goals simp [hf]
  all_goals omega

theorem Play_l2_eq (e m : List Int) (w : List Grace_retired) (f : List Int) (hw : w.length * 8 ≤ 140737488355328) : ∀ n out k, k ≤ w.length → w.length - k < n → out.length = k →
    grace_Play_l2 e m w f n out k = some (e, m, f, out ++ (w.drop k).map (·.thing_)) := by
  intro n
  induction n with
  | zero => intro out k h1 h2; omega
  | succ n ih =>
    intro out k h1 h2 h3
    unfold grace_Play_l2
    rcases Nat.lt_or_ge k w.length with hlt | hge
    · rw [dec_lt hlt, cond_true, List.drop_eq_getElem_cons hlt, Nat.zero_add, getD_lt _ _ hlt, if_pos (by simp only [List.length_cons, List.length_nil]; omega), ih _ (k + 1) (by omega) (by omega) (by simp; omega), List.map_cons, List.append_assoc]
      rfl
    · rw [dec_ge hge, cond_false, List.drop_of_length_le hge]; simp

theorem Play_l1_eq (ops : List Api_GraceOp) (hn : (ops.length + 1) * 16 ≤ 140737488355328) : ∀ n e m k (s : GS), k ≤ ops.length → ops.length - k < n → e.length = k → m.length = k → s.waits_.length + s.freed_.length ≤ k →
    grace_Play_l1 ops n e m k s.in_ s.waits_ s.freed_ = some (e ++ (playG s (ops.drop k)).1, m ++ (playG s (ops.drop k)).2.1, (playG s (ops.drop k)).2.2.freed_, (playG s (ops.drop k)).2.2.waits_.map (·.thing_)) := by
  intro n
  induction n with
  | zero => intro e m k s h1 h2; omega
  | succ n ih =>
    intro e m k s h1 h2 he hm hs
    unfold grace_Play_l1
    rcases Nat.lt_or_ge k ops.length with hlt | hge
    · have hl := stepG_len s ops[k]
      rw [dec_lt hlt, cond_true, List.drop_eq_getElem_cons hlt, getD_lt _ _ hlt]
      change ((grace_state_do s ops[k]).bind _) = _
      rw [do_eq _ _ (by omega), Option.bind_some, if_pos (by simp only [List.length_cons, List.length_nil]; omega), if_pos (by simp only [List.length_cons, List.length_nil]; omega), ih _ _ (k + 1) (stepG s ops[k]).2 (by omega) (by omega) (by simp; omega) (by simp; omega) (by omega)]
      simp [playG]
    · rw [dec_ge hge, cond_false, List.drop_of_length_le hge, Play_l2_eq e m s.waits_ s.freed_ (by omega) FUEL [] 0 (by omega) (fuel_gt (by omega)) rfl]
      simp [playG]

def st0 : GS := ⟨fun _ => false, [], []⟩
theorem Play_eq (ops : List Api_GraceOp) (hn : (ops.length + 1) * 16 ≤ 140737488355328) :
    grace_Play ops = some ((playG st0 ops).1, (playG st0 ops).2.1, (playG st0 ops).2.2.freed_, (playG st0 ops).2.2.waits_.map (·.thing_)) := by
  unfold grace_Play
  have := Play_l1_eq ops hn FUEL [] [] 0 st0 (by omega) (fuel_gt (by omega)) rfl rfl (by simp [st0])
  simpa [st0] using this

/-- The state behind all of them. -/
def stG (s : GS) (ops : List Api_GraceOp) : GS := (playG s ops).2.2
theorem stG_cons (s : GS) (o : Api_GraceOp) (r : List Api_GraceOp) : stG s (o :: r) = stG (stepG s o).2 r := rfl
theorem stG_append : ∀ (a b : List Api_GraceOp) (s : GS), stG s (a ++ b) = stG (stG s a) b
  | [], b, s => rfl
  | o :: a, b, s => by rw [List.cons_append, stG_cons, stG_cons, stG_append a b]


theorem upd_same {α : Type} (f : Nat → α) (d : Nat) (v : α) : upd f d v d = v := by simp [upd]
theorem upd_other {α : Type} (f : Nat → α) {d t : Nat} (v : α) (h : t ≠ d) : upd f d v t = f t := by simp [upd, h]
theorem mem_of_mput {α : Type} (k : Int) (v : α) : ∀ (m : List (Int × α)) (p : Int × α), p ∈ mput k v m → p = (k, v) ∨ p ∈ m
  | [], p, h => by simp [mput] at h; exact .inl h
  | q :: r, p, h => by
    unfold mput at h
    cases hk : (k == q.1) with
    | true =>
      rw [hk, cond_true] at h
      have : k = q.1 := by simpa using hk
      rcases List.mem_cons.1 h with h | h
      · exact .inl (by rw [h, this])
      · exact .inr (List.mem_cons_of_mem _ h)
    | false =>
      rw [hk, cond_false] at h
      rcases List.mem_cons.1 h with h | h
      · exact .inr (by rw [h]; exact List.mem_cons_self)
      · rcases mem_of_mput k v r p h with h | h
        · exact .inl h
        · exact .inr (List.mem_cons_of_mem _ h)
theorem mem_of_mdelete {α : Type} (k : Int) : ∀ (m : List (Int × α)) (p : Int × α), p ∈ mdelete k m → p ∈ m
  | [], p, h => by simp [mdelete] at h
  | q :: r, p, h => by
    unfold mdelete at h
    cases hk : (k == q.1) with
    | true => rw [hk, cond_true] at h; exact List.mem_cons_of_mem _ h
    | false =>
      rw [hk, cond_false] at h
      rcases List.mem_cons.1 h with h | h
      · rw [h]; exact List.mem_cons_self
      · exact List.mem_cons_of_mem _ (mem_of_mdelete k r p h)
theorem mem_mdelete_ne {α : Type} (k : Int) (m : List (Int × α)) (hn : (mkeys m).Nodup) (p : Int × α) (h : p ∈ mdelete k m) : p.1 ≠ k :=
  ((mem_mdelete k p.1 m hn).1 (List.mem_map.2 ⟨p, h, rfl⟩)).1

def delAll (fs : List Int) (m : List (Int × Int)) : List (Int × Int) := fs.foldl (fun m f => mdelete f m) m
theorem nodup_delAll : ∀ (fs : List Int) {m : List (Int × Int)}, (mkeys m).Nodup → (mkeys (delAll fs m)).Nodup
  | [], m, h => h
  | f :: fs, m, h => nodup_delAll fs (nodup_mdelete f m h)
theorem mget_delAll : ∀ (fs : List Int) {m : List (Int × Int)} (x : Int), (mkeys m).Nodup → x ∉ fs → mget x (delAll fs m) = mget x m
  | [], m, x, h, hx => rfl
  | f :: fs, m, x, h, hx => by
    rw [List.mem_cons, not_or] at hx
    show mget x (delAll fs (mdelete f m)) = _
    rw [mget_delAll fs x (nodup_mdelete f m h) hx.2, mget_mdelete f x m h, if_neg hx.1]

theorem safe_l2_eq (a0 : List Api_GraceOp) (r4 : List Int × List Int × List Int × List Int) (x12 : Int) (k : Nat) (m14 m15 : List (Int × Int)) (K : List (Int × Int) → List (Int × Int) → Int → Option Bool) (since : List (Int × Int)) (hF : r4.2.2.1.length ≤ 140737488355328) (hk : k < r4.2.1.length) :
    ∀ (n : Nat) (fs : List Int) (ret : List (Int × Int)) (x : Nat), fs.length < n → (mkeys ret).Nodup → fs.Nodup → (∀ f ∈ fs, ∃ t, mget f ret = some t ∧ ∀ p ∈ since, ¬ p.2 < t) → (∃ y, r4.2.2.1.drop x = fs ++ y) → r4.2.1.getD k 0 = ((x + fs.length : Nat) : Int) →
    keep_GraceSafe_l2 a0 r4 x12 k m14 m15 K n since ret (x : Int) = K since (delAll fs ret) ((x + fs.length : Nat) : Int) := by
  intro n
  induction n with
  | zero => intro fs ret x h; omega
  | succ n ih =>
    intro fs ret x hn hnd hfs hall ⟨y, hy⟩ hm
    unfold keep_GraceSafe_l2
    rw [if_pos (idx_ok hk), Nat.zero_add, hm]
    cases fs with
    | nil =>
      have : decide (((x : Nat) : Int) < ((x + ([] : List Int).length : Nat) : Int)) = false := by simp
      rw [this, Bool.false_and, cond_false]
      rfl
    | cons f fs =>
      have hx : x < r4.2.2.1.length := by
        rcases Nat.lt_or_ge x r4.2.2.1.length with h' | h'
        · exact h'
        · rw [List.drop_of_length_le h'] at hy; cases hy
      rw [List.drop_eq_getElem_cons hx, List.cons_append] at hy
      injection hy with hy1 hy2
      have d1 : decide (((x : Nat) : Int) < ((x + (f :: fs).length : Nat) : Int)) = true := by simp only [List.length_cons, decide_eq_true_eq]; omega
      rw [d1, dec_lt hx, Bool.and_self, cond_true, if_pos (idx_ok hx), Nat.zero_add, Int.toNat_natCast, getD_lt _ _ hx, hy1]
      obtain ⟨t, ht, hp⟩ := hall f List.mem_cons_self
      have hany : since.any (fun (p : Int × Int) => decide ((p.2 : Int) < t)) = false := by
        rw [List.any_eq_false]
        intro p hpm
        simpa using hp p hpm
      rw [ht]
      simp only [Option.isSome_some, Bool.not_true, cond_false, Option.getD_some]
      rw [hany, cond_false, if_pos (idx_ok hx), wrap_nat (n := x + 1) (by omega) (by omega)]
      have hnd' := List.nodup_cons.1 hfs
      have := ih fs (mdelete f ret) (x + 1) (by simp only [List.length_cons] at hn; omega) (nodup_mdelete f ret hnd) hnd'.2 (fun g hg => by
        obtain ⟨u, hu, hq⟩ := hall g (List.mem_cons_of_mem _ hg)
        refine ⟨u, ?_, hq⟩
        rw [mget_mdelete f g ret hnd, if_neg (fun e : g = f => hnd'.1 (by rw [← e]; exact hg))]
        exact hu) ⟨y, hy2⟩ (by rw [hm]; simp only [List.length_cons]; omega)
      rw [this]
      simp only [List.length_cons]
      rw [show x + 1 + fs.length = x + (fs.length + 1) by omega]
      rfl

theorem safe_l3_eq (a0 : List Api_GraceOp) (r4 : List Int × List Int × List Int × List Int) (x12 : Int) (k : Nat) (m14 m15 : List (Int × Int)) (K : List (Int × Int) → List (Int × Int) → Int → Option Bool) (since : List (Int × Int)) (hF : r4.2.2.1.length ≤ 140737488355328) (hk : k < r4.2.1.length) :
    ∀ (n : Nat) (fs : List Int) (ret : List (Int × Int)) (x : Nat), fs.length < n → (mkeys ret).Nodup → fs.Nodup → (∀ f ∈ fs, ∃ t, mget f ret = some t ∧ ∀ p ∈ since, ¬ p.2 < t) → (∃ y, r4.2.2.1.drop x = fs ++ y) → r4.2.1.getD k 0 = ((x + fs.length : Nat) : Int) →
    keep_GraceSafe_l3 a0 r4 x12 k m14 m15 K n since ret (x : Int) = K since (delAll fs ret) ((x + fs.length : Nat) : Int) := by
  intro n
  induction n with
  | zero => intro fs ret x h; omega
  | succ n ih =>
    intro fs ret x hn hnd hfs hall ⟨y, hy⟩ hm
    unfold keep_GraceSafe_l3
    rw [if_pos (idx_ok hk), Nat.zero_add, hm]
    cases fs with
    | nil =>
      have : decide (((x : Nat) : Int) < ((x + ([] : List Int).length : Nat) : Int)) = false := by simp
      rw [this, Bool.false_and, cond_false]
      rfl
    | cons f fs =>
      have hx : x < r4.2.2.1.length := by
        rcases Nat.lt_or_ge x r4.2.2.1.length with h' | h'
        · exact h'
        · rw [List.drop_of_length_le h'] at hy; cases hy
      rw [List.drop_eq_getElem_cons hx, List.cons_append] at hy
      injection hy with hy1 hy2
      have d1 : decide (((x : Nat) : Int) < ((x + (f :: fs).length : Nat) : Int)) = true := by simp only [List.length_cons, decide_eq_true_eq]; omega
      rw [d1, dec_lt hx, Bool.and_self, cond_true, if_pos (idx_ok hx), Nat.zero_add, Int.toNat_natCast, getD_lt _ _ hx, hy1]
      obtain ⟨t, ht, hp⟩ := hall f List.mem_cons_self
      have hany : since.any (fun (p : Int × Int) => decide ((p.2 : Int) < t)) = false := by
        rw [List.any_eq_false]
        intro p hpm
        simpa using hp p hpm
      rw [ht]
      simp only [Option.isSome_some, Bool.not_true, cond_false, Option.getD_some]
      rw [hany, cond_false, if_pos (idx_ok hx), wrap_nat (n := x + 1) (by omega) (by omega)]
      have hnd' := List.nodup_cons.1 hfs
      have := ih fs (mdelete f ret) (x + 1) (by simp only [List.length_cons] at hn; omega) (nodup_mdelete f ret hnd) hnd'.2 (fun g hg => by
        obtain ⟨u, hu, hq⟩ := hall g (List.mem_cons_of_mem _ hg)
        refine ⟨u, ?_, hq⟩
        rw [mget_mdelete f g ret hnd, if_neg (fun e : g = f => hnd'.1 (by rw [← e]; exact hg))]
        exact hu) ⟨y, hy2⟩ (by rw [hm]; simp only [List.length_cons]; omega)
      rw [this]
      simp only [List.length_cons]
      rw [show x + 1 + fs.length = x + (fs.length + 1) by omega]
      rfl

theorem safe_l4_eq (a0 : List Api_GraceOp) (r4 : List Int × List Int × List Int × List Int) (x12 : Int) (k : Nat) (m14 m15 : List (Int × Int)) (K : List (Int × Int) → List (Int × Int) → Int → Option Bool) (since : List (Int × Int)) (hF : r4.2.2.1.length ≤ 140737488355328) (hk : k < r4.2.1.length) :
    ∀ (n : Nat) (fs : List Int) (ret : List (Int × Int)) (x : Nat), fs.length < n → (mkeys ret).Nodup → fs.Nodup → (∀ f ∈ fs, ∃ t, mget f ret = some t ∧ ∀ p ∈ since, ¬ p.2 < t) → (∃ y, r4.2.2.1.drop x = fs ++ y) → r4.2.1.getD k 0 = ((x + fs.length : Nat) : Int) →
    keep_GraceSafe_l4 a0 r4 x12 k m14 m15 K n since ret (x : Int) = K since (delAll fs ret) ((x + fs.length : Nat) : Int) := by
  intro n
  induction n with
  | zero => intro fs ret x h; omega
  | succ n ih =>
    intro fs ret x hn hnd hfs hall ⟨y, hy⟩ hm
    unfold keep_GraceSafe_l4
    rw [if_pos (idx_ok hk), Nat.zero_add, hm]
    cases fs with
    | nil =>
      have : decide (((x : Nat) : Int) < ((x + ([] : List Int).length : Nat) : Int)) = false := by simp
      rw [this, Bool.false_and, cond_false]
      rfl
    | cons f fs =>
      have hx : x < r4.2.2.1.length := by
        rcases Nat.lt_or_ge x r4.2.2.1.length with h' | h'
        · exact h'
        · rw [List.drop_of_length_le h'] at hy; cases hy
      rw [List.drop_eq_getElem_cons hx, List.cons_append] at hy
      injection hy with hy1 hy2
      have d1 : decide (((x : Nat) : Int) < ((x + (f :: fs).length : Nat) : Int)) = true := by simp only [List.length_cons, decide_eq_true_eq]; omega
      rw [d1, dec_lt hx, Bool.and_self, cond_true, if_pos (idx_ok hx), Nat.zero_add, Int.toNat_natCast, getD_lt _ _ hx, hy1]
      obtain ⟨t, ht, hp⟩ := hall f List.mem_cons_self
      have hany : since.any (fun (p : Int × Int) => decide ((p.2 : Int) < t)) = false := by
        rw [List.any_eq_false]
        intro p hpm
        simpa using hp p hpm
      rw [ht]
      simp only [Option.isSome_some, Bool.not_true, cond_false, Option.getD_some]
      rw [hany, cond_false, if_pos (idx_ok hx), wrap_nat (n := x + 1) (by omega) (by omega)]
      have hnd' := List.nodup_cons.1 hfs
      have := ih fs (mdelete f ret) (x + 1) (by simp only [List.length_cons] at hn; omega) (nodup_mdelete f ret hnd) hnd'.2 (fun g hg => by
        obtain ⟨u, hu, hq⟩ := hall g (List.mem_cons_of_mem _ hg)
        refine ⟨u, ?_, hq⟩
        rw [mget_mdelete f g ret hnd, if_neg (fun e : g = f => hnd'.1 (by rw [← e]; exact hg))]
        exact hu) ⟨y, hy2⟩ (by rw [hm]; simp only [List.length_cons]; omega)
      rw [this]
      simp only [List.length_cons]
      rw [show x + 1 + fs.length = x + (fs.length + 1) by omega]
      rfl

theorem safe_l5_eq (r4 : List Int × List Int × List Int × List Int) (x12 : Int) (k : Nat) (m14 m15 : List (Int × Int)) (K : List (Int × Int) → List (Int × Int) → Int → Option Bool) (since : List (Int × Int)) (hF : r4.2.2.1.length ≤ 140737488355328) (hk : k < r4.2.1.length) :
    ∀ (n : Nat) (fs : List Int) (ret : List (Int × Int)) (x : Nat), fs.length < n → (mkeys ret).Nodup → fs.Nodup → (∀ f ∈ fs, ∃ t, mget f ret = some t ∧ ∀ p ∈ since, ¬ p.2 < t) → (∃ y, r4.2.2.1.drop x = fs ++ y) → r4.2.1.getD k 0 = ((x + fs.length : Nat) : Int) →
    keep_GraceSafe_l5 r4 x12 k m14 m15 K n since ret (x : Int) = K since (delAll fs ret) ((x + fs.length : Nat) : Int) := by
  intro n
  induction n with
  | zero => intro fs ret x h; omega
  | succ n ih =>
    intro fs ret x hn hnd hfs hall ⟨y, hy⟩ hm
    unfold keep_GraceSafe_l5
    rw [if_pos (idx_ok hk), Nat.zero_add, hm]
    cases fs with
    | nil =>
      have : decide (((x : Nat) : Int) < ((x + ([] : List Int).length : Nat) : Int)) = false := by simp
      rw [this, Bool.false_and, cond_false]
      rfl
    | cons f fs =>
      have hx : x < r4.2.2.1.length := by
        rcases Nat.lt_or_ge x r4.2.2.1.length with h' | h'
        · exact h'
        · rw [List.drop_of_length_le h'] at hy; cases hy
      rw [List.drop_eq_getElem_cons hx, List.cons_append] at hy
      injection hy with hy1 hy2
      have d1 : decide (((x : Nat) : Int) < ((x + (f :: fs).length : Nat) : Int)) = true := by simp only [List.length_cons, decide_eq_true_eq]; omega
      rw [d1, dec_lt hx, Bool.and_self, cond_true, if_pos (idx_ok hx), Nat.zero_add, Int.toNat_natCast, getD_lt _ _ hx, hy1]
      obtain ⟨t, ht, hp⟩ := hall f List.mem_cons_self
      have hany : since.any (fun (p : Int × Int) => decide ((p.2 : Int) < t)) = false := by
        rw [List.any_eq_false]
        intro p hpm
        simpa using hp p hpm
      rw [ht]
      simp only [Option.isSome_some, Bool.not_true, cond_false, Option.getD_some]
      rw [hany, cond_false, if_pos (idx_ok hx), wrap_nat (n := x + 1) (by omega) (by omega)]
      have hnd' := List.nodup_cons.1 hfs
      have := ih fs (mdelete f ret) (x + 1) (by simp only [List.length_cons] at hn; omega) (nodup_mdelete f ret hnd) hnd'.2 (fun g hg => by
        obtain ⟨u, hu, hq⟩ := hall g (List.mem_cons_of_mem _ hg)
        refine ⟨u, ?_, hq⟩
        rw [mget_mdelete f g ret hnd, if_neg (fun e : g = f => hnd'.1 (by rw [← e]; exact hg))]
        exact hu) ⟨y, hy2⟩ (by rw [hm]; simp only [List.length_cons]; omega)
      rw [this]
      simp only [List.length_cons]
      rw [show x + 1 + fs.length = x + (fs.length + 1) by omega]
      rfl

theorem free_ext (s : GS) (o : Api_GraceOp) : ∃ x, (stepG s o).2.freed_ = s.freed_ ++ x := by
  unfold stepG
  repeat' split
  all_goals first
    | exact ⟨_, rfl⟩
    | exact ⟨[], by simp⟩
theorem play_ext : ∀ (ops : List Api_GraceOp) (s : GS), ∃ x, (playG s ops).2.2.freed_ = s.freed_ ++ x
  | [], s => ⟨[], by simp [playG]⟩
  | o :: r, s => by
    obtain ⟨x, hx⟩ := free_ext s o
    obtain ⟨y, hy⟩ := play_ext r (stepG s o).2
    exact ⟨x ++ y, by show (playG (stepG s o).2 r).2.2.freed_ = _; rw [hy, hx, List.append_assoc]⟩

/-- What the two maps tell, ahead of the k-th thing. -/
structure J (k : Nat) (s : GS) (since ret : List (Int × Int)) : Prop where
  n1 : (mkeys since).Nodup
  n2 : (mkeys ret).Nodup
  looks : ∀ p ∈ since, 0 ≤ p.1 ∧ p.1 < 8 ∧ s.in_ p.1.toNat = true
  waits : ∀ r ∈ s.waits_, ∃ t, mget r.thing_ ret = some t ∧ t < (k : Int) ∧ ∀ p ∈ since, p.2 < t → r.cores_ p.1.toNat = true
  things : (s.waits_.map (·.thing_)).Nodup

/-- .. with some things freed. -/
theorem J.free {k : Nat} {i : Nat → Bool} {W : List Grace_retired} {F : List Int} {since ret : List (Int × Int)} (h : J k ⟨i, W, F⟩ since ret) :
    ((W.filter emp).map (·.thing_)).Nodup ∧ (∀ f ∈ (W.filter emp).map (·.thing_), ∃ t, mget f ret = some t ∧ ∀ p ∈ since, ¬ p.2 < t) ∧ J k (freeF ⟨i, W, F⟩) since (delAll ((W.filter emp).map (·.thing_)) ret) := by
  refine ⟨(List.filter_sublist.map _).nodup h.things, fun f hf => ?_, ⟨h.n1, nodup_delAll _ h.n2, h.looks, fun r hr => ?_, ?_⟩⟩
  · obtain ⟨r, hr, rfl⟩ := List.mem_map.1 hf
    obtain ⟨hr, he⟩ := List.mem_filter.1 hr
    obtain ⟨t, h1, h2, h3⟩ := h.waits r hr
    refine ⟨t, h1, fun p hp hlt => ?_⟩
    have h4 := h3 p hp hlt
    have h5 := h.looks p hp
    rw [(emp_iff r).1 he _ (by omega)] at h4
    cases h4
  · simp only [freeF, List.mem_filter, Bool.not_eq_true'] at hr
    obtain ⟨t, h1, h2, h3⟩ := h.waits r hr.1
    refine ⟨t, ?_, h2, h3⟩
    rw [mget_delAll _ _ h.n2 ?_]
    · exact h1
    intro hm
    obtain ⟨q, hq, hqt⟩ := List.mem_map.1 hm
    obtain ⟨hq1, hq2⟩ := List.mem_filter.1 hq
    have : q = r := by
      have hn := h.things
      rw [List.nodup_iff_pairwise_ne, List.pairwise_map] at hn
      obtain ⟨a, ha, rfl⟩ := List.getElem_of_mem hq1
      obtain ⟨b, hb, rfl⟩ := List.getElem_of_mem hr.1
      rw [List.pairwise_iff_getElem] at hn
      rcases Nat.lt_trichotomy a b with hab | hab | hab
      · exact absurd hqt (hn a b ha hb hab)
      · subst hab; rfl
      · exact absurd hqt.symm (hn b a hb ha hab)
    rw [this, hr.2] at hq2
    cases hq2
  · exact (List.filter_sublist.map _).nodup h.things

/-- What a thing turns the two maps into. -/
def sinceN (k : Nat) (o : Api_GraceOp) (e : Int) (since : List (Int × Int)) : List (Int × Int) :=
  if e = 0 then (if o.Kind = 1 then mput o.Core k since else if o.Kind = 2 then mdelete o.Core since else since) else since
def retN (k : Nat) (o : Api_GraceOp) (e : Int) (ret : List (Int × Int)) : List (Int × Int) :=
  if e = 0 then (if o.Kind = 1 then ret else if o.Kind = 2 then ret else mput o.Thing k ret) else ret

theorem J.step {k : Nat} {s : GS} {since ret : List (Int × Int)} (h : J k s since ret) (o : Api_GraceOp) :
    ∃ fs, (stepG s o).2.freed_ = s.freed_ ++ fs ∧ fs.Nodup ∧ (∀ f ∈ fs, ∃ t, mget f (retN k o (stepG s o).1 ret) = some t ∧ ∀ p ∈ sinceN k o (stepG s o).1 since, ¬ p.2 < t) ∧
      (mkeys (retN k o (stepG s o).1 ret)).Nodup ∧ J (k + 1) (stepG s o).2 (sinceN k o (stepG s o).1 since) (delAll fs (retN k o (stepG s o).1 ret)) := by
  have same : ∀ e, e ≠ 0 → stepG s o = (e, s) → ∃ fs, (stepG s o).2.freed_ = s.freed_ ++ fs ∧ fs.Nodup ∧ (∀ f ∈ fs, ∃ t, mget f (retN k o (stepG s o).1 ret) = some t ∧ ∀ p ∈ sinceN k o (stepG s o).1 since, ¬ p.2 < t) ∧
      (mkeys (retN k o (stepG s o).1 ret)).Nodup ∧ J (k + 1) (stepG s o).2 (sinceN k o (stepG s o).1 since) (delAll fs (retN k o (stepG s o).1 ret)) := by
    intro e he hs
    rw [hs]
    have e1 : retN k o e ret = ret := by simp [retN, he]
    have e2 : sinceN k o e since = since := by simp [sinceN, he]
    refine ⟨[], by simp, by simp, by simp, by rw [e1]; exact h.n2, ?_⟩
    rw [e1, e2]
    exact ⟨h.n1, h.n2, h.looks, fun r hr => by
      obtain ⟨t, h1, h2, h3⟩ := h.waits r hr
      exact ⟨t, h1, by omega, h3⟩, h.things⟩
  by_cases g1 : o.Kind < 1 ∨ 3 < o.Kind
  · exact same 5 (by decide) (by simp [stepG, g1])
  by_cases g3 : o.Kind = 3
  · by_cases gw : s.waits_.any (fun r => r.thing_ == o.Thing) = true
    · exact same 6 (by decide) (by simp only [stepG, if_neg g1, if_pos g3, if_pos gw])
    have hs : stepG s o = (0, freeF ⟨s.in_, s.waits_ ++ [⟨o.Thing, s.in_⟩], s.freed_⟩) := by simp only [stepG, if_neg g1, if_pos g3, if_neg gw]
    have e1 : retN k o 0 ret = mput o.Thing (k : Int) ret := by simp [retN, g3]
    have e2 : sinceN k o 0 since = since := by simp [sinceN, g3]
    rw [hs]
    simp only [e1, e2]
    have hgw : ∀ r ∈ s.waits_, r.thing_ ≠ o.Thing := by
      intro r hr he
      exact gw (List.any_eq_true.2 ⟨r, hr, by simpa using he⟩)
    have hJ : J (k + 1) ⟨s.in_, s.waits_ ++ [⟨o.Thing, s.in_⟩], s.freed_⟩ since (mput o.Thing (k : Int) ret) := by
      refine ⟨h.n1, nodup_mput _ _ _ h.n2, h.looks, fun r hr => ?_, ?_⟩
      · rcases List.mem_append.1 hr with hr | hr
        · obtain ⟨t, h1, h2, h3⟩ := h.waits r hr
          exact ⟨t, by rw [mget_mput, if_neg (hgw r hr)]; exact h1, by omega, h3⟩
        · rw [List.mem_singleton] at hr
          subst hr
          exact ⟨(k : Int), by rw [mget_mput, if_pos rfl], by omega, fun p hp _ => (h.looks p hp).2.2⟩
      · rw [List.map_append, List.nodup_append]
        refine ⟨h.things, by simp, fun a ha b hb => ?_⟩
        obtain ⟨r, hr, rfl⟩ := List.mem_map.1 ha
        simp at hb
        rw [hb]
        exact hgw r hr
    obtain ⟨f1, f2, f3⟩ := hJ.free
    exact ⟨_, rfl, f1, f2, hJ.n2, f3⟩
  by_cases gc : o.Core < 0 ∨ 8 ≤ o.Core
  · exact same 2 (by decide) (by simp only [stepG, if_neg g1, if_neg g3, if_pos gc])
  have hc0 : 0 ≤ o.Core ∧ o.Core < 8 := by omega
  by_cases gk : o.Kind = 1
  · by_cases gi : s.in_ o.Core.toNat = true
    · exact same 6 (by decide) (by simp only [stepG, if_neg g1, if_neg g3, if_neg gc, if_pos gk, if_pos gi])
    have hs : stepG s o = (0, ⟨upd s.in_ o.Core.toNat true, s.waits_, s.freed_⟩) := by simp only [stepG, if_neg g1, if_neg g3, if_neg gc, if_pos gk, if_neg gi]
    have e1 : retN k o 0 ret = ret := by simp [retN, gk]
    have e2 : sinceN k o 0 since = mput o.Core (k : Int) since := by simp [sinceN, gk]
    rw [hs]
    simp only [e1, e2]
    refine ⟨[], by simp, by simp, by simp, h.n2, ⟨nodup_mput _ _ _ h.n1, h.n2, fun p hp => ?_, fun r hr => ?_, h.things⟩⟩
    · rcases mem_of_mput _ _ _ _ hp with rfl | hp
      · exact ⟨hc0.1, hc0.2, upd_same _ _ _⟩
      · obtain ⟨a, b, c⟩ := h.looks p hp
        refine ⟨a, b, ?_⟩
        simp only [upd]
        split
        · rfl
        · exact c
    · obtain ⟨t, h1, h2, h3⟩ := h.waits r hr
      refine ⟨t, h1, by omega, fun p hp hlt => ?_⟩
      rcases mem_of_mput _ _ _ _ hp with rfl | hp
      · exact absurd hlt (by show ¬ (k : Int) < t; omega)
      · exact h3 p hp hlt
  · have gk2 : o.Kind = 2 := by omega
    by_cases gi : s.in_ o.Core.toNat = true
    · have hs : stepG s o = (0, freeF ⟨upd s.in_ o.Core.toNat false, s.waits_.map (clr o.Core.toNat), s.freed_⟩) := by simp only [stepG, if_neg g1, if_neg g3, if_neg gc, if_neg gk, if_pos gi]
      have e1 : retN k o 0 ret = ret := by simp [retN, gk2]
      have e2 : sinceN k o 0 since = mdelete o.Core since := by simp [sinceN, gk2]
      rw [hs]
      simp only [e1, e2]
      have hne : ∀ p ∈ mdelete o.Core since, p ∈ since ∧ p.1.toNat ≠ o.Core.toNat := by
        intro p hp
        have h1 := mem_of_mdelete _ _ _ hp
        have h2 := mem_mdelete_ne _ _ h.n1 _ hp
        have h3 := h.looks p h1
        exact ⟨h1, by omega⟩
      have hJ : J (k + 1) ⟨upd s.in_ o.Core.toNat false, s.waits_.map (clr o.Core.toNat), s.freed_⟩ (mdelete o.Core since) ret := by
        refine ⟨nodup_mdelete _ _ h.n1, h.n2, fun p hp => ?_, fun r hr => ?_, ?_⟩
        · obtain ⟨h1, h2⟩ := hne p hp
          obtain ⟨a, b, c⟩ := h.looks p h1
          refine ⟨a, b, ?_⟩
          show upd s.in_ _ false _ = true
          rw [upd_other _ _ h2]; exact c
        · obtain ⟨r0, hr0, rfl⟩ := List.mem_map.1 hr
          obtain ⟨t, h1, h2, h3⟩ := h.waits r0 hr0
          refine ⟨t, h1, by omega, fun p hp hlt => ?_⟩
          obtain ⟨g1, g2⟩ := hne p hp
          show upd r0.cores_ _ false _ = true
          rw [upd_other _ _ g2]; exact h3 p g1 hlt
        · rw [List.map_map]
          exact h.things
      obtain ⟨f1, f2, f3⟩ := hJ.free
      exact ⟨_, rfl, f1, f2, hJ.n2, f3⟩
    · exact same 3 (by decide) (by simp only [stepG, if_neg g1, if_neg g3, if_neg gc, if_neg gk, if_neg gi])

theorem safe_l1_eq (ops : List Api_GraceOp) (r4 : List Int × List Int × List Int × List Int) (hlen : ops.length * 24 ≤ 140737488351232) (hF : r4.2.2.1.length ≤ 140737488355328) : ∀ (n k : Nat) (s : GS) (since ret : List (Int × Int)), J k s since ret → k ≤ ops.length → ops.length - k < n →
    r4.1.drop k = (playG s (ops.drop k)).1 → r4.2.1.drop k = (playG s (ops.drop k)).2.1 → r4.2.2.1 = (playG s (ops.drop k)).2.2.freed_ →
    keep_GraceSafe_l1 ops r4 n (s.freed_.length : Int) k since ret = some true := by
  intro n
  induction n with
  | zero => intro k s since ret _ h1 h2; omega
  | succ n ih =>
    intro k s since ret hJ h1 h2 hE hM hFF
    unfold keep_GraceSafe_l1
    rcases Nat.lt_or_ge k ops.length with hlt | hge
    · rw [dec_lt hlt, cond_true]
      rw [List.drop_eq_getElem_cons hlt] at hE hM hFF
      change r4.1.drop k = (stepG s ops[k]).1 :: (playG (stepG s ops[k]).2 (ops.drop (k + 1))).1 at hE
      change r4.2.1.drop k = ((stepG s ops[k]).2.freed_.length : Int) :: (playG (stepG s ops[k]).2 (ops.drop (k + 1))).2.1 at hM
      change r4.2.2.1 = (playG (stepG s ops[k]).2 (ops.drop (k + 1))).2.2.freed_ at hFF
      have key : ∀ {α : Type} (l : List α) (x : α) (r : List α), l.drop k = x :: r → ∃ h : k < l.length, l[k] = x ∧ l.drop (k + 1) = r := by
        intro α l x r h
        have hl : k < l.length := by
          rcases Nat.lt_or_ge k l.length with h' | h'
          · exact h'
          · rw [List.drop_of_length_le h'] at h; cases h
        rw [List.drop_eq_getElem_cons hl] at h
        injection h with a b
        exact ⟨hl, a, b⟩
      obtain ⟨he1, he2, he3⟩ := key _ _ _ hE
      obtain ⟨hm1, hm2, hm3⟩ := key _ _ _ hM
      rw [if_pos (idx_ok he1), Nat.zero_add, getD_lt _ _ he1, getD_lt _ _ hlt, he2]
      obtain ⟨fs, f1, f2, f3, f4, f5⟩ := hJ.step ops[k]
      obtain ⟨y, hy⟩ := play_ext (ops.drop (k + 1)) (stepG s ops[k]).2
      have hdrop : r4.2.2.1.drop s.freed_.length = fs ++ y := by rw [hFF, hy, f1, List.append_assoc, List.drop_left]
      have hmany : r4.2.1.getD k 0 = ((s.freed_.length + fs.length : Nat) : Int) := by rw [getD_lt _ _ hm1, hm2, f1, List.length_append]
      have hxl : s.freed_.length + fs.length ≤ r4.2.2.1.length := by rw [hFF, hy, f1]; simp
      have hnext := ih (k + 1) (stepG s ops[k]).2 _ _ f5 (by omega) (by omega) he3 hm3 hFF
      rw [f1, List.length_append] at hnext
      generalize hs' : (stepG s ops[k]).1 = e at *
      have hfu : fs.length < FUEL := fuel_gt (by omega)
      by_cases e0 : e = 0
      · have : ((e : Int) == 0) = true := by simpa using e0
        rw [this, cond_true]
        by_cases k1 : ops[k].Kind = 1
        · have : ((ops[k].Kind : Int) == 1) = true := by simpa using k1
          rw [this, cond_true]
          have e1 : sinceN k ops[k] e since = mput ops[k].Core (k : Int) since := by simp [sinceN, e0, k1]
          have e2 : retN k ops[k] e ret = ret := by simp [retN, e0, k1]
          rw [e1, e2] at f5 hnext; rw [e1] at f3; rw [e2] at f3 f4
          rw [safe_l2_eq _ _ _ _ _ _ _ _ hF hm1 FUEL fs ret s.freed_.length hfu f4 f2 f3 ⟨y, hdrop⟩ hmany]
          exact hnext
        · have : ((ops[k].Kind : Int) == 1) = false := by simpa using k1
          rw [this, cond_false]
          by_cases k2 : ops[k].Kind = 2
          · have : ((ops[k].Kind : Int) == 2) = true := by simpa using k2
            rw [this, cond_true]
            have e1 : sinceN k ops[k] e since = mdelete ops[k].Core since := by simp [sinceN, e0, k2]
            have e2 : retN k ops[k] e ret = ret := by simp [retN, e0, k2]
            rw [e1, e2] at f5 hnext; rw [e1] at f3; rw [e2] at f3 f4
            rw [safe_l3_eq _ _ _ _ _ _ _ _ hF hm1 FUEL fs ret s.freed_.length hfu f4 f2 f3 ⟨y, hdrop⟩ hmany]
            exact hnext
          · have : ((ops[k].Kind : Int) == 2) = false := by simpa using k2
            rw [this, cond_false]
            have e1 : sinceN k ops[k] e since = since := by simp [sinceN, e0, k1, k2]
            have e2 : retN k ops[k] e ret = mput ops[k].Thing (k : Int) ret := by simp [retN, e0, k1, k2]
            rw [e1, e2] at f5 hnext; rw [e1] at f3; rw [e2] at f3 f4
            rw [safe_l4_eq _ _ _ _ _ _ _ _ hF hm1 FUEL fs _ s.freed_.length hfu f4 f2 f3 ⟨y, hdrop⟩ hmany]
            exact hnext
      · have : ((e : Int) == 0) = false := by simpa using e0
        rw [this, cond_false]
        have e1 : sinceN k ops[k] e since = since := by simp [sinceN, e0]
        have e2 : retN k ops[k] e ret = ret := by simp [retN, e0]
        rw [e1, e2] at f5 hnext; rw [e1] at f3; rw [e2] at f3 f4
        rw [safe_l5_eq _ _ _ _ _ _ _ hF hm1 FUEL fs ret s.freed_.length hfu f4 f2 f3 ⟨y, hdrop⟩ hmany]
        exact hnext
    · rw [dec_ge hge, cond_false]
      rw [List.drop_of_length_le hge] at hFF
      rw [hFF]
      simp [playG]

theorem GraceSafe_true (a0 : List Api_GraceOp) (h : a0.length * 24 ≤ 140737488351232 ∧ ∀ y ∈ a0, Ok_Api_GraceOp y) : keep_GraceSafe a0 = some true := by
  unfold keep_GraceSafe
  have hl := h.1
  have hL : ∀ (ops : List Api_GraceOp) (s : GS), (playG s ops).1.length = ops.length ∧ (playG s ops).2.1.length = ops.length ∧ (stG s ops).waits_.length + (stG s ops).freed_.length ≤ s.waits_.length + s.freed_.length + ops.length := by
    intro ops
    induction ops with
    | nil => intro s; simp [stG, playG]
    | cons o r ih =>
      intro s
      have h1 := ih (stepG s o).2
      have h2 := stepG_len s o
      refine ⟨?_, ?_, ?_⟩
      · show (_ :: (playG (stepG s o).2 r).1).length = _; simp [h1.1]
      · show (_ :: (playG (stepG s o).2 r).2.1).length = _; simp [h1.2.1]
      · rw [stG_cons]; simp only [List.length_cons]; omega
  obtain ⟨h1, h2, h3⟩ := hL a0 st0
  have hb0 : st0.waits_.length + st0.freed_.length = 0 := rfl
  have hs : (playG st0 a0).2.2 = stG st0 a0 := rfl
  rw [alive24_eq, Option.bind_some, Bool.not_true, cond_false, Play_eq _ (by omega), Option.bind_some]
  simp only [h1, h2, bne_self_eq_false, Bool.or_self, cond_false]
  refine safe_l1_eq a0 _ hl (by simp only [hs]; omega) FUEL 0 st0 [] [] ⟨by simp [mkeys], by simp [mkeys], by simp, by simp [st0], by simp [st0]⟩ (by omega) (fuel_gt (by omega)) rfl rfl rfl


theorem mget_of_mem {α : Type} : ∀ (m : List (Int × α)), (mkeys m).Nodup → ∀ p ∈ m, mget p.1 m = some p.2
  | [], _, p, hp => by simp at hp
  | q :: r, hn, p, hp => by
    have hn' := List.nodup_cons.1 (show (q.1 :: mkeys r).Nodup from hn)
    unfold mget
    rcases List.mem_cons.1 hp with rfl | hp
    · have : (p.1 == p.1) = true := by simp
      rw [this]; rfl
    · have : (p.1 == q.1) = false := by
        simp only [beq_eq_false_iff_ne]
        intro e
        exact hn'.1 (by rw [← e]; exact List.mem_map.2 ⟨p, hp, rfl⟩)
      rw [this, cond_false]
      exact mget_of_mem r hn'.2 p hp

def cat (s : GS) : List Int := s.freed_ ++ s.waits_.map (·.thing_)
theorem cat_free (t : GS) (x : Int) : (cat (freeF t)).count x = (cat t).count x := by
  have : ∀ l : List Grace_retired, ((l.filter emp).map (·.thing_)).count x + ((l.filter (fun r => !emp r)).map (·.thing_)).count x = (l.map (·.thing_)).count x := by
    intro l
    induction l with
    | nil => rfl
    | cons r l ih => cases h : emp r <;> simp [h, List.count_cons] <;> omega
  have := this t.waits_
  simp only [cat, freeF, List.count_append]
  omega
theorem cat_step (s : GS) (o : Api_GraceOp) (x : Int) : (cat (stepG s o).2).count x = (cat s).count x + (if (stepG s o).1 = 0 ∧ o.Kind = 3 ∧ o.Thing = x then 1 else 0) := by
  unfold stepG
  split
  · simp
  split
  · rename_i h3
    split
    · simp
    · rw [cat_free]
      simp only [cat, List.map_append, List.count_append, List.map_cons, List.map_nil, h3, true_and, List.count_singleton, beq_iff_eq]
      omega
  rename_i h3
  split
  · simp [h3]
  split
  · split
    · simp [h3]
    · simp [h3, cat]
  · split
    · rw [cat_free]
      simp only [h3, false_and, and_false, if_false, cat, List.map_map, Nat.add_zero]
      rfl
    · simp [h3]

theorem once_l2_eq (a0 : List Api_GraceOp) (r4 : List Int × List Int × List Int × List Int) (m7 : List (Int × Int)) (L : List Int) (hL : L.length ≤ 140737488355328) (hr : r4.1.length = a0.length) :
    ∀ (n k : Nat) (m : List (Int × Int)), (mkeys m).Nodup → (∀ x, (mget x m).getD 0 = (((L.drop k).count x : Nat) : Int)) → k ≤ L.length → L.length - k < n → keep_GraceOnce_l2 a0 r4 m7 L n k m = some true := by
  intro n
  induction n with
  | zero => intro k m _ _ h1 h2; omega
  | succ n ih =>
    intro k m hn hm h1 h2
    unfold keep_GraceOnce_l2
    rcases Nat.lt_or_ge k L.length with hlt | hge
    · have hd := List.drop_eq_getElem_cons hlt
      have hc : (L.drop k).count L[k] = (L.drop (k + 1)).count L[k] + 1 := by rw [hd, List.count_cons_self]
      have hle : (L.drop (k + 1)).count L[k] ≤ L.length := Nat.le_trans List.count_le_length (by simp)
      rw [dec_lt hlt, cond_true, Nat.zero_add, getD_lt _ _ hlt, hm, hc, wrap_id (by omega) (by omega)]
      refine ih (k + 1) _ (nodup_mput _ _ _ hn) (fun x => ?_) (by omega) (by omega)
      rw [mget_mput]
      split
      · rename_i hx
        subst hx
        simp only [Option.getD_some]
        omega
      · rename_i hx
        rw [hm x, hd, List.count_cons_of_ne (fun e => hx e.symm)]
    · rw [dec_ge hge, cond_false]
      have hany : m.any (fun (p : Int × Int) => (p.2 : Int) != 0) = false := by
        rw [List.any_eq_false]
        intro p hp
        have h3 := hm p.1
        rw [mget_of_mem m hn p hp, List.drop_of_length_le hge] at h3
        simp at h3
        simp [h3]
      rw [hany, cond_false, hr]
      simp

theorem once_l1_eq (ops : List Api_GraceOp) (r4 : List Int × List Int × List Int × List Int) (hlen : ops.length * 24 ≤ 140737488351232) (hr : r4.1.length = ops.length) : ∀ (n k : Nat) (s : GS) (m : List (Int × Int)), (mkeys m).Nodup → (∀ x, (mget x m).getD 0 = (((cat s).count x : Nat) : Int)) →
    s.waits_.length + s.freed_.length ≤ k → k ≤ ops.length → ops.length - k < n →
    r4.1.drop k = (playG s (ops.drop k)).1 → r4.2.2 = ((playG s (ops.drop k)).2.2.freed_, (playG s (ops.drop k)).2.2.waits_.map (·.thing_)) →
    keep_GraceOnce_l1 ops r4 n k m = some true := by
  intro n
  induction n with
  | zero => intro k s m _ _ _ h1 h2; omega
  | succ n ih =>
    intro k s m hn hm hs h1 h2 hE hF
    have hcl : ∀ x, (cat s).count x ≤ k := fun x => Nat.le_trans List.count_le_length (by simp [cat]; omega)
    unfold keep_GraceOnce_l1
    rcases Nat.lt_or_ge k ops.length with hlt | hge
    · have hlt4 : k < r4.1.length := by omega
      rw [List.drop_eq_getElem_cons hlt] at hE hF
      change r4.1.drop k = (stepG s ops[k]).1 :: (playG (stepG s ops[k]).2 (ops.drop (k + 1))).1 at hE
      change r4.2.2 = ((playG (stepG s ops[k]).2 (ops.drop (k + 1))).2.2.freed_, (playG (stepG s ops[k]).2 (ops.drop (k + 1))).2.2.waits_.map (·.thing_)) at hF
      rw [List.drop_eq_getElem_cons hlt4] at hE
      injection hE with hE1 hE2
      have hst := stepG_len s ops[k]
      have hnext : ∀ m' : List (Int × Int), (mkeys m').Nodup → (∀ x, (mget x m').getD 0 = (((cat (stepG s ops[k]).2).count x : Nat) : Int)) → _ := fun m' a b => ih (k + 1) (stepG s ops[k]).2 m' a b (by omega) (by omega) (by omega) hE2 hF
      rw [dec_lt hlt, cond_true, dec_lt hlt4, if_pos (fun _ => idx_ok hlt4), getD_lt _ _ hlt4, getD_lt _ _ hlt, hE1, Bool.true_and]
      by_cases hc : (stepG s ops[k]).1 = 0 ∧ ops[k].Kind = 3
      · have : (((stepG s ops[k]).1 : Int) == 0 && ((ops[k].Kind : Int) == 3)) = true := by simp [hc.1, hc.2]
        have hk := hcl ops[k].Thing
        rw [this, cond_true, hm, wrap_id (by omega) (by omega)]
        refine hnext _ (nodup_mput _ _ _ hn) fun x => ?_
        rw [mget_mput, cat_step]
        split
        · rename_i hx
          subst hx
          rw [if_pos ⟨hc.1, hc.2, rfl⟩]
          simp
        · rename_i hx
          rw [if_neg (fun h => hx h.2.2.symm), hm x]
          simp
      · have : (((stepG s ops[k]).1 : Int) == 0 && ((ops[k].Kind : Int) == 3)) = false := by
          simp only [Bool.and_eq_false_iff, beq_eq_false_iff_ne, ne_eq]
          by_cases h0 : (stepG s ops[k]).1 = 0
          · exact .inr fun h => hc ⟨h0, h⟩
          · exact .inl h0
        rw [this, cond_false]
        refine hnext _ hn fun x => ?_
        rw [cat_step, if_neg (fun h => hc ⟨h.1, h.2.1⟩), hm x]
        simp
    · rw [dec_ge hge, cond_false]
      rw [List.drop_of_length_le hge] at hF
      simp only [playG] at hF
      rw [hF]
      have hcat : s.freed_ ++ s.waits_.map (·.thing_) = cat s := rfl
      have hl : (cat s).length ≤ k := by simp [cat]; omega
      rw [slices_Concat_int_eq _ (by simp) (by simp; omega), Option.bind_some, show [s.freed_, s.waits_.map (·.thing_)].flatten = cat s by simp [cat]]
      exact once_l2_eq ops r4 m _ (by omega) hr FUEL 0 m hn (by simpa using hm) (by omega) (fuel_gt (by omega))

theorem GraceOnce_true (a0 : List Api_GraceOp) (h : a0.length * 24 ≤ 140737488351232 ∧ ∀ y ∈ a0, Ok_Api_GraceOp y) : keep_GraceOnce a0 = some true := by
  unfold keep_GraceOnce
  have hl := h.1
  have hL : ∀ (ops : List Api_GraceOp) (s : GS), (playG s ops).1.length = ops.length := by
    intro ops
    induction ops with
    | nil => intro s; rfl
    | cons o r ih =>
      intro s
      show (_ :: (playG (stepG s o).2 r).1).length = _; simp [ih]
  rw [alive24_eq, Option.bind_some, Bool.not_true, cond_false, Play_eq _ (by omega), Option.bind_some]
  exact once_l1_eq a0 _ hl (hL a0 st0) FUEL 0 st0 [] (by simp [mkeys]) (by intro x; simp [mget, cat, st0]) (by simp [st0]) (by omega) (fuel_gt (by omega)) rfl rfl

end Go.Proofs.Ytdfgmloipigmfaa
