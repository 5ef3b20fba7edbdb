import Derived.Test.YthmieigenefilaaGreatDoorQBYPvec
import Derived.Test.YthmieigenefilaaGreatDoorQBYPline
import Derived.Test.YthmieigenefilaaGreatDoorQBYK
set_option linter.unusedSimpArgs false
set_option linter.unusedVariables false
namespace Go.Proofs.YthmieigenefilaaGreatDoor
open Go Go.Ab
theorem alive_eq : top_alive = some true := by decide +kernel
theorem stepP_same (p : Api_Pin) (k : Int) : (stepP p k).2.Core = p.Core ∧ (stepP p k).2.Vec = p.Vec := by
 have hc : (chg p k).Core = p.Core ∧ (chg p k).Vec = p.Vec := by
  unfold chg
  split
  ·exact ⟨rfl, rfl⟩
  ·split <;> exact ⟨rfl, rfl⟩
 have hf : ∀ (q : Api_Pin) (e : Bool), (fireF q e).2.Core = q.Core ∧ (fireF q e).2.Vec = q.Vec := by
  intro q e
  unfold fireF
  split
  ·split <;> exact ⟨rfl, rfl⟩
  ·split
   ·exact ⟨rfl, rfl⟩
   ·split <;> exact ⟨rfl, rfl⟩
 unfold stepP
 exact ⟨(hf _ _).1.trans hc.1, (hf _ _).2.trans hc.2⟩
def Of (l : List Api_Pin) (s : Api_Sent) : Prop := ∃ j : Nat, j < l.length ∧ s.Pin = j ∧ s.Core = (l.getD j PZ).Core ∧ s.Vec = (l.getD j PZ).Vec
structure Same (l m : List Api_Pin) : Prop where
 len : m.length = l.length
 right : rightB m = true
 at_ : ∀ j, j < l.length → (m.getD j PZ).Core = (l.getD j PZ).Core ∧ (m.getD j PZ).Vec = (l.getD j PZ).Vec
theorem play_of (l : List Api_Pin) (ops : List Api_PinOp) (hops : ops.length * 16 ≤ 140737488351232) : ∀ n k (m : List Api_Pin) (s : List Api_Sent), k ≤ ops.length → ops.length - k < n → s.length ≤ k → Same l m → (∀ x ∈ s, Of l x) →
  ∃ m' s', line_Play_l1 l ops n m s k = some (m', s', 0) ∧ s'.length ≤ ops.length ∧ ∀ x ∈ s', Of l x := by
 intro n
 induction n with
 | zero => intro k m s h1 h2; omega
 | succ n ih =>
  intro k m s h1 h2 h3 hm hs
  unfold line_Play_l1
  rcases Nat.lt_or_ge k ops.length with hlt | hge
  ·rw [dec_lt hlt, cond_true, getD_lt _ _ hlt]
   rcases step_cases ops[k] hm.right with ⟨e, he, h⟩ | ⟨k1, k2, k3, hi, h⟩
   ·rw [h, Option.bind_some]
    have : ((e : Int) == 0) = false := by simpa using he
    simp only [this, cond_false]
    exact ih (k + 1) m s (by omega) (by omega) (by omega) hm hs
   ·rw [h, Option.bind_some]
    simp only [beq_self_eq_true, cond_true]
    have hp := right_pin hm.right hi
    obtain ⟨b1, b2⟩ := stepP_same (m.getD ops[k].Pin.toNat PZ) ops[k].Kind
    have b3 := (stepP_ok (m.getD ops[k].Pin.toNat PZ) ops[k].Kind ⟨k1, k2⟩ hp).1
    have hiv : ops[k].Pin = ((ops[k].Pin.toNat : Nat) : Int) := by omega
    generalize ops[k].Pin.toNat = i at *
    generalize stepP (m.getD i PZ) ops[k].Kind = q at *
    have hil : i < l.length := by rw [← hm.len]; exact hi
    have hsl : (sentF ops[k].Pin q).length ≤ 1 := by unfold sentF; split <;> simp
    rw [if_pos (by omega)]
    refine ih (k + 1) _ _ (by omega) (by omega) (by rw [List.length_append]; omega) ⟨by rw [List.length_set]; exact hm.len, right_set hm.right b3 i, fun j hj => ?_⟩ fun x hx => ?_
    ·have ha := hm.at_ j hj
     by_cases hji : j = i
     ·subst hji
      rw [getD_lt _ _ (by rw [List.length_set]; exact hi), List.getElem_set_self, b1, b2]
      exact ha
     ·have : (m.set i q.2).getD j PZ = m.getD j PZ := by
       rw [List.getD_eq_getElem?_getD, List.getD_eq_getElem?_getD, List.getElem?_set_ne (fun e => hji e.symm)]
      rw [this]
      exact ha
    ·rcases List.mem_append.1 hx with hx | hx
     ·exact hs x hx
     ·unfold sentF at hx
      split at hx
      ·obtain rfl := List.mem_singleton.1 hx
       have ha := hm.at_ i hil
       exact ⟨i, hil, hiv, b1.trans ha.1, b2.trans ha.2⟩
      ·simp at hx
  ·rw [dec_ge hge, cond_false]
   unfold slices_Clone_api_Pin
   have := right_len hm.right
   rw [if_pos (by omega), Option.bind_some]
   exact ⟨m, s, rfl, by omega, hs⟩
theorem line_of (l : List Api_Pin) (ops : List Api_PinOp) (hops : ops.length * 16 ≤ 140737488351232) (h : rightB l = true) : ∃ m' s', line_Play l ops = some (m', s', 0) ∧ s'.length ≤ ops.length ∧ ∀ x ∈ s', Of l x := by
 unfold line_Play
 rw [Right_eq, Option.bind_some, h]
 exact play_of l ops hops FUEL 0 l [] (by omega) (fuel_gt (by omega)) (by simp) ⟨rfl, h, fun _ _ => ⟨rfl, rfl⟩⟩ (fun x hx => by simp at hx)
structure Got (t : T) (k : Nat) (l : List Api_Pin) (o : List Int) : Prop where
 len : l.length = o.length
 le : o.length ≤ k
 bad : ∀ p ∈ l, badP p = false
 at_ : ∀ j, j < o.length → ∃ i : Nat, i < k ∧ o.getD j 0 = i ∧ (slot t i).Vec > 0 ∧ (l.getD j PZ).Core = (slot t i).Core ∧ (l.getD j PZ).Vec = (slot t i).Vec
 inj : ∀ j j', j < o.length → j' < o.length → o.getD j 0 = o.getD j' 0 → j = j'
theorem Got.right {t : T} {k : Nat} {l : List Api_Pin} {o : List Int} (h : Got t k l o) (hk : k ≤ 24) : rightB l = true := by
 unfold rightB
 rw [Bool.and_eq_true]
 have := h.len; have := h.le
 refine ⟨by simp only [decide_eq_true_eq]; omega, ?_⟩
 rw [Bool.not_eq_true', List.any_eq_false]
 intro p hp
 rw [h.bad p hp]
 simp
theorem getD_app {α : Type} (l : List α) (x d : α) (j : Nat) : (l ++ [x]).getD j d = if j < l.length then l.getD j d else if j = l.length then x else d := by
 rw [List.getD_eq_getElem?_getD, List.getD_eq_getElem?_getD, List.getElem?_append]
 split
 ·rfl
 ·split
  ·rename_i h; subst h; simp
  ·rw [List.getElem?_eq_none (by simp; omega)]; rfl
theorem Got.more {t : T} {ls k : Nat} {l : List Api_Pin} {o : List Int} (h : Got t k l o) (hi : Inv t 8 ls) (hk : k < ls) (hv : (slot t k).Vec > 0) (b : Bool) :
  Got t (k + 1) (l ++ [⟨(slot t k).Core, (slot t k).Vec, b, false, false, false, false⟩]) (o ++ [((k : Nat) : Int)]) := by
 refine ⟨by simp [h.len], by have := h.le; simp; omega, fun p hp => ?_, fun j hj => ?_, fun j j' hj hj' e => ?_⟩
 ·rcases List.mem_append.1 hp with hp | hp
  ·exact h.bad p hp
  ·obtain rfl := List.mem_singleton.1 hp
   rcases hi.sl k hk with he | ⟨c, v, he, hc, h32, h256, _⟩
   ·rw [he] at hv; simp at hv
   ·rw [he]
    unfold badP
    simp
    omega
 ·rw [List.length_append, List.length_singleton] at hj
  rw [getD_app, getD_app, h.len]
  by_cases hjl : j < o.length
  ·rw [if_pos hjl, if_pos hjl]
   obtain ⟨i, h1, h2⟩ := h.at_ j hjl
   exact ⟨i, by omega, h2⟩
  ·have : j = o.length := by omega
   rw [if_neg hjl, if_pos this, if_neg hjl, if_pos this]
   exact ⟨k, by omega, rfl, hv, rfl, rfl⟩
 ·rw [List.length_append, List.length_singleton] at hj hj'
  rw [getD_app, getD_app] at e
  by_cases h1 : j < o.length <;> by_cases h2 : j' < o.length
  ·rw [if_pos h1, if_pos h2] at e; exact h.inj j j' h1 h2 e
  ·rw [if_pos h1, if_neg h2, if_pos (by omega)] at e
   obtain ⟨i, a1, a2, _⟩ := h.at_ j h1
   omega
  ·rw [if_neg h1, if_pos (by omega), if_pos h2] at e
   obtain ⟨i, a1, a2, _⟩ := h.at_ j' h2
   omega
  ·omega
theorem has_with (v : Nat) (h : v < 256) : ∃ b, bits_With (fun (_ : Nat) => (0 : Int)) ((v : Nat) : Int) = some b ∧ bits_Has b ((v : Nat) : Int) = some true := by
 have hz : okB (fun (_ : Nat) => (0 : Int)) := fun i _ => (by decide : U64 0)
 refine ⟨_, With_eq _ v h, ?_⟩
 rw [Has_eq _ v h (withF_ok hz v), withF_mem hz v v h]
 simp
theorem all_told {t : T} (hi : Inv t 8 24) (es : List Int) (l : List Api_Pin) (o : List Int) (hg : Got t 24 l o) (lx : List Api_Pin) (sent : List Api_Sent) (hs : ∀ x ∈ sent, Of l x) :
  ∀ n k (m : List (Api_Slot × Int)), k ≤ sent.length → sent.length - k < n → (∀ x v, kget x m = some v → ∃ j : Nat, j < o.length ∧ v = j ∧ x = ⟨(l.getD j PZ).Core, (l.getD j PZ).Vec⟩) →
   top_TopVectors_l2 (es, t.of_, 0) o (lx, sent, 0) n k m = some true := by
 intro n
 induction n with
 | zero => intro k m h1 h2; omega
 | succ n ih =>
  intro k m h1 h2 hm
  unfold top_TopVectors_l2
  simp only
  rcases Nat.lt_or_ge k sent.length with hlt | hge
  ·rw [dec_lt hlt, cond_true, Nat.zero_add, getD_lt _ _ hlt]
   obtain ⟨j, hj, e1, e2, e3⟩ := hs _ (List.getElem_mem hlt)
   have hjo : j < o.length := by rw [← hg.len]; exact hj
   obtain ⟨i, hik, f1, f2, f3, f4⟩ := hg.at_ j hjo
   have g2 : sent[k].Core = (slot t i).Core := e2.trans f3
   have g3 : sent[k].Vec = (slot t i).Vec := e3.trans f4
   rw [e1, Int.toNat_natCast, Nat.zero_add, f1, Int.toNat_natCast, Nat.zero_add]
   have hsl : t.of_.getD i (⟨0, 0⟩ : Api_Slot) = slot t i := rfl
   rw [hsl, ← g2, ← g3]
   have c1 : ((decide (((j : Nat) : Int) < 0)) || (decide (((j : Nat) : Int) ≥ ((o.length : Nat) : Int)))) = false := by simp; omega
   rw [c1, cond_false]
   have c2 : (((kget (⟨sent[k].Core, sent[k].Vec⟩ : Api_Slot) m).isSome) && ((((kget (⟨sent[k].Core, sent[k].Vec⟩ : Api_Slot) m).getD 0) : Int) != ((j : Nat) : Int))) = false := by
    cases hk : kget (⟨sent[k].Core, sent[k].Vec⟩ : Api_Slot) m with
    | none => rfl
    | some v =>
     obtain ⟨j', hj', a1, a2⟩ := hm _ _ hk
     obtain ⟨i', hik', b1, b2, b3, b4⟩ := hg.at_ j' hj'
     have hx : slot t i = slot t i' := by
      have q1 : sent[k].Core = (l.getD j' PZ).Core := congrArg Api_Slot.Core a2
      have q2 : sent[k].Vec = (l.getD j' PZ).Vec := congrArg Api_Slot.Vec a2
      have r1 : (slot t i).Core = (slot t i').Core := by rw [← g2, q1, b3]
      have r2 : (slot t i).Vec = (slot t i').Vec := by rw [← g3, q2, b4]
      generalize slot t i = x at r1 r2 ⊢
      generalize slot t i' = y at r1 r2 ⊢
      obtain ⟨xc, xv⟩ := x
      obtain ⟨yc, yv⟩ := y
      simp only at r1 r2
      rw [r1, r2]
     have hii := hi.inj i i' hik hik' f2 hx
     have hjj := hg.inj j j' hjo hj' (by rw [f1, b1, hii])
     subst a1 hjj
     simp
   rw [c2, cond_false, if_pos (by omega), if_pos (by rw [hi.ol]; omega)]
   simp only [beq_self_eq_true, Bool.and_true, Bool.not_true, Bool.not_false, cond_true]
   obtain ⟨v, hv, v1⟩ : ∃ v : Nat, sent[k].Vec = v ∧ v < 256 := by
    rcases hi.sl i hik with he | ⟨c, v, he, _, _, h256, _⟩
    ·rw [he] at f2; simp at f2
    ·exact ⟨v, by rw [g3, he], h256⟩
   obtain ⟨b, w1, w2⟩ := has_with v v1
   rw [hv, w1, Option.bind_some, w2, Option.bind_some]
   simp only [Bool.not_true, Bool.or_false, cond_false]
   refine ih (k + 1) _ (by omega) (by omega) fun x y hx => ?_
   rw [kget_put] at hx
   by_cases hxe : x = (⟨sent[k].Core, ((v : Nat) : Int)⟩ : Api_Slot)
   ·rw [if_pos hxe] at hx
    cases hx
    exact ⟨j, hjo, rfl, by rw [hxe, ← hv, e2, e3]⟩
   ·rw [if_neg hxe] at hx
    exact hm x y hx
  ·rw [dec_ge hge, cond_false]
   rfl
theorem all_got {t : T} (hi : Inv t 8 24) (es : List Int) (a1 : List Bool) (a2 : List Api_PinOp) (h1 : a1.length ≤ 140737488351232) (h2 : a2.length * 16 ≤ 140737488351232) : ∀ n k (l : List Api_Pin) (o : List Int), k ≤ 24 → 24 - k < n → Got t k l o →
  top_TopVectors_l1 a1 a2 (es, t.of_, 0) n l o k = some true := by
 intro n
 induction n with
 | zero => intro k l o h3 h4; omega
 | succ n ih =>
  intro k l o h3 h4 hg
  unfold top_TopVectors_l1
  simp only
  rcases Nat.lt_or_ge k 24 with hlt | hge
  ·rw [dec_lt (by rw [hi.ol]; exact hlt), cond_true, Nat.zero_add]
   have hsl : t.of_.getD k (⟨0, 0⟩ : Api_Slot) = slot t k := rfl
   rw [hsl]
   by_cases hv : (slot t k).Vec > 0
   ·rw [decide_eq_true hv, cond_true]
    have := hg.le
    have := hg.len
    rw [if_pos (fun hc => by have := of_decide_eq_true hc; omega), if_pos (by simp only [List.length_singleton]; omega), if_pos (by simp only [List.length_singleton]; omega)]
    exact ih (k + 1) _ _ (by omega) (by omega) (hg.more hi hlt hv _)
   ·rw [decide_eq_false hv, cond_false]
    refine ih (k + 1) l o (by omega) (by omega) ⟨hg.len, by have := hg.le; omega, hg.bad, fun j hj => ?_, hg.inj⟩
    obtain ⟨i, a1, a2⟩ := hg.at_ j hj
    exact ⟨i, by omega, a2⟩
  ·have : k = 24 := by omega
   subst this
   rw [dec_ge (by rw [hi.ol]; omega), cond_false]
   obtain ⟨lx, sent, hp, hl, hs⟩ := line_of l a2 h2 (hg.right (by omega))
   rw [hp, Option.bind_some]
   exact all_told hi es l o hg lx sent hs FUEL 0 [] (by omega) (fuel_gt (by omega)) (fun x v hx => by cases hx)
theorem TopVectors_true (a0 : List Api_VecOp) (a1 : List Bool) (a2 : List Api_PinOp) (h0 : a0.length * 24 ≤ 140737488351232 ∧ ∀ y ∈ a0, Ok_Api_VecOp y) (h1 : a1.length * 1 ≤ 140737488351232 ∧ ∀ y ∈ a1, True) (h2 : a2.length * 16 ≤ 140737488351232 ∧ ∀ y ∈ a2, Ok_Api_PinOp y) : top_TopVectors a0 a1 a2 = some true := by
 unfold top_TopVectors
 rw [alive_eq, Option.bind_some]
 simp only [Bool.not_true, cond_false]
 rcases Play_eq 8 24 a0 (by have := h0.1; omega) (by have := h0.1; omega) with ⟨hp, hn⟩ | ⟨c, l, hc8, hl24, hc, hl, hp, hi, he⟩
 ·exact absurd (by omega) hn
 ·have e8 : c = 8 := by omega
  have e24 : l = 24 := by omega
  subst e8 e24
  rw [hp, Option.bind_some]
  have hol := hi.ol
  simp only [bne_self_eq_false, cond_false, hol, Bool.or_self]
  exact all_got hi _ a1 a2 (by have := h1.1; omega) h2.1 FUEL 0 [] [] (by omega) (fuel_gt (by omega)) ⟨rfl, by simp, fun p hp => by simp at hp, fun j hj => by simp at hj, fun j j' hj => by simp at hj⟩
end Go.Proofs.YthmieigenefilaaGreatDoor
