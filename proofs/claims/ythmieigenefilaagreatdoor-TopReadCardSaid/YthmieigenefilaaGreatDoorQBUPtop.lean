import Derived.Test.YthmieigenefilaaGreatDoorQBUPkernel
set_option linter.unusedSimpArgs false
set_option linter.unusedVariables false
namespace Go.Proofs.YthmieigenefilaaGreatDoor
open Go Go.Ab
theorem alive_eq : top_alive = some true := by decide +kernel
structure Sim (s u : KS) (n : Nat) : Prop where
 eq : s = { u with tty := s.tty }
 edit : s.tty.Edit = u.tty.Edit
 l1 : s.tty.Lines.length ≤ n
 l2 : u.tty.Lines.length ≤ n
theorem levelA_with (u : KS) (t : T) : levelA { u with tty := t } = { levelA u with tty := t } := by
 unfold levelA upA sendC
 split
 ·split <;> rfl
 ·rfl
theorem keyF_sim {t v : T} (he : t.Edit = v.Edit) (h1 : t.Lines.length < 400) (h2 : v.Lines.length < 400) (b : Int) :
  (keyF t b).2 = (keyF v b).2 ∧ (keyF t b).1.Edit = (keyF v b).1.Edit ∧ (keyF t b).1.Lines.length ≤ t.Lines.length + 1 ∧ (keyF v b).1.Lines.length ≤ v.Lines.length + 1 := by
 have n1 : ¬ ((b = 10 ∨ b = 4) ∧ t.Lines.length = 400) := fun h => by omega
 have n2 : ¬ ((b = 10 ∨ b = 4) ∧ v.Lines.length = 400) := fun h => by omega
 unfold keyF
 rw [if_neg n1, if_neg n2, he]
 clear n1 n2
 by_cases c1 : b = 10
 ·simp [c1]
 by_cases c2 : b = 4
 ·simp [c2]
 by_cases c3 : b = 8
 ·simp [c3]
 by_cases c4 : b = 21
 ·simp [c4]
 by_cases c5 : b = 23
 ·simp [c5]
 rw [if_neg c1, if_neg c1, if_neg c2, if_neg c2, if_neg c3, if_neg c3, if_neg c4, if_neg c4, if_neg c5, if_neg c5]
 by_cases c6 : v.Edit.length = 64
 ·rw [if_pos c6, if_pos c6]
  exact ⟨rfl, rfl, by simp, by simp⟩
 ·rw [if_neg c6, if_neg c6]
  exact ⟨rfl, rfl, by simp, by simp⟩
theorem typS_sim {t v : T} (he : t.Edit = v.Edit) (h1 : t.Lines.length < 400) (h2 : v.Lines.length < 400) (b : Int) :
  (typS t b).Edit = (typS v b).Edit ∧ (typS t b).Lines.length ≤ t.Lines.length + 1 ∧ (typS v b).Lines.length ≤ v.Lines.length + 1 := by
 obtain ⟨k1, k2, k3, k4⟩ := keyF_sim he h1 h2 b
 unfold typS
 rw [k1]
 split
 ·exact ⟨k2, k3, k4⟩
 ·exact ⟨he, by omega, by omega⟩
theorem readF_sim (t : T) (m : Int) (h : (readF t m).2.2 = 0) : (readF t m).1.Edit = t.Edit ∧ (readF t m).1.Lines.length ≤ t.Lines.length := by
 unfold readF at h ⊢
 split
 ·rename_i h1; rw [if_pos h1] at h; cases h
 rename_i h1
 rw [if_neg h1] at h
 split
 ·rename_i h2; rw [if_pos h2] at h; cases h
 rename_i h2
 rw [if_neg h2] at h
 split
 ·rename_i h3; rw [h3] at h; cases h
 ·rename_i l r h3
  split
  ·exact ⟨rfl, by simp [h3]⟩
  ·exact ⟨rfl, by simp [h3]⟩
theorem inA_with (u : KS) (t : T) (b : Int) : inA { u with tty := t } b = { inA u b with tty := t } := by
 unfold inA
 show (if u.dev.length < 16 then levelA { { u with dev := u.dev ++ [b] } with tty := t } else if u.lost = 1099511627776 then _ else levelA { { u with lost := u.lost + 1 } with tty := t }) = _
 rw [levelA_with, levelA_with]
 split
 ·rfl
 ·split <;> rfl
theorem runA_sim {s u : KS} {n : Nat} (h : Sim s u n) (hn : n < 400) (k : Nat) : Sim (runA s k).1 (runA u k).1 (n + 1) := by
 obtain ⟨e, he, h1, h2⟩ := h
 obtain ⟨t, rfl⟩ : ∃ t, s = { u with tty := t } := ⟨s.tty, e⟩
 have he : t.Edit = u.tty.Edit := he
 have h1 : t.Lines.length ≤ n := h1
 have e1 : (runA { u with tty := t } k).1 = if (u.cs k).served = true then (match u.dev with
   | b :: r => readA { u with tty := t } b r
   | [] => endA { u with tty := t } k)
  else if (u.cs k).asked = true ∧ (u.cs k).saves = 0 then takeA { u with tty := t } k
  else match u.fet with
   | b :: r => keyA { u with tty := t } (typS t b) r
   | [] => { u with tty := t } := by
  unfold runA
  simp only
  split
  ·cases u.dev <;> rfl
  ·split
   ·rfl
   ·cases u.fet <;> rfl
 have e2 : (runA u k).1 = if (u.cs k).served = true then (match u.dev with
   | b :: r => readA u b r
   | [] => endA u k)
  else if (u.cs k).asked = true ∧ (u.cs k).saves = 0 then takeA u k
  else match u.fet with
   | b :: r => keyA u (typS u.tty b) r
   | [] => u := by
  unfold runA
  split
  ·cases u.dev <;> rfl
  ·split
   ·rfl
   ·cases u.fet <;> rfl
 rw [e1, e2]
 split
 ·have hx : ∀ d, u.dev = d → Sim (match d with
    | b :: r => readA { u with tty := t } b r
    | [] => endA { u with tty := t } k) (match d with
    | b :: r => readA u b r
    | [] => endA u k) (n + 1) := by
   intro d hd
   match d, hd with
   | [], hd => exact ⟨rfl, he, by show t.Lines.length ≤ _; omega, by show u.tty.Lines.length ≤ _; omega⟩
   | b :: r, hd =>
    have e3 : readA { u with tty := t } b r = { readA u b r with tty := t } := by
     show ({ levelA { { u with dev := r } with tty := t } with fet := (levelA { { u with dev := r } with tty := t }).fet ++ [b] } : KS) = _
     rw [levelA_with]; rfl
    have e4 : (readA u b r).tty = u.tty := (levelA_tty { u with dev := r }).1
    show Sim (readA { u with tty := t } b r) (readA u b r) (n + 1)
    rw [e3]
    exact ⟨rfl, by show t.Edit = (readA u b r).tty.Edit; rw [e4]; exact he, by show t.Lines.length ≤ _; omega, by rw [e4]; omega⟩
  exact hx u.dev rfl
 ·split
  ·exact ⟨rfl, he, by show t.Lines.length ≤ _; omega, by show u.tty.Lines.length ≤ _; omega⟩
  ·have hx : ∀ d, u.fet = d → Sim (match d with
     | b :: r => keyA { u with tty := t } (typS t b) r
     | [] => { u with tty := t }) (match d with
     | b :: r => keyA u (typS u.tty b) r
     | [] => u) (n + 1) := by
    intro d hd
    match d, hd with
    | [], hd => exact ⟨rfl, he, by show t.Lines.length ≤ _; omega, by show u.tty.Lines.length ≤ _; omega⟩
    | b :: r, hd =>
     obtain ⟨t1, t2, t3⟩ := typS_sim he (by omega) (by omega) b
     exact ⟨rfl, t1, by show (typS t b).Lines.length ≤ _; omega, by show (typS u.tty b).Lines.length ≤ _; omega⟩
   exact hx u.fet rfl
theorem doA_sim {s u : KS} {n : Nat} (h : Sim s u n) (hn : n < 400) (o : AKO) (ho : o.Kind ≠ 3) : Sim (doA s o) (doA u o) (n + 1) := by
 have same : Sim s u (n + 1) := ⟨h.eq, h.edit, by have := h.l1; omega, by have := h.l2; omega⟩
 have hr := fun k => runA_sim h hn k
 obtain ⟨e, he, h1, h2⟩ := h
 obtain ⟨t, rfl⟩ : ∃ t, s = { u with tty := t } := ⟨s.tty, e⟩
 have he : t.Edit = u.tty.Edit := he
 have h1 : t.Lines.length ≤ n := h1
 by_cases g1 : o.Kind < 1 ∨ o.Kind > 6
 ·have e1 : ∀ x, doA x o = x := fun x => by unfold doA; rw [if_pos g1]
  rw [e1, e1]; exact same
 by_cases g2 : (o.Kind ≠ 1 ∧ o.Kind ≠ 3) ∧ (o.Core < 0 ∨ o.Core ≥ 2)
 ·have e1 : ∀ x, doA x o = x := fun x => by unfold doA; rw [if_neg g1, if_pos g2]
  rw [e1, e1]; exact same
 by_cases k1 : o.Kind = 1
 ·have e1 : ∀ x, doA x o = inA x o.Byte := fun x => by unfold doA; rw [if_neg g1, if_neg g2, if_pos k1]
  rw [e1, e1, inA_with]
  have e4 := (inA_tty u o.Byte).1
  exact ⟨rfl, by show t.Edit = (inA u o.Byte).tty.Edit; rw [e4]; exact he, by show t.Lines.length ≤ _; omega, by rw [e4]; omega⟩
 by_cases k2 : o.Kind = 2
 ·have e1 : ∀ x, doA x o = (runA x o.Core.toNat).1 := fun x => by unfold doA; rw [if_neg g1, if_neg g2, if_neg k1, if_pos k2]
  rw [e1, e1]; exact hr _
 by_cases k4 : o.Kind = 4
 ·have e1 : ∀ x, doA x o = if (x.cs o.Core.toNat).served = true then x else saveA x o.Core.toNat := fun x => by unfold doA; rw [if_neg g1, if_neg g2, if_neg k1, if_neg k2, if_neg ho, if_pos k4]
  rw [e1, e1]
  show Sim (if (u.cs o.Core.toNat).served = true then _ else saveA { u with tty := t } o.Core.toNat) _ _
  split
  ·exact same
  ·unfold saveA
   show Sim (if (u.cs o.Core.toNat).saves = 400 then _ else _) _ _
   split
   ·exact same
   ·exact ⟨rfl, he, by show t.Lines.length ≤ _; omega, by show u.tty.Lines.length ≤ _; omega⟩
 by_cases k5 : o.Kind = 5
 ·have e1 : ∀ x, doA x o = if (x.cs o.Core.toNat).served = true then x else restoreA x o.Core.toNat := fun x => by unfold doA; rw [if_neg g1, if_neg g2, if_neg k1, if_neg k2, if_neg ho, if_neg k4, if_pos k5]
  rw [e1, e1]
  show Sim (if (u.cs o.Core.toNat).served = true then _ else restoreA { u with tty := t } o.Core.toNat) _ _
  split
  ·exact same
  ·exact ⟨rfl, he, by show t.Lines.length ≤ _; omega, by show u.tty.Lines.length ≤ _; omega⟩
 ·have e1 : ∀ x, doA x o = { x with pc := o.Core.toNat } := fun x => by unfold doA; rw [if_neg g1, if_neg g2, if_neg k1, if_neg k2, if_neg ho, if_neg k4, if_neg k5]
  rw [e1, e1]
  exact ⟨rfl, he, by show t.Lines.length ≤ _; omega, by show u.tty.Lines.length ≤ _; omega⟩
theorem read_sim {s u : KS} {n : Nat} (h : Sim s u n) (o : AKO) (ho : o.Kind = 3) : Sim (doA s o) u (n + 1) := by
 obtain ⟨e, he, h1, h2⟩ := h
 have e1 : doA s o = { s with tty := if (readF s.tty o.N).2.2 = 0 then (readF s.tty o.N).1 else s.tty } := by
  unfold doA
  rw [if_neg (by omega), if_neg (by omega), if_neg (by omega), if_neg (by omega), if_pos ho]
 rw [e1]
 split
 ·rename_i h0
  obtain ⟨r1, r2⟩ := readF_sim s.tty o.N h0
  refine ⟨?_, by show (readF s.tty o.N).1.Edit = _; rw [r1]; exact he, by show (readF s.tty o.N).1.Lines.length ≤ _; omega, by omega⟩
  show ({ s with tty := (readF s.tty o.N).1 } : KS) = { u with tty := (readF s.tty o.N).1 }
  rw [e]
 ·exact ⟨e, he, by show s.tty.Lines.length ≤ _; omega, by omega⟩
theorem runs_sim : ∀ (ops : List AKO) (s u : KS) (n : Nat), Sim s u n → n + ops.length ≤ 400 → Sim (runs s ops) (runs u (ops.filter fun o => !((o.Kind : Int) == 3))) (n + ops.length)
 | [], s, u, n, h, _ => h
 | o :: r, s, u, n, h, hn => by
  simp only [List.length_cons] at hn ⊢
  have e : n + (r.length + 1) = n + 1 + r.length := by omega
  rw [e]
  by_cases ho : o.Kind = 3
  ·rw [List.filter_cons_of_neg (by simp [ho])]
   exact runs_sim r (doA s o) u (n + 1) (read_sim h o ho) (by omega)
  ·rw [List.filter_cons_of_pos (by simp [ho])]
   exact runs_sim r (doA s o) (doA u o) (n + 1) (doA_sim h (by omega) o ho) (by omega)
theorem sim_beg : Sim BEG BEG 0 := ⟨rfl, rfl, by decide, by decide⟩
theorem TopRead_true (a0 : List AKO) (h0 : a0.length * 32 ≤ 140737488351232 ∧ ∀ y ∈ a0, (Ok_AKO y)) : top_TopRead a0 = some true := by
 unfold top_TopRead
 rw [alive_eq, Option.bind_some]
 show (bif (decide ((((a0.length : Nat) : Int) : Int) > 400)) then some true else _) = _
 by_cases hl : a0.length > 400
 ·have : decide ((((a0.length : Nat) : Int) : Int) > 400) = true := by simp only [decide_eq_true_eq]; omega
  rw [this, cond_true]
 ·have : decide ((((a0.length : Nat) : Int) : Int) > 400) = false := by simp only [decide_eq_false_iff_not]; omega
  rw [this, cond_false]
  unfold slices_Clone_api_KernOp
  rw [if_pos (by omega), Option.bind_some, sDel_h0_eq (f := fun o => ((o.Kind : Int) == 3)) (fun _ => rfl) a0 (by omega), Option.bind_some]
  have hs := runs_sim a0 BEG BEG 0 sim_beg (by omega)
  have hfl : (a0.filter fun x => !((x.Kind : Int) == 3)).length ≤ a0.length := List.length_filter_le _ _
  rw [Play_eq a0 (by omega), Option.bind_some, Play_eq _ (by omega), Option.bind_some]
  simp only
  have e := hs.eq
  have e1 : (runs BEG a0).dev = (runs BEG (a0.filter fun x => !((x.Kind : Int) == 3))).dev := by have h := congrArg KS.dev e; exact h
  have e2 : (runs BEG a0).fet = (runs BEG (a0.filter fun x => !((x.Kind : Int) == 3))).fet := by have h := congrArg KS.fet e; exact h
  have e3 : (runs BEG a0).lost = (runs BEG (a0.filter fun x => !((x.Kind : Int) == 3))).lost := by have h := congrArg KS.lost e; exact h
  have e4 : (runs BEG a0).taken = (runs BEG (a0.filter fun x => !((x.Kind : Int) == 3))).taken := by have h := congrArg KS.taken e; exact h
  rw [e1, e2, hs.edit, e3, e4]
  simp
end Go.Proofs.YthmieigenefilaaGreatDoor
