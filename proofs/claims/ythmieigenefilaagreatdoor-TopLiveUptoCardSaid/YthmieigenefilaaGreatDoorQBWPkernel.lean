import Derived.Test.YthmieigenefilaaGreatDoorQBWK
set_option linter.unusedSimpArgs false
set_option linter.unusedVariables false
namespace Go.Proofs.YthmieigenefilaaGreatDoor
open Go Go.Ab
structure CS where
 asked : Bool
 served : Bool
 saves : Nat
def b2i (b : Bool) : Int := if b then 1 else 0
def LL (a s : Bool) : ALo := ⟨arrOf [0, b2i a, 0, 0] 0, arrOf [0, b2i s, 0, 0] 0, 0⟩
def NS : Nat → Api_Core
 | 0 => ⟨true, []⟩
 | m + 1 => ⟨false, ⟨true, false⟩ :: List.replicate m ⟨false, false⟩⟩
def NI : Api_Core := ⟨false, [⟨true, true⟩]⟩
def CC (c : CS) : Kernel_core := ⟨LL c.asked c.served, if c.served then NI else NS c.saves, c.served⟩
def ZC : Kernel_core := (⟨(⟨(fun (_ : Nat) => (0 : Int)), (fun (_ : Nat) => (0 : Int)), 0⟩ : ALo), (⟨false, []⟩ : Api_Core), false⟩ : Kernel_core)
structure KS where
 dev : List Int
 lost : Int
 pc : Nat
 up : Bool
 sent : Bool
 cs : Nat → CS
 fet : List Int
 tty : Api_Tty
 taken : Int
def UU (dev : List Int) (lost : Int) : Api_Uart := ⟨dev, [], lost, decide (0 < dev.length)⟩
def PP (pc : Nat) (up sent : Bool) : Api_Pin := ⟨(pc : Int), 64, true, false, up, false, sent⟩
def cores (cs : Nat → CS) : Nat → Kernel_core := arrOf [CC (cs 0), CC (cs 1)] ZC
def toW (s : KS) : KWh := ⟨UU s.dev s.lost, [PP s.pc s.up s.sent], cores s.cs, s.fet, s.tty, s.taken⟩
def updc (cs : Nat → CS) (k : Nat) (x : CS) : Nat → CS := fun i => if i = k then x else cs i
theorem arr_upd {α : Type} (x y z v : α) : upd (arrOf [x, y] z) 0 v = arrOf [v, y] z ∧ upd (arrOf [x, y] z) 1 v = arrOf [x, v] z := by
 constructor <;> funext n <;> match n with
  | 0 => rfl
  | 1 => rfl
  | n + 2 => rfl
theorem words_upd (x y z w : Int) (v : Int) : upd (arrOf [x, y, z, w] 0) 1 v = arrOf [x, v, z, w] 0 := by
 funext n
 match n with
  | 0 => rfl
  | 1 => rfl
  | 2 => rfl
  | 3 => rfl
  | n + 4 => rfl
theorem cores_upd (cs : Nat → CS) (k : Nat) (hk : k < 2) (x : CS) : upd (cores cs) k (CC x) = cores (updc cs k x) := by
 unfold cores
 rcases (by omega : k = 0 ∨ k = 1) with rfl | rfl
 ·rw [(arr_upd _ _ _ _).1]; rfl
 ·rw [(arr_upd _ _ _ _).2]; rfl
theorem cores_at (cs : Nat → CS) (k : Nat) (hk : k < 2) : cores cs k = CC (cs k) := by
 rcases (by omega : k = 0 ∨ k = 1) with rfl | rfl <;> rfl
theorem ask_eq (a s : Bool) : apic_Step (LL a s) ⟨1, 64⟩ = some (LL true s, -1, 0) := by
 have h : apic_Step (LL a s) ⟨1, 64⟩ = some (⟨upd (LL a s).Asked 1 1, (LL a s).Served, 0⟩, -1, 0) := by cases a <;> cases s <;> kernel_rfl
 rw [h]
 unfold LL
 rw [words_upd]
 rfl
theorem take_eq : apic_Step (LL true false) ⟨2, 0⟩ = some (LL false true, 64, 0) := by
 have h : apic_Step (LL true false) ⟨2, 0⟩ = some (⟨upd (LL true false).Asked 1 0, upd (LL true false).Served 1 1, 0⟩, 64, 0) := by kernel_rfl
 rw [h]
 unfold LL
 rw [words_upd, words_upd]
 rfl
theorem end_eq (a : Bool) : apic_Step (LL a true) ⟨3, 0⟩ = some (LL a false, 64, 0) := by
 have h : apic_Step (LL a true) ⟨3, 0⟩ = some (⟨(LL a true).Asked, upd (LL a true).Served 1 0, 0⟩, 64, 0) := by cases a <;> kernel_rfl
 rw [h]
 unfold LL
 rw [words_upd]
 rfl
theorem would_yes : apic_Would (LL true false) = some 64 := by kernel_rfl
theorem would_no (s : Bool) : apic_Would (LL false s) = some (-1) := by cases s <;> kernel_rfl
theorem line_up (pc : Nat) (hp : pc < 2) (up sent : Bool) (h : up = true → sent = true) : line_Step [PP pc up sent] ⟨1, 0⟩ = some ([PP pc true true], if sent then [] else [⟨0, (pc : Int), 64⟩], 0) := by
 rcases (by omega : pc = 0 ∨ pc = 1) with rfl | rfl <;> cases up <;> cases sent <;> first | (simp at h; done) | (clear h; decide +kernel)
theorem line_down (pc : Nat) (hp : pc < 2) (up sent : Bool) (h : up = true → sent = true) : line_Step [PP pc up sent] ⟨2, 0⟩ = some ([PP pc false sent], [], 0) := by
 rcases (by omega : pc = 0 ∨ pc = 1) with rfl | rfl <;> cases up <;> cases sent <;> first | (simp at h; done) | (clear h; decide +kernel)
theorem line_end (pc : Nat) (hp : pc < 2) (up sent : Bool) (h : up = true → sent = true) : line_Step [PP pc up sent] ⟨5, 0⟩ = some ([PP pc up up], if up then [⟨0, (pc : Int), 64⟩] else [], 0) := by
 rcases (by omega : pc = 0 ∨ pc = 1) with rfl | rfl <;> cases up <;> cases sent <;> first | (simp at h; done) | (clear h; decide +kernel)
theorem nest_Right_l1_eq (c : Api_Core) : ∀ n k, k ≤ c.Kept.length → c.Kept.length - k < n → (∀ f ∈ c.Kept.drop k, f = ⟨false, false⟩) → nest_Right_l1 c n false k = some ((!c.On) || false) := by
 intro n
 induction n with
 | zero => intro k h1 h2; omega
 | succ n ih =>
  intro k h1 h2 h3
  unfold nest_Right_l1
  rcases Nat.lt_or_ge k c.Kept.length with hlt | hge
  ·have hf : c.Kept[k] = ⟨false, false⟩ := h3 _ (by rw [List.drop_eq_getElem_cons hlt]; exact List.mem_cons_self)
   rw [dec_lt hlt, cond_true, getD_lt _ _ hlt, hf]
   simp only [Bool.false_and, Bool.or_self, cond_false]
   exact ih (k + 1) (by omega) (by omega) (fun f hfm => h3 f (by rw [List.drop_eq_getElem_cons hlt]; exact List.mem_cons_of_mem _ hfm))
  ·rw [dec_ge hge, cond_false]
theorem nest_Right_NS (m : Nat) (hm : m ≤ 400) : nest_Right (NS m) = some true := by
 cases m with
 | zero => decide +kernel
 | succ m =>
  unfold nest_Right
  have hl : (NS (m + 1)).Kept.length = m + 1 := by simp [NS]
  have e : decide (((((NS (m + 1)).Kept.length : Nat) : Int) : Int) > 400) = false := by rw [hl]; simp; omega
  rw [e, cond_false]
  obtain ⟨f, hf⟩ : ∃ f, FUEL = f + 1 := ⟨FUEL - 1, by unfold FUEL; omega⟩
  rw [hf]
  unfold nest_Right_l1
  rw [dec_lt (show 0 < (NS (m + 1)).Kept.length by rw [hl]; omega), cond_true, getD_lt _ _ (show 0 < (NS (m + 1)).Kept.length by rw [hl]; omega)]
  have e2 : (NS (m + 1)).Kept[0]'(by rw [hl]; omega) = ⟨true, false⟩ := rfl
  rw [e2]
  simp only [Bool.not_true, Bool.and_false, Bool.false_and, Bool.or_self, cond_false]
  have := nest_Right_l1_eq (NS (m + 1)) f 1 (by rw [hl]; omega) (by rw [hl]; have := fuel_gt (n := 400) (by omega); omega) (fun x hx => by
   have : x ∈ List.replicate m (⟨false, false⟩ : AFr) := hx
   exact (List.mem_replicate.1 this).2)
  exact this
theorem NS_length (m : Nat) : (NS m).Kept.length = m := by cases m <;> simp [NS]
theorem nest_save (m : Nat) (hm : m ≤ 400) : nest_Step (NS m) 1 = if m = 400 then some (⟨false, []⟩, 4) else some (NS (m + 1), 0) := by
 unfold nest_Step
 rw [nest_Right_NS m hm, Option.bind_some, Bool.not_true, cond_false]
 have e1 : ((decide ((1 : Int) < 1)) || (decide ((1 : Int) > 4))) = false := by decide
 have e2 : (((1 : Int) == 1) || ((1 : Int) == 3)) = true := by decide
 have e3 : (((1 : Int) == 2) || ((1 : Int) == 4)) = false := by decide
 have e4 : (((1 : Int) == 3) && (!(NS m).On)) = false := by simp
 rw [e1, cond_false, e2, Bool.true_and, NS_length]
 by_cases h : m = 400
 ·subst h
  rw [if_pos rfl]
  have e : ((((400 : Nat) : Int) : Int) == 400) = true := by decide
  rw [e, cond_true]
 ·have e : ((((m : Nat) : Int) : Int) == 400) = false := by simp; omega
  rw [e, cond_false, e4, cond_false, e3, Bool.false_and, cond_false, if_neg h, if_pos (fun hh => by cases hh), Bool.false_and, cond_false, cond_true]
  unfold slices_Clone_api_Frame
  rw [NS_length, if_pos (by omega), Option.bind_some, if_pos (by rw [NS_length]; simp; omega)]
  congr 2
  have e5 : ((1 : Int) == 3) = false := by decide
  rw [e5]
  cases m with
  | zero => rfl
  | succ m =>
   show (⟨false, (⟨true, false⟩ :: List.replicate m ⟨false, false⟩) ++ [⟨false, false⟩]⟩ : Api_Core) = ⟨false, ⟨true, false⟩ :: List.replicate (m + 1) ⟨false, false⟩⟩
   rw [List.replicate_succ']
   rfl
theorem nest_restore0 : nest_Step (NS 0) 2 = some (⟨false, []⟩, 3) := by decide +kernel
theorem nest_restore (m : Nat) (hm : m + 1 ≤ 400) : nest_Step (NS (m + 1)) 2 = some (NS m, 0) := by
 unfold nest_Step
 rw [nest_Right_NS (m + 1) hm, Option.bind_some, Bool.not_true, cond_false]
 have e1 : ((decide ((2 : Int) < 1)) || (decide ((2 : Int) > 4))) = false := by decide
 have e2 : (((2 : Int) == 1) || ((2 : Int) == 3)) = false := by decide
 have e3 : (((2 : Int) == 2) || ((2 : Int) == 4)) = true := by decide
 have e4 : ((2 : Int) == 4) = false := by decide
 have e5 : ((2 : Int) == 3) = false := by decide
 have e6 : ((((m + 1 : Nat) : Int) : Int) == 0) = false := by simp; omega
 have e7 : (((m + 1 : Nat) : Int) - 1) = (m : Int) := by omega
 have hg : ((NS (m + 1)).Kept.getD m (⟨false, false⟩ : AFr)) = ⟨decide (m = 0), false⟩ := by
  cases m with
  | zero => rfl
  | succ m =>
   show (⟨true, false⟩ :: List.replicate (m + 1) ⟨false, false⟩ : List AFr).getD (m + 1) ⟨false, false⟩ = _
   simp
 rw [e1, cond_false, e2, Bool.false_and, cond_false, e5, Bool.false_and, cond_false, e3, Bool.true_and, NS_length, e6, cond_false]
 rw [if_pos (fun _ => by rw [wrap_id (by omega) (by omega)]; omega), wrap_id (by omega) (by omega), e7, Int.toNat_natCast, hg, e4]
 simp only [bne_self_eq_false, Bool.true_and, cond_false]
 rw [if_pos (by omega), if_pos (by omega), if_pos (by omega)]
 unfold slices_Clone_api_Frame
 rw [List.drop_zero, Nat.sub_zero, if_pos (by rw [List.length_take, NS_length]; omega), Option.bind_some]
 congr 2
 cases m with
 | zero => rfl
 | succ m =>
  show (⟨decide (m + 1 = 0), (⟨true, false⟩ :: List.replicate (m + 1) ⟨false, false⟩ : List AFr).take (m + 1)⟩ : Api_Core) = ⟨false, ⟨true, false⟩ :: List.replicate m ⟨false, false⟩⟩
  rw [List.take_succ_cons, List.take_replicate]
  simp
theorem nest_enter : nest_Step (NS 0) 3 = some (NI, 0) := by decide +kernel
theorem nest_leave : nest_Step NI 4 = some (NS 0, 0) := by decide +kernel
theorem uart_Right_eq (dev : List Int) (lost : Int) (hd : dev.length ≤ 16) (hl : 0 ≤ lost ∧ lost ≤ 1099511627776) : uart_Right (UU dev lost) = some true := by
 unfold uart_Right UU
 simp only
 congr 1
 rw [decide_eq_true (show (((dev.length : Nat) : Int) : Int) ≤ 16 by omega), decide_eq_true (show lost ≥ 0 by omega), decide_eq_true hl.2]
 have : decide ((((dev.length : Nat) : Int) : Int) > 0) = decide (0 < dev.length) := by rw [decide_eq_decide]; omega
 rw [this]
 simp
theorem uart_in (dev : List Int) (lost b : Int) (hd : dev.length ≤ 16) (hl : 0 ≤ lost ∧ lost ≤ 1099511627776) :
  uart_Step (UU dev lost) ⟨1, b⟩ = if dev.length < 16 then some (UU (dev ++ [b]) lost, 0, 0) else if lost = 1099511627776 then some (⟨[], [], 0, false⟩, 0, 4) else some (UU dev (lost + 1), 0, 0) := by
 unfold uart_Step
 rw [uart_Right_eq dev lost hd hl, Option.bind_some, Bool.not_true, cond_false]
 unfold slices_Clone_byte UU
 simp only
 rw [if_pos (by omega), Option.bind_some, if_pos (by simp), Option.bind_some]
 have e1 : ((1 : Int) == 1) = true := by decide
 rw [e1, cond_true]
 by_cases h : dev.length < 16
 ·rw [decide_eq_true (show (((dev.length : Nat) : Int) : Int) < 16 by omega), cond_true, if_pos (by simp; omega), if_pos h]
  congr 3
  rw [decide_eq_decide]
  omega
 ·rw [decide_eq_false (show ¬ (((dev.length : Nat) : Int) : Int) < 16 by omega), cond_false, if_neg h]
  by_cases h2 : lost = 1099511627776
  ·have e2 : (lost == 1099511627776) = true := by simp [h2]
   rw [e2, cond_true, if_pos h2]
   rfl
  ·have e2 : (lost == 1099511627776) = false := by simp [h2]
   rw [e2, cond_false, if_neg h2, wrap_id (by omega) (by omega)]
   congr 3
   rw [decide_eq_decide]
   omega
theorem uart_read (b : Int) (t : List Int) (lost : Int) (hd : t.length < 16) (hl : 0 ≤ lost ∧ lost ≤ 1099511627776) :
  uart_Step (UU (b :: t) lost) ⟨2, 0⟩ = some (UU t lost, b, 0) := by
 unfold uart_Step
 rw [uart_Right_eq (b :: t) lost (by simp; omega) hl, Option.bind_some, Bool.not_true, cond_false]
 unfold slices_Clone_byte UU
 simp only
 rw [if_pos (by simp; omega), Option.bind_some, if_pos (by simp), Option.bind_some]
 have e1 : ((2 : Int) == 1) = false := by decide
 have e2 : ((2 : Int) == 2) = true := by decide
 have e3 : (((((b :: t).length : Nat) : Int) : Int) == 0) = false := by simp; omega
 rw [e1, cond_false, e2, cond_true, e3, cond_false, if_pos (by simp), if_pos (by simp)]
 congr 3
 ·simp
 ·rw [decide_eq_decide]
  simp
def sendC (s : KS) : KS := { s with cs := updc s.cs s.pc { s.cs s.pc with asked := true } }
theorem pin_none (s : KS) (k : Int) (p : Api_Pin) (h : line_Step (toW s).pins_ ⟨k, 0⟩ = some ([p], [], 0)) :
  kw_pin_o8 (toW s) k = some { toW s with pins_ := [p] } := by
 unfold kw_pin_o8
 rw [h, Option.bind_some]
 have e : (((([p], ([] : List Api_Sent), (0 : Int)) : (List Api_Pin) × (List Api_Sent) × Int).2.2 : Int) != 0) = false := rfl
 rw [e, cond_false]
 obtain ⟨f, hf⟩ : ∃ f, FUEL = f + 1 := ⟨FUEL - 1, by unfold FUEL; omega⟩
 rw [hf]
 rfl
theorem pin_one (s : KS) (hp : s.pc < 2) (k : Int) (p : Api_Pin) (h : line_Step (toW s).pins_ ⟨k, 0⟩ = some ([p], [⟨0, (s.pc : Int), 64⟩], 0)) :
  kw_pin_o8 (toW s) k = some { toW (sendC s) with pins_ := [p] } := by
 unfold kw_pin_o8
 rw [h, Option.bind_some]
 have e : (((([p], [(⟨0, (s.pc : Int), 64⟩ : Api_Sent)], (0 : Int)) : (List Api_Pin) × (List Api_Sent) × Int).2.2 : Int) != 0) = false := rfl
 rw [e, cond_false]
 obtain ⟨f, hf⟩ : ∃ f, FUEL = f + 1 + 1 := ⟨FUEL - 2, by unfold FUEL; omega⟩
 rw [hf]
 obtain ⟨dev, lost, pc, up, sent, cs, fet, tty, taken⟩ := s
 simp only at hp ⊢
 rcases (by omega : pc = 0 ∨ pc = 1) with rfl | rfl
 ·have ha := ask_eq (cs 0).asked (cs 0).served
  unfold kw_pin_o8_l1
  show (if (0 : Int) ≤ 0 ∧ (0 : Int) < ((2 : Nat) : Int) then (apic_Step (LL (cs 0).asked (cs 0).served) ⟨1, 64⟩).bind _ else none) = _
  rw [if_pos (by omega), ha, Option.bind_some]
  rfl
 ·have ha := ask_eq (cs 1).asked (cs 1).served
  unfold kw_pin_o8_l1
  show (if (0 : Int) ≤ 1 ∧ (1 : Int) < ((2 : Nat) : Int) then (apic_Step (LL (cs 1).asked (cs 1).served) ⟨1, 64⟩).bind _ else none) = _
  rw [if_pos (by omega), ha, Option.bind_some]
  rfl
structure Inv (s : KS) : Prop where
 dev : s.dev.length ≤ 16
 lost : 0 ≤ s.lost ∧ s.lost ≤ 1099511627776
 pc : s.pc < 2
 up : s.up = decide (0 < s.dev.length)
 sent : s.up = true → s.sent = true
 fly : s.sent = ((s.cs 0).asked || (s.cs 0).served || (s.cs 1).asked || (s.cs 1).served)
 one0 : (s.cs 0).asked = true → (s.cs 0).served = false ∧ (s.cs 1).asked = false ∧ (s.cs 1).served = false
 one1 : (s.cs 1).asked = true → (s.cs 1).served = false ∧ (s.cs 0).asked = false ∧ (s.cs 0).served = false
 one2 : (s.cs 0).served = true → (s.cs 1).served = false
 saves : ∀ k, k < 2 → (s.cs k).saves ≤ 400 ∧ ((s.cs k).served = true → (s.cs k).saves = 0)
def upA (s : KS) : KS := { (if s.sent then s else sendC s) with up := true, sent := true }
theorem pin_up (s : KS) (hp : s.pc < 2) (hs : s.up = true → s.sent = true) : kw_pin_o8 (toW s) 1 = some (toW (upA s)) := by
 have h := line_up s.pc hp s.up s.sent hs
 cases hq : s.sent with
 | true =>
  rw [hq] at h
  have h : line_Step (toW s).pins_ ⟨1, 0⟩ = some ([PP s.pc true true], [], 0) := by
   show line_Step [PP s.pc s.up s.sent] _ = _
   rw [hq, h]; rfl
  rw [pin_none s 1 _ h]
  unfold upA
  rw [hq]
  rfl
 | false =>
  rw [hq] at h
  have h : line_Step (toW s).pins_ ⟨1, 0⟩ = some ([PP s.pc true true], [⟨0, (s.pc : Int), 64⟩], 0) := by
   show line_Step [PP s.pc s.up s.sent] _ = _
   rw [hq, h]; rfl
  rw [pin_one s hp 1 _ h]
  unfold upA
  rw [hq]
  rfl
theorem pin_down (s : KS) (hp : s.pc < 2) (hs : s.up = true → s.sent = true) : kw_pin_o8 (toW s) 2 = some (toW { s with up := false }) := by
 have h : line_Step (toW s).pins_ ⟨2, 0⟩ = some ([PP s.pc false s.sent], [], 0) := line_down s.pc hp s.up s.sent hs
 rw [pin_none s 2 _ h]
 rfl
theorem pin_end (s : KS) (hp : s.pc < 2) (hs : s.up = false) : kw_pin_o8 (toW s) 5 = some (toW { s with sent := false }) := by
 have h : line_Step (toW s).pins_ ⟨5, 0⟩ = some ([PP s.pc s.up s.up], [], 0) := by
  have := line_end s.pc hp s.up s.sent (by rw [hs]; intro h; cases h)
  show line_Step [PP s.pc s.up s.sent] _ = _
  rw [this, hs]; rfl
 rw [pin_none s 5 _ h, show PP s.pc s.up s.up = PP s.pc s.up false by rw [hs]]
 rfl
def levelA (s : KS) : KS := if 0 < s.dev.length then upA s else { s with up := false }
theorem level_eq (s : KS) (hp : s.pc < 2) (hs : s.up = true → s.sent = true) : kw_level_o8 (toW s) = some (toW (levelA s)) := by
 unfold kw_level_o8 levelA
 have e : (toW s).uart_.Asks = decide (0 < s.dev.length) := rfl
 rw [e]
 by_cases h : 0 < s.dev.length
 ·rw [decide_eq_true h, cond_true, if_pos h, pin_up s hp hs, Option.bind_some]
 ·rw [decide_eq_false h, cond_false, if_neg h, pin_down s hp hs, Option.bind_some]
def inA (s : KS) (b : Int) : KS := if s.dev.length < 16 then levelA { s with dev := s.dev ++ [b] } else if s.lost = 1099511627776 then s else levelA { s with lost := s.lost + 1 }
def inE (s : KS) : Int := if s.dev.length < 16 then 0 else if s.lost = 1099511627776 then 4 else 0
theorem device_in (s : KS) (h : Inv s) (b : Int) : ∃ x, kw_device_o8 (toW s) ⟨1, b⟩ = some (x, inE s, toW (inA s b)) := by
 unfold kw_device_o8
 have e : (toW s).uart_ = UU s.dev s.lost := rfl
 rw [e, uart_in s.dev s.lost b h.dev h.lost]
 unfold inA inE
 by_cases h1 : s.dev.length < 16
 ·rw [if_pos h1, if_pos h1, if_pos h1, Option.bind_some]
  have e2 : ((((UU (s.dev ++ [b]) s.lost, (0 : Int), (0 : Int)).2.2) : Int) == 0) = true := rfl
  rw [e2, cond_true]
  have := level_eq { s with dev := s.dev ++ [b] } h.pc h.sent
  rw [show (⟨(UU (s.dev ++ [b]) s.lost, (0 : Int), (0 : Int)).1, (toW s).pins_, (toW s).cores_, (toW s).fetched_, (toW s).tty_, (toW s).taken_⟩ : KWh) = toW { s with dev := s.dev ++ [b] } from rfl, this, Option.bind_some]
  exact ⟨_, rfl⟩
 ·rw [if_neg h1, if_neg h1, if_neg h1]
  by_cases h2 : s.lost = 1099511627776
  ·rw [if_pos h2, if_pos h2, if_pos h2, Option.bind_some]
   exact ⟨_, rfl⟩
  ·rw [if_neg h2, if_neg h2, if_neg h2, Option.bind_some]
   have e2 : ((((UU s.dev (s.lost + 1), (0 : Int), (0 : Int)).2.2) : Int) == 0) = true := rfl
   rw [e2, cond_true]
   have := level_eq { s with lost := s.lost + 1 } h.pc h.sent
   rw [show (⟨(UU s.dev (s.lost + 1), (0 : Int), (0 : Int)).1, (toW s).pins_, (toW s).cores_, (toW s).fetched_, (toW s).tty_, (toW s).taken_⟩ : KWh) = toW { s with lost := s.lost + 1 } from rfl, this, Option.bind_some]
   exact ⟨_, rfl⟩
theorem device_read (s : KS) (h : Inv s) (b : Int) (t : List Int) (hd : s.dev = b :: t) : kw_device_o8 (toW s) ⟨2, 0⟩ = some (b, 0, toW (levelA { s with dev := t })) := by
 unfold kw_device_o8
 have e : (toW s).uart_ = UU (b :: t) s.lost := by show UU s.dev s.lost = _; rw [hd]
 have hl := h.dev
 rw [hd, List.length_cons] at hl
 rw [e, uart_read b t s.lost (by omega) h.lost, Option.bind_some]
 have e2 : ((((UU t s.lost, b, (0 : Int)).2.2) : Int) == 0) = true := rfl
 rw [e2, cond_true]
 have := level_eq { s with dev := t } h.pc h.sent
 rw [show (⟨(UU t s.lost, b, (0 : Int)).1, (toW s).pins_, (toW s).cores_, (toW s).fetched_, (toW s).tty_, (toW s).taken_⟩ : KWh) = toW { s with dev := t } from rfl, this, Option.bind_some]
theorem does_gen (s : KS) (k : Nat) (hk : k < 2) (kind : Int) (n : Api_Core) (e : Int) (h : nest_Step (if (s.cs k).served then NI else NS (s.cs k).saves) kind = some (n, e)) :
  kcd (toW s) (k : Int) kind = some (e, if e = 0 then { toW s with cores_ := upd (toW s).cores_ k ⟨LL (s.cs k).asked (s.cs k).served, n, (s.cs k).served⟩ } else toW s) := by
 unfold kcd
 rw [if_pos (by omega), Int.toNat_natCast]
 have e1 : (toW s).cores_ k = CC (s.cs k) := cores_at s.cs k hk
 rw [e1]
 have e2 : (CC (s.cs k)).nest_ = if (s.cs k).served then NI else NS (s.cs k).saves := rfl
 rw [e2, h, Option.bind_some]
 by_cases h0 : e = 0
 ·subst h0
  rw [if_pos rfl]
  have e3 : ((((n, (0 : Int)).2) : Int) == 0) = true := rfl
  rw [e3, cond_true]
  rfl
 ·rw [if_neg h0]
  have e3 : ((((n, e).2) : Int) == 0) = false := by simpa using h0
  rw [e3, cond_false]
def saveA (s : KS) (k : Nat) : KS := if (s.cs k).saves = 400 then s else { s with cs := updc s.cs k { s.cs k with saves := (s.cs k).saves + 1 } }
def restoreA (s : KS) (k : Nat) : KS := { s with cs := updc s.cs k { s.cs k with saves := (s.cs k).saves - 1 } }
theorem updc_self (cs : Nat → CS) (k : Nat) : updc cs k (cs k) = cs := by funext i; unfold updc; split <;> simp [*]
theorem does_save (s : KS) (h : Inv s) (k : Nat) (hk : k < 2) (hs : (s.cs k).served = false) : ∃ e, kcd (toW s) (k : Int) 1 = some (e, toW (saveA s k)) ∧ 0 ≤ e ∧ e ≤ 10 := by
 have hm := (h.saves k hk).1
 have hn := nest_save (s.cs k).saves hm
 by_cases h4 : (s.cs k).saves = 400
 ·rw [if_pos h4] at hn
  refine ⟨4, ?_, by omega, by omega⟩
  rw [does_gen s k hk 1 _ 4 (by rw [hs]; exact hn), if_neg (by omega)]
  unfold saveA
  rw [if_pos h4]
 ·rw [if_neg h4] at hn
  refine ⟨0, ?_, by omega, by omega⟩
  rw [does_gen s k hk 1 _ 0 (by rw [hs]; exact hn), if_pos rfl]
  unfold saveA
  rw [if_neg h4]
  show some ((0 : Int), ({ toW s with cores_ := upd (cores s.cs) k ⟨LL (s.cs k).asked (s.cs k).served, NS ((s.cs k).saves + 1), (s.cs k).served⟩ } : KWh)) = some (0, { toW s with cores_ := cores (updc s.cs k { s.cs k with saves := (s.cs k).saves + 1 }) })
  rw [← cores_upd _ _ hk]
  unfold CC
  simp only [hs]
  rfl
theorem does_restore (s : KS) (h : Inv s) (k : Nat) (hk : k < 2) (hs : (s.cs k).served = false) : ∃ e, kcd (toW s) (k : Int) 2 = some (e, toW (restoreA s k)) ∧ 0 ≤ e ∧ e ≤ 10 := by
 have hm := (h.saves k hk).1
 unfold restoreA
 cases hv : (s.cs k).saves with
 | zero =>
  refine ⟨3, ?_, by omega, by omega⟩
  rw [does_gen s k hk 2 _ 3 (by rw [hs, hv]; exact nest_restore0), if_neg (by omega)]
  have : ({ s.cs k with saves := 0 - 1 } : CS) = s.cs k := by
   have h0 : 0 - 1 = (s.cs k).saves := by rw [hv]
   rw [h0]
  rw [this, updc_self]
 | succ m =>
  refine ⟨0, ?_, by omega, by omega⟩
  rw [does_gen s k hk 2 _ 0 (by rw [hs, hv]; exact nest_restore m (by omega)), if_pos rfl]
  show some ((0 : Int), ({ toW s with cores_ := upd (cores s.cs) k ⟨LL (s.cs k).asked (s.cs k).served, NS m, (s.cs k).served⟩ } : KWh)) = some (0, { toW s with cores_ := cores (updc s.cs k { s.cs k with saves := m + 1 - 1 }) })
  rw [← cores_upd _ _ hk]
  unfold CC
  simp only [hs]
  rfl
def readA (s : KS) (b : Int) (t : List Int) : KS := { levelA { s with dev := t } with fet := (levelA { s with dev := t }).fet ++ [b] }
def endA (s : KS) (k : Nat) : KS := { s with cs := updc s.cs k { s.cs k with served := false }, sent := false }
def takeA (s : KS) (k : Nat) : KS := { s with cs := updc s.cs k { s.cs k with asked := false, served := true }, taken := s.taken + 1 }
theorem levelA_fet (s : KS) : (levelA s).fet = s.fet := by
 unfold levelA upA sendC
 split
 ·split <;> rfl
 ·rfl
theorem serving_at (s : KS) (k : Nat) (hk : k < 2) : ((toW s).cores_ k).serving_ = (s.cs k).served := by
 rw [show (toW s).cores_ k = CC (s.cs k) from cores_at s.cs k hk]; rfl
theorem run_read (s : KS) (h : Inv s) (k : Nat) (hk : k < 2) (hs : (s.cs k).served = true) (b : Int) (t : List Int) (hd : s.dev = b :: t) (hf : s.fet.length ≤ 100000000000) :
  kw_run_o8 (toW s) (k : Int) = some (0, toW (readA s b t)) := by
 unfold kw_run_o8
 rw [if_pos (by omega), Int.toNat_natCast, serving_at s k hk, hs]
 have e : (toW s).uart_.Asks = true := by show decide (0 < s.dev.length) = true; rw [hd]; simp
 rw [e, Bool.and_self, cond_true, device_read s h b t hd, Option.bind_some]
 unfold slices_Clone_byte
 have e2 : (toW (levelA { s with dev := t })).fetched_ = s.fet := levelA_fet _
 simp only
 rw [e2, if_pos (by omega), Option.bind_some, if_pos (by simp; omega)]
 unfold readA
 rw [levelA_fet]
 rfl
theorem run_end (s : KS) (h : Inv s) (k : Nat) (hk : k < 2) (hs : (s.cs k).served = true) (hd : s.dev = []) :
  kw_run_o8 (toW s) (k : Int) = some (0, toW (endA s k)) := by
 have hup : s.up = false := by rw [h.up, hd]; rfl
 unfold kw_run_o8
 rw [if_pos (by omega), Int.toNat_natCast, serving_at s k hk, hs]
 have e : (toW s).uart_.Asks = false := by show decide (0 < s.dev.length) = false; rw [hd]; rfl
 rw [e, Bool.and_false, cond_false, cond_true]
 have e1 : (toW s).cores_ k = CC (s.cs k) := cores_at s.cs k hk
 have e2 : ∀ (f : Nat → Kernel_core) (v : Kernel_core), upd f k v k = v := by intro f v; unfold upd; simp
 have e3 : ∀ (f : Nat → Kernel_core) (v v' : Kernel_core), upd (upd f k v) k v' = upd f k v' := by
  intro f v v'; funext i; unfold upd; split <;> rfl
 simp only [e1, e2, e3]
 have e4 : (CC (s.cs k)).local_ = LL (s.cs k).asked true := by unfold CC; rw [hs]
 have e5 : (CC (s.cs k)).nest_ = NI := by unfold CC; rw [hs]; rfl
 rw [e4, end_eq, Option.bind_some, e5]
 have hv := (h.saves k hk).2 hs
 have key : (⟨(toW s).uart_, (toW s).pins_, upd (toW s).cores_ k ⟨LL (s.cs k).asked false, NI, false⟩, (toW s).fetched_, (toW s).tty_, (toW s).taken_⟩ : KWh) = { toW s with cores_ := upd (cores s.cs) k ⟨LL (s.cs k).asked false, NI, false⟩ } := rfl
 simp only [key]
 unfold kcd
 rw [if_pos (by omega), Int.toNat_natCast]
 simp only [e2, e3]
 rw [nest_leave, Option.bind_some]
 have e6 : ((((NS 0, (0 : Int)).2) : Int) == 0) = true := rfl
 rw [e6, cond_true, Option.bind_some]
 have key2 : (⟨(toW s).uart_, (toW s).pins_, upd (cores s.cs) k ⟨LL (s.cs k).asked false, NS 0, false⟩, (toW s).fetched_, (toW s).tty_, (toW s).taken_⟩ : KWh) = toW { s with cs := updc s.cs k { s.cs k with served := false } } := by
  unfold toW
  simp only
  rw [← cores_upd _ _ hk]
  unfold CC
  rw [hv]
  rfl
 simp only [key2]
 rw [pin_end { s with cs := updc s.cs k { s.cs k with served := false } } h.pc hup, Option.bind_some]
 rfl
theorem run_take (s : KS) (h : Inv s) (k : Nat) (hk : k < 2) (ha : (s.cs k).asked = true) (hs : (s.cs k).served = false) (hv : (s.cs k).saves = 0) (ht : 0 ≤ s.taken ∧ s.taken ≤ 1000000000000000) :
  kw_run_o8 (toW s) (k : Int) = some (0, toW (takeA s k)) := by
 unfold kw_run_o8
 rw [if_pos (by omega), Int.toNat_natCast, serving_at s k hk, hs, Bool.false_and, cond_false, cond_false]
 have e1 : (toW s).cores_ k = CC (s.cs k) := cores_at s.cs k hk
 have e2 : ∀ (f : Nat → Kernel_core) (v : Kernel_core), upd f k v k = v := by intro f v; unfold upd; simp
 have e3 : ∀ (f : Nat → Kernel_core) (v v' : Kernel_core), upd (upd f k v) k v' = upd f k v' := by
  intro f v v'; funext i; unfold upd; split <;> rfl
 have e4 : (CC (s.cs k)).local_ = LL true false := by unfold CC; rw [hs, ha]
 have e5 : (CC (s.cs k)).nest_ = NS 0 := by unfold CC; rw [hs, hv]; rfl
 rw [e1, e5, e4, would_yes]
 have e6 : (NS 0).On = true := rfl
 rw [e6, cond_true, Option.bind_some]
 have e7 : (true && decide ((64 : Int) ≥ 0)) = true := by decide
 rw [e7, cond_true, does_gen s k hk 3 NI 0 (by rw [hs, hv]; exact nest_enter), if_pos rfl, Option.bind_some]
 simp only [e2, e3]
 rw [ha, hs, take_eq, Option.bind_some]
 simp only
 rw [wrap_id (x := (toW s).taken_ + 1) (by show _ ≤ s.taken + 1; omega) (by show s.taken + 1 ≤ _; omega)]
 congr 2
 unfold takeA toW
 simp only
 rw [← cores_upd _ _ hk]
 rfl
def quiet (s : KS) (k : Nat) : Prop := (s.cs k).served = false ∧ ((s.cs k).asked = true → 0 < (s.cs k).saves)
theorem run_idle (s : KS) (h : Inv s) (k : Nat) (hk : k < 2) (hq : quiet s k) (hf : s.fet = []) :
  kw_run_o8 (toW s) (k : Int) = some (7, toW s) := by
 obtain ⟨hs, hq⟩ := hq
 unfold kw_run_o8
 rw [if_pos (by omega), Int.toNat_natCast, serving_at s k hk, hs, Bool.false_and, cond_false, cond_false]
 have e1 : (toW s).cores_ k = CC (s.cs k) := cores_at s.cs k hk
 have e5 : (CC (s.cs k)).nest_ = NS (s.cs k).saves := by unfold CC; rw [hs]; rfl
 have ef : (toW s).fetched_ = [] := hf
 have e8 : decide ((((([] : List Int).length : Nat) : Int) : Int) > 0) = false := by decide
 rw [e1, e5, ef, e8]
 cases hv : (s.cs k).saves with
 | zero =>
  have ha : (s.cs k).asked = false := by
   cases ha : (s.cs k).asked with
   | false => rfl
   | true => have := hq ha; omega
  have e4 : (CC (s.cs k)).local_ = LL false false := by unfold CC; rw [hs, ha]
  have e6 : (NS 0).On = true := rfl
  rw [e6, cond_true, e4, would_no, Option.bind_some]
  have e7 : (true && decide ((-1 : Int) ≥ 0)) = false := by decide
  rw [e7, cond_false, cond_false]
 | succ m =>
  have e6 : (NS (m + 1)).On = false := rfl
  rw [e6, cond_false, Bool.false_and, cond_false, cond_false]
def keyA (s : KS) (t : Api_Tty) (r : List Int) : KS := { s with tty := t, fet := r }
theorem run_key (s : KS) (h : Inv s) (k : Nat) (hk : k < 2) (hq : quiet s k) (b : Int) (r : List Int) (hf : s.fet = b :: r) (t : Api_Tty) (e : Int) (ht : tty_Key s.tty b = some (t, e)) :
  kw_run_o8 (toW s) (k : Int) = some (0, toW (keyA s (if e = 0 then t else s.tty) r)) := by
 obtain ⟨hs, hq⟩ := hq
 have fin : (bif (decide (((((toW s).fetched_.length : Nat) : Int) : Int) > 0)) then
      if 0 ≤ (0 : Int) ∧ 0 < (((toW s).fetched_.length : Nat) : Int) then
      (tty_Key (toW s).tty_ ((toW s).fetched_.getD 0 0)).bind fun r34 =>
      bif ((r34.2 : Int) == 0) then
       if 1 ≤ (toW s).fetched_.length then
       some ((0 : Int), (⟨(toW s).uart_, (toW s).pins_, (toW s).cores_, (((toW s).fetched_.drop 1).take ((toW s).fetched_.length - 1)), r34.1, (toW s).taken_⟩ : KWh))
       else none
      else
       if 1 ≤ (toW s).fetched_.length then
       some (0, (⟨(toW s).uart_, (toW s).pins_, (toW s).cores_, (((toW s).fetched_.drop 1).take ((toW s).fetched_.length - 1)), (toW s).tty_, (toW s).taken_⟩ : KWh))
       else none
      else none
     else
      some (7, toW s)) = some (0, toW (keyA s (if e = 0 then t else s.tty) r)) := by
  have ef : (toW s).fetched_ = b :: r := hf
  have et : (toW s).tty_ = s.tty := rfl
  rw [ef, et]
  have e8 : decide (((((b :: r).length : Nat) : Int) : Int) > 0) = true := by simp
  rw [e8, cond_true, if_pos (by simp), List.getD_cons_zero, ht, Option.bind_some]
  have e9 : (((b :: r).drop 1).take ((b :: r).length - 1)) = r := by simp
  rw [e9]
  by_cases h0 : e = 0
  ·have e10 : ((((t, e).2) : Int) == 0) = true := by simp [h0]
   rw [e10, cond_true, if_pos (by simp), if_pos h0]
   rfl
  ·have e10 : ((((t, e).2) : Int) == 0) = false := by simp [h0]
   rw [e10, cond_false, if_pos (by simp), if_neg h0]
   rfl
 unfold kw_run_o8
 rw [if_pos (by omega), Int.toNat_natCast, serving_at s k hk, hs, Bool.false_and, cond_false, cond_false]
 have e1 : (toW s).cores_ k = CC (s.cs k) := cores_at s.cs k hk
 have e5 : (CC (s.cs k)).nest_ = NS (s.cs k).saves := by unfold CC; rw [hs]; rfl
 rw [e1, e5]
 cases hv : (s.cs k).saves with
 | zero =>
  have ha : (s.cs k).asked = false := by
   cases ha : (s.cs k).asked with
   | false => rfl
   | true => have := hq ha; omega
  have e4 : (CC (s.cs k)).local_ = LL false false := by unfold CC; rw [hs, ha]
  have e6 : (NS 0).On = true := rfl
  rw [e6, cond_true, e4, would_no, Option.bind_some]
  have e7 : (true && decide ((-1 : Int) ≥ 0)) = false := by decide
  rw [e7, cond_false]
  exact fin
 | succ m =>
  have e6 : (NS (m + 1)).On = false := rfl
  rw [e6, cond_false, Bool.false_and, cond_false]
  exact fin
abbrev T := Api_Tty
abbrev TZ : T := ⟨[], []⟩
def RightT (t : T) : Prop := t.Edit.length ≤ 64 ∧ t.Lines.length ≤ 400 ∧ ∀ l ∈ t.Lines, l.length ≤ 65
instance (t : T) : Decidable (RightT t) := by unfold RightT; infer_instance
theorem beqT {a b : Int} (h : a = b) : ((a : Int) == b) = true := by simpa using h
theorem beqF {a b : Int} (h : ¬ a = b) : ((a : Int) == b) = false := by simpa using h
theorem Right_eq (t : T) (hl : t.Lines.length ≤ 140737488355328) : tty_Right t = some (decide (RightT t)) := by
 unfold tty_Right
 have hf : ∀ x, tty_Right_1 x = some (decide ((((x.length : Nat) : Int) : Int) > 65)) := fun x => rfl
 rw [slices_ContainsFunc_slbyte_tty_Right_1_eq hf t.Lines hl]
 by_cases h : t.Edit.length ≤ 64 ∧ t.Lines.length ≤ 400
 ·have : ((decide ((((t.Edit.length : Nat) : Int) : Int) ≤ 64)) && (decide ((((t.Lines.length : Nat) : Int) : Int) ≤ 400))) = true := by
   simp only [Bool.and_eq_true, decide_eq_true_eq]; omega
  rw [this, cond_true, Option.bind_some, Bool.true_and]
  congr 1
  rw [Bool.eq_iff_iff, decide_eq_true_iff]
  simp only [Bool.not_eq_true', List.any_eq_false, decide_eq_true_eq]
  constructor
  ·intro h'; exact ⟨h.1, h.2, fun l hl => by have := h' l hl; omega⟩
  ·intro h' l hl; have := h'.2.2 l hl; omega
 ·have : ((decide ((((t.Edit.length : Nat) : Int) : Int) ≤ 64)) && (decide ((((t.Lines.length : Nat) : Int) : Int) ≤ 400))) = false := by
   rw [Bool.eq_false_iff]; simp only [ne_eq, Bool.and_eq_true, decide_eq_true_eq]; omega
  rw [this, cond_false, Option.bind_some, Bool.false_and, decide_eq_false (fun h' => h ⟨h'.1, h'.2.1⟩)]
theorem own_l1_eq (t : T) (r1 : List Int) (hl : t.Lines.length ≤ 1000) (hb : ∀ l ∈ t.Lines, l.length ≤ 1000) : ∀ n k (acc : List (List Int)), k ≤ t.Lines.length → t.Lines.length - k < n → acc = t.Lines.take k → tty_own_l1 t r1 n k acc = some ⟨t.Lines, r1⟩ := by
 intro n
 induction n with
 | zero => intro k acc h1 h2; omega
 | succ n ih =>
  intro k acc h1 h2 h3
  subst h3
  unfold tty_own_l1
  rcases Nat.lt_or_ge k t.Lines.length with hlt | hge
  ·unfold bytes_Clone
   have := hb t.Lines[k] (List.getElem_mem _)
   rw [dec_lt hlt, cond_true, getD_lt _ _ hlt, if_pos (by omega), Option.bind_some, if_pos (by simp; omega)]
   exact ih (k + 1) _ (by omega) (by omega) (List.take_succ_eq_append_getElem hlt).symm
  ·rw [dec_ge hge, cond_false, List.take_of_length_le hge]
theorem own_eq (t : T) (hl : t.Lines.length ≤ 1000) (hb : ∀ l ∈ t.Lines, l.length ≤ 1000) (he : t.Edit.length ≤ 1000) : tty_own t = some t := by
 unfold tty_own bytes_Clone
 rw [if_pos (by omega), Option.bind_some]
 exact own_l1_eq t t.Edit hl hb FUEL 0 [] (by omega) (fuel_gt (by omega)) rfl
def wordR2 (r : List Int) : Nat := (r.dropWhile fun x => x != 32).length
def wordR (r : List Int) : Nat := wordR2 (r.dropWhile fun x => x == 32)
theorem wordR2_le (r : List Int) : wordR2 r ≤ r.length := by
 unfold wordR2
 exact (List.dropWhile_suffix _).length_le
theorem wordR_le (r : List Int) : wordR r ≤ r.length := Nat.le_trans (wordR2_le _) ((List.dropWhile_suffix _).length_le)
theorem take_rev {l : List Int} {k : Nat} (h : k < l.length) : (l.take (k + 1)).reverse = l[k] :: (l.take k).reverse := by
 rw [List.take_succ_eq_append_getElem h, List.reverse_append]; rfl
theorem word_l2_eq (l : List Int) (x1 : Int) (hl : l.length ≤ 1000) : ∀ n k, k ≤ l.length → k < n → tty_word_l2 l x1 n (k : Int) = some ((wordR2 (l.take k).reverse : Nat) : Int) := by
 intro n
 induction n with
 | zero => intro k h1 h2; omega
 | succ n ih =>
  intro k h1 h2
  unfold tty_word_l2
  cases k with
  | zero =>
   rw [if_pos (fun h => by simp at h)]
   rfl
  | succ k =>
   have hw : IntKind.i64.wrap (((k + 1 : Nat) : Int) - 1) = (k : Int) := by rw [wrap_id (by omega) (by omega)]; omega
   have hd : decide ((((k + 1 : Nat) : Int) : Int) > 0) = true := by simp
   rw [hw, if_pos (fun _ => by omega), hd, Bool.true_and, Int.toNat_natCast, getD_lt _ _ (by omega), take_rev (by omega)]
   unfold wordR2
   by_cases hc : l[k] = 32
   ·have : ((l[k] : Int) != 32) = false := by simp [hc]
    rw [this, cond_false, List.dropWhile_cons_of_neg (by simp [hc])]
    simp; omega
   ·have : ((l[k] : Int) != 32) = true := by simp [hc]
    rw [this, cond_true, List.dropWhile_cons_of_pos (by simp [hc])]
    exact ih k (by omega) (by omega)
theorem word_l1_eq (l : List Int) (hl : l.length ≤ 1000) : ∀ n k, k ≤ l.length → k < n → tty_word_l1 l n (k : Int) = some ((wordR (l.take k).reverse : Nat) : Int) := by
 intro n
 induction n with
 | zero => intro k h1 h2; omega
 | succ n ih =>
  intro k h1 h2
  unfold tty_word_l1
  cases k with
  | zero =>
   rw [if_pos (fun h => by simp at h)]
   have := word_l2_eq l 0 hl FUEL 0 (by omega) (fuel_gt (by omega))
   simpa [wordR] using this
  | succ k =>
   have hw : IntKind.i64.wrap (((k + 1 : Nat) : Int) - 1) = (k : Int) := by rw [wrap_id (by omega) (by omega)]; omega
   have hd : decide ((((k + 1 : Nat) : Int) : Int) > 0) = true := by simp
   rw [hw, if_pos (fun _ => by omega), hd, Bool.true_and, Int.toNat_natCast, getD_lt _ _ (by omega)]
   by_cases hc : l[k] = 32
   ·have e : wordR (l.take (k + 1)).reverse = wordR (l.take k).reverse := by
     unfold wordR
     rw [take_rev (by omega), List.dropWhile_cons_of_pos (by simp [hc])]
    rw [beqT hc, cond_true, e]
    exact ih k (by omega) (by omega)
   ·have e : wordR (l.take (k + 1)).reverse = wordR2 (l.take (k + 1)).reverse := by
     unfold wordR
     rw [take_rev (by omega), List.dropWhile_cons_of_neg (by simp [hc])]
    rw [beqF hc, cond_false, e]
    exact word_l2_eq l _ hl FUEL (k + 1) h1 (fuel_gt (by omega))
theorem word_eq (l : List Int) (hl : l.length ≤ 1000) : tty_word l = some ((wordR l.reverse : Nat) : Int) := by
 unfold tty_word
 rw [word_l1_eq l hl FUEL l.length (Nat.le_refl _) (fuel_gt (by omega)), List.take_length]
def keyF (t : T) (b : Int) : T × Int :=
 if (b = 10 ∨ b = 4) ∧ t.Lines.length = 400 then (TZ, 4)
 else if b = 10 then (⟨t.Lines ++ [t.Edit ++ [b]], []⟩, 0)
 else if b = 4 then (⟨t.Lines ++ [t.Edit ++ []], []⟩, 0)
 else if b = 8 then (⟨t.Lines, t.Edit.take (t.Edit.length - 1)⟩, 0)
 else if b = 21 then (⟨t.Lines, []⟩, 0)
 else if b = 23 then (⟨t.Lines, t.Edit.take (wordR t.Edit.reverse)⟩, 0)
 else if t.Edit.length = 64 then (TZ, 4)
 else (⟨t.Lines, t.Edit ++ [b]⟩, 0)
theorem told_eq (t : T) (h : RightT t) (e : List Int) (he : e.length ≤ 1) : tty_told_roro t e = some ⟨t.Lines ++ [t.Edit ++ e], []⟩ := by
 obtain ⟨h1, h2, h3⟩ := h
 unfold tty_told_roro slices_Clone_slbyte slices_Clone_byte
 rw [if_pos (by omega), Option.bind_some, if_pos (by omega), Option.bind_some, if_pos (by omega), if_pos (by simp only [List.length_cons, List.length_nil]; omega)]
theorem Key_eq (t : T) (h : RightT t) (b : Int) : tty_Key t b = some (keyF t b) := by
 have h' := h
 obtain ⟨h1, h2, h3⟩ := h'
 unfold tty_Key keyF
 rw [Right_eq t (by omega), Option.bind_some, decide_eq_true h, Bool.not_true, cond_false]
 have hown : ∀ e : List Int, e.length ≤ 1000 → tty_own ⟨t.Lines, e⟩ = some ⟨t.Lines, e⟩ := fun e he => own_eq ⟨t.Lines, e⟩ (by simp only; omega) (fun l hl => by have := h3 l hl; omega) he
 have hown2 : ∀ e : List Int, e.length ≤ 1 → tty_own ⟨t.Lines ++ [t.Edit ++ e], []⟩ = some ⟨t.Lines ++ [t.Edit ++ e], []⟩ := fun e he => own_eq _ (by simp; omega) (fun l hl => by
   simp only [List.mem_append, List.mem_singleton] at hl
   rcases hl with hl | rfl
   ·have := h3 l hl; omega
   ·simp; omega) (by simp)
 by_cases hf : (b = 10 ∨ b = 4) ∧ t.Lines.length = 400
 ·have : ((((b : Int) == 10) || ((b : Int) == 4)) && ((((t.Lines.length : Nat) : Int) : Int) == 400)) = true := by
   simp only [Bool.and_eq_true, Bool.or_eq_true, beq_iff_eq]; omega
  rw [this, cond_true, if_pos hf]
 have : ((((b : Int) == 10) || ((b : Int) == 4)) && ((((t.Lines.length : Nat) : Int) : Int) == 400)) = false := by
  rw [Bool.eq_false_iff]; simp only [ne_eq, Bool.and_eq_true, Bool.or_eq_true, beq_iff_eq]; omega
 rw [this, cond_false, if_neg hf]
 by_cases h10 : b = 10
 ·rw [beqT h10, cond_true, if_pos h10, told_eq t h [b] (by simp), Option.bind_some, hown2 _ (by simp), Option.bind_some]
 rw [beqF h10, cond_false, if_neg h10]
 by_cases h4 : b = 4
 ·rw [beqT h4, cond_true, if_pos h4, told_eq t h [] (by simp), Option.bind_some, hown2 _ (by simp), Option.bind_some]
 rw [beqF h4, cond_false, if_neg h4]
 by_cases h8 : b = 8
 ·have hm : (if (0 : Int) > (IntKind.i64.wrap (((t.Edit.length : Nat) : Int) - 1)) then 0 else (IntKind.i64.wrap (((t.Edit.length : Nat) : Int) - 1))) = ((t.Edit.length - 1 : Nat) : Int) := by
   rw [wrap_id (by omega) (by omega)]; split <;> omega
  rw [beqT h8, cond_true, if_pos h8, hm, if_pos (by omega), if_pos (by omega), Int.toNat_natCast, List.drop_zero, Nat.sub_zero, hown _ (by simp; omega), Option.bind_some]
 rw [beqF h8, cond_false, if_neg h8]
 by_cases h21 : b = 21
 ·rw [beqT h21, cond_true, if_pos h21, hown _ (by simp), Option.bind_some]
 rw [beqF h21, cond_false, if_neg h21]
 by_cases h23 : b = 23
 ·have hw := wordR_le t.Edit.reverse
  rw [List.length_reverse] at hw
  rw [beqT h23, cond_true, if_pos h23, word_eq _ (by omega), Option.bind_some, if_pos (by omega), Int.toNat_natCast, if_pos hw, List.drop_zero, Nat.sub_zero, hown _ (by simp; omega), Option.bind_some]
 rw [beqF h23, cond_false, if_neg h23]
 by_cases h64 : t.Edit.length = 64
 ·rw [beqT (by omega), cond_true, if_pos h64]
 ·unfold bytes_Clone
  rw [beqF (by omega), cond_false, if_neg h64, if_pos (by omega), Option.bind_some, if_pos (by simp; omega), hown _ (by simp; omega), Option.bind_some]
def typS (t : T) (b : Int) : T := if (keyF t b).2 = 0 then (keyF t b).1 else t
theorem keyF_right (t : T) (h : RightT t) (b : Int) : RightT (keyF t b).1 := by
 obtain ⟨h1, h2, h3⟩ := h
 unfold keyF
 have hin : ∀ e : List Int, e.length ≤ 1 → t.Lines.length ≠ 400 → RightT ⟨t.Lines ++ [t.Edit ++ e], []⟩ := fun e he hb => ⟨by simp, by simp; omega, fun l hl => by
   simp only [List.mem_append, List.mem_singleton] at hl
   rcases hl with hl | rfl
   ·exact h3 l hl
   ·simp; omega⟩
 split
 ·decide
 split
 ·exact hin _ (by simp) (by omega)
 split
 ·exact hin _ (by simp) (by omega)
 split
 ·exact ⟨by simp; omega, h2, h3⟩
 split
 ·exact ⟨by simp, h2, h3⟩
 split
 ·exact ⟨by simp; omega, h2, h3⟩
 split
 ·decide
 ·exact ⟨by simp; omega, h2, h3⟩
theorem typS_right (t : T) (h : RightT t) (b : Int) : RightT (typS t b) := by
 unfold typS
 split
 ·exact keyF_right t h b
 ·exact h
theorem TZ_right : RightT TZ := by decide
def readF (t : T) (m : Int) : T × List Int × Int :=
 if ¬ RightT t then (TZ, [], 1) else if m < 1 then (TZ, [], 2) else
  match t.Lines with
  | [] => (TZ, [], 7)
  | l :: r => if l.length ≤ m.toNat then (⟨r, t.Edit⟩, l, 0) else (⟨l.drop m.toNat :: r, t.Edit⟩, l.take m.toNat, 0)
theorem Read_eq (t : T) (hl : t.Lines.length ≤ 140737488355328) (m : Int) : tty_Read t m = some (readF t m) := by
 unfold tty_Read readF
 rw [Right_eq t hl, Option.bind_some]
 by_cases hr : RightT t
 ·have hr' := hr
  obtain ⟨h1, h2, h3⟩ := hr'
  rw [decide_eq_true hr, if_neg (fun h => h hr), Bool.not_true, cond_false]
  by_cases hm : m < 1
  ·rw [decide_eq_true hm, if_pos hm]; rfl
  rw [decide_eq_false hm, if_neg hm, cond_false, own_eq t (by omega) (fun l hl => by have := h3 l hl; omega) (by omega)]
  obtain ⟨L, E⟩ := t
  simp only at *
  cases L with
  | nil => rfl
  | cons l r =>
   have hll := h3 l (by simp)
   simp only [List.length_cons] at h2
   rw [beqF (by simp; omega), cond_false, Option.bind_some]
   simp only [Nat.add_zero, List.getD_cons_zero]
   rw [if_pos (by simp)]
   unfold bytes_Clone
   by_cases hc : l.length ≤ m.toNat
   ·have hmm : (if ((l.length : Nat) : Int) < m then ((l.length : Nat) : Int) else m) = ((l.length : Nat) : Int) := by split <;> omega
    simp only [hmm]
    rw [if_pos (by omega), if_pos (by omega), if_pos (by simp; omega), Option.bind_some, beq_self_eq_true, cond_true, if_pos (by simp), if_pos hc]
    simp
   ·have hmm : (if ((l.length : Nat) : Int) < m then ((l.length : Nat) : Int) else m) = m := by split <;> omega
    simp only [hmm]
    rw [if_pos (by omega), if_pos (by omega), if_pos (by simp; omega), Option.bind_some, beqF (by omega), cond_false, if_pos (by omega), if_pos (by omega), if_pos (by simp; omega), Option.bind_some, if_pos (by simp), if_neg hc]
    simp
    rw [List.take_of_length_le (by simp)]
 ·rw [decide_eq_false hr, if_pos hr]; rfl
theorem readF_right (t : T) (h : RightT t) (m : Int) : RightT (readF t m).1 := by
 have h' := h
 obtain ⟨h1, h2, h3⟩ := h'
 unfold readF
 rw [if_neg (fun h' => h' h)]
 split
 ·exact TZ_right
 split
 ·exact TZ_right
 ·rename_i l r hl
  rw [hl] at h2 h3
  simp only [List.length_cons] at h2
  split
  ·exact ⟨h1, by simp only; omega, fun x hx => h3 x (by simp [hx])⟩
  ·refine ⟨h1, by simp; omega, fun x hx => ?_⟩
   rcases List.mem_cons.1 hx with rfl | hx
   ·have := h3 l (by simp); simp; omega
   ·exact h3 x (by simp [hx])
def runA (s : KS) (k : Nat) : KS × Int :=
 if (s.cs k).served = true then
  match s.dev with
  | b :: t => (readA s b t, 0)
  | [] => (endA s k, 0)
 else if (s.cs k).asked = true ∧ (s.cs k).saves = 0 then (takeA s k, 0)
 else match s.fet with
  | b :: r => (keyA s (typS s.tty b) r, 0)
  | [] => (s, 7)
theorem run_eq (s : KS) (h : Inv s) (ht : RightT s.tty) (k : Nat) (hk : k < 2) (hf : s.fet.length ≤ 100000000) (hn : 0 ≤ s.taken ∧ s.taken ≤ 100000000) :
  kw_run_o8 (toW s) (k : Int) = some ((runA s k).2, toW (runA s k).1) := by
 unfold runA
 by_cases hs : (s.cs k).served = true
 ·rw [if_pos hs]
  cases hd : s.dev with
  | nil => exact run_end s h k hk hs hd
  | cons b t => exact run_read s h k hk hs b t hd (by omega)
 ·rw [if_neg hs]
  have hs' : (s.cs k).served = false := by simpa using hs
  by_cases ha : (s.cs k).asked = true ∧ (s.cs k).saves = 0
  ·rw [if_pos ha]
   exact run_take s h k hk ha.1 hs' ha.2 (by omega)
  ·rw [if_neg ha]
   have hq : quiet s k := ⟨hs', fun h1 => by
    rcases Nat.eq_zero_or_pos (s.cs k).saves with h2 | h2
    ·exact absurd ⟨h1, h2⟩ ha
    ·exact h2⟩
   cases hfe : s.fet with
   | nil => exact run_idle s h k hk hq hfe
   | cons b r => exact run_key s h k hk hq b r hfe _ _ (Key_eq s.tty ht b)
def doA (s : KS) (o : AKO) : KS :=
 if o.Kind < 1 ∨ o.Kind > 6 then s
 else if (o.Kind ≠ 1 ∧ o.Kind ≠ 3) ∧ (o.Core < 0 ∨ o.Core ≥ 2) then s
 else if o.Kind = 1 then inA s o.Byte
 else if o.Kind = 2 then (runA s o.Core.toNat).1
 else if o.Kind = 3 then { s with tty := if (readF s.tty o.N).2.2 = 0 then (readF s.tty o.N).1 else s.tty }
 else if o.Kind = 4 then (if (s.cs o.Core.toNat).served = true then s else saveA s o.Core.toNat)
 else if o.Kind = 5 then (if (s.cs o.Core.toNat).served = true then s else restoreA s o.Core.toNat)
 else { s with pc := o.Core.toNat }
theorem inE_small (s : KS) : 0 ≤ inE s ∧ inE s ≤ 10 := by
 unfold inE
 split
 ·decide
 ·split <;> decide
theorem runA_small (s : KS) (k : Nat) : 0 ≤ (runA s k).2 ∧ (runA s k).2 ≤ 10 := by
 unfold runA
 split
 ·split <;> simp
 ·split
  ·simp
  ·split <;> simp
theorem readF_small (t : T) (m : Int) : 0 ≤ (readF t m).2.2 ∧ (readF t m).2.2 ≤ 10 := by
 unfold readF
 split
 ·simp
 ·split
  ·simp
  ·split
   ·simp
   ·split <;> simp
theorem do_eq (s : KS) (h : Inv s) (ht : RightT s.tty) (o : AKO) (hf : s.fet.length ≤ 100000000) (hn : 0 ≤ s.taken ∧ s.taken ≤ 100000000) :
  ∃ a, kw_do_o8 (toW s) o = some (a, toW (doA s o)) ∧ ((0 ≤ a.Err ∧ a.Err ≤ 10) ∧ (a.Data = [] ∨ a.Data = (readF s.tty o.N).2.1)) := by
 unfold kw_do_o8 doA
 unfold kw_do_1
 by_cases h1 : o.Kind < 1 ∨ o.Kind > 6
 ·have e : ((decide ((o.Kind : Int) < 1)) || (decide ((o.Kind : Int) > 6))) = true := by simpa using h1
  rw [if_pos h1, e, cond_true, Option.bind_some]
  exact ⟨_, rfl, ⟨by decide, by decide⟩, .inl rfl⟩
 ·have e : ((decide ((o.Kind : Int) < 1)) || (decide ((o.Kind : Int) > 6))) = false := by simp; omega
  rw [if_neg h1, e, cond_false]
  by_cases h2 : (o.Kind ≠ 1 ∧ o.Kind ≠ 3) ∧ (o.Core < 0 ∨ o.Core ≥ 2)
  ·have e : ((((o.Kind : Int) != 1) && ((o.Kind : Int) != 3)) && ((decide ((o.Core : Int) < 0)) || (decide ((o.Core : Int) ≥ 2)))) = true := by simpa using h2
   rw [if_pos h2, e, cond_true, Option.bind_some]
   exact ⟨_, rfl, ⟨by decide, by decide⟩, .inl rfl⟩
  ·have e : ((((o.Kind : Int) != 1) && ((o.Kind : Int) != 3)) && ((decide ((o.Core : Int) < 0)) || (decide ((o.Core : Int) ≥ 2)))) = false := by
    rw [← Bool.not_eq_true]
    intro hh
    exact h2 (by simpa using hh)
   rw [if_neg h2, e, cond_false]
   by_cases k1 : o.Kind = 1
   ·rw [if_pos k1, beqT k1, cond_true]
    obtain ⟨x, hx⟩ := device_in s h o.Byte
    rw [hx, Option.bind_some, Option.bind_some]
    exact ⟨_, rfl, inE_small s, .inl rfl⟩
   ·rw [if_neg k1, beqF k1, cond_false]
    by_cases k2 : o.Kind = 2
    ·obtain ⟨c, hc, hc2⟩ : ∃ c : Nat, o.Core = (c : Int) ∧ c < 2 := ⟨o.Core.toNat, by omega, by omega⟩
     rw [if_pos k2, beqT k2, cond_true, hc, Int.toNat_natCast, run_eq s h ht c hc2 hf hn, Option.bind_some, Option.bind_some]
     exact ⟨_, rfl, runA_small s c, .inl rfl⟩
    ·rw [if_neg k2, beqF k2, cond_false]
     by_cases k3 : o.Kind = 3
     ·rw [if_pos k3, beqT k3, cond_true]
      have hr := Read_eq s.tty (by have := ht.2.1; omega) o.N
      have e2 : (toW s).tty_ = s.tty := rfl
      rw [e2, hr, Option.bind_some]
      by_cases h0 : (readF s.tty o.N).2.2 = 0
      ·rw [beqT h0, cond_true, if_pos h0]
       exact ⟨_, rfl, readF_small s.tty o.N, .inr rfl⟩
      ·rw [beqF h0, cond_false, if_neg h0]
       exact ⟨_, rfl, readF_small s.tty o.N, .inr rfl⟩
     ·rw [if_neg k3, beqF k3, cond_false]
      obtain ⟨c, hc, hc2⟩ : ∃ c : Nat, o.Core = (c : Int) ∧ c < 2 := ⟨o.Core.toNat, by omega, by omega⟩
      by_cases k4 : o.Kind = 4
      ·have em : (mget o.Kind (mput 5 2 (mput 4 1 ([] : List (Int × Int))))).getD 0 = 1 := by rw [k4]; decide
       rw [if_pos k4, beqT k4, cond_true, cond_true, hc, Int.toNat_natCast, if_pos (by omega), serving_at s c hc2, em]
       by_cases hs : (s.cs c).served = true
       ·rw [hs, cond_true, Option.bind_some, if_pos rfl]
        exact ⟨_, rfl, ⟨by decide, by decide⟩, .inl rfl⟩
       ·have hs' : (s.cs c).served = false := by simpa using hs
        obtain ⟨x, hx, hx2⟩ := does_save s h c hc2 hs'
        rw [hs', cond_false, hx, Option.bind_some, Option.bind_some, if_neg (by decide)]
        exact ⟨_, rfl, hx2, .inl rfl⟩
      ·rw [if_neg k4, beqF k4, cond_false]
       by_cases k5 : o.Kind = 5
       ·have em : (mget o.Kind (mput 5 2 (mput 4 1 ([] : List (Int × Int))))).getD 0 = 2 := by rw [k5]; decide
        rw [if_pos k5, beqT k5, cond_true, hc, Int.toNat_natCast, if_pos (by omega), serving_at s c hc2, em]
        by_cases hs : (s.cs c).served = true
        ·rw [hs, cond_true, Option.bind_some, if_pos rfl]
         exact ⟨_, rfl, ⟨by decide, by decide⟩, .inl rfl⟩
        ·have hs' : (s.cs c).served = false := by simpa using hs
         obtain ⟨x, hx, hx2⟩ := does_restore s h c hc2 hs'
         rw [hs', cond_false, hx, Option.bind_some, Option.bind_some, if_neg (by decide)]
         exact ⟨_, rfl, hx2, .inl rfl⟩
       ·rw [if_neg k5, beqF k5, cond_false, hc, Int.toNat_natCast, if_pos (by show 0 ≤ (0 : Int) ∧ (0 : Int) < ((1 : Nat) : Int); omega)]
        exact ⟨_, rfl, ⟨by decide, by decide⟩, .inl rfl⟩
def ansA (s : KS) (o : AKO) : AKA := ((kw_do_o8 (toW s) o).getD (⟨0, []⟩, toW s)).1
theorem do_ans (s : KS) (h : Inv s) (ht : RightT s.tty) (o : AKO) (hf : s.fet.length ≤ 100000000) (hn : 0 ≤ s.taken ∧ s.taken ≤ 100000000) :
  kw_do_o8 (toW s) o = some (ansA s o, toW (doA s o)) ∧ (0 ≤ (ansA s o).Err ∧ (ansA s o).Err ≤ 10) ∧ ((ansA s o).Data = [] ∨ (ansA s o).Data = (readF s.tty o.N).2.1) := by
 obtain ⟨a, ha, h1, h2⟩ := do_eq s h ht o hf hn
 have e : ansA s o = a := by unfold ansA; rw [ha]; rfl
 rw [e]
 exact ⟨ha, h1, h2⟩
def ansL : KS → List AKO → List AKA
 | _, [] => []
 | s, o :: r => ansA s o :: ansL (doA s o) r
structure Pre (s : KS) : Prop where
 dev : s.dev.length ≤ 16
 lost : 0 ≤ s.lost ∧ s.lost ≤ 1099511627776
 pc : s.pc < 2
 sent : s.up = true → s.sent = true
 fly : s.sent = ((s.cs 0).asked || (s.cs 0).served || (s.cs 1).asked || (s.cs 1).served)
 one0 : (s.cs 0).asked = true → (s.cs 0).served = false ∧ (s.cs 1).asked = false ∧ (s.cs 1).served = false
 one1 : (s.cs 1).asked = true → (s.cs 1).served = false ∧ (s.cs 0).asked = false ∧ (s.cs 0).served = false
 one2 : (s.cs 0).served = true → (s.cs 1).served = false
 saves : ∀ k, k < 2 → (s.cs k).saves ≤ 400 ∧ ((s.cs k).served = true → (s.cs k).saves = 0)
theorem Inv.pre {s : KS} (h : Inv s) : Pre s := ⟨h.dev, h.lost, h.pc, h.sent, h.fly, h.one0, h.one1, h.one2, h.saves⟩
theorem levelA_inv (s : KS) (h : Pre s) : Inv (levelA s) := by
 unfold levelA
 by_cases hd : 0 < s.dev.length
 ·rw [if_pos hd]
  unfold upA
  cases hq : s.sent with
  | true =>
   have hf := h.fly
   rw [hq] at hf
   exact ⟨h.dev, h.lost, h.pc, (decide_eq_true hd).symm, fun _ => rfl, hf, h.one0, h.one1, h.one2, h.saves⟩
  | false =>
   have hf := h.fly
   rw [hq] at hf
   have hf := hf.symm
   simp only [Bool.or_eq_false_iff] at hf
   obtain ⟨⟨⟨f1, f2⟩, f3⟩, f4⟩ := hf
   have hs := h.saves
   rcases (by have := h.pc; omega : s.pc = 0 ∨ s.pc = 1) with hp | hp
   ·refine ⟨h.dev, h.lost, h.pc, (decide_eq_true hd).symm, fun _ => rfl, ?_, ?_, ?_, ?_, ?_⟩ <;> simp [sendC, updc, hp, f1, f2, f3, f4]
    intro k hk
    rcases (by omega : k = 0 ∨ k = 1) with rfl | rfl
    ·simpa [f2] using (hs 0 (by omega)).1
    ·simpa [f4] using (hs 1 (by omega)).1
   ·refine ⟨h.dev, h.lost, h.pc, (decide_eq_true hd).symm, fun _ => rfl, ?_, ?_, ?_, ?_, ?_⟩ <;> simp [sendC, updc, hp, f1, f2, f3, f4]
    intro k hk
    rcases (by omega : k = 0 ∨ k = 1) with rfl | rfl
    ·simpa [f2] using (hs 0 (by omega)).1
    ·simpa [f4] using (hs 1 (by omega)).1
 ·rw [if_neg hd]
  exact ⟨h.dev, h.lost, h.pc, (decide_eq_false hd).symm, fun hh => (by cases hh), h.fly, h.one0, h.one1, h.one2, h.saves⟩
theorem inA_inv (s : KS) (h : Inv s) (b : Int) : Inv (inA s b) := by
 unfold inA
 split
 ·rename_i hd
  exact levelA_inv _ ⟨by simp; omega, h.lost, h.pc, h.sent, h.fly, h.one0, h.one1, h.one2, h.saves⟩
 ·split
  ·exact h
  ·have := h.lost
   exact levelA_inv _ ⟨h.dev, by show 0 ≤ s.lost + 1 ∧ s.lost + 1 ≤ _; omega, h.pc, h.sent, h.fly, h.one0, h.one1, h.one2, h.saves⟩
theorem readA_inv (s : KS) (h : Inv s) (b : Int) (t : List Int) (hd : s.dev = b :: t) : Inv (readA s b t) := by
 have hl := h.dev
 rw [hd, List.length_cons] at hl
 have := levelA_inv { s with dev := t } ⟨by show t.length ≤ 16; omega, h.lost, h.pc, h.sent, h.fly, h.one0, h.one1, h.one2, h.saves⟩
 exact ⟨this.dev, this.lost, this.pc, this.up, this.sent, this.fly, this.one0, this.one1, this.one2, this.saves⟩
theorem endA_inv (s : KS) (h : Inv s) (k : Nat) (hk : k < 2) (hs : (s.cs k).served = true) (hd : s.dev = []) : Inv (endA s k) := by
 have hup : s.up = false := by rw [h.up, hd]; rfl
 have hsv := h.saves
 have o0 := h.one0; have o1 := h.one1; have o2 := h.one2
 rcases (by omega : k = 0 ∨ k = 1) with rfl | rfl
 ·have a0 : (s.cs 0).asked = false := by
   cases ha : (s.cs 0).asked with
   | false => rfl
   | true => have := (o0 ha).1; rw [hs] at this; cases this
  have a1 : (s.cs 1).asked = false := by
   cases ha : (s.cs 1).asked with
   | false => rfl
   | true => have := (o1 ha).2.2; rw [hs] at this; cases this
  have s1 := o2 hs
  refine ⟨h.dev, h.lost, h.pc, h.up, fun hh => ?_, ?_, ?_, ?_, ?_, ?_⟩ <;> simp [endA, updc, a0, a1, s1]
  ·rw [show (endA s 0).up = s.up from rfl, hup] at hh; cases hh
  ·intro k hk
   rcases (by omega : k = 0 ∨ k = 1) with rfl | rfl
   ·simpa using (hsv 0 (by omega)).1
   ·simpa [s1] using (hsv 1 (by omega)).1
 ·have a0 : (s.cs 0).asked = false := by
   cases ha : (s.cs 0).asked with
   | false => rfl
   | true => have := (o0 ha).2.2; rw [hs] at this; cases this
  have a1 : (s.cs 1).asked = false := by
   cases ha : (s.cs 1).asked with
   | false => rfl
   | true => have := (o1 ha).1; rw [hs] at this; cases this
  have s0 : (s.cs 0).served = false := by
   cases ha : (s.cs 0).served with
   | false => rfl
   | true => have := o2 ha; rw [hs] at this; cases this
  refine ⟨h.dev, h.lost, h.pc, h.up, fun hh => ?_, ?_, ?_, ?_, ?_, ?_⟩ <;> simp [endA, updc, a0, a1, s0]
  ·rw [show (endA s 1).up = s.up from rfl, hup] at hh; cases hh
  ·intro k hk
   rcases (by omega : k = 0 ∨ k = 1) with rfl | rfl
   ·simpa [s0] using (hsv 0 (by omega)).1
   ·simpa using (hsv 1 (by omega)).1
theorem takeA_inv (s : KS) (h : Inv s) (k : Nat) (hk : k < 2) (ha : (s.cs k).asked = true) (hv : (s.cs k).saves = 0) : Inv (takeA s k) := by
 have hsv := h.saves
 have hf := h.fly
 have hst := h.sent
 rcases (by omega : k = 0 ∨ k = 1) with rfl | rfl
 ·obtain ⟨f1, f2, f3⟩ := h.one0 ha
  rw [ha, f1, f2, f3] at hf
  refine ⟨h.dev, h.lost, h.pc, h.up, fun hh => hst hh, ?_, ?_, ?_, ?_, ?_⟩ <;> simp [takeA, updc, ha, f1, f2, f3]
  ·simpa using hf
  ·intro k hk
   rcases (by omega : k = 0 ∨ k = 1) with rfl | rfl
   ·simp [hv]
   ·simpa [f3] using (hsv 1 (by omega)).1
 ·obtain ⟨f1, f2, f3⟩ := h.one1 ha
  rw [ha, f1, f2, f3] at hf
  refine ⟨h.dev, h.lost, h.pc, h.up, fun hh => hst hh, ?_, ?_, ?_, ?_, ?_⟩ <;> simp [takeA, updc, ha, f1, f2, f3]
  ·simpa using hf
  ·intro k hk
   rcases (by omega : k = 0 ∨ k = 1) with rfl | rfl
   ·simpa [f3] using (hsv 0 (by omega)).1
   ·simp [hv]
theorem setsaves_inv (s : KS) (h : Inv s) (k : Nat) (hk : k < 2) (hs : (s.cs k).served = false) (n : Nat) (hn : n ≤ 400) : Inv { s with cs := updc s.cs k { s.cs k with saves := n } } := by
 have hf := h.fly
 have o0 := h.one0; have o1 := h.one1; have o2 := h.one2
 have hsv := h.saves
 rcases (by omega : k = 0 ∨ k = 1) with rfl | rfl
 ·refine ⟨h.dev, h.lost, h.pc, h.up, h.sent, ?_, ?_, ?_, ?_, ?_⟩ <;> simp [updc]
  ·exact hf
  ·simpa using o0
  ·simpa using o1
  ·simpa using o2
  ·intro j hj
   rcases (by omega : j = 0 ∨ j = 1) with rfl | rfl
   ·simp [hs, hn]
   ·simpa using hsv 1 (by omega)
 ·refine ⟨h.dev, h.lost, h.pc, h.up, h.sent, ?_, ?_, ?_, ?_, ?_⟩ <;> simp [updc]
  ·exact hf
  ·simpa using o0
  ·simpa using o1
  ·simpa using o2
  ·intro j hj
   rcases (by omega : j = 0 ∨ j = 1) with rfl | rfl
   ·simpa using hsv 0 (by omega)
   ·simp [hs, hn]
theorem runA_inv (s : KS) (h : Inv s) (ht : RightT s.tty) (k : Nat) (hk : k < 2) : Inv (runA s k).1 ∧ RightT (runA s k).1.tty := by
 unfold runA
 by_cases hs : (s.cs k).served = true
 ·rw [if_pos hs]
  cases hd : s.dev with
  | nil => exact ⟨endA_inv s h k hk hs hd, ht⟩
  | cons b t =>
   refine ⟨readA_inv s h b t hd, ?_⟩
   have : (readA s b t).tty = s.tty := by
    show (levelA { s with dev := t }).tty = s.tty
    unfold levelA upA sendC
    split
    ·split <;> rfl
    ·rfl
   show RightT (readA s b t).tty
   rw [this]; exact ht
 ·rw [if_neg hs]
  by_cases ha : (s.cs k).asked = true ∧ (s.cs k).saves = 0
  ·rw [if_pos ha]
   exact ⟨takeA_inv s h k hk ha.1 ha.2, ht⟩
  ·rw [if_neg ha]
   cases hfe : s.fet with
   | nil => exact ⟨h, ht⟩
   | cons b r => exact ⟨⟨h.dev, h.lost, h.pc, h.up, h.sent, h.fly, h.one0, h.one1, h.one2, h.saves⟩, typS_right s.tty ht b⟩
theorem levelA_tty (s : KS) : (levelA s).tty = s.tty ∧ (levelA s).taken = s.taken ∧ (levelA s).dev = s.dev ∧ (levelA s).lost = s.lost ∧ ∀ k, ((levelA s).cs k).saves = (s.cs k).saves := by
 unfold levelA upA sendC
 split
 ·split
  ·exact ⟨rfl, rfl, rfl, rfl, fun _ => rfl⟩
  ·refine ⟨rfl, rfl, rfl, rfl, fun k => ?_⟩
   simp only [updc]
   split
   ·rename_i h; rw [h]
   ·rfl
 ·exact ⟨rfl, rfl, rfl, rfl, fun _ => rfl⟩
theorem inA_tty (s : KS) (b : Int) : (inA s b).tty = s.tty ∧ (inA s b).taken = s.taken ∧ (inA s b).fet = s.fet ∧ ∀ k, ((inA s b).cs k).saves = (s.cs k).saves := by
 unfold inA
 split
 ·have := levelA_tty { s with dev := s.dev ++ [b] }
  exact ⟨this.1, this.2.1, levelA_fet _, this.2.2.2.2⟩
 ·split
  ·exact ⟨rfl, rfl, rfl, fun _ => rfl⟩
  ·have := levelA_tty { s with lost := s.lost + 1 }
   exact ⟨this.1, this.2.1, levelA_fet _, this.2.2.2.2⟩
theorem doA_inv (s : KS) (h : Inv s) (ht : RightT s.tty) (o : AKO) : Inv (doA s o) ∧ RightT (doA s o).tty := by
 unfold doA
 split
 ·exact ⟨h, ht⟩
 ·split
  ·exact ⟨h, ht⟩
  ·rename_i h1 h2
   split
   ·exact ⟨inA_inv s h _, by rw [(inA_tty s _).1]; exact ht⟩
   ·rename_i k1
    split
    ·rename_i k2
     exact runA_inv s h ht _ (by omega)
    ·rename_i k2
     split
     ·rename_i k3
      refine ⟨⟨h.dev, h.lost, h.pc, h.up, h.sent, h.fly, h.one0, h.one1, h.one2, h.saves⟩, ?_⟩
      show RightT (if (readF s.tty o.N).2.2 = 0 then (readF s.tty o.N).1 else s.tty)
      split
      ·exact readF_right s.tty ht o.N
      ·exact ht
     ·rename_i k3
      have hc : o.Core.toNat < 2 := by omega
      split
      ·split
       ·exact ⟨h, ht⟩
       ·rename_i hs
        unfold saveA
        split
        ·exact ⟨h, ht⟩
        ·rename_i h4
         have := (h.saves _ hc).1
         exact ⟨setsaves_inv s h _ hc (by simpa using hs) _ (by omega), ht⟩
      ·split
       ·split
        ·exact ⟨h, ht⟩
        ·rename_i hs
         have := (h.saves _ hc).1
         exact ⟨setsaves_inv s h _ hc (by simpa using hs) _ (by omega), ht⟩
       ·exact ⟨⟨h.dev, h.lost, hc, h.up, h.sent, h.fly, h.one0, h.one1, h.one2, h.saves⟩, ht⟩
def tot (s : KS) : Nat := s.dev.length + s.fet.length + (s.cs 0).saves + (s.cs 1).saves
theorem runA_tot (s : KS) (k : Nat) (hk : k < 2) : tot (runA s k).1 ≤ tot s ∧ s.taken ≤ (runA s k).1.taken ∧ (runA s k).1.taken ≤ s.taken + 1 := by
 unfold runA
 split
 ·cases hd : s.dev with
  | nil =>
   refine ⟨?_, by show s.taken ≤ s.taken; omega, by show s.taken ≤ s.taken + 1; omega⟩
   unfold tot endA
   simp only
   rcases (by omega : k = 0 ∨ k = 1) with rfl | rfl <;> simp [updc]
  | cons b t =>
   have := levelA_tty { s with dev := t }
   refine ⟨?_, by show s.taken ≤ (levelA { s with dev := t }).taken; rw [this.2.1]; exact Int.le_refl _, by show (levelA { s with dev := t }).taken ≤ _; rw [this.2.1]; show s.taken ≤ s.taken + 1; omega⟩
   unfold tot readA
   simp only
   rw [levelA_fet, this.2.2.1, this.2.2.2.2, this.2.2.2.2, hd]
   simp
   omega
 ·split
  ·refine ⟨?_, by show s.taken ≤ s.taken + 1; omega, by show s.taken + 1 ≤ s.taken + 1; omega⟩
   unfold tot takeA
   simp only
   rcases (by omega : k = 0 ∨ k = 1) with rfl | rfl <;> simp [updc]
  ·cases hfe : s.fet with
   | nil => exact ⟨Nat.le_refl _, Int.le_refl _, by show s.taken ≤ s.taken + 1; omega⟩
   | cons b r =>
    refine ⟨?_, Int.le_refl _, by show s.taken ≤ s.taken + 1; omega⟩
    unfold tot keyA
    simp only
    rw [hfe]
    simp
theorem doA_tot (s : KS) (o : AKO) : tot (doA s o) ≤ tot s + 1 ∧ s.taken ≤ (doA s o).taken ∧ (doA s o).taken ≤ s.taken + 1 := by
 unfold doA
 split
 ·exact ⟨by omega, by omega, by omega⟩
 ·split
  ·exact ⟨by omega, by omega, by omega⟩
  ·rename_i h1 h2
   split
   ·have := inA_tty s o.Byte
    refine ⟨?_, by rw [this.2.1]; omega, by rw [this.2.1]; omega⟩
    unfold tot
    rw [this.2.2.1, this.2.2.2, this.2.2.2]
    have hd : (inA s o.Byte).dev.length ≤ s.dev.length + 1 := by
     unfold inA
     split
     ·rw [(levelA_tty _).2.2.1]; simp
     ·split
      ·omega
      ·rw [(levelA_tty _).2.2.1]; show s.dev.length ≤ _; omega
    omega
   ·split
    ·have := runA_tot s o.Core.toNat (by omega)
     exact ⟨by omega, this.2.1, this.2.2⟩
    ·split
     ·exact ⟨by show tot s ≤ _; omega, by show s.taken ≤ s.taken; omega, by show s.taken ≤ s.taken + 1; omega⟩
     ·have hc : o.Core.toNat < 2 := by omega
      split
      ·split
       ·exact ⟨by omega, by omega, by omega⟩
       ·unfold saveA
        split
        ·exact ⟨by omega, by omega, by omega⟩
        ·refine ⟨?_, by show s.taken ≤ s.taken; omega, by show s.taken ≤ s.taken + 1; omega⟩
         unfold tot
         simp only
         rcases (by omega : o.Core.toNat = 0 ∨ o.Core.toNat = 1) with hc | hc <;> rw [hc] <;> simp [updc] <;> omega
      ·split
       ·split
        ·exact ⟨by omega, by omega, by omega⟩
        ·refine ⟨?_, by show s.taken ≤ s.taken; omega, by show s.taken ≤ s.taken + 1; omega⟩
         unfold tot restoreA
         simp only
         rcases (by omega : o.Core.toNat = 0 ∨ o.Core.toNat = 1) with hc | hc <;> rw [hc] <;> simp [updc] <;> omega
       ·exact ⟨by show tot s ≤ _; omega, by show s.taken ≤ s.taken; omega, by show s.taken ≤ s.taken + 1; omega⟩
def KZ : AKO := ⟨0, 0, 0, 0⟩
def PL (ops : List AKO) (r1 : KWh) (n : Nat) (l : List AKA) (k : Nat) (w : KWh) : Option ((List AKA) × Api_Whole) :=
 kernel_Play_l1 ops r1 n l k w.uart_.In w.uart_.Out w.uart_.Lost w.uart_.Asks w.pins_ (((w.cores_ 0).local_.Asked) 0) (((w.cores_ 0).local_.Asked) 1) (((w.cores_ 0).local_.Asked) 2) (((w.cores_ 0).local_.Asked) 3) (((w.cores_ 0).local_.Served) 0) (((w.cores_ 0).local_.Served) 1) (((w.cores_ 0).local_.Served) 2) (((w.cores_ 0).local_.Served) 3) ((w.cores_ 0).local_.Class) ((w.cores_ 0).nest_.On) ((w.cores_ 0).nest_.Kept) ((w.cores_ 0).serving_) (((w.cores_ 1).local_.Asked) 0) (((w.cores_ 1).local_.Asked) 1) (((w.cores_ 1).local_.Asked) 2) (((w.cores_ 1).local_.Asked) 3) (((w.cores_ 1).local_.Served) 0) (((w.cores_ 1).local_.Served) 1) (((w.cores_ 1).local_.Served) 2) (((w.cores_ 1).local_.Served) 3) ((w.cores_ 1).local_.Class) ((w.cores_ 1).nest_.On) ((w.cores_ 1).nest_.Kept) ((w.cores_ 1).serving_) w.fetched_ w.tty_.Lines w.tty_.Edit w.taken_
theorem PL_step (ops : List AKO) (r1 : KWh) (n : Nat) (l : List AKA) (k : Nat) (s : KS) : PL ops r1 (n + 1) l k (toW s) =
  bif (decide ((((k : Nat) : Int) : Int) < ((ops.length : Nat) : Int))) then
   (kw_do_o8 (toW s) (ops.getD k KZ)).bind fun r40 =>
   if ((l).length + ([r40.1]).length) * 32 ≤ 140737488355328 ∧ (l).length + ([r40.1]).length ≤ 140737488355328 then PL ops r1 n (l ++ [r40.1]) (k + 1) r40.2
   else none
  else
   (slices_Clone_byte s.dev).bind fun r43 =>
   (slices_Clone_byte s.fet).bind fun r45 =>
   some (l, (⟨r43, r45, s.tty, s.lost, s.taken⟩ : Api_Whole)) := rfl
def runs (s : KS) (ops : List AKO) : KS := ops.foldl doA s
theorem runs_append (s : KS) (a b : List AKO) : runs s (a ++ b) = runs (runs s a) b := List.foldl_append
def BEG : KS := ⟨[], 0, 0, false, false, fun _ => ⟨false, false, 0⟩, [], ⟨[], []⟩, 0⟩
theorem BEG_inv : Inv BEG := ⟨by decide, by decide, by decide, by decide, by decide, by decide, by decide, by decide, by decide, fun k _ => ⟨by show (0 : Nat) ≤ 400; omega, fun h => by cases h⟩⟩
theorem ansL_length : ∀ (ops : List AKO) (s : KS), (ansL s ops).length = ops.length
 | [], _ => rfl
 | o :: r, s => by simp [ansL, ansL_length r]
theorem Play_l (ops : List AKO) (r1 : KWh) (ho : ops.length ≤ 2000000) : ∀ n k (l : List AKA) (s : KS), Inv s → RightT s.tty → tot s ≤ k → 0 ≤ s.taken ∧ s.taken ≤ k → l.length = k → k ≤ ops.length → ops.length - k < n →
  PL ops r1 n l k (toW s) = some (l ++ ansL s (ops.drop k), ⟨(runs s (ops.drop k)).dev, (runs s (ops.drop k)).fet, (runs s (ops.drop k)).tty, (runs s (ops.drop k)).lost, (runs s (ops.drop k)).taken⟩) := by
 intro n
 induction n with
 | zero => intro k l s h1 h2 h3 h4 h5 h6 h7; omega
 | succ n ih =>
  intro k l s h1 h2 h3 h4 h5 h6 h7
  rw [PL_step]
  have hft : s.fet.length ≤ tot s := by unfold tot; omega
  rcases Nat.lt_or_ge k ops.length with hlt | hge
  ·rw [dec_lt hlt, cond_true, getD_lt _ _ hlt, List.drop_eq_getElem_cons hlt]
   obtain ⟨ha, -, -⟩ := do_ans s h1 h2 ops[k] (by omega) (by omega)
   have hi := doA_inv s h1 h2 ops[k]
   have ht := doA_tot s ops[k]
   rw [ha, Option.bind_some, if_pos (by simp; omega)]
   rw [ih (k + 1) (l ++ [ansA s ops[k]]) (doA s ops[k]) hi.1 hi.2 (by omega) (by omega) (by simp; omega) (by omega) (by omega), List.append_assoc]
   rfl
  ·rw [dec_ge hge, cond_false, List.drop_of_length_le hge]
   unfold slices_Clone_byte
   have hd := h1.dev
   rw [if_pos (by omega), Option.bind_some, if_pos (by omega), Option.bind_some]
   simp [runs, ansL]
theorem boot_eq : ∃ r1, kernel_boot = some r1 ∧ ∀ ops n l, PL ops r1 n l 0 r1 = PL ops r1 n l 0 (toW BEG) := ⟨_, rfl, fun _ _ _ => rfl⟩
theorem Play_eq (ops : List AKO) (ho : ops.length ≤ 2000000) :
  kernel_Play ops = some (ansL BEG ops, ⟨(runs BEG ops).dev, (runs BEG ops).fet, (runs BEG ops).tty, (runs BEG ops).lost, (runs BEG ops).taken⟩) := by
 unfold kernel_Play
 obtain ⟨r1, hr, he⟩ := boot_eq
 rw [hr, Option.bind_some]
 have := Play_l ops r1 ho FUEL 0 [] BEG BEG_inv (by decide) (by decide) (by decide) rfl (Nat.zero_le _) (fuel_gt (by omega))
 rw [List.drop_zero] at this
 rw [← he] at this
 exact this
structure Good (s : KS) (n : Nat) : Prop where
 inv : Inv s
 right : RightT s.tty
 tot : tot s ≤ n
 taken : 0 ≤ s.taken ∧ s.taken ≤ n
theorem Good.step {s : KS} {n : Nat} (h : Good s n) (o : AKO) : Good (doA s o) (n + 1) := by
 have hi := doA_inv s h.inv h.right o
 have ht := doA_tot s o
 have := h.tot
 have := h.taken
 exact ⟨hi.1, hi.2, by omega, by omega⟩
theorem good_beg : Good BEG 0 := ⟨BEG_inv, by decide, by decide, by decide⟩
theorem good_runs : ∀ (ops : List AKO) (s : KS) (n : Nat), Good s n → Good (runs s ops) (n + ops.length)
 | [], s, n, h => h
 | o :: r, s, n, h => by
  have := good_runs r (doA s o) (n + 1) (h.step o)
  have e : n + (o :: r).length = n + 1 + r.length := by simp; omega
  rw [e]; exact this
def wt (c : CS) : Nat := (if c.asked = true then 2 + c.saves else 0) + (if c.served = true then 1 else 0)
def meas (s : KS) : Nat := 2 * s.dev.length + s.fet.length + wt (s.cs 0) + wt (s.cs 1)
theorem levelA_cs (s : KS) (h : s.sent = true) : (levelA s).cs = s.cs := by
 unfold levelA
 split
 ·show (if s.sent = true then s else sendC s).cs = s.cs
  rw [if_pos h]
 ·rfl
theorem wt_updc (cs : Nat → CS) (k : Nat) (hk : k < 2) (x : CS) : wt (updc cs k x 0) + wt (updc cs k x 1) + wt (cs k) = wt (cs 0) + wt (cs 1) + wt x := by
 rcases (by omega : k = 0 ∨ k = 1) with rfl | rfl
 ·simp [updc]; omega
 ·simp [updc]; omega
theorem run_meas (s : KS) (h : Inv s) (k : Nat) (hk : k < 2) : meas (runA s k).1 ≤ meas s ∧ ((s.cs k).served = true ∨ ((s.cs k).asked = true ∧ (s.cs k).saves = 0) ∨ s.fet ≠ [] → meas (runA s k).1 < meas s) := by
 unfold runA
 by_cases hs : (s.cs k).served = true
 ·rw [if_pos hs]
  have hsent : s.sent = true := by
   rw [h.fly]
   rcases (by omega : k = 0 ∨ k = 1) with rfl | rfl <;> simp [hs]
  cases hd : s.dev with
  | nil =>
   have e := wt_updc s.cs k hk ⟨(s.cs k).asked, false, (s.cs k).saves⟩
   have e2 : wt (s.cs k) = wt ⟨(s.cs k).asked, false, (s.cs k).saves⟩ + 1 := by
    unfold wt
    simp [hs]
   have m1 : meas (endA s k) = 2 * s.dev.length + s.fet.length + wt (updc s.cs k ⟨(s.cs k).asked, false, (s.cs k).saves⟩ 0) + wt (updc s.cs k ⟨(s.cs k).asked, false, (s.cs k).saves⟩ 1) := rfl
   have m2 : meas s = 2 * s.dev.length + s.fet.length + wt (s.cs 0) + wt (s.cs 1) := rfl
   have : meas (endA s k) < meas s := by omega
   show meas (endA s k) ≤ meas s ∧ (_ → meas (endA s k) < meas s)
   exact ⟨by omega, fun _ => this⟩
  | cons b t =>
   have hl := levelA_cs { s with dev := t } hsent
   have : meas (readA s b t) < meas s := by
    unfold meas readA
    simp only
    rw [levelA_fet, (levelA_tty _).2.2.1, hl, hd]
    simp
    omega
   show meas (readA s b t) ≤ meas s ∧ (_ → meas (readA s b t) < meas s)
   exact ⟨by omega, fun _ => this⟩
 ·rw [if_neg hs]
  have hs' : (s.cs k).served = false := by simpa using hs
  by_cases ha : (s.cs k).asked = true ∧ (s.cs k).saves = 0
  ·rw [if_pos ha]
   have e := wt_updc s.cs k hk ⟨false, true, (s.cs k).saves⟩
   have e2 : wt (s.cs k) = 2 := by unfold wt; simp [ha.1, ha.2, hs']
   have e3 : wt ⟨false, true, (s.cs k).saves⟩ = 1 := by unfold wt; simp
   have m1 : meas (takeA s k) = 2 * s.dev.length + s.fet.length + wt (updc s.cs k ⟨false, true, (s.cs k).saves⟩ 0) + wt (updc s.cs k ⟨false, true, (s.cs k).saves⟩ 1) := rfl
   have m2 : meas s = 2 * s.dev.length + s.fet.length + wt (s.cs 0) + wt (s.cs 1) := rfl
   have : meas (takeA s k) < meas s := by omega
   show meas (takeA s k) ≤ meas s ∧ (_ → meas (takeA s k) < meas s)
   exact ⟨by omega, fun _ => this⟩
  ·rw [if_neg ha]
   cases hfe : s.fet with
   | nil =>
    refine ⟨Nat.le_refl _, fun hh => ?_⟩
    rcases hh with hh | hh | hh
    ·exact absurd hh hs
    ·exact absurd hh ha
    ·exact absurd rfl hh
   | cons b r =>
    have : meas (keyA s (typS s.tty b) r) < meas s := by
     unfold meas keyA
     simp only
     rw [hfe]
     simp
    show meas (keyA s (typS s.tty b) r) ≤ meas s ∧ (_ → meas (keyA s (typS s.tty b) r) < meas s)
    exact ⟨by omega, fun _ => this⟩
def restoreD (s : KS) (k : Nat) : KS := if (s.cs k).served = true then s else restoreA s k
theorem restore_meas (s : KS) (k : Nat) (hk : k < 2) : meas (restoreD s k) ≤ meas s ∧ ((s.cs k).served = false → (s.cs k).asked = true → 0 < (s.cs k).saves → meas (restoreD s k) < meas s) := by
 unfold restoreD
 by_cases hs : (s.cs k).served = true
 ·rw [if_pos hs]
  exact ⟨Nat.le_refl _, fun h => by rw [hs] at h; cases h⟩
 ·rw [if_neg hs]
  have e := wt_updc s.cs k hk ⟨(s.cs k).asked, (s.cs k).served, (s.cs k).saves - 1⟩
  have e2 : wt ⟨(s.cs k).asked, (s.cs k).served, (s.cs k).saves - 1⟩ ≤ wt (s.cs k) := by
   unfold wt
   simp only
   split <;> omega
  have m1 : meas (restoreA s k) = 2 * s.dev.length + s.fet.length + wt (updc s.cs k ⟨(s.cs k).asked, (s.cs k).served, (s.cs k).saves - 1⟩ 0) + wt (updc s.cs k ⟨(s.cs k).asked, (s.cs k).served, (s.cs k).saves - 1⟩ 1) := rfl
  have m2 : meas s = 2 * s.dev.length + s.fet.length + wt (s.cs 0) + wt (s.cs 1) := rfl
  have em : meas (restoreA s k) + wt (s.cs k) = meas s + wt ⟨(s.cs k).asked, (s.cs k).served, (s.cs k).saves - 1⟩ := by omega
  refine ⟨by omega, fun _ ha hv => ?_⟩
  have e3 : wt ⟨(s.cs k).asked, (s.cs k).served, (s.cs k).saves - 1⟩ < wt (s.cs k) := by
   unfold wt
   simp only [ha, if_true]
   omega
  omega
theorem restoreD_inv (s : KS) (h : Inv s) (ht : RightT s.tty) (k : Nat) (hk : k < 2) : Inv (restoreD s k) ∧ RightT (restoreD s k).tty := by
 unfold restoreD
 split
 ·exact ⟨h, ht⟩
 ·rename_i hs
  have := (h.saves k hk).1
  exact ⟨setsaves_inv s h k hk (by simpa using hs) _ (by omega), ht⟩
theorem runs_inv : ∀ (ops : List AKO) (s : KS), Inv s → RightT s.tty → Inv (runs s ops) ∧ RightT (runs s ops).tty ∧ tot (runs s ops) ≤ tot s + ops.length
 | [], s, h, ht => ⟨h, ht, by simp [runs]⟩
 | o :: ops, s, h, ht => by
  have h1 := doA_inv s h ht o
  have h2 := runs_inv ops (doA s o) h1.1 h1.2
  have h3 := (doA_tot s o).1
  exact ⟨h2.1, h2.2.1, by have := h2.2.2; show tot (runs (doA s o) ops) ≤ _; simp; omega⟩
theorem meas_tot (s : KS) (h : Inv s) : meas s ≤ tot s + 20 := by
 have hd := h.dev
 have o0 := h.one0; have o1 := h.one1; have o2 := h.one2
 unfold meas tot wt
 cases a0 : (s.cs 0).asked <;> cases s0 : (s.cs 0).served <;> cases a1 : (s.cs 1).asked <;> cases s1 : (s.cs 1).served <;> simp [a0, s0, a1, s1] at o0 o1 o2 ⊢ <;> omega
end Go.Proofs.YthmieigenefilaaGreatDoor
