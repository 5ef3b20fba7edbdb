/- Plain laws of uart. -/
import Derived.Test.YtegafdnfcijemaaQUM
import Derived.Test.YtegafdnfcijemaaQUK
import Derived.Test.YtegafdnfcijemaaPLib
set_option linter.unusedSimpArgs false
set_option linter.unusedVariables false
namespace Go.Proofs.Ytegafdnfcijemaa
open Go Go.Ab
def zU : Api_Uart := ⟨[], [], 0, false⟩
def rightU (u : Api_Uart) : Bool := decide (u.In.length ≤ 16 ∧ u.Out.length ≤ 16 ∧ 0 ≤ u.Lost ∧ u.Lost ≤ 1099511627776 ∧ u.Asks = decide (0 < u.In.length))
theorem uart_Right_eq (u : Api_Uart) : uart_Right u = some (rightU u) := by
  unfold uart_Right rightU
  rw [Option.some.injEq, Bool.eq_iff_iff]
  simp only [Bool.and_eq_true, decide_eq_true_eq, beq_iff_eq]
  have : decide (((u.In.length : Nat) : Int) > 0) = decide (0 < u.In.length) := by simp
  rw [this]
  constructor
  · rintro ⟨⟨⟨⟨a, b⟩, c⟩, d⟩, e⟩; exact ⟨by omega, by omega, c, d, e⟩
  · rintro ⟨a, b, c, d, e⟩; exact ⟨⟨⟨⟨by omega, by omega⟩, c⟩, d⟩, e⟩
def stepU (u : Api_Uart) (o : Api_UartOp) : Api_Uart × Int × Int :=
  if rightU u = false then (zU, 0, 1)
  else if o.Kind = 1 then
    if u.In.length < 16 then (⟨u.In ++ [o.Byte], u.Out, u.Lost, true⟩, 0, 0)
    else if u.Lost = 1099511627776 then (zU, 0, 4) else (⟨u.In, u.Out, u.Lost + 1, decide (0 < u.In.length)⟩, 0, 0)
  else if o.Kind = 2 then
    if u.In.length = 0 then (zU, 0, 3) else (⟨u.In.tail, u.Out, u.Lost, decide (0 < u.In.tail.length)⟩, u.In.headD 0, 0)
  else if o.Kind = 3 then
    if u.Out.length = 16 then (zU, 0, 7) else (⟨u.In, u.Out ++ [o.Byte], u.Lost, decide (0 < u.In.length)⟩, 0, 0)
  else if o.Kind = 4 then
    if u.Out.length = 0 then (zU, 0, 3) else (⟨u.In, u.Out.tail, u.Lost, decide (0 < u.In.length)⟩, u.Out.headD 0, 0)
  else (zU, 0, 5)
theorem beqI {a b : Int} : (a == b) = decide (a = b) := by by_cases h : a = b <;> simp [h]
theorem condD {α : Type} {p : Prop} [Decidable p] (a b : α) : (bif decide p then a else b) = if p then a else b := by by_cases h : p <;> simp [h]
theorem decPos {n : Nat} : decide (((n : Nat) : Int) > 0) = decide (0 < n) := by simp
theorem uart_Step_eq (u : Api_Uart) (o : Api_UartOp) (h1 : u.In.length ≤ 140737488351232) (h2 : u.Out.length ≤ 140737488351232) : uart_Step u o = some (stepU u o) := by
  unfold uart_Step stepU
  rw [uart_Right_eq, Option.bind_some]
  cases hr : rightU u with
  | false => simp [hr, uart_Step_1, zU]
  | true =>
  have hr' := hr
  simp only [rightU, decide_eq_true_eq] at hr'
  obtain ⟨hi, ho, hl0, hl, ha⟩ := hr'
  have c1 : slices_Clone_byte u.In = some u.In := by unfold slices_Clone_byte; rw [if_pos (by omega)]
  have c2 : slices_Clone_byte u.Out = some u.Out := by unfold slices_Clone_byte; rw [if_pos (by omega)]
  simp only [Bool.not_true, cond_false, c1, c2, Option.bind_some, beqI, condD, Bool.true_eq_false, if_false]
  by_cases k1 : o.Kind = 1
  · rw [if_pos k1, if_pos k1]
    by_cases hn : u.In.length < 16
    · rw [if_pos (by omega), if_pos hn, if_pos (by simp; omega)]
      simp
    · rw [if_neg (by omega), if_neg hn]
      by_cases hL : u.Lost = 1099511627776
      · rw [if_pos hL, if_pos hL]; simp [uart_Step_1, zU]
      · rw [if_neg hL, if_neg hL, wrap_id (by omega) (by omega)]; simp
  rw [if_neg k1, if_neg k1]
  by_cases k2 : o.Kind = 2
  · rw [if_pos k2, if_pos k2]
    by_cases hn : u.In.length = 0
    · rw [if_pos (by omega), if_pos hn]; simp [uart_Step_1, zU]
    · rw [if_neg (by omega), if_neg hn, if_pos (by omega), if_pos (by omega)]
      match u.In, hn with
      | a :: r, _ => simp [decPos]; exact decide_eq_decide.mpr Iff.rfl
  rw [if_neg k2, if_neg k2]
  by_cases k3 : o.Kind = 3
  · rw [if_pos k3, if_pos k3]
    by_cases hn : u.Out.length = 16
    · rw [if_pos (by omega), if_pos hn]; simp [uart_Step_1, zU]
    · rw [if_neg (by omega), if_neg hn, if_pos (by simp; omega)]; simp
  rw [if_neg k3, if_neg k3]
  by_cases k4 : o.Kind = 4
  · rw [if_pos k4, if_pos k4]
    by_cases hn : u.Out.length = 0
    · rw [if_pos (by omega), if_pos hn]; simp [uart_Step_1, zU]
    · rw [if_neg (by omega), if_neg hn, if_pos (by omega), if_pos (by omega)]
      match u.Out, hn with
      | a :: r, _ => simp
  rw [if_neg k4, if_neg k4]
  simp [uart_Step_1, zU]
theorem alive16_eq : keep_alive16 = some true := by decide +kernel

structure C where
  ins : List Int
  outs : List Int
  w : Int
  g : Int
  lost : Int
def cstep (c : C) (o : Api_UartOp) : C :=
  if o.Kind = 1 then (if c.w = 16 then ⟨c.ins, c.outs, c.w, c.g, c.lost + 1⟩ else ⟨c.ins ++ [o.Byte], c.outs, c.w + 1, c.g, c.lost⟩)
  else if o.Kind = 2 then ⟨c.ins, c.outs, (if (0 : Int) > c.w - 1 then 0 else c.w - 1), c.g, c.lost⟩
  else if o.Kind = 3 then (if c.g < 16 then ⟨c.ins, c.outs ++ [o.Byte], c.w, c.g + 1, c.lost⟩ else c)
  else if o.Kind = 4 then ⟨c.ins, c.outs, c.w, (if (0 : Int) > c.g - 1 then 0 else c.g - 1), c.lost⟩
  else c
structure Inv (read sent : List Int) (u : Api_Uart) (c : C) (k : Nat) : Prop where
  i : read ++ u.In = c.ins
  o : sent ++ u.Out = c.outs
  w : c.w = u.In.length
  w16 : u.In.length ≤ 16
  g : c.g = u.Out.length
  g16 : u.Out.length ≤ 16
  l : c.lost = u.Lost
  l0 : 0 ≤ u.Lost
  lk : u.Lost ≤ k
  a : u.Asks = decide (0 < u.In.length)
  ik : c.ins.length ≤ k
  ok : c.outs.length ≤ k
theorem Inv.right {read sent : List Int} {u : Api_Uart} {c : C} {k : Nat} (h : Inv read sent u c k) (hk : k ≤ 1048576) : rightU u = true := by
  unfold rightU
  rw [decide_eq_true_eq]
  exact ⟨h.w16, h.g16, h.l0, by have := h.lk; omega, h.a⟩
theorem play_l1_eq (ops : List Api_UartOp) (hops : ops.length ≤ 1048576) : ∀ n k (read sent : List Int) (u : Api_Uart) (c : C), k ≤ ops.length → ops.length - k < n → Inv read sent u c k →
    ∃ read' sent' u', uart_Play_l1 ops n read sent k u.In u.Out u.Lost u.Asks = some (read', sent', u') ∧ Inv read' sent' u' ((ops.drop k).foldl cstep c) ops.length := by
  intro n
  induction n with
  | zero => intro k read sent u c h1 h2; omega
  | succ n ih =>
    intro k read sent u c h1 h2 h
    unfold uart_Play_l1
    rcases Nat.lt_or_ge k ops.length with hlt | hge
    · have hR := h.right (by omega)
      have hw16 := h.w16; have hg16 := h.g16
      rw [dec_lt hlt, cond_true, getD_lt _ _ hlt, List.drop_eq_getElem_cons hlt, List.foldl_cons]
      generalize ops[k] = o
      have hst : uart_Step (⟨u.In, u.Out, u.Lost, u.Asks⟩ : Api_Uart) o = some (stepU u o) := uart_Step_eq u o (by omega) (by omega)
      rw [hst, Option.bind_some]
      obtain ⟨e1, e2, e3, -, e5, -, e7, e8, e9, e10, e11, e12⟩ := h
      have hrl : read.length + u.In.length = c.ins.length := by rw [← e1, List.length_append]
      have hsl : sent.length + u.Out.length = c.outs.length := by rw [← e2, List.length_append]
      unfold stepU cstep
      rw [if_neg (by rw [hR]; decide)]
      by_cases k1 : o.Kind = 1
      · have b2 : ((o.Kind : Int) == 2) = false := by simp [k1]
        have b4 : ((o.Kind : Int) == 4) = false := by simp [k1]
        rw [if_pos k1, if_pos k1]
        by_cases hl : u.In.length < 16
        · rw [if_pos hl, if_neg (show ¬ c.w = 16 by omega)]
          simp only [bne_self_eq_false, cond_false, b2, b4]
          exact ih (k + 1) _ _ ⟨u.In ++ [o.Byte], u.Out, u.Lost, true⟩ _ (by omega) (by omega) ⟨by rw [← e1, List.append_assoc], e2, by simp; omega, by simp; omega, e5, hg16, e7, e8, by simp only; omega, by simp, by simp; omega, by simp only; omega⟩
        · rw [if_neg hl, if_neg (show ¬ u.Lost = 1099511627776 by omega), if_pos (show c.w = 16 by omega)]
          simp only [bne_self_eq_false, cond_false, b2, b4]
          exact ih (k + 1) _ _ ⟨u.In, u.Out, u.Lost + 1, decide (0 < u.In.length)⟩ _ (by omega) (by omega) ⟨e1, e2, e3, hw16, e5, hg16, by simp only; omega, by simp only; omega, by simp only; omega, rfl, by simp only; omega, by simp only; omega⟩
      rw [if_neg k1, if_neg k1]
      by_cases k2 : o.Kind = 2
      · have b2 : ((o.Kind : Int) == 2) = true := by simp [k2]
        rw [if_pos k2, if_pos k2]
        cases hin : u.In with
        | nil =>
          rw [hin] at e1 e3 hrl
          have hc0 : c.w = 0 := by simpa using e3
          rw [if_pos (show ([] : List Int).length = 0 from rfl)]
          simp only [show ((3 : Int) != 0) = true by decide, cond_true]
          have := ih (k + 1) read sent u ⟨c.ins, c.outs, (if (0 : Int) > c.w - 1 then 0 else c.w - 1), c.g, c.lost⟩ (by omega) (by omega) ⟨by rw [hin]; exact e1, e2, by rw [hin, hc0]; rfl, hw16, e5, hg16, e7, e8, by omega, e10, by simp only; omega, by simp only; omega⟩
          rw [hin] at this
          exact this
        | cons x xs =>
          rw [hin] at e1 e3 hrl hw16
          simp only [List.length_cons] at e3 hrl hw16
          rw [if_neg (show ¬ (x :: xs).length = 0 by simp)]
          simp only [bne_self_eq_false, cond_false, b2, cond_true, List.tail_cons, List.headD_cons, List.length_singleton]
          rw [if_pos (by omega)]
          exact ih (k + 1) _ _ ⟨xs, u.Out, u.Lost, decide (0 < xs.length)⟩ _ (by omega) (by omega) ⟨by rw [← e1]; simp, e2, by simp only; split <;> omega, by simp only; omega, e5, hg16, e7, e8, by simp only; omega, rfl, by simp only; omega, by simp only; omega⟩
      rw [if_neg k2, if_neg k2]
      have b2 : ((o.Kind : Int) == 2) = false := by simp [k2]
      by_cases k3 : o.Kind = 3
      · have b4 : ((o.Kind : Int) == 4) = false := by simp [k3]
        rw [if_pos k3, if_pos k3]
        by_cases hl : u.Out.length = 16
        · rw [if_pos hl, if_neg (show ¬ c.g < 16 by omega)]
          simp only [show ((7 : Int) != 0) = true by decide, cond_true]
          exact ih (k + 1) read sent u c (by omega) (by omega) ⟨e1, e2, e3, hw16, e5, hg16, e7, e8, by omega, e10, by omega, by omega⟩
        · rw [if_neg hl, if_pos (show c.g < 16 by omega)]
          simp only [bne_self_eq_false, cond_false, b2, b4]
          exact ih (k + 1) _ _ ⟨u.In, u.Out ++ [o.Byte], u.Lost, decide (0 < u.In.length)⟩ _ (by omega) (by omega) ⟨e1, by rw [← e2, List.append_assoc], e3, hw16, by simp; omega, by simp; omega, e7, e8, by simp only; omega, rfl, by simp only; omega, by simp; omega⟩
      rw [if_neg k3, if_neg k3]
      by_cases k4 : o.Kind = 4
      · have b4 : ((o.Kind : Int) == 4) = true := by simp [k4]
        rw [if_pos k4, if_pos k4]
        cases hout : u.Out with
        | nil =>
          rw [hout] at e2 e5 hsl
          have hc0 : c.g = 0 := by simpa using e5
          rw [if_pos (show ([] : List Int).length = 0 from rfl)]
          simp only [show ((3 : Int) != 0) = true by decide, cond_true]
          have := ih (k + 1) read sent u ⟨c.ins, c.outs, c.w, (if (0 : Int) > c.g - 1 then 0 else c.g - 1), c.lost⟩ (by omega) (by omega) ⟨e1, by rw [hout]; exact e2, e3, hw16, by rw [hout, hc0]; rfl, hg16, e7, e8, by omega, e10, by simp only; omega, by simp only; omega⟩
          rw [hout] at this
          exact this
        | cons x xs =>
          rw [hout] at e2 e5 hsl hg16
          simp only [List.length_cons] at e5 hsl hg16
          rw [if_neg (show ¬ (x :: xs).length = 0 by simp)]
          simp only [bne_self_eq_false, cond_false, b2, b4, cond_true, List.tail_cons, List.headD_cons, List.length_singleton]
          rw [if_pos (by omega)]
          exact ih (k + 1) _ _ ⟨u.In, xs, u.Lost, decide (0 < u.In.length)⟩ _ (by omega) (by omega) ⟨e1, by rw [← e2]; simp, e3, hw16, by simp only; split <;> omega, by simp only; omega, e7, e8, by simp only; omega, rfl, by simp only; omega, by simp only; omega⟩
      rw [if_neg k4, if_neg k4]
      simp only [show ((5 : Int) != 0) = true by decide, cond_true]
      exact ih (k + 1) read sent u c (by omega) (by omega) ⟨e1, e2, e3, hw16, e5, hg16, e7, e8, by omega, e10, by omega, by omega⟩
    · rw [dec_ge hge, cond_false, List.drop_of_length_le hge]
      have : k = ops.length := by omega
      subst this
      exact ⟨_, _, u, rfl, h⟩
theorem stream_l1_eq (ops : List Api_UartOp) (hops : ops.length ≤ 1048576) (read sent : List Int) (u : Api_Uart) : ∀ n k (c : C), k ≤ ops.length → ops.length - k < n → c.ins.length ≤ k → c.outs.length ≤ k → 0 ≤ c.w → c.w ≤ 16 → 0 ≤ c.g → c.g ≤ 16 → 0 ≤ c.lost → c.lost ≤ k → Inv read sent u ((ops.drop k).foldl cstep c) ops.length →
    keep_UartStream_l1 ops (read, sent, u) n c.ins c.outs c.w c.g c.lost k = some true := by
  intro n
  induction n with
  | zero => intro k c h1 h2; omega
  | succ n ih =>
    intro k c h1 h2 i1 i2 i3 i4 i5 i6 i7 i8 h
    unfold keep_UartStream_l1
    rcases Nat.lt_or_ge k ops.length with hlt | hge
    · rw [dec_lt hlt, cond_true, getD_lt _ _ hlt]
      rw [List.drop_eq_getElem_cons hlt, List.foldl_cons] at h
      generalize ops[k] = o at *
      unfold cstep at h
      by_cases k1 : o.Kind = 1
      · rw [show ((o.Kind : Int) == 1) = true by simp [k1], cond_true]
        rw [if_pos k1] at h
        by_cases hw : c.w = 16
        · rw [show (c.w == 16) = true by simp [hw], cond_true, wrap_id (by omega) (by omega)]
          rw [if_pos hw] at h
          exact ih (k + 1) ⟨c.ins, c.outs, c.w, c.g, c.lost + 1⟩ (by omega) (by omega) (by simp only; omega) (by simp only; omega) i3 i4 i5 i6 (by simp only; omega) (by simp only; omega) h
        · rw [show (c.w == 16) = false by simpa using hw, cond_false, if_pos (by simp only [List.length_singleton]; omega), wrap_id (by omega) (by omega)]
          rw [if_neg hw] at h
          exact ih (k + 1) ⟨c.ins ++ [o.Byte], c.outs, c.w + 1, c.g, c.lost⟩ (by omega) (by omega) (by simp; omega) (by simp only; omega) (by simp only; omega) (by simp only; omega) i5 i6 (by simp only; omega) (by simp only; omega) h
      rw [show ((o.Kind : Int) == 1) = false by simp [k1], cond_false]
      rw [if_neg k1] at h
      by_cases k2 : o.Kind = 2
      · rw [show ((o.Kind : Int) == 2) = true by simp [k2], cond_true, wrap_id (by omega) (by omega)]
        rw [if_pos k2] at h
        exact ih (k + 1) ⟨c.ins, c.outs, (if (0 : Int) > c.w - 1 then 0 else c.w - 1), c.g, c.lost⟩ (by omega) (by omega) (by simp only; omega) (by simp only; omega) (by simp only; split <;> omega) (by simp only; split <;> omega) i5 i6 (by simp only; omega) (by simp only; omega) h
      rw [show ((o.Kind : Int) == 2) = false by simp [k2], cond_false]
      rw [if_neg k2] at h
      by_cases k3 : o.Kind = 3
      · rw [show ((o.Kind : Int) == 3) = true by simp [k3], cond_true]
        rw [if_pos k3] at h
        by_cases hw : c.g < 16
        · rw [show decide (c.g < 16) = true by simpa using hw, cond_true, if_pos (by simp only [List.length_singleton]; omega), wrap_id (by omega) (by omega)]
          rw [if_pos hw] at h
          exact ih (k + 1) ⟨c.ins, c.outs ++ [o.Byte], c.w, c.g + 1, c.lost⟩ (by omega) (by omega) (by simp only; omega) (by simp; omega) i3 i4 (by simp only; omega) (by simp only; omega) (by simp only; omega) (by simp only; omega) h
        · rw [show decide (c.g < 16) = false by simpa using hw, cond_false]
          rw [if_neg hw] at h
          exact ih (k + 1) c (by omega) (by omega) (by omega) (by omega) i3 i4 i5 i6 i7 (by omega) h
      rw [show ((o.Kind : Int) == 3) = false by simp [k3], cond_false]
      rw [if_neg k3] at h
      by_cases k4 : o.Kind = 4
      · rw [show ((o.Kind : Int) == 4) = true by simp [k4], cond_true, wrap_id (by omega) (by omega)]
        rw [if_pos k4] at h
        exact ih (k + 1) ⟨c.ins, c.outs, c.w, (if (0 : Int) > c.g - 1 then 0 else c.g - 1), c.lost⟩ (by omega) (by omega) (by simp only; omega) (by simp only; omega) i3 i4 (by simp only; split <;> omega) (by simp only; split <;> omega) (by simp only; omega) (by simp only; omega) h
      rw [show ((o.Kind : Int) == 4) = false by simp [k4], cond_false]
      rw [if_neg k4] at h
      exact ih (k + 1) c (by omega) (by omega) (by omega) (by omega) i3 i4 i5 i6 i7 (by omega) h
    · rw [dec_ge hge, cond_false]
      rw [List.drop_of_length_le hge, List.foldl_nil] at h
      have e1 : [read, u.In].flatten = c.ins := by rw [← h.i]; simp
      have e2 : [sent, u.Out].flatten = c.outs := by rw [← h.o]; simp
      simp only
      rw [slices_Concat_byte_eq _ (by simp) (by rw [e1]; omega), Option.bind_some, e1]
      simp only [beq_self_eq_true, cond_true]
      rw [slices_Concat_byte_eq _ (by simp) (by rw [e2]; omega), Option.bind_some, e2, h.l]
      simp
theorem UartStream_trueU (a0 : List Api_UartOp) (h0 : a0.length ≤ 1048576 ∧ ∀ y ∈ a0, OkU_Api_UartOp y) : keep_UartStream a0 = some true := by
  have l0 := h0.1
  unfold keep_UartStream
  rw [alive16_eq, Option.bind_some, Bool.not_true, cond_false]
  have init : Inv [] [] ⟨[], [], 0, false⟩ ⟨[], [], 0, 0, 0⟩ 0 := ⟨rfl, rfl, rfl, by simp, rfl, by simp, rfl, by simp, by simp, rfl, by simp, by simp⟩
  obtain ⟨read, sent, u, hp, hi⟩ := play_l1_eq a0 l0 FUEL 0 [] [] ⟨[], [], 0, false⟩ ⟨[], [], 0, 0, 0⟩ (by omega) (fuel_gt (by omega)) init
  unfold uart_Play
  rw [hp, Option.bind_some]
  exact stream_l1_eq a0 l0 read sent u FUEL 0 ⟨[], [], 0, 0, 0⟩ (by omega) (fuel_gt (by omega)) (by simp) (by simp) (by simp) (by simp) (by simp) (by simp) (by simp) (by simp) hi
end Go.Proofs.Ytegafdnfcijemaa
