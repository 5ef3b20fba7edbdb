/- Plain laws of uart. -/
import Derived.Test.YtegafdnfcijemaaQ2M
import Derived.Test.YtegafdnfcijemaaPLib
set_option linter.unusedSimpArgs false
set_option linter.unusedVariables false
namespace Go.Proofs.Ytegafdnfcijemaa
open Go Go.Ab
def zU : Api_Uart := ⟨[], [], 0, false⟩
def rightU (u : Api_Uart) : Bool := decide (u.In.length ≤ 16 ∧ u.Out.length ≤ 16 ∧ 0 ≤ u.Lost ∧ u.Lost ≤ 1099511627776 ∧ u.Asks = decide (0 < u.In.length))
theorem uart_Right_eq (u : Api_Uart) : uart_Right u = some (rightU u) := by
  unfold uart_Right rightU
  rw [Option.some.injEq, Bool.eq_iff_iff]
  simp only [Bool.and_eq_true, decide_eq_true_eq, beq_iff_eq]
  have : decide (((u.In.length : Nat) : Int) > 0) = decide (0 < u.In.length) := by simp
  rw [this]
  constructor
  · rintro ⟨⟨⟨⟨a, b⟩, c⟩, d⟩, e⟩; exact ⟨by omega, by omega, c, d, e⟩
  · rintro ⟨a, b, c, d, e⟩; exact ⟨⟨⟨⟨by omega, by omega⟩, c⟩, d⟩, e⟩
def stepU (u : Api_Uart) (o : Api_UartOp) : Api_Uart × Int × Int :=
  if rightU u = false then (zU, 0, 1)
  else if o.Kind = 1 then
    if u.In.length < 16 then (⟨u.In ++ [o.Byte], u.Out, u.Lost, true⟩, 0, 0)
    else if u.Lost = 1099511627776 then (zU, 0, 4) else (⟨u.In, u.Out, u.Lost + 1, decide (0 < u.In.length)⟩, 0, 0)
  else if o.Kind = 2 then
    if u.In.length = 0 then (zU, 0, 3) else (⟨u.In.tail, u.Out, u.Lost, decide (0 < u.In.tail.length)⟩, u.In.headD 0, 0)
  else if o.Kind = 3 then
    if u.Out.length = 16 then (zU, 0, 7) else (⟨u.In, u.Out ++ [o.Byte], u.Lost, decide (0 < u.In.length)⟩, 0, 0)
  else if o.Kind = 4 then
    if u.Out.length = 0 then (zU, 0, 3) else (⟨u.In, u.Out.tail, u.Lost, decide (0 < u.In.length)⟩, u.Out.headD 0, 0)
  else (zU, 0, 5)
theorem beqI {a b : Int} : (a == b) = decide (a = b) := by by_cases h : a = b <;> simp [h]
theorem condD {α : Type} {p : Prop} [Decidable p] (a b : α) : (bif decide p then a else b) = if p then a else b := by by_cases h : p <;> simp [h]
theorem decPos {n : Nat} : decide (((n : Nat) : Int) > 0) = decide (0 < n) := by simp
theorem uart_Step_eq (u : Api_Uart) (o : Api_UartOp) (h1 : u.In.length ≤ 140737488351232) (h2 : u.Out.length ≤ 140737488351232) : uart_Step u o = some (stepU u o) := by
  unfold uart_Step stepU
  rw [uart_Right_eq, Option.bind_some]
  cases hr : rightU u with
  | false => simp [hr, uart_Step_1, zU]
  | true =>
  have hr' := hr
  simp only [rightU, decide_eq_true_eq] at hr'
  obtain ⟨hi, ho, hl0, hl, ha⟩ := hr'
  have c1 : slices_Clone_byte u.In = some u.In := by unfold slices_Clone_byte; rw [if_pos (by omega)]
  have c2 : slices_Clone_byte u.Out = some u.Out := by unfold slices_Clone_byte; rw [if_pos (by omega)]
  simp only [Bool.not_true, cond_false, c1, c2, Option.bind_some, beqI, condD, Bool.true_eq_false, if_false]
  by_cases k1 : o.Kind = 1
  · rw [if_pos k1, if_pos k1]
    by_cases hn : u.In.length < 16
    · rw [if_pos (by omega), if_pos hn, if_pos (by simp; omega)]
      simp
    · rw [if_neg (by omega), if_neg hn]
      by_cases hL : u.Lost = 1099511627776
      · rw [if_pos hL, if_pos hL]; simp [uart_Step_1, zU]
      · rw [if_neg hL, if_neg hL, wrap_id (by omega) (by omega)]; simp
  rw [if_neg k1, if_neg k1]
  by_cases k2 : o.Kind = 2
  · rw [if_pos k2, if_pos k2]
    by_cases hn : u.In.length = 0
    · rw [if_pos (by omega), if_pos hn]; simp [uart_Step_1, zU]
    · rw [if_neg (by omega), if_neg hn, if_pos (by omega), if_pos (by omega)]
      match u.In, hn with
      | a :: r, _ => simp [decPos]; exact decide_eq_decide.mpr Iff.rfl
  rw [if_neg k2, if_neg k2]
  by_cases k3 : o.Kind = 3
  · rw [if_pos k3, if_pos k3]
    by_cases hn : u.Out.length = 16
    · rw [if_pos (by omega), if_pos hn]; simp [uart_Step_1, zU]
    · rw [if_neg (by omega), if_neg hn, if_pos (by simp; omega)]; simp
  rw [if_neg k3, if_neg k3]
  by_cases k4 : o.Kind = 4
  · rw [if_pos k4, if_pos k4]
    by_cases hn : u.Out.length = 0
    · rw [if_pos (by omega), if_pos hn]; simp [uart_Step_1, zU]
    · rw [if_neg (by omega), if_neg hn, if_pos (by omega), if_pos (by omega)]
      match u.Out, hn with
      | a :: r, _ => simp
  rw [if_neg k4, if_neg k4]
  simp [uart_Step_1, zU]
theorem alive16_eq : keep_alive16 = some true := by decide +kernel
theorem UartApart_true (u : Api_Uart) (o : Api_UartOp) (hu : Ok_Api_Uart u) (ho : Ok_Api_UartOp o) : keep_UartApart u o = some true := by
  unfold keep_UartApart
  rw [alive16_eq, Option.bind_some]
  simp only [Bool.not_true, cond_false]
  rw [uart_Step_eq _ _ (by have := hu.1.1; simpa using this) (by have := hu.2.1.1; simpa using this), Option.bind_some]
  simp only [uart_Right_eq, Option.bind_some]
  have eta : (⟨u.In, u.Out, u.Lost, u.Asks⟩ : Api_Uart) = u := rfl
  rw [eta]
  cases hr : rightU u with
  | false => simp [stepU, hr, zU, ref_SameUart]
  | true =>
  have hr' := hr
  simp only [rightU, decide_eq_true_eq] at hr'
  obtain ⟨hi, ho, hl0, hl, ha⟩ := hr'
  unfold stepU
  simp only [hr, Bool.true_eq_false, if_false]
  by_cases k1 : o.Kind = 1
  · simp only [k1, if_true]
    split
    · simp [rightU]; omega
    split
    · simp [zU, ref_SameUart]
    · simp [rightU]; omega
  simp only [k1, if_false]
  by_cases k2 : o.Kind = 2
  · simp only [k2, if_true]
    split
    · simp [zU, ref_SameUart]
    · simp [rightU]; omega
  simp only [k2, if_false]
  by_cases k3 : o.Kind = 3
  · simp only [k3, if_true]
    split
    · simp [zU, ref_SameUart]
    · simp [rightU]; omega
  simp only [k3, if_false]
  by_cases k4 : o.Kind = 4
  · simp only [k4, if_true]
    split
    · simp [zU, ref_SameUart]
    · simp [rightU]; omega
  simp only [k4, if_false]
  simp [zU, ref_SameUart]
theorem step_empty (out : List Int) (lost : Int) (b : Bool) (h : rightU ⟨[], out, lost, b⟩ = true) : stepU ⟨[], out, lost, b⟩ ⟨2, 0⟩ = (zU, 0, 3) := by
  unfold stepU; rw [h]; simp
theorem uartAsks_l1 (a0 : Api_Uart) (r1 r4 : Bool) (lost : Int) (hA : a0.In.length ≤ 16) : ∀ (l l7 : List Int) (n k : Nat) (b : Bool), rightU ⟨l, a0.Out, lost, b⟩ = true → l7 ++ l = a0.In → k + l.length ≤ 16 → l.length < n → keep_UartAsks_l1 a0 r1 r4 n l7 k l a0.Out lost b = some true := by
  intro l
  induction l with
  | nil =>
    intro l7 n k b hr ha hk hn
    have hb : b = false := by simp [rightU] at hr; exact hr.2.2.2
    have hout : a0.Out.length ≤ 16 := by simp [rightU] at hr; exact hr.1
    rw [List.append_nil] at ha
    match n, hn with
    | n + 1, _ =>
      unfold keep_UartAsks_l1
      rw [uart_Step_eq _ _ (by simp) (by show a0.Out.length ≤ _; omega), step_empty _ _ _ hr, Option.bind_some, hb]
      simp [ha]
  | cons a r ih =>
    intro l7 n k b hr ha hk hn
    have hr' := hr
    simp only [rightU, decide_eq_true_eq] at hr'
    obtain ⟨hi, ho, hl0, hl, hb⟩ := hr'
    simp only [List.length_cons] at hi hk hn
    have hbt : b = true := by rw [hb]; simp
    match n, hn with
    | n + 1, hn =>
      unfold keep_UartAsks_l1
      rw [uart_Step_eq _ _ (by show (a :: r).length ≤ _; simp; omega) (by show a0.Out.length ≤ _; omega)]
      have hs : stepU ⟨a :: r, a0.Out, lost, b⟩ ⟨2, 0⟩ = (⟨r, a0.Out, lost, decide (0 < r.length)⟩, a, 0) := by
        unfold stepU; rw [hr]; simp; exact decide_eq_decide.mpr Iff.rfl
      have hla : l7.length + (a :: r).length = a0.In.length := by rw [← ha, List.length_append]
      rw [List.length_cons] at hla
      have c1 : decide ((((k : Nat) : Int) : Int) < 16) = true := by simp; omega
      rw [hs, c1, hbt]
      simp only [cond_true, Bool.not_true, cond_false, Option.bind_some, bne_self_eq_false]
      rw [if_pos (by simp; omega)]
      refine ih (l7 ++ [a]) n (k + 1) _ ?_ (by simp [ha]) (by omega) (by omega)
      simp only [rightU, decide_eq_true_eq]
      exact ⟨by omega, ho, hl0, hl, trivial⟩
theorem UartAsks_true (u : Api_Uart) (hu : Ok_Api_Uart u) : keep_UartAsks u = some true := by
  unfold keep_UartAsks
  rw [alive16_eq, Option.bind_some]
  simp only [Bool.not_true, cond_false]
  rw [uart_Right_eq, Option.bind_some]
  have eta : (⟨u.In, u.Out, u.Lost, u.Asks⟩ : Api_Uart) = u := rfl
  rw [eta]
  cases hr : rightU u with
  | false => rfl
  | true =>
  have hr' := hr
  simp only [rightU, decide_eq_true_eq] at hr'
  obtain ⟨hi, ho, hl0, hl, ha⟩ := hr'
  simp only [Bool.not_true, cond_false]
  exact uartAsks_l1 u true true u.Lost hi u.In [] FUEL 0 u.Asks (by rw [eta]; exact hr) rfl (by omega) (fuel_gt (by omega))
end Go.Proofs.Ytegafdnfcijemaa
