/- The models of the functions: printed by program. -/
import Derived.Test.YtegafdnfcijemaaAbY
set_option linter.unusedSimpArgs false
set_option linter.unusedVariables false
namespace Go.Proofs.Ytegafdnfcijemaa
open Go Go.Ab

structure Api_Uart where
  In : (List Int)
  Out : (List Int)
  Lost : Int
  Asks : Bool
deriving DecidableEq

structure Api_UartOp where
  Kind : Int
  Byte : Int
deriving DecidableEq

def Ok_Api_UartOp (x : Api_UartOp) : Prop := (-9223372036854775808 ≤ x.Kind ∧ x.Kind ≤ 9223372036854775807) ∧ (0 ≤ x.Byte ∧ x.Byte ≤ 255)
def Ok_Api_Uart (x : Api_Uart) : Prop := (x.In.length * 1 ≤ 140737488351232 ∧ ∀ y ∈ x.In, (0 ≤ y ∧ y ≤ 255)) ∧ (x.Out.length * 1 ≤ 140737488351232 ∧ ∀ y ∈ x.Out, (0 ≤ y ∧ y ≤ 255)) ∧ (-9223372036854775808 ≤ x.Lost ∧ x.Lost ≤ 9223372036854775807) ∧ True

/- corebell/uart.Right -/
def uart_Right (a0 : Api_Uart) : Option (Bool) :=
  some (((((decide ((((a0.In.length : Nat) : Int) : Int) ≤ 16)) && (decide ((((a0.Out.length : Nat) : Int) : Int) ≤ 16))) && (decide ((a0.Lost : Int) ≥ 0))) && (decide ((a0.Lost : Int) ≤ 1099511627776))) && (a0.Asks == (decide ((((a0.In.length : Nat) : Int) : Int) > 0))))


/- corebell/uart.Step$1 -/
def uart_Step_1 (a0 : Int) : Option (Api_Uart × Int × Int) :=
  some ((⟨([] : List Int), ([] : List Int), 0, false⟩ : Api_Uart), 0, a0)


/- slices.Clone(()byte,byte) -/
def slices_Clone_byte (a0 : List Int) : Option (List Int) := if a0.length * 1 ≤ 140737488355328 then some a0 else none

/- corebell/uart.Step -/
def uart_Step (a0 : Api_Uart) (a1 : Api_UartOp) : Option (Api_Uart × Int × Int) :=
  (uart_Right (⟨a0.In, a0.Out, a0.Lost, a0.Asks⟩ : Api_Uart)).bind fun r1 =>
  bif (!r1) then
    (uart_Step_1 1).bind fun r4 =>
    some ((⟨r4.1.In, r4.1.Out, r4.1.Lost, r4.1.Asks⟩ : Api_Uart), r4.2.1, r4.2.2)
  else
    (slices_Clone_byte a0.In).bind fun r6 =>
    (slices_Clone_byte a0.Out).bind fun r8 =>
    bif ((a1.Kind : Int) == 1) then
      bif (decide ((((r6.length : Nat) : Int) : Int) < 16)) then
        if ((r6).length + ([a1.Byte]).length) * 1 ≤ 140737488355328 ∧ (r6).length + ([a1.Byte]).length ≤ 140737488355328 then
        some ((⟨(r6 ++ [a1.Byte]), r8, a0.Lost, (decide (((((r6 ++ [a1.Byte]).length : Nat) : Int) : Int) > 0))⟩ : Api_Uart), 0, 0)
        else none
      else
        bif ((a0.Lost : Int) == 1099511627776) then
          (uart_Step_1 4).bind fun r14 =>
          some ((⟨r14.1.In, r14.1.Out, r14.1.Lost, r14.1.Asks⟩ : Api_Uart), r14.2.1, r14.2.2)
        else
          some ((⟨r6, r8, (IntKind.i64.wrap (a0.Lost + 1)), (decide ((((r6.length : Nat) : Int) : Int) > 0))⟩ : Api_Uart), 0, 0)
    else
      bif ((a1.Kind : Int) == 2) then
        bif ((((r6.length : Nat) : Int) : Int) == 0) then
          (uart_Step_1 3).bind fun r18 =>
          some ((⟨r18.1.In, r18.1.Out, r18.1.Lost, r18.1.Asks⟩ : Api_Uart), r18.2.1, r18.2.2)
        else
          if 0 ≤ (0 : Int) ∧ 0 < ((r6.length : Nat) : Int) then
          if 1 ≤ r6.length then
          some ((⟨((r6.drop (0 + 1)).take (r6.length - 1)), r8, a0.Lost, (decide (((((r6.length - 1) : Nat) : Int) : Int) > 0))⟩ : Api_Uart), (r6.getD (0 + 0) 0), 0)
          else none
          else none
      else
        bif ((a1.Kind : Int) == 3) then
          bif ((((r8.length : Nat) : Int) : Int) == 16) then
            (uart_Step_1 7).bind fun r25 =>
            some ((⟨r25.1.In, r25.1.Out, r25.1.Lost, r25.1.Asks⟩ : Api_Uart), r25.2.1, r25.2.2)
          else
            if ((r8).length + ([a1.Byte]).length) * 1 ≤ 140737488355328 ∧ (r8).length + ([a1.Byte]).length ≤ 140737488355328 then
            some ((⟨r6, (r8 ++ [a1.Byte]), a0.Lost, (decide ((((r6.length : Nat) : Int) : Int) > 0))⟩ : Api_Uart), 0, 0)
            else none
        else
          bif ((a1.Kind : Int) == 4) then
            bif ((((r8.length : Nat) : Int) : Int) == 0) then
              (uart_Step_1 3).bind fun r30 =>
              some ((⟨r30.1.In, r30.1.Out, r30.1.Lost, r30.1.Asks⟩ : Api_Uart), r30.2.1, r30.2.2)
            else
              if 0 ≤ (0 : Int) ∧ 0 < ((r8.length : Nat) : Int) then
              if 1 ≤ r8.length then
              some ((⟨r6, ((r8.drop (0 + 1)).take (r8.length - 1)), a0.Lost, (decide ((((r6.length : Nat) : Int) : Int) > 0))⟩ : Api_Uart), (r8.getD (0 + 0) 0), 0)
              else none
              else none
          else
            (uart_Step_1 5).bind fun r35 =>
            some ((⟨r35.1.In, r35.1.Out, r35.1.Lost, r35.1.Asks⟩ : Api_Uart), r35.2.1, r35.2.2)


/- corebell/uart.Play -/
def uart_Play_l1 (a0 : (List Api_UartOp)) : Nat → List Int → List Int → Nat → List Int → List Int → Int → Bool → Option ((List Int) × (List Int) × Api_Uart)
  | 0, _, _, _, _, _, _, _ => none
  | n + 1, l1, l2, k3, l4, l5, x6, b7 =>
    bif (decide ((((k3 : Nat) : Int) : Int) < ((a0.length : Nat) : Int))) then
      (uart_Step (⟨l4, l5, x6, b7⟩ : Api_Uart) (⟨(a0.getD k3 (⟨0, 0⟩ : Api_UartOp)).Kind, (a0.getD k3 (⟨0, 0⟩ : Api_UartOp)).Byte⟩ : Api_UartOp)).bind fun r10 =>
      bif ((r10.2.2 : Int) != 0) then
        uart_Play_l1 a0 n l1 l2 (k3 + 1) l4 l5 x6 b7
      else
        bif (((a0.getD k3 (⟨0, 0⟩ : Api_UartOp)).Kind : Int) == 2) then
          if ((l1).length + ([r10.2.1]).length) * 1 ≤ 140737488355328 ∧ (l1).length + ([r10.2.1]).length ≤ 140737488355328 then
          uart_Play_l1 a0 n (l1 ++ [r10.2.1]) l2 (k3 + 1) r10.1.In r10.1.Out r10.1.Lost r10.1.Asks
          else none
        else
          bif (((a0.getD k3 (⟨0, 0⟩ : Api_UartOp)).Kind : Int) == 4) then
            if ((l2).length + ([r10.2.1]).length) * 1 ≤ 140737488355328 ∧ (l2).length + ([r10.2.1]).length ≤ 140737488355328 then
            uart_Play_l1 a0 n l1 (l2 ++ [r10.2.1]) (k3 + 1) r10.1.In r10.1.Out r10.1.Lost r10.1.Asks
            else none
          else
            uart_Play_l1 a0 n l1 l2 (k3 + 1) r10.1.In r10.1.Out r10.1.Lost r10.1.Asks
    else
      some (l1, l2, (⟨l4, l5, x6, b7⟩ : Api_Uart))

def uart_Play (a0 : (List Api_UartOp)) : Option ((List Int) × (List Int) × Api_Uart) :=
  uart_Play_l1 a0 FUEL ([] : List Int) ([] : List Int) 0 ([] : List Int) ([] : List Int) 0 false


/- corebell/corebellkeep.alive16 -/
def keep_alive16 : Option (Bool) :=
  (uart_Play [(⟨1, 7⟩ : Api_UartOp), (⟨1, 8⟩ : Api_UartOp), (⟨2, 0⟩ : Api_UartOp), (⟨3, 9⟩ : Api_UartOp), (⟨4, 0⟩ : Api_UartOp)]).bind fun r1 =>
  (bif (((((bytesOf r1.1).toList == (bytesOf [7]).toList) && ((bytesOf r1.2.1).toList == (bytesOf [9]).toList)) && ((bytesOf r1.2.2.In).toList == (bytesOf [8]).toList)) && r1.2.2.Asks) then uart_Right (⟨r1.2.2.In, r1.2.2.Out, r1.2.2.Lost, r1.2.2.Asks⟩ : Api_Uart) else some false).bind fun r10 =>
  some ((((((bytesOf r1.1).toList == (bytesOf [7]).toList) && ((bytesOf r1.2.1).toList == (bytesOf [9]).toList)) && ((bytesOf r1.2.2.In).toList == (bytesOf [8]).toList)) && r1.2.2.Asks) && r10)


/- corebell/corebellref.SameUart -/
def ref_SameUart (a0 : Api_Uart) (a1 : Api_Uart) : Option (Bool) :=
  some (((((bytesOf a0.In).toList == (bytesOf a1.In).toList) && ((bytesOf a0.Out).toList == (bytesOf a1.Out).toList)) && ((a0.Lost : Int) == a1.Lost)) && (a0.Asks == a1.Asks))


/- corebell/corebellkeep.UartApart -/
def keep_UartApart (a0 : Api_Uart) (a1 : Api_UartOp) : Option (Bool) :=
  (keep_alive16).bind fun r1 =>
  bif (!r1) then
    some false
  else
    (uart_Step (⟨a0.In, a0.Out, a0.Lost, a0.Asks⟩ : Api_Uart) (⟨a1.Kind, a1.Byte⟩ : Api_UartOp)).bind fun r4 =>
    bif ((r4.2.2 : Int) != 0) then
      (ref_SameUart (⟨r4.1.In, r4.1.Out, r4.1.Lost, r4.1.Asks⟩ : Api_Uart) (⟨([] : List Int), ([] : List Int), 0, false⟩ : Api_Uart)).bind fun r7 =>
      some r7
    else
      bif (((a1.Kind : Int) == 1) || ((a1.Kind : Int) == 2)) then
        (bif ((bytesOf r4.1.Out).toList == (bytesOf a0.Out).toList) then uart_Right (⟨r4.1.In, r4.1.Out, r4.1.Lost, r4.1.Asks⟩ : Api_Uart) else some false).bind fun r13 =>
        some (((bytesOf r4.1.Out).toList == (bytesOf a0.Out).toList) && r13)
      else
        (bif (((bytesOf r4.1.In).toList == (bytesOf a0.In).toList) && ((r4.1.Lost : Int) == a0.Lost)) then uart_Right (⟨r4.1.In, r4.1.Out, r4.1.Lost, r4.1.Asks⟩ : Api_Uart) else some false).bind fun r21 =>
        some ((((bytesOf r4.1.In).toList == (bytesOf a0.In).toList) && ((r4.1.Lost : Int) == a0.Lost)) && r21)


/- corebell/corebellkeep.UartAsks -/
def keep_UartAsks_l1 (a0 : Api_Uart) (r1 : Bool) (r4 : Bool) : Nat → List Int → Nat → List Int → List Int → Int → Bool → Option (Bool)
  | 0, _, _, _, _, _, _ => none
  | n + 1, l7, k8, l9, l10, x11, b12 =>
    bif (decide ((((k8 : Nat) : Int) : Int) < 16)) then
      bif (!b12) then
        (uart_Step (⟨l9, l10, x11, b12⟩ : Api_Uart) (⟨2, 0⟩ : Api_UartOp)).bind fun r15 =>
        some ((((!b12) && ((r15.2.2 : Int) == 3)) && ((bytesOf l7).toList == (bytesOf a0.In).toList)) && ((bytesOf l10).toList == (bytesOf a0.Out).toList))
      else
        (uart_Step (⟨l9, l10, x11, b12⟩ : Api_Uart) (⟨2, 0⟩ : Api_UartOp)).bind fun r28 =>
        bif ((r28.2.2 : Int) != 0) then
          some false
        else
          if ((l7).length + ([r28.2.1]).length) * 1 ≤ 140737488355328 ∧ (l7).length + ([r28.2.1]).length ≤ 140737488355328 then
          keep_UartAsks_l1 a0 r1 r4 n (l7 ++ [r28.2.1]) (k8 + 1) r28.1.In r28.1.Out r28.1.Lost r28.1.Asks
          else none
    else
      (uart_Step (⟨l9, l10, x11, b12⟩ : Api_Uart) (⟨2, 0⟩ : Api_UartOp)).bind fun r32 =>
      some ((((!b12) && ((r32.2.2 : Int) == 3)) && ((bytesOf l7).toList == (bytesOf a0.In).toList)) && ((bytesOf l10).toList == (bytesOf a0.Out).toList))

def keep_UartAsks (a0 : Api_Uart) : Option (Bool) :=
  (keep_alive16).bind fun r1 =>
  bif (!r1) then
    some false
  else
    (uart_Right (⟨a0.In, a0.Out, a0.Lost, a0.Asks⟩ : Api_Uart)).bind fun r4 =>
    bif (!r4) then
      some true
    else
      keep_UartAsks_l1 a0 r1 r4 FUEL ([] : List Int) 0 a0.In a0.Out a0.Lost a0.Asks


end Go.Proofs.Ytegafdnfcijemaa
