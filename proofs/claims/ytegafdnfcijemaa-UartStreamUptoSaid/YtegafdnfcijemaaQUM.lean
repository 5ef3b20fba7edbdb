/- The models of the functions: printed by program. -/
import Derived.Test.YtegafdnfcijemaaAbY
set_option linter.unusedSimpArgs false
set_option linter.unusedVariables false
namespace Go.Proofs.Ytegafdnfcijemaa
open Go Go.Ab

structure Api_UartOp where
  Kind : Int
  Byte : Int
deriving DecidableEq

structure Api_Uart where
  In : (List Int)
  Out : (List Int)
  Lost : Int
  Asks : Bool
deriving DecidableEq

def OkU_Api_UartOp (x : Api_UartOp) : Prop := (-9223372036854775808 ≤ x.Kind ∧ x.Kind ≤ 9223372036854775807) ∧ (0 ≤ x.Byte ∧ x.Byte ≤ 255)

/- corebell/uart.Right -/
def uart_Right (a0 : Api_Uart) : Option (Bool) :=
  some (((((decide ((((a0.In.length : Nat) : Int) : Int) ≤ 16)) && (decide ((((a0.Out.length : Nat) : Int) : Int) ≤ 16))) && (decide ((a0.Lost : Int) ≥ 0))) && (decide ((a0.Lost : Int) ≤ 1099511627776))) && (a0.Asks == (decide ((((a0.In.length : Nat) : Int) : Int) > 0))))


/- corebell/uart.Step$1 -/
def uart_Step_1 (a0 : Int) : Option (Api_Uart × Int × Int) :=
  some ((⟨([] : List Int), ([] : List Int), 0, false⟩ : Api_Uart), 0, a0)


/- slices.Clone(()byte,byte) -/
def slices_Clone_byte (a0 : List Int) : Option (List Int) := if a0.length * 1 ≤ 140737488355328 then some a0 else none

/- corebell/uart.Step -/
def uart_Step (a0 : Api_Uart) (a1 : Api_UartOp) : Option (Api_Uart × Int × Int) :=
  (uart_Right a0).bind fun r1 =>
  bif (!r1) then
    (uart_Step_1 1).bind fun r4 =>
    some (r4.1, r4.2.1, r4.2.2)
  else
    (slices_Clone_byte a0.In).bind fun r6 =>
    (slices_Clone_byte a0.Out).bind fun r8 =>
    bif ((a1.Kind : Int) == 1) then
      bif (decide ((((r6.length : Nat) : Int) : Int) < 16)) then
        if ((r6).length + ([a1.Byte]).length) * 1 ≤ 140737488355328 ∧ (r6).length + ([a1.Byte]).length ≤ 140737488355328 then
        some ((⟨(r6 ++ [a1.Byte]), r8, a0.Lost, (decide (((((r6 ++ [a1.Byte]).length : Nat) : Int) : Int) > 0))⟩ : Api_Uart), 0, 0)
        else none
      else
        bif ((a0.Lost : Int) == 1099511627776) then
          (uart_Step_1 4).bind fun r14 =>
          some (r14.1, r14.2.1, r14.2.2)
        else
          some ((⟨r6, r8, (IntKind.i64.wrap (a0.Lost + 1)), (decide ((((r6.length : Nat) : Int) : Int) > 0))⟩ : Api_Uart), 0, 0)
    else
      bif ((a1.Kind : Int) == 2) then
        bif ((((r6.length : Nat) : Int) : Int) == 0) then
          (uart_Step_1 3).bind fun r18 =>
          some (r18.1, r18.2.1, r18.2.2)
        else
          if 0 ≤ (0 : Int) ∧ 0 < ((r6.length : Nat) : Int) then
          if 1 ≤ r6.length then
          some ((⟨((r6.drop (0 + 1)).take (r6.length - 1)), r8, a0.Lost, (decide (((((r6.length - 1) : Nat) : Int) : Int) > 0))⟩ : Api_Uart), (r6.getD (0 + 0) 0), 0)
          else none
          else none
      else
        bif ((a1.Kind : Int) == 3) then
          bif ((((r8.length : Nat) : Int) : Int) == 16) then
            (uart_Step_1 7).bind fun r25 =>
            some (r25.1, r25.2.1, r25.2.2)
          else
            if ((r8).length + ([a1.Byte]).length) * 1 ≤ 140737488355328 ∧ (r8).length + ([a1.Byte]).length ≤ 140737488355328 then
            some ((⟨r6, (r8 ++ [a1.Byte]), a0.Lost, (decide ((((r6.length : Nat) : Int) : Int) > 0))⟩ : Api_Uart), 0, 0)
            else none
        else
          bif ((a1.Kind : Int) == 4) then
            bif ((((r8.length : Nat) : Int) : Int) == 0) then
              (uart_Step_1 3).bind fun r30 =>
              some (r30.1, r30.2.1, r30.2.2)
            else
              if 0 ≤ (0 : Int) ∧ 0 < ((r8.length : Nat) : Int) then
              if 1 ≤ r8.length then
              some ((⟨r6, ((r8.drop (0 + 1)).take (r8.length - 1)), a0.Lost, (decide ((((r6.length : Nat) : Int) : Int) > 0))⟩ : Api_Uart), (r8.getD (0 + 0) 0), 0)
              else none
              else none
          else
            (uart_Step_1 5).bind fun r35 =>
            some (r35.1, r35.2.1, r35.2.2)


/- corebell/uart.Play -/
def uart_Play_l1 (a0 : (List Api_UartOp)) : Nat → List Int → List Int → Nat → List Int → List Int → Int → Bool → Option ((List Int) × (List Int) × Api_Uart)
  | 0, _, _, _, _, _, _, _ => none
  | n1 + 1, l1, l2, k3, l4, l5, x6, b7 =>
    bif (decide ((((k3 : Nat) : Int) : Int) < ((a0.length : Nat) : Int))) then
      (uart_Step (⟨l4, l5, x6, b7⟩ : Api_Uart) (a0.getD k3 (⟨0, 0⟩ : Api_UartOp))).bind fun r10 =>
      bif ((r10.2.2 : Int) != 0) then
        uart_Play_l1 a0 n1 l1 l2 (k3 + 1) l4 l5 x6 b7
      else
        bif (((a0.getD k3 (⟨0, 0⟩ : Api_UartOp)).Kind : Int) == 2) then
          if ((l1).length + ([r10.2.1]).length) * 1 ≤ 140737488355328 ∧ (l1).length + ([r10.2.1]).length ≤ 140737488355328 then
          uart_Play_l1 a0 n1 (l1 ++ [r10.2.1]) l2 (k3 + 1) r10.1.In r10.1.Out r10.1.Lost r10.1.Asks
          else none
        else
          bif (((a0.getD k3 (⟨0, 0⟩ : Api_UartOp)).Kind : Int) == 4) then
            if ((l2).length + ([r10.2.1]).length) * 1 ≤ 140737488355328 ∧ (l2).length + ([r10.2.1]).length ≤ 140737488355328 then
            uart_Play_l1 a0 n1 l1 (l2 ++ [r10.2.1]) (k3 + 1) r10.1.In r10.1.Out r10.1.Lost r10.1.Asks
            else none
          else
            uart_Play_l1 a0 n1 l1 l2 (k3 + 1) r10.1.In r10.1.Out r10.1.Lost r10.1.Asks
    else
      some (l1, l2, (⟨l4, l5, x6, b7⟩ : Api_Uart))

def uart_Play (a0 : (List Api_UartOp)) : Option ((List Int) × (List Int) × Api_Uart) :=
  uart_Play_l1 a0 FUEL ([] : List Int) ([] : List Int) 0 ([] : List Int) ([] : List Int) 0 false


/- corebell/corebellkeep.alive16 -/
def keep_alive16 : Option (Bool) :=
  (uart_Play [(⟨1, 7⟩ : Api_UartOp), (⟨1, 8⟩ : Api_UartOp), (⟨2, 0⟩ : Api_UartOp), (⟨3, 9⟩ : Api_UartOp), (⟨4, 0⟩ : Api_UartOp)]).bind fun r1 =>
  (bif (((((bytesOf r1.1).toList == (bytesOf [7]).toList) && ((bytesOf r1.2.1).toList == (bytesOf [9]).toList)) && ((bytesOf r1.2.2.In).toList == (bytesOf [8]).toList)) && r1.2.2.Asks) then uart_Right r1.2.2 else some false).bind fun r10 =>
  some ((((((bytesOf r1.1).toList == (bytesOf [7]).toList) && ((bytesOf r1.2.1).toList == (bytesOf [9]).toList)) && ((bytesOf r1.2.2.In).toList == (bytesOf [8]).toList)) && r1.2.2.Asks) && r10)


/- slices.Grow(()byte,byte), from nothing -/
def slices_Grow_byte_nil (a0 : Int) : Option (List Int) := if 0 ≤ a0 ∧ a0.toNat * 1 ≤ 140737488355328 ∧ a0.toNat ≤ 140737488355328 then some [] else none

/- slices.Concat(()byte,byte) -/
def slices_Concat_byte_l2 (a0 : (List (List Int))) (r6 : (List Int)) : Nat → List Int → Nat → Option ((List Int))
  | 0, _, _ => none
  | n2 + 1, l8, k9 =>
    bif (decide ((((k9 : Nat) : Int) : Int) < ((a0.length : Nat) : Int))) then
      if ((l8).length + ((a0.getD k9 [])).length) * 1 ≤ 140737488355328 ∧ (l8).length + ((a0.getD k9 [])).length ≤ 140737488355328 then
      slices_Concat_byte_l2 a0 r6 n2 (l8 ++ (a0.getD k9 [])) (k9 + 1)
      else none
    else
      some l8

def slices_Concat_byte_l1 (a0 : (List (List Int))) : Nat → Int → Nat → Option ((List Int))
  | 0, _, _ => none
  | n1 + 1, x1, k2 =>
    bif (decide ((((k2 : Nat) : Int) : Int) < ((a0.length : Nat) : Int))) then
      bif (decide (((IntKind.i64.wrap (x1 + (((a0.getD k2 []).length : Nat) : Int))) : Int) < 0)) then
        none
      else
        slices_Concat_byte_l1 a0 n1 (IntKind.i64.wrap (x1 + (((a0.getD k2 []).length : Nat) : Int))) (k2 + 1)
    else
      (slices_Grow_byte_nil x1).bind fun r6 =>
      slices_Concat_byte_l2 a0 r6 FUEL r6 0

def slices_Concat_byte (a0 : (List (List Int))) : Option ((List Int)) :=
  slices_Concat_byte_l1 a0 FUEL 0 0


/- corebell/corebellkeep.UartStream -/
def keep_UartStream_l1 (a0 : (List Api_UartOp)) (r4 : (List Int) × (List Int) × Api_Uart) : Nat → List Int → List Int → Int → Int → Int → Nat → Option (Bool)
  | 0, _, _, _, _, _, _ => none
  | n1 + 1, l6, l7, x8, x9, x10, k11 =>
    bif (decide ((((k11 : Nat) : Int) : Int) < ((a0.length : Nat) : Int))) then
      bif (((a0.getD k11 (⟨0, 0⟩ : Api_UartOp)).Kind : Int) == 1) then
        bif ((x8 : Int) == 16) then
          keep_UartStream_l1 a0 r4 n1 l6 l7 x8 x9 (IntKind.i64.wrap (x10 + 1)) (k11 + 1)
        else
          if ((l6).length + ([(a0.getD k11 (⟨0, 0⟩ : Api_UartOp)).Byte]).length) * 1 ≤ 140737488355328 ∧ (l6).length + ([(a0.getD k11 (⟨0, 0⟩ : Api_UartOp)).Byte]).length ≤ 140737488355328 then
          keep_UartStream_l1 a0 r4 n1 (l6 ++ [(a0.getD k11 (⟨0, 0⟩ : Api_UartOp)).Byte]) l7 (IntKind.i64.wrap (x8 + 1)) x9 x10 (k11 + 1)
          else none
      else
        bif (((a0.getD k11 (⟨0, 0⟩ : Api_UartOp)).Kind : Int) == 2) then
          keep_UartStream_l1 a0 r4 n1 l6 l7 (if (0 : Int) > (IntKind.i64.wrap (x8 - 1)) then 0 else (IntKind.i64.wrap (x8 - 1))) x9 x10 (k11 + 1)
        else
          bif (((a0.getD k11 (⟨0, 0⟩ : Api_UartOp)).Kind : Int) == 3) then
            bif (decide ((x9 : Int) < 16)) then
              if ((l7).length + ([(a0.getD k11 (⟨0, 0⟩ : Api_UartOp)).Byte]).length) * 1 ≤ 140737488355328 ∧ (l7).length + ([(a0.getD k11 (⟨0, 0⟩ : Api_UartOp)).Byte]).length ≤ 140737488355328 then
              keep_UartStream_l1 a0 r4 n1 l6 (l7 ++ [(a0.getD k11 (⟨0, 0⟩ : Api_UartOp)).Byte]) x8 (IntKind.i64.wrap (x9 + 1)) x10 (k11 + 1)
              else none
            else
              keep_UartStream_l1 a0 r4 n1 l6 l7 x8 x9 x10 (k11 + 1)
          else
            bif (((a0.getD k11 (⟨0, 0⟩ : Api_UartOp)).Kind : Int) == 4) then
              keep_UartStream_l1 a0 r4 n1 l6 l7 x8 (if (0 : Int) > (IntKind.i64.wrap (x9 - 1)) then 0 else (IntKind.i64.wrap (x9 - 1))) x10 (k11 + 1)
            else
              keep_UartStream_l1 a0 r4 n1 l6 l7 x8 x9 x10 (k11 + 1)
    else
      (slices_Concat_byte [r4.1, r4.2.2.In]).bind fun r22 =>
      (bif ((bytesOf r22).toList == (bytesOf l6).toList) then slices_Concat_byte [r4.2.1, r4.2.2.Out] else some []).bind fun r25 =>
      some ((((bytesOf r22).toList == (bytesOf l6).toList) && ((bytesOf r25).toList == (bytesOf l7).toList)) && ((r4.2.2.Lost : Int) == x10))

def keep_UartStream (a0 : (List Api_UartOp)) : Option (Bool) :=
  (keep_alive16).bind fun r1 =>
  bif (!r1) then
    some false
  else
    (uart_Play a0).bind fun r4 =>
    keep_UartStream_l1 a0 r4 FUEL ([] : List Int) ([] : List Int) 0 0 0 0


end Go.Proofs.Ytegafdnfcijemaa
