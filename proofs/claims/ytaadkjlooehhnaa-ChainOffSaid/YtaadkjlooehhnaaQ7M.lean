/- The models of the functions: printed by program. -/
import Derived.Test.YtaadkjlooehhnaaAbY
set_option linter.unusedSimpArgs false
set_option linter.unusedVariables false
namespace Go.Proofs.Ytaadkjlooehhnaa
open Go Go.Ab

structure Api_Tally where
  Came : Int
  Nobody : Int
  Off : Bool
deriving DecidableEq

structure Api_Handler where
  Says : Int
  Left : Int
deriving DecidableEq

structure Api_Pin where
  Core : Int
  Vec : Int
  Level : Bool
  Masked : Bool
  Up : Bool
  Kept : Bool
  Sent : Bool
deriving DecidableEq

structure Api_PinOp where
  Kind : Int
  Pin : Int
deriving DecidableEq

structure Api_Sent where
  Pin : Int
  Core : Int
  Vec : Int
deriving DecidableEq

def Ok_Api_Tally (x : Api_Tally) : Prop := (-9223372036854775808 ≤ x.Came ∧ x.Came ≤ 9223372036854775807) ∧ (-9223372036854775808 ≤ x.Nobody ∧ x.Nobody ≤ 9223372036854775807) ∧ True
def Ok_Api_Handler (x : Api_Handler) : Prop := (-9223372036854775808 ≤ x.Says ∧ x.Says ≤ 9223372036854775807) ∧ (-9223372036854775808 ≤ x.Left ∧ x.Left ≤ 9223372036854775807)
def Ok_Api_PinOp (x : Api_PinOp) : Prop := (-9223372036854775808 ≤ x.Kind ∧ x.Kind ≤ 9223372036854775807) ∧ (-9223372036854775808 ≤ x.Pin ∧ x.Pin ≤ 9223372036854775807)
def Ok_Api_Pin (x : Api_Pin) : Prop := (-9223372036854775808 ≤ x.Core ∧ x.Core ≤ 9223372036854775807) ∧ (-9223372036854775808 ≤ x.Vec ∧ x.Vec ≤ 9223372036854775807) ∧ True ∧ True ∧ True ∧ True ∧ True

/- corebell/chain.Right$1 -/
def chain_Right_1 (a0 : Api_Handler) : Option (Bool) :=
  some ((((decide ((a0.Says : Int) < 1)) || (decide ((a0.Says : Int) > 2))) || (decide ((a0.Left : Int) < 0))) || (decide ((a0.Left : Int) > 1099511627776)))


/- slices.IndexFunc(()corebell/api.Handler,corebell/api.Handler) -/
def slices_IndexFunc_api_Handler_chain_Right_1_l1 (a0 : (List Api_Handler)) : Nat → Nat → Option (Int)
  | 0, _ => none
  | n1 + 1, k1 =>
    bif (decide ((((k1 : Nat) : Int) : Int) < ((a0.length : Nat) : Int))) then
      (chain_Right_1 (a0.getD k1 (⟨0, 0⟩ : Api_Handler))).bind fun r4 =>
      bif r4 then
        some ((k1 : Nat) : Int)
      else
        slices_IndexFunc_api_Handler_chain_Right_1_l1 a0 n1 (k1 + 1)
    else
      some (-1)

def slices_IndexFunc_api_Handler_chain_Right_1 (a0 : (List Api_Handler)) : Option (Int) :=
  slices_IndexFunc_api_Handler_chain_Right_1_l1 a0 FUEL 0


/- slices.ContainsFunc(()corebell/api.Handler,corebell/api.Handler) -/
def slices_ContainsFunc_api_Handler_chain_Right_1 (a0 : (List Api_Handler)) : Option (Bool) :=
  (slices_IndexFunc_api_Handler_chain_Right_1 a0).bind fun r1 =>
  some (decide ((r1 : Int) ≥ 0))


/- corebell/chain.Right -/
def chain_Right (a0 : (List Api_Handler)) : Option (Bool) :=
  (bif (decide ((((a0.length : Nat) : Int) : Int) ≤ 16)) then slices_ContainsFunc_api_Handler_chain_Right_1 a0 else some false).bind fun r1 =>
  some ((decide ((((a0.length : Nat) : Int) : Int) ≤ 16)) && (!r1))


/- slices.Clone(()corebell/api.Handler,corebell/api.Handler) -/
def slices_Clone_api_Handler (a0 : List Api_Handler) : Option (List Api_Handler) := if a0.length * 16 ≤ 140737488355328 then some a0 else none

/- corebell/chain.Serve$1 -/
def chain_Serve_1 (a0 : Int) : Option ((List Api_Handler) × (List Int) × Api_Tally × Int) :=
  some (([] : List Api_Handler), ([] : List Int), (⟨0, 0, false⟩ : Api_Tally), a0)


/- corebell/chain.says -/
def chain_says (a0 : Api_Handler) : Option (Int × Api_Handler) :=
  bif ((a0.Left : Int) == 0) then
    some (0, a0)
  else
    some (a0.Says, (⟨a0.Says, (IntKind.i64.wrap (a0.Left - 1))⟩ : Api_Handler))


/- corebell/chain.Serve -/
def chain_Serve_l1 (a1 : Api_Tally) (r30 : (List Api_Handler)) : Nat → List Int → Bool → Nat → List Api_Handler → Option ((List Api_Handler) × (List Int) × Api_Tally × Int)
  | 0, _, _, _, _ => none
  | n1 + 1, l32, b33, k34, l35 =>
    bif (decide ((((k34 : Nat) : Int) : Int) < ((r30.length : Nat) : Int))) then
      if 0 ≤ (((k34 : Nat) : Int) : Int) ∧ ((k34 : Nat) : Int) < ((l35.length : Nat) : Int) then
      (chain_says (l35.getD (0 + k34) (⟨0, 0⟩ : Api_Handler))).bind fun r38 =>
      bif ((r38.1 : Int) == 2) then
        if ((l32).length + ([((k34 : Nat) : Int)]).length) * 8 ≤ 140737488355328 ∧ (l32).length + ([((k34 : Nat) : Int)]).length ≤ 140737488355328 then
        chain_Serve_l1 a1 r30 n1 (l32 ++ [((k34 : Nat) : Int)]) (b33 || ((r38.1 : Int) != 0)) (k34 + 1) (l35.set (0 + k34) r38.2)
        else none
      else
        chain_Serve_l1 a1 r30 n1 l32 (b33 || ((r38.1 : Int) != 0)) (k34 + 1) (l35.set (0 + k34) r38.2)
      else none
    else
      bif b33 then
        some (l35, l32, (⟨(IntKind.i64.wrap (a1.Came + 1)), 0, ((0 : Int) == 5)⟩ : Api_Tally), 0)
      else
        some (l35, l32, (⟨(IntKind.i64.wrap (a1.Came + 1)), (IntKind.i64.wrap (a1.Nobody + 1)), (((IntKind.i64.wrap (a1.Nobody + 1)) : Int) == 5)⟩ : Api_Tally), 0)

def chain_Serve (a0 : (List Api_Handler)) (a1 : Api_Tally) : Option ((List Api_Handler) × (List Int) × Api_Tally × Int) :=
  (chain_Right a0).bind fun r1 =>
  bif ((((((!r1) || (decide ((a1.Came : Int) < 0))) || (decide ((a1.Came : Int) > 1099511627776))) || (decide ((a1.Nobody : Int) < 0))) || (decide ((a1.Nobody : Int) > 5))) || (a1.Off != ((a1.Nobody : Int) == 5))) then
    (chain_Serve_1 1).bind fun r22 =>
    some (r22.1, r22.2.1, r22.2.2.1, r22.2.2.2)
  else
    bif a1.Off then
      (chain_Serve_1 7).bind fun r25 =>
      some (r25.1, r25.2.1, r25.2.2.1, r25.2.2.2)
    else
      bif ((a1.Came : Int) == 1099511627776) then
        (chain_Serve_1 4).bind fun r28 =>
        some (r28.1, r28.2.1, r28.2.2.1, r28.2.2.2)
      else
        (slices_Clone_api_Handler a0).bind fun r30 =>
        chain_Serve_l1 a1 r30 FUEL ([] : List Int) false 0 r30


/- corebell/chain.Play -/
def chain_Play_l1 (a1 : Int) (r7 : (List Api_Handler)) : Nat → List Api_Handler → List Int → Int → Int → Int → Bool → Option ((List Api_Handler) × (List Int) × Api_Tally × Int)
  | 0, _, _, _, _, _, _ => none
  | n1 + 1, l9, l10, x11, x12, x13, b14 =>
    bif (decide ((x11 : Int) < a1)) then
      (chain_Serve l9 (⟨x12, x13, b14⟩ : Api_Tally)).bind fun r16 =>
      bif ((r16.2.2.2 : Int) != 0) then
        some (l9, l10, (⟨x12, x13, b14⟩ : Api_Tally), 0)
      else
        if ((l10).length + (r16.2.1).length) * 8 ≤ 140737488355328 ∧ (l10).length + (r16.2.1).length ≤ 140737488355328 then
        chain_Play_l1 a1 r7 n1 r16.1 (l10 ++ r16.2.1) (IntKind.i64.wrap (x11 + 1)) r16.2.2.1.Came r16.2.2.1.Nobody r16.2.2.1.Off
        else none
    else
      some (l9, l10, (⟨x12, x13, b14⟩ : Api_Tally), 0)

def chain_Play (a0 : (List Api_Handler)) (a1 : Int) : Option ((List Api_Handler) × (List Int) × Api_Tally × Int) :=
  (chain_Right a0).bind fun r1 =>
  bif (!r1) then
    some (([] : List Api_Handler), ([] : List Int), (⟨0, 0, false⟩ : Api_Tally), 1)
  else
    bif ((decide ((a1 : Int) < 0)) || (decide ((a1 : Int) > 400))) then
      some (([] : List Api_Handler), ([] : List Int), (⟨0, 0, false⟩ : Api_Tally), 2)
    else
      (slices_Clone_api_Handler a0).bind fun r7 =>
      chain_Play_l1 a1 r7 FUEL r7 ([] : List Int) 0 0 0 false


/- slices.Equal(()int,int) -/
def slices_Equal_int_l1 (a0 : (List Int)) (a1 : (List Int)) : Nat → Nat → Option (Bool)
  | 0, _ => none
  | n1 + 1, k2 =>
    bif (decide ((((k2 : Nat) : Int) : Int) < ((a0.length : Nat) : Int))) then
      if 0 ≤ (((k2 : Nat) : Int) : Int) ∧ ((k2 : Nat) : Int) < ((a1.length : Nat) : Int) then
      bif (((a0.getD k2 0) : Int) != (a1.getD k2 0)) then
        some false
      else
        slices_Equal_int_l1 a0 a1 n1 (k2 + 1)
      else none
    else
      some true

def slices_Equal_int (a0 : (List Int)) (a1 : (List Int)) : Option (Bool) :=
  bif ((((a0.length : Nat) : Int) : Int) != ((a1.length : Nat) : Int)) then
    some false
  else
    slices_Equal_int_l1 a0 a1 FUEL 0


/- corebell/corebellkeep.alive9 -/
def keep_alive9 : Option (Bool) :=
  (chain_Play [(⟨1, 1⟩ : Api_Handler), (⟨2, 2⟩ : Api_Handler)] 9).bind fun r1 =>
  (bif (((r1.2.2.2 : Int) == 0) && ((((r1.1.length : Nat) : Int) : Int) == 2)) then slices_Equal_int r1.2.1 [1, 1] else some false).bind fun r6 =>
  some (((((r1.2.2.2 : Int) == 0) && ((((r1.1.length : Nat) : Int) : Int) == 2)) && r6) && (((r1.2.2.1.Came : Int) == 7) && (((r1.2.2.1.Nobody : Int) == 5) && ((r1.2.2.1.Off == true) && true))))


/- slices.Index(()int,int) -/
def slices_Index_int_l1 (a0 : (List Int)) (a1 : Int) : Nat → Nat → Option (Int)
  | 0, _ => none
  | n1 + 1, k1 =>
    bif (decide ((((k1 : Nat) : Int) : Int) < ((a0.length : Nat) : Int))) then
      bif ((a1 : Int) == (a0.getD k1 0)) then
        some ((k1 : Nat) : Int)
      else
        slices_Index_int_l1 a0 a1 n1 (k1 + 1)
    else
      some (-1)

def slices_Index_int (a0 : (List Int)) (a1 : Int) : Option (Int) :=
  slices_Index_int_l1 a0 a1 FUEL 0


/- slices.Contains(()int,int) -/
def slices_Contains_int (a0 : (List Int)) (a1 : Int) : Option (Bool) :=
  (slices_Index_int a0 a1).bind fun r1 =>
  some (decide ((r1 : Int) ≥ 0))


/- corebell/corebellkeep.left -/
def keep_left_l1 (a0 : (List Api_Handler)) : Nat → Int → Nat → Option (Int)
  | 0, _, _ => none
  | n1 + 1, x1, k2 =>
    bif (decide ((((k2 : Nat) : Int) : Int) < ((a0.length : Nat) : Int))) then
      keep_left_l1 a0 n1 (IntKind.i64.wrap (x1 + ((a0.getD k2 (⟨0, 0⟩ : Api_Handler)).Left))) (k2 + 1)
    else
      some x1

def keep_left (a0 : (List Api_Handler)) : Option (Int) :=
  keep_left_l1 a0 FUEL 0 0


/- corebell/corebellkeep.ChainAll -/
def keep_ChainAll_l1 (a0 : (List Api_Handler)) (r4 : (List Api_Handler) × (List Int) × Api_Tally × Int) : Nat → Int → Nat → Option (Bool)
  | 0, _, _ => none
  | n1 + 1, x10, k11 =>
    bif (decide ((((k11 : Nat) : Int) : Int) < ((a0.length : Nat) : Int))) then
      bif (decide (((a0.getD k11 (⟨0, 0⟩ : Api_Handler)).Left : Int) > 0)) then
        if 0 ≤ (((k11 : Nat) : Int) : Int) ∧ ((k11 : Nat) : Int) < ((r4.1.length : Nat) : Int) then
        if ((!(((r4.1.getD (0 + k11) (⟨0, 0⟩ : Api_Handler)).Left : Int) != (if (0 : Int) > (IntKind.i64.wrap (((a0.getD k11 (⟨0, 0⟩ : Api_Handler)).Left) - 1)) then 0 else (IntKind.i64.wrap (((a0.getD k11 (⟨0, 0⟩ : Api_Handler)).Left) - 1))))) = true → (0 ≤ (((k11 : Nat) : Int) : Int) ∧ ((k11 : Nat) : Int) < ((r4.1.length : Nat) : Int))) then
        (bif (!((((r4.1.getD (0 + k11) (⟨0, 0⟩ : Api_Handler)).Left : Int) != (if (0 : Int) > (IntKind.i64.wrap (((a0.getD k11 (⟨0, 0⟩ : Api_Handler)).Left) - 1)) then 0 else (IntKind.i64.wrap (((a0.getD k11 (⟨0, 0⟩ : Api_Handler)).Left) - 1)))) || (((r4.1.getD (0 + k11) (⟨0, 0⟩ : Api_Handler)).Says : Int) != ((a0.getD k11 (⟨0, 0⟩ : Api_Handler)).Says)))) then slices_Contains_int r4.2.1 ((k11 : Nat) : Int) else some false).bind fun r24 =>
        bif (((((r4.1.getD (0 + k11) (⟨0, 0⟩ : Api_Handler)).Left : Int) != (if (0 : Int) > (IntKind.i64.wrap (((a0.getD k11 (⟨0, 0⟩ : Api_Handler)).Left) - 1)) then 0 else (IntKind.i64.wrap (((a0.getD k11 (⟨0, 0⟩ : Api_Handler)).Left) - 1)))) || (((r4.1.getD (0 + k11) (⟨0, 0⟩ : Api_Handler)).Says : Int) != ((a0.getD k11 (⟨0, 0⟩ : Api_Handler)).Says))) || (r24 != ((decide (((a0.getD k11 (⟨0, 0⟩ : Api_Handler)).Left : Int) > 0)) && (((a0.getD k11 (⟨0, 0⟩ : Api_Handler)).Says : Int) == 2)))) then
          some false
        else
          keep_ChainAll_l1 a0 r4 n1 (IntKind.i64.wrap (x10 + 1)) (k11 + 1)
        else none
        else none
      else
        if 0 ≤ (((k11 : Nat) : Int) : Int) ∧ ((k11 : Nat) : Int) < ((r4.1.length : Nat) : Int) then
        if ((!(((r4.1.getD (0 + k11) (⟨0, 0⟩ : Api_Handler)).Left : Int) != (if (0 : Int) > (IntKind.i64.wrap (((a0.getD k11 (⟨0, 0⟩ : Api_Handler)).Left) - 1)) then 0 else (IntKind.i64.wrap (((a0.getD k11 (⟨0, 0⟩ : Api_Handler)).Left) - 1))))) = true → (0 ≤ (((k11 : Nat) : Int) : Int) ∧ ((k11 : Nat) : Int) < ((r4.1.length : Nat) : Int))) then
        (bif (!((((r4.1.getD (0 + k11) (⟨0, 0⟩ : Api_Handler)).Left : Int) != (if (0 : Int) > (IntKind.i64.wrap (((a0.getD k11 (⟨0, 0⟩ : Api_Handler)).Left) - 1)) then 0 else (IntKind.i64.wrap (((a0.getD k11 (⟨0, 0⟩ : Api_Handler)).Left) - 1)))) || (((r4.1.getD (0 + k11) (⟨0, 0⟩ : Api_Handler)).Says : Int) != ((a0.getD k11 (⟨0, 0⟩ : Api_Handler)).Says)))) then slices_Contains_int r4.2.1 ((k11 : Nat) : Int) else some false).bind fun r46 =>
        bif (((((r4.1.getD (0 + k11) (⟨0, 0⟩ : Api_Handler)).Left : Int) != (if (0 : Int) > (IntKind.i64.wrap (((a0.getD k11 (⟨0, 0⟩ : Api_Handler)).Left) - 1)) then 0 else (IntKind.i64.wrap (((a0.getD k11 (⟨0, 0⟩ : Api_Handler)).Left) - 1)))) || (((r4.1.getD (0 + k11) (⟨0, 0⟩ : Api_Handler)).Says : Int) != ((a0.getD k11 (⟨0, 0⟩ : Api_Handler)).Says))) || (r46 != ((decide (((a0.getD k11 (⟨0, 0⟩ : Api_Handler)).Left : Int) > 0)) && (((a0.getD k11 (⟨0, 0⟩ : Api_Handler)).Says : Int) == 2)))) then
          some false
        else
          keep_ChainAll_l1 a0 r4 n1 x10 (k11 + 1)
        else none
        else none
    else
      (bif ((((r4.1.length : Nat) : Int) : Int) == ((a0.length : Nat) : Int)) then keep_left a0 else some 0).bind fun r59 =>
      (bif ((((r4.1.length : Nat) : Int) : Int) == ((a0.length : Nat) : Int)) then keep_left r4.1 else some 0).bind fun r61 =>
      (bif ((((((r4.1.length : Nat) : Int) : Int) == ((a0.length : Nat) : Int)) && (((IntKind.i64.wrap (r59 - r61)) : Int) == x10)) && (((r4.2.2.1.Nobody : Int) == 0) == (decide ((x10 : Int) > 0)))) then chain_Right r4.1 else some false).bind fun r74 =>
      some (((((((r4.1.length : Nat) : Int) : Int) == ((a0.length : Nat) : Int)) && (((IntKind.i64.wrap (r59 - r61)) : Int) == x10)) && (((r4.2.2.1.Nobody : Int) == 0) == (decide ((x10 : Int) > 0)))) && r74)

def keep_ChainAll (a0 : (List Api_Handler)) (a1 : Api_Tally) : Option (Bool) :=
  (keep_alive9).bind fun r1 =>
  bif (!r1) then
    some false
  else
    (chain_Serve a0 a1).bind fun r4 =>
    bif ((r4.2.2.2 : Int) != 0) then
      some ((((IntKind.i64.wrap (((r4.1.length : Nat) : Int) + ((r4.2.1.length : Nat) : Int))) : Int) == 0) && (((r4.2.2.1.Came : Int) == 0) && (((r4.2.2.1.Nobody : Int) == 0) && ((r4.2.2.1.Off == false) && true))))
    else
      keep_ChainAll_l1 a0 r4 FUEL 0 0


/- corebell/corebellkeep.ChainOff -/
def keep_ChainOff (a0 : (List Api_Handler)) (a1 : Int) : Option (Bool) :=
  (keep_alive9).bind fun r1 =>
  bif (!r1) then
    some false
  else
    (chain_Play a0 a1).bind fun r4 =>
    bif ((r4.2.2.2 : Int) != 0) then
      some true
    else
      bif r4.2.2.1.Off then
        (keep_left r4.1).bind fun r8 =>
        some (((r8 : Int) == 0) && ((r4.2.2.1.Nobody : Int) == 5))
      else
        (chain_Play r4.1 5).bind fun r13 =>
        (bif ((r4.2.2.1.Came : Int) == a1) then keep_left r4.1 else some 0).bind fun r15 =>
        some (((r4.2.2.1.Came : Int) == a1) && ((decide ((r15 : Int) > 0)) || r13.2.2.1.Off))


/- corebell/line.Right$1 -/
def line_Right_1 (a0 : Api_Pin) : Option (Bool) :=
  some ((((((((decide ((a0.Core : Int) < 0)) || (decide ((a0.Core : Int) ≥ 8))) || (decide ((a0.Vec : Int) < 32))) || (decide ((a0.Vec : Int) ≥ 256))) || (a0.Level && a0.Kept)) || ((!a0.Level) && a0.Sent)) || (a0.Kept && (!a0.Masked))) || (((a0.Level && a0.Up) && (!a0.Masked)) && (!a0.Sent)))


/- slices.IndexFunc(()corebell/api.Pin,corebell/api.Pin) -/
def slices_IndexFunc_api_Pin_line_Right_1_l1 (a0 : (List Api_Pin)) : Nat → Nat → Option (Int)
  | 0, _ => none
  | n1 + 1, k1 =>
    bif (decide ((((k1 : Nat) : Int) : Int) < ((a0.length : Nat) : Int))) then
      (line_Right_1 (a0.getD k1 (⟨0, 0, false, false, false, false, false⟩ : Api_Pin))).bind fun r4 =>
      bif r4 then
        some ((k1 : Nat) : Int)
      else
        slices_IndexFunc_api_Pin_line_Right_1_l1 a0 n1 (k1 + 1)
    else
      some (-1)

def slices_IndexFunc_api_Pin_line_Right_1 (a0 : (List Api_Pin)) : Option (Int) :=
  slices_IndexFunc_api_Pin_line_Right_1_l1 a0 FUEL 0


/- slices.ContainsFunc(()corebell/api.Pin,corebell/api.Pin) -/
def slices_ContainsFunc_api_Pin_line_Right_1 (a0 : (List Api_Pin)) : Option (Bool) :=
  (slices_IndexFunc_api_Pin_line_Right_1 a0).bind fun r1 =>
  some (decide ((r1 : Int) ≥ 0))


/- corebell/line.Right -/
def line_Right (a0 : (List Api_Pin)) : Option (Bool) :=
  (bif (decide ((((a0.length : Nat) : Int) : Int) ≤ 24)) then slices_ContainsFunc_api_Pin_line_Right_1 a0 else some false).bind fun r1 =>
  some ((decide ((((a0.length : Nat) : Int) : Int) ≤ 24)) && (!r1))


/- slices.Clone(()corebell/api.Pin,corebell/api.Pin) -/
def slices_Clone_api_Pin (a0 : List Api_Pin) : Option (List Api_Pin) := if a0.length * 24 ≤ 140737488355328 then some a0 else none

/- corebell/line.fire -/
def line_fire (a0 : Api_Pin) (a1 : Bool) : Option (Bool × Api_Pin) :=
  bif a0.Level then
    bif ((a0.Up && (!a0.Masked)) && (!a0.Sent)) then
      some (true, (⟨a0.Core, a0.Vec, a0.Level, a0.Masked, a0.Up, a0.Kept, true⟩ : Api_Pin))
    else
      some (false, a0)
  else
    bif (a1 && a0.Masked) then
      some (false, (⟨a0.Core, a0.Vec, a0.Level, a0.Masked, a0.Up, true, a0.Sent⟩ : Api_Pin))
    else
      bif a1 then
        bif a1 then
          some (true, (⟨a0.Core, a0.Vec, a0.Level, a0.Masked, a0.Up, false, a0.Sent⟩ : Api_Pin))
        else
          some (false, a0)
      else
        bif (a0.Kept && (!a0.Masked)) then
          some (true, (⟨a0.Core, a0.Vec, a0.Level, a0.Masked, a0.Up, false, a0.Sent⟩ : Api_Pin))
        else
          some (false, a0)


/- corebell/line.Step -/
def line_Step (a0 : (List Api_Pin)) (a1 : Api_PinOp) : Option ((List Api_Pin) × (List Api_Sent) × Int) :=
  (line_Right a0).bind fun r1 =>
  bif (!r1) then
    some (([] : List Api_Pin), ([] : List Api_Sent), 1)
  else
    bif ((decide ((a1.Kind : Int) < 1)) || (decide ((a1.Kind : Int) > 5))) then
      some (([] : List Api_Pin), ([] : List Api_Sent), 5)
    else
      bif ((decide ((a1.Pin : Int) < 0)) || (decide ((a1.Pin : Int) ≥ ((a0.length : Nat) : Int)))) then
        some (([] : List Api_Pin), ([] : List Api_Sent), 3)
      else
        (slices_Clone_api_Pin a0).bind fun r14 =>
        if 0 ≤ (a1.Pin : Int) ∧ a1.Pin < ((r14.length : Nat) : Int) then
        bif ((a1.Kind : Int) == 1) then
          bif ((a1.Kind : Int) == 1) then
            (line_fire ((r14.set (0 + (Int.toNat a1.Pin)) (⟨(r14.getD (0 + (Int.toNat a1.Pin)) (⟨0, 0, false, false, false, false, false⟩ : Api_Pin)).Core, (r14.getD (0 + (Int.toNat a1.Pin)) (⟨0, 0, false, false, false, false, false⟩ : Api_Pin)).Vec, (r14.getD (0 + (Int.toNat a1.Pin)) (⟨0, 0, false, false, false, false, false⟩ : Api_Pin)).Level, (r14.getD (0 + (Int.toNat a1.Pin)) (⟨0, 0, false, false, false, false, false⟩ : Api_Pin)).Masked, ((a1.Kind : Int) == 1), (r14.getD (0 + (Int.toNat a1.Pin)) (⟨0, 0, false, false, false, false, false⟩ : Api_Pin)).Kept, (r14.getD (0 + (Int.toNat a1.Pin)) (⟨0, 0, false, false, false, false, false⟩ : Api_Pin)).Sent⟩ : Api_Pin)).getD (0 + (Int.toNat a1.Pin)) (⟨0, 0, false, false, false, false, false⟩ : Api_Pin)) (((a1.Kind : Int) == 1) && (!((r14.getD (0 + (Int.toNat a1.Pin)) (⟨0, 0, false, false, false, false, false⟩ : Api_Pin)).Up)))).bind fun r23 =>
            bif r23.1 then
              some (((r14.set (0 + (Int.toNat a1.Pin)) (⟨(r14.getD (0 + (Int.toNat a1.Pin)) (⟨0, 0, false, false, false, false, false⟩ : Api_Pin)).Core, (r14.getD (0 + (Int.toNat a1.Pin)) (⟨0, 0, false, false, false, false, false⟩ : Api_Pin)).Vec, (r14.getD (0 + (Int.toNat a1.Pin)) (⟨0, 0, false, false, false, false, false⟩ : Api_Pin)).Level, (r14.getD (0 + (Int.toNat a1.Pin)) (⟨0, 0, false, false, false, false, false⟩ : Api_Pin)).Masked, ((a1.Kind : Int) == 1), (r14.getD (0 + (Int.toNat a1.Pin)) (⟨0, 0, false, false, false, false, false⟩ : Api_Pin)).Kept, (r14.getD (0 + (Int.toNat a1.Pin)) (⟨0, 0, false, false, false, false, false⟩ : Api_Pin)).Sent⟩ : Api_Pin)).set (0 + (Int.toNat a1.Pin)) r23.2), [(⟨a1.Pin, (((r14.set (0 + (Int.toNat a1.Pin)) (⟨(r14.getD (0 + (Int.toNat a1.Pin)) (⟨0, 0, false, false, false, false, false⟩ : Api_Pin)).Core, (r14.getD (0 + (Int.toNat a1.Pin)) (⟨0, 0, false, false, false, false, false⟩ : Api_Pin)).Vec, (r14.getD (0 + (Int.toNat a1.Pin)) (⟨0, 0, false, false, false, false, false⟩ : Api_Pin)).Level, (r14.getD (0 + (Int.toNat a1.Pin)) (⟨0, 0, false, false, false, false, false⟩ : Api_Pin)).Masked, ((a1.Kind : Int) == 1), (r14.getD (0 + (Int.toNat a1.Pin)) (⟨0, 0, false, false, false, false, false⟩ : Api_Pin)).Kept, (r14.getD (0 + (Int.toNat a1.Pin)) (⟨0, 0, false, false, false, false, false⟩ : Api_Pin)).Sent⟩ : Api_Pin)).set (0 + (Int.toNat a1.Pin)) r23.2).getD (0 + (Int.toNat a1.Pin)) (⟨0, 0, false, false, false, false, false⟩ : Api_Pin)).Core, (((r14.set (0 + (Int.toNat a1.Pin)) (⟨(r14.getD (0 + (Int.toNat a1.Pin)) (⟨0, 0, false, false, false, false, false⟩ : Api_Pin)).Core, (r14.getD (0 + (Int.toNat a1.Pin)) (⟨0, 0, false, false, false, false, false⟩ : Api_Pin)).Vec, (r14.getD (0 + (Int.toNat a1.Pin)) (⟨0, 0, false, false, false, false, false⟩ : Api_Pin)).Level, (r14.getD (0 + (Int.toNat a1.Pin)) (⟨0, 0, false, false, false, false, false⟩ : Api_Pin)).Masked, ((a1.Kind : Int) == 1), (r14.getD (0 + (Int.toNat a1.Pin)) (⟨0, 0, false, false, false, false, false⟩ : Api_Pin)).Kept, (r14.getD (0 + (Int.toNat a1.Pin)) (⟨0, 0, false, false, false, false, false⟩ : Api_Pin)).Sent⟩ : Api_Pin)).set (0 + (Int.toNat a1.Pin)) r23.2).getD (0 + (Int.toNat a1.Pin)) (⟨0, 0, false, false, false, false, false⟩ : Api_Pin)).Vec⟩ : Api_Sent)], 0)
            else
              some (((r14.set (0 + (Int.toNat a1.Pin)) (⟨(r14.getD (0 + (Int.toNat a1.Pin)) (⟨0, 0, false, false, false, false, false⟩ : Api_Pin)).Core, (r14.getD (0 + (Int.toNat a1.Pin)) (⟨0, 0, false, false, false, false, false⟩ : Api_Pin)).Vec, (r14.getD (0 + (Int.toNat a1.Pin)) (⟨0, 0, false, false, false, false, false⟩ : Api_Pin)).Level, (r14.getD (0 + (Int.toNat a1.Pin)) (⟨0, 0, false, false, false, false, false⟩ : Api_Pin)).Masked, ((a1.Kind : Int) == 1), (r14.getD (0 + (Int.toNat a1.Pin)) (⟨0, 0, false, false, false, false, false⟩ : Api_Pin)).Kept, (r14.getD (0 + (Int.toNat a1.Pin)) (⟨0, 0, false, false, false, false, false⟩ : Api_Pin)).Sent⟩ : Api_Pin)).set (0 + (Int.toNat a1.Pin)) r23.2), ([] : List Api_Sent), 0)
          else
            bif ((a1.Kind : Int) == 3) then
              bif ((a1.Kind : Int) == 3) then
                (line_fire ((r14.set (0 + (Int.toNat a1.Pin)) (⟨(r14.getD (0 + (Int.toNat a1.Pin)) (⟨0, 0, false, false, false, false, false⟩ : Api_Pin)).Core, (r14.getD (0 + (Int.toNat a1.Pin)) (⟨0, 0, false, false, false, false, false⟩ : Api_Pin)).Vec, (r14.getD (0 + (Int.toNat a1.Pin)) (⟨0, 0, false, false, false, false, false⟩ : Api_Pin)).Level, ((a1.Kind : Int) == 3), (r14.getD (0 + (Int.toNat a1.Pin)) (⟨0, 0, false, false, false, false, false⟩ : Api_Pin)).Up, (r14.getD (0 + (Int.toNat a1.Pin)) (⟨0, 0, false, false, false, false, false⟩ : Api_Pin)).Kept, (r14.getD (0 + (Int.toNat a1.Pin)) (⟨0, 0, false, false, false, false, false⟩ : Api_Pin)).Sent⟩ : Api_Pin)).getD (0 + (Int.toNat a1.Pin)) (⟨0, 0, false, false, false, false, false⟩ : Api_Pin)) (((a1.Kind : Int) == 1) && (!((r14.getD (0 + (Int.toNat a1.Pin)) (⟨0, 0, false, false, false, false, false⟩ : Api_Pin)).Up)))).bind fun r28 =>
                bif r28.1 then
                  some (((r14.set (0 + (Int.toNat a1.Pin)) (⟨(r14.getD (0 + (Int.toNat a1.Pin)) (⟨0, 0, false, false, false, false, false⟩ : Api_Pin)).Core, (r14.getD (0 + (Int.toNat a1.Pin)) (⟨0, 0, false, false, false, false, false⟩ : Api_Pin)).Vec, (r14.getD (0 + (Int.toNat a1.Pin)) (⟨0, 0, false, false, false, false, false⟩ : Api_Pin)).Level, ((a1.Kind : Int) == 3), (r14.getD (0 + (Int.toNat a1.Pin)) (⟨0, 0, false, false, false, false, false⟩ : Api_Pin)).Up, (r14.getD (0 + (Int.toNat a1.Pin)) (⟨0, 0, false, false, false, false, false⟩ : Api_Pin)).Kept, (r14.getD (0 + (Int.toNat a1.Pin)) (⟨0, 0, false, false, false, false, false⟩ : Api_Pin)).Sent⟩ : Api_Pin)).set (0 + (Int.toNat a1.Pin)) r28.2), [(⟨a1.Pin, (((r14.set (0 + (Int.toNat a1.Pin)) (⟨(r14.getD (0 + (Int.toNat a1.Pin)) (⟨0, 0, false, false, false, false, false⟩ : Api_Pin)).Core, (r14.getD (0 + (Int.toNat a1.Pin)) (⟨0, 0, false, false, false, false, false⟩ : Api_Pin)).Vec, (r14.getD (0 + (Int.toNat a1.Pin)) (⟨0, 0, false, false, false, false, false⟩ : Api_Pin)).Level, ((a1.Kind : Int) == 3), (r14.getD (0 + (Int.toNat a1.Pin)) (⟨0, 0, false, false, false, false, false⟩ : Api_Pin)).Up, (r14.getD (0 + (Int.toNat a1.Pin)) (⟨0, 0, false, false, false, false, false⟩ : Api_Pin)).Kept, (r14.getD (0 + (Int.toNat a1.Pin)) (⟨0, 0, false, false, false, false, false⟩ : Api_Pin)).Sent⟩ : Api_Pin)).set (0 + (Int.toNat a1.Pin)) r28.2).getD (0 + (Int.toNat a1.Pin)) (⟨0, 0, false, false, false, false, false⟩ : Api_Pin)).Core, (((r14.set (0 + (Int.toNat a1.Pin)) (⟨(r14.getD (0 + (Int.toNat a1.Pin)) (⟨0, 0, false, false, false, false, false⟩ : Api_Pin)).Core, (r14.getD (0 + (Int.toNat a1.Pin)) (⟨0, 0, false, false, false, false, false⟩ : Api_Pin)).Vec, (r14.getD (0 + (Int.toNat a1.Pin)) (⟨0, 0, false, false, false, false, false⟩ : Api_Pin)).Level, ((a1.Kind : Int) == 3), (r14.getD (0 + (Int.toNat a1.Pin)) (⟨0, 0, false, false, false, false, false⟩ : Api_Pin)).Up, (r14.getD (0 + (Int.toNat a1.Pin)) (⟨0, 0, false, false, false, false, false⟩ : Api_Pin)).Kept, (r14.getD (0 + (Int.toNat a1.Pin)) (⟨0, 0, false, false, false, false, false⟩ : Api_Pin)).Sent⟩ : Api_Pin)).set (0 + (Int.toNat a1.Pin)) r28.2).getD (0 + (Int.toNat a1.Pin)) (⟨0, 0, false, false, false, false, false⟩ : Api_Pin)).Vec⟩ : Api_Sent)], 0)
                else
                  some (((r14.set (0 + (Int.toNat a1.Pin)) (⟨(r14.getD (0 + (Int.toNat a1.Pin)) (⟨0, 0, false, false, false, false, false⟩ : Api_Pin)).Core, (r14.getD (0 + (Int.toNat a1.Pin)) (⟨0, 0, false, false, false, false, false⟩ : Api_Pin)).Vec, (r14.getD (0 + (Int.toNat a1.Pin)) (⟨0, 0, false, false, false, false, false⟩ : Api_Pin)).Level, ((a1.Kind : Int) == 3), (r14.getD (0 + (Int.toNat a1.Pin)) (⟨0, 0, false, false, false, false, false⟩ : Api_Pin)).Up, (r14.getD (0 + (Int.toNat a1.Pin)) (⟨0, 0, false, false, false, false, false⟩ : Api_Pin)).Kept, (r14.getD (0 + (Int.toNat a1.Pin)) (⟨0, 0, false, false, false, false, false⟩ : Api_Pin)).Sent⟩ : Api_Pin)).set (0 + (Int.toNat a1.Pin)) r28.2), ([] : List Api_Sent), 0)
              else
                bif ((a1.Kind : Int) == 5) then
                  (line_fire ((r14.set (0 + (Int.toNat a1.Pin)) (⟨(r14.getD (0 + (Int.toNat a1.Pin)) (⟨0, 0, false, false, false, false, false⟩ : Api_Pin)).Core, (r14.getD (0 + (Int.toNat a1.Pin)) (⟨0, 0, false, false, false, false, false⟩ : Api_Pin)).Vec, (r14.getD (0 + (Int.toNat a1.Pin)) (⟨0, 0, false, false, false, false, false⟩ : Api_Pin)).Level, (r14.getD (0 + (Int.toNat a1.Pin)) (⟨0, 0, false, false, false, false, false⟩ : Api_Pin)).Masked, (r14.getD (0 + (Int.toNat a1.Pin)) (⟨0, 0, false, false, false, false, false⟩ : Api_Pin)).Up, (r14.getD (0 + (Int.toNat a1.Pin)) (⟨0, 0, false, false, false, false, false⟩ : Api_Pin)).Kept, false⟩ : Api_Pin)).getD (0 + (Int.toNat a1.Pin)) (⟨0, 0, false, false, false, false, false⟩ : Api_Pin)) (((a1.Kind : Int) == 1) && (!((r14.getD (0 + (Int.toNat a1.Pin)) (⟨0, 0, false, false, false, false, false⟩ : Api_Pin)).Up)))).bind fun r32 =>
                  bif r32.1 then
                    some (((r14.set (0 + (Int.toNat a1.Pin)) (⟨(r14.getD (0 + (Int.toNat a1.Pin)) (⟨0, 0, false, false, false, false, false⟩ : Api_Pin)).Core, (r14.getD (0 + (Int.toNat a1.Pin)) (⟨0, 0, false, false, false, false, false⟩ : Api_Pin)).Vec, (r14.getD (0 + (Int.toNat a1.Pin)) (⟨0, 0, false, false, false, false, false⟩ : Api_Pin)).Level, (r14.getD (0 + (Int.toNat a1.Pin)) (⟨0, 0, false, false, false, false, false⟩ : Api_Pin)).Masked, (r14.getD (0 + (Int.toNat a1.Pin)) (⟨0, 0, false, false, false, false, false⟩ : Api_Pin)).Up, (r14.getD (0 + (Int.toNat a1.Pin)) (⟨0, 0, false, false, false, false, false⟩ : Api_Pin)).Kept, false⟩ : Api_Pin)).set (0 + (Int.toNat a1.Pin)) r32.2), [(⟨a1.Pin, (((r14.set (0 + (Int.toNat a1.Pin)) (⟨(r14.getD (0 + (Int.toNat a1.Pin)) (⟨0, 0, false, false, false, false, false⟩ : Api_Pin)).Core, (r14.getD (0 + (Int.toNat a1.Pin)) (⟨0, 0, false, false, false, false, false⟩ : Api_Pin)).Vec, (r14.getD (0 + (Int.toNat a1.Pin)) (⟨0, 0, false, false, false, false, false⟩ : Api_Pin)).Level, (r14.getD (0 + (Int.toNat a1.Pin)) (⟨0, 0, false, false, false, false, false⟩ : Api_Pin)).Masked, (r14.getD (0 + (Int.toNat a1.Pin)) (⟨0, 0, false, false, false, false, false⟩ : Api_Pin)).Up, (r14.getD (0 + (Int.toNat a1.Pin)) (⟨0, 0, false, false, false, false, false⟩ : Api_Pin)).Kept, false⟩ : Api_Pin)).set (0 + (Int.toNat a1.Pin)) r32.2).getD (0 + (Int.toNat a1.Pin)) (⟨0, 0, false, false, false, false, false⟩ : Api_Pin)).Core, (((r14.set (0 + (Int.toNat a1.Pin)) (⟨(r14.getD (0 + (Int.toNat a1.Pin)) (⟨0, 0, false, false, false, false, false⟩ : Api_Pin)).Core, (r14.getD (0 + (Int.toNat a1.Pin)) (⟨0, 0, false, false, false, false, false⟩ : Api_Pin)).Vec, (r14.getD (0 + (Int.toNat a1.Pin)) (⟨0, 0, false, false, false, false, false⟩ : Api_Pin)).Level, (r14.getD (0 + (Int.toNat a1.Pin)) (⟨0, 0, false, false, false, false, false⟩ : Api_Pin)).Masked, (r14.getD (0 + (Int.toNat a1.Pin)) (⟨0, 0, false, false, false, false, false⟩ : Api_Pin)).Up, (r14.getD (0 + (Int.toNat a1.Pin)) (⟨0, 0, false, false, false, false, false⟩ : Api_Pin)).Kept, false⟩ : Api_Pin)).set (0 + (Int.toNat a1.Pin)) r32.2).getD (0 + (Int.toNat a1.Pin)) (⟨0, 0, false, false, false, false, false⟩ : Api_Pin)).Vec⟩ : Api_Sent)], 0)
                  else
                    some (((r14.set (0 + (Int.toNat a1.Pin)) (⟨(r14.getD (0 + (Int.toNat a1.Pin)) (⟨0, 0, false, false, false, false, false⟩ : Api_Pin)).Core, (r14.getD (0 + (Int.toNat a1.Pin)) (⟨0, 0, false, false, false, false, false⟩ : Api_Pin)).Vec, (r14.getD (0 + (Int.toNat a1.Pin)) (⟨0, 0, false, false, false, false, false⟩ : Api_Pin)).Level, (r14.getD (0 + (Int.toNat a1.Pin)) (⟨0, 0, false, false, false, false, false⟩ : Api_Pin)).Masked, (r14.getD (0 + (Int.toNat a1.Pin)) (⟨0, 0, false, false, false, false, false⟩ : Api_Pin)).Up, (r14.getD (0 + (Int.toNat a1.Pin)) (⟨0, 0, false, false, false, false, false⟩ : Api_Pin)).Kept, false⟩ : Api_Pin)).set (0 + (Int.toNat a1.Pin)) r32.2), ([] : List Api_Sent), 0)
                else
                  (line_fire (r14.getD (0 + (Int.toNat a1.Pin)) (⟨0, 0, false, false, false, false, false⟩ : Api_Pin)) (((a1.Kind : Int) == 1) && (!((r14.getD (0 + (Int.toNat a1.Pin)) (⟨0, 0, false, false, false, false, false⟩ : Api_Pin)).Up)))).bind fun r35 =>
                  bif r35.1 then
                    some ((r14.set (0 + (Int.toNat a1.Pin)) r35.2), [(⟨a1.Pin, ((r14.set (0 + (Int.toNat a1.Pin)) r35.2).getD (0 + (Int.toNat a1.Pin)) (⟨0, 0, false, false, false, false, false⟩ : Api_Pin)).Core, ((r14.set (0 + (Int.toNat a1.Pin)) r35.2).getD (0 + (Int.toNat a1.Pin)) (⟨0, 0, false, false, false, false, false⟩ : Api_Pin)).Vec⟩ : Api_Sent)], 0)
                  else
                    some ((r14.set (0 + (Int.toNat a1.Pin)) r35.2), ([] : List Api_Sent), 0)
            else
              bif ((a1.Kind : Int) == 4) then
                (line_fire ((r14.set (0 + (Int.toNat a1.Pin)) (⟨(r14.getD (0 + (Int.toNat a1.Pin)) (⟨0, 0, false, false, false, false, false⟩ : Api_Pin)).Core, (r14.getD (0 + (Int.toNat a1.Pin)) (⟨0, 0, false, false, false, false, false⟩ : Api_Pin)).Vec, (r14.getD (0 + (Int.toNat a1.Pin)) (⟨0, 0, false, false, false, false, false⟩ : Api_Pin)).Level, ((a1.Kind : Int) == 3), (r14.getD (0 + (Int.toNat a1.Pin)) (⟨0, 0, false, false, false, false, false⟩ : Api_Pin)).Up, (r14.getD (0 + (Int.toNat a1.Pin)) (⟨0, 0, false, false, false, false, false⟩ : Api_Pin)).Kept, (r14.getD (0 + (Int.toNat a1.Pin)) (⟨0, 0, false, false, false, false, false⟩ : Api_Pin)).Sent⟩ : Api_Pin)).getD (0 + (Int.toNat a1.Pin)) (⟨0, 0, false, false, false, false, false⟩ : Api_Pin)) (((a1.Kind : Int) == 1) && (!((r14.getD (0 + (Int.toNat a1.Pin)) (⟨0, 0, false, false, false, false, false⟩ : Api_Pin)).Up)))).bind fun r39 =>
                bif r39.1 then
                  some (((r14.set (0 + (Int.toNat a1.Pin)) (⟨(r14.getD (0 + (Int.toNat a1.Pin)) (⟨0, 0, false, false, false, false, false⟩ : Api_Pin)).Core, (r14.getD (0 + (Int.toNat a1.Pin)) (⟨0, 0, false, false, false, false, false⟩ : Api_Pin)).Vec, (r14.getD (0 + (Int.toNat a1.Pin)) (⟨0, 0, false, false, false, false, false⟩ : Api_Pin)).Level, ((a1.Kind : Int) == 3), (r14.getD (0 + (Int.toNat a1.Pin)) (⟨0, 0, false, false, false, false, false⟩ : Api_Pin)).Up, (r14.getD (0 + (Int.toNat a1.Pin)) (⟨0, 0, false, false, false, false, false⟩ : Api_Pin)).Kept, (r14.getD (0 + (Int.toNat a1.Pin)) (⟨0, 0, false, false, false, false, false⟩ : Api_Pin)).Sent⟩ : Api_Pin)).set (0 + (Int.toNat a1.Pin)) r39.2), [(⟨a1.Pin, (((r14.set (0 + (Int.toNat a1.Pin)) (⟨(r14.getD (0 + (Int.toNat a1.Pin)) (⟨0, 0, false, false, false, false, false⟩ : Api_Pin)).Core, (r14.getD (0 + (Int.toNat a1.Pin)) (⟨0, 0, false, false, false, false, false⟩ : Api_Pin)).Vec, (r14.getD (0 + (Int.toNat a1.Pin)) (⟨0, 0, false, false, false, false, false⟩ : Api_Pin)).Level, ((a1.Kind : Int) == 3), (r14.getD (0 + (Int.toNat a1.Pin)) (⟨0, 0, false, false, false, false, false⟩ : Api_Pin)).Up, (r14.getD (0 + (Int.toNat a1.Pin)) (⟨0, 0, false, false, false, false, false⟩ : Api_Pin)).Kept, (r14.getD (0 + (Int.toNat a1.Pin)) (⟨0, 0, false, false, false, false, false⟩ : Api_Pin)).Sent⟩ : Api_Pin)).set (0 + (Int.toNat a1.Pin)) r39.2).getD (0 + (Int.toNat a1.Pin)) (⟨0, 0, false, false, false, false, false⟩ : Api_Pin)).Core, (((r14.set (0 + (Int.toNat a1.Pin)) (⟨(r14.getD (0 + (Int.toNat a1.Pin)) (⟨0, 0, false, false, false, false, false⟩ : Api_Pin)).Core, (r14.getD (0 + (Int.toNat a1.Pin)) (⟨0, 0, false, false, false, false, false⟩ : Api_Pin)).Vec, (r14.getD (0 + (Int.toNat a1.Pin)) (⟨0, 0, false, false, false, false, false⟩ : Api_Pin)).Level, ((a1.Kind : Int) == 3), (r14.getD (0 + (Int.toNat a1.Pin)) (⟨0, 0, false, false, false, false, false⟩ : Api_Pin)).Up, (r14.getD (0 + (Int.toNat a1.Pin)) (⟨0, 0, false, false, false, false, false⟩ : Api_Pin)).Kept, (r14.getD (0 + (Int.toNat a1.Pin)) (⟨0, 0, false, false, false, false, false⟩ : Api_Pin)).Sent⟩ : Api_Pin)).set (0 + (Int.toNat a1.Pin)) r39.2).getD (0 + (Int.toNat a1.Pin)) (⟨0, 0, false, false, false, false, false⟩ : Api_Pin)).Vec⟩ : Api_Sent)], 0)
                else
                  some (((r14.set (0 + (Int.toNat a1.Pin)) (⟨(r14.getD (0 + (Int.toNat a1.Pin)) (⟨0, 0, false, false, false, false, false⟩ : Api_Pin)).Core, (r14.getD (0 + (Int.toNat a1.Pin)) (⟨0, 0, false, false, false, false, false⟩ : Api_Pin)).Vec, (r14.getD (0 + (Int.toNat a1.Pin)) (⟨0, 0, false, false, false, false, false⟩ : Api_Pin)).Level, ((a1.Kind : Int) == 3), (r14.getD (0 + (Int.toNat a1.Pin)) (⟨0, 0, false, false, false, false, false⟩ : Api_Pin)).Up, (r14.getD (0 + (Int.toNat a1.Pin)) (⟨0, 0, false, false, false, false, false⟩ : Api_Pin)).Kept, (r14.getD (0 + (Int.toNat a1.Pin)) (⟨0, 0, false, false, false, false, false⟩ : Api_Pin)).Sent⟩ : Api_Pin)).set (0 + (Int.toNat a1.Pin)) r39.2), ([] : List Api_Sent), 0)
              else
                bif ((a1.Kind : Int) == 5) then
                  (line_fire ((r14.set (0 + (Int.toNat a1.Pin)) (⟨(r14.getD (0 + (Int.toNat a1.Pin)) (⟨0, 0, false, false, false, false, false⟩ : Api_Pin)).Core, (r14.getD (0 + (Int.toNat a1.Pin)) (⟨0, 0, false, false, false, false, false⟩ : Api_Pin)).Vec, (r14.getD (0 + (Int.toNat a1.Pin)) (⟨0, 0, false, false, false, false, false⟩ : Api_Pin)).Level, (r14.getD (0 + (Int.toNat a1.Pin)) (⟨0, 0, false, false, false, false, false⟩ : Api_Pin)).Masked, (r14.getD (0 + (Int.toNat a1.Pin)) (⟨0, 0, false, false, false, false, false⟩ : Api_Pin)).Up, (r14.getD (0 + (Int.toNat a1.Pin)) (⟨0, 0, false, false, false, false, false⟩ : Api_Pin)).Kept, false⟩ : Api_Pin)).getD (0 + (Int.toNat a1.Pin)) (⟨0, 0, false, false, false, false, false⟩ : Api_Pin)) (((a1.Kind : Int) == 1) && (!((r14.getD (0 + (Int.toNat a1.Pin)) (⟨0, 0, false, false, false, false, false⟩ : Api_Pin)).Up)))).bind fun r43 =>
                  bif r43.1 then
                    some (((r14.set (0 + (Int.toNat a1.Pin)) (⟨(r14.getD (0 + (Int.toNat a1.Pin)) (⟨0, 0, false, false, false, false, false⟩ : Api_Pin)).Core, (r14.getD (0 + (Int.toNat a1.Pin)) (⟨0, 0, false, false, false, false, false⟩ : Api_Pin)).Vec, (r14.getD (0 + (Int.toNat a1.Pin)) (⟨0, 0, false, false, false, false, false⟩ : Api_Pin)).Level, (r14.getD (0 + (Int.toNat a1.Pin)) (⟨0, 0, false, false, false, false, false⟩ : Api_Pin)).Masked, (r14.getD (0 + (Int.toNat a1.Pin)) (⟨0, 0, false, false, false, false, false⟩ : Api_Pin)).Up, (r14.getD (0 + (Int.toNat a1.Pin)) (⟨0, 0, false, false, false, false, false⟩ : Api_Pin)).Kept, false⟩ : Api_Pin)).set (0 + (Int.toNat a1.Pin)) r43.2), [(⟨a1.Pin, (((r14.set (0 + (Int.toNat a1.Pin)) (⟨(r14.getD (0 + (Int.toNat a1.Pin)) (⟨0, 0, false, false, false, false, false⟩ : Api_Pin)).Core, (r14.getD (0 + (Int.toNat a1.Pin)) (⟨0, 0, false, false, false, false, false⟩ : Api_Pin)).Vec, (r14.getD (0 + (Int.toNat a1.Pin)) (⟨0, 0, false, false, false, false, false⟩ : Api_Pin)).Level, (r14.getD (0 + (Int.toNat a1.Pin)) (⟨0, 0, false, false, false, false, false⟩ : Api_Pin)).Masked, (r14.getD (0 + (Int.toNat a1.Pin)) (⟨0, 0, false, false, false, false, false⟩ : Api_Pin)).Up, (r14.getD (0 + (Int.toNat a1.Pin)) (⟨0, 0, false, false, false, false, false⟩ : Api_Pin)).Kept, false⟩ : Api_Pin)).set (0 + (Int.toNat a1.Pin)) r43.2).getD (0 + (Int.toNat a1.Pin)) (⟨0, 0, false, false, false, false, false⟩ : Api_Pin)).Core, (((r14.set (0 + (Int.toNat a1.Pin)) (⟨(r14.getD (0 + (Int.toNat a1.Pin)) (⟨0, 0, false, false, false, false, false⟩ : Api_Pin)).Core, (r14.getD (0 + (Int.toNat a1.Pin)) (⟨0, 0, false, false, false, false, false⟩ : Api_Pin)).Vec, (r14.getD (0 + (Int.toNat a1.Pin)) (⟨0, 0, false, false, false, false, false⟩ : Api_Pin)).Level, (r14.getD (0 + (Int.toNat a1.Pin)) (⟨0, 0, false, false, false, false, false⟩ : Api_Pin)).Masked, (r14.getD (0 + (Int.toNat a1.Pin)) (⟨0, 0, false, false, false, false, false⟩ : Api_Pin)).Up, (r14.getD (0 + (Int.toNat a1.Pin)) (⟨0, 0, false, false, false, false, false⟩ : Api_Pin)).Kept, false⟩ : Api_Pin)).set (0 + (Int.toNat a1.Pin)) r43.2).getD (0 + (Int.toNat a1.Pin)) (⟨0, 0, false, false, false, false, false⟩ : Api_Pin)).Vec⟩ : Api_Sent)], 0)
                  else
                    some (((r14.set (0 + (Int.toNat a1.Pin)) (⟨(r14.getD (0 + (Int.toNat a1.Pin)) (⟨0, 0, false, false, false, false, false⟩ : Api_Pin)).Core, (r14.getD (0 + (Int.toNat a1.Pin)) (⟨0, 0, false, false, false, false, false⟩ : Api_Pin)).Vec, (r14.getD (0 + (Int.toNat a1.Pin)) (⟨0, 0, false, false, false, false, false⟩ : Api_Pin)).Level, (r14.getD (0 + (Int.toNat a1.Pin)) (⟨0, 0, false, false, false, false, false⟩ : Api_Pin)).Masked, (r14.getD (0 + (Int.toNat a1.Pin)) (⟨0, 0, false, false, false, false, false⟩ : Api_Pin)).Up, (r14.getD (0 + (Int.toNat a1.Pin)) (⟨0, 0, false, false, false, false, false⟩ : Api_Pin)).Kept, false⟩ : Api_Pin)).set (0 + (Int.toNat a1.Pin)) r43.2), ([] : List Api_Sent), 0)
                else
                  (line_fire (r14.getD (0 + (Int.toNat a1.Pin)) (⟨0, 0, false, false, false, false, false⟩ : Api_Pin)) (((a1.Kind : Int) == 1) && (!((r14.getD (0 + (Int.toNat a1.Pin)) (⟨0, 0, false, false, false, false, false⟩ : Api_Pin)).Up)))).bind fun r46 =>
                  bif r46.1 then
                    some ((r14.set (0 + (Int.toNat a1.Pin)) r46.2), [(⟨a1.Pin, ((r14.set (0 + (Int.toNat a1.Pin)) r46.2).getD (0 + (Int.toNat a1.Pin)) (⟨0, 0, false, false, false, false, false⟩ : Api_Pin)).Core, ((r14.set (0 + (Int.toNat a1.Pin)) r46.2).getD (0 + (Int.toNat a1.Pin)) (⟨0, 0, false, false, false, false, false⟩ : Api_Pin)).Vec⟩ : Api_Sent)], 0)
                  else
                    some ((r14.set (0 + (Int.toNat a1.Pin)) r46.2), ([] : List Api_Sent), 0)
        else
          bif ((a1.Kind : Int) == 2) then
            (line_fire ((r14.set (0 + (Int.toNat a1.Pin)) (⟨(r14.getD (0 + (Int.toNat a1.Pin)) (⟨0, 0, false, false, false, false, false⟩ : Api_Pin)).Core, (r14.getD (0 + (Int.toNat a1.Pin)) (⟨0, 0, false, false, false, false, false⟩ : Api_Pin)).Vec, (r14.getD (0 + (Int.toNat a1.Pin)) (⟨0, 0, false, false, false, false, false⟩ : Api_Pin)).Level, (r14.getD (0 + (Int.toNat a1.Pin)) (⟨0, 0, false, false, false, false, false⟩ : Api_Pin)).Masked, ((a1.Kind : Int) == 1), (r14.getD (0 + (Int.toNat a1.Pin)) (⟨0, 0, false, false, false, false, false⟩ : Api_Pin)).Kept, (r14.getD (0 + (Int.toNat a1.Pin)) (⟨0, 0, false, false, false, false, false⟩ : Api_Pin)).Sent⟩ : Api_Pin)).getD (0 + (Int.toNat a1.Pin)) (⟨0, 0, false, false, false, false, false⟩ : Api_Pin)) (((a1.Kind : Int) == 1) && (!((r14.getD (0 + (Int.toNat a1.Pin)) (⟨0, 0, false, false, false, false, false⟩ : Api_Pin)).Up)))).bind fun r50 =>
            bif r50.1 then
              some (((r14.set (0 + (Int.toNat a1.Pin)) (⟨(r14.getD (0 + (Int.toNat a1.Pin)) (⟨0, 0, false, false, false, false, false⟩ : Api_Pin)).Core, (r14.getD (0 + (Int.toNat a1.Pin)) (⟨0, 0, false, false, false, false, false⟩ : Api_Pin)).Vec, (r14.getD (0 + (Int.toNat a1.Pin)) (⟨0, 0, false, false, false, false, false⟩ : Api_Pin)).Level, (r14.getD (0 + (Int.toNat a1.Pin)) (⟨0, 0, false, false, false, false, false⟩ : Api_Pin)).Masked, ((a1.Kind : Int) == 1), (r14.getD (0 + (Int.toNat a1.Pin)) (⟨0, 0, false, false, false, false, false⟩ : Api_Pin)).Kept, (r14.getD (0 + (Int.toNat a1.Pin)) (⟨0, 0, false, false, false, false, false⟩ : Api_Pin)).Sent⟩ : Api_Pin)).set (0 + (Int.toNat a1.Pin)) r50.2), [(⟨a1.Pin, (((r14.set (0 + (Int.toNat a1.Pin)) (⟨(r14.getD (0 + (Int.toNat a1.Pin)) (⟨0, 0, false, false, false, false, false⟩ : Api_Pin)).Core, (r14.getD (0 + (Int.toNat a1.Pin)) (⟨0, 0, false, false, false, false, false⟩ : Api_Pin)).Vec, (r14.getD (0 + (Int.toNat a1.Pin)) (⟨0, 0, false, false, false, false, false⟩ : Api_Pin)).Level, (r14.getD (0 + (Int.toNat a1.Pin)) (⟨0, 0, false, false, false, false, false⟩ : Api_Pin)).Masked, ((a1.Kind : Int) == 1), (r14.getD (0 + (Int.toNat a1.Pin)) (⟨0, 0, false, false, false, false, false⟩ : Api_Pin)).Kept, (r14.getD (0 + (Int.toNat a1.Pin)) (⟨0, 0, false, false, false, false, false⟩ : Api_Pin)).Sent⟩ : Api_Pin)).set (0 + (Int.toNat a1.Pin)) r50.2).getD (0 + (Int.toNat a1.Pin)) (⟨0, 0, false, false, false, false, false⟩ : Api_Pin)).Core, (((r14.set (0 + (Int.toNat a1.Pin)) (⟨(r14.getD (0 + (Int.toNat a1.Pin)) (⟨0, 0, false, false, false, false, false⟩ : Api_Pin)).Core, (r14.getD (0 + (Int.toNat a1.Pin)) (⟨0, 0, false, false, false, false, false⟩ : Api_Pin)).Vec, (r14.getD (0 + (Int.toNat a1.Pin)) (⟨0, 0, false, false, false, false, false⟩ : Api_Pin)).Level, (r14.getD (0 + (Int.toNat a1.Pin)) (⟨0, 0, false, false, false, false, false⟩ : Api_Pin)).Masked, ((a1.Kind : Int) == 1), (r14.getD (0 + (Int.toNat a1.Pin)) (⟨0, 0, false, false, false, false, false⟩ : Api_Pin)).Kept, (r14.getD (0 + (Int.toNat a1.Pin)) (⟨0, 0, false, false, false, false, false⟩ : Api_Pin)).Sent⟩ : Api_Pin)).set (0 + (Int.toNat a1.Pin)) r50.2).getD (0 + (Int.toNat a1.Pin)) (⟨0, 0, false, false, false, false, false⟩ : Api_Pin)).Vec⟩ : Api_Sent)], 0)
            else
              some (((r14.set (0 + (Int.toNat a1.Pin)) (⟨(r14.getD (0 + (Int.toNat a1.Pin)) (⟨0, 0, false, false, false, false, false⟩ : Api_Pin)).Core, (r14.getD (0 + (Int.toNat a1.Pin)) (⟨0, 0, false, false, false, false, false⟩ : Api_Pin)).Vec, (r14.getD (0 + (Int.toNat a1.Pin)) (⟨0, 0, false, false, false, false, false⟩ : Api_Pin)).Level, (r14.getD (0 + (Int.toNat a1.Pin)) (⟨0, 0, false, false, false, false, false⟩ : Api_Pin)).Masked, ((a1.Kind : Int) == 1), (r14.getD (0 + (Int.toNat a1.Pin)) (⟨0, 0, false, false, false, false, false⟩ : Api_Pin)).Kept, (r14.getD (0 + (Int.toNat a1.Pin)) (⟨0, 0, false, false, false, false, false⟩ : Api_Pin)).Sent⟩ : Api_Pin)).set (0 + (Int.toNat a1.Pin)) r50.2), ([] : List Api_Sent), 0)
          else
            bif ((a1.Kind : Int) == 3) then
              bif ((a1.Kind : Int) == 3) then
                (line_fire ((r14.set (0 + (Int.toNat a1.Pin)) (⟨(r14.getD (0 + (Int.toNat a1.Pin)) (⟨0, 0, false, false, false, false, false⟩ : Api_Pin)).Core, (r14.getD (0 + (Int.toNat a1.Pin)) (⟨0, 0, false, false, false, false, false⟩ : Api_Pin)).Vec, (r14.getD (0 + (Int.toNat a1.Pin)) (⟨0, 0, false, false, false, false, false⟩ : Api_Pin)).Level, ((a1.Kind : Int) == 3), (r14.getD (0 + (Int.toNat a1.Pin)) (⟨0, 0, false, false, false, false, false⟩ : Api_Pin)).Up, (r14.getD (0 + (Int.toNat a1.Pin)) (⟨0, 0, false, false, false, false, false⟩ : Api_Pin)).Kept, (r14.getD (0 + (Int.toNat a1.Pin)) (⟨0, 0, false, false, false, false, false⟩ : Api_Pin)).Sent⟩ : Api_Pin)).getD (0 + (Int.toNat a1.Pin)) (⟨0, 0, false, false, false, false, false⟩ : Api_Pin)) (((a1.Kind : Int) == 1) && (!((r14.getD (0 + (Int.toNat a1.Pin)) (⟨0, 0, false, false, false, false, false⟩ : Api_Pin)).Up)))).bind fun r55 =>
                bif r55.1 then
                  some (((r14.set (0 + (Int.toNat a1.Pin)) (⟨(r14.getD (0 + (Int.toNat a1.Pin)) (⟨0, 0, false, false, false, false, false⟩ : Api_Pin)).Core, (r14.getD (0 + (Int.toNat a1.Pin)) (⟨0, 0, false, false, false, false, false⟩ : Api_Pin)).Vec, (r14.getD (0 + (Int.toNat a1.Pin)) (⟨0, 0, false, false, false, false, false⟩ : Api_Pin)).Level, ((a1.Kind : Int) == 3), (r14.getD (0 + (Int.toNat a1.Pin)) (⟨0, 0, false, false, false, false, false⟩ : Api_Pin)).Up, (r14.getD (0 + (Int.toNat a1.Pin)) (⟨0, 0, false, false, false, false, false⟩ : Api_Pin)).Kept, (r14.getD (0 + (Int.toNat a1.Pin)) (⟨0, 0, false, false, false, false, false⟩ : Api_Pin)).Sent⟩ : Api_Pin)).set (0 + (Int.toNat a1.Pin)) r55.2), [(⟨a1.Pin, (((r14.set (0 + (Int.toNat a1.Pin)) (⟨(r14.getD (0 + (Int.toNat a1.Pin)) (⟨0, 0, false, false, false, false, false⟩ : Api_Pin)).Core, (r14.getD (0 + (Int.toNat a1.Pin)) (⟨0, 0, false, false, false, false, false⟩ : Api_Pin)).Vec, (r14.getD (0 + (Int.toNat a1.Pin)) (⟨0, 0, false, false, false, false, false⟩ : Api_Pin)).Level, ((a1.Kind : Int) == 3), (r14.getD (0 + (Int.toNat a1.Pin)) (⟨0, 0, false, false, false, false, false⟩ : Api_Pin)).Up, (r14.getD (0 + (Int.toNat a1.Pin)) (⟨0, 0, false, false, false, false, false⟩ : Api_Pin)).Kept, (r14.getD (0 + (Int.toNat a1.Pin)) (⟨0, 0, false, false, false, false, false⟩ : Api_Pin)).Sent⟩ : Api_Pin)).set (0 + (Int.toNat a1.Pin)) r55.2).getD (0 + (Int.toNat a1.Pin)) (⟨0, 0, false, false, false, false, false⟩ : Api_Pin)).Core, (((r14.set (0 + (Int.toNat a1.Pin)) (⟨(r14.getD (0 + (Int.toNat a1.Pin)) (⟨0, 0, false, false, false, false, false⟩ : Api_Pin)).Core, (r14.getD (0 + (Int.toNat a1.Pin)) (⟨0, 0, false, false, false, false, false⟩ : Api_Pin)).Vec, (r14.getD (0 + (Int.toNat a1.Pin)) (⟨0, 0, false, false, false, false, false⟩ : Api_Pin)).Level, ((a1.Kind : Int) == 3), (r14.getD (0 + (Int.toNat a1.Pin)) (⟨0, 0, false, false, false, false, false⟩ : Api_Pin)).Up, (r14.getD (0 + (Int.toNat a1.Pin)) (⟨0, 0, false, false, false, false, false⟩ : Api_Pin)).Kept, (r14.getD (0 + (Int.toNat a1.Pin)) (⟨0, 0, false, false, false, false, false⟩ : Api_Pin)).Sent⟩ : Api_Pin)).set (0 + (Int.toNat a1.Pin)) r55.2).getD (0 + (Int.toNat a1.Pin)) (⟨0, 0, false, false, false, false, false⟩ : Api_Pin)).Vec⟩ : Api_Sent)], 0)
                else
                  some (((r14.set (0 + (Int.toNat a1.Pin)) (⟨(r14.getD (0 + (Int.toNat a1.Pin)) (⟨0, 0, false, false, false, false, false⟩ : Api_Pin)).Core, (r14.getD (0 + (Int.toNat a1.Pin)) (⟨0, 0, false, false, false, false, false⟩ : Api_Pin)).Vec, (r14.getD (0 + (Int.toNat a1.Pin)) (⟨0, 0, false, false, false, false, false⟩ : Api_Pin)).Level, ((a1.Kind : Int) == 3), (r14.getD (0 + (Int.toNat a1.Pin)) (⟨0, 0, false, false, false, false, false⟩ : Api_Pin)).Up, (r14.getD (0 + (Int.toNat a1.Pin)) (⟨0, 0, false, false, false, false, false⟩ : Api_Pin)).Kept, (r14.getD (0 + (Int.toNat a1.Pin)) (⟨0, 0, false, false, false, false, false⟩ : Api_Pin)).Sent⟩ : Api_Pin)).set (0 + (Int.toNat a1.Pin)) r55.2), ([] : List Api_Sent), 0)
              else
                bif ((a1.Kind : Int) == 5) then
                  (line_fire ((r14.set (0 + (Int.toNat a1.Pin)) (⟨(r14.getD (0 + (Int.toNat a1.Pin)) (⟨0, 0, false, false, false, false, false⟩ : Api_Pin)).Core, (r14.getD (0 + (Int.toNat a1.Pin)) (⟨0, 0, false, false, false, false, false⟩ : Api_Pin)).Vec, (r14.getD (0 + (Int.toNat a1.Pin)) (⟨0, 0, false, false, false, false, false⟩ : Api_Pin)).Level, (r14.getD (0 + (Int.toNat a1.Pin)) (⟨0, 0, false, false, false, false, false⟩ : Api_Pin)).Masked, (r14.getD (0 + (Int.toNat a1.Pin)) (⟨0, 0, false, false, false, false, false⟩ : Api_Pin)).Up, (r14.getD (0 + (Int.toNat a1.Pin)) (⟨0, 0, false, false, false, false, false⟩ : Api_Pin)).Kept, false⟩ : Api_Pin)).getD (0 + (Int.toNat a1.Pin)) (⟨0, 0, false, false, false, false, false⟩ : Api_Pin)) (((a1.Kind : Int) == 1) && (!((r14.getD (0 + (Int.toNat a1.Pin)) (⟨0, 0, false, false, false, false, false⟩ : Api_Pin)).Up)))).bind fun r59 =>
                  bif r59.1 then
                    some (((r14.set (0 + (Int.toNat a1.Pin)) (⟨(r14.getD (0 + (Int.toNat a1.Pin)) (⟨0, 0, false, false, false, false, false⟩ : Api_Pin)).Core, (r14.getD (0 + (Int.toNat a1.Pin)) (⟨0, 0, false, false, false, false, false⟩ : Api_Pin)).Vec, (r14.getD (0 + (Int.toNat a1.Pin)) (⟨0, 0, false, false, false, false, false⟩ : Api_Pin)).Level, (r14.getD (0 + (Int.toNat a1.Pin)) (⟨0, 0, false, false, false, false, false⟩ : Api_Pin)).Masked, (r14.getD (0 + (Int.toNat a1.Pin)) (⟨0, 0, false, false, false, false, false⟩ : Api_Pin)).Up, (r14.getD (0 + (Int.toNat a1.Pin)) (⟨0, 0, false, false, false, false, false⟩ : Api_Pin)).Kept, false⟩ : Api_Pin)).set (0 + (Int.toNat a1.Pin)) r59.2), [(⟨a1.Pin, (((r14.set (0 + (Int.toNat a1.Pin)) (⟨(r14.getD (0 + (Int.toNat a1.Pin)) (⟨0, 0, false, false, false, false, false⟩ : Api_Pin)).Core, (r14.getD (0 + (Int.toNat a1.Pin)) (⟨0, 0, false, false, false, false, false⟩ : Api_Pin)).Vec, (r14.getD (0 + (Int.toNat a1.Pin)) (⟨0, 0, false, false, false, false, false⟩ : Api_Pin)).Level, (r14.getD (0 + (Int.toNat a1.Pin)) (⟨0, 0, false, false, false, false, false⟩ : Api_Pin)).Masked, (r14.getD (0 + (Int.toNat a1.Pin)) (⟨0, 0, false, false, false, false, false⟩ : Api_Pin)).Up, (r14.getD (0 + (Int.toNat a1.Pin)) (⟨0, 0, false, false, false, false, false⟩ : Api_Pin)).Kept, false⟩ : Api_Pin)).set (0 + (Int.toNat a1.Pin)) r59.2).getD (0 + (Int.toNat a1.Pin)) (⟨0, 0, false, false, false, false, false⟩ : Api_Pin)).Core, (((r14.set (0 + (Int.toNat a1.Pin)) (⟨(r14.getD (0 + (Int.toNat a1.Pin)) (⟨0, 0, false, false, false, false, false⟩ : Api_Pin)).Core, (r14.getD (0 + (Int.toNat a1.Pin)) (⟨0, 0, false, false, false, false, false⟩ : Api_Pin)).Vec, (r14.getD (0 + (Int.toNat a1.Pin)) (⟨0, 0, false, false, false, false, false⟩ : Api_Pin)).Level, (r14.getD (0 + (Int.toNat a1.Pin)) (⟨0, 0, false, false, false, false, false⟩ : Api_Pin)).Masked, (r14.getD (0 + (Int.toNat a1.Pin)) (⟨0, 0, false, false, false, false, false⟩ : Api_Pin)).Up, (r14.getD (0 + (Int.toNat a1.Pin)) (⟨0, 0, false, false, false, false, false⟩ : Api_Pin)).Kept, false⟩ : Api_Pin)).set (0 + (Int.toNat a1.Pin)) r59.2).getD (0 + (Int.toNat a1.Pin)) (⟨0, 0, false, false, false, false, false⟩ : Api_Pin)).Vec⟩ : Api_Sent)], 0)
                  else
                    some (((r14.set (0 + (Int.toNat a1.Pin)) (⟨(r14.getD (0 + (Int.toNat a1.Pin)) (⟨0, 0, false, false, false, false, false⟩ : Api_Pin)).Core, (r14.getD (0 + (Int.toNat a1.Pin)) (⟨0, 0, false, false, false, false, false⟩ : Api_Pin)).Vec, (r14.getD (0 + (Int.toNat a1.Pin)) (⟨0, 0, false, false, false, false, false⟩ : Api_Pin)).Level, (r14.getD (0 + (Int.toNat a1.Pin)) (⟨0, 0, false, false, false, false, false⟩ : Api_Pin)).Masked, (r14.getD (0 + (Int.toNat a1.Pin)) (⟨0, 0, false, false, false, false, false⟩ : Api_Pin)).Up, (r14.getD (0 + (Int.toNat a1.Pin)) (⟨0, 0, false, false, false, false, false⟩ : Api_Pin)).Kept, false⟩ : Api_Pin)).set (0 + (Int.toNat a1.Pin)) r59.2), ([] : List Api_Sent), 0)
                else
                  (line_fire (r14.getD (0 + (Int.toNat a1.Pin)) (⟨0, 0, false, false, false, false, false⟩ : Api_Pin)) (((a1.Kind : Int) == 1) && (!((r14.getD (0 + (Int.toNat a1.Pin)) (⟨0, 0, false, false, false, false, false⟩ : Api_Pin)).Up)))).bind fun r62 =>
                  bif r62.1 then
                    some ((r14.set (0 + (Int.toNat a1.Pin)) r62.2), [(⟨a1.Pin, ((r14.set (0 + (Int.toNat a1.Pin)) r62.2).getD (0 + (Int.toNat a1.Pin)) (⟨0, 0, false, false, false, false, false⟩ : Api_Pin)).Core, ((r14.set (0 + (Int.toNat a1.Pin)) r62.2).getD (0 + (Int.toNat a1.Pin)) (⟨0, 0, false, false, false, false, false⟩ : Api_Pin)).Vec⟩ : Api_Sent)], 0)
                  else
                    some ((r14.set (0 + (Int.toNat a1.Pin)) r62.2), ([] : List Api_Sent), 0)
            else
              bif ((a1.Kind : Int) == 4) then
                (line_fire ((r14.set (0 + (Int.toNat a1.Pin)) (⟨(r14.getD (0 + (Int.toNat a1.Pin)) (⟨0, 0, false, false, false, false, false⟩ : Api_Pin)).Core, (r14.getD (0 + (Int.toNat a1.Pin)) (⟨0, 0, false, false, false, false, false⟩ : Api_Pin)).Vec, (r14.getD (0 + (Int.toNat a1.Pin)) (⟨0, 0, false, false, false, false, false⟩ : Api_Pin)).Level, ((a1.Kind : Int) == 3), (r14.getD (0 + (Int.toNat a1.Pin)) (⟨0, 0, false, false, false, false, false⟩ : Api_Pin)).Up, (r14.getD (0 + (Int.toNat a1.Pin)) (⟨0, 0, false, false, false, false, false⟩ : Api_Pin)).Kept, (r14.getD (0 + (Int.toNat a1.Pin)) (⟨0, 0, false, false, false, false, false⟩ : Api_Pin)).Sent⟩ : Api_Pin)).getD (0 + (Int.toNat a1.Pin)) (⟨0, 0, false, false, false, false, false⟩ : Api_Pin)) (((a1.Kind : Int) == 1) && (!((r14.getD (0 + (Int.toNat a1.Pin)) (⟨0, 0, false, false, false, false, false⟩ : Api_Pin)).Up)))).bind fun r66 =>
                bif r66.1 then
                  some (((r14.set (0 + (Int.toNat a1.Pin)) (⟨(r14.getD (0 + (Int.toNat a1.Pin)) (⟨0, 0, false, false, false, false, false⟩ : Api_Pin)).Core, (r14.getD (0 + (Int.toNat a1.Pin)) (⟨0, 0, false, false, false, false, false⟩ : Api_Pin)).Vec, (r14.getD (0 + (Int.toNat a1.Pin)) (⟨0, 0, false, false, false, false, false⟩ : Api_Pin)).Level, ((a1.Kind : Int) == 3), (r14.getD (0 + (Int.toNat a1.Pin)) (⟨0, 0, false, false, false, false, false⟩ : Api_Pin)).Up, (r14.getD (0 + (Int.toNat a1.Pin)) (⟨0, 0, false, false, false, false, false⟩ : Api_Pin)).Kept, (r14.getD (0 + (Int.toNat a1.Pin)) (⟨0, 0, false, false, false, false, false⟩ : Api_Pin)).Sent⟩ : Api_Pin)).set (0 + (Int.toNat a1.Pin)) r66.2), [(⟨a1.Pin, (((r14.set (0 + (Int.toNat a1.Pin)) (⟨(r14.getD (0 + (Int.toNat a1.Pin)) (⟨0, 0, false, false, false, false, false⟩ : Api_Pin)).Core, (r14.getD (0 + (Int.toNat a1.Pin)) (⟨0, 0, false, false, false, false, false⟩ : Api_Pin)).Vec, (r14.getD (0 + (Int.toNat a1.Pin)) (⟨0, 0, false, false, false, false, false⟩ : Api_Pin)).Level, ((a1.Kind : Int) == 3), (r14.getD (0 + (Int.toNat a1.Pin)) (⟨0, 0, false, false, false, false, false⟩ : Api_Pin)).Up, (r14.getD (0 + (Int.toNat a1.Pin)) (⟨0, 0, false, false, false, false, false⟩ : Api_Pin)).Kept, (r14.getD (0 + (Int.toNat a1.Pin)) (⟨0, 0, false, false, false, false, false⟩ : Api_Pin)).Sent⟩ : Api_Pin)).set (0 + (Int.toNat a1.Pin)) r66.2).getD (0 + (Int.toNat a1.Pin)) (⟨0, 0, false, false, false, false, false⟩ : Api_Pin)).Core, (((r14.set (0 + (Int.toNat a1.Pin)) (⟨(r14.getD (0 + (Int.toNat a1.Pin)) (⟨0, 0, false, false, false, false, false⟩ : Api_Pin)).Core, (r14.getD (0 + (Int.toNat a1.Pin)) (⟨0, 0, false, false, false, false, false⟩ : Api_Pin)).Vec, (r14.getD (0 + (Int.toNat a1.Pin)) (⟨0, 0, false, false, false, false, false⟩ : Api_Pin)).Level, ((a1.Kind : Int) == 3), (r14.getD (0 + (Int.toNat a1.Pin)) (⟨0, 0, false, false, false, false, false⟩ : Api_Pin)).Up, (r14.getD (0 + (Int.toNat a1.Pin)) (⟨0, 0, false, false, false, false, false⟩ : Api_Pin)).Kept, (r14.getD (0 + (Int.toNat a1.Pin)) (⟨0, 0, false, false, false, false, false⟩ : Api_Pin)).Sent⟩ : Api_Pin)).set (0 + (Int.toNat a1.Pin)) r66.2).getD (0 + (Int.toNat a1.Pin)) (⟨0, 0, false, false, false, false, false⟩ : Api_Pin)).Vec⟩ : Api_Sent)], 0)
                else
                  some (((r14.set (0 + (Int.toNat a1.Pin)) (⟨(r14.getD (0 + (Int.toNat a1.Pin)) (⟨0, 0, false, false, false, false, false⟩ : Api_Pin)).Core, (r14.getD (0 + (Int.toNat a1.Pin)) (⟨0, 0, false, false, false, false, false⟩ : Api_Pin)).Vec, (r14.getD (0 + (Int.toNat a1.Pin)) (⟨0, 0, false, false, false, false, false⟩ : Api_Pin)).Level, ((a1.Kind : Int) == 3), (r14.getD (0 + (Int.toNat a1.Pin)) (⟨0, 0, false, false, false, false, false⟩ : Api_Pin)).Up, (r14.getD (0 + (Int.toNat a1.Pin)) (⟨0, 0, false, false, false, false, false⟩ : Api_Pin)).Kept, (r14.getD (0 + (Int.toNat a1.Pin)) (⟨0, 0, false, false, false, false, false⟩ : Api_Pin)).Sent⟩ : Api_Pin)).set (0 + (Int.toNat a1.Pin)) r66.2), ([] : List Api_Sent), 0)
              else
                bif ((a1.Kind : Int) == 5) then
                  (line_fire ((r14.set (0 + (Int.toNat a1.Pin)) (⟨(r14.getD (0 + (Int.toNat a1.Pin)) (⟨0, 0, false, false, false, false, false⟩ : Api_Pin)).Core, (r14.getD (0 + (Int.toNat a1.Pin)) (⟨0, 0, false, false, false, false, false⟩ : Api_Pin)).Vec, (r14.getD (0 + (Int.toNat a1.Pin)) (⟨0, 0, false, false, false, false, false⟩ : Api_Pin)).Level, (r14.getD (0 + (Int.toNat a1.Pin)) (⟨0, 0, false, false, false, false, false⟩ : Api_Pin)).Masked, (r14.getD (0 + (Int.toNat a1.Pin)) (⟨0, 0, false, false, false, false, false⟩ : Api_Pin)).Up, (r14.getD (0 + (Int.toNat a1.Pin)) (⟨0, 0, false, false, false, false, false⟩ : Api_Pin)).Kept, false⟩ : Api_Pin)).getD (0 + (Int.toNat a1.Pin)) (⟨0, 0, false, false, false, false, false⟩ : Api_Pin)) (((a1.Kind : Int) == 1) && (!((r14.getD (0 + (Int.toNat a1.Pin)) (⟨0, 0, false, false, false, false, false⟩ : Api_Pin)).Up)))).bind fun r70 =>
                  bif r70.1 then
                    some (((r14.set (0 + (Int.toNat a1.Pin)) (⟨(r14.getD (0 + (Int.toNat a1.Pin)) (⟨0, 0, false, false, false, false, false⟩ : Api_Pin)).Core, (r14.getD (0 + (Int.toNat a1.Pin)) (⟨0, 0, false, false, false, false, false⟩ : Api_Pin)).Vec, (r14.getD (0 + (Int.toNat a1.Pin)) (⟨0, 0, false, false, false, false, false⟩ : Api_Pin)).Level, (r14.getD (0 + (Int.toNat a1.Pin)) (⟨0, 0, false, false, false, false, false⟩ : Api_Pin)).Masked, (r14.getD (0 + (Int.toNat a1.Pin)) (⟨0, 0, false, false, false, false, false⟩ : Api_Pin)).Up, (r14.getD (0 + (Int.toNat a1.Pin)) (⟨0, 0, false, false, false, false, false⟩ : Api_Pin)).Kept, false⟩ : Api_Pin)).set (0 + (Int.toNat a1.Pin)) r70.2), [(⟨a1.Pin, (((r14.set (0 + (Int.toNat a1.Pin)) (⟨(r14.getD (0 + (Int.toNat a1.Pin)) (⟨0, 0, false, false, false, false, false⟩ : Api_Pin)).Core, (r14.getD (0 + (Int.toNat a1.Pin)) (⟨0, 0, false, false, false, false, false⟩ : Api_Pin)).Vec, (r14.getD (0 + (Int.toNat a1.Pin)) (⟨0, 0, false, false, false, false, false⟩ : Api_Pin)).Level, (r14.getD (0 + (Int.toNat a1.Pin)) (⟨0, 0, false, false, false, false, false⟩ : Api_Pin)).Masked, (r14.getD (0 + (Int.toNat a1.Pin)) (⟨0, 0, false, false, false, false, false⟩ : Api_Pin)).Up, (r14.getD (0 + (Int.toNat a1.Pin)) (⟨0, 0, false, false, false, false, false⟩ : Api_Pin)).Kept, false⟩ : Api_Pin)).set (0 + (Int.toNat a1.Pin)) r70.2).getD (0 + (Int.toNat a1.Pin)) (⟨0, 0, false, false, false, false, false⟩ : Api_Pin)).Core, (((r14.set (0 + (Int.toNat a1.Pin)) (⟨(r14.getD (0 + (Int.toNat a1.Pin)) (⟨0, 0, false, false, false, false, false⟩ : Api_Pin)).Core, (r14.getD (0 + (Int.toNat a1.Pin)) (⟨0, 0, false, false, false, false, false⟩ : Api_Pin)).Vec, (r14.getD (0 + (Int.toNat a1.Pin)) (⟨0, 0, false, false, false, false, false⟩ : Api_Pin)).Level, (r14.getD (0 + (Int.toNat a1.Pin)) (⟨0, 0, false, false, false, false, false⟩ : Api_Pin)).Masked, (r14.getD (0 + (Int.toNat a1.Pin)) (⟨0, 0, false, false, false, false, false⟩ : Api_Pin)).Up, (r14.getD (0 + (Int.toNat a1.Pin)) (⟨0, 0, false, false, false, false, false⟩ : Api_Pin)).Kept, false⟩ : Api_Pin)).set (0 + (Int.toNat a1.Pin)) r70.2).getD (0 + (Int.toNat a1.Pin)) (⟨0, 0, false, false, false, false, false⟩ : Api_Pin)).Vec⟩ : Api_Sent)], 0)
                  else
                    some (((r14.set (0 + (Int.toNat a1.Pin)) (⟨(r14.getD (0 + (Int.toNat a1.Pin)) (⟨0, 0, false, false, false, false, false⟩ : Api_Pin)).Core, (r14.getD (0 + (Int.toNat a1.Pin)) (⟨0, 0, false, false, false, false, false⟩ : Api_Pin)).Vec, (r14.getD (0 + (Int.toNat a1.Pin)) (⟨0, 0, false, false, false, false, false⟩ : Api_Pin)).Level, (r14.getD (0 + (Int.toNat a1.Pin)) (⟨0, 0, false, false, false, false, false⟩ : Api_Pin)).Masked, (r14.getD (0 + (Int.toNat a1.Pin)) (⟨0, 0, false, false, false, false, false⟩ : Api_Pin)).Up, (r14.getD (0 + (Int.toNat a1.Pin)) (⟨0, 0, false, false, false, false, false⟩ : Api_Pin)).Kept, false⟩ : Api_Pin)).set (0 + (Int.toNat a1.Pin)) r70.2), ([] : List Api_Sent), 0)
                else
                  (line_fire (r14.getD (0 + (Int.toNat a1.Pin)) (⟨0, 0, false, false, false, false, false⟩ : Api_Pin)) (((a1.Kind : Int) == 1) && (!((r14.getD (0 + (Int.toNat a1.Pin)) (⟨0, 0, false, false, false, false, false⟩ : Api_Pin)).Up)))).bind fun r73 =>
                  bif r73.1 then
                    some ((r14.set (0 + (Int.toNat a1.Pin)) r73.2), [(⟨a1.Pin, ((r14.set (0 + (Int.toNat a1.Pin)) r73.2).getD (0 + (Int.toNat a1.Pin)) (⟨0, 0, false, false, false, false, false⟩ : Api_Pin)).Core, ((r14.set (0 + (Int.toNat a1.Pin)) r73.2).getD (0 + (Int.toNat a1.Pin)) (⟨0, 0, false, false, false, false, false⟩ : Api_Pin)).Vec⟩ : Api_Sent)], 0)
                  else
                    some ((r14.set (0 + (Int.toNat a1.Pin)) r73.2), ([] : List Api_Sent), 0)
        else none


/- corebell/line.Play -/
def line_Play_l1 (a0 : (List Api_Pin)) (a1 : (List Api_PinOp)) : Nat → List Api_Pin → List Api_Sent → Nat → Option ((List Api_Pin) × (List Api_Sent) × Int)
  | 0, _, _, _ => none
  | n1 + 1, l4, l5, k6 =>
    bif (decide ((((k6 : Nat) : Int) : Int) < ((a1.length : Nat) : Int))) then
      (line_Step l4 (a1.getD k6 (⟨0, 0⟩ : Api_PinOp))).bind fun r9 =>
      bif ((r9.2.2 : Int) == 0) then
        if ((l5).length + (r9.2.1).length) * 24 ≤ 140737488355328 ∧ (l5).length + (r9.2.1).length ≤ 140737488355328 then
        line_Play_l1 a0 a1 n1 r9.1 (l5 ++ r9.2.1) (k6 + 1)
        else none
      else
        line_Play_l1 a0 a1 n1 l4 l5 (k6 + 1)
    else
      (slices_Clone_api_Pin l4).bind fun r13 =>
      some (r13, l5, 0)

def line_Play (a0 : (List Api_Pin)) (a1 : (List Api_PinOp)) : Option ((List Api_Pin) × (List Api_Sent) × Int) :=
  (line_Right a0).bind fun r1 =>
  bif (!r1) then
    some (([] : List Api_Pin), ([] : List Api_Sent), 1)
  else
    line_Play_l1 a0 a1 FUEL a0 ([] : List Api_Sent) 0


/- slices.Equal(()corebell/api.Sent,corebell/api.Sent) -/
def slices_Equal_api_Sent_l1 (a0 : (List Api_Sent)) (a1 : (List Api_Sent)) : Nat → Nat → Option (Bool)
  | 0, _ => none
  | n1 + 1, k2 =>
    bif (decide ((((k2 : Nat) : Int) : Int) < ((a0.length : Nat) : Int))) then
      if 0 ≤ (((k2 : Nat) : Int) : Int) ∧ ((k2 : Nat) : Int) < ((a1.length : Nat) : Int) then
      bif (!((((a0.getD k2 (⟨0, 0, 0⟩ : Api_Sent)).Pin : Int) == ((a1.getD k2 (⟨0, 0, 0⟩ : Api_Sent)).Pin)) && ((((a0.getD k2 (⟨0, 0, 0⟩ : Api_Sent)).Core : Int) == ((a1.getD k2 (⟨0, 0, 0⟩ : Api_Sent)).Core)) && ((((a0.getD k2 (⟨0, 0, 0⟩ : Api_Sent)).Vec : Int) == ((a1.getD k2 (⟨0, 0, 0⟩ : Api_Sent)).Vec)) && true)))) then
        some false
      else
        slices_Equal_api_Sent_l1 a0 a1 n1 (k2 + 1)
      else none
    else
      some true

def slices_Equal_api_Sent (a0 : (List Api_Sent)) (a1 : (List Api_Sent)) : Option (Bool) :=
  bif ((((a0.length : Nat) : Int) : Int) != ((a1.length : Nat) : Int)) then
    some false
  else
    slices_Equal_api_Sent_l1 a0 a1 FUEL 0


/- corebell/corebellkeep.alive3 -/
def keep_alive3 : Option (Bool) :=
  (line_Play [(⟨0, 40, false, false, false, false, false⟩ : Api_Pin), (⟨1, 50, true, false, false, false, false⟩ : Api_Pin)] [(⟨3, 0⟩ : Api_PinOp), (⟨1, 0⟩ : Api_PinOp), (⟨4, 0⟩ : Api_PinOp), (⟨1, 1⟩ : Api_PinOp), (⟨5, 1⟩ : Api_PinOp)]).bind fun r1 =>
  (bif (((r1.2.2 : Int) == 0) && ((((r1.1.length : Nat) : Int) : Int) == 2)) then slices_Equal_api_Sent r1.2.1 [(⟨0, 0, 40⟩ : Api_Sent), (⟨1, 1, 50⟩ : Api_Sent), (⟨1, 1, 50⟩ : Api_Sent)] else some false).bind fun r6 =>
  some ((((r1.2.2 : Int) == 0) && ((((r1.1.length : Nat) : Int) : Int) == 2)) && r6)


/- corebell/corebellkeep.LineEdges$1 -/
def keep_LineEdges_1 (a0 : Bool) : Option (Int) :=
  bif a0 then
    some 1
  else
    some 0


/- corebell/corebellkeep.LineEdges -/
def keep_LineEdges_l1 (a0 : (List Api_Pin)) (a1 : (List Api_PinOp)) (a2 : Int) (r20 : Int) : Nat → List Api_Pin → Int → Nat → Option (Bool)
  | 0, _, _, _ => none
  | n1 + 1, l22, x23, k24 =>
    bif (decide ((((k24 : Nat) : Int) : Int) < ((a1.length : Nat) : Int))) then
      (line_Step l22 (a1.getD k24 (⟨0, 0⟩ : Api_PinOp))).bind fun r27 =>
      bif ((r27.2.2 : Int) != 0) then
        keep_LineEdges_l1 a0 a1 a2 r20 n1 l22 x23 (k24 + 1)
      else
        if (((((a1.getD k24 (⟨0, 0⟩ : Api_PinOp)).Pin : Int) == a2) && (((a1.getD k24 (⟨0, 0⟩ : Api_PinOp)).Kind : Int) == 1)) = true → (0 ≤ (a2 : Int) ∧ a2 < ((l22.length : Nat) : Int))) then
        bif (((((a1.getD k24 (⟨0, 0⟩ : Api_PinOp)).Pin : Int) == a2) && (((a1.getD k24 (⟨0, 0⟩ : Api_PinOp)).Kind : Int) == 1)) && (!((l22.getD (Int.toNat a2) (⟨0, 0, false, false, false, false, false⟩ : Api_Pin)).Up))) then
          bif (((a1.getD k24 (⟨0, 0⟩ : Api_PinOp)).Pin : Int) == a2) then
            if (((!(decide (((IntKind.i64.wrap ((if (1 : Int) < (IntKind.i64.wrap (x23 + 1)) then 1 else (IntKind.i64.wrap (x23 + 1))) - ((r27.2.1.length : Nat) : Int))) : Int) < 0))) && (decide (((IntKind.i64.wrap ((if (1 : Int) < (IntKind.i64.wrap (x23 + 1)) then 1 else (IntKind.i64.wrap (x23 + 1))) - ((r27.2.1.length : Nat) : Int))) : Int) > 0))) = true → (0 ≤ (a2 : Int) ∧ a2 < ((r27.1.length : Nat) : Int))) then
            bif ((decide (((IntKind.i64.wrap ((if (1 : Int) < (IntKind.i64.wrap (x23 + 1)) then 1 else (IntKind.i64.wrap (x23 + 1))) - ((r27.2.1.length : Nat) : Int))) : Int) < 0)) || ((decide (((IntKind.i64.wrap ((if (1 : Int) < (IntKind.i64.wrap (x23 + 1)) then 1 else (IntKind.i64.wrap (x23 + 1))) - ((r27.2.1.length : Nat) : Int))) : Int) > 0)) && (!((r27.1.getD (0 + (Int.toNat a2)) (⟨0, 0, false, false, false, false, false⟩ : Api_Pin)).Masked)))) then
              some false
            else
              keep_LineEdges_l1 a0 a1 a2 r20 n1 r27.1 (IntKind.i64.wrap ((if (1 : Int) < (IntKind.i64.wrap (x23 + 1)) then 1 else (IntKind.i64.wrap (x23 + 1))) - ((r27.2.1.length : Nat) : Int))) (k24 + 1)
            else none
          else
            if (((!(decide (((if (1 : Int) < (IntKind.i64.wrap (x23 + 1)) then 1 else (IntKind.i64.wrap (x23 + 1))) : Int) < 0))) && (decide (((if (1 : Int) < (IntKind.i64.wrap (x23 + 1)) then 1 else (IntKind.i64.wrap (x23 + 1))) : Int) > 0))) = true → (0 ≤ (a2 : Int) ∧ a2 < ((r27.1.length : Nat) : Int))) then
            bif ((decide (((if (1 : Int) < (IntKind.i64.wrap (x23 + 1)) then 1 else (IntKind.i64.wrap (x23 + 1))) : Int) < 0)) || ((decide (((if (1 : Int) < (IntKind.i64.wrap (x23 + 1)) then 1 else (IntKind.i64.wrap (x23 + 1))) : Int) > 0)) && (!((r27.1.getD (0 + (Int.toNat a2)) (⟨0, 0, false, false, false, false, false⟩ : Api_Pin)).Masked)))) then
              some false
            else
              keep_LineEdges_l1 a0 a1 a2 r20 n1 r27.1 (if (1 : Int) < (IntKind.i64.wrap (x23 + 1)) then 1 else (IntKind.i64.wrap (x23 + 1))) (k24 + 1)
            else none
        else
          bif (((a1.getD k24 (⟨0, 0⟩ : Api_PinOp)).Pin : Int) == a2) then
            if (((!(decide (((IntKind.i64.wrap (x23 - ((r27.2.1.length : Nat) : Int))) : Int) < 0))) && (decide (((IntKind.i64.wrap (x23 - ((r27.2.1.length : Nat) : Int))) : Int) > 0))) = true → (0 ≤ (a2 : Int) ∧ a2 < ((r27.1.length : Nat) : Int))) then
            bif ((decide (((IntKind.i64.wrap (x23 - ((r27.2.1.length : Nat) : Int))) : Int) < 0)) || ((decide (((IntKind.i64.wrap (x23 - ((r27.2.1.length : Nat) : Int))) : Int) > 0)) && (!((r27.1.getD (0 + (Int.toNat a2)) (⟨0, 0, false, false, false, false, false⟩ : Api_Pin)).Masked)))) then
              some false
            else
              keep_LineEdges_l1 a0 a1 a2 r20 n1 r27.1 (IntKind.i64.wrap (x23 - ((r27.2.1.length : Nat) : Int))) (k24 + 1)
            else none
          else
            if (((!(decide ((x23 : Int) < 0))) && (decide ((x23 : Int) > 0))) = true → (0 ≤ (a2 : Int) ∧ a2 < ((r27.1.length : Nat) : Int))) then
            bif ((decide ((x23 : Int) < 0)) || ((decide ((x23 : Int) > 0)) && (!((r27.1.getD (0 + (Int.toNat a2)) (⟨0, 0, false, false, false, false, false⟩ : Api_Pin)).Masked)))) then
              some false
            else
              keep_LineEdges_l1 a0 a1 a2 r20 n1 r27.1 x23 (k24 + 1)
            else none
        else none
    else
      if 0 ≤ (a2 : Int) ∧ a2 < ((l22.length : Nat) : Int) then
      (keep_LineEdges_1 ((l22.getD (Int.toNat a2) (⟨0, 0, false, false, false, false, false⟩ : Api_Pin)).Kept)).bind fun r88 =>
      some ((x23 : Int) == r88)
      else none

def keep_LineEdges (a0 : (List Api_Pin)) (a1 : (List Api_PinOp)) (a2 : Int) : Option (Bool) :=
  (keep_alive3).bind fun r1 =>
  bif (!r1) then
    some false
  else
    (line_Right a0).bind fun r4 =>
    if ((!(((!r4) || (decide ((a2 : Int) < 0))) || (decide ((a2 : Int) ≥ ((a0.length : Nat) : Int))))) = true → (0 ≤ (a2 : Int) ∧ a2 < ((a0.length : Nat) : Int))) then
    bif ((((!r4) || (decide ((a2 : Int) < 0))) || (decide ((a2 : Int) ≥ ((a0.length : Nat) : Int)))) || ((a0.getD (Int.toNat a2) (⟨0, 0, false, false, false, false, false⟩ : Api_Pin)).Level)) then
      some true
    else
      if 0 ≤ (a2 : Int) ∧ a2 < ((a0.length : Nat) : Int) then
      (keep_LineEdges_1 ((a0.getD (Int.toNat a2) (⟨0, 0, false, false, false, false, false⟩ : Api_Pin)).Kept)).bind fun r20 =>
      keep_LineEdges_l1 a0 a1 a2 r20 FUEL a0 r20 0
      else none
    else none


/- corebell/corebellkeep.LineLevel -/
def keep_LineLevel_l1 (a0 : (List Api_Pin)) (a1 : (List Api_PinOp)) (a2 : Int) : Nat → List Api_Pin → Bool → Nat → Option (Bool)
  | 0, _, _, _ => none
  | n1 + 1, l21, b22, k23 =>
    bif (decide ((((k23 : Nat) : Int) : Int) < ((a1.length : Nat) : Int))) then
      (line_Step l21 (a1.getD k23 (⟨0, 0⟩ : Api_PinOp))).bind fun r26 =>
      bif ((r26.2.2 : Int) != 0) then
        keep_LineLevel_l1 a0 a1 a2 n1 l21 b22 (k23 + 1)
      else
        bif (((a1.getD k23 (⟨0, 0⟩ : Api_PinOp)).Pin : Int) != a2) then
          keep_LineLevel_l1 a0 a1 a2 n1 r26.1 b22 (k23 + 1)
        else
          bif (((a1.getD k23 (⟨0, 0⟩ : Api_PinOp)).Kind : Int) == 5) then
            bif ((decide ((((r26.2.1.length : Nat) : Int) : Int) > 0)) && false) then
              some false
            else
              if 0 ≤ (a2 : Int) ∧ a2 < ((r26.1.length : Nat) : Int) then
              if (((r26.1.getD (0 + (Int.toNat a2)) (⟨0, 0, false, false, false, false, false⟩ : Api_Pin)).Up) = true → (0 ≤ (a2 : Int) ∧ a2 < ((r26.1.length : Nat) : Int))) then
              bif ((((r26.1.getD (0 + (Int.toNat a2)) (⟨0, 0, false, false, false, false, false⟩ : Api_Pin)).Up) && (!((r26.1.getD (0 + (Int.toNat a2)) (⟨0, 0, false, false, false, false, false⟩ : Api_Pin)).Masked))) && (!(false || (decide ((((r26.2.1.length : Nat) : Int) : Int) > 0))))) then
                some false
              else
                keep_LineLevel_l1 a0 a1 a2 n1 r26.1 (false || (decide ((((r26.2.1.length : Nat) : Int) : Int) > 0))) (k23 + 1)
              else none
              else none
          else
            bif ((decide ((((r26.2.1.length : Nat) : Int) : Int) > 0)) && b22) then
              some false
            else
              if 0 ≤ (a2 : Int) ∧ a2 < ((r26.1.length : Nat) : Int) then
              if (((r26.1.getD (0 + (Int.toNat a2)) (⟨0, 0, false, false, false, false, false⟩ : Api_Pin)).Up) = true → (0 ≤ (a2 : Int) ∧ a2 < ((r26.1.length : Nat) : Int))) then
              bif ((((r26.1.getD (0 + (Int.toNat a2)) (⟨0, 0, false, false, false, false, false⟩ : Api_Pin)).Up) && (!((r26.1.getD (0 + (Int.toNat a2)) (⟨0, 0, false, false, false, false, false⟩ : Api_Pin)).Masked))) && (!(b22 || (decide ((((r26.2.1.length : Nat) : Int) : Int) > 0))))) then
                some false
              else
                keep_LineLevel_l1 a0 a1 a2 n1 r26.1 (b22 || (decide ((((r26.2.1.length : Nat) : Int) : Int) > 0))) (k23 + 1)
              else none
              else none
    else
      if 0 ≤ (a2 : Int) ∧ a2 < ((l21.length : Nat) : Int) then
      some (((l21.getD (Int.toNat a2) (⟨0, 0, false, false, false, false, false⟩ : Api_Pin)).Sent) == b22)
      else none

def keep_LineLevel (a0 : (List Api_Pin)) (a1 : (List Api_PinOp)) (a2 : Int) : Option (Bool) :=
  (keep_alive3).bind fun r1 =>
  bif (!r1) then
    some false
  else
    (line_Right a0).bind fun r4 =>
    if ((!(((!r4) || (decide ((a2 : Int) < 0))) || (decide ((a2 : Int) ≥ ((a0.length : Nat) : Int))))) = true → (0 ≤ (a2 : Int) ∧ a2 < ((a0.length : Nat) : Int))) then
    bif ((((!r4) || (decide ((a2 : Int) < 0))) || (decide ((a2 : Int) ≥ ((a0.length : Nat) : Int)))) || (!((a0.getD (Int.toNat a2) (⟨0, 0, false, false, false, false, false⟩ : Api_Pin)).Level))) then
      some true
    else
      if 0 ≤ (a2 : Int) ∧ a2 < ((a0.length : Nat) : Int) then
      keep_LineLevel_l1 a0 a1 a2 FUEL a0 ((a0.getD (Int.toNat a2) (⟨0, 0, false, false, false, false, false⟩ : Api_Pin)).Sent) 0
      else none
    else none


end Go.Proofs.Ytaadkjlooehhnaa
