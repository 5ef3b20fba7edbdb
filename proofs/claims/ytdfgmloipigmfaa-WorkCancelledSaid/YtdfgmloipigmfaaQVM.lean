/- The models of the functions: printed by program. -/
import Derived.Test.YtdfgmloipigmfaaAbYg
import Derived.Lib.BitFns
set_option linter.unusedSimpArgs false
set_option linter.unusedVariables false
namespace Go.Proofs.Ytdfgmloipigmfaa
open Go Go.Ab

structure Api_Handler where
  Says : Int
  Left : Int
deriving DecidableEq

structure Api_Tally where
  Came : Int
  Nobody : Int
  Off : Bool
deriving DecidableEq

structure Api_WorkOp where
  Kind : Int
  Item : Int
deriving DecidableEq

structure Work_queue where
  waits_ : (List Int)
  begun_ : Int
  done_ : (List Int)
deriving DecidableEq

def Ok_Api_Handler (x : Api_Handler) : Prop := (-9223372036854775808 ≤ x.Says ∧ x.Says ≤ 9223372036854775807) ∧ (-9223372036854775808 ≤ x.Left ∧ x.Left ≤ 9223372036854775807)
def Ok_Api_WorkOp (x : Api_WorkOp) : Prop := (-9223372036854775808 ≤ x.Kind ∧ x.Kind ≤ 9223372036854775807) ∧ (-9223372036854775808 ≤ x.Item ∧ x.Item ≤ 9223372036854775807)

/- corebell/chain.Right$1 -/
def chain_Right_1 (a0 : Api_Handler) : Option (Bool) :=
  some ((((decide ((a0.Says : Int) < 1)) || (decide ((a0.Says : Int) > 2))) || (decide ((a0.Left : Int) < 0))) || (decide ((a0.Left : Int) > 1099511627776)))


/- slices.IndexFunc(()corebell/api.Handler,corebell/api.Handler) -/
def slices_IndexFunc_api_Handler_chain_Right_1_l1 (a0 : (List Api_Handler)) : Nat → Nat → Option (Int)
  | 0, _ => none
  | n1 + 1, k1 =>
    bif (decide ((((k1 : Nat) : Int) : Int) < ((a0.length : Nat) : Int))) then
      (chain_Right_1 (a0.getD k1 (⟨0, 0⟩ : Api_Handler))).bind fun r4 =>
      bif r4 then
        some ((k1 : Nat) : Int)
      else
        slices_IndexFunc_api_Handler_chain_Right_1_l1 a0 n1 (k1 + 1)
    else
      some (-1)

def slices_IndexFunc_api_Handler_chain_Right_1 (a0 : (List Api_Handler)) : Option (Int) :=
  slices_IndexFunc_api_Handler_chain_Right_1_l1 a0 FUEL 0


/- slices.ContainsFunc(()corebell/api.Handler,corebell/api.Handler) -/
def slices_ContainsFunc_api_Handler_chain_Right_1 (a0 : (List Api_Handler)) : Option (Bool) :=
  (slices_IndexFunc_api_Handler_chain_Right_1 a0).bind fun r1 =>
  some (decide ((r1 : Int) ≥ 0))


/- corebell/chain.Right -/
def chain_Right (a0 : (List Api_Handler)) : Option (Bool) :=
  (bif (decide ((((a0.length : Nat) : Int) : Int) ≤ 16)) then slices_ContainsFunc_api_Handler_chain_Right_1 a0 else some false).bind fun r1 =>
  some ((decide ((((a0.length : Nat) : Int) : Int) ≤ 16)) && (!r1))


/- slices.Clone(()corebell/api.Handler,corebell/api.Handler) -/
def slices_Clone_api_Handler (a0 : List Api_Handler) : Option (List Api_Handler) := if a0.length * 16 ≤ 140737488355328 then some a0 else none

/- corebell/chain.Serve$1 -/
def chain_Serve_1 (a0 : Int) : Option ((List Api_Handler) × (List Int) × Api_Tally × Int) :=
  some (([] : List Api_Handler), ([] : List Int), (⟨0, 0, false⟩ : Api_Tally), a0)


/- corebell/chain.says -/
def chain_says (a0 : Api_Handler) : Option (Int × Api_Handler) :=
  bif ((a0.Left : Int) == 0) then
    some (0, a0)
  else
    some (a0.Says, (⟨a0.Says, (IntKind.i64.wrap (a0.Left - 1))⟩ : Api_Handler))


/- corebell/chain.Serve -/
def chain_Serve_l1 (a1 : Api_Tally) (r30 : (List Api_Handler)) : Nat → List Int → Bool → Nat → List Api_Handler → Option ((List Api_Handler) × (List Int) × Api_Tally × Int)
  | 0, _, _, _, _ => none
  | n1 + 1, l32, b33, k34, l35 =>
    bif (decide ((((k34 : Nat) : Int) : Int) < ((r30.length : Nat) : Int))) then
      if 0 ≤ (((k34 : Nat) : Int) : Int) ∧ ((k34 : Nat) : Int) < ((l35.length : Nat) : Int) then
      (chain_says (l35.getD (0 + k34) (⟨0, 0⟩ : Api_Handler))).bind fun r38 =>
      bif ((r38.1 : Int) == 2) then
        if ((l32).length + ([((k34 : Nat) : Int)]).length) * 8 ≤ 140737488355328 ∧ (l32).length + ([((k34 : Nat) : Int)]).length ≤ 140737488355328 then
        chain_Serve_l1 a1 r30 n1 (l32 ++ [((k34 : Nat) : Int)]) (b33 || ((r38.1 : Int) != 0)) (k34 + 1) (l35.set (0 + k34) r38.2)
        else none
      else
        chain_Serve_l1 a1 r30 n1 l32 (b33 || ((r38.1 : Int) != 0)) (k34 + 1) (l35.set (0 + k34) r38.2)
      else none
    else
      bif b33 then
        some (l35, l32, (⟨(IntKind.i64.wrap (a1.Came + 1)), 0, ((0 : Int) == 5)⟩ : Api_Tally), 0)
      else
        some (l35, l32, (⟨(IntKind.i64.wrap (a1.Came + 1)), (IntKind.i64.wrap (a1.Nobody + 1)), (((IntKind.i64.wrap (a1.Nobody + 1)) : Int) == 5)⟩ : Api_Tally), 0)

def chain_Serve (a0 : (List Api_Handler)) (a1 : Api_Tally) : Option ((List Api_Handler) × (List Int) × Api_Tally × Int) :=
  (chain_Right a0).bind fun r1 =>
  bif ((((((!r1) || (decide ((a1.Came : Int) < 0))) || (decide ((a1.Came : Int) > 1099511627776))) || (decide ((a1.Nobody : Int) < 0))) || (decide ((a1.Nobody : Int) > 5))) || (a1.Off != ((a1.Nobody : Int) == 5))) then
    (chain_Serve_1 1).bind fun r22 =>
    some (r22.1, r22.2.1, r22.2.2.1, r22.2.2.2)
  else
    bif a1.Off then
      (chain_Serve_1 7).bind fun r25 =>
      some (r25.1, r25.2.1, r25.2.2.1, r25.2.2.2)
    else
      bif ((a1.Came : Int) == 1099511627776) then
        (chain_Serve_1 4).bind fun r28 =>
        some (r28.1, r28.2.1, r28.2.2.1, r28.2.2.2)
      else
        (slices_Clone_api_Handler a0).bind fun r30 =>
        chain_Serve_l1 a1 r30 FUEL ([] : List Int) false 0 r30


/- corebell/chain.Play -/
def chain_Play_l1 (a1 : Int) (r7 : (List Api_Handler)) : Nat → List Api_Handler → List Int → Int → Int → Int → Bool → Option ((List Api_Handler) × (List Int) × Api_Tally × Int)
  | 0, _, _, _, _, _, _ => none
  | n1 + 1, l9, l10, x11, x12, x13, b14 =>
    bif (decide ((x11 : Int) < a1)) then
      (chain_Serve l9 (⟨x12, x13, b14⟩ : Api_Tally)).bind fun r16 =>
      bif ((r16.2.2.2 : Int) != 0) then
        some (l9, l10, (⟨x12, x13, b14⟩ : Api_Tally), 0)
      else
        if ((l10).length + (r16.2.1).length) * 8 ≤ 140737488355328 ∧ (l10).length + (r16.2.1).length ≤ 140737488355328 then
        chain_Play_l1 a1 r7 n1 r16.1 (l10 ++ r16.2.1) (IntKind.i64.wrap (x11 + 1)) r16.2.2.1.Came r16.2.2.1.Nobody r16.2.2.1.Off
        else none
    else
      some (l9, l10, (⟨x12, x13, b14⟩ : Api_Tally), 0)

def chain_Play (a0 : (List Api_Handler)) (a1 : Int) : Option ((List Api_Handler) × (List Int) × Api_Tally × Int) :=
  (chain_Right a0).bind fun r1 =>
  bif (!r1) then
    some (([] : List Api_Handler), ([] : List Int), (⟨0, 0, false⟩ : Api_Tally), 1)
  else
    bif ((decide ((a1 : Int) < 0)) || (decide ((a1 : Int) > 400))) then
      some (([] : List Api_Handler), ([] : List Int), (⟨0, 0, false⟩ : Api_Tally), 2)
    else
      (slices_Clone_api_Handler a0).bind fun r7 =>
      chain_Play_l1 a1 r7 FUEL r7 ([] : List Int) 0 0 0 false


/- slices.Equal(()int,int) -/
def slices_Equal_int_l1 (a0 : (List Int)) (a1 : (List Int)) : Nat → Nat → Option (Bool)
  | 0, _ => none
  | n1 + 1, k2 =>
    bif (decide ((((k2 : Nat) : Int) : Int) < ((a0.length : Nat) : Int))) then
      if 0 ≤ (((k2 : Nat) : Int) : Int) ∧ ((k2 : Nat) : Int) < ((a1.length : Nat) : Int) then
      bif (((a0.getD k2 0) : Int) != (a1.getD k2 0)) then
        some false
      else
        slices_Equal_int_l1 a0 a1 n1 (k2 + 1)
      else none
    else
      some true

def slices_Equal_int (a0 : (List Int)) (a1 : (List Int)) : Option (Bool) :=
  bif ((((a0.length : Nat) : Int) : Int) != ((a1.length : Nat) : Int)) then
    some false
  else
    slices_Equal_int_l1 a0 a1 FUEL 0


/- corebell/corebellkeep.alive9 -/
def keep_alive9 : Option (Bool) :=
  (chain_Play [(⟨1, 1⟩ : Api_Handler), (⟨2, 2⟩ : Api_Handler)] 9).bind fun r1 =>
  (bif (((r1.2.2.2 : Int) == 0) && ((((r1.1.length : Nat) : Int) : Int) == 2)) then slices_Equal_int r1.2.1 [1, 1] else some false).bind fun r6 =>
  some (((((r1.2.2.2 : Int) == 0) && ((((r1.1.length : Nat) : Int) : Int) == 2)) && r6) && (((r1.2.2.1.Came : Int) == 7) && (((r1.2.2.1.Nobody : Int) == 5) && ((r1.2.2.1.Off == true) && true))))


/- slices.Reverse(()corebell/api.Handler,corebell/api.Handler) -/
def slices_Reverse_api_Handler_h0_l1 (a0 : (List Api_Handler)) : Nat → Int → Int → List Api_Handler → Option ((List Api_Handler))
  | 0, _, _, _ => none
  | n1 + 1, x1, x2, l3 =>
    bif (decide ((x1 : Int) < x2)) then
      if 0 ≤ (x2 : Int) ∧ x2 < ((l3.length : Nat) : Int) then
      if 0 ≤ (x1 : Int) ∧ x1 < ((l3.length : Nat) : Int) then
      if 0 ≤ (x1 : Int) ∧ x1 < ((l3.length : Nat) : Int) then
      if 0 ≤ (x2 : Int) ∧ x2 < ((l3.length : Nat) : Int) then
      slices_Reverse_api_Handler_h0_l1 a0 n1 (IntKind.i64.wrap (x1 + 1)) (IntKind.i64.wrap (x2 - 1)) ((l3.set (0 + (Int.toNat x1)) (l3.getD (0 + (Int.toNat x2)) (⟨0, 0⟩ : Api_Handler))).set (0 + (Int.toNat x2)) (l3.getD (0 + (Int.toNat x1)) (⟨0, 0⟩ : Api_Handler)))
      else none
      else none
      else none
      else none
    else
      some l3

def slices_Reverse_api_Handler_h0 (a0 : (List Api_Handler)) : Option ((List Api_Handler)) :=
  slices_Reverse_api_Handler_h0_l1 a0 FUEL 0 (IntKind.i64.wrap (((a0.length : Nat) : Int) - 1)) a0


/- slices.Equal(()corebell/api.Handler,corebell/api.Handler) -/
def slices_Equal_api_Handler_l1 (a0 : (List Api_Handler)) (a1 : (List Api_Handler)) : Nat → Nat → Option (Bool)
  | 0, _ => none
  | n1 + 1, k2 =>
    bif (decide ((((k2 : Nat) : Int) : Int) < ((a0.length : Nat) : Int))) then
      if 0 ≤ (((k2 : Nat) : Int) : Int) ∧ ((k2 : Nat) : Int) < ((a1.length : Nat) : Int) then
      bif (!((((a0.getD k2 (⟨0, 0⟩ : Api_Handler)).Says : Int) == ((a1.getD k2 (⟨0, 0⟩ : Api_Handler)).Says)) && ((((a0.getD k2 (⟨0, 0⟩ : Api_Handler)).Left : Int) == ((a1.getD k2 (⟨0, 0⟩ : Api_Handler)).Left)) && true))) then
        some false
      else
        slices_Equal_api_Handler_l1 a0 a1 n1 (k2 + 1)
      else none
    else
      some true

def slices_Equal_api_Handler (a0 : (List Api_Handler)) (a1 : (List Api_Handler)) : Option (Bool) :=
  bif ((((a0.length : Nat) : Int) : Int) != ((a1.length : Nat) : Int)) then
    some false
  else
    slices_Equal_api_Handler_l1 a0 a1 FUEL 0


/- corebell/corebellkeep.ChainOrder -/
def keep_ChainOrder (a0 : (List Api_Handler)) (a1 : Int) : Option (Bool) :=
  (keep_alive9).bind fun r1 =>
  bif (!r1) then
    some false
  else
    (slices_Clone_api_Handler a0).bind fun r4 =>
    (slices_Reverse_api_Handler_h0 r4).bind fun r6 =>
    if r6.length = r4.length then
    (chain_Play a0 a1).bind fun r9 =>
    (chain_Play r6 a1).bind fun r11 =>
    (slices_Clone_api_Handler r11.1).bind fun r13 =>
    (slices_Reverse_api_Handler_h0 r13).bind fun r15 =>
    if r15.length = r13.length then
    (bif (((r9.2.2.2 : Int) == r11.2.2.2) && (((r9.2.2.1.Came : Int) == r11.2.2.1.Came) && (((r9.2.2.1.Nobody : Int) == r11.2.2.1.Nobody) && ((r9.2.2.1.Off == r11.2.2.1.Off) && true)))) then slices_Equal_api_Handler r9.1 r15 else some false).bind fun r21 =>
    some (((((r9.2.2.2 : Int) == r11.2.2.2) && (((r9.2.2.1.Came : Int) == r11.2.2.1.Came) && (((r9.2.2.1.Nobody : Int) == r11.2.2.1.Nobody) && ((r9.2.2.1.Off == r11.2.2.1.Off) && true)))) && r21) && ((((r9.2.1.length : Nat) : Int) : Int) == ((r11.2.1.length : Nat) : Int)))
    else none
    else none


/- slices.Index(()int,int) -/
def slices_Index_int_l1 (a0 : (List Int)) (a1 : Int) : Nat → Nat → Option (Int)
  | 0, _ => none
  | n1 + 1, k1 =>
    bif (decide ((((k1 : Nat) : Int) : Int) < ((a0.length : Nat) : Int))) then
      bif ((a1 : Int) == (a0.getD k1 0)) then
        some ((k1 : Nat) : Int)
      else
        slices_Index_int_l1 a0 a1 n1 (k1 + 1)
    else
      some (-1)

def slices_Index_int (a0 : (List Int)) (a1 : Int) : Option (Int) :=
  slices_Index_int_l1 a0 a1 FUEL 0


/- slices.Contains(()int,int) -/
def slices_Contains_int (a0 : (List Int)) (a1 : Int) : Option (Bool) :=
  (slices_Index_int a0 a1).bind fun r1 =>
  some (decide ((r1 : Int) ≥ 0))


/- (*corebell/work.queue).begin -/
def work_queue_begin (a0 : Work_queue) : Option (Int × Work_queue) :=
  bif (decide ((a0.begun_ : Int) ≥ 0)) then
    some (6, a0)
  else
    bif ((((a0.waits_.length : Nat) : Int) : Int) == 0) then
      some (3, a0)
    else
      if 0 ≤ (0 : Int) ∧ 0 < ((a0.waits_.length : Nat) : Int) then
      if 1 ≤ a0.waits_.length then
      some (0, (⟨((a0.waits_.drop (0 + 1)).take (a0.waits_.length - 1)), (a0.waits_.getD (0 + 0) 0), a0.done_⟩ : Work_queue))
      else none
      else none


/- (*corebell/work.queue).end -/
def work_queue_end (a0 : Work_queue) : Option (Int × Work_queue) :=
  bif (decide ((a0.begun_ : Int) < 0)) then
    some (3, a0)
  else
    if ((a0.done_).length + ([a0.begun_]).length) * 8 ≤ 140737488355328 ∧ (a0.done_).length + ([a0.begun_]).length ≤ 140737488355328 then
    some (0, (⟨a0.waits_, (-1), (a0.done_ ++ [a0.begun_])⟩ : Work_queue))
    else none


/- slices.Clone(()int,int) -/
def slices_Clone_int (a0 : List Int) : Option (List Int) := if a0.length * 8 ≤ 140737488355328 then some a0 else none

def slices_Delete_int (a0 : List Int) (a1 a2 : Int) : Option (List Int) := if 0 ≤ a1 ∧ a1 ≤ a2 ∧ a2 ≤ a0.length then some (a0.take a1.toNat ++ a0.drop a2.toNat) else none

/- (*corebell/work.queue).busy -/
def work_queue_busy (a0 : Work_queue) (a1 : Int) : Option (Bool) :=
  (bif (!((a0.begun_ : Int) == a1)) then slices_Contains_int a0.waits_ a1 else some false).bind fun r4 =>
  some (((a0.begun_ : Int) == a1) || r4)


/- (*corebell/work.queue).do -/
def work_queue_do_l1 (a0 : Work_queue) (a1 : Api_WorkOp) : Nat → List Int → Int → List Int → Option (Int × Work_queue)
  | 0, _, _, _ => none
  | n1 + 1, l37, x38, l39 =>
    (work_queue_busy (⟨l37, x38, l39⟩ : Work_queue) a1.Item).bind fun r40 =>
    bif r40 then
      (work_queue_begin (⟨l37, x38, l39⟩ : Work_queue)).bind fun r43 =>
      bif ((r43.1 : Int) == 6) then
        (work_queue_end r43.2).bind fun r46 =>
        work_queue_do_l1 a0 a1 n1 r46.2.waits_ r46.2.begun_ r46.2.done_
      else
        work_queue_do_l1 a0 a1 n1 r43.2.waits_ r43.2.begun_ r43.2.done_
    else
      some (0, (⟨l37, x38, l39⟩ : Work_queue))

def work_queue_do (a0 : Work_queue) (a1 : Api_WorkOp) : Option (Int × Work_queue) :=
  bif ((decide ((a1.Kind : Int) < 1)) || (decide ((a1.Kind : Int) > 5))) then
    some (5, a0)
  else
    bif ((((a1.Kind : Int) != 2) && ((a1.Kind : Int) != 3)) && ((decide ((a1.Item : Int) < 0)) || (decide ((a1.Item : Int) > 99)))) then
      some (2, a0)
    else
      bif ((a1.Kind : Int) == 1) then
        (slices_Contains_int a0.waits_ a1.Item).bind fun r18 =>
        bif r18 then
          some (6, a0)
        else
          if ((a0.waits_).length + ([a1.Item]).length) * 8 ≤ 140737488355328 ∧ (a0.waits_).length + ([a1.Item]).length ≤ 140737488355328 then
          some (0, (⟨(a0.waits_ ++ [a1.Item]), a0.begun_, a0.done_⟩ : Work_queue))
          else none
      else
        bif ((a1.Kind : Int) == 2) then
          (work_queue_begin a0).bind fun r23 =>
          some (r23.1, r23.2)
        else
          bif ((a1.Kind : Int) == 3) then
            (work_queue_end a0).bind fun r26 =>
            some (r26.1, r26.2)
          else
            bif ((a1.Kind : Int) == 4) then
              (slices_Index_int a0.waits_ a1.Item).bind fun r29 =>
              bif (decide ((r29 : Int) < 0)) then
                some (3, a0)
              else
                (slices_Clone_int a0.waits_).bind fun r32 =>
                (slices_Delete_int r32 r29 (IntKind.i64.wrap (r29 + 1))).bind fun r34 =>
                some (0, (⟨r34, a0.begun_, a0.done_⟩ : Work_queue))
            else
              bif ((a1.Kind : Int) == 5) then
                work_queue_do_l1 a0 a1 FUEL a0.waits_ a0.begun_ a0.done_
              else
                some (0, a0)


/- corebell/work.Play -/
def work_Play_l1 (a0 : (List Api_WorkOp)) : Nat → List Int → Nat → List Int → Int → List Int → Option ((List Int) × (List Int) × (List Int) × Int × Int)
  | 0, _, _, _, _, _ => none
  | n1 + 1, l2, k3, l4, x5, l6 =>
    bif (decide ((((k3 : Nat) : Int) : Int) < ((a0.length : Nat) : Int))) then
      (work_queue_do (⟨l4, x5, l6⟩ : Work_queue) (a0.getD k3 (⟨0, 0⟩ : Api_WorkOp))).bind fun r9 =>
      if ((l2).length + ([r9.1]).length) * 8 ≤ 140737488355328 ∧ (l2).length + ([r9.1]).length ≤ 140737488355328 then
      work_Play_l1 a0 n1 (l2 ++ [r9.1]) (k3 + 1) r9.2.waits_ r9.2.begun_ r9.2.done_
      else none
    else
      (slices_Clone_int l4).bind fun r12 =>
      some (l2, l6, r12, x5, 0)

def work_Play (a0 : (List Api_WorkOp)) : Option ((List Int) × (List Int) × (List Int) × Int × Int) :=
  bif (decide ((((a0.length : Nat) : Int) : Int) > 400)) then
    some (([] : List Int), ([] : List Int), ([] : List Int), 0, 2)
  else
    work_Play_l1 a0 FUEL ([] : List Int) 0 ([] : List Int) (-1) ([] : List Int)


/- slices.Equal(()corebell/api.Errno,corebell/api.Errno) -/
def slices_Equal_api_Errno_l1 (a0 : (List Int)) (a1 : (List Int)) : Nat → Nat → Option (Bool)
  | 0, _ => none
  | n1 + 1, k2 =>
    bif (decide ((((k2 : Nat) : Int) : Int) < ((a0.length : Nat) : Int))) then
      if 0 ≤ (((k2 : Nat) : Int) : Int) ∧ ((k2 : Nat) : Int) < ((a1.length : Nat) : Int) then
      bif (((a0.getD k2 0) : Int) != (a1.getD k2 0)) then
        some false
      else
        slices_Equal_api_Errno_l1 a0 a1 n1 (k2 + 1)
      else none
    else
      some true

def slices_Equal_api_Errno (a0 : (List Int)) (a1 : (List Int)) : Option (Bool) :=
  bif ((((a0.length : Nat) : Int) : Int) != ((a1.length : Nat) : Int)) then
    some false
  else
    slices_Equal_api_Errno_l1 a0 a1 FUEL 0


/- corebell/corebellkeep.alive12 -/
def keep_alive12 : Option (Bool) :=
  (work_Play [(⟨1, 4⟩ : Api_WorkOp), (⟨1, 4⟩ : Api_WorkOp), (⟨2, 0⟩ : Api_WorkOp), (⟨1, 4⟩ : Api_WorkOp), (⟨1, 6⟩ : Api_WorkOp), (⟨3, 0⟩ : Api_WorkOp), (⟨2, 0⟩ : Api_WorkOp)]).bind fun r1 =>
  (bif ((r1.2.2.2.2 : Int) == 0) then slices_Equal_api_Errno r1.1 [0, 6, 0, 0, 0, 0, 0] else some false).bind fun r3 =>
  (bif (((r1.2.2.2.2 : Int) == 0) && r3) then slices_Equal_int r1.2.1 [4] else some false).bind fun r6 =>
  (bif ((((r1.2.2.2.2 : Int) == 0) && r3) && r6) then slices_Equal_int r1.2.2.1 [6] else some false).bind fun r9 =>
  some ((((((r1.2.2.2.2 : Int) == 0) && r3) && r6) && r9) && ((r1.2.2.2.1 : Int) == 4))


/- slices.Clone(()corebell/api.WorkOp,corebell/api.WorkOp) -/
def slices_Clone_api_WorkOp (a0 : List Api_WorkOp) : Option (List Api_WorkOp) := if a0.length * 16 ≤ 140737488355328 then some a0 else none

/- corebell/corebellkeep.WorkCancelled$1 -/
def keep_WorkCancelled_1 (a0 : Int) (a1 : Int) : Option (Bool) :=
  some ((a0 : Int) == a1)


/- slices.IndexFunc(()int,int) -/
def slices_IndexFunc_int_keep_WorkCancelled_1_l1 (a0 : (List Int)) (a1 : Int) : Nat → Nat → Option (Int)
  | 0, _ => none
  | n1 + 1, k1 =>
    bif (decide ((((k1 : Nat) : Int) : Int) < ((a0.length : Nat) : Int))) then
      (keep_WorkCancelled_1 (a0.getD k1 0) a1).bind fun r4 =>
      bif r4 then
        some ((k1 : Nat) : Int)
      else
        slices_IndexFunc_int_keep_WorkCancelled_1_l1 a0 a1 n1 (k1 + 1)
    else
      some (-1)

def slices_IndexFunc_int_keep_WorkCancelled_1 (a0 : (List Int)) (a1 : Int) : Option (Int) :=
  slices_IndexFunc_int_keep_WorkCancelled_1_l1 a0 a1 FUEL 0


/- slices.DeleteFunc(()int,int) -/
def slices_DeleteFunc_int_keep_WorkCancelled_1_h0_l1 (a0 : (List Int)) (a1 : Int) (r1 : Int) : Nat → Int → Int → List Int → Option ((List Int))
  | 0, _, _, _ => none
  | n1 + 1, x4, x5, l6 =>
    bif (decide ((x5 : Int) < ((l6.length : Nat) : Int))) then
      if 0 ≤ (x5 : Int) ∧ x5 < ((l6.length : Nat) : Int) then
      (keep_WorkCancelled_1 (l6.getD (0 + (Int.toNat x5)) 0) a1).bind fun r9 =>
      bif (!r9) then
        if 0 ≤ (x4 : Int) ∧ x4 < ((l6.length : Nat) : Int) then
        slices_DeleteFunc_int_keep_WorkCancelled_1_h0_l1 a0 a1 r1 n1 (IntKind.i64.wrap (x4 + 1)) (IntKind.i64.wrap (x5 + 1)) (l6.set (0 + (Int.toNat x4)) (l6.getD (0 + (Int.toNat x5)) 0))
        else none
      else
        slices_DeleteFunc_int_keep_WorkCancelled_1_h0_l1 a0 a1 r1 n1 x4 (IntKind.i64.wrap (x5 + 1)) l6
      else none
    else
      if 0 ≤ (x4 : Int) then
      if (Int.toNat x4) ≤ l6.length then
      if (0 + (Int.toNat x4)) + (l6.length - (Int.toNat x4)) ≤ l6.length then
      if 0 ≤ (x4 : Int) then
      if (Int.toNat x4) ≤ l6.length then
      some (((cpL l6 (0 + (Int.toNat x4)) (l6.length - (Int.toNat x4)) (List.replicate (l6.length - (Int.toNat x4)) (0 : Int))).drop (0 + 0)).take ((Int.toNat x4) - 0))
      else none
      else none
      else none
      else none
      else none

def slices_DeleteFunc_int_keep_WorkCancelled_1_h0 (a0 : (List Int)) (a1 : Int) : Option ((List Int)) :=
  (slices_IndexFunc_int_keep_WorkCancelled_1 a0 a1).bind fun r1 =>
  bif ((r1 : Int) == (-1)) then
    some a0
  else
    slices_DeleteFunc_int_keep_WorkCancelled_1_h0_l1 a0 a1 r1 FUEL r1 (IntKind.i64.wrap (r1 + 1)) a0


/- corebell/corebellkeep.WorkCancelled -/
def keep_WorkCancelled (a0 : (List Api_WorkOp)) (a1 : Int) : Option (Bool) :=
  (keep_alive12).bind fun r1 =>
  bif (!r1) then
    some false
  else
    (work_Play a0).bind fun r4 =>
    (slices_Clone_api_WorkOp a0).bind fun r6 =>
    if ((r6).length + ([(⟨4, a1⟩ : Api_WorkOp)]).length) * 16 ≤ 140737488355328 ∧ (r6).length + ([(⟨4, a1⟩ : Api_WorkOp)]).length ≤ 140737488355328 then
    (work_Play (r6 ++ [(⟨4, a1⟩ : Api_WorkOp)])).bind fun r9 =>
    bif ((((r4.2.2.2.2 : Int) != 0) || ((r9.2.2.2.2 : Int) != 0)) || ((((r9.1.length : Nat) : Int) : Int) != (IntKind.i64.wrap (((a0.length : Nat) : Int) + 1)))) then
      some (((r4.2.2.2.2 : Int) != 0) || ((r9.2.2.2.2 : Int) != 0))
    else
      (slices_Clone_int r4.2.2.1).bind fun r22 =>
      (slices_DeleteFunc_int_keep_WorkCancelled_1_h0 r22 a1).bind fun r24 =>
      (slices_Equal_int r9.2.1 r4.2.1).bind fun r26 =>
      (bif (r26 && ((r9.2.2.2.1 : Int) == r4.2.2.2.1)) then slices_Equal_int r9.2.2.1 r24 else some false).bind fun r31 =>
      if (((r26 && ((r9.2.2.2.1 : Int) == r4.2.2.2.1)) && r31) = true → (0 ≤ (((a0.length : Nat) : Int) : Int) ∧ ((a0.length : Nat) : Int) < ((r9.1.length : Nat) : Int))) then
      (bif ((r26 && ((r9.2.2.2.1 : Int) == r4.2.2.2.1)) && r31) then slices_Contains_int r4.2.2.1 a1 else some false).bind fun r39 =>
      some (((r26 && ((r9.2.2.2.1 : Int) == r4.2.2.2.1)) && r31) && ((((r9.1.getD (0 + a0.length) 0) : Int) == 0) == r39))
      else none
    else none


end Go.Proofs.Ytdfgmloipigmfaa
