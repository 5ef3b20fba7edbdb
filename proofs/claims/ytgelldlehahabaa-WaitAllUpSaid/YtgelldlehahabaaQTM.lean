/- The models of the functions: printed by program. -/
import Derived.Test.YtgelldlehahabaaAbYg
set_option linter.unusedSimpArgs false
set_option linter.unusedVariables false
namespace Go.Proofs.Ytgelldlehahabaa
open Go Go.Ab

structure Api_WaitOp where
  Kind : Int
  Thread : Int
deriving DecidableEq

structure Wait_queue where
  things_ : Int
  line_ : (List Int)
  woken_ : (List (Int × Bool))
  sleeps_ : (List (Int × Bool))
  got_ : (List Int)
deriving DecidableEq

def Ok_Api_WaitOp (x : Api_WaitOp) : Prop := (-9223372036854775808 ≤ x.Kind ∧ x.Kind ≤ 9223372036854775807) ∧ (-9223372036854775808 ≤ x.Thread ∧ x.Thread ≤ 9223372036854775807)

/- slices.Index(()int,int) -/
def slices_Index_int_l1 (a0 : (List Int)) (a1 : Int) : Nat → Nat → Option (Int)
  | 0, _ => none
  | n1 + 1, k1 =>
    bif (decide ((((k1 : Nat) : Int) : Int) < ((a0.length : Nat) : Int))) then
      bif ((a1 : Int) == (a0.getD k1 0)) then
        some ((k1 : Nat) : Int)
      else
        slices_Index_int_l1 a0 a1 n1 (k1 + 1)
    else
      some (-1)

def slices_Index_int (a0 : (List Int)) (a1 : Int) : Option (Int) :=
  slices_Index_int_l1 a0 a1 FUEL 0


/- slices.Contains(()int,int) -/
def slices_Contains_int (a0 : (List Int)) (a1 : Int) : Option (Bool) :=
  (slices_Index_int a0 a1).bind fun r1 =>
  some (decide ((r1 : Int) ≥ 0))


/- slices.Clone(()int,int) -/
def slices_Clone_int (a0 : List Int) : Option (List Int) := if a0.length * 8 ≤ 140737488355328 then some a0 else none

/- (*corebell/wait.queue).leave$1 -/
def wait_queue_leave_1 (a0 : Int) (a1 : Int) : Option (Bool) :=
  some ((a0 : Int) == a1)


/- slices.IndexFunc(()int,int) -/
def slices_IndexFunc_int_wait_queue_leave_1_l1 (a0 : (List Int)) (a1 : Int) : Nat → Nat → Option (Int)
  | 0, _ => none
  | n1 + 1, k1 =>
    bif (decide ((((k1 : Nat) : Int) : Int) < ((a0.length : Nat) : Int))) then
      (wait_queue_leave_1 (a0.getD k1 0) a1).bind fun r4 =>
      bif r4 then
        some ((k1 : Nat) : Int)
      else
        slices_IndexFunc_int_wait_queue_leave_1_l1 a0 a1 n1 (k1 + 1)
    else
      some (-1)

def slices_IndexFunc_int_wait_queue_leave_1 (a0 : (List Int)) (a1 : Int) : Option (Int) :=
  slices_IndexFunc_int_wait_queue_leave_1_l1 a0 a1 FUEL 0


/- slices.DeleteFunc(()int,int) -/
def slices_DeleteFunc_int_wait_queue_leave_1_h0_l1 (a0 : (List Int)) (a1 : Int) (r1 : Int) : Nat → Int → Int → List Int → Option ((List Int))
  | 0, _, _, _ => none
  | n1 + 1, x4, x5, l6 =>
    bif (decide ((x5 : Int) < ((l6.length : Nat) : Int))) then
      if 0 ≤ (x5 : Int) ∧ x5 < ((l6.length : Nat) : Int) then
      (wait_queue_leave_1 (l6.getD (0 + (Int.toNat x5)) 0) a1).bind fun r9 =>
      bif (!r9) then
        if 0 ≤ (x4 : Int) ∧ x4 < ((l6.length : Nat) : Int) then
        slices_DeleteFunc_int_wait_queue_leave_1_h0_l1 a0 a1 r1 n1 (IntKind.i64.wrap (x4 + 1)) (IntKind.i64.wrap (x5 + 1)) (l6.set (0 + (Int.toNat x4)) (l6.getD (0 + (Int.toNat x5)) 0))
        else none
      else
        slices_DeleteFunc_int_wait_queue_leave_1_h0_l1 a0 a1 r1 n1 x4 (IntKind.i64.wrap (x5 + 1)) l6
      else none
    else
      if 0 ≤ (x4 : Int) then
      if (Int.toNat x4) ≤ l6.length then
      if (0 + (Int.toNat x4)) + (l6.length - (Int.toNat x4)) ≤ l6.length then
      if 0 ≤ (x4 : Int) then
      if (Int.toNat x4) ≤ l6.length then
      some (((cpL l6 (0 + (Int.toNat x4)) (l6.length - (Int.toNat x4)) (List.replicate (l6.length - (Int.toNat x4)) (0 : Int))).drop (0 + 0)).take ((Int.toNat x4) - 0))
      else none
      else none
      else none
      else none
      else none

def slices_DeleteFunc_int_wait_queue_leave_1_h0 (a0 : (List Int)) (a1 : Int) : Option ((List Int)) :=
  (slices_IndexFunc_int_wait_queue_leave_1 a0 a1).bind fun r1 =>
  bif ((r1 : Int) == (-1)) then
    some a0
  else
    slices_DeleteFunc_int_wait_queue_leave_1_h0_l1 a0 a1 r1 FUEL r1 (IntKind.i64.wrap (r1 + 1)) a0


/- (*corebell/wait.queue).leave -/
def wait_queue_leave (a0 : Wait_queue) (a1 : Int) : Option (Wait_queue) :=
  (slices_Clone_int a0.line_).bind fun r1 =>
  (slices_DeleteFunc_int_wait_queue_leave_1_h0 r1 a1).bind fun r3 =>
  some (⟨a0.things_, r3, (mdelete a1 a0.woken_), (mdelete a1 a0.sleeps_), a0.got_⟩ : Wait_queue)


/- (*corebell/wait.queue).wake -/
def wait_queue_wake_l1 (a0 : Wait_queue) : Nat → Nat → Option (Bool × Wait_queue)
  | 0, _ => none
  | n1 + 1, k1 =>
    bif (decide ((((k1 : Nat) : Int) : Int) < ((a0.line_.length : Nat) : Int))) then
      bif (!((mget (a0.line_.getD (0 + k1) 0) a0.woken_).getD false)) then
        some (true, (⟨a0.things_, a0.line_, (mput (a0.line_.getD (0 + k1) 0) true a0.woken_), (mdelete (a0.line_.getD (0 + k1) 0) a0.sleeps_), a0.got_⟩ : Wait_queue))
      else
        wait_queue_wake_l1 a0 n1 (k1 + 1)
    else
      some (false, a0)

def wait_queue_wake (a0 : Wait_queue) : Option (Bool × Wait_queue) :=
  wait_queue_wake_l1 a0 FUEL 0


/- (*corebell/wait.queue).do -/
def wait_queue_do_l1 (a0 : Wait_queue) : Nat → Int → List Int → List (Int × Bool) → List (Int × Bool) → List Int → Option (Int × Wait_queue)
  | 0, _, _, _, _, _ => none
  | n1 + 1, x39, l40, m41, m42, l43 =>
    (wait_queue_wake (⟨x39, l40, m41, m42, l43⟩ : Wait_queue)).bind fun r44 =>
    bif r44.1 then
      wait_queue_do_l1 a0 n1 r44.2.things_ r44.2.line_ r44.2.woken_ r44.2.sleeps_ r44.2.got_
    else
      some (0, r44.2)

def wait_queue_do (a0 : Wait_queue) (a1 : Api_WaitOp) : Option (Int × Wait_queue) :=
  bif ((decide ((a1.Kind : Int) < 1)) || (decide ((a1.Kind : Int) > 5))) then
    some (5, a0)
  else
    bif ((decide ((a1.Thread : Int) < 0)) || (decide ((a1.Thread : Int) > 63))) then
      some (2, a0)
    else
      (slices_Contains_int a0.line_ a1.Thread).bind fun r9 =>
      bif ((a1.Kind : Int) == 1) then
        bif ((mget a1.Thread a0.sleeps_).getD false) then
          some (7, a0)
        else
          bif (!r9) then
            if ((a0.line_).length + ([a1.Thread]).length) * 8 ≤ 140737488355328 ∧ (a0.line_).length + ([a1.Thread]).length ≤ 140737488355328 then
            some (0, (⟨a0.things_, (a0.line_ ++ [a1.Thread]), (mdelete a1.Thread a0.woken_), a0.sleeps_, a0.got_⟩ : Wait_queue))
            else none
          else
            some (0, (⟨a0.things_, a0.line_, (mdelete a1.Thread a0.woken_), a0.sleeps_, a0.got_⟩ : Wait_queue))
      else
        bif ((a1.Kind : Int) == 2) then
          bif ((mget a1.Thread a0.sleeps_).getD false) then
            some (7, a0)
          else
            bif (!r9) then
              some (3, a0)
            else
              bif ((a0.things_ : Int) == 0) then
                some (6, a0)
              else
                (wait_queue_leave (⟨(IntKind.i64.wrap (a0.things_ - 1)), a0.line_, a0.woken_, a0.sleeps_, a0.got_⟩ : Wait_queue) a1.Thread).bind fun r19 =>
                if ((r19.got_).length + ([a1.Thread]).length) * 8 ≤ 140737488355328 ∧ (r19.got_).length + ([a1.Thread]).length ≤ 140737488355328 then
                bif (decide ((r19.things_ : Int) > 0)) then
                  (wait_queue_wake (⟨r19.things_, r19.line_, r19.woken_, r19.sleeps_, (r19.got_ ++ [a1.Thread])⟩ : Wait_queue)).bind fun r23 =>
                  some (0, r23.2)
                else
                  some (0, (⟨r19.things_, r19.line_, r19.woken_, r19.sleeps_, (r19.got_ ++ [a1.Thread])⟩ : Wait_queue))
                else none
        else
          bif ((a1.Kind : Int) == 3) then
            bif ((mget a1.Thread a0.sleeps_).getD false) then
              some (7, a0)
            else
              bif (!r9) then
                some (3, a0)
              else
                bif ((!((mget a1.Thread a0.woken_).getD false)) && ((a0.things_ : Int) == 0)) then
                  some (0, (⟨a0.things_, a0.line_, a0.woken_, (mput a1.Thread true a0.sleeps_), a0.got_⟩ : Wait_queue))
                else
                  some (0, a0)
          else
            bif ((a1.Kind : Int) == 4) then
              bif ((a0.things_ : Int) == 400) then
                some (4, a0)
              else
                (wait_queue_wake (⟨(IntKind.i64.wrap (a0.things_ + 1)), a0.line_, a0.woken_, a0.sleeps_, a0.got_⟩ : Wait_queue)).bind fun r36 =>
                some (0, r36.2)
            else
              bif ((a1.Kind : Int) == 5) then
                wait_queue_do_l1 a0 FUEL a0.things_ a0.line_ a0.woken_ a0.sleeps_ a0.got_
              else
                some (0, a0)


/- corebell/wait.Play$1 -/
def wait_Play_1 (a0 : Int) (a1 : Wait_queue) : Option (Bool) :=
  some (!((mget a0 a1.sleeps_).getD false))


/- slices.IndexFunc(()int,int) -/
def slices_IndexFunc_int_wait_Play_1_h0_l1 (a0 : (List Int)) (a1 : Wait_queue) : Nat → Nat → List Int → List (Int × Bool) → List (Int × Bool) → List Int → Option (Int × Wait_queue)
  | 0, _, _, _, _, _ => none
  | n1 + 1, k1, l2, m3, m4, l5 =>
    bif (decide ((((k1 : Nat) : Int) : Int) < ((a0.length : Nat) : Int))) then
      (wait_Play_1 (a0.getD (0 + k1) 0) (⟨a1.things_, l2, m3, m4, l5⟩ : Wait_queue)).bind fun r8 =>
      bif r8 then
        some (((k1 : Nat) : Int), (⟨a1.things_, l2, m3, m4, l5⟩ : Wait_queue))
      else
        slices_IndexFunc_int_wait_Play_1_h0_l1 a0 a1 n1 (k1 + 1) l2 m3 m4 l5
    else
      some ((-1), (⟨a1.things_, l2, m3, m4, l5⟩ : Wait_queue))

def slices_IndexFunc_int_wait_Play_1_h0 (a0 : (List Int)) (a1 : Wait_queue) : Option (Int × Wait_queue) :=
  slices_IndexFunc_int_wait_Play_1_h0_l1 a0 a1 FUEL 0 a1.line_ a1.woken_ a1.sleeps_ a1.got_


/- slices.DeleteFunc(()int,int) -/
def slices_DeleteFunc_int_wait_Play_1_h0_l1 (a0 : (List Int)) (r1 : Int × Wait_queue) : Nat → Int → Int → List Int → List (Int × Bool) → List (Int × Bool) → List Int → List Int → Option ((List Int) × Wait_queue)
  | 0, _, _, _, _, _, _, _ => none
  | n1 + 1, x4, x5, l6, m7, m8, l9, l10 =>
    bif (decide ((x5 : Int) < ((l10.length : Nat) : Int))) then
      if 0 ≤ (x5 : Int) ∧ x5 < ((l10.length : Nat) : Int) then
      (wait_Play_1 (l10.getD (0 + (Int.toNat x5)) 0) (⟨r1.2.things_, l6, m7, m8, l9⟩ : Wait_queue)).bind fun r13 =>
      bif (!r13) then
        if 0 ≤ (x4 : Int) ∧ x4 < ((l10.length : Nat) : Int) then
        slices_DeleteFunc_int_wait_Play_1_h0_l1 a0 r1 n1 (IntKind.i64.wrap (x4 + 1)) (IntKind.i64.wrap (x5 + 1)) l6 m7 m8 l9 (l10.set (0 + (Int.toNat x4)) (l10.getD (0 + (Int.toNat x5)) 0))
        else none
      else
        slices_DeleteFunc_int_wait_Play_1_h0_l1 a0 r1 n1 x4 (IntKind.i64.wrap (x5 + 1)) l6 m7 m8 l9 l10
      else none
    else
      if 0 ≤ (x4 : Int) then
      if (Int.toNat x4) ≤ l10.length then
      if (0 + (Int.toNat x4)) + (l10.length - (Int.toNat x4)) ≤ l10.length then
      if 0 ≤ (x4 : Int) then
      if (Int.toNat x4) ≤ l10.length then
      some ((((cpL l10 (0 + (Int.toNat x4)) (l10.length - (Int.toNat x4)) (List.replicate (l10.length - (Int.toNat x4)) (0 : Int))).drop (0 + 0)).take ((Int.toNat x4) - 0)), (⟨r1.2.things_, l6, m7, m8, l9⟩ : Wait_queue))
      else none
      else none
      else none
      else none
      else none

def slices_DeleteFunc_int_wait_Play_1_h0 (a0 : (List Int)) (a1 : Wait_queue) : Option ((List Int) × Wait_queue) :=
  (slices_IndexFunc_int_wait_Play_1_h0 a0 a1).bind fun r1 =>
  bif ((r1.1 : Int) == (-1)) then
    some (a0, r1.2)
  else
    slices_DeleteFunc_int_wait_Play_1_h0_l1 a0 r1 FUEL r1.1 (IntKind.i64.wrap (r1.1 + 1)) r1.2.line_ r1.2.woken_ r1.2.sleeps_ r1.2.got_ a0


/- corebell/wait.Play -/
def wait_Play_l1 (a0 : (List Api_WaitOp)) : Nat → List Int → Nat → Int → List Int → List (Int × Bool) → List (Int × Bool) → List Int → Option ((List Int) × (List Int) × (List Int) × Int)
  | 0, _, _, _, _, _, _, _ => none
  | n1 + 1, l1, k2, x3, l4, m5, m6, l7 =>
    bif (decide ((((k2 : Nat) : Int) : Int) < ((a0.length : Nat) : Int))) then
      (wait_queue_do (⟨x3, l4, m5, m6, l7⟩ : Wait_queue) (a0.getD k2 (⟨0, 0⟩ : Api_WaitOp))).bind fun r10 =>
      if ((l1).length + ([r10.1]).length) * 8 ≤ 140737488355328 ∧ (l1).length + ([r10.1]).length ≤ 140737488355328 then
      wait_Play_l1 a0 n1 (l1 ++ [r10.1]) (k2 + 1) r10.2.things_ r10.2.line_ r10.2.woken_ r10.2.sleeps_ r10.2.got_
      else none
    else
      (slices_Clone_int l4).bind fun r13 =>
      (slices_DeleteFunc_int_wait_Play_1_h0 r13 (⟨x3, l4, m5, m6, l7⟩ : Wait_queue)).bind fun r15 =>
      some (l1, r15.2.got_, r15.1, r15.2.things_)

def wait_Play (a0 : (List Api_WaitOp)) : Option ((List Int) × (List Int) × (List Int) × Int) :=
  wait_Play_l1 a0 FUEL ([] : List Int) 0 0 ([] : List Int) ([] : List (Int × Bool)) ([] : List (Int × Bool)) ([] : List Int)


/- slices.Equal(()corebell/api.Errno,corebell/api.Errno) -/
def slices_Equal_api_Errno_l1 (a0 : (List Int)) (a1 : (List Int)) : Nat → Nat → Option (Bool)
  | 0, _ => none
  | n1 + 1, k2 =>
    bif (decide ((((k2 : Nat) : Int) : Int) < ((a0.length : Nat) : Int))) then
      if 0 ≤ (((k2 : Nat) : Int) : Int) ∧ ((k2 : Nat) : Int) < ((a1.length : Nat) : Int) then
      bif (((a0.getD k2 0) : Int) != (a1.getD k2 0)) then
        some false
      else
        slices_Equal_api_Errno_l1 a0 a1 n1 (k2 + 1)
      else none
    else
      some true

def slices_Equal_api_Errno (a0 : (List Int)) (a1 : (List Int)) : Option (Bool) :=
  bif ((((a0.length : Nat) : Int) : Int) != ((a1.length : Nat) : Int)) then
    some false
  else
    slices_Equal_api_Errno_l1 a0 a1 FUEL 0


/- slices.Equal(()int,int) -/
def slices_Equal_int_l1 (a0 : (List Int)) (a1 : (List Int)) : Nat → Nat → Option (Bool)
  | 0, _ => none
  | n1 + 1, k2 =>
    bif (decide ((((k2 : Nat) : Int) : Int) < ((a0.length : Nat) : Int))) then
      if 0 ≤ (((k2 : Nat) : Int) : Int) ∧ ((k2 : Nat) : Int) < ((a1.length : Nat) : Int) then
      bif (((a0.getD k2 0) : Int) != (a1.getD k2 0)) then
        some false
      else
        slices_Equal_int_l1 a0 a1 n1 (k2 + 1)
      else none
    else
      some true

def slices_Equal_int (a0 : (List Int)) (a1 : (List Int)) : Option (Bool) :=
  bif ((((a0.length : Nat) : Int) : Int) != ((a1.length : Nat) : Int)) then
    some false
  else
    slices_Equal_int_l1 a0 a1 FUEL 0


/- corebell/corebellkeep.alive15 -/
def keep_alive15 : Option (Bool) :=
  (wait_Play [(⟨1, 3⟩ : Api_WaitOp), (⟨2, 3⟩ : Api_WaitOp), (⟨4, 0⟩ : Api_WaitOp), (⟨3, 3⟩ : Api_WaitOp), (⟨2, 3⟩ : Api_WaitOp), (⟨1, 5⟩ : Api_WaitOp), (⟨3, 5⟩ : Api_WaitOp)]).bind fun r1 =>
  (slices_Equal_api_Errno r1.1 [0, 6, 0, 0, 0, 0, 0]).bind fun r3 =>
  (bif r3 then slices_Equal_int r1.2.1 [3] else some false).bind fun r5 =>
  (bif (r3 && r5) then slices_Equal_int r1.2.2.1 [5] else some false).bind fun r8 =>
  some (((r3 && r5) && r8) && ((r1.2.2.2 : Int) == 0))


/- slices.Clone(()corebell/api.WaitOp,corebell/api.WaitOp) -/
def slices_Clone_api_WaitOp (a0 : List Api_WaitOp) : Option (List Api_WaitOp) := if a0.length * 16 ≤ 140737488355328 then some a0 else none

/- corebell/corebellkeep.WaitNever -/
def keep_WaitNever_l1 (a0 : (List Api_WaitOp)) (r4 : (List Int) × (List Int) × (List Int) × Int) : Nat → Nat → Option (Bool)
  | 0, _ => none
  | n1 + 1, k10 =>
    bif (decide ((((k10 : Nat) : Int) : Int) < 64)) then
      (slices_Contains_int r4.2.2.1 ((k10 : Nat) : Int)).bind fun r12 =>
      bif r12 then
        keep_WaitNever_l1 a0 r4 n1 (k10 + 1)
      else
        (slices_Clone_api_WaitOp a0).bind fun r15 =>
        if ((r15).length + ([(⟨2, ((k10 : Nat) : Int)⟩ : Api_WaitOp)]).length) * 16 ≤ 140737488355328 ∧ (r15).length + ([(⟨2, ((k10 : Nat) : Int)⟩ : Api_WaitOp)]).length ≤ 140737488355328 then
        (wait_Play (r15 ++ [(⟨2, ((k10 : Nat) : Int)⟩ : Api_WaitOp)])).bind fun r18 =>
        if (((((r18.1.length : Nat) : Int) : Int) == (IntKind.i64.wrap (((a0.length : Nat) : Int) + 1))) = true → (0 ≤ (((a0.length : Nat) : Int) : Int) ∧ ((a0.length : Nat) : Int) < ((r18.1.length : Nat) : Int))) then
        if (((((((r18.1.length : Nat) : Int) : Int) == (IntKind.i64.wrap (((a0.length : Nat) : Int) + 1))) && (((r18.1.getD (0 + a0.length) 0) : Int) == 0)) && (decide ((((r18.2.1.length : Nat) : Int) : Int) > 0))) = true → (0 ≤ ((IntKind.i64.wrap (((r18.2.1.length : Nat) : Int) - 1)) : Int) ∧ (IntKind.i64.wrap (((r18.2.1.length : Nat) : Int) - 1)) < ((r18.2.1.length : Nat) : Int))) then
        bif (((((((r18.1.length : Nat) : Int) : Int) == (IntKind.i64.wrap (((a0.length : Nat) : Int) + 1))) && (((r18.1.getD (0 + a0.length) 0) : Int) == 0)) && (decide ((((r18.2.1.length : Nat) : Int) : Int) > 0))) && (((r18.2.1.getD (0 + (Int.toNat (IntKind.i64.wrap (((r18.2.1.length : Nat) : Int) - 1)))) 0) : Int) == ((k10 : Nat) : Int))) then
          some true
        else
          keep_WaitNever_l1 a0 r4 n1 (k10 + 1)
        else none
        else none
        else none
    else
      some false

def keep_WaitNever (a0 : (List Api_WaitOp)) : Option (Bool) :=
  (keep_alive15).bind fun r1 =>
  bif (!r1) then
    some false
  else
    (wait_Play a0).bind fun r4 =>
    bif (((r4.2.2.2 : Int) == 0) || ((((r4.2.2.1.length : Nat) : Int) : Int) == 0)) then
      some true
    else
      keep_WaitNever_l1 a0 r4 FUEL 0


/- corebell/corebellkeep.WaitSum -/
def keep_WaitSum_l1 (a0 : (List Api_WaitOp)) (r4 : (List Int) × (List Int) × (List Int) × Int) : Nat → Int → Nat → Option (Bool)
  | 0, _, _ => none
  | n1 + 1, x6, k7 =>
    bif (decide ((((k7 : Nat) : Int) : Int) < ((a0.length : Nat) : Int))) then
      if ((decide ((((k7 : Nat) : Int) : Int) < ((r4.1.length : Nat) : Int))) = true → (0 ≤ (((k7 : Nat) : Int) : Int) ∧ ((k7 : Nat) : Int) < ((r4.1.length : Nat) : Int))) then
      bif (((decide ((((k7 : Nat) : Int) : Int) < ((r4.1.length : Nat) : Int))) && (((r4.1.getD (0 + k7) 0) : Int) == 0)) && (((a0.getD k7 (⟨0, 0⟩ : Api_WaitOp)).Kind : Int) == 4)) then
        keep_WaitSum_l1 a0 r4 n1 (IntKind.i64.wrap (x6 + 1)) (k7 + 1)
      else
        keep_WaitSum_l1 a0 r4 n1 x6 (k7 + 1)
      else none
    else
      some ((((((r4.1.length : Nat) : Int) : Int) == ((a0.length : Nat) : Int)) && (decide ((r4.2.2.2 : Int) ≥ 0))) && (((IntKind.i64.wrap (((r4.2.1.length : Nat) : Int) + r4.2.2.2)) : Int) == x6))

def keep_WaitSum (a0 : (List Api_WaitOp)) : Option (Bool) :=
  (keep_alive15).bind fun r1 =>
  bif (!r1) then
    some false
  else
    (wait_Play a0).bind fun r4 =>
    keep_WaitSum_l1 a0 r4 FUEL 0 0


/- corebell/corebellkeep.WaitFirst -/
def keep_WaitFirst_l2 (a1 : Int) (l4 : List Int) (l5 : List Api_WaitOp) : Nat → List Api_WaitOp → Int → Option (Bool)
  | 0, _, _ => none
  | n2 + 1, l20, x21 =>
    bif (decide ((x21 : Int) < a1)) then
      if ((l20).length + ([(⟨4, 0⟩ : Api_WaitOp)]).length) * 16 ≤ 140737488355328 ∧ (l20).length + ([(⟨4, 0⟩ : Api_WaitOp)]).length ≤ 140737488355328 then
      keep_WaitFirst_l2 a1 l4 l5 n2 (l20 ++ [(⟨4, 0⟩ : Api_WaitOp)]) (IntKind.i64.wrap (x21 + 1))
      else none
    else
      (wait_Play l20).bind fun r24 =>
      if (((r24.2.2.2 : Int) == a1) = true → (0 ≤ ((if (((l4.length : Nat) : Int) : Int) < a1 then ((l4.length : Nat) : Int) else a1) : Int))) then
      if (((r24.2.2.2 : Int) == a1) = true → ((Int.toNat (if (((l4.length : Nat) : Int) : Int) < a1 then ((l4.length : Nat) : Int) else a1)) ≤ l4.length)) then
      (bif ((r24.2.2.2 : Int) == a1) then slices_Equal_int r24.2.2.1 ((l4.drop (0 + (Int.toNat (if (((l4.length : Nat) : Int) : Int) < a1 then ((l4.length : Nat) : Int) else a1)))).take (l4.length - (Int.toNat (if (((l4.length : Nat) : Int) : Int) < a1 then ((l4.length : Nat) : Int) else a1)))) else some false).bind fun r33 =>
      some (((r24.2.2.2 : Int) == a1) && r33)
      else none
      else none

def keep_WaitFirst_l1 (a0 : (List Int)) (a1 : Int) : Nat → List Int → List Api_WaitOp → Nat → Option (Bool)
  | 0, _, _, _ => none
  | n1 + 1, l4, l5, k6 =>
    bif (decide ((((k6 : Nat) : Int) : Int) < ((a0.length : Nat) : Int))) then
      (bif (!((decide (((a0.getD k6 0) : Int) < 0)) || (decide (((a0.getD k6 0) : Int) > 63)))) then slices_Contains_int l4 (a0.getD k6 0) else some false).bind fun r11 =>
      bif (((decide (((a0.getD k6 0) : Int) < 0)) || (decide (((a0.getD k6 0) : Int) > 63))) || r11) then
        keep_WaitFirst_l1 a0 a1 n1 l4 l5 (k6 + 1)
      else
        if ((l4).length + ([(a0.getD k6 0)]).length) * 8 ≤ 140737488355328 ∧ (l4).length + ([(a0.getD k6 0)]).length ≤ 140737488355328 then
        if ((l5).length + ([(⟨1, (a0.getD k6 0)⟩ : Api_WaitOp), (⟨3, (a0.getD k6 0)⟩ : Api_WaitOp)]).length) * 16 ≤ 140737488355328 ∧ (l5).length + ([(⟨1, (a0.getD k6 0)⟩ : Api_WaitOp), (⟨3, (a0.getD k6 0)⟩ : Api_WaitOp)]).length ≤ 140737488355328 then
        keep_WaitFirst_l1 a0 a1 n1 (l4 ++ [(a0.getD k6 0)]) (l5 ++ [(⟨1, (a0.getD k6 0)⟩ : Api_WaitOp), (⟨3, (a0.getD k6 0)⟩ : Api_WaitOp)]) (k6 + 1)
        else none
        else none
    else
      bif ((decide ((a1 : Int) < 0)) || (decide ((a1 : Int) > 100))) then
        some true
      else
        keep_WaitFirst_l2 a1 l4 l5 FUEL l5 0

def keep_WaitFirst (a0 : (List Int)) (a1 : Int) : Option (Bool) :=
  (keep_alive15).bind fun r1 =>
  bif (!r1) then
    some false
  else
    keep_WaitFirst_l1 a0 a1 FUEL ([] : List Int) ([] : List Api_WaitOp) 0


/- corebell/corebellkeep.WaitAllUp -/
def keep_WaitAllUp (a0 : (List Api_WaitOp)) (a1 : Int) : Option (Bool) :=
  (keep_alive15).bind fun r1 =>
  bif (!r1) then
    some false
  else
    (wait_Play a0).bind fun r4 =>
    (slices_Clone_api_WaitOp a0).bind fun r6 =>
    if ((r6).length + ([(⟨5, 0⟩ : Api_WaitOp), (⟨3, a1⟩ : Api_WaitOp)]).length) * 16 ≤ 140737488355328 ∧ (r6).length + ([(⟨5, 0⟩ : Api_WaitOp), (⟨3, a1⟩ : Api_WaitOp)]).length ≤ 140737488355328 then
    (wait_Play (r6 ++ [(⟨5, 0⟩ : Api_WaitOp), (⟨3, a1⟩ : Api_WaitOp)])).bind fun r9 =>
    if (((((r9.1.length : Nat) : Int) : Int) == (IntKind.i64.wrap (((a0.length : Nat) : Int) + 2))) = true → (0 ≤ (((a0.length : Nat) : Int) : Int) ∧ ((a0.length : Nat) : Int) < ((r9.1.length : Nat) : Int))) then
    (bif ((((((r9.1.length : Nat) : Int) : Int) == (IntKind.i64.wrap (((a0.length : Nat) : Int) + 2))) && (((r9.1.getD (0 + a0.length) 0) : Int) == 0)) && ((((r9.2.2.1.length : Nat) : Int) : Int) == 0)) then slices_Equal_int r4.2.1 r9.2.1 else some false).bind fun r20 =>
    some ((((((((r9.1.length : Nat) : Int) : Int) == (IntKind.i64.wrap (((a0.length : Nat) : Int) + 2))) && (((r9.1.getD (0 + a0.length) 0) : Int) == 0)) && ((((r9.2.2.1.length : Nat) : Int) : Int) == 0)) && r20) && ((r9.2.2.2 : Int) == r4.2.2.2))
    else none
    else none


end Go.Proofs.Ytgelldlehahabaa
