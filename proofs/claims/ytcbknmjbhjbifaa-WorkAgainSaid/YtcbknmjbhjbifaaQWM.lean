/- The models of the functions: printed by program. -/
import Derived.Test.YtcbknmjbhjbifaaAbYg
import Derived.Lib.BitFns
set_option linter.unusedSimpArgs false
set_option linter.unusedVariables false
namespace Go.Proofs.Ytcbknmjbhjbifaa
open Go Go.Ab

structure Api_WorkOp where
  Kind : Int
  Item : Int
deriving DecidableEq

structure Work_queue where
  waits_ : (List Int)
  begun_ : Int
  done_ : (List Int)
deriving DecidableEq

def Ok_Api_WorkOp (x : Api_WorkOp) : Prop := (-9223372036854775808 ≤ x.Kind ∧ x.Kind ≤ 9223372036854775807) ∧ (-9223372036854775808 ≤ x.Item ∧ x.Item ≤ 9223372036854775807)

/- slices.Index(()int,int) -/
def slices_Index_int_l1 (a0 : (List Int)) (a1 : Int) : Nat → Nat → Option (Int)
  | 0, _ => none
  | n1 + 1, k1 =>
    bif (decide ((((k1 : Nat) : Int) : Int) < ((a0.length : Nat) : Int))) then
      bif ((a1 : Int) == (a0.getD k1 0)) then
        some ((k1 : Nat) : Int)
      else
        slices_Index_int_l1 a0 a1 n1 (k1 + 1)
    else
      some (-1)

def slices_Index_int (a0 : (List Int)) (a1 : Int) : Option (Int) :=
  slices_Index_int_l1 a0 a1 FUEL 0


/- slices.Contains(()int,int) -/
def slices_Contains_int (a0 : (List Int)) (a1 : Int) : Option (Bool) :=
  (slices_Index_int a0 a1).bind fun r1 =>
  some (decide ((r1 : Int) ≥ 0))


/- (*corebell/work.queue).begin -/
def work_queue_begin (a0 : Work_queue) : Option (Int × Work_queue) :=
  bif (decide ((a0.begun_ : Int) ≥ 0)) then
    some (6, a0)
  else
    bif ((((a0.waits_.length : Nat) : Int) : Int) == 0) then
      some (3, a0)
    else
      if 0 ≤ (0 : Int) ∧ 0 < ((a0.waits_.length : Nat) : Int) then
      if 1 ≤ a0.waits_.length then
      some (0, (⟨((a0.waits_.drop (0 + 1)).take (a0.waits_.length - 1)), (a0.waits_.getD (0 + 0) 0), a0.done_⟩ : Work_queue))
      else none
      else none


/- (*corebell/work.queue).end -/
def work_queue_end (a0 : Work_queue) : Option (Int × Work_queue) :=
  bif (decide ((a0.begun_ : Int) < 0)) then
    some (3, a0)
  else
    if ((a0.done_).length + ([a0.begun_]).length) * 8 ≤ 140737488355328 ∧ (a0.done_).length + ([a0.begun_]).length ≤ 140737488355328 then
    some (0, (⟨a0.waits_, (-1), (a0.done_ ++ [a0.begun_])⟩ : Work_queue))
    else none


/- slices.Clone(()int,int) -/
def slices_Clone_int (a0 : List Int) : Option (List Int) := if a0.length * 8 ≤ 140737488355328 then some a0 else none

def slices_Delete_int (a0 : List Int) (a1 a2 : Int) : Option (List Int) := if 0 ≤ a1 ∧ a1 ≤ a2 ∧ a2 ≤ a0.length then some (a0.take a1.toNat ++ a0.drop a2.toNat) else none

/- (*corebell/work.queue).busy -/
def work_queue_busy (a0 : Work_queue) (a1 : Int) : Option (Bool) :=
  (bif (!((a0.begun_ : Int) == a1)) then slices_Contains_int a0.waits_ a1 else some false).bind fun r4 =>
  some (((a0.begun_ : Int) == a1) || r4)


/- (*corebell/work.queue).do -/
def work_queue_do_l1 (a0 : Work_queue) (a1 : Api_WorkOp) : Nat → List Int → Int → List Int → Option (Int × Work_queue)
  | 0, _, _, _ => none
  | n1 + 1, l37, x38, l39 =>
    (work_queue_busy (⟨l37, x38, l39⟩ : Work_queue) a1.Item).bind fun r40 =>
    bif r40 then
      (work_queue_begin (⟨l37, x38, l39⟩ : Work_queue)).bind fun r43 =>
      bif ((r43.1 : Int) == 6) then
        (work_queue_end r43.2).bind fun r46 =>
        work_queue_do_l1 a0 a1 n1 r46.2.waits_ r46.2.begun_ r46.2.done_
      else
        work_queue_do_l1 a0 a1 n1 r43.2.waits_ r43.2.begun_ r43.2.done_
    else
      some (0, (⟨l37, x38, l39⟩ : Work_queue))

def work_queue_do (a0 : Work_queue) (a1 : Api_WorkOp) : Option (Int × Work_queue) :=
  bif ((decide ((a1.Kind : Int) < 1)) || (decide ((a1.Kind : Int) > 5))) then
    some (5, a0)
  else
    bif ((((a1.Kind : Int) != 2) && ((a1.Kind : Int) != 3)) && ((decide ((a1.Item : Int) < 0)) || (decide ((a1.Item : Int) > 99)))) then
      some (2, a0)
    else
      bif ((a1.Kind : Int) == 1) then
        (slices_Contains_int a0.waits_ a1.Item).bind fun r18 =>
        bif r18 then
          some (6, a0)
        else
          if ((a0.waits_).length + ([a1.Item]).length) * 8 ≤ 140737488355328 ∧ (a0.waits_).length + ([a1.Item]).length ≤ 140737488355328 then
          some (0, (⟨(a0.waits_ ++ [a1.Item]), a0.begun_, a0.done_⟩ : Work_queue))
          else none
      else
        bif ((a1.Kind : Int) == 2) then
          (work_queue_begin a0).bind fun r23 =>
          some (r23.1, r23.2)
        else
          bif ((a1.Kind : Int) == 3) then
            (work_queue_end a0).bind fun r26 =>
            some (r26.1, r26.2)
          else
            bif ((a1.Kind : Int) == 4) then
              (slices_Index_int a0.waits_ a1.Item).bind fun r29 =>
              bif (decide ((r29 : Int) < 0)) then
                some (3, a0)
              else
                (slices_Clone_int a0.waits_).bind fun r32 =>
                (slices_Delete_int r32 r29 (IntKind.i64.wrap (r29 + 1))).bind fun r34 =>
                some (0, (⟨r34, a0.begun_, a0.done_⟩ : Work_queue))
            else
              bif ((a1.Kind : Int) == 5) then
                work_queue_do_l1 a0 a1 FUEL a0.waits_ a0.begun_ a0.done_
              else
                some (0, a0)


/- corebell/work.Play -/
def work_Play_l1 (a0 : (List Api_WorkOp)) : Nat → List Int → Nat → List Int → Int → List Int → Option ((List Int) × (List Int) × (List Int) × Int × Int)
  | 0, _, _, _, _, _ => none
  | n1 + 1, l2, k3, l4, x5, l6 =>
    bif (decide ((((k3 : Nat) : Int) : Int) < ((a0.length : Nat) : Int))) then
      (work_queue_do (⟨l4, x5, l6⟩ : Work_queue) (a0.getD k3 (⟨0, 0⟩ : Api_WorkOp))).bind fun r9 =>
      if ((l2).length + ([r9.1]).length) * 8 ≤ 140737488355328 ∧ (l2).length + ([r9.1]).length ≤ 140737488355328 then
      work_Play_l1 a0 n1 (l2 ++ [r9.1]) (k3 + 1) r9.2.waits_ r9.2.begun_ r9.2.done_
      else none
    else
      (slices_Clone_int l4).bind fun r12 =>
      some (l2, l6, r12, x5, 0)

def work_Play (a0 : (List Api_WorkOp)) : Option ((List Int) × (List Int) × (List Int) × Int × Int) :=
  bif (decide ((((a0.length : Nat) : Int) : Int) > 400)) then
    some (([] : List Int), ([] : List Int), ([] : List Int), 0, 2)
  else
    work_Play_l1 a0 FUEL ([] : List Int) 0 ([] : List Int) (-1) ([] : List Int)


/- slices.Equal(()corebell/api.Errno,corebell/api.Errno) -/
def slices_Equal_api_Errno_l1 (a0 : (List Int)) (a1 : (List Int)) : Nat → Nat → Option (Bool)
  | 0, _ => none
  | n1 + 1, k2 =>
    bif (decide ((((k2 : Nat) : Int) : Int) < ((a0.length : Nat) : Int))) then
      if 0 ≤ (((k2 : Nat) : Int) : Int) ∧ ((k2 : Nat) : Int) < ((a1.length : Nat) : Int) then
      bif (((a0.getD k2 0) : Int) != (a1.getD k2 0)) then
        some false
      else
        slices_Equal_api_Errno_l1 a0 a1 n1 (k2 + 1)
      else none
    else
      some true

def slices_Equal_api_Errno (a0 : (List Int)) (a1 : (List Int)) : Option (Bool) :=
  bif ((((a0.length : Nat) : Int) : Int) != ((a1.length : Nat) : Int)) then
    some false
  else
    slices_Equal_api_Errno_l1 a0 a1 FUEL 0


/- slices.Equal(()int,int) -/
def slices_Equal_int_l1 (a0 : (List Int)) (a1 : (List Int)) : Nat → Nat → Option (Bool)
  | 0, _ => none
  | n1 + 1, k2 =>
    bif (decide ((((k2 : Nat) : Int) : Int) < ((a0.length : Nat) : Int))) then
      if 0 ≤ (((k2 : Nat) : Int) : Int) ∧ ((k2 : Nat) : Int) < ((a1.length : Nat) : Int) then
      bif (((a0.getD k2 0) : Int) != (a1.getD k2 0)) then
        some false
      else
        slices_Equal_int_l1 a0 a1 n1 (k2 + 1)
      else none
    else
      some true

def slices_Equal_int (a0 : (List Int)) (a1 : (List Int)) : Option (Bool) :=
  bif ((((a0.length : Nat) : Int) : Int) != ((a1.length : Nat) : Int)) then
    some false
  else
    slices_Equal_int_l1 a0 a1 FUEL 0


/- corebell/corebellkeep.alive12 -/
def keep_alive12 : Option (Bool) :=
  (work_Play [(⟨1, 4⟩ : Api_WorkOp), (⟨1, 4⟩ : Api_WorkOp), (⟨2, 0⟩ : Api_WorkOp), (⟨1, 4⟩ : Api_WorkOp), (⟨1, 6⟩ : Api_WorkOp), (⟨3, 0⟩ : Api_WorkOp), (⟨2, 0⟩ : Api_WorkOp)]).bind fun r1 =>
  (bif ((r1.2.2.2.2 : Int) == 0) then slices_Equal_api_Errno r1.1 [0, 6, 0, 0, 0, 0, 0] else some false).bind fun r3 =>
  (bif (((r1.2.2.2.2 : Int) == 0) && r3) then slices_Equal_int r1.2.1 [4] else some false).bind fun r6 =>
  (bif ((((r1.2.2.2.2 : Int) == 0) && r3) && r6) then slices_Equal_int r1.2.2.1 [6] else some false).bind fun r9 =>
  some ((((((r1.2.2.2.2 : Int) == 0) && r3) && r6) && r9) && ((r1.2.2.2.1 : Int) == 4))


/- corebell/corebellkeep.WorkOnce -/
def keep_WorkOnce_l1 (a0 : (List Api_WorkOp)) (r4 : (List Int) × (List Int) × (List Int) × Int × Int) : Nat → List Int → Bool → Nat → Option (Bool)
  | 0, _, _, _ => none
  | n1 + 1, l15, b16, k17 =>
    bif (decide ((((k17 : Nat) : Int) : Int) < ((a0.length : Nat) : Int))) then
      if 0 ≤ (((k17 : Nat) : Int) : Int) ∧ ((k17 : Nat) : Int) < ((r4.1.length : Nat) : Int) then
      bif (((r4.1.getD (0 + k17) 0) : Int) != 0) then
        keep_WorkOnce_l1 a0 r4 n1 l15 b16 (k17 + 1)
      else
        bif (((a0.getD k17 (⟨0, 0⟩ : Api_WorkOp)).Kind : Int) == 1) then
          if ((l15).length + ([(a0.getD k17 (⟨0, 0⟩ : Api_WorkOp)).Item]).length) * 8 ≤ 140737488355328 ∧ (l15).length + ([(a0.getD k17 (⟨0, 0⟩ : Api_WorkOp)).Item]).length ≤ 140737488355328 then
          keep_WorkOnce_l1 a0 r4 n1 (l15 ++ [(a0.getD k17 (⟨0, 0⟩ : Api_WorkOp)).Item]) (b16 || (((a0.getD k17 (⟨0, 0⟩ : Api_WorkOp)).Kind : Int) == 4)) (k17 + 1)
          else none
        else
          keep_WorkOnce_l1 a0 r4 n1 l15 (b16 || (((a0.getD k17 (⟨0, 0⟩ : Api_WorkOp)).Kind : Int) == 4)) (k17 + 1)
      else none
    else
      (slices_Clone_int r4.2.1).bind fun r27 =>
      bif (decide ((r4.2.2.2.1 : Int) ≥ 0)) then
        if ((r27).length + ([r4.2.2.2.1]).length) * 8 ≤ 140737488355328 ∧ (r27).length + ([r4.2.2.2.1]).length ≤ 140737488355328 then
        if (((r27 ++ [r4.2.2.2.1])).length + (r4.2.2.1).length) * 8 ≤ 140737488355328 ∧ ((r27 ++ [r4.2.2.2.1])).length + (r4.2.2.1).length ≤ 140737488355328 then
        (bif ((!(b16 && (decide ((((((r27 ++ [r4.2.2.2.1]) ++ r4.2.2.1).length : Nat) : Int) : Int) < ((l15.length : Nat) : Int))))) && (!b16)) then slices_Equal_int ((r27 ++ [r4.2.2.2.1]) ++ r4.2.2.1) l15 else some false).bind fun r39 =>
        some ((b16 && (decide ((((((r27 ++ [r4.2.2.2.1]) ++ r4.2.2.1).length : Nat) : Int) : Int) < ((l15.length : Nat) : Int)))) || ((!b16) && r39))
        else none
        else none
      else
        if ((r27).length + (r4.2.2.1).length) * 8 ≤ 140737488355328 ∧ (r27).length + (r4.2.2.1).length ≤ 140737488355328 then
        (bif ((!(b16 && (decide (((((r27 ++ r4.2.2.1).length : Nat) : Int) : Int) < ((l15.length : Nat) : Int))))) && (!b16)) then slices_Equal_int (r27 ++ r4.2.2.1) l15 else some false).bind fun r52 =>
        some ((b16 && (decide (((((r27 ++ r4.2.2.1).length : Nat) : Int) : Int) < ((l15.length : Nat) : Int)))) || ((!b16) && r52))
        else none

def keep_WorkOnce (a0 : (List Api_WorkOp)) : Option (Bool) :=
  (keep_alive12).bind fun r1 =>
  bif (!r1) then
    some false
  else
    (work_Play a0).bind fun r4 =>
    bif (((r4.2.2.2.2 : Int) != 0) || ((((r4.1.length : Nat) : Int) : Int) != ((a0.length : Nat) : Int))) then
      some (((r4.2.2.2.2 : Int) != 0) && ((((r4.1.length : Nat) : Int) : Int) == 0))
    else
      keep_WorkOnce_l1 a0 r4 FUEL ([] : List Int) false 0


/- slices.Clone(()corebell/api.WorkOp,corebell/api.WorkOp) -/
def slices_Clone_api_WorkOp (a0 : List Api_WorkOp) : Option (List Api_WorkOp) := if a0.length * 16 ≤ 140737488355328 then some a0 else none

/- corebell/corebellkeep.WorkFlushed -/
def keep_WorkFlushed (a0 : (List Api_WorkOp)) (a1 : Int) : Option (Bool) :=
  (keep_alive12).bind fun r1 =>
  bif (!r1) then
    some false
  else
    (work_Play a0).bind fun r4 =>
    (slices_Clone_api_WorkOp a0).bind fun r6 =>
    if ((r6).length + ([(⟨5, a1⟩ : Api_WorkOp)]).length) * 16 ≤ 140737488355328 ∧ (r6).length + ([(⟨5, a1⟩ : Api_WorkOp)]).length ≤ 140737488355328 then
    (work_Play (r6 ++ [(⟨5, a1⟩ : Api_WorkOp)])).bind fun r9 =>
    bif ((((r4.2.2.2.2 : Int) != 0) || ((r9.2.2.2.2 : Int) != 0)) || ((((r9.1.length : Nat) : Int) : Int) != (IntKind.i64.wrap (((a0.length : Nat) : Int) + 1)))) then
      some (((r4.2.2.2.2 : Int) != 0) || ((r9.2.2.2.2 : Int) != 0))
    else
      if 0 ≤ (((a0.length : Nat) : Int) : Int) ∧ ((a0.length : Nat) : Int) < ((r9.1.length : Nat) : Int) then
      bif (((r9.1.getD (0 + a0.length) 0) : Int) != 0) then
        (slices_Equal_int r4.2.1 r9.2.1).bind fun r24 =>
        (bif r24 then slices_Equal_int r9.2.2.1 r4.2.2.1 else some false).bind fun r26 =>
        some ((r24 && r26) && ((r9.2.2.2.1 : Int) == r4.2.2.2.1))
      else
        (bif (!((r9.2.2.2.1 : Int) == a1)) then slices_Contains_int r9.2.2.1 a1 else some false).bind fun r32 =>
        if ((!((((r9.2.2.2.1 : Int) == a1) || r32) || (decide ((((r9.2.1.length : Nat) : Int) : Int) < ((r4.2.1.length : Nat) : Int))))) = true → (0 ≤ (((r4.2.1.length : Nat) : Int) : Int))) then
        if ((!((((r9.2.2.2.1 : Int) == a1) || r32) || (decide ((((r9.2.1.length : Nat) : Int) : Int) < ((r4.2.1.length : Nat) : Int))))) = true → (r4.2.1.length ≤ r9.2.1.length)) then
        (bif (!((((r9.2.2.2.1 : Int) == a1) || r32) || (decide ((((r9.2.1.length : Nat) : Int) : Int) < ((r4.2.1.length : Nat) : Int))))) then slices_Equal_int ((r9.2.1.drop (0 + 0)).take (r4.2.1.length - 0)) r4.2.1 else some false).bind fun r45 =>
        bif (((((r9.2.2.2.1 : Int) == a1) || r32) || (decide ((((r9.2.1.length : Nat) : Int) : Int) < ((r4.2.1.length : Nat) : Int)))) || (!r45)) then
          some false
        else
          (bif ((r4.2.2.2.1 : Int) != a1) then slices_Contains_int r4.2.2.1 a1 else some false).bind fun r50 =>
          bif (((r4.2.2.2.1 : Int) != a1) && (!r50)) then
            some (((((r9.2.1.length : Nat) : Int) : Int) == ((r4.2.1.length : Nat) : Int)) && ((r9.2.2.2.1 : Int) == r4.2.2.2.1))
          else
            if 0 ≤ ((IntKind.i64.wrap (((r9.2.1.length : Nat) : Int) - 1)) : Int) ∧ (IntKind.i64.wrap (((r9.2.1.length : Nat) : Int) - 1)) < ((r9.2.1.length : Nat) : Int) then
            some ((((r9.2.1.getD (0 + (Int.toNat (IntKind.i64.wrap (((r9.2.1.length : Nat) : Int) - 1)))) 0) : Int) == a1) && ((r9.2.2.2.1 : Int) == (-1)))
            else none
        else none
        else none
      else none
    else none


/- corebell/corebellkeep.WorkAgain -/
def keep_WorkAgain_l1 (a0 : (List Api_WorkOp)) (r4 : (List Int) × (List Int) × (List Int) × Int × Int) (r18 : (List Int) × (List Int) × (List Int) × Int × Int) : Nat → Int → Nat → Option (Bool)
  | 0, _, _ => none
  | n1 + 1, x22, k23 =>
    bif (decide ((((k23 : Nat) : Int) : Int) < (((r18.2.1.length - (Int.toNat (if (((r18.2.1.length : Nat) : Int) : Int) < ((r4.2.1.length : Nat) : Int) then ((r18.2.1.length : Nat) : Int) else ((r4.2.1.length : Nat) : Int)))) : Nat) : Int))) then
      bif (((r18.2.1.getD ((0 + (Int.toNat (if (((r18.2.1.length : Nat) : Int) : Int) < ((r4.2.1.length : Nat) : Int) then ((r18.2.1.length : Nat) : Int) else ((r4.2.1.length : Nat) : Int)))) + k23) 0) : Int) == r4.2.2.2.1) then
        keep_WorkAgain_l1 a0 r4 r18 n1 (IntKind.i64.wrap (x22 + 1)) (k23 + 1)
      else
        keep_WorkAgain_l1 a0 r4 r18 n1 x22 (k23 + 1)
    else
      if (((r18.2.2.2.2 : Int) == 0) = true → (0 ≤ (((a0.length : Nat) : Int) : Int) ∧ ((a0.length : Nat) : Int) < ((r18.1.length : Nat) : Int))) then
      some ((((r18.2.2.2.2 : Int) == 0) && (((r18.1.getD (0 + a0.length) 0) : Int) == 0)) && ((x22 : Int) == 2))
      else none

def keep_WorkAgain (a0 : (List Api_WorkOp)) : Option (Bool) :=
  (keep_alive12).bind fun r1 =>
  bif (!r1) then
    some false
  else
    (work_Play a0).bind fun r4 =>
    (bif (!(((r4.2.2.2.2 : Int) != 0) || (decide ((r4.2.2.2.1 : Int) < 0)))) then slices_Contains_int r4.2.2.1 r4.2.2.2.1 else some false).bind fun r8 =>
    bif (((((r4.2.2.2.2 : Int) != 0) || (decide ((r4.2.2.2.1 : Int) < 0))) || r8) || (decide ((((a0.length : Nat) : Int) : Int) > 398))) then
      some true
    else
      (slices_Clone_api_WorkOp a0).bind fun r15 =>
      if ((r15).length + ([(⟨1, r4.2.2.2.1⟩ : Api_WorkOp), (⟨5, r4.2.2.2.1⟩ : Api_WorkOp)]).length) * 16 ≤ 140737488355328 ∧ (r15).length + ([(⟨1, r4.2.2.2.1⟩ : Api_WorkOp), (⟨5, r4.2.2.2.1⟩ : Api_WorkOp)]).length ≤ 140737488355328 then
      (work_Play (r15 ++ [(⟨1, r4.2.2.2.1⟩ : Api_WorkOp), (⟨5, r4.2.2.2.1⟩ : Api_WorkOp)])).bind fun r18 =>
      if 0 ≤ ((if (((r18.2.1.length : Nat) : Int) : Int) < ((r4.2.1.length : Nat) : Int) then ((r18.2.1.length : Nat) : Int) else ((r4.2.1.length : Nat) : Int)) : Int) then
      if (Int.toNat (if (((r18.2.1.length : Nat) : Int) : Int) < ((r4.2.1.length : Nat) : Int) then ((r18.2.1.length : Nat) : Int) else ((r4.2.1.length : Nat) : Int))) ≤ r18.2.1.length then
      keep_WorkAgain_l1 a0 r4 r18 FUEL 0 0
      else none
      else none
      else none


end Go.Proofs.Ytcbknmjbhjbifaa
