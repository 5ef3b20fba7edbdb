/- The models of the functions: printed by program. -/
import Derived.Test.YtmmhiggfpdjdcaaAbYg
import Derived.Lib.BitFns
set_option linter.unusedSimpArgs false
set_option linter.unusedVariables false
namespace Go.Proofs.Ytmmhiggfpdjdcaa
open Go Go.Ab

structure Api_RunOp where
  Kind : Int
  Id : Int
  Level : Int
deriving DecidableEq

structure Runq_queue where
  some_ : Int
  lists_ : (Nat → (List Int))
  at_ : (List (Int × Int))

def Ok_Api_RunOp (x : Api_RunOp) : Prop := (-9223372036854775808 ≤ x.Kind ∧ x.Kind ≤ 9223372036854775807) ∧ (-9223372036854775808 ≤ x.Id ∧ x.Id ≤ 9223372036854775807) ∧ (-9223372036854775808 ≤ x.Level ∧ x.Level ≤ 9223372036854775807)
def OkU_Api_RunOp (x : Api_RunOp) : Prop := (-9223372036854775808 ≤ x.Kind ∧ x.Kind ≤ 9223372036854775807) ∧ (-9223372036854775808 ≤ x.Id ∧ x.Id ≤ 9223372036854775807) ∧ (-9223372036854775808 ≤ x.Level ∧ x.Level ≤ 9223372036854775807)

def slices_Insert_int (a0 : List Int) (a1 : Int) (a2 : List Int) : Option (List Int) := if 0 ≤ a1 ∧ a1 ≤ a0.length ∧ 0 < a2.length ∧ (a0.length + a2.length) * 8 ≤ 140737488355328 ∧ a0.length + a2.length ≤ 140737488355328 then some (a0.take a1.toNat ++ a2 ++ a0.drop a1.toNat) else none

/- (*corebell/runq.queue).add -/
def runq_queue_add (a0 : Runq_queue) (a1 : Int) (a2 : Int) (a3 : Bool) : Option (Runq_queue) :=
  if 0 ≤ (a2 : Int) ∧ a2 < ((32 : Nat) : Int) then
  atN (Int.toNat a2) fun kk2 =>
  bif a3 then
    (slices_Insert_int (a0.lists_ kk2) 0 [a1]).bind fun r4 =>
    if 0 ≤ (a2 : Int) ∧ a2 < ((32 : Nat) : Int) then
    if 0 ≤ (a2 : Int) then
    some (⟨(bitsOf .or .u32 a0.some_ (IntKind.u32.wrap (1 * 2 ^ (min (Int.toNat a2) IntKind.u32.bits)))), (upd a0.lists_ kk2 r4), (mput a1 a2 a0.at_)⟩ : Runq_queue)
    else none
    else none
  else
    if (((a0.lists_ kk2)).length + ([a1]).length) * 8 ≤ 140737488355328 ∧ ((a0.lists_ kk2)).length + ([a1]).length ≤ 140737488355328 then
    if 0 ≤ (a2 : Int) ∧ a2 < ((32 : Nat) : Int) then
    if 0 ≤ (a2 : Int) then
    some (⟨(bitsOf .or .u32 a0.some_ (IntKind.u32.wrap (1 * 2 ^ (min (Int.toNat a2) IntKind.u32.bits)))), (upd a0.lists_ kk2 ((a0.lists_ kk2) ++ [a1])), (mput a1 a2 a0.at_)⟩ : Runq_queue)
    else none
    else none
    else none
  else none


/- math/bits.Len32 -/
def bits_Len32 (a0 : Int) : Option Int := if 0 ≤ a0 ∧ a0 < 4294967296 then some ((Lib.bitLen a0.toNat : Nat) : Int) else none

/- slices.Index(()int,int) -/
def slices_Index_int_l1 (a0 : (List Int)) (a1 : Int) : Nat → Nat → Option (Int)
  | 0, _ => none
  | n1 + 1, k1 =>
    bif (decide ((((k1 : Nat) : Int) : Int) < ((a0.length : Nat) : Int))) then
      bif ((a1 : Int) == (a0.getD k1 0)) then
        some ((k1 : Nat) : Int)
      else
        slices_Index_int_l1 a0 a1 n1 (k1 + 1)
    else
      some (-1)

def slices_Index_int (a0 : (List Int)) (a1 : Int) : Option (Int) :=
  slices_Index_int_l1 a0 a1 FUEL 0


def slices_Delete_int (a0 : List Int) (a1 a2 : Int) : Option (List Int) := if 0 ≤ a1 ∧ a1 ≤ a2 ∧ a2 ≤ a0.length then some (a0.take a1.toNat ++ a0.drop a2.toNat) else none

/- (*corebell/runq.queue).drop -/
def runq_queue_drop (a0 : Runq_queue) (a1 : Int) : Option (Runq_queue) :=
  if 0 ≤ (((mget a1 a0.at_).getD 0) : Int) ∧ ((mget a1 a0.at_).getD 0) < ((32 : Nat) : Int) then
  atN (Int.toNat ((mget a1 a0.at_).getD 0)) fun kk2 =>
  (slices_Index_int (a0.lists_ kk2) a1).bind fun r3 =>
  if 0 ≤ (((mget a1 a0.at_).getD 0) : Int) ∧ ((mget a1 a0.at_).getD 0) < ((32 : Nat) : Int) then
  (slices_Delete_int (a0.lists_ kk2) r3 (IntKind.i64.wrap (r3 + 1))).bind fun r6 =>
  if 0 ≤ (((mget a1 a0.at_).getD 0) : Int) ∧ ((mget a1 a0.at_).getD 0) < ((32 : Nat) : Int) then
  if 0 ≤ (((mget a1 a0.at_).getD 0) : Int) ∧ ((mget a1 a0.at_).getD 0) < ((32 : Nat) : Int) then
  bif ((((((upd a0.lists_ kk2 r6) kk2).length : Nat) : Int) : Int) == 0) then
    if 0 ≤ (((mget a1 a0.at_).getD 0) : Int) then
    some (⟨(bitsOf .andNot .u32 a0.some_ (IntKind.u32.wrap (1 * 2 ^ (min (Int.toNat ((mget a1 a0.at_).getD 0)) IntKind.u32.bits)))), (upd a0.lists_ kk2 r6), (mdelete a1 a0.at_)⟩ : Runq_queue)
    else none
  else
    some (⟨a0.some_, (upd a0.lists_ kk2 r6), (mdelete a1 a0.at_)⟩ : Runq_queue)
  else none
  else none
  else none
  else none


/- (*corebell/runq.queue).do -/
def runq_queue_do (a0 : Runq_queue) (a1 : Api_RunOp) : Option (Int × Int × Runq_queue) :=
  bif ((a1.Kind : Int) == 1) then
    bif ((a1.Kind : Int) == 1) then
      bif ((decide ((a1.Level : Int) < 0)) || (decide ((a1.Level : Int) ≥ 32))) then
        some (0, 2, a0)
      else
        bif (mget a1.Id a0.at_).isSome then
          some (0, 6, a0)
        else
          (runq_queue_add a0 a1.Id a1.Level ((a1.Kind : Int) == 2)).bind fun r8 =>
          some (0, 0, r8)
    else
      bif ((a1.Kind : Int) == 3) then
        bif ((a0.some_ : Int) == 0) then
          some (0, 3, a0)
        else
          (bits_Len32 a0.some_).bind fun r12 =>
          if 0 ≤ ((IntKind.i64.wrap (r12 - 1)) : Int) ∧ (IntKind.i64.wrap (r12 - 1)) < ((32 : Nat) : Int) then
          atN (Int.toNat (IntKind.i64.wrap (r12 - 1))) fun kk15 =>
          if 0 ≤ (0 : Int) ∧ 0 < (((a0.lists_ kk15).length : Nat) : Int) then
          (runq_queue_drop a0 ((a0.lists_ kk15).getD (0 + 0) 0)).bind fun r17 =>
          some (((a0.lists_ kk15).getD (0 + 0) 0), 0, r17)
          else none
          else none
      else
        bif ((a1.Kind : Int) == 4) then
          bif (!((mget a1.Id a0.at_).isSome)) then
            some (0, 3, a0)
          else
            (runq_queue_drop a0 a1.Id).bind fun r21 =>
            some (0, 0, r21)
        else
          some (0, 5, a0)
  else
    bif ((a1.Kind : Int) == 2) then
      bif ((decide ((a1.Level : Int) < 0)) || (decide ((a1.Level : Int) ≥ 32))) then
        some (0, 2, a0)
      else
        bif (mget a1.Id a0.at_).isSome then
          some (0, 6, a0)
        else
          (runq_queue_add a0 a1.Id a1.Level ((a1.Kind : Int) == 2)).bind fun r29 =>
          some (0, 0, r29)
    else
      bif ((a1.Kind : Int) == 3) then
        bif ((a0.some_ : Int) == 0) then
          some (0, 3, a0)
        else
          (bits_Len32 a0.some_).bind fun r33 =>
          if 0 ≤ ((IntKind.i64.wrap (r33 - 1)) : Int) ∧ (IntKind.i64.wrap (r33 - 1)) < ((32 : Nat) : Int) then
          atN (Int.toNat (IntKind.i64.wrap (r33 - 1))) fun kk36 =>
          if 0 ≤ (0 : Int) ∧ 0 < (((a0.lists_ kk36).length : Nat) : Int) then
          (runq_queue_drop a0 ((a0.lists_ kk36).getD (0 + 0) 0)).bind fun r38 =>
          some (((a0.lists_ kk36).getD (0 + 0) 0), 0, r38)
          else none
          else none
      else
        bif ((a1.Kind : Int) == 4) then
          bif (!((mget a1.Id a0.at_).isSome)) then
            some (0, 3, a0)
          else
            (runq_queue_drop a0 a1.Id).bind fun r42 =>
            some (0, 0, r42)
        else
          some (0, 5, a0)


/- corebell/runq.Play -/
def runq_Play_l2 (l1 : List Int) (l2 : List Int) (l5 : List Int) (l6 : List Int) (l7 : List Int) (l8 : List Int) (l9 : List Int) (l10 : List Int) (l11 : List Int) (l12 : List Int) (l13 : List Int) (l14 : List Int) (l15 : List Int) (l16 : List Int) (l17 : List Int) (l18 : List Int) (l19 : List Int) (l20 : List Int) (l21 : List Int) (l22 : List Int) (l23 : List Int) (l24 : List Int) (l25 : List Int) (l26 : List Int) (l27 : List Int) (l28 : List Int) (l29 : List Int) (l30 : List Int) (l31 : List Int) (l32 : List Int) (l33 : List Int) (l34 : List Int) (l35 : List Int) (l36 : List Int) : Nat → List Int → Int → Option ((List Int) × (List Int) × (List Int))
  | 0, _, _ => none
  | n2 + 1, l48, x49 =>
    bif (decide ((x49 : Int) ≥ 0)) then
      if 0 ≤ (x49 : Int) ∧ x49 < ((32 : Nat) : Int) then
      atN (Int.toNat x49) fun kk52 =>
      if ((l48).length + (((arrOf [l5, l6, l7, l8, l9, l10, l11, l12, l13, l14, l15, l16, l17, l18, l19, l20, l21, l22, l23, l24, l25, l26, l27, l28, l29, l30, l31, l32, l33, l34, l35, l36] []) kk52)).length) * 8 ≤ 140737488355328 ∧ (l48).length + (((arrOf [l5, l6, l7, l8, l9, l10, l11, l12, l13, l14, l15, l16, l17, l18, l19, l20, l21, l22, l23, l24, l25, l26, l27, l28, l29, l30, l31, l32, l33, l34, l35, l36] []) kk52)).length ≤ 140737488355328 then
      runq_Play_l2 l1 l2 l5 l6 l7 l8 l9 l10 l11 l12 l13 l14 l15 l16 l17 l18 l19 l20 l21 l22 l23 l24 l25 l26 l27 l28 l29 l30 l31 l32 l33 l34 l35 l36 n2 (l48 ++ ((arrOf [l5, l6, l7, l8, l9, l10, l11, l12, l13, l14, l15, l16, l17, l18, l19, l20, l21, l22, l23, l24, l25, l26, l27, l28, l29, l30, l31, l32, l33, l34, l35, l36] []) kk52)) (IntKind.i64.wrap (x49 - 1))
      else none
      else none
    else
      some (l1, l2, l48)

def runq_Play_l1 (a0 : (List Api_RunOp)) : Nat → List Int → List Int → Nat → Int → List Int → List Int → List Int → List Int → List Int → List Int → List Int → List Int → List Int → List Int → List Int → List Int → List Int → List Int → List Int → List Int → List Int → List Int → List Int → List Int → List Int → List Int → List Int → List Int → List Int → List Int → List Int → List Int → List Int → List Int → List Int → List Int → List (Int × Int) → Option ((List Int) × (List Int) × (List Int))
  | 0, _, _, _, _, _, _, _, _, _, _, _, _, _, _, _, _, _, _, _, _, _, _, _, _, _, _, _, _, _, _, _, _, _, _, _, _, _ => none
  | n1 + 1, l1, l2, k3, x4, l5, l6, l7, l8, l9, l10, l11, l12, l13, l14, l15, l16, l17, l18, l19, l20, l21, l22, l23, l24, l25, l26, l27, l28, l29, l30, l31, l32, l33, l34, l35, l36, m37 =>
    bif (decide ((((k3 : Nat) : Int) : Int) < ((a0.length : Nat) : Int))) then
      (runq_queue_do (⟨x4, (arrOf [l5, l6, l7, l8, l9, l10, l11, l12, l13, l14, l15, l16, l17, l18, l19, l20, l21, l22, l23, l24, l25, l26, l27, l28, l29, l30, l31, l32, l33, l34, l35, l36] []), m37⟩ : Runq_queue) (a0.getD k3 (⟨0, 0, 0⟩ : Api_RunOp))).bind fun r40 =>
      if ((l1).length + ([r40.2.1]).length) * 8 ≤ 140737488355328 ∧ (l1).length + ([r40.2.1]).length ≤ 140737488355328 then
      bif (((r40.2.1 : Int) == 0) && (((a0.getD k3 (⟨0, 0, 0⟩ : Api_RunOp)).Kind : Int) == 3)) then
        if ((l2).length + ([r40.1]).length) * 8 ≤ 140737488355328 ∧ (l2).length + ([r40.1]).length ≤ 140737488355328 then
        runq_Play_l1 a0 n1 (l1 ++ [r40.2.1]) (l2 ++ [r40.1]) (k3 + 1) r40.2.2.some_ (r40.2.2.lists_ 0) (r40.2.2.lists_ 1) (r40.2.2.lists_ 2) (r40.2.2.lists_ 3) (r40.2.2.lists_ 4) (r40.2.2.lists_ 5) (r40.2.2.lists_ 6) (r40.2.2.lists_ 7) (r40.2.2.lists_ 8) (r40.2.2.lists_ 9) (r40.2.2.lists_ 10) (r40.2.2.lists_ 11) (r40.2.2.lists_ 12) (r40.2.2.lists_ 13) (r40.2.2.lists_ 14) (r40.2.2.lists_ 15) (r40.2.2.lists_ 16) (r40.2.2.lists_ 17) (r40.2.2.lists_ 18) (r40.2.2.lists_ 19) (r40.2.2.lists_ 20) (r40.2.2.lists_ 21) (r40.2.2.lists_ 22) (r40.2.2.lists_ 23) (r40.2.2.lists_ 24) (r40.2.2.lists_ 25) (r40.2.2.lists_ 26) (r40.2.2.lists_ 27) (r40.2.2.lists_ 28) (r40.2.2.lists_ 29) (r40.2.2.lists_ 30) (r40.2.2.lists_ 31) r40.2.2.at_
        else none
      else
        runq_Play_l1 a0 n1 (l1 ++ [r40.2.1]) l2 (k3 + 1) r40.2.2.some_ (r40.2.2.lists_ 0) (r40.2.2.lists_ 1) (r40.2.2.lists_ 2) (r40.2.2.lists_ 3) (r40.2.2.lists_ 4) (r40.2.2.lists_ 5) (r40.2.2.lists_ 6) (r40.2.2.lists_ 7) (r40.2.2.lists_ 8) (r40.2.2.lists_ 9) (r40.2.2.lists_ 10) (r40.2.2.lists_ 11) (r40.2.2.lists_ 12) (r40.2.2.lists_ 13) (r40.2.2.lists_ 14) (r40.2.2.lists_ 15) (r40.2.2.lists_ 16) (r40.2.2.lists_ 17) (r40.2.2.lists_ 18) (r40.2.2.lists_ 19) (r40.2.2.lists_ 20) (r40.2.2.lists_ 21) (r40.2.2.lists_ 22) (r40.2.2.lists_ 23) (r40.2.2.lists_ 24) (r40.2.2.lists_ 25) (r40.2.2.lists_ 26) (r40.2.2.lists_ 27) (r40.2.2.lists_ 28) (r40.2.2.lists_ 29) (r40.2.2.lists_ 30) (r40.2.2.lists_ 31) r40.2.2.at_
      else none
    else
      runq_Play_l2 l1 l2 l5 l6 l7 l8 l9 l10 l11 l12 l13 l14 l15 l16 l17 l18 l19 l20 l21 l22 l23 l24 l25 l26 l27 l28 l29 l30 l31 l32 l33 l34 l35 l36 FUEL ([] : List Int) 31

def runq_Play (a0 : (List Api_RunOp)) : Option ((List Int) × (List Int) × (List Int)) :=
  runq_Play_l1 a0 FUEL ([] : List Int) ([] : List Int) 0 0 ([] : List Int) ([] : List Int) ([] : List Int) ([] : List Int) ([] : List Int) ([] : List Int) ([] : List Int) ([] : List Int) ([] : List Int) ([] : List Int) ([] : List Int) ([] : List Int) ([] : List Int) ([] : List Int) ([] : List Int) ([] : List Int) ([] : List Int) ([] : List Int) ([] : List Int) ([] : List Int) ([] : List Int) ([] : List Int) ([] : List Int) ([] : List Int) ([] : List Int) ([] : List Int) ([] : List Int) ([] : List Int) ([] : List Int) ([] : List Int) ([] : List Int) ([] : List Int) ([] : List (Int × Int))


/- slices.Equal(()corebell/api.Errno,corebell/api.Errno) -/
def slices_Equal_api_Errno_l1 (a0 : (List Int)) (a1 : (List Int)) : Nat → Nat → Option (Bool)
  | 0, _ => none
  | n1 + 1, k2 =>
    bif (decide ((((k2 : Nat) : Int) : Int) < ((a0.length : Nat) : Int))) then
      if 0 ≤ (((k2 : Nat) : Int) : Int) ∧ ((k2 : Nat) : Int) < ((a1.length : Nat) : Int) then
      bif (((a0.getD k2 0) : Int) != (a1.getD k2 0)) then
        some false
      else
        slices_Equal_api_Errno_l1 a0 a1 n1 (k2 + 1)
      else none
    else
      some true

def slices_Equal_api_Errno (a0 : (List Int)) (a1 : (List Int)) : Option (Bool) :=
  bif ((((a0.length : Nat) : Int) : Int) != ((a1.length : Nat) : Int)) then
    some false
  else
    slices_Equal_api_Errno_l1 a0 a1 FUEL 0


/- slices.Equal(()int,int) -/
def slices_Equal_int_l1 (a0 : (List Int)) (a1 : (List Int)) : Nat → Nat → Option (Bool)
  | 0, _ => none
  | n1 + 1, k2 =>
    bif (decide ((((k2 : Nat) : Int) : Int) < ((a0.length : Nat) : Int))) then
      if 0 ≤ (((k2 : Nat) : Int) : Int) ∧ ((k2 : Nat) : Int) < ((a1.length : Nat) : Int) then
      bif (((a0.getD k2 0) : Int) != (a1.getD k2 0)) then
        some false
      else
        slices_Equal_int_l1 a0 a1 n1 (k2 + 1)
      else none
    else
      some true

def slices_Equal_int (a0 : (List Int)) (a1 : (List Int)) : Option (Bool) :=
  bif ((((a0.length : Nat) : Int) : Int) != ((a1.length : Nat) : Int)) then
    some false
  else
    slices_Equal_int_l1 a0 a1 FUEL 0


/- corebell/corebellkeep.alive13 -/
def keep_alive13 : Option (Bool) :=
  (runq_Play [(⟨1, 4, 2⟩ : Api_RunOp), (⟨1, 5, 2⟩ : Api_RunOp), (⟨2, 6, 2⟩ : Api_RunOp), (⟨1, 7, 30⟩ : Api_RunOp), (⟨3, 0, 0⟩ : Api_RunOp), (⟨3, 0, 0⟩ : Api_RunOp)]).bind fun r1 =>
  if 0 ≤ (6 : Int) ∧ 6 * 8 ≤ 140737488355328 ∧ 6 ≤ 140737488355328 then
  (slices_Equal_api_Errno r1.1 (List.replicate 6 (0 : Int))).bind fun r4 =>
  (bif r4 then slices_Equal_int r1.2.1 [7, 6] else some false).bind fun r6 =>
  (bif (r4 && r6) then slices_Equal_int r1.2.2 [4, 5] else some false).bind fun r9 =>
  some ((r4 && r6) && r9)
  else none


/- slices.Contains(()int,int) -/
def slices_Contains_int (a0 : (List Int)) (a1 : Int) : Option (Bool) :=
  (slices_Index_int a0 a1).bind fun r1 =>
  some (decide ((r1 : Int) ≥ 0))


/- slices.Clone(()corebell/api.RunOp,corebell/api.RunOp) -/
def slices_Clone_api_RunOp (a0 : List Api_RunOp) : Option (List Api_RunOp) := if a0.length * 24 ≤ 140737488355328 then some a0 else none

/- slices.Clone(()int,int) -/
def slices_Clone_int (a0 : List Int) : Option (List Int) := if a0.length * 8 ≤ 140737488355328 then some a0 else none

/- corebell/corebellkeep.RunqFirst -/
def keep_RunqFirst (a0 : (List Api_RunOp)) (a1 : Int) : Option (Bool) :=
  (keep_alive13).bind fun r1 =>
  bif (!r1) then
    some false
  else
    (runq_Play a0).bind fun r4 =>
    (slices_Contains_int r4.2.2 a1).bind fun r6 =>
    bif r6 then
      some true
    else
      (slices_Clone_api_RunOp a0).bind fun r9 =>
      if ((r9).length + ([(⟨2, a1, 31⟩ : Api_RunOp)]).length) * 24 ≤ 140737488355328 ∧ (r9).length + ([(⟨2, a1, 31⟩ : Api_RunOp)]).length ≤ 140737488355328 then
      (runq_Play (r9 ++ [(⟨2, a1, 31⟩ : Api_RunOp)])).bind fun r12 =>
      (slices_Clone_api_RunOp a0).bind fun r14 =>
      if ((r14).length + ([(⟨1, a1, 0⟩ : Api_RunOp)]).length) * 24 ≤ 140737488355328 ∧ (r14).length + ([(⟨1, a1, 0⟩ : Api_RunOp)]).length ≤ 140737488355328 then
      (runq_Play (r14 ++ [(⟨1, a1, 0⟩ : Api_RunOp)])).bind fun r17 =>
      (slices_Clone_int r4.2.2).bind fun r19 =>
      (slices_Insert_int r19 0 [a1]).bind fun r21 =>
      (slices_Equal_int r12.2.2 r21).bind fun r23 =>
      bif r23 then
        (slices_Clone_int r4.2.2).bind fun r26 =>
        if ((r26).length + ([a1]).length) * 8 ≤ 140737488355328 ∧ (r26).length + ([a1]).length ≤ 140737488355328 then
        (slices_Equal_int r17.2.2 (r26 ++ [a1])).bind fun r29 =>
        some (r23 && r29)
        else none
      else
        some (r23 && false)
      else none
      else none


/- corebell/corebellkeep.RunqDrop$1 -/
def keep_RunqDrop_1 (a0 : Int) (a1 : Int) : Option (Bool) :=
  some ((a0 : Int) == a1)


/- slices.IndexFunc(()int,int) -/
def slices_IndexFunc_int_keep_RunqDrop_1_l1 (a0 : (List Int)) (a1 : Int) : Nat → Nat → Option (Int)
  | 0, _ => none
  | n1 + 1, k1 =>
    bif (decide ((((k1 : Nat) : Int) : Int) < ((a0.length : Nat) : Int))) then
      (keep_RunqDrop_1 (a0.getD k1 0) a1).bind fun r4 =>
      bif r4 then
        some ((k1 : Nat) : Int)
      else
        slices_IndexFunc_int_keep_RunqDrop_1_l1 a0 a1 n1 (k1 + 1)
    else
      some (-1)

def slices_IndexFunc_int_keep_RunqDrop_1 (a0 : (List Int)) (a1 : Int) : Option (Int) :=
  slices_IndexFunc_int_keep_RunqDrop_1_l1 a0 a1 FUEL 0


/- slices.DeleteFunc(()int,int) -/
def slices_DeleteFunc_int_keep_RunqDrop_1_h0_l1 (a0 : (List Int)) (a1 : Int) (r1 : Int) : Nat → Int → Int → List Int → Option ((List Int))
  | 0, _, _, _ => none
  | n1 + 1, x4, x5, l6 =>
    bif (decide ((x5 : Int) < ((l6.length : Nat) : Int))) then
      if 0 ≤ (x5 : Int) ∧ x5 < ((l6.length : Nat) : Int) then
      (keep_RunqDrop_1 (l6.getD (0 + (Int.toNat x5)) 0) a1).bind fun r9 =>
      bif (!r9) then
        if 0 ≤ (x4 : Int) ∧ x4 < ((l6.length : Nat) : Int) then
        slices_DeleteFunc_int_keep_RunqDrop_1_h0_l1 a0 a1 r1 n1 (IntKind.i64.wrap (x4 + 1)) (IntKind.i64.wrap (x5 + 1)) (l6.set (0 + (Int.toNat x4)) (l6.getD (0 + (Int.toNat x5)) 0))
        else none
      else
        slices_DeleteFunc_int_keep_RunqDrop_1_h0_l1 a0 a1 r1 n1 x4 (IntKind.i64.wrap (x5 + 1)) l6
      else none
    else
      if 0 ≤ (x4 : Int) then
      if (Int.toNat x4) ≤ l6.length then
      if (0 + (Int.toNat x4)) + (l6.length - (Int.toNat x4)) ≤ l6.length then
      if 0 ≤ (x4 : Int) then
      if (Int.toNat x4) ≤ l6.length then
      some (((cpL l6 (0 + (Int.toNat x4)) (l6.length - (Int.toNat x4)) (List.replicate (l6.length - (Int.toNat x4)) (0 : Int))).drop (0 + 0)).take ((Int.toNat x4) - 0))
      else none
      else none
      else none
      else none
      else none

def slices_DeleteFunc_int_keep_RunqDrop_1_h0 (a0 : (List Int)) (a1 : Int) : Option ((List Int)) :=
  (slices_IndexFunc_int_keep_RunqDrop_1 a0 a1).bind fun r1 =>
  bif ((r1 : Int) == (-1)) then
    some a0
  else
    slices_DeleteFunc_int_keep_RunqDrop_1_h0_l1 a0 a1 r1 FUEL r1 (IntKind.i64.wrap (r1 + 1)) a0


/- corebell/corebellkeep.RunqDrop -/
def keep_RunqDrop (a0 : (List Api_RunOp)) (a1 : Int) : Option (Bool) :=
  (keep_alive13).bind fun r1 =>
  bif (!r1) then
    some false
  else
    (runq_Play a0).bind fun r4 =>
    (slices_Clone_api_RunOp a0).bind fun r6 =>
    if ((r6).length + ([(⟨4, a1, 0⟩ : Api_RunOp)]).length) * 24 ≤ 140737488355328 ∧ (r6).length + ([(⟨4, a1, 0⟩ : Api_RunOp)]).length ≤ 140737488355328 then
    (runq_Play (r6 ++ [(⟨4, a1, 0⟩ : Api_RunOp)])).bind fun r9 =>
    if (((((r9.1.length : Nat) : Int) : Int) == (IntKind.i64.wrap (((a0.length : Nat) : Int) + 1))) = true → (0 ≤ (((a0.length : Nat) : Int) : Int) ∧ ((a0.length : Nat) : Int) < ((r9.1.length : Nat) : Int))) then
    bif ((((r9.1.length : Nat) : Int) : Int) == (IntKind.i64.wrap (((a0.length : Nat) : Int) + 1))) then
      (slices_Contains_int r4.2.2 a1).bind fun r17 =>
      bif (((((r9.1.length : Nat) : Int) : Int) == (IntKind.i64.wrap (((a0.length : Nat) : Int) + 1))) && ((((r9.1.getD (0 + a0.length) 0) : Int) == 0) == r17)) then
        (slices_Equal_int r4.2.1 r9.2.1).bind fun r23 =>
        bif ((((((r9.1.length : Nat) : Int) : Int) == (IntKind.i64.wrap (((a0.length : Nat) : Int) + 1))) && ((((r9.1.getD (0 + a0.length) 0) : Int) == 0) == r17)) && r23) then
          (slices_Clone_int r4.2.2).bind fun r27 =>
          (slices_DeleteFunc_int_keep_RunqDrop_1_h0 r27 a1).bind fun r29 =>
          (slices_Equal_int r9.2.2 r29).bind fun r31 =>
          some (((((((r9.1.length : Nat) : Int) : Int) == (IntKind.i64.wrap (((a0.length : Nat) : Int) + 1))) && ((((r9.1.getD (0 + a0.length) 0) : Int) == 0) == r17)) && r23) && r31)
        else
          some (((((((r9.1.length : Nat) : Int) : Int) == (IntKind.i64.wrap (((a0.length : Nat) : Int) + 1))) && ((((r9.1.getD (0 + a0.length) 0) : Int) == 0) == r17)) && r23) && false)
      else
        bif ((((((r9.1.length : Nat) : Int) : Int) == (IntKind.i64.wrap (((a0.length : Nat) : Int) + 1))) && ((((r9.1.getD (0 + a0.length) 0) : Int) == 0) == r17)) && false) then
          (slices_Clone_int r4.2.2).bind fun r37 =>
          (slices_DeleteFunc_int_keep_RunqDrop_1_h0 r37 a1).bind fun r39 =>
          (slices_Equal_int r9.2.2 r39).bind fun r41 =>
          some (((((((r9.1.length : Nat) : Int) : Int) == (IntKind.i64.wrap (((a0.length : Nat) : Int) + 1))) && ((((r9.1.getD (0 + a0.length) 0) : Int) == 0) == r17)) && false) && r41)
        else
          some (((((((r9.1.length : Nat) : Int) : Int) == (IntKind.i64.wrap (((a0.length : Nat) : Int) + 1))) && ((((r9.1.getD (0 + a0.length) 0) : Int) == 0) == r17)) && false) && false)
    else
      bif (((((r9.1.length : Nat) : Int) : Int) == (IntKind.i64.wrap (((a0.length : Nat) : Int) + 1))) && (((0 : Int) == 0) == false)) then
        (slices_Equal_int r4.2.1 r9.2.1).bind fun r50 =>
        bif ((((((r9.1.length : Nat) : Int) : Int) == (IntKind.i64.wrap (((a0.length : Nat) : Int) + 1))) && (((0 : Int) == 0) == false)) && r50) then
          (slices_Clone_int r4.2.2).bind fun r54 =>
          (slices_DeleteFunc_int_keep_RunqDrop_1_h0 r54 a1).bind fun r56 =>
          (slices_Equal_int r9.2.2 r56).bind fun r58 =>
          some (((((((r9.1.length : Nat) : Int) : Int) == (IntKind.i64.wrap (((a0.length : Nat) : Int) + 1))) && (((0 : Int) == 0) == false)) && r50) && r58)
        else
          some (((((((r9.1.length : Nat) : Int) : Int) == (IntKind.i64.wrap (((a0.length : Nat) : Int) + 1))) && (((0 : Int) == 0) == false)) && r50) && false)
      else
        bif ((((((r9.1.length : Nat) : Int) : Int) == (IntKind.i64.wrap (((a0.length : Nat) : Int) + 1))) && (((0 : Int) == 0) == false)) && false) then
          (slices_Clone_int r4.2.2).bind fun r64 =>
          (slices_DeleteFunc_int_keep_RunqDrop_1_h0 r64 a1).bind fun r66 =>
          (slices_Equal_int r9.2.2 r66).bind fun r68 =>
          some (((((((r9.1.length : Nat) : Int) : Int) == (IntKind.i64.wrap (((a0.length : Nat) : Int) + 1))) && (((0 : Int) == 0) == false)) && false) && r68)
        else
          some (((((((r9.1.length : Nat) : Int) : Int) == (IntKind.i64.wrap (((a0.length : Nat) : Int) + 1))) && (((0 : Int) == 0) == false)) && false) && false)
    else none
    else none


/- slices.Grow(()int,int), from nothing -/
def slices_Grow_int_nil (a0 : Int) : Option (List Int) := if 0 ≤ a0 ∧ a0.toNat * 8 ≤ 140737488355328 ∧ a0.toNat ≤ 140737488355328 then some [] else none

/- slices.Concat(()int,int) -/
def slices_Concat_int_l2 (a0 : (List (List Int))) (r6 : (List Int)) : Nat → List Int → Nat → Option ((List Int))
  | 0, _, _ => none
  | n2 + 1, l8, k9 =>
    bif (decide ((((k9 : Nat) : Int) : Int) < ((a0.length : Nat) : Int))) then
      if ((l8).length + ((a0.getD k9 [])).length) * 8 ≤ 140737488355328 ∧ (l8).length + ((a0.getD k9 [])).length ≤ 140737488355328 then
      slices_Concat_int_l2 a0 r6 n2 (l8 ++ (a0.getD k9 [])) (k9 + 1)
      else none
    else
      some l8

def slices_Concat_int_l1 (a0 : (List (List Int))) : Nat → Int → Nat → Option ((List Int))
  | 0, _, _ => none
  | n1 + 1, x1, k2 =>
    bif (decide ((((k2 : Nat) : Int) : Int) < ((a0.length : Nat) : Int))) then
      bif (decide (((IntKind.i64.wrap (x1 + (((a0.getD k2 []).length : Nat) : Int))) : Int) < 0)) then
        none
      else
        slices_Concat_int_l1 a0 n1 (IntKind.i64.wrap (x1 + (((a0.getD k2 []).length : Nat) : Int))) (k2 + 1)
    else
      (slices_Grow_int_nil x1).bind fun r6 =>
      slices_Concat_int_l2 a0 r6 FUEL r6 0

def slices_Concat_int (a0 : (List (List Int))) : Option ((List Int)) :=
  slices_Concat_int_l1 a0 FUEL 0 0


/- corebell/corebellkeep.RunqSorted -/
def keep_RunqSorted_l1 (r4 : (List Int) × (List Int) × (List Int)) (r6 : (List Api_RunOp)) : Nat → List Api_RunOp → Nat → Option (Bool)
  | 0, _, _ => none
  | n1 + 1, l8, k9 =>
    bif (decide ((((k9 : Nat) : Int) : Int) < ((r4.2.2.length : Nat) : Int))) then
      if ((l8).length + ([(⟨3, 0, 0⟩ : Api_RunOp)]).length) * 24 ≤ 140737488355328 ∧ (l8).length + ([(⟨3, 0, 0⟩ : Api_RunOp)]).length ≤ 140737488355328 then
      keep_RunqSorted_l1 r4 r6 n1 (l8 ++ [(⟨3, 0, 0⟩ : Api_RunOp)]) (k9 + 1)
      else none
    else
      (runq_Play l8).bind fun r12 =>
      bif ((((r12.2.2.length : Nat) : Int) : Int) == 0) then
        (slices_Concat_int [r4.2.1, r4.2.2]).bind fun r15 =>
        (slices_Equal_int r12.2.1 r15).bind fun r17 =>
        some (((((r12.2.2.length : Nat) : Int) : Int) == 0) && r17)
      else
        some (((((r12.2.2.length : Nat) : Int) : Int) == 0) && false)

def keep_RunqSorted (a0 : (List Api_RunOp)) : Option (Bool) :=
  (keep_alive13).bind fun r1 =>
  bif (!r1) then
    some false
  else
    (runq_Play a0).bind fun r4 =>
    (slices_Clone_api_RunOp a0).bind fun r6 =>
    keep_RunqSorted_l1 r4 r6 FUEL r6 0


end Go.Proofs.Ytmmhiggfpdjdcaa
