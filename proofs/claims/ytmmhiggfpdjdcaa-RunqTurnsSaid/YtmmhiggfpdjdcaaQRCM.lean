/- The models of the functions: printed by program. -/
import Derived.Test.YtmmhiggfpdjdcaaAbYg
import Derived.Lib.BitFns
set_option linter.unusedSimpArgs false
set_option linter.unusedVariables false
namespace Go.Proofs.Ytmmhiggfpdjdcaa
open Go Go.Ab

structure Api_RunOp where
  Kind : Int
  Id : Int
  Level : Int
deriving DecidableEq

structure Runq_queue where
  some_ : Int
  lists_ : (Nat → (List Int))
  at_ : (List (Int × Int))

def Ok_Api_RunOp (x : Api_RunOp) : Prop := (-9223372036854775808 ≤ x.Kind ∧ x.Kind ≤ 9223372036854775807) ∧ (-9223372036854775808 ≤ x.Id ∧ x.Id ≤ 9223372036854775807) ∧ (-9223372036854775808 ≤ x.Level ∧ x.Level ≤ 9223372036854775807)

def slices_Insert_int (a0 : List Int) (a1 : Int) (a2 : List Int) : Option (List Int) := if 0 ≤ a1 ∧ a1 ≤ a0.length ∧ 0 < a2.length ∧ (a0.length + a2.length) * 8 ≤ 140737488355328 ∧ a0.length + a2.length ≤ 140737488355328 then some (a0.take a1.toNat ++ a2 ++ a0.drop a1.toNat) else none

/- (*corebell/runq.queue).add -/
def runq_queue_add (a0 : Runq_queue) (a1 : Int) (a2 : Int) (a3 : Bool) : Option (Runq_queue) :=
  if 0 ≤ (a2 : Int) ∧ a2 < ((32 : Nat) : Int) then
  atN (Int.toNat a2) fun kk2 =>
  bif a3 then
    (slices_Insert_int (a0.lists_ kk2) 0 [a1]).bind fun r4 =>
    if 0 ≤ (a2 : Int) ∧ a2 < ((32 : Nat) : Int) then
    if 0 ≤ (a2 : Int) then
    some (⟨(bitsOf .or .u32 a0.some_ (IntKind.u32.wrap (1 * 2 ^ (min (Int.toNat a2) IntKind.u32.bits)))), (upd a0.lists_ kk2 r4), (mput a1 a2 a0.at_)⟩ : Runq_queue)
    else none
    else none
  else
    if (((a0.lists_ kk2)).length + ([a1]).length) * 8 ≤ 140737488355328 ∧ ((a0.lists_ kk2)).length + ([a1]).length ≤ 140737488355328 then
    if 0 ≤ (a2 : Int) ∧ a2 < ((32 : Nat) : Int) then
    if 0 ≤ (a2 : Int) then
    some (⟨(bitsOf .or .u32 a0.some_ (IntKind.u32.wrap (1 * 2 ^ (min (Int.toNat a2) IntKind.u32.bits)))), (upd a0.lists_ kk2 ((a0.lists_ kk2) ++ [a1])), (mput a1 a2 a0.at_)⟩ : Runq_queue)
    else none
    else none
    else none
  else none


/- math/bits.Len32 -/
def bits_Len32 (a0 : Int) : Option Int := if 0 ≤ a0 ∧ a0 < 4294967296 then some ((Lib.bitLen a0.toNat : Nat) : Int) else none

/- slices.Index(()int,int) -/
def slices_Index_int_l1 (a0 : (List Int)) (a1 : Int) : Nat → Nat → Option (Int)
  | 0, _ => none
  | n1 + 1, k1 =>
    bif (decide ((((k1 : Nat) : Int) : Int) < ((a0.length : Nat) : Int))) then
      bif ((a1 : Int) == (a0.getD k1 0)) then
        some ((k1 : Nat) : Int)
      else
        slices_Index_int_l1 a0 a1 n1 (k1 + 1)
    else
      some (-1)

def slices_Index_int (a0 : (List Int)) (a1 : Int) : Option (Int) :=
  slices_Index_int_l1 a0 a1 FUEL 0


def slices_Delete_int (a0 : List Int) (a1 a2 : Int) : Option (List Int) := if 0 ≤ a1 ∧ a1 ≤ a2 ∧ a2 ≤ a0.length then some (a0.take a1.toNat ++ a0.drop a2.toNat) else none

/- (*corebell/runq.queue).drop -/
def runq_queue_drop (a0 : Runq_queue) (a1 : Int) : Option (Runq_queue) :=
  if 0 ≤ (((mget a1 a0.at_).getD 0) : Int) ∧ ((mget a1 a0.at_).getD 0) < ((32 : Nat) : Int) then
  atN (Int.toNat ((mget a1 a0.at_).getD 0)) fun kk2 =>
  (slices_Index_int (a0.lists_ kk2) a1).bind fun r3 =>
  if 0 ≤ (((mget a1 a0.at_).getD 0) : Int) ∧ ((mget a1 a0.at_).getD 0) < ((32 : Nat) : Int) then
  (slices_Delete_int (a0.lists_ kk2) r3 (IntKind.i64.wrap (r3 + 1))).bind fun r6 =>
  if 0 ≤ (((mget a1 a0.at_).getD 0) : Int) ∧ ((mget a1 a0.at_).getD 0) < ((32 : Nat) : Int) then
  if 0 ≤ (((mget a1 a0.at_).getD 0) : Int) ∧ ((mget a1 a0.at_).getD 0) < ((32 : Nat) : Int) then
  bif ((((((upd a0.lists_ kk2 r6) kk2).length : Nat) : Int) : Int) == 0) then
    if 0 ≤ (((mget a1 a0.at_).getD 0) : Int) then
    some (⟨(bitsOf .andNot .u32 a0.some_ (IntKind.u32.wrap (1 * 2 ^ (min (Int.toNat ((mget a1 a0.at_).getD 0)) IntKind.u32.bits)))), (upd a0.lists_ kk2 r6), (mdelete a1 a0.at_)⟩ : Runq_queue)
    else none
  else
    some (⟨a0.some_, (upd a0.lists_ kk2 r6), (mdelete a1 a0.at_)⟩ : Runq_queue)
  else none
  else none
  else none
  else none


/- (*corebell/runq.queue).do -/
def runq_queue_do (a0 : Runq_queue) (a1 : Api_RunOp) : Option (Int × Int × Runq_queue) :=
  bif ((a1.Kind : Int) == 1) then
    bif ((a1.Kind : Int) == 1) then
      bif ((decide ((a1.Level : Int) < 0)) || (decide ((a1.Level : Int) ≥ 32))) then
        some (0, 2, a0)
      else
        bif (mget a1.Id a0.at_).isSome then
          some (0, 6, a0)
        else
          (runq_queue_add a0 a1.Id a1.Level ((a1.Kind : Int) == 2)).bind fun r8 =>
          some (0, 0, r8)
    else
      bif ((a1.Kind : Int) == 3) then
        bif ((a0.some_ : Int) == 0) then
          some (0, 3, a0)
        else
          (bits_Len32 a0.some_).bind fun r12 =>
          if 0 ≤ ((IntKind.i64.wrap (r12 - 1)) : Int) ∧ (IntKind.i64.wrap (r12 - 1)) < ((32 : Nat) : Int) then
          atN (Int.toNat (IntKind.i64.wrap (r12 - 1))) fun kk15 =>
          if 0 ≤ (0 : Int) ∧ 0 < (((a0.lists_ kk15).length : Nat) : Int) then
          (runq_queue_drop a0 ((a0.lists_ kk15).getD (0 + 0) 0)).bind fun r17 =>
          some (((a0.lists_ kk15).getD (0 + 0) 0), 0, r17)
          else none
          else none
      else
        bif ((a1.Kind : Int) == 4) then
          bif (!((mget a1.Id a0.at_).isSome)) then
            some (0, 3, a0)
          else
            (runq_queue_drop a0 a1.Id).bind fun r21 =>
            some (0, 0, r21)
        else
          some (0, 5, a0)
  else
    bif ((a1.Kind : Int) == 2) then
      bif ((decide ((a1.Level : Int) < 0)) || (decide ((a1.Level : Int) ≥ 32))) then
        some (0, 2, a0)
      else
        bif (mget a1.Id a0.at_).isSome then
          some (0, 6, a0)
        else
          (runq_queue_add a0 a1.Id a1.Level ((a1.Kind : Int) == 2)).bind fun r29 =>
          some (0, 0, r29)
    else
      bif ((a1.Kind : Int) == 3) then
        bif ((a0.some_ : Int) == 0) then
          some (0, 3, a0)
        else
          (bits_Len32 a0.some_).bind fun r33 =>
          if 0 ≤ ((IntKind.i64.wrap (r33 - 1)) : Int) ∧ (IntKind.i64.wrap (r33 - 1)) < ((32 : Nat) : Int) then
          atN (Int.toNat (IntKind.i64.wrap (r33 - 1))) fun kk36 =>
          if 0 ≤ (0 : Int) ∧ 0 < (((a0.lists_ kk36).length : Nat) : Int) then
          (runq_queue_drop a0 ((a0.lists_ kk36).getD (0 + 0) 0)).bind fun r38 =>
          some (((a0.lists_ kk36).getD (0 + 0) 0), 0, r38)
          else none
          else none
      else
        bif ((a1.Kind : Int) == 4) then
          bif (!((mget a1.Id a0.at_).isSome)) then
            some (0, 3, a0)
          else
            (runq_queue_drop a0 a1.Id).bind fun r42 =>
            some (0, 0, r42)
        else
          some (0, 5, a0)


/- corebell/runq.Play -/
def runq_Play_l2 (l1 : List Int) (l2 : List Int) (l5 : List Int) (l6 : List Int) (l7 : List Int) (l8 : List Int) (l9 : List Int) (l10 : List Int) (l11 : List Int) (l12 : List Int) (l13 : List Int) (l14 : List Int) (l15 : List Int) (l16 : List Int) (l17 : List Int) (l18 : List Int) (l19 : List Int) (l20 : List Int) (l21 : List Int) (l22 : List Int) (l23 : List Int) (l24 : List Int) (l25 : List Int) (l26 : List Int) (l27 : List Int) (l28 : List Int) (l29 : List Int) (l30 : List Int) (l31 : List Int) (l32 : List Int) (l33 : List Int) (l34 : List Int) (l35 : List Int) (l36 : List Int) : Nat → List Int → Int → Option ((List Int) × (List Int) × (List Int))
  | 0, _, _ => none
  | n2 + 1, l48, x49 =>
    bif (decide ((x49 : Int) ≥ 0)) then
      if 0 ≤ (x49 : Int) ∧ x49 < ((32 : Nat) : Int) then
      atN (Int.toNat x49) fun kk52 =>
      if ((l48).length + (((arrOf [l5, l6, l7, l8, l9, l10, l11, l12, l13, l14, l15, l16, l17, l18, l19, l20, l21, l22, l23, l24, l25, l26, l27, l28, l29, l30, l31, l32, l33, l34, l35, l36] []) kk52)).length) * 8 ≤ 140737488355328 ∧ (l48).length + (((arrOf [l5, l6, l7, l8, l9, l10, l11, l12, l13, l14, l15, l16, l17, l18, l19, l20, l21, l22, l23, l24, l25, l26, l27, l28, l29, l30, l31, l32, l33, l34, l35, l36] []) kk52)).length ≤ 140737488355328 then
      runq_Play_l2 l1 l2 l5 l6 l7 l8 l9 l10 l11 l12 l13 l14 l15 l16 l17 l18 l19 l20 l21 l22 l23 l24 l25 l26 l27 l28 l29 l30 l31 l32 l33 l34 l35 l36 n2 (l48 ++ ((arrOf [l5, l6, l7, l8, l9, l10, l11, l12, l13, l14, l15, l16, l17, l18, l19, l20, l21, l22, l23, l24, l25, l26, l27, l28, l29, l30, l31, l32, l33, l34, l35, l36] []) kk52)) (IntKind.i64.wrap (x49 - 1))
      else none
      else none
    else
      some (l1, l2, l48)

def runq_Play_l1 (a0 : (List Api_RunOp)) : Nat → List Int → List Int → Nat → Int → List Int → List Int → List Int → List Int → List Int → List Int → List Int → List Int → List Int → List Int → List Int → List Int → List Int → List Int → List Int → List Int → List Int → List Int → List Int → List Int → List Int → List Int → List Int → List Int → List Int → List Int → List Int → List Int → List Int → List Int → List Int → List Int → List (Int × Int) → Option ((List Int) × (List Int) × (List Int))
  | 0, _, _, _, _, _, _, _, _, _, _, _, _, _, _, _, _, _, _, _, _, _, _, _, _, _, _, _, _, _, _, _, _, _, _, _, _, _ => none
  | n1 + 1, l1, l2, k3, x4, l5, l6, l7, l8, l9, l10, l11, l12, l13, l14, l15, l16, l17, l18, l19, l20, l21, l22, l23, l24, l25, l26, l27, l28, l29, l30, l31, l32, l33, l34, l35, l36, m37 =>
    bif (decide ((((k3 : Nat) : Int) : Int) < ((a0.length : Nat) : Int))) then
      (runq_queue_do (⟨x4, (arrOf [l5, l6, l7, l8, l9, l10, l11, l12, l13, l14, l15, l16, l17, l18, l19, l20, l21, l22, l23, l24, l25, l26, l27, l28, l29, l30, l31, l32, l33, l34, l35, l36] []), m37⟩ : Runq_queue) (a0.getD k3 (⟨0, 0, 0⟩ : Api_RunOp))).bind fun r40 =>
      if ((l1).length + ([r40.2.1]).length) * 8 ≤ 140737488355328 ∧ (l1).length + ([r40.2.1]).length ≤ 140737488355328 then
      bif (((r40.2.1 : Int) == 0) && (((a0.getD k3 (⟨0, 0, 0⟩ : Api_RunOp)).Kind : Int) == 3)) then
        if ((l2).length + ([r40.1]).length) * 8 ≤ 140737488355328 ∧ (l2).length + ([r40.1]).length ≤ 140737488355328 then
        runq_Play_l1 a0 n1 (l1 ++ [r40.2.1]) (l2 ++ [r40.1]) (k3 + 1) r40.2.2.some_ (r40.2.2.lists_ 0) (r40.2.2.lists_ 1) (r40.2.2.lists_ 2) (r40.2.2.lists_ 3) (r40.2.2.lists_ 4) (r40.2.2.lists_ 5) (r40.2.2.lists_ 6) (r40.2.2.lists_ 7) (r40.2.2.lists_ 8) (r40.2.2.lists_ 9) (r40.2.2.lists_ 10) (r40.2.2.lists_ 11) (r40.2.2.lists_ 12) (r40.2.2.lists_ 13) (r40.2.2.lists_ 14) (r40.2.2.lists_ 15) (r40.2.2.lists_ 16) (r40.2.2.lists_ 17) (r40.2.2.lists_ 18) (r40.2.2.lists_ 19) (r40.2.2.lists_ 20) (r40.2.2.lists_ 21) (r40.2.2.lists_ 22) (r40.2.2.lists_ 23) (r40.2.2.lists_ 24) (r40.2.2.lists_ 25) (r40.2.2.lists_ 26) (r40.2.2.lists_ 27) (r40.2.2.lists_ 28) (r40.2.2.lists_ 29) (r40.2.2.lists_ 30) (r40.2.2.lists_ 31) r40.2.2.at_
        else none
      else
        runq_Play_l1 a0 n1 (l1 ++ [r40.2.1]) l2 (k3 + 1) r40.2.2.some_ (r40.2.2.lists_ 0) (r40.2.2.lists_ 1) (r40.2.2.lists_ 2) (r40.2.2.lists_ 3) (r40.2.2.lists_ 4) (r40.2.2.lists_ 5) (r40.2.2.lists_ 6) (r40.2.2.lists_ 7) (r40.2.2.lists_ 8) (r40.2.2.lists_ 9) (r40.2.2.lists_ 10) (r40.2.2.lists_ 11) (r40.2.2.lists_ 12) (r40.2.2.lists_ 13) (r40.2.2.lists_ 14) (r40.2.2.lists_ 15) (r40.2.2.lists_ 16) (r40.2.2.lists_ 17) (r40.2.2.lists_ 18) (r40.2.2.lists_ 19) (r40.2.2.lists_ 20) (r40.2.2.lists_ 21) (r40.2.2.lists_ 22) (r40.2.2.lists_ 23) (r40.2.2.lists_ 24) (r40.2.2.lists_ 25) (r40.2.2.lists_ 26) (r40.2.2.lists_ 27) (r40.2.2.lists_ 28) (r40.2.2.lists_ 29) (r40.2.2.lists_ 30) (r40.2.2.lists_ 31) r40.2.2.at_
      else none
    else
      runq_Play_l2 l1 l2 l5 l6 l7 l8 l9 l10 l11 l12 l13 l14 l15 l16 l17 l18 l19 l20 l21 l22 l23 l24 l25 l26 l27 l28 l29 l30 l31 l32 l33 l34 l35 l36 FUEL ([] : List Int) 31

def runq_Play (a0 : (List Api_RunOp)) : Option ((List Int) × (List Int) × (List Int)) :=
  runq_Play_l1 a0 FUEL ([] : List Int) ([] : List Int) 0 0 ([] : List Int) ([] : List Int) ([] : List Int) ([] : List Int) ([] : List Int) ([] : List Int) ([] : List Int) ([] : List Int) ([] : List Int) ([] : List Int) ([] : List Int) ([] : List Int) ([] : List Int) ([] : List Int) ([] : List Int) ([] : List Int) ([] : List Int) ([] : List Int) ([] : List Int) ([] : List Int) ([] : List Int) ([] : List Int) ([] : List Int) ([] : List Int) ([] : List Int) ([] : List Int) ([] : List Int) ([] : List Int) ([] : List Int) ([] : List Int) ([] : List Int) ([] : List Int) ([] : List (Int × Int))


/- slices.Equal(()corebell/api.Errno,corebell/api.Errno) -/
def slices_Equal_api_Errno_l1 (a0 : (List Int)) (a1 : (List Int)) : Nat → Nat → Option (Bool)
  | 0, _ => none
  | n1 + 1, k2 =>
    bif (decide ((((k2 : Nat) : Int) : Int) < ((a0.length : Nat) : Int))) then
      if 0 ≤ (((k2 : Nat) : Int) : Int) ∧ ((k2 : Nat) : Int) < ((a1.length : Nat) : Int) then
      bif (((a0.getD k2 0) : Int) != (a1.getD k2 0)) then
        some false
      else
        slices_Equal_api_Errno_l1 a0 a1 n1 (k2 + 1)
      else none
    else
      some true

def slices_Equal_api_Errno (a0 : (List Int)) (a1 : (List Int)) : Option (Bool) :=
  bif ((((a0.length : Nat) : Int) : Int) != ((a1.length : Nat) : Int)) then
    some false
  else
    slices_Equal_api_Errno_l1 a0 a1 FUEL 0


/- slices.Equal(()int,int) -/
def slices_Equal_int_l1 (a0 : (List Int)) (a1 : (List Int)) : Nat → Nat → Option (Bool)
  | 0, _ => none
  | n1 + 1, k2 =>
    bif (decide ((((k2 : Nat) : Int) : Int) < ((a0.length : Nat) : Int))) then
      if 0 ≤ (((k2 : Nat) : Int) : Int) ∧ ((k2 : Nat) : Int) < ((a1.length : Nat) : Int) then
      bif (((a0.getD k2 0) : Int) != (a1.getD k2 0)) then
        some false
      else
        slices_Equal_int_l1 a0 a1 n1 (k2 + 1)
      else none
    else
      some true

def slices_Equal_int (a0 : (List Int)) (a1 : (List Int)) : Option (Bool) :=
  bif ((((a0.length : Nat) : Int) : Int) != ((a1.length : Nat) : Int)) then
    some false
  else
    slices_Equal_int_l1 a0 a1 FUEL 0


/- corebell/corebellkeep.alive13 -/
def keep_alive13 : Option (Bool) :=
  (runq_Play [(⟨1, 4, 2⟩ : Api_RunOp), (⟨1, 5, 2⟩ : Api_RunOp), (⟨2, 6, 2⟩ : Api_RunOp), (⟨1, 7, 30⟩ : Api_RunOp), (⟨3, 0, 0⟩ : Api_RunOp), (⟨3, 0, 0⟩ : Api_RunOp)]).bind fun r1 =>
  if 0 ≤ (6 : Int) ∧ 6 * 8 ≤ 140737488355328 ∧ 6 ≤ 140737488355328 then
  (slices_Equal_api_Errno r1.1 (List.replicate 6 (0 : Int))).bind fun r4 =>
  (bif r4 then slices_Equal_int r1.2.1 [7, 6] else some false).bind fun r6 =>
  (bif (r4 && r6) then slices_Equal_int r1.2.2 [4, 5] else some false).bind fun r9 =>
  some ((r4 && r6) && r9)
  else none


/- slices.Values: what it hands back holds the list -/
def slices_Values_int (a0 : List Int) : Option Unit := some ()

def slices_Sorted_int (a0 : List Int) : Option (List Int) := if a0.length * 8 ≤ 140737488355328 then some (a0.mergeSort fun x y => decide (x ≤ y)) else none

/- slices.Compact(()int,int) -/
def slices_Compact_int_h0_l2 (a0 : (List Int)) (x2 : Int) (K2_0 : Int → Int → (List Int) → Option ((List Int))) : Nat → Int → Int → List Int → Option ((List Int))
  | 0, _, _, _ => none
  | n2 + 1, x9, x10, l11 =>
    bif (decide ((x10 : Int) < (((a0.length - (Int.toNat x2)) : Nat) : Int))) then
      if 0 ≤ (x10 : Int) ∧ x10 < (((a0.length - (Int.toNat x2)) : Nat) : Int) then
      if ((0 + (Int.toNat x2)) + (Int.toNat x10)) < l11.length then
      if 0 ≤ ((IntKind.i64.wrap (x10 - 1)) : Int) ∧ (IntKind.i64.wrap (x10 - 1)) < (((a0.length - (Int.toNat x2)) : Nat) : Int) then
      if ((0 + (Int.toNat x2)) + (Int.toNat (IntKind.i64.wrap (x10 - 1)))) < l11.length then
      bif (((l11.getD ((0 + (Int.toNat x2)) + (Int.toNat x10)) 0) : Int) != (l11.getD ((0 + (Int.toNat x2)) + (Int.toNat (IntKind.i64.wrap (x10 - 1)))) 0)) then
        if 0 ≤ (x10 : Int) ∧ x10 < (((a0.length - (Int.toNat x2)) : Nat) : Int) then
        if ((0 + (Int.toNat x2)) + (Int.toNat x10)) < l11.length then
        if 0 ≤ (x9 : Int) ∧ x9 < ((l11.length : Nat) : Int) then
        slices_Compact_int_h0_l2 a0 x2 K2_0 n2 (IntKind.i64.wrap (x9 + 1)) (IntKind.i64.wrap (x10 + 1)) (l11.set (0 + (Int.toNat x9)) (l11.getD ((0 + (Int.toNat x2)) + (Int.toNat x10)) 0))
        else none
        else none
        else none
      else
        slices_Compact_int_h0_l2 a0 x2 K2_0 n2 x9 (IntKind.i64.wrap (x10 + 1)) l11
      else none
      else none
      else none
      else none
    else
      K2_0 x9 x10 l11

def slices_Compact_int_h0_l1 (a0 : (List Int)) : Nat → Int → Option ((List Int))
  | 0, _ => none
  | n1 + 1, x2 =>
    bif (decide ((x2 : Int) < ((a0.length : Nat) : Int))) then
      if 0 ≤ (x2 : Int) ∧ x2 < ((a0.length : Nat) : Int) then
      if 0 ≤ ((IntKind.i64.wrap (x2 - 1)) : Int) ∧ (IntKind.i64.wrap (x2 - 1)) < ((a0.length : Nat) : Int) then
      bif (((a0.getD (0 + (Int.toNat x2)) 0) : Int) == (a0.getD (0 + (Int.toNat (IntKind.i64.wrap (x2 - 1)))) 0)) then
        if 0 ≤ (x2 : Int) then
        if (Int.toNat x2) ≤ a0.length then
        slices_Compact_int_h0_l2 a0 x2 (fun (x9 : Int) (x10 : Int) (l11 : List Int) =>
            if 0 ≤ (x9 : Int) then
            if (Int.toNat x9) ≤ l11.length then
            if (0 + (Int.toNat x9)) + (l11.length - (Int.toNat x9)) ≤ l11.length then
            if 0 ≤ (x9 : Int) then
            if (Int.toNat x9) ≤ l11.length then
            some (((cpL l11 (0 + (Int.toNat x9)) (l11.length - (Int.toNat x9)) (List.replicate (l11.length - (Int.toNat x9)) (0 : Int))).drop (0 + 0)).take ((Int.toNat x9) - 0))
            else none
            else none
            else none
            else none
            else none
          ) FUEL x2 1 a0
        else none
        else none
      else
        slices_Compact_int_h0_l1 a0 n1 (IntKind.i64.wrap (x2 + 1))
      else none
      else none
    else
      some a0

def slices_Compact_int_h0 (a0 : (List Int)) : Option ((List Int)) :=
  bif (decide ((((a0.length : Nat) : Int) : Int) < 2)) then
    some a0
  else
    slices_Compact_int_h0_l1 a0 FUEL 1


/- corebell/corebellkeep.RunqTurns -/
def keep_RunqTurns_l3 (a1 : Int) (r8 : (List Int)) (l28 : List Int) (l30 : List Api_RunOp) (K3_0 : (List Api_RunOp) → (List Int) → Nat → Option (Bool)) : Nat → List Api_RunOp → List Int → Nat → Option (Bool)
  | 0, _, _, _ => none
  | n3 + 1, l32, l33, k34 =>
    bif (decide ((((k34 : Nat) : Int) : Int) < ((r8.length : Nat) : Int))) then
      if ((l32).length + ([(⟨3, 0, 0⟩ : Api_RunOp), (⟨1, (r8.getD (0 + k34) 0), a1⟩ : Api_RunOp)]).length) * 24 ≤ 140737488355328 ∧ (l32).length + ([(⟨3, 0, 0⟩ : Api_RunOp), (⟨1, (r8.getD (0 + k34) 0), a1⟩ : Api_RunOp)]).length ≤ 140737488355328 then
      if ((l33).length + ([(r8.getD (0 + k34) 0)]).length) * 8 ≤ 140737488355328 ∧ (l33).length + ([(r8.getD (0 + k34) 0)]).length ≤ 140737488355328 then
      keep_RunqTurns_l3 a1 r8 l28 l30 K3_0 n3 (l32 ++ [(⟨3, 0, 0⟩ : Api_RunOp), (⟨1, (r8.getD (0 + k34) 0), a1⟩ : Api_RunOp)]) (l33 ++ [(r8.getD (0 + k34) 0)]) (k34 + 1)
      else none
      else none
    else
      K3_0 l32 l33 k34

def keep_RunqTurns_l2 (a1 : Int) (a2 : Int) (r8 : (List Int)) (l23 : List Api_RunOp) : Nat → List Int → Int → List Api_RunOp → Option (Bool)
  | 0, _, _, _ => none
  | n2 + 1, l28, x29, l30 =>
    bif (decide ((x29 : Int) < a2)) then
      keep_RunqTurns_l3 a1 r8 l28 l30 (fun (l32 : List Api_RunOp) (l33 : List Int) (k34 : Nat) =>
          keep_RunqTurns_l2 a1 a2 r8 l23 n2 l33 (IntKind.i64.wrap (x29 + 1)) l32
        ) FUEL l30 l28 0
    else
      (runq_Play l30).bind fun r39 =>
      (slices_Equal_int r39.2.1 l28).bind fun r41 =>
      bif r41 then
        (slices_Equal_int r39.2.2 r8).bind fun r44 =>
        some (r41 && r44)
      else
        some (r41 && false)

def keep_RunqTurns_l1 (a1 : Int) (a2 : Int) (r8 : (List Int)) : Nat → List Api_RunOp → Nat → Option (Bool)
  | 0, _, _ => none
  | n1 + 1, l23, k24 =>
    bif (decide ((((k24 : Nat) : Int) : Int) < ((r8.length : Nat) : Int))) then
      if ((l23).length + ([(⟨1, (r8.getD (0 + k24) 0), a1⟩ : Api_RunOp)]).length) * 24 ≤ 140737488355328 ∧ (l23).length + ([(⟨1, (r8.getD (0 + k24) 0), a1⟩ : Api_RunOp)]).length ≤ 140737488355328 then
      keep_RunqTurns_l1 a1 a2 r8 n1 (l23 ++ [(⟨1, (r8.getD (0 + k24) 0), a1⟩ : Api_RunOp)]) (k24 + 1)
      else none
    else
      keep_RunqTurns_l2 a1 a2 r8 l23 FUEL ([] : List Int) 0 l23

def keep_RunqTurns (a0 : (List Int)) (a1 : Int) (a2 : Int) : Option (Bool) :=
  (keep_alive13).bind fun r1 =>
  bif (!r1) then
    some false
  else
    (slices_Values_int a0).bind fun r4 =>
    (slices_Sorted_int a0).bind fun r6 =>
    (slices_Compact_int_h0 r6).bind fun r8 =>
    bif ((((((decide ((a1 : Int) < 0)) || (decide ((a1 : Int) ≥ 32))) || ((((r8.length : Nat) : Int) : Int) == 0)) || (decide ((((r8.length : Nat) : Int) : Int) > 20))) || (decide ((a2 : Int) < 0))) || (decide ((a2 : Int) > 5))) then
      some true
    else
      keep_RunqTurns_l1 a1 a2 r8 FUEL ([] : List Api_RunOp) 0


/- corebell/corebellkeep.RunqCount -/
def keep_RunqCount_l1 (a0 : (List Api_RunOp)) (r4 : (List Int) × (List Int) × (List Int)) : Nat → Int → Nat → Option (Bool)
  | 0, _, _ => none
  | n1 + 1, x6, k7 =>
    bif (decide ((((k7 : Nat) : Int) : Int) < ((a0.length : Nat) : Int))) then
      if ((decide ((((k7 : Nat) : Int) : Int) < ((r4.1.length : Nat) : Int))) = true → (0 ≤ (((k7 : Nat) : Int) : Int) ∧ ((k7 : Nat) : Int) < ((r4.1.length : Nat) : Int))) then
      bif (decide ((((k7 : Nat) : Int) : Int) < ((r4.1.length : Nat) : Int))) then
        bif ((decide ((((k7 : Nat) : Int) : Int) < ((r4.1.length : Nat) : Int))) && (((r4.1.getD (0 + k7) 0) : Int) == 0)) then
          bif (((a0.getD k7 (⟨0, 0, 0⟩ : Api_RunOp)).Kind : Int) == 1) then
            bif (((a0.getD k7 (⟨0, 0, 0⟩ : Api_RunOp)).Kind : Int) == 1) then
              keep_RunqCount_l1 a0 r4 n1 (IntKind.i64.wrap (x6 + 1)) (k7 + 1)
            else
              bif (((a0.getD k7 (⟨0, 0, 0⟩ : Api_RunOp)).Kind : Int) == 4) then
                keep_RunqCount_l1 a0 r4 n1 (IntKind.i64.wrap (x6 - 1)) (k7 + 1)
              else
                keep_RunqCount_l1 a0 r4 n1 x6 (k7 + 1)
          else
            bif (((a0.getD k7 (⟨0, 0, 0⟩ : Api_RunOp)).Kind : Int) == 2) then
              keep_RunqCount_l1 a0 r4 n1 (IntKind.i64.wrap (x6 + 1)) (k7 + 1)
            else
              bif (((a0.getD k7 (⟨0, 0, 0⟩ : Api_RunOp)).Kind : Int) == 4) then
                keep_RunqCount_l1 a0 r4 n1 (IntKind.i64.wrap (x6 - 1)) (k7 + 1)
              else
                keep_RunqCount_l1 a0 r4 n1 x6 (k7 + 1)
        else
          keep_RunqCount_l1 a0 r4 n1 x6 (k7 + 1)
      else
        bif ((decide ((((k7 : Nat) : Int) : Int) < ((r4.1.length : Nat) : Int))) && ((0 : Int) == 0)) then
          bif (((a0.getD k7 (⟨0, 0, 0⟩ : Api_RunOp)).Kind : Int) == 1) then
            bif (((a0.getD k7 (⟨0, 0, 0⟩ : Api_RunOp)).Kind : Int) == 1) then
              keep_RunqCount_l1 a0 r4 n1 (IntKind.i64.wrap (x6 + 1)) (k7 + 1)
            else
              bif (((a0.getD k7 (⟨0, 0, 0⟩ : Api_RunOp)).Kind : Int) == 4) then
                keep_RunqCount_l1 a0 r4 n1 (IntKind.i64.wrap (x6 - 1)) (k7 + 1)
              else
                keep_RunqCount_l1 a0 r4 n1 x6 (k7 + 1)
          else
            bif (((a0.getD k7 (⟨0, 0, 0⟩ : Api_RunOp)).Kind : Int) == 2) then
              keep_RunqCount_l1 a0 r4 n1 (IntKind.i64.wrap (x6 + 1)) (k7 + 1)
            else
              bif (((a0.getD k7 (⟨0, 0, 0⟩ : Api_RunOp)).Kind : Int) == 4) then
                keep_RunqCount_l1 a0 r4 n1 (IntKind.i64.wrap (x6 - 1)) (k7 + 1)
              else
                keep_RunqCount_l1 a0 r4 n1 x6 (k7 + 1)
        else
          keep_RunqCount_l1 a0 r4 n1 x6 (k7 + 1)
      else none
    else
      (slices_Values_int r4.2.2).bind fun r30 =>
      (slices_Sorted_int r4.2.2).bind fun r32 =>
      bif (((((r4.1.length : Nat) : Int) : Int) == ((a0.length : Nat) : Int)) && ((x6 : Int) == (IntKind.i64.wrap (((r4.2.1.length : Nat) : Int) + ((r4.2.2.length : Nat) : Int))))) then
        (slices_Compact_int_h0 r32).bind fun r42 =>
        some ((((((r4.1.length : Nat) : Int) : Int) == ((a0.length : Nat) : Int)) && ((x6 : Int) == (IntKind.i64.wrap (((r4.2.1.length : Nat) : Int) + ((r4.2.2.length : Nat) : Int))))) && ((((r42.length : Nat) : Int) : Int) == ((r4.2.2.length : Nat) : Int)))
      else
        some ((((((r4.1.length : Nat) : Int) : Int) == ((a0.length : Nat) : Int)) && ((x6 : Int) == (IntKind.i64.wrap (((r4.2.1.length : Nat) : Int) + ((r4.2.2.length : Nat) : Int))))) && ((((0 : Nat) : Int) : Int) == ((r4.2.2.length : Nat) : Int)))

def keep_RunqCount (a0 : (List Api_RunOp)) : Option (Bool) :=
  (keep_alive13).bind fun r1 =>
  bif (!r1) then
    some false
  else
    (runq_Play a0).bind fun r4 =>
    keep_RunqCount_l1 a0 r4 FUEL 0 0


end Go.Proofs.Ytmmhiggfpdjdcaa
