/- The models of the functions: printed by program. -/
import Derived.Test.YtdfgmloipigmfaaAbYg
set_option linter.unusedSimpArgs false
set_option linter.unusedVariables false
namespace Go.Proofs.Ytdfgmloipigmfaa
open Go Go.Ab

structure Api_GraceOp where
  Kind : Int
  Core : Int
  Thing : Int
deriving DecidableEq

structure Grace_retired where
  thing_ : Int
  cores_ : (Nat → Bool)

structure Grace_state where
  in_ : (Nat → Bool)
  waits_ : (List Grace_retired)
  freed_ : (List Int)

def Ok_Api_GraceOp (x : Api_GraceOp) : Prop := (-9223372036854775808 ≤ x.Kind ∧ x.Kind ≤ 9223372036854775807) ∧ (-9223372036854775808 ≤ x.Core ∧ x.Core ≤ 9223372036854775807) ∧ (-9223372036854775808 ≤ x.Thing ∧ x.Thing ≤ 9223372036854775807)

/- (*corebell/grace.state).waiting -/
def grace_state_waiting_l1 (a0 : Grace_state) (a1 : Int) : Nat → Nat → Option (Bool)
  | 0, _ => none
  | n1 + 1, k1 =>
    bif (decide ((((k1 : Nat) : Int) : Int) < ((a0.waits_.length : Nat) : Int))) then
      bif (((a0.waits_.getD k1 (⟨0, (fun (_ : Nat) => (false : Bool))⟩ : Grace_retired)).thing_ : Int) == a1) then
        some true
      else
        grace_state_waiting_l1 a0 a1 n1 (k1 + 1)
    else
      some false

def grace_state_waiting (a0 : Grace_state) (a1 : Int) : Option (Bool) :=
  grace_state_waiting_l1 a0 a1 FUEL 0


/- (*corebell/grace.state).free -/
def grace_state_free_l1 (a0 : Grace_state) : Nat → List Grace_retired → Nat → List Int → Option (Grace_state)
  | 0, _, _, _ => none
  | n1 + 1, l1, k2, l3 =>
    bif (decide ((((k2 : Nat) : Int) : Int) < ((a0.waits_.length : Nat) : Int))) then
      bif (((((a0.waits_.getD (0 + k2) (⟨0, (fun (_ : Nat) => (false : Bool))⟩ : Grace_retired)).cores_) 0) == false) && (((((a0.waits_.getD (0 + k2) (⟨0, (fun (_ : Nat) => (false : Bool))⟩ : Grace_retired)).cores_) 1) == false) && (((((a0.waits_.getD (0 + k2) (⟨0, (fun (_ : Nat) => (false : Bool))⟩ : Grace_retired)).cores_) 2) == false) && (((((a0.waits_.getD (0 + k2) (⟨0, (fun (_ : Nat) => (false : Bool))⟩ : Grace_retired)).cores_) 3) == false) && (((((a0.waits_.getD (0 + k2) (⟨0, (fun (_ : Nat) => (false : Bool))⟩ : Grace_retired)).cores_) 4) == false) && (((((a0.waits_.getD (0 + k2) (⟨0, (fun (_ : Nat) => (false : Bool))⟩ : Grace_retired)).cores_) 5) == false) && (((((a0.waits_.getD (0 + k2) (⟨0, (fun (_ : Nat) => (false : Bool))⟩ : Grace_retired)).cores_) 6) == false) && (((((a0.waits_.getD (0 + k2) (⟨0, (fun (_ : Nat) => (false : Bool))⟩ : Grace_retired)).cores_) 7) == false) && true)))))))) then
        if ((l3).length + ([(a0.waits_.getD (0 + k2) (⟨0, (fun (_ : Nat) => (false : Bool))⟩ : Grace_retired)).thing_]).length) * 8 ≤ 140737488355328 ∧ (l3).length + ([(a0.waits_.getD (0 + k2) (⟨0, (fun (_ : Nat) => (false : Bool))⟩ : Grace_retired)).thing_]).length ≤ 140737488355328 then
        grace_state_free_l1 a0 n1 l1 (k2 + 1) (l3 ++ [(a0.waits_.getD (0 + k2) (⟨0, (fun (_ : Nat) => (false : Bool))⟩ : Grace_retired)).thing_])
        else none
      else
        if ((l1).length + ([(⟨(a0.waits_.getD (0 + k2) (⟨0, (fun (_ : Nat) => (false : Bool))⟩ : Grace_retired)).thing_, ((a0.waits_.getD (0 + k2) (⟨0, (fun (_ : Nat) => (false : Bool))⟩ : Grace_retired)).cores_)⟩ : Grace_retired)]).length) * 16 ≤ 140737488355328 ∧ (l1).length + ([(⟨(a0.waits_.getD (0 + k2) (⟨0, (fun (_ : Nat) => (false : Bool))⟩ : Grace_retired)).thing_, ((a0.waits_.getD (0 + k2) (⟨0, (fun (_ : Nat) => (false : Bool))⟩ : Grace_retired)).cores_)⟩ : Grace_retired)]).length ≤ 140737488355328 then
        grace_state_free_l1 a0 n1 (l1 ++ [(⟨(a0.waits_.getD (0 + k2) (⟨0, (fun (_ : Nat) => (false : Bool))⟩ : Grace_retired)).thing_, ((a0.waits_.getD (0 + k2) (⟨0, (fun (_ : Nat) => (false : Bool))⟩ : Grace_retired)).cores_)⟩ : Grace_retired)]) (k2 + 1) l3
        else none
    else
      some (⟨a0.in_, l1, l3⟩ : Grace_state)

def grace_state_free (a0 : Grace_state) : Option (Grace_state) :=
  grace_state_free_l1 a0 FUEL ([] : List Grace_retired) 0 a0.freed_


/- (*corebell/grace.state).do -/
def grace_state_do_l1 (a0 : Grace_state) (a1 : Api_GraceOp) : Nat → Nat → List Grace_retired → Option (Int × Grace_state)
  | 0, _, _ => none
  | n1 + 1, k35, l36 =>
    bif (decide ((((k35 : Nat) : Int) : Int) < ((a0.waits_.length : Nat) : Int))) then
      if 0 ≤ (((k35 : Nat) : Int) : Int) ∧ ((k35 : Nat) : Int) < ((l36.length : Nat) : Int) then
      if 0 ≤ (a1.Core : Int) ∧ a1.Core < ((8 : Nat) : Int) then
      grace_state_do_l1 a0 a1 n1 (k35 + 1) (l36.set (0 + k35) (⟨(l36.getD (0 + k35) (⟨0, (fun (_ : Nat) => (false : Bool))⟩ : Grace_retired)).thing_, (upd ((l36.getD (0 + k35) (⟨0, (fun (_ : Nat) => (false : Bool))⟩ : Grace_retired)).cores_) (Int.toNat a1.Core) false)⟩ : Grace_retired))
      else none
      else none
    else
      (grace_state_free (⟨(upd a0.in_ (Int.toNat a1.Core) ((a1.Kind : Int) == 1)), l36, a0.freed_⟩ : Grace_state)).bind fun r40 =>
      some (0, r40)

def grace_state_do (a0 : Grace_state) (a1 : Api_GraceOp) : Option (Int × Grace_state) :=
  bif ((decide ((a1.Kind : Int) < 1)) || (decide ((a1.Kind : Int) > 3))) then
    some (5, a0)
  else
    bif ((a1.Kind : Int) == 3) then
      (grace_state_waiting a0 a1.Thing).bind fun r6 =>
      bif r6 then
        some (6, a0)
      else
        if ((a0.waits_).length + ([(⟨a1.Thing, a0.in_⟩ : Grace_retired)]).length) * 16 ≤ 140737488355328 ∧ (a0.waits_).length + ([(⟨a1.Thing, a0.in_⟩ : Grace_retired)]).length ≤ 140737488355328 then
        (grace_state_free (⟨a0.in_, (a0.waits_ ++ [(⟨a1.Thing, a0.in_⟩ : Grace_retired)]), a0.freed_⟩ : Grace_state)).bind fun r10 =>
        some (0, r10)
        else none
    else
      bif ((decide ((a1.Core : Int) < 0)) || (decide ((a1.Core : Int) ≥ 8))) then
        some (2, a0)
      else
        if (((a1.Kind : Int) == 1) = true → (0 ≤ (a1.Core : Int) ∧ a1.Core < ((8 : Nat) : Int))) then
        bif (((a1.Kind : Int) == 1) && (a0.in_ (Int.toNat a1.Core))) then
          some (6, a0)
        else
          if (((a1.Kind : Int) == 2) = true → (0 ≤ (a1.Core : Int) ∧ a1.Core < ((8 : Nat) : Int))) then
          bif (((a1.Kind : Int) == 2) && (!(a0.in_ (Int.toNat a1.Core)))) then
            some (3, a0)
          else
            if 0 ≤ (a1.Core : Int) ∧ a1.Core < ((8 : Nat) : Int) then
            bif ((a1.Kind : Int) == 2) then
              grace_state_do_l1 a0 a1 FUEL 0 a0.waits_
            else
              some (0, (⟨(upd a0.in_ (Int.toNat a1.Core) ((a1.Kind : Int) == 1)), a0.waits_, a0.freed_⟩ : Grace_state))
            else none
          else none
        else none


/- corebell/grace.Play -/
def grace_Play_l2 (l1 : List Int) (l2 : List Int) (l5 : List Grace_retired) (l6 : List Int) : Nat → List Int → Nat → Option ((List Int) × (List Int) × (List Int) × (List Int))
  | 0, _, _ => none
  | n2 + 1, l13, k14 =>
    bif (decide ((((k14 : Nat) : Int) : Int) < ((l5.length : Nat) : Int))) then
      if ((l13).length + ([(l5.getD (0 + k14) (⟨0, (fun (_ : Nat) => (false : Bool))⟩ : Grace_retired)).thing_]).length) * 8 ≤ 140737488355328 ∧ (l13).length + ([(l5.getD (0 + k14) (⟨0, (fun (_ : Nat) => (false : Bool))⟩ : Grace_retired)).thing_]).length ≤ 140737488355328 then
      grace_Play_l2 l1 l2 l5 l6 n2 (l13 ++ [(l5.getD (0 + k14) (⟨0, (fun (_ : Nat) => (false : Bool))⟩ : Grace_retired)).thing_]) (k14 + 1)
      else none
    else
      some (l1, l2, l6, l13)

def grace_Play_l1 (a0 : (List Api_GraceOp)) : Nat → List Int → List Int → Nat → (Nat → Bool) → List Grace_retired → List Int → Option ((List Int) × (List Int) × (List Int) × (List Int))
  | 0, _, _, _, _, _, _ => none
  | n1 + 1, l1, l2, k3, f4, l5, l6 =>
    bif (decide ((((k3 : Nat) : Int) : Int) < ((a0.length : Nat) : Int))) then
      (grace_state_do (⟨f4, l5, l6⟩ : Grace_state) (a0.getD k3 (⟨0, 0, 0⟩ : Api_GraceOp))).bind fun r9 =>
      if ((l1).length + ([r9.1]).length) * 8 ≤ 140737488355328 ∧ (l1).length + ([r9.1]).length ≤ 140737488355328 then
      if ((l2).length + ([((r9.2.freed_.length : Nat) : Int)]).length) * 8 ≤ 140737488355328 ∧ (l2).length + ([((r9.2.freed_.length : Nat) : Int)]).length ≤ 140737488355328 then
      grace_Play_l1 a0 n1 (l1 ++ [r9.1]) (l2 ++ [((r9.2.freed_.length : Nat) : Int)]) (k3 + 1) r9.2.in_ r9.2.waits_ r9.2.freed_
      else none
      else none
    else
      grace_Play_l2 l1 l2 l5 l6 FUEL ([] : List Int) 0

def grace_Play (a0 : (List Api_GraceOp)) : Option ((List Int) × (List Int) × (List Int) × (List Int)) :=
  grace_Play_l1 a0 FUEL ([] : List Int) ([] : List Int) 0 (fun _ => false) ([] : List Grace_retired) ([] : List Int)


/- slices.Equal(()corebell/api.Errno,corebell/api.Errno) -/
def slices_Equal_api_Errno_l1 (a0 : (List Int)) (a1 : (List Int)) : Nat → Nat → Option (Bool)
  | 0, _ => none
  | n1 + 1, k2 =>
    bif (decide ((((k2 : Nat) : Int) : Int) < ((a0.length : Nat) : Int))) then
      if 0 ≤ (((k2 : Nat) : Int) : Int) ∧ ((k2 : Nat) : Int) < ((a1.length : Nat) : Int) then
      bif (((a0.getD k2 0) : Int) != (a1.getD k2 0)) then
        some false
      else
        slices_Equal_api_Errno_l1 a0 a1 n1 (k2 + 1)
      else none
    else
      some true

def slices_Equal_api_Errno (a0 : (List Int)) (a1 : (List Int)) : Option (Bool) :=
  bif ((((a0.length : Nat) : Int) : Int) != ((a1.length : Nat) : Int)) then
    some false
  else
    slices_Equal_api_Errno_l1 a0 a1 FUEL 0


/- slices.Equal(()int,int) -/
def slices_Equal_int_l1 (a0 : (List Int)) (a1 : (List Int)) : Nat → Nat → Option (Bool)
  | 0, _ => none
  | n1 + 1, k2 =>
    bif (decide ((((k2 : Nat) : Int) : Int) < ((a0.length : Nat) : Int))) then
      if 0 ≤ (((k2 : Nat) : Int) : Int) ∧ ((k2 : Nat) : Int) < ((a1.length : Nat) : Int) then
      bif (((a0.getD k2 0) : Int) != (a1.getD k2 0)) then
        some false
      else
        slices_Equal_int_l1 a0 a1 n1 (k2 + 1)
      else none
    else
      some true

def slices_Equal_int (a0 : (List Int)) (a1 : (List Int)) : Option (Bool) :=
  bif ((((a0.length : Nat) : Int) : Int) != ((a1.length : Nat) : Int)) then
    some false
  else
    slices_Equal_int_l1 a0 a1 FUEL 0


/- corebell/corebellkeep.alive24 -/
def keep_alive24 : Option (Bool) :=
  (grace_Play [(⟨1, 0, 0⟩ : Api_GraceOp), (⟨3, 0, 7⟩ : Api_GraceOp), (⟨1, 2, 0⟩ : Api_GraceOp), (⟨2, 0, 0⟩ : Api_GraceOp), (⟨3, 0, 8⟩ : Api_GraceOp), (⟨3, 0, 8⟩ : Api_GraceOp)]).bind fun r1 =>
  (slices_Equal_api_Errno r1.1 [0, 0, 0, 0, 0, 6]).bind fun r3 =>
  (bif r3 then slices_Equal_int r1.2.1 [0, 0, 0, 1, 1, 1] else some false).bind fun r5 =>
  (bif (r3 && r5) then slices_Equal_int r1.2.2.1 [7] else some false).bind fun r8 =>
  (bif ((r3 && r5) && r8) then slices_Equal_int r1.2.2.2 [8] else some false).bind fun r11 =>
  some (((r3 && r5) && r8) && r11)


/- corebell/corebellkeep.GraceSafe -/
def keep_GraceSafe_l2 (a0 : (List Api_GraceOp)) (r4 : (List Int) × (List Int) × (List Int) × (List Int)) (x12 : Int) (k13 : Nat) (m14 : List (Int × Int)) (m15 : List (Int × Int)) (K2_0 : (List (Int × Int)) → (List (Int × Int)) → Int → Option (Bool)) : Nat → List (Int × Int) → List (Int × Int) → Int → Option (Bool)
  | 0, _, _, _ => none
  | n2 + 1, m21, m22, x23 =>
    if 0 ≤ (((k13 : Nat) : Int) : Int) ∧ ((k13 : Nat) : Int) < ((r4.2.1.length : Nat) : Int) then
    bif ((decide ((x23 : Int) < (r4.2.1.getD (0 + k13) 0))) && (decide ((x23 : Int) < ((r4.2.2.1.length : Nat) : Int)))) then
      if 0 ≤ (x23 : Int) ∧ x23 < ((r4.2.2.1.length : Nat) : Int) then
      bif (!((mget (r4.2.2.1.getD (0 + (Int.toNat x23)) 0) m22).isSome)) then
        some false
      else
        bif (m21).any (fun (p32 : (Int × Int)) => (decide ((p32.2 : Int) < ((mget (r4.2.2.1.getD (0 + (Int.toNat x23)) 0) m22).getD 0)))) then
          some false
        else
          if 0 ≤ (x23 : Int) ∧ x23 < ((r4.2.2.1.length : Nat) : Int) then
          keep_GraceSafe_l2 a0 r4 x12 k13 m14 m15 K2_0 n2 m21 (mdelete (r4.2.2.1.getD (0 + (Int.toNat x23)) 0) m22) (IntKind.i64.wrap (x23 + 1))
          else none
      else none
    else
      K2_0 m21 m22 x23
    else none

def keep_GraceSafe_l3 (a0 : (List Api_GraceOp)) (r4 : (List Int) × (List Int) × (List Int) × (List Int)) (x12 : Int) (k13 : Nat) (m14 : List (Int × Int)) (m15 : List (Int × Int)) (K3_0 : (List (Int × Int)) → (List (Int × Int)) → Int → Option (Bool)) : Nat → List (Int × Int) → List (Int × Int) → Int → Option (Bool)
  | 0, _, _, _ => none
  | n3 + 1, m37, m38, x39 =>
    if 0 ≤ (((k13 : Nat) : Int) : Int) ∧ ((k13 : Nat) : Int) < ((r4.2.1.length : Nat) : Int) then
    bif ((decide ((x39 : Int) < (r4.2.1.getD (0 + k13) 0))) && (decide ((x39 : Int) < ((r4.2.2.1.length : Nat) : Int)))) then
      if 0 ≤ (x39 : Int) ∧ x39 < ((r4.2.2.1.length : Nat) : Int) then
      bif (!((mget (r4.2.2.1.getD (0 + (Int.toNat x39)) 0) m38).isSome)) then
        some false
      else
        bif (m37).any (fun (p48 : (Int × Int)) => (decide ((p48.2 : Int) < ((mget (r4.2.2.1.getD (0 + (Int.toNat x39)) 0) m38).getD 0)))) then
          some false
        else
          if 0 ≤ (x39 : Int) ∧ x39 < ((r4.2.2.1.length : Nat) : Int) then
          keep_GraceSafe_l3 a0 r4 x12 k13 m14 m15 K3_0 n3 m37 (mdelete (r4.2.2.1.getD (0 + (Int.toNat x39)) 0) m38) (IntKind.i64.wrap (x39 + 1))
          else none
      else none
    else
      K3_0 m37 m38 x39
    else none

def keep_GraceSafe_l4 (a0 : (List Api_GraceOp)) (r4 : (List Int) × (List Int) × (List Int) × (List Int)) (x12 : Int) (k13 : Nat) (m14 : List (Int × Int)) (m15 : List (Int × Int)) (K4_0 : (List (Int × Int)) → (List (Int × Int)) → Int → Option (Bool)) : Nat → List (Int × Int) → List (Int × Int) → Int → Option (Bool)
  | 0, _, _, _ => none
  | n4 + 1, m52, m53, x54 =>
    if 0 ≤ (((k13 : Nat) : Int) : Int) ∧ ((k13 : Nat) : Int) < ((r4.2.1.length : Nat) : Int) then
    bif ((decide ((x54 : Int) < (r4.2.1.getD (0 + k13) 0))) && (decide ((x54 : Int) < ((r4.2.2.1.length : Nat) : Int)))) then
      if 0 ≤ (x54 : Int) ∧ x54 < ((r4.2.2.1.length : Nat) : Int) then
      bif (!((mget (r4.2.2.1.getD (0 + (Int.toNat x54)) 0) m53).isSome)) then
        some false
      else
        bif (m52).any (fun (p63 : (Int × Int)) => (decide ((p63.2 : Int) < ((mget (r4.2.2.1.getD (0 + (Int.toNat x54)) 0) m53).getD 0)))) then
          some false
        else
          if 0 ≤ (x54 : Int) ∧ x54 < ((r4.2.2.1.length : Nat) : Int) then
          keep_GraceSafe_l4 a0 r4 x12 k13 m14 m15 K4_0 n4 m52 (mdelete (r4.2.2.1.getD (0 + (Int.toNat x54)) 0) m53) (IntKind.i64.wrap (x54 + 1))
          else none
      else none
    else
      K4_0 m52 m53 x54
    else none

def keep_GraceSafe_l5 (r4 : (List Int) × (List Int) × (List Int) × (List Int)) (x12 : Int) (k13 : Nat) (m14 : List (Int × Int)) (m15 : List (Int × Int)) (K5_0 : (List (Int × Int)) → (List (Int × Int)) → Int → Option (Bool)) : Nat → List (Int × Int) → List (Int × Int) → Int → Option (Bool)
  | 0, _, _, _ => none
  | n5 + 1, m67, m68, x69 =>
    if 0 ≤ (((k13 : Nat) : Int) : Int) ∧ ((k13 : Nat) : Int) < ((r4.2.1.length : Nat) : Int) then
    bif ((decide ((x69 : Int) < (r4.2.1.getD (0 + k13) 0))) && (decide ((x69 : Int) < ((r4.2.2.1.length : Nat) : Int)))) then
      if 0 ≤ (x69 : Int) ∧ x69 < ((r4.2.2.1.length : Nat) : Int) then
      bif (!((mget (r4.2.2.1.getD (0 + (Int.toNat x69)) 0) m68).isSome)) then
        some false
      else
        bif (m67).any (fun (p78 : (Int × Int)) => (decide ((p78.2 : Int) < ((mget (r4.2.2.1.getD (0 + (Int.toNat x69)) 0) m68).getD 0)))) then
          some false
        else
          if 0 ≤ (x69 : Int) ∧ x69 < ((r4.2.2.1.length : Nat) : Int) then
          keep_GraceSafe_l5 r4 x12 k13 m14 m15 K5_0 n5 m67 (mdelete (r4.2.2.1.getD (0 + (Int.toNat x69)) 0) m68) (IntKind.i64.wrap (x69 + 1))
          else none
      else none
    else
      K5_0 m67 m68 x69
    else none

def keep_GraceSafe_l1 (a0 : (List Api_GraceOp)) (r4 : (List Int) × (List Int) × (List Int) × (List Int)) : Nat → Int → Nat → List (Int × Int) → List (Int × Int) → Option (Bool)
  | 0, _, _, _, _ => none
  | n1 + 1, x12, k13, m14, m15 =>
    bif (decide ((((k13 : Nat) : Int) : Int) < ((a0.length : Nat) : Int))) then
      if 0 ≤ (((k13 : Nat) : Int) : Int) ∧ ((k13 : Nat) : Int) < ((r4.1.length : Nat) : Int) then
      bif (((r4.1.getD (0 + k13) 0) : Int) == 0) then
        bif (((a0.getD k13 (⟨0, 0, 0⟩ : Api_GraceOp)).Kind : Int) == 1) then
          keep_GraceSafe_l2 a0 r4 x12 k13 m14 m15 (fun (m21 : List (Int × Int)) (m22 : List (Int × Int)) (x23 : Int) =>
              keep_GraceSafe_l1 a0 r4 n1 x23 (k13 + 1) m21 m22
            ) FUEL (mput ((a0.getD k13 (⟨0, 0, 0⟩ : Api_GraceOp)).Core) ((k13 : Nat) : Int) m14) m15 x12
        else
          bif (((a0.getD k13 (⟨0, 0, 0⟩ : Api_GraceOp)).Kind : Int) == 2) then
            keep_GraceSafe_l3 a0 r4 x12 k13 m14 m15 (fun (m37 : List (Int × Int)) (m38 : List (Int × Int)) (x39 : Int) =>
                keep_GraceSafe_l1 a0 r4 n1 x39 (k13 + 1) m37 m38
              ) FUEL (mdelete ((a0.getD k13 (⟨0, 0, 0⟩ : Api_GraceOp)).Core) m14) m15 x12
          else
            keep_GraceSafe_l4 a0 r4 x12 k13 m14 m15 (fun (m52 : List (Int × Int)) (m53 : List (Int × Int)) (x54 : Int) =>
                keep_GraceSafe_l1 a0 r4 n1 x54 (k13 + 1) m52 m53
              ) FUEL m14 (mput ((a0.getD k13 (⟨0, 0, 0⟩ : Api_GraceOp)).Thing) ((k13 : Nat) : Int) m15) x12
      else
        keep_GraceSafe_l5 r4 x12 k13 m14 m15 (fun (m67 : List (Int × Int)) (m68 : List (Int × Int)) (x69 : Int) =>
            keep_GraceSafe_l1 a0 r4 n1 x69 (k13 + 1) m67 m68
          ) FUEL m14 m15 x12
      else none
    else
      some ((x12 : Int) == ((r4.2.2.1.length : Nat) : Int))

def keep_GraceSafe (a0 : (List Api_GraceOp)) : Option (Bool) :=
  (keep_alive24).bind fun r1 =>
  bif (!r1) then
    some false
  else
    (grace_Play a0).bind fun r4 =>
    bif (((((r4.1.length : Nat) : Int) : Int) != ((a0.length : Nat) : Int)) || ((((r4.2.1.length : Nat) : Int) : Int) != ((a0.length : Nat) : Int))) then
      some false
    else
      keep_GraceSafe_l1 a0 r4 FUEL 0 0 ([] : List (Int × Int)) ([] : List (Int × Int))


/- slices.Grow(()int,int), from nothing -/
def slices_Grow_int_nil (a0 : Int) : Option (List Int) := if 0 ≤ a0 ∧ a0.toNat * 8 ≤ 140737488355328 ∧ a0.toNat ≤ 140737488355328 then some [] else none

/- slices.Concat(()int,int) -/
def slices_Concat_int_l2 (a0 : (List (List Int))) (r6 : (List Int)) : Nat → List Int → Nat → Option ((List Int))
  | 0, _, _ => none
  | n2 + 1, l8, k9 =>
    bif (decide ((((k9 : Nat) : Int) : Int) < ((a0.length : Nat) : Int))) then
      if ((l8).length + ((a0.getD k9 [])).length) * 8 ≤ 140737488355328 ∧ (l8).length + ((a0.getD k9 [])).length ≤ 140737488355328 then
      slices_Concat_int_l2 a0 r6 n2 (l8 ++ (a0.getD k9 [])) (k9 + 1)
      else none
    else
      some l8

def slices_Concat_int_l1 (a0 : (List (List Int))) : Nat → Int → Nat → Option ((List Int))
  | 0, _, _ => none
  | n1 + 1, x1, k2 =>
    bif (decide ((((k2 : Nat) : Int) : Int) < ((a0.length : Nat) : Int))) then
      bif (decide (((IntKind.i64.wrap (x1 + (((a0.getD k2 []).length : Nat) : Int))) : Int) < 0)) then
        none
      else
        slices_Concat_int_l1 a0 n1 (IntKind.i64.wrap (x1 + (((a0.getD k2 []).length : Nat) : Int))) (k2 + 1)
    else
      (slices_Grow_int_nil x1).bind fun r6 =>
      slices_Concat_int_l2 a0 r6 FUEL r6 0

def slices_Concat_int (a0 : (List (List Int))) : Option ((List Int)) :=
  slices_Concat_int_l1 a0 FUEL 0 0


/- corebell/corebellkeep.GraceOnce -/
def keep_GraceOnce_l2 (a0 : (List Api_GraceOp)) (r4 : (List Int) × (List Int) × (List Int) × (List Int)) (m7 : List (Int × Int)) (r20 : (List Int)) : Nat → Nat → List (Int × Int) → Option (Bool)
  | 0, _, _ => none
  | n2 + 1, k22, m23 =>
    bif (decide ((((k22 : Nat) : Int) : Int) < ((r20.length : Nat) : Int))) then
      keep_GraceOnce_l2 a0 r4 m7 r20 n2 (k22 + 1) (mput (r20.getD (0 + k22) 0) (IntKind.i64.wrap (((mget (r20.getD (0 + k22) 0) m23).getD 0) - 1)) m23)
    else
      bif (m23).any (fun (p26 : (Int × Int)) => ((p26.2 : Int) != 0)) then
        some false
      else
        some ((((r4.1.length : Nat) : Int) : Int) == ((a0.length : Nat) : Int))

def keep_GraceOnce_l1 (a0 : (List Api_GraceOp)) (r4 : (List Int) × (List Int) × (List Int) × (List Int)) : Nat → Nat → List (Int × Int) → Option (Bool)
  | 0, _, _ => none
  | n1 + 1, k6, m7 =>
    bif (decide ((((k6 : Nat) : Int) : Int) < ((a0.length : Nat) : Int))) then
      if ((decide ((((k6 : Nat) : Int) : Int) < ((r4.1.length : Nat) : Int))) = true → (0 ≤ (((k6 : Nat) : Int) : Int) ∧ ((k6 : Nat) : Int) < ((r4.1.length : Nat) : Int))) then
      bif (((decide ((((k6 : Nat) : Int) : Int) < ((r4.1.length : Nat) : Int))) && (((r4.1.getD k6 0) : Int) == 0)) && (((a0.getD k6 (⟨0, 0, 0⟩ : Api_GraceOp)).Kind : Int) == 3)) then
        keep_GraceOnce_l1 a0 r4 n1 (k6 + 1) (mput ((a0.getD k6 (⟨0, 0, 0⟩ : Api_GraceOp)).Thing) (IntKind.i64.wrap (((mget ((a0.getD k6 (⟨0, 0, 0⟩ : Api_GraceOp)).Thing) m7).getD 0) + 1)) m7)
      else
        keep_GraceOnce_l1 a0 r4 n1 (k6 + 1) m7
      else none
    else
      (slices_Concat_int [r4.2.2.1, r4.2.2.2]).bind fun r20 =>
      keep_GraceOnce_l2 a0 r4 m7 r20 FUEL 0 m7

def keep_GraceOnce (a0 : (List Api_GraceOp)) : Option (Bool) :=
  (keep_alive24).bind fun r1 =>
  bif (!r1) then
    some false
  else
    (grace_Play a0).bind fun r4 =>
    keep_GraceOnce_l1 a0 r4 FUEL 0 ([] : List (Int × Int))


end Go.Proofs.Ytdfgmloipigmfaa
