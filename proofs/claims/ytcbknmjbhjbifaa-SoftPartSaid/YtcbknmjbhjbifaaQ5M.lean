/- The models of the functions: printed by program. -/
import Derived.Test.YtcbknmjbhjbifaaAbY
set_option linter.unusedSimpArgs false
set_option linter.unusedVariables false
namespace Go.Proofs.Ytcbknmjbhjbifaa
open Go Go.Ab

structure Api_GraceOp where
  Kind : Int
  Core : Int
  Thing : Int
deriving DecidableEq

structure Grace_retired where
  thing_ : Int
  cores_ : (Nat → Bool)

structure Grace_state where
  in_ : (Nat → Bool)
  waits_ : (List Grace_retired)
  freed_ : (List Int)

structure Api_Raise where
  When : Int
  Soft : Int
deriving DecidableEq

structure Soft_runner where
  pending_ : (Nat → Bool)
  raises_ : (List Api_Raise)
  ran_ : (List Int)

structure Api_WorkOp where
  Kind : Int
  Item : Int
deriving DecidableEq

structure Work_queue where
  waits_ : (List Int)
  begun_ : Int
  done_ : (List Int)
deriving DecidableEq

def Ok_Api_GraceOp (x : Api_GraceOp) : Prop := (-9223372036854775808 ≤ x.Kind ∧ x.Kind ≤ 9223372036854775807) ∧ (-9223372036854775808 ≤ x.Core ∧ x.Core ≤ 9223372036854775807) ∧ (-9223372036854775808 ≤ x.Thing ∧ x.Thing ≤ 9223372036854775807)
def Ok_Api_Raise (x : Api_Raise) : Prop := (-9223372036854775808 ≤ x.When ∧ x.When ≤ 9223372036854775807) ∧ (-9223372036854775808 ≤ x.Soft ∧ x.Soft ≤ 9223372036854775807)

/- (*corebell/grace.state).waiting -/
def grace_state_waiting_l1 (a0 : Grace_state) (a1 : Int) : Nat → Nat → Option (Bool)
  | 0, _ => none
  | n1 + 1, k1 =>
    bif (decide ((((k1 : Nat) : Int) : Int) < ((a0.waits_.length : Nat) : Int))) then
      bif (((a0.waits_.getD k1 (⟨0, (fun _ => false)⟩ : Grace_retired)).thing_ : Int) == a1) then
        some true
      else
        grace_state_waiting_l1 a0 a1 n1 (k1 + 1)
    else
      some false

def grace_state_waiting (a0 : Grace_state) (a1 : Int) : Option (Bool) :=
  grace_state_waiting_l1 a0 a1 FUEL 0


/- (*corebell/grace.state).free -/
def grace_state_free_l1 (a0 : Grace_state) : Nat → List Grace_retired → Nat → List Int → Option (Grace_state)
  | 0, _, _, _ => none
  | n1 + 1, l1, k2, l3 =>
    bif (decide ((((k2 : Nat) : Int) : Int) < ((a0.waits_.length : Nat) : Int))) then
      bif (((((a0.waits_.getD (0 + k2) (⟨0, (fun _ => false)⟩ : Grace_retired)).cores_) 0) == false) && (((((a0.waits_.getD (0 + k2) (⟨0, (fun _ => false)⟩ : Grace_retired)).cores_) 1) == false) && (((((a0.waits_.getD (0 + k2) (⟨0, (fun _ => false)⟩ : Grace_retired)).cores_) 2) == false) && (((((a0.waits_.getD (0 + k2) (⟨0, (fun _ => false)⟩ : Grace_retired)).cores_) 3) == false) && (((((a0.waits_.getD (0 + k2) (⟨0, (fun _ => false)⟩ : Grace_retired)).cores_) 4) == false) && (((((a0.waits_.getD (0 + k2) (⟨0, (fun _ => false)⟩ : Grace_retired)).cores_) 5) == false) && (((((a0.waits_.getD (0 + k2) (⟨0, (fun _ => false)⟩ : Grace_retired)).cores_) 6) == false) && (((((a0.waits_.getD (0 + k2) (⟨0, (fun _ => false)⟩ : Grace_retired)).cores_) 7) == false) && true)))))))) then
        if ((l3).length + ([(a0.waits_.getD (0 + k2) (⟨0, (fun _ => false)⟩ : Grace_retired)).thing_]).length) * 8 ≤ 140737488355328 ∧ (l3).length + ([(a0.waits_.getD (0 + k2) (⟨0, (fun _ => false)⟩ : Grace_retired)).thing_]).length ≤ 140737488355328 then
        grace_state_free_l1 a0 n1 l1 (k2 + 1) (l3 ++ [(a0.waits_.getD (0 + k2) (⟨0, (fun _ => false)⟩ : Grace_retired)).thing_])
        else none
      else
        if ((l1).length + ([(⟨(a0.waits_.getD (0 + k2) (⟨0, (fun _ => false)⟩ : Grace_retired)).thing_, ((a0.waits_.getD (0 + k2) (⟨0, (fun _ => false)⟩ : Grace_retired)).cores_)⟩ : Grace_retired)]).length) * 16 ≤ 140737488355328 ∧ (l1).length + ([(⟨(a0.waits_.getD (0 + k2) (⟨0, (fun _ => false)⟩ : Grace_retired)).thing_, ((a0.waits_.getD (0 + k2) (⟨0, (fun _ => false)⟩ : Grace_retired)).cores_)⟩ : Grace_retired)]).length ≤ 140737488355328 then
        grace_state_free_l1 a0 n1 (l1 ++ [(⟨(a0.waits_.getD (0 + k2) (⟨0, (fun _ => false)⟩ : Grace_retired)).thing_, ((a0.waits_.getD (0 + k2) (⟨0, (fun _ => false)⟩ : Grace_retired)).cores_)⟩ : Grace_retired)]) (k2 + 1) l3
        else none
    else
      some (⟨a0.in_, l1, l3⟩ : Grace_state)

def grace_state_free (a0 : Grace_state) : Option (Grace_state) :=
  grace_state_free_l1 a0 FUEL ([] : List Grace_retired) 0 a0.freed_


/- (*corebell/grace.state).do -/
def grace_state_do_l1 (a0 : Grace_state) (a1 : Api_GraceOp) : Nat → Nat → List Grace_retired → Option (Int × Grace_state)
  | 0, _, _ => none
  | n1 + 1, k35, l36 =>
    bif (decide ((((k35 : Nat) : Int) : Int) < ((a0.waits_.length : Nat) : Int))) then
      if 0 ≤ (((k35 : Nat) : Int) : Int) ∧ ((k35 : Nat) : Int) < ((l36.length : Nat) : Int) then
      if 0 ≤ (a1.Core : Int) ∧ a1.Core < ((8 : Nat) : Int) then
      grace_state_do_l1 a0 a1 n1 (k35 + 1) (l36.set (0 + k35) (⟨(l36.getD (0 + k35) (⟨0, (fun _ => false)⟩ : Grace_retired)).thing_, (upd ((l36.getD (0 + k35) (⟨0, (fun _ => false)⟩ : Grace_retired)).cores_) (Int.toNat a1.Core) false)⟩ : Grace_retired))
      else none
      else none
    else
      (grace_state_free (⟨(upd a0.in_ (Int.toNat a1.Core) ((a1.Kind : Int) == 1)), l36, a0.freed_⟩ : Grace_state)).bind fun r40 =>
      some (0, r40)

def grace_state_do (a0 : Grace_state) (a1 : Api_GraceOp) : Option (Int × Grace_state) :=
  bif ((decide ((a1.Kind : Int) < 1)) || (decide ((a1.Kind : Int) > 3))) then
    some (5, a0)
  else
    bif ((a1.Kind : Int) == 3) then
      (grace_state_waiting a0 a1.Thing).bind fun r6 =>
      bif r6 then
        some (6, a0)
      else
        if ((a0.waits_).length + ([(⟨a1.Thing, a0.in_⟩ : Grace_retired)]).length) * 16 ≤ 140737488355328 ∧ (a0.waits_).length + ([(⟨a1.Thing, a0.in_⟩ : Grace_retired)]).length ≤ 140737488355328 then
        (grace_state_free (⟨a0.in_, (a0.waits_ ++ [(⟨a1.Thing, a0.in_⟩ : Grace_retired)]), a0.freed_⟩ : Grace_state)).bind fun r10 =>
        some (0, r10)
        else none
    else
      bif ((decide ((a1.Core : Int) < 0)) || (decide ((a1.Core : Int) ≥ 8))) then
        some (2, a0)
      else
        if (((a1.Kind : Int) == 1) = true → (0 ≤ (a1.Core : Int) ∧ a1.Core < ((8 : Nat) : Int))) then
        bif (((a1.Kind : Int) == 1) && (a0.in_ (Int.toNat a1.Core))) then
          some (6, a0)
        else
          if (((a1.Kind : Int) == 2) = true → (0 ≤ (a1.Core : Int) ∧ a1.Core < ((8 : Nat) : Int))) then
          bif (((a1.Kind : Int) == 2) && (!(a0.in_ (Int.toNat a1.Core)))) then
            some (3, a0)
          else
            if 0 ≤ (a1.Core : Int) ∧ a1.Core < ((8 : Nat) : Int) then
            bif ((a1.Kind : Int) == 2) then
              grace_state_do_l1 a0 a1 FUEL 0 a0.waits_
            else
              some (0, (⟨(upd a0.in_ (Int.toNat a1.Core) ((a1.Kind : Int) == 1)), a0.waits_, a0.freed_⟩ : Grace_state))
            else none
          else none
        else none


/- corebell/grace.Play -/
def grace_Play_l2 (l1 : List Int) (l2 : List Int) (l5 : List Grace_retired) (l6 : List Int) : Nat → List Int → Nat → Option ((List Int) × (List Int) × (List Int) × (List Int))
  | 0, _, _ => none
  | n2 + 1, l13, k14 =>
    bif (decide ((((k14 : Nat) : Int) : Int) < ((l5.length : Nat) : Int))) then
      if ((l13).length + ([(l5.getD (0 + k14) (⟨0, (fun _ => false)⟩ : Grace_retired)).thing_]).length) * 8 ≤ 140737488355328 ∧ (l13).length + ([(l5.getD (0 + k14) (⟨0, (fun _ => false)⟩ : Grace_retired)).thing_]).length ≤ 140737488355328 then
      grace_Play_l2 l1 l2 l5 l6 n2 (l13 ++ [(l5.getD (0 + k14) (⟨0, (fun _ => false)⟩ : Grace_retired)).thing_]) (k14 + 1)
      else none
    else
      some (l1, l2, l6, l13)

def grace_Play_l1 (a0 : (List Api_GraceOp)) : Nat → List Int → List Int → Nat → (Nat → Bool) → List Grace_retired → List Int → Option ((List Int) × (List Int) × (List Int) × (List Int))
  | 0, _, _, _, _, _, _ => none
  | n1 + 1, l1, l2, k3, f4, l5, l6 =>
    bif (decide ((((k3 : Nat) : Int) : Int) < ((a0.length : Nat) : Int))) then
      (grace_state_do (⟨f4, l5, l6⟩ : Grace_state) (a0.getD k3 (⟨0, 0, 0⟩ : Api_GraceOp))).bind fun r9 =>
      if ((l1).length + ([r9.1]).length) * 8 ≤ 140737488355328 ∧ (l1).length + ([r9.1]).length ≤ 140737488355328 then
      if ((l2).length + ([((r9.2.freed_.length : Nat) : Int)]).length) * 8 ≤ 140737488355328 ∧ (l2).length + ([((r9.2.freed_.length : Nat) : Int)]).length ≤ 140737488355328 then
      grace_Play_l1 a0 n1 (l1 ++ [r9.1]) (l2 ++ [((r9.2.freed_.length : Nat) : Int)]) (k3 + 1) r9.2.in_ r9.2.waits_ r9.2.freed_
      else none
      else none
    else
      grace_Play_l2 l1 l2 l5 l6 FUEL ([] : List Int) 0

def grace_Play (a0 : (List Api_GraceOp)) : Option ((List Int) × (List Int) × (List Int) × (List Int)) :=
  grace_Play_l1 a0 FUEL ([] : List Int) ([] : List Int) 0 (fun _ => false) ([] : List Grace_retired) ([] : List Int)


/- slices.Equal(()corebell/api.Errno,corebell/api.Errno) -/
def slices_Equal_api_Errno_l1 (a0 : (List Int)) (a1 : (List Int)) : Nat → Nat → Option (Bool)
  | 0, _ => none
  | n1 + 1, k2 =>
    bif (decide ((((k2 : Nat) : Int) : Int) < ((a0.length : Nat) : Int))) then
      if 0 ≤ (((k2 : Nat) : Int) : Int) ∧ ((k2 : Nat) : Int) < ((a1.length : Nat) : Int) then
      bif (((a0.getD k2 0) : Int) != (a1.getD k2 0)) then
        some false
      else
        slices_Equal_api_Errno_l1 a0 a1 n1 (k2 + 1)
      else none
    else
      some true

def slices_Equal_api_Errno (a0 : (List Int)) (a1 : (List Int)) : Option (Bool) :=
  bif ((((a0.length : Nat) : Int) : Int) != ((a1.length : Nat) : Int)) then
    some false
  else
    slices_Equal_api_Errno_l1 a0 a1 FUEL 0


/- slices.Equal(()int,int) -/
def slices_Equal_int_l1 (a0 : (List Int)) (a1 : (List Int)) : Nat → Nat → Option (Bool)
  | 0, _ => none
  | n1 + 1, k2 =>
    bif (decide ((((k2 : Nat) : Int) : Int) < ((a0.length : Nat) : Int))) then
      if 0 ≤ (((k2 : Nat) : Int) : Int) ∧ ((k2 : Nat) : Int) < ((a1.length : Nat) : Int) then
      bif (((a0.getD k2 0) : Int) != (a1.getD k2 0)) then
        some false
      else
        slices_Equal_int_l1 a0 a1 n1 (k2 + 1)
      else none
    else
      some true

def slices_Equal_int (a0 : (List Int)) (a1 : (List Int)) : Option (Bool) :=
  bif ((((a0.length : Nat) : Int) : Int) != ((a1.length : Nat) : Int)) then
    some false
  else
    slices_Equal_int_l1 a0 a1 FUEL 0


/- corebell/corebellkeep.alive24 -/
def keep_alive24 : Option (Bool) :=
  (grace_Play [(⟨1, 0, 0⟩ : Api_GraceOp), (⟨3, 0, 7⟩ : Api_GraceOp), (⟨1, 2, 0⟩ : Api_GraceOp), (⟨2, 0, 0⟩ : Api_GraceOp), (⟨3, 0, 8⟩ : Api_GraceOp), (⟨3, 0, 8⟩ : Api_GraceOp)]).bind fun r1 =>
  (slices_Equal_api_Errno r1.1 [0, 0, 0, 0, 0, 6]).bind fun r3 =>
  (bif r3 then slices_Equal_int r1.2.1 [0, 0, 0, 1, 1, 1] else some false).bind fun r5 =>
  (bif (r3 && r5) then slices_Equal_int r1.2.2.1 [7] else some false).bind fun r8 =>
  (bif ((r3 && r5) && r8) then slices_Equal_int r1.2.2.2 [8] else some false).bind fun r11 =>
  some (((r3 && r5) && r8) && r11)


/- corebell/corebellkeep.GraceNobody -/
def keep_GraceNobody_l1 (a0 : (List Int)) : Nat → List Api_GraceOp → Nat → Option (Bool)
  | 0, _, _ => none
  | n1 + 1, l4, k5 =>
    bif (decide ((((k5 : Nat) : Int) : Int) < ((a0.length : Nat) : Int))) then
      if ((l4).length + ([(⟨3, 0, (a0.getD k5 0)⟩ : Api_GraceOp)]).length) * 24 ≤ 140737488355328 ∧ (l4).length + ([(⟨3, 0, (a0.getD k5 0)⟩ : Api_GraceOp)]).length ≤ 140737488355328 then
      keep_GraceNobody_l1 a0 n1 (l4 ++ [(⟨3, 0, (a0.getD k5 0)⟩ : Api_GraceOp)]) (k5 + 1)
      else none
    else
      (grace_Play l4).bind fun r9 =>
      (slices_Equal_int r9.2.2.1 a0).bind fun r11 =>
      some (r11 && ((((r9.2.2.2.length : Nat) : Int) : Int) == 0))

def keep_GraceNobody (a0 : (List Int)) : Option (Bool) :=
  (keep_alive24).bind fun r1 =>
  bif (!r1) then
    some false
  else
    keep_GraceNobody_l1 a0 FUEL ([] : List Api_GraceOp) 0


/- slices.Clone(()corebell/api.GraceOp,corebell/api.GraceOp) -/
def slices_Clone_api_GraceOp (a0 : List Api_GraceOp) : Option (List Api_GraceOp) := if a0.length * 24 ≤ 140737488355328 then some a0 else none

/- corebell/corebellkeep.GraceAll -/
def keep_GraceAll_l1 (r4 : (List Int) × (List Int) × (List Int) × (List Int)) (r6 : (List Api_GraceOp)) : Nat → List Api_GraceOp → Nat → Option (Bool)
  | 0, _, _ => none
  | n1 + 1, l8, k9 =>
    bif (decide ((((k9 : Nat) : Int) : Int) < 8)) then
      if ((l8).length + ([(⟨2, ((k9 : Nat) : Int), 0⟩ : Api_GraceOp)]).length) * 24 ≤ 140737488355328 ∧ (l8).length + ([(⟨2, ((k9 : Nat) : Int), 0⟩ : Api_GraceOp)]).length ≤ 140737488355328 then
      keep_GraceAll_l1 r4 r6 n1 (l8 ++ [(⟨2, ((k9 : Nat) : Int), 0⟩ : Api_GraceOp)]) (k9 + 1)
      else none
    else
      (grace_Play l8).bind fun r12 =>
      if ((((((r12.2.2.2.length : Nat) : Int) : Int) == 0) && ((((r12.2.2.1.length : Nat) : Int) : Int) == (IntKind.i64.wrap (((r4.2.2.1.length : Nat) : Int) + ((r4.2.2.2.length : Nat) : Int))))) = true → (0 ≤ ((if (((r12.2.2.1.length : Nat) : Int) : Int) < ((r4.2.2.1.length : Nat) : Int) then ((r12.2.2.1.length : Nat) : Int) else ((r4.2.2.1.length : Nat) : Int)) : Int))) then
      if ((((((r12.2.2.2.length : Nat) : Int) : Int) == 0) && ((((r12.2.2.1.length : Nat) : Int) : Int) == (IntKind.i64.wrap (((r4.2.2.1.length : Nat) : Int) + ((r4.2.2.2.length : Nat) : Int))))) = true → ((Int.toNat (if (((r12.2.2.1.length : Nat) : Int) : Int) < ((r4.2.2.1.length : Nat) : Int) then ((r12.2.2.1.length : Nat) : Int) else ((r4.2.2.1.length : Nat) : Int))) ≤ r12.2.2.1.length)) then
      (bif (((((r12.2.2.2.length : Nat) : Int) : Int) == 0) && ((((r12.2.2.1.length : Nat) : Int) : Int) == (IntKind.i64.wrap (((r4.2.2.1.length : Nat) : Int) + ((r4.2.2.2.length : Nat) : Int))))) then slices_Equal_int ((r12.2.2.1.drop (0 + 0)).take ((Int.toNat (if (((r12.2.2.1.length : Nat) : Int) : Int) < ((r4.2.2.1.length : Nat) : Int) then ((r12.2.2.1.length : Nat) : Int) else ((r4.2.2.1.length : Nat) : Int))) - 0)) r4.2.2.1 else some false).bind fun r30 =>
      some ((((((r12.2.2.2.length : Nat) : Int) : Int) == 0) && ((((r12.2.2.1.length : Nat) : Int) : Int) == (IntKind.i64.wrap (((r4.2.2.1.length : Nat) : Int) + ((r4.2.2.2.length : Nat) : Int))))) && r30)
      else none
      else none

def keep_GraceAll (a0 : (List Api_GraceOp)) : Option (Bool) :=
  (keep_alive24).bind fun r1 =>
  bif (!r1) then
    some false
  else
    (grace_Play a0).bind fun r4 =>
    (slices_Clone_api_GraceOp a0).bind fun r6 =>
    keep_GraceAll_l1 r4 r6 FUEL r6 0


/- corebell/soft.Right$1 -/
def soft_Right_1 (a0 : Int) : Option (Bool) :=
  some ((decide ((a0 : Int) ≥ 0)) && (decide ((a0 : Int) < 8)))


/- corebell/soft.Right -/
def soft_Right_l2 (a1 : (List Api_Raise)) : Nat → Nat → Option (Bool)
  | 0, _ => none
  | n2 + 1, k7 =>
    bif (decide ((((k7 : Nat) : Int) : Int) < ((a1.length : Nat) : Int))) then
      (soft_Right_1 ((a1.getD k7 (⟨0, 0⟩ : Api_Raise)).Soft)).bind fun r10 =>
      if (((!(((!r10) || (decide (((a1.getD k7 (⟨0, 0⟩ : Api_Raise)).When : Int) < 0))) || (decide (((a1.getD k7 (⟨0, 0⟩ : Api_Raise)).When : Int) > 400)))) && (decide ((((k7 : Nat) : Int) : Int) > 0))) = true → (0 ≤ ((IntKind.i64.wrap (((k7 : Nat) : Int) - 1)) : Int) ∧ (IntKind.i64.wrap (((k7 : Nat) : Int) - 1)) < ((a1.length : Nat) : Int))) then
      bif ((((!r10) || (decide (((a1.getD k7 (⟨0, 0⟩ : Api_Raise)).When : Int) < 0))) || (decide (((a1.getD k7 (⟨0, 0⟩ : Api_Raise)).When : Int) > 400))) || ((decide ((((k7 : Nat) : Int) : Int) > 0)) && (decide (((a1.getD k7 (⟨0, 0⟩ : Api_Raise)).When : Int) < ((a1.getD (Int.toNat (IntKind.i64.wrap (((k7 : Nat) : Int) - 1))) (⟨0, 0⟩ : Api_Raise)).When))))) then
        some false
      else
        soft_Right_l2 a1 n2 (k7 + 1)
      else none
    else
      some (decide ((((a1.length : Nat) : Int) : Int) ≤ 400))

def soft_Right_l1 (a0 : (List Int)) (a1 : (List Api_Raise)) : Nat → Nat → Option (Bool)
  | 0, _ => none
  | n1 + 1, k1 =>
    bif (decide ((((k1 : Nat) : Int) : Int) < ((a0.length : Nat) : Int))) then
      (soft_Right_1 (a0.getD k1 0)).bind fun r4 =>
      bif (!r4) then
        some false
      else
        soft_Right_l1 a0 a1 n1 (k1 + 1)
    else
      soft_Right_l2 a1 FUEL 0

def soft_Right (a0 : (List Int)) (a1 : (List Api_Raise)) : Option (Bool) :=
  soft_Right_l1 a0 a1 FUEL 0


/- (*corebell/soft.runner).raise -/
def soft_runner_raise_roro_l1 (a0 : Soft_runner) : Nat → (Nat → Bool) → List Api_Raise → Option (Soft_runner)
  | 0, _, _ => none
  | n1 + 1, f1, l2 =>
    if ((decide ((((l2.length : Nat) : Int) : Int) > 0)) = true → (0 ≤ (0 : Int) ∧ 0 < ((l2.length : Nat) : Int))) then
    bif ((decide ((((l2.length : Nat) : Int) : Int) > 0)) && (decide (((l2.getD 0 (⟨0, 0⟩ : Api_Raise)).When : Int) ≤ ((a0.ran_.length : Nat) : Int)))) then
      if 0 ≤ (0 : Int) ∧ 0 < ((l2.length : Nat) : Int) then
      if 0 ≤ ((l2.getD 0 (⟨0, 0⟩ : Api_Raise)).Soft : Int) ∧ ((l2.getD 0 (⟨0, 0⟩ : Api_Raise)).Soft) < ((8 : Nat) : Int) then
      if 1 ≤ l2.length then
      soft_runner_raise_roro_l1 a0 n1 (upd f1 (Int.toNat ((l2.getD 0 (⟨0, 0⟩ : Api_Raise)).Soft)) true) ((l2.drop 1).take (l2.length - 1))
      else none
      else none
      else none
    else
      some (⟨f1, l2, a0.ran_⟩ : Soft_runner)
    else none

def soft_runner_raise_roro (a0 : Soft_runner) : Option (Soft_runner) :=
  soft_runner_raise_roro_l1 a0 FUEL a0.pending_ a0.raises_


/- slices.Index(()bool,bool) -/
def slices_Index_bool_l1 (a0 : (List Bool)) (a1 : Bool) : Nat → Nat → Option (Int)
  | 0, _ => none
  | n1 + 1, k1 =>
    bif (decide ((((k1 : Nat) : Int) : Int) < ((a0.length : Nat) : Int))) then
      bif (a1 == (a0.getD k1 false)) then
        some ((k1 : Nat) : Int)
      else
        slices_Index_bool_l1 a0 a1 n1 (k1 + 1)
    else
      some (-1)

def slices_Index_bool (a0 : (List Bool)) (a1 : Bool) : Option (Int) :=
  slices_Index_bool_l1 a0 a1 FUEL 0


/- slices.Contains(()bool,bool) -/
def slices_Contains_bool (a0 : (List Bool)) (a1 : Bool) : Option (Bool) :=
  (slices_Index_bool a0 a1).bind fun r1 =>
  some (decide ((r1 : Int) ≥ 0))


/- (*corebell/soft.runner).some -/
def soft_runner_some (a0 : Soft_runner) : Option (Bool) :=
  (slices_Contains_bool (arrList 8 a0.pending_) true).bind fun r1 =>
  some r1


/- (*corebell/soft.runner).round -/
def soft_runner_round_roro_l1 (a0 : Soft_runner) : Nat → Nat → (Nat → Bool) → List Api_Raise → List Int → Option (Soft_runner)
  | 0, _, _, _, _ => none
  | n1 + 1, k1, f2, l3, l4 =>
    bif (decide ((((k1 : Nat) : Int) : Int) < 8)) then
      if 0 ≤ (((k1 : Nat) : Int) : Int) ∧ ((k1 : Nat) : Int) < ((8 : Nat) : Int) then
      bif (a0.pending_ k1) then
        if ((l4).length + ([((k1 : Nat) : Int)]).length) * 8 ≤ 140737488355328 ∧ (l4).length + ([((k1 : Nat) : Int)]).length ≤ 140737488355328 then
        (soft_runner_raise_roro (⟨f2, l3, (l4 ++ [((k1 : Nat) : Int)])⟩ : Soft_runner)).bind fun r9 =>
        soft_runner_round_roro_l1 a0 n1 (k1 + 1) r9.pending_ r9.raises_ r9.ran_
        else none
      else
        soft_runner_round_roro_l1 a0 n1 (k1 + 1) f2 l3 l4
      else none
    else
      some (⟨f2, l3, l4⟩ : Soft_runner)

def soft_runner_round_roro (a0 : Soft_runner) : Option (Soft_runner) :=
  soft_runner_round_roro_l1 a0 FUEL 0 (fun _ => false) a0.raises_ a0.ran_


/- corebell/soft.Run -/
def soft_Run_l2 (a2 : Int) (r12 : Soft_runner) : Nat → Int → Int → (Nat → Bool) → List Api_Raise → List Int → Option ((List Int) × Int × Int)
  | 0, _, _, _, _, _ => none
  | n2 + 1, x14, x15, f16, l17, l18 =>
    (soft_runner_some (⟨f16, l17, l18⟩ : Soft_runner)).bind fun r19 =>
    bif r19 then
      (soft_runner_round_roro (⟨f16, l17, l18⟩ : Soft_runner)).bind fun r22 =>
      bif (decide ((x15 : Int) < a2)) then
        soft_Run_l2 a2 r12 n2 ((r22.ran_.length : Nat) : Int) (IntKind.i64.wrap (x15 + 1)) r22.pending_ r22.raises_ r22.ran_
      else
        soft_Run_l2 a2 r12 n2 x14 (IntKind.i64.wrap (x15 + 1)) r22.pending_ r22.raises_ r22.ran_
    else
      some (l18, x14, 0)

def soft_Run_l1 (a0 : (List Int)) (a1 : (List Api_Raise)) (a2 : Int) : Nat → Nat → (Nat → Bool) → Option ((List Int) × Int × Int)
  | 0, _, _ => none
  | n1 + 1, k7, f8 =>
    bif (decide ((((k7 : Nat) : Int) : Int) < ((a0.length : Nat) : Int))) then
      if 0 ≤ ((a0.getD k7 0) : Int) ∧ (a0.getD k7 0) < ((8 : Nat) : Int) then
      soft_Run_l1 a0 a1 a2 n1 (k7 + 1) (upd f8 (Int.toNat (a0.getD k7 0)) true)
      else none
    else
      (soft_runner_raise_roro (⟨f8, a1, ([] : List Int)⟩ : Soft_runner)).bind fun r12 =>
      soft_Run_l2 a2 r12 FUEL 0 0 r12.pending_ r12.raises_ r12.ran_

def soft_Run (a0 : (List Int)) (a1 : (List Api_Raise)) (a2 : Int) : Option ((List Int) × Int × Int) :=
  (soft_Right a0 a1).bind fun r1 =>
  bif (!r1) then
    some (([] : List Int), 0, 1)
  else
    bif ((decide ((a2 : Int) < 0)) || (decide ((a2 : Int) > 400))) then
      some (([] : List Int), 0, 2)
    else
      soft_Run_l1 a0 a1 a2 FUEL 0 (fun _ => false)


/- corebell/corebellkeep.alive10 -/
def keep_alive10 : Option (Bool) :=
  (soft_Run [5, 2] [(⟨1, 1⟩ : Api_Raise), (⟨1, 5⟩ : Api_Raise), (⟨4, 0⟩ : Api_Raise)] 1).bind fun r1 =>
  (bif ((r1.2.2 : Int) == 0) then slices_Equal_int r1.1 [2, 5, 1, 5, 0] else some false).bind fun r3 =>
  some ((((r1.2.2 : Int) == 0) && r3) && ((r1.2.1 : Int) == 2))


/- slices.Index(()int,int) -/
def slices_Index_int_l1 (a0 : (List Int)) (a1 : Int) : Nat → Nat → Option (Int)
  | 0, _ => none
  | n1 + 1, k1 =>
    bif (decide ((((k1 : Nat) : Int) : Int) < ((a0.length : Nat) : Int))) then
      bif ((a1 : Int) == (a0.getD k1 0)) then
        some ((k1 : Nat) : Int)
      else
        slices_Index_int_l1 a0 a1 n1 (k1 + 1)
    else
      some (-1)

def slices_Index_int (a0 : (List Int)) (a1 : Int) : Option (Int) :=
  slices_Index_int_l1 a0 a1 FUEL 0


/- slices.Contains(()int,int) -/
def slices_Contains_int (a0 : (List Int)) (a1 : Int) : Option (Bool) :=
  (slices_Index_int a0 a1).bind fun r1 =>
  some (decide ((r1 : Int) ≥ 0))


/- corebell/corebellkeep.SoftAll -/
def keep_SoftAll_l2 (a1 : (List Api_Raise)) (r4 : (List Int) × Int × Int) (k9 : Nat) (K2_0 : Int → Nat → Option (Bool)) : Nat → Int → Nat → Option (Bool)
  | 0, _, _ => none
  | n2 + 1, x17, k18 =>
    bif (decide ((((k18 : Nat) : Int) : Int) < ((a1.length : Nat) : Int))) then
      bif ((((a1.getD k18 (⟨0, 0⟩ : Api_Raise)).Soft : Int) == ((k9 : Nat) : Int)) && (decide (((a1.getD k18 (⟨0, 0⟩ : Api_Raise)).When : Int) ≤ ((r4.1.length : Nat) : Int)))) then
        if (((decide (((a1.getD k18 (⟨0, 0⟩ : Api_Raise)).When : Int) > 0)) && (decide (((a1.getD k18 (⟨0, 0⟩ : Api_Raise)).When : Int) < ((r4.1.length : Nat) : Int)))) = true → (0 ≤ ((a1.getD k18 (⟨0, 0⟩ : Api_Raise)).When : Int))) then
        if (((decide (((a1.getD k18 (⟨0, 0⟩ : Api_Raise)).When : Int) > 0)) && (decide (((a1.getD k18 (⟨0, 0⟩ : Api_Raise)).When : Int) < ((r4.1.length : Nat) : Int)))) = true → ((Int.toNat ((a1.getD k18 (⟨0, 0⟩ : Api_Raise)).When)) ≤ r4.1.length)) then
        (bif ((decide (((a1.getD k18 (⟨0, 0⟩ : Api_Raise)).When : Int) > 0)) && (decide (((a1.getD k18 (⟨0, 0⟩ : Api_Raise)).When : Int) < ((r4.1.length : Nat) : Int)))) then slices_Contains_int ((r4.1.drop (0 + (Int.toNat ((a1.getD k18 (⟨0, 0⟩ : Api_Raise)).When)))).take (r4.1.length - (Int.toNat ((a1.getD k18 (⟨0, 0⟩ : Api_Raise)).When)))) ((k9 : Nat) : Int) else some false).bind fun r37 =>
        bif (((decide (((a1.getD k18 (⟨0, 0⟩ : Api_Raise)).When : Int) > 0)) && (decide (((a1.getD k18 (⟨0, 0⟩ : Api_Raise)).When : Int) < ((r4.1.length : Nat) : Int)))) && (!r37)) then
          some false
        else
          keep_SoftAll_l2 a1 r4 k9 K2_0 n2 (IntKind.i64.wrap (x17 + 1)) (k18 + 1)
        else none
        else none
      else
        keep_SoftAll_l2 a1 r4 k9 K2_0 n2 x17 (k18 + 1)
    else
      K2_0 x17 k18

def keep_SoftAll_l3 (r4 : (List Int) × Int × Int) (k9 : Nat) (x17 : Int) (K3_0 : Int → Nat → Option (Bool)) : Nat → Int → Nat → Option (Bool)
  | 0, _, _ => none
  | n3 + 1, x42, k43 =>
    bif (decide ((((k43 : Nat) : Int) : Int) < ((r4.1.length : Nat) : Int))) then
      bif (((r4.1.getD (0 + k43) 0) : Int) == ((k9 : Nat) : Int)) then
        keep_SoftAll_l3 r4 k9 x17 K3_0 n3 (IntKind.i64.wrap (x42 - 1)) (k43 + 1)
      else
        keep_SoftAll_l3 r4 k9 x17 K3_0 n3 x42 (k43 + 1)
    else
      K3_0 x42 k43

def keep_SoftAll_l4 (a1 : (List Api_Raise)) (r4 : (List Int) × Int × Int) (k9 : Nat) (K4_0 : Int → Nat → Option (Bool)) : Nat → Int → Nat → Option (Bool)
  | 0, _, _ => none
  | n4 + 1, x48, k49 =>
    bif (decide ((((k49 : Nat) : Int) : Int) < ((a1.length : Nat) : Int))) then
      bif ((((a1.getD k49 (⟨0, 0⟩ : Api_Raise)).Soft : Int) == ((k9 : Nat) : Int)) && (decide (((a1.getD k49 (⟨0, 0⟩ : Api_Raise)).When : Int) ≤ ((r4.1.length : Nat) : Int)))) then
        if (((decide (((a1.getD k49 (⟨0, 0⟩ : Api_Raise)).When : Int) > 0)) && (decide (((a1.getD k49 (⟨0, 0⟩ : Api_Raise)).When : Int) < ((r4.1.length : Nat) : Int)))) = true → (0 ≤ ((a1.getD k49 (⟨0, 0⟩ : Api_Raise)).When : Int))) then
        if (((decide (((a1.getD k49 (⟨0, 0⟩ : Api_Raise)).When : Int) > 0)) && (decide (((a1.getD k49 (⟨0, 0⟩ : Api_Raise)).When : Int) < ((r4.1.length : Nat) : Int)))) = true → ((Int.toNat ((a1.getD k49 (⟨0, 0⟩ : Api_Raise)).When)) ≤ r4.1.length)) then
        (bif ((decide (((a1.getD k49 (⟨0, 0⟩ : Api_Raise)).When : Int) > 0)) && (decide (((a1.getD k49 (⟨0, 0⟩ : Api_Raise)).When : Int) < ((r4.1.length : Nat) : Int)))) then slices_Contains_int ((r4.1.drop (0 + (Int.toNat ((a1.getD k49 (⟨0, 0⟩ : Api_Raise)).When)))).take (r4.1.length - (Int.toNat ((a1.getD k49 (⟨0, 0⟩ : Api_Raise)).When)))) ((k9 : Nat) : Int) else some false).bind fun r68 =>
        bif (((decide (((a1.getD k49 (⟨0, 0⟩ : Api_Raise)).When : Int) > 0)) && (decide (((a1.getD k49 (⟨0, 0⟩ : Api_Raise)).When : Int) < ((r4.1.length : Nat) : Int)))) && (!r68)) then
          some false
        else
          keep_SoftAll_l4 a1 r4 k9 K4_0 n4 (IntKind.i64.wrap (x48 + 1)) (k49 + 1)
        else none
        else none
      else
        keep_SoftAll_l4 a1 r4 k9 K4_0 n4 x48 (k49 + 1)
    else
      K4_0 x48 k49

def keep_SoftAll_l5 (r4 : (List Int) × Int × Int) (k9 : Nat) (x48 : Int) (K5_0 : Int → Nat → Option (Bool)) : Nat → Int → Nat → Option (Bool)
  | 0, _, _ => none
  | n5 + 1, x73, k74 =>
    bif (decide ((((k74 : Nat) : Int) : Int) < ((r4.1.length : Nat) : Int))) then
      bif (((r4.1.getD (0 + k74) 0) : Int) == ((k9 : Nat) : Int)) then
        keep_SoftAll_l5 r4 k9 x48 K5_0 n5 (IntKind.i64.wrap (x73 - 1)) (k74 + 1)
      else
        keep_SoftAll_l5 r4 k9 x48 K5_0 n5 x73 (k74 + 1)
    else
      K5_0 x73 k74

def keep_SoftAll_l1 (a0 : (List Int)) (a1 : (List Api_Raise)) (r4 : (List Int) × Int × Int) : Nat → Nat → Option (Bool)
  | 0, _ => none
  | n1 + 1, k9 =>
    bif (decide ((((k9 : Nat) : Int) : Int) < 8)) then
      (slices_Contains_int a0 ((k9 : Nat) : Int)).bind fun r11 =>
      bif r11 then
        (slices_Contains_int r4.1 ((k9 : Nat) : Int)).bind fun r14 =>
        bif (!r14) then
          some false
        else
          keep_SoftAll_l2 a1 r4 k9 (fun (x17 : Int) (k18 : Nat) =>
              keep_SoftAll_l3 r4 k9 x17 (fun (x42 : Int) (k43 : Nat) =>
                  bif (decide ((x42 : Int) < 0)) then
                    some false
                  else
                    keep_SoftAll_l1 a0 a1 r4 n1 (k9 + 1)
                ) FUEL x17 0
            ) FUEL (IntKind.i64.wrap (0 + 1)) 0
      else
        keep_SoftAll_l4 a1 r4 k9 (fun (x48 : Int) (k49 : Nat) =>
            keep_SoftAll_l5 r4 k9 x48 (fun (x73 : Int) (k74 : Nat) =>
                bif (decide ((x73 : Int) < 0)) then
                  some false
                else
                  keep_SoftAll_l1 a0 a1 r4 n1 (k9 + 1)
              ) FUEL x48 0
          ) FUEL 0 0
    else
      some ((decide ((r4.2.1 : Int) ≥ 0)) && (decide ((r4.2.1 : Int) ≤ ((r4.1.length : Nat) : Int))))

def keep_SoftAll (a0 : (List Int)) (a1 : (List Api_Raise)) (a2 : Int) : Option (Bool) :=
  (keep_alive10).bind fun r1 =>
  bif (!r1) then
    some false
  else
    (soft_Run a0 a1 a2).bind fun r4 =>
    bif ((r4.2.2 : Int) != 0) then
      some (((((r4.1.length : Nat) : Int) : Int) == 0) && ((r4.2.1 : Int) == 0))
    else
      keep_SoftAll_l1 a0 a1 r4 FUEL 0


/- corebell/corebellkeep.SoftWho -/
def keep_SoftWho (a0 : (List Int)) (a1 : (List Api_Raise)) (a2 : Int) (a3 : Int) : Option (Bool) :=
  (keep_alive10).bind fun r1 =>
  bif (!r1) then
    some false
  else
    (soft_Run a0 a1 a2).bind fun r4 =>
    (soft_Run a0 a1 a3).bind fun r6 =>
    bif (((r4.2.2 : Int) != 0) || ((r6.2.2 : Int) != 0)) then
      some true
    else
      (slices_Equal_int r4.1 r6.1).bind fun r11 =>
      some (r11 && ((decide ((a2 : Int) > a3)) || (decide ((r4.2.1 : Int) ≤ r6.2.1))))


/- slices.Clone(()corebell/api.Raise,corebell/api.Raise) -/
def slices_Clone_api_Raise (a0 : List Api_Raise) : Option (List Api_Raise) := if a0.length * 16 ≤ 140737488355328 then some a0 else none

/- corebell/corebellkeep.SoftPart -/
def keep_SoftPart (a0 : (List Int)) (a1 : (List Api_Raise)) (a2 : Api_Raise) : Option (Bool) :=
  (keep_alive10).bind fun r1 =>
  bif (!r1) then
    some false
  else
    (soft_Run a0 a1 1).bind fun r4 =>
    (slices_Clone_api_Raise a1).bind fun r6 =>
    if ((r6).length + ([a2]).length) * 16 ≤ 140737488355328 ∧ (r6).length + ([a2]).length ≤ 140737488355328 then
    (soft_Run a0 (r6 ++ [a2]) 1).bind fun r9 =>
    bif ((((r4.2.2 : Int) != 0) || ((r9.2.2 : Int) != 0)) || (decide ((a2.When : Int) > ((r4.1.length : Nat) : Int)))) then
      some true
    else
      if ((decide ((((r9.1.length : Nat) : Int) : Int) ≥ a2.When)) = true → (0 ≤ (a2.When : Int))) then
      if ((decide ((((r9.1.length : Nat) : Int) : Int) ≥ a2.When)) = true → ((Int.toNat a2.When) ≤ r4.1.length)) then
      if ((decide ((((r9.1.length : Nat) : Int) : Int) ≥ a2.When)) = true → (0 ≤ (a2.When : Int))) then
      if ((decide ((((r9.1.length : Nat) : Int) : Int) ≥ a2.When)) = true → ((Int.toNat a2.When) ≤ r9.1.length)) then
      (bif (decide ((((r9.1.length : Nat) : Int) : Int) ≥ a2.When)) then slices_Equal_int ((r4.1.drop (0 + 0)).take ((Int.toNat a2.When) - 0)) ((r9.1.drop (0 + 0)).take ((Int.toNat a2.When) - 0)) else some false).bind fun r29 =>
      some ((decide ((((r9.1.length : Nat) : Int) : Int) ≥ a2.When)) && r29)
      else none
      else none
      else none
      else none
    else none


end Go.Proofs.Ytcbknmjbhjbifaa
