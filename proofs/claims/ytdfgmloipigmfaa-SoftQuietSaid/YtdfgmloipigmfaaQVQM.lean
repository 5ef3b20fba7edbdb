/- The models of the functions: printed by program. -/
import Derived.Test.YtdfgmloipigmfaaAbYg
import Derived.Lib.BitFns
set_option linter.unusedSimpArgs false
set_option linter.unusedVariables false
namespace Go.Proofs.Ytdfgmloipigmfaa
open Go Go.Ab

structure Api_Raise where
  When : Int
  Soft : Int
deriving DecidableEq

structure Soft_runner where
  pending_ : (Nat → Bool)
  raises_ : (List Api_Raise)
  ran_ : (List Int)


/- corebell/soft.Right$1 -/
def soft_Right_1 (a0 : Int) : Option (Bool) :=
  some ((decide ((a0 : Int) ≥ 0)) && (decide ((a0 : Int) < 8)))


/- corebell/soft.Right -/
def soft_Right_l2 (a1 : (List Api_Raise)) : Nat → Nat → Option (Bool)
  | 0, _ => none
  | n2 + 1, k7 =>
    bif (decide ((((k7 : Nat) : Int) : Int) < ((a1.length : Nat) : Int))) then
      (soft_Right_1 ((a1.getD k7 (⟨0, 0⟩ : Api_Raise)).Soft)).bind fun r10 =>
      if (((!(((!r10) || (decide (((a1.getD k7 (⟨0, 0⟩ : Api_Raise)).When : Int) < 0))) || (decide (((a1.getD k7 (⟨0, 0⟩ : Api_Raise)).When : Int) > 400)))) && (decide ((((k7 : Nat) : Int) : Int) > 0))) = true → (0 ≤ ((IntKind.i64.wrap (((k7 : Nat) : Int) - 1)) : Int) ∧ (IntKind.i64.wrap (((k7 : Nat) : Int) - 1)) < ((a1.length : Nat) : Int))) then
      bif ((((!r10) || (decide (((a1.getD k7 (⟨0, 0⟩ : Api_Raise)).When : Int) < 0))) || (decide (((a1.getD k7 (⟨0, 0⟩ : Api_Raise)).When : Int) > 400))) || ((decide ((((k7 : Nat) : Int) : Int) > 0)) && (decide (((a1.getD k7 (⟨0, 0⟩ : Api_Raise)).When : Int) < ((a1.getD (Int.toNat (IntKind.i64.wrap (((k7 : Nat) : Int) - 1))) (⟨0, 0⟩ : Api_Raise)).When))))) then
        some false
      else
        soft_Right_l2 a1 n2 (k7 + 1)
      else none
    else
      some (decide ((((a1.length : Nat) : Int) : Int) ≤ 400))

def soft_Right_l1 (a0 : (List Int)) (a1 : (List Api_Raise)) : Nat → Nat → Option (Bool)
  | 0, _ => none
  | n1 + 1, k1 =>
    bif (decide ((((k1 : Nat) : Int) : Int) < ((a0.length : Nat) : Int))) then
      (soft_Right_1 (a0.getD k1 0)).bind fun r4 =>
      bif (!r4) then
        some false
      else
        soft_Right_l1 a0 a1 n1 (k1 + 1)
    else
      soft_Right_l2 a1 FUEL 0

def soft_Right (a0 : (List Int)) (a1 : (List Api_Raise)) : Option (Bool) :=
  soft_Right_l1 a0 a1 FUEL 0


/- (*corebell/soft.runner).raise -/
def soft_runner_raise_roro_l1 (a0 : Soft_runner) : Nat → (Nat → Bool) → List Api_Raise → Option (Soft_runner)
  | 0, _, _ => none
  | n1 + 1, f1, l2 =>
    if ((decide ((((l2.length : Nat) : Int) : Int) > 0)) = true → (0 ≤ (0 : Int) ∧ 0 < ((l2.length : Nat) : Int))) then
    bif ((decide ((((l2.length : Nat) : Int) : Int) > 0)) && (decide (((l2.getD 0 (⟨0, 0⟩ : Api_Raise)).When : Int) ≤ ((a0.ran_.length : Nat) : Int)))) then
      if 0 ≤ (0 : Int) ∧ 0 < ((l2.length : Nat) : Int) then
      if 0 ≤ ((l2.getD 0 (⟨0, 0⟩ : Api_Raise)).Soft : Int) ∧ ((l2.getD 0 (⟨0, 0⟩ : Api_Raise)).Soft) < ((8 : Nat) : Int) then
      if 1 ≤ l2.length then
      soft_runner_raise_roro_l1 a0 n1 (upd f1 (Int.toNat ((l2.getD 0 (⟨0, 0⟩ : Api_Raise)).Soft)) true) ((l2.drop 1).take (l2.length - 1))
      else none
      else none
      else none
    else
      some (⟨f1, l2, a0.ran_⟩ : Soft_runner)
    else none

def soft_runner_raise_roro (a0 : Soft_runner) : Option (Soft_runner) :=
  soft_runner_raise_roro_l1 a0 FUEL a0.pending_ a0.raises_


/- slices.Index(()bool,bool) -/
def slices_Index_bool_l1 (a0 : (List Bool)) (a1 : Bool) : Nat → Nat → Option (Int)
  | 0, _ => none
  | n1 + 1, k1 =>
    bif (decide ((((k1 : Nat) : Int) : Int) < ((a0.length : Nat) : Int))) then
      bif (a1 == (a0.getD k1 false)) then
        some ((k1 : Nat) : Int)
      else
        slices_Index_bool_l1 a0 a1 n1 (k1 + 1)
    else
      some (-1)

def slices_Index_bool (a0 : (List Bool)) (a1 : Bool) : Option (Int) :=
  slices_Index_bool_l1 a0 a1 FUEL 0


/- slices.Contains(()bool,bool) -/
def slices_Contains_bool (a0 : (List Bool)) (a1 : Bool) : Option (Bool) :=
  (slices_Index_bool a0 a1).bind fun r1 =>
  some (decide ((r1 : Int) ≥ 0))


/- (*corebell/soft.runner).some -/
def soft_runner_some (a0 : Soft_runner) : Option (Bool) :=
  (slices_Contains_bool (arrList 8 a0.pending_) true).bind fun r1 =>
  some r1


/- (*corebell/soft.runner).round -/
def soft_runner_round_roro_l1 (a0 : Soft_runner) : Nat → Nat → (Nat → Bool) → List Api_Raise → List Int → Option (Soft_runner)
  | 0, _, _, _, _ => none
  | n1 + 1, k1, f2, l3, l4 =>
    bif (decide ((((k1 : Nat) : Int) : Int) < 8)) then
      if 0 ≤ (((k1 : Nat) : Int) : Int) ∧ ((k1 : Nat) : Int) < ((8 : Nat) : Int) then
      bif (a0.pending_ k1) then
        if ((l4).length + ([((k1 : Nat) : Int)]).length) * 8 ≤ 140737488355328 ∧ (l4).length + ([((k1 : Nat) : Int)]).length ≤ 140737488355328 then
        (soft_runner_raise_roro (⟨f2, l3, (l4 ++ [((k1 : Nat) : Int)])⟩ : Soft_runner)).bind fun r9 =>
        soft_runner_round_roro_l1 a0 n1 (k1 + 1) r9.pending_ r9.raises_ r9.ran_
        else none
      else
        soft_runner_round_roro_l1 a0 n1 (k1 + 1) f2 l3 l4
      else none
    else
      some (⟨f2, l3, l4⟩ : Soft_runner)

def soft_runner_round_roro (a0 : Soft_runner) : Option (Soft_runner) :=
  soft_runner_round_roro_l1 a0 FUEL 0 (fun _ => false) a0.raises_ a0.ran_


/- corebell/soft.Run -/
def soft_Run_l2 (a2 : Int) (r12 : Soft_runner) : Nat → Int → Int → (Nat → Bool) → List Api_Raise → List Int → Option ((List Int) × Int × Int)
  | 0, _, _, _, _, _ => none
  | n2 + 1, x14, x15, f16, l17, l18 =>
    (soft_runner_some (⟨f16, l17, l18⟩ : Soft_runner)).bind fun r19 =>
    bif r19 then
      (soft_runner_round_roro (⟨f16, l17, l18⟩ : Soft_runner)).bind fun r22 =>
      bif (decide ((x15 : Int) < a2)) then
        soft_Run_l2 a2 r12 n2 ((r22.ran_.length : Nat) : Int) (IntKind.i64.wrap (x15 + 1)) r22.pending_ r22.raises_ r22.ran_
      else
        soft_Run_l2 a2 r12 n2 x14 (IntKind.i64.wrap (x15 + 1)) r22.pending_ r22.raises_ r22.ran_
    else
      some (l18, x14, 0)

def soft_Run_l1 (a0 : (List Int)) (a1 : (List Api_Raise)) (a2 : Int) : Nat → Nat → (Nat → Bool) → Option ((List Int) × Int × Int)
  | 0, _, _ => none
  | n1 + 1, k7, f8 =>
    bif (decide ((((k7 : Nat) : Int) : Int) < ((a0.length : Nat) : Int))) then
      if 0 ≤ ((a0.getD k7 0) : Int) ∧ (a0.getD k7 0) < ((8 : Nat) : Int) then
      soft_Run_l1 a0 a1 a2 n1 (k7 + 1) (upd f8 (Int.toNat (a0.getD k7 0)) true)
      else none
    else
      (soft_runner_raise_roro (⟨f8, a1, ([] : List Int)⟩ : Soft_runner)).bind fun r12 =>
      soft_Run_l2 a2 r12 FUEL 0 0 r12.pending_ r12.raises_ r12.ran_

def soft_Run (a0 : (List Int)) (a1 : (List Api_Raise)) (a2 : Int) : Option ((List Int) × Int × Int) :=
  (soft_Right a0 a1).bind fun r1 =>
  bif (!r1) then
    some (([] : List Int), 0, 1)
  else
    bif ((decide ((a2 : Int) < 0)) || (decide ((a2 : Int) > 400))) then
      some (([] : List Int), 0, 2)
    else
      soft_Run_l1 a0 a1 a2 FUEL 0 (fun _ => false)


/- slices.Equal(()int,int) -/
def slices_Equal_int_l1 (a0 : (List Int)) (a1 : (List Int)) : Nat → Nat → Option (Bool)
  | 0, _ => none
  | n1 + 1, k2 =>
    bif (decide ((((k2 : Nat) : Int) : Int) < ((a0.length : Nat) : Int))) then
      if 0 ≤ (((k2 : Nat) : Int) : Int) ∧ ((k2 : Nat) : Int) < ((a1.length : Nat) : Int) then
      bif (((a0.getD k2 0) : Int) != (a1.getD k2 0)) then
        some false
      else
        slices_Equal_int_l1 a0 a1 n1 (k2 + 1)
      else none
    else
      some true

def slices_Equal_int (a0 : (List Int)) (a1 : (List Int)) : Option (Bool) :=
  bif ((((a0.length : Nat) : Int) : Int) != ((a1.length : Nat) : Int)) then
    some false
  else
    slices_Equal_int_l1 a0 a1 FUEL 0


/- corebell/corebellkeep.alive10 -/
def keep_alive10 : Option (Bool) :=
  (soft_Run [5, 2] [(⟨1, 1⟩ : Api_Raise), (⟨1, 5⟩ : Api_Raise), (⟨4, 0⟩ : Api_Raise)] 1).bind fun r1 =>
  (bif ((r1.2.2 : Int) == 0) then slices_Equal_int r1.1 [2, 5, 1, 5, 0] else some false).bind fun r3 =>
  some ((((r1.2.2 : Int) == 0) && r3) && ((r1.2.1 : Int) == 2))


/- slices.Values: what it hands back holds the list -/
def slices_Values_int (a0 : List Int) : Option Unit := some ()

def slices_Sorted_int (a0 : List Int) : Option (List Int) := if a0.length * 8 ≤ 140737488355328 then some (a0.mergeSort fun x y => decide (x ≤ y)) else none

/- slices.Compact(()int,int) -/
def slices_Compact_int_h0_l2 (a0 : (List Int)) (x2 : Int) (K2_0 : Int → Int → (List Int) → Option ((List Int))) : Nat → Int → Int → List Int → Option ((List Int))
  | 0, _, _, _ => none
  | n2 + 1, x9, x10, l11 =>
    bif (decide ((x10 : Int) < (((a0.length - (Int.toNat x2)) : Nat) : Int))) then
      if 0 ≤ (x10 : Int) ∧ x10 < (((a0.length - (Int.toNat x2)) : Nat) : Int) then
      if ((0 + (Int.toNat x2)) + (Int.toNat x10)) < l11.length then
      if 0 ≤ ((IntKind.i64.wrap (x10 - 1)) : Int) ∧ (IntKind.i64.wrap (x10 - 1)) < (((a0.length - (Int.toNat x2)) : Nat) : Int) then
      if ((0 + (Int.toNat x2)) + (Int.toNat (IntKind.i64.wrap (x10 - 1)))) < l11.length then
      bif (((l11.getD ((0 + (Int.toNat x2)) + (Int.toNat x10)) 0) : Int) != (l11.getD ((0 + (Int.toNat x2)) + (Int.toNat (IntKind.i64.wrap (x10 - 1)))) 0)) then
        if 0 ≤ (x10 : Int) ∧ x10 < (((a0.length - (Int.toNat x2)) : Nat) : Int) then
        if ((0 + (Int.toNat x2)) + (Int.toNat x10)) < l11.length then
        if 0 ≤ (x9 : Int) ∧ x9 < ((l11.length : Nat) : Int) then
        slices_Compact_int_h0_l2 a0 x2 K2_0 n2 (IntKind.i64.wrap (x9 + 1)) (IntKind.i64.wrap (x10 + 1)) (l11.set (0 + (Int.toNat x9)) (l11.getD ((0 + (Int.toNat x2)) + (Int.toNat x10)) 0))
        else none
        else none
        else none
      else
        slices_Compact_int_h0_l2 a0 x2 K2_0 n2 x9 (IntKind.i64.wrap (x10 + 1)) l11
      else none
      else none
      else none
      else none
    else
      K2_0 x9 x10 l11

def slices_Compact_int_h0_l1 (a0 : (List Int)) : Nat → Int → Option ((List Int))
  | 0, _ => none
  | n1 + 1, x2 =>
    bif (decide ((x2 : Int) < ((a0.length : Nat) : Int))) then
      if 0 ≤ (x2 : Int) ∧ x2 < ((a0.length : Nat) : Int) then
      if 0 ≤ ((IntKind.i64.wrap (x2 - 1)) : Int) ∧ (IntKind.i64.wrap (x2 - 1)) < ((a0.length : Nat) : Int) then
      bif (((a0.getD (0 + (Int.toNat x2)) 0) : Int) == (a0.getD (0 + (Int.toNat (IntKind.i64.wrap (x2 - 1)))) 0)) then
        if 0 ≤ (x2 : Int) then
        if (Int.toNat x2) ≤ a0.length then
        slices_Compact_int_h0_l2 a0 x2 (fun (x9 : Int) (x10 : Int) (l11 : List Int) =>
            if 0 ≤ (x9 : Int) then
            if (Int.toNat x9) ≤ l11.length then
            if (0 + (Int.toNat x9)) + (l11.length - (Int.toNat x9)) ≤ l11.length then
            if 0 ≤ (x9 : Int) then
            if (Int.toNat x9) ≤ l11.length then
            some (((cpL l11 (0 + (Int.toNat x9)) (l11.length - (Int.toNat x9)) (List.replicate (l11.length - (Int.toNat x9)) (0 : Int))).drop (0 + 0)).take ((Int.toNat x9) - 0))
            else none
            else none
            else none
            else none
            else none
          ) FUEL x2 1 a0
        else none
        else none
      else
        slices_Compact_int_h0_l1 a0 n1 (IntKind.i64.wrap (x2 + 1))
      else none
      else none
    else
      some a0

def slices_Compact_int_h0 (a0 : (List Int)) : Option ((List Int)) :=
  bif (decide ((((a0.length : Nat) : Int) : Int) < 2)) then
    some a0
  else
    slices_Compact_int_h0_l1 a0 FUEL 1


/- corebell/corebellkeep.SoftQuiet -/
def keep_SoftQuiet (a0 : (List Int)) (a1 : Int) : Option (Bool) :=
  (keep_alive10).bind fun r1 =>
  bif (!r1) then
    some false
  else
    (soft_Run a0 ([] : List Api_Raise) a1).bind fun r4 =>
    bif ((r4.2.2 : Int) != 0) then
      some true
    else
      (slices_Values_int a0).bind fun r7 =>
      (slices_Sorted_int a0).bind fun r9 =>
      (slices_Compact_int_h0 r9).bind fun r11 =>
      (slices_Equal_int r4.1 r11).bind fun r13 =>
      some (r13 && (((r4.2.1 : Int) == ((r11.length : Nat) : Int)) || (((a1 : Int) == 0) && ((r4.2.1 : Int) == 0))))


end Go.Proofs.Ytdfgmloipigmfaa
