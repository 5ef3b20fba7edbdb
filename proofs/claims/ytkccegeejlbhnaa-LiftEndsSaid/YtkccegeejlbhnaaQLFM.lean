/- The models of the functions: printed by program. -/
import Derived.Test.YtkccegeejlbhnaaAbYg
import Derived.Test.YtkccegeejlbhnaaAbYf
import Derived.Lib.BitFns
set_option linter.unusedSimpArgs false
set_option linter.unusedVariables false
namespace Go.Proofs.Ytkccegeejlbhnaa
open Go Go.Ab

structure Api_Span where
  From : Int
  To : Int
deriving DecidableEq

def Ok_Api_Span (x : Api_Span) : Prop := (-9223372036854775808 ≤ x.From ∧ x.From ≤ 9223372036854775807) ∧ (-9223372036854775808 ≤ x.To ∧ x.To ≤ 9223372036854775807)

/- corebell/lift.Wrong$1 -/
def lift_Wrong_1 (a0 : Int) : Option (Bool) :=
  some ((decide ((a0 : Int) < 0)) || (decide ((a0 : Int) > 1099511627776)))


/- slices.IndexFunc(()int,int) -/
def slices_IndexFunc_int_lift_Wrong_1_l1 (a0 : (List Int)) : Nat → Nat → Option (Int)
  | 0, _ => none
  | n1 + 1, k1 =>
    bif (decide ((((k1 : Nat) : Int) : Int) < ((a0.length : Nat) : Int))) then
      (lift_Wrong_1 (a0.getD k1 0)).bind fun r4 =>
      bif r4 then
        some ((k1 : Nat) : Int)
      else
        slices_IndexFunc_int_lift_Wrong_1_l1 a0 n1 (k1 + 1)
    else
      some (-1)

def slices_IndexFunc_int_lift_Wrong_1 (a0 : (List Int)) : Option (Int) :=
  slices_IndexFunc_int_lift_Wrong_1_l1 a0 FUEL 0


/- slices.ContainsFunc(()int,int) -/
def slices_ContainsFunc_int_lift_Wrong_1 (a0 : (List Int)) : Option (Bool) :=
  (slices_IndexFunc_int_lift_Wrong_1 a0).bind fun r1 =>
  some (decide ((r1 : Int) ≥ 0))


/- corebell/lift.Wrong -/
def lift_Wrong (a0 : (List Int)) : Option (Int) :=
  (bif (!(decide ((((a0.length : Nat) : Int) : Int) > 400))) then slices_ContainsFunc_int_lift_Wrong_1 a0 else some false).bind fun r1 =>
  bif ((decide ((((a0.length : Nat) : Int) : Int) > 400)) || r1) then
    some 2
  else
    some 0


/- corebell/lift.Way -/
def lift_Way_l1 (a0 : Int) (a1 : (List Int)) : Nat → Int → Int → Nat → Option (Int × Int)
  | 0, _, _, _ => none
  | n1 + 1, x8, x9, k10 =>
    bif (decide ((((k10 : Nat) : Int) : Int) < ((a1.length : Nat) : Int))) then
      lift_Way_l1 a0 a1 n1 (a1.getD k10 0) (IntKind.i64.wrap (x9 + (if ((IntKind.i64.wrap (x8 - (a1.getD k10 0))) : Int) > (IntKind.i64.wrap ((a1.getD k10 0) - x8)) then (IntKind.i64.wrap (x8 - (a1.getD k10 0))) else (IntKind.i64.wrap ((a1.getD k10 0) - x8))))) (k10 + 1)
    else
      some (x9, 0)

def lift_Way (a0 : Int) (a1 : (List Int)) : Option (Int × Int) :=
  (lift_Wrong a1).bind fun r1 =>
  (bif (!((r1 : Int) != 0)) then lift_Wrong [a0] else some 0).bind fun r3 =>
  bif (((r1 : Int) != 0) || ((r3 : Int) != 0)) then
    some (0, 2)
  else
    lift_Way_l1 a0 a1 FUEL a0 0 0


/- slices.Values: what it hands back holds the list -/
def slices_Values_int (a0 : List Int) : Option Unit := some ()

def slices_Sorted_int (a0 : List Int) : Option (List Int) := if a0.length * 8 ≤ 140737488355328 then some (a0.mergeSort fun x y => decide (x ≤ y)) else none

/- cmp.isNaN(int) -/
def cmp_isNaN_int (a0 : Int) : Option (Bool) :=
  some ((a0 : Int) != a0)


/- cmp.Less(int) -/
def cmp_Less_int (a0 : Int) (a1 : Int) : Option (Bool) :=
  (cmp_isNaN_int a0).bind fun r1 =>
  (bif r1 then cmp_isNaN_int a1 else some false).bind fun r3 =>
  some ((r1 && (!r3)) || (decide ((a0 : Int) < a1)))


/- slices.isNaN(int) -/
def slices_isNaN_int (a0 : Int) : Option (Bool) :=
  some ((a0 : Int) != a0)


/- slices.BinarySearch(()int,int) -/
def slices_BinarySearch_int_l1 (a0 : (List Int)) (a1 : Int) : Nat → Int → Int → Option (Int × Bool)
  | 0, _, _ => none
  | n1 + 1, x1, x2 =>
    bif (decide ((x1 : Int) < x2)) then
      if 0 ≤ ((IntKind.i64.wrap (Int.fdiv (IntKind.u64.wrap (IntKind.i64.wrap (x1 + x2))) (2 ^ (min (Int.toNat 1) IntKind.u64.bits)))) : Int) ∧ (IntKind.i64.wrap (Int.fdiv (IntKind.u64.wrap (IntKind.i64.wrap (x1 + x2))) (2 ^ (min (Int.toNat 1) IntKind.u64.bits)))) < ((a0.length : Nat) : Int) then
      (cmp_Less_int (a0.getD (Int.toNat (IntKind.i64.wrap (Int.fdiv (IntKind.u64.wrap (IntKind.i64.wrap (x1 + x2))) (2 ^ (min (Int.toNat 1) IntKind.u64.bits))))) 0) a1).bind fun r6 =>
      bif r6 then
        slices_BinarySearch_int_l1 a0 a1 n1 (IntKind.i64.wrap ((IntKind.i64.wrap (Int.fdiv (IntKind.u64.wrap (IntKind.i64.wrap (x1 + x2))) (2 ^ (min (Int.toNat 1) IntKind.u64.bits)))) + 1)) x2
      else
        slices_BinarySearch_int_l1 a0 a1 n1 x1 (IntKind.i64.wrap (Int.fdiv (IntKind.u64.wrap (IntKind.i64.wrap (x1 + x2))) (2 ^ (min (Int.toNat 1) IntKind.u64.bits))))
      else none
    else
      if ((decide ((x1 : Int) < ((a0.length : Nat) : Int))) = true → (0 ≤ (x1 : Int) ∧ x1 < ((a0.length : Nat) : Int))) then
      if (((decide ((x1 : Int) < ((a0.length : Nat) : Int))) && !(((a0.getD (Int.toNat x1) 0) : Int) == a1)) = true → (0 ≤ (x1 : Int) ∧ x1 < ((a0.length : Nat) : Int))) then
      (bif ((decide ((x1 : Int) < ((a0.length : Nat) : Int))) && !(((a0.getD (Int.toNat x1) 0) : Int) == a1)) then slices_isNaN_int (a0.getD (Int.toNat x1) 0) else some false).bind fun r20 =>
      (bif (((decide ((x1 : Int) < ((a0.length : Nat) : Int))) && !(((a0.getD (Int.toNat x1) 0) : Int) == a1)) && r20) then slices_isNaN_int a1 else some false).bind fun r23 =>
      some (x1, ((decide ((x1 : Int) < ((a0.length : Nat) : Int))) && ((((a0.getD (Int.toNat x1) 0) : Int) == a1) || (r20 && r23))))
      else none
      else none

def slices_BinarySearch_int (a0 : (List Int)) (a1 : Int) : Option (Int × Bool) :=
  slices_BinarySearch_int_l1 a0 a1 FUEL 0 ((a0.length : Nat) : Int)


/- slices.Grow(()int,int), from nothing -/
def slices_Grow_int_nil (a0 : Int) : Option (List Int) := if 0 ≤ a0 ∧ a0.toNat * 8 ≤ 140737488355328 ∧ a0.toNat ≤ 140737488355328 then some [] else none

/- slices.Concat(()int,int) -/
def slices_Concat_int_l2 (a0 : (List (List Int))) (r6 : (List Int)) : Nat → List Int → Nat → Option ((List Int))
  | 0, _, _ => none
  | n2 + 1, l8, k9 =>
    bif (decide ((((k9 : Nat) : Int) : Int) < ((a0.length : Nat) : Int))) then
      if ((l8).length + ((a0.getD k9 [])).length) * 8 ≤ 140737488355328 ∧ (l8).length + ((a0.getD k9 [])).length ≤ 140737488355328 then
      slices_Concat_int_l2 a0 r6 n2 (l8 ++ (a0.getD k9 [])) (k9 + 1)
      else none
    else
      some l8

def slices_Concat_int_l1 (a0 : (List (List Int))) : Nat → Int → Nat → Option ((List Int))
  | 0, _, _ => none
  | n1 + 1, x1, k2 =>
    bif (decide ((((k2 : Nat) : Int) : Int) < ((a0.length : Nat) : Int))) then
      bif (decide (((IntKind.i64.wrap (x1 + (((a0.getD k2 []).length : Nat) : Int))) : Int) < 0)) then
        none
      else
        slices_Concat_int_l1 a0 n1 (IntKind.i64.wrap (x1 + (((a0.getD k2 []).length : Nat) : Int))) (k2 + 1)
    else
      (slices_Grow_int_nil x1).bind fun r6 =>
      slices_Concat_int_l2 a0 r6 FUEL r6 0

def slices_Concat_int (a0 : (List (List Int))) : Option ((List Int)) :=
  slices_Concat_int_l1 a0 FUEL 0 0


/- corebell/lift.Sweep -/
def lift_Sweep (a0 : Int) (a1 : (List Int)) : Option ((List Int) × Int) :=
  (lift_Way a0 a1).bind fun r1 =>
  bif ((r1.2 : Int) != 0) then
    some (([] : List Int), r1.2)
  else
    (slices_Values_int a1).bind fun r4 =>
    (slices_Sorted_int a1).bind fun r6 =>
    (slices_BinarySearch_int r6 a0).bind fun r8 =>
    if 0 ≤ (r8.1 : Int) then
    if (Int.toNat r8.1) ≤ r6.length then
    if 0 ≤ (r8.1 : Int) then
    if (Int.toNat r8.1) ≤ r6.length then
    (slices_Concat_int [((r6.drop (Int.toNat r8.1)).take (r6.length - (Int.toNat r8.1))), ((r6.drop 0).take ((Int.toNat r8.1) - 0))]).bind fun r14 =>
    some (r14, 0)
    else none
    else none
    else none
    else none


/- slices.Clone(()int,int) -/
def slices_Clone_int (a0 : List Int) : Option (List Int) := if a0.length * 8 ≤ 140737488355328 then some a0 else none

/- slices.Reverse(()int,int) -/
def slices_Reverse_int_h0_l1 (a0 : (List Int)) : Nat → Int → Int → List Int → Option ((List Int))
  | 0, _, _, _ => none
  | n1 + 1, x1, x2, l3 =>
    bif (decide ((x1 : Int) < x2)) then
      if 0 ≤ (x2 : Int) ∧ x2 < ((l3.length : Nat) : Int) then
      if 0 ≤ (x1 : Int) ∧ x1 < ((l3.length : Nat) : Int) then
      if 0 ≤ (x1 : Int) ∧ x1 < ((l3.length : Nat) : Int) then
      if 0 ≤ (x2 : Int) ∧ x2 < ((l3.length : Nat) : Int) then
      slices_Reverse_int_h0_l1 a0 n1 (IntKind.i64.wrap (x1 + 1)) (IntKind.i64.wrap (x2 - 1)) ((l3.set (0 + (Int.toNat x1)) (l3.getD (0 + (Int.toNat x2)) 0)).set (0 + (Int.toNat x2)) (l3.getD (0 + (Int.toNat x1)) 0))
      else none
      else none
      else none
      else none
    else
      some l3

def slices_Reverse_int_h0 (a0 : (List Int)) : Option ((List Int)) :=
  slices_Reverse_int_h0_l1 a0 FUEL 0 (IntKind.i64.wrap (((a0.length : Nat) : Int) - 1)) a0


/- corebell/lift.Short -/
def lift_Short (a0 : Int) (a1 : (List Int)) : Option ((List Int) × Int) :=
  (lift_Way a0 a1).bind fun r1 =>
  bif ((r1.2 : Int) != 0) then
    some (([] : List Int), r1.2)
  else
    bif ((((a1.length : Nat) : Int) : Int) == 0) then
      some (([] : List Int), 0)
    else
      (slices_Values_int a1).bind fun r5 =>
      (slices_Sorted_int a1).bind fun r7 =>
      (slices_BinarySearch_int r7 a0).bind fun r9 =>
      if 0 ≤ (r9.1 : Int) then
      if (Int.toNat r9.1) ≤ r7.length then
      if 0 ≤ (r9.1 : Int) then
      if (Int.toNat r9.1) ≤ r7.length then
      (slices_Clone_int ((r7.drop (0 + 0)).take ((Int.toNat r9.1) - 0))).bind fun r15 =>
      (slices_Reverse_int_h0 r15).bind fun r17 =>
      if r17.length = r15.length then
      if 0 ≤ ((IntKind.i64.wrap (((r7.length : Nat) : Int) - 1)) : Int) ∧ (IntKind.i64.wrap (((r7.length : Nat) : Int) - 1)) < ((r7.length : Nat) : Int) then
      if 0 ≤ (0 : Int) ∧ 0 < ((r7.length : Nat) : Int) then
      bif (decide (((IntKind.i64.wrap ((r7.getD (0 + (Int.toNat (IntKind.i64.wrap (((r7.length : Nat) : Int) - 1)))) 0) - a0)) : Int) ≤ (IntKind.i64.wrap (a0 - (r7.getD (0 + 0) 0))))) then
        (slices_Concat_int [((r7.drop (0 + (Int.toNat r9.1))).take (r7.length - (Int.toNat r9.1))), r17]).bind fun r23 =>
        some (r23, 0)
      else
        (slices_Concat_int [r17, ((r7.drop (0 + (Int.toNat r9.1))).take (r7.length - (Int.toNat r9.1)))]).bind fun r25 =>
        some (r25, 0)
      else none
      else none
      else none
      else none
      else none
      else none
      else none


/- slices.Values: what it hands back holds the list -/
def slices_Values_api_Span (a0 : List Api_Span) : Option Unit := some ()

def slices_Collect_api_Span (a0 : List Api_Span) : Option (List Api_Span) := if a0.length * 16 ≤ 140737488355328 then some a0 else none

def sfDom (x : Api_Span) : Prop := 0 ≤ x.1 ∧ x.1 ≤ 1099511627776
instance (x : Api_Span) : Decidable (sfDom x) := by unfold sfDom; infer_instance
instance : Inhabited {x : Api_Span // sfDom x} := ⟨⟨(⟨0, 0⟩ : Api_Span), by decide⟩⟩
def sfCmp (x y : Api_Span) : Int := x.1 - y.1
/- slices.SortFunc -/
def slices_SortFunc_api_Span (a0 : List Api_Span) : Option (List Api_Span) := if h : ∀ x ∈ a0, sfDom x then some (srtF sfDom sfCmp a0 h) else none

/- slices.SortedFunc(corebell/api.Span) -/
def slices_SortedFunc_api_Span_slices_Values_1_api_Span_lift_Merge_1 (a0 : (List Api_Span)) : Option ((List Api_Span)) :=
  (slices_Collect_api_Span a0).bind fun r1 =>
  (slices_SortFunc_api_Span r1).bind fun r3 =>
  if r3.length = r1.length then
  some r3
  else none


/- corebell/lift.Merge -/
def lift_Merge_l2 (r16 : (List Api_Span)) : Nat → List Api_Span → Nat → Option ((List Api_Span) × Int)
  | 0, _, _ => none
  | n2 + 1, l18, k19 =>
    bif (decide ((((k19 : Nat) : Int) : Int) < ((r16.length : Nat) : Int))) then
      if ((decide (((IntKind.i64.wrap (((l18.length : Nat) : Int) - 1)) : Int) ≥ 0)) = true → (0 ≤ ((IntKind.i64.wrap (((l18.length : Nat) : Int) - 1)) : Int) ∧ (IntKind.i64.wrap (((l18.length : Nat) : Int) - 1)) < ((l18.length : Nat) : Int))) then
      bif ((decide (((IntKind.i64.wrap (((l18.length : Nat) : Int) - 1)) : Int) ≥ 0)) && (decide (((r16.getD (0 + k19) (⟨0, 0⟩ : Api_Span)).From : Int) ≤ ((l18.getD (0 + (Int.toNat (IntKind.i64.wrap (((l18.length : Nat) : Int) - 1)))) (⟨0, 0⟩ : Api_Span)).To)))) then
        if 0 ≤ ((IntKind.i64.wrap (((l18.length : Nat) : Int) - 1)) : Int) ∧ (IntKind.i64.wrap (((l18.length : Nat) : Int) - 1)) < ((l18.length : Nat) : Int) then
        if 0 ≤ ((IntKind.i64.wrap (((l18.length : Nat) : Int) - 1)) : Int) ∧ (IntKind.i64.wrap (((l18.length : Nat) : Int) - 1)) < ((l18.length : Nat) : Int) then
        lift_Merge_l2 r16 n2 (l18.set (0 + (Int.toNat (IntKind.i64.wrap (((l18.length : Nat) : Int) - 1)))) (⟨(l18.getD (0 + (Int.toNat (IntKind.i64.wrap (((l18.length : Nat) : Int) - 1)))) (⟨0, 0⟩ : Api_Span)).From, (if ((r16.getD (0 + k19) (⟨0, 0⟩ : Api_Span)).To : Int) > ((l18.getD (0 + (Int.toNat (IntKind.i64.wrap (((l18.length : Nat) : Int) - 1)))) (⟨0, 0⟩ : Api_Span)).To) then ((r16.getD (0 + k19) (⟨0, 0⟩ : Api_Span)).To) else ((l18.getD (0 + (Int.toNat (IntKind.i64.wrap (((l18.length : Nat) : Int) - 1)))) (⟨0, 0⟩ : Api_Span)).To))⟩ : Api_Span)) (k19 + 1)
        else none
        else none
      else
        if ((l18).length + ([(r16.getD (0 + k19) (⟨0, 0⟩ : Api_Span))]).length) * 16 ≤ 140737488355328 ∧ (l18).length + ([(r16.getD (0 + k19) (⟨0, 0⟩ : Api_Span))]).length ≤ 140737488355328 then
        lift_Merge_l2 r16 n2 (l18 ++ [(r16.getD (0 + k19) (⟨0, 0⟩ : Api_Span))]) (k19 + 1)
        else none
      else none
    else
      some (l18, 0)

def lift_Merge_l1 (a0 : (List Api_Span)) : Nat → Nat → Option ((List Api_Span) × Int)
  | 0, _ => none
  | n1 + 1, k2 =>
    bif (decide ((((k2 : Nat) : Int) : Int) < ((a0.length : Nat) : Int))) then
      bif (((decide (((a0.getD k2 (⟨0, 0⟩ : Api_Span)).From : Int) < 0)) || (decide (((a0.getD k2 (⟨0, 0⟩ : Api_Span)).From : Int) ≥ ((a0.getD k2 (⟨0, 0⟩ : Api_Span)).To)))) || (decide (((a0.getD k2 (⟨0, 0⟩ : Api_Span)).To : Int) > 1099511627776))) then
        some (([] : List Api_Span), 2)
      else
        lift_Merge_l1 a0 n1 (k2 + 1)
    else
      (slices_Values_api_Span a0).bind fun r14 =>
      (slices_SortedFunc_api_Span_slices_Values_1_api_Span_lift_Merge_1 a0).bind fun r16 =>
      lift_Merge_l2 r16 FUEL ([] : List Api_Span) 0

def lift_Merge (a0 : (List Api_Span)) : Option ((List Api_Span) × Int) :=
  bif (decide ((((a0.length : Nat) : Int) : Int) > 400)) then
    some (([] : List Api_Span), 2)
  else
    lift_Merge_l1 a0 FUEL 0


/- slices.Equal(()int,int) -/
def slices_Equal_int_l1 (a0 : (List Int)) (a1 : (List Int)) : Nat → Nat → Option (Bool)
  | 0, _ => none
  | n1 + 1, k2 =>
    bif (decide ((((k2 : Nat) : Int) : Int) < ((a0.length : Nat) : Int))) then
      if 0 ≤ (((k2 : Nat) : Int) : Int) ∧ ((k2 : Nat) : Int) < ((a1.length : Nat) : Int) then
      bif (((a0.getD k2 0) : Int) != (a1.getD k2 0)) then
        some false
      else
        slices_Equal_int_l1 a0 a1 n1 (k2 + 1)
      else none
    else
      some true

def slices_Equal_int (a0 : (List Int)) (a1 : (List Int)) : Option (Bool) :=
  bif ((((a0.length : Nat) : Int) : Int) != ((a1.length : Nat) : Int)) then
    some false
  else
    slices_Equal_int_l1 a0 a1 FUEL 0


/- slices.Equal(()corebell/api.Span,corebell/api.Span) -/
def slices_Equal_api_Span_l1 (a0 : (List Api_Span)) (a1 : (List Api_Span)) : Nat → Nat → Option (Bool)
  | 0, _ => none
  | n1 + 1, k2 =>
    bif (decide ((((k2 : Nat) : Int) : Int) < ((a0.length : Nat) : Int))) then
      if 0 ≤ (((k2 : Nat) : Int) : Int) ∧ ((k2 : Nat) : Int) < ((a1.length : Nat) : Int) then
      bif (!((((a0.getD k2 (⟨0, 0⟩ : Api_Span)).From : Int) == ((a1.getD k2 (⟨0, 0⟩ : Api_Span)).From)) && ((((a0.getD k2 (⟨0, 0⟩ : Api_Span)).To : Int) == ((a1.getD k2 (⟨0, 0⟩ : Api_Span)).To)) && true))) then
        some false
      else
        slices_Equal_api_Span_l1 a0 a1 n1 (k2 + 1)
      else none
    else
      some true

def slices_Equal_api_Span (a0 : (List Api_Span)) (a1 : (List Api_Span)) : Option (Bool) :=
  bif ((((a0.length : Nat) : Int) : Int) != ((a1.length : Nat) : Int)) then
    some false
  else
    slices_Equal_api_Span_l1 a0 a1 FUEL 0


/- corebell/corebellkeep.alive19 -/
def keep_alive19 : Option (Bool) :=
  (lift_Sweep 50 [10, 60, 55, 40]).bind fun r1 =>
  (lift_Short 50 [10, 60, 55, 40]).bind fun r3 =>
  (lift_Way 50 [55, 60, 40, 10]).bind fun r5 =>
  (lift_Merge [(⟨5, 7⟩ : Api_Span), (⟨1, 3⟩ : Api_Span), (⟨7, 9⟩ : Api_Span)]).bind fun r7 =>
  (bif (((((r1.2 : Int) == 0) && ((r3.2 : Int) == 0)) && ((r5.2 : Int) == 0)) && ((r7.2 : Int) == 0)) then slices_Equal_int r1.1 [55, 60, 10, 40] else some false).bind fun r15 =>
  (bif ((((((r1.2 : Int) == 0) && ((r3.2 : Int) == 0)) && ((r5.2 : Int) == 0)) && ((r7.2 : Int) == 0)) && r15) then slices_Equal_int r3.1 [55, 60, 40, 10] else some false).bind fun r18 =>
  (bif ((((((((r1.2 : Int) == 0) && ((r3.2 : Int) == 0)) && ((r5.2 : Int) == 0)) && ((r7.2 : Int) == 0)) && r15) && r18) && ((r5.1 : Int) == 60)) then slices_Equal_api_Span r7.1 [(⟨1, 3⟩ : Api_Span), (⟨5, 9⟩ : Api_Span)] else some false).bind fun r23 =>
  some (((((((((r1.2 : Int) == 0) && ((r3.2 : Int) == 0)) && ((r5.2 : Int) == 0)) && ((r7.2 : Int) == 0)) && r15) && r18) && ((r5.1 : Int) == 60)) && r23)


/- corebell/corebellkeep.LiftAll -/
def keep_LiftAll_l1 (r4 : (List Int) × Int) (r6 : (List Int) × Int) (r11 : (List Int)) : Nat → Int → Nat → Option (Bool)
  | 0, _, _ => none
  | n1 + 1, x13, k14 =>
    bif (decide ((((k14 : Nat) : Int) : Int) < ((r4.1.length : Nat) : Int))) then
      if ((decide ((((k14 : Nat) : Int) : Int) > 0)) = true → (0 ≤ (((k14 : Nat) : Int) : Int) ∧ ((k14 : Nat) : Int) < ((r4.1.length : Nat) : Int))) then
      bif (decide ((((k14 : Nat) : Int) : Int) > 0)) then
        if ((decide ((((k14 : Nat) : Int) : Int) > 0)) = true → (0 ≤ ((IntKind.i64.wrap (((k14 : Nat) : Int) - 1)) : Int) ∧ (IntKind.i64.wrap (((k14 : Nat) : Int) - 1)) < ((r4.1.length : Nat) : Int))) then
        bif ((decide ((((k14 : Nat) : Int) : Int) > 0)) && (decide (((r4.1.getD (0 + k14) 0) : Int) < (r4.1.getD (0 + (Int.toNat (IntKind.i64.wrap (((k14 : Nat) : Int) - 1)))) 0)))) then
          keep_LiftAll_l1 r4 r6 r11 n1 (IntKind.i64.wrap (x13 + 1)) (k14 + 1)
        else
          keep_LiftAll_l1 r4 r6 r11 n1 x13 (k14 + 1)
        else none
      else
        if ((decide ((((k14 : Nat) : Int) : Int) > 0)) = true → (0 ≤ ((IntKind.i64.wrap (((k14 : Nat) : Int) - 1)) : Int) ∧ (IntKind.i64.wrap (((k14 : Nat) : Int) - 1)) < ((r4.1.length : Nat) : Int))) then
        bif ((decide ((((k14 : Nat) : Int) : Int) > 0)) && (decide ((0 : Int) < 0))) then
          keep_LiftAll_l1 r4 r6 r11 n1 (IntKind.i64.wrap (x13 + 1)) (k14 + 1)
        else
          keep_LiftAll_l1 r4 r6 r11 n1 x13 (k14 + 1)
        else none
      else none
    else
      bif ((r6.2 : Int) == 0) then
        (slices_Values_int r4.1).bind fun r37 =>
        (slices_Sorted_int r4.1).bind fun r39 =>
        (slices_Equal_int r39 r11).bind fun r41 =>
        bif (((r6.2 : Int) == 0) && r41) then
          (slices_Values_int r6.1).bind fun r45 =>
          (slices_Sorted_int r6.1).bind fun r47 =>
          (slices_Equal_int r47 r11).bind fun r49 =>
          some (((((r6.2 : Int) == 0) && r41) && r49) && (decide ((x13 : Int) ≤ 1)))
        else
          some (((((r6.2 : Int) == 0) && r41) && false) && (decide ((x13 : Int) ≤ 1)))
      else
        bif (((r6.2 : Int) == 0) && false) then
          (slices_Values_int r6.1).bind fun r59 =>
          (slices_Sorted_int r6.1).bind fun r61 =>
          (slices_Equal_int r61 r11).bind fun r63 =>
          some (((((r6.2 : Int) == 0) && false) && r63) && (decide ((x13 : Int) ≤ 1)))
        else
          some (((((r6.2 : Int) == 0) && false) && false) && (decide ((x13 : Int) ≤ 1)))

def keep_LiftAll (a0 : Int) (a1 : (List Int)) : Option (Bool) :=
  (keep_alive19).bind fun r1 =>
  bif (!r1) then
    some false
  else
    (lift_Sweep a0 a1).bind fun r4 =>
    (lift_Short a0 a1).bind fun r6 =>
    bif ((r4.2 : Int) != 0) then
      some ((r4.2 : Int) == r6.2)
    else
      (slices_Values_int a1).bind fun r9 =>
      (slices_Sorted_int a1).bind fun r11 =>
      keep_LiftAll_l1 r4 r6 r11 FUEL 0 0


/- slices.Clone(()corebell/api.Span,corebell/api.Span) -/
def slices_Clone_api_Span (a0 : List Api_Span) : Option (List Api_Span) := if a0.length * 16 ≤ 140737488355328 then some a0 else none

/- slices.Reverse(()corebell/api.Span,corebell/api.Span) -/
def slices_Reverse_api_Span_h0_l1 (a0 : (List Api_Span)) : Nat → Int → Int → List Api_Span → Option ((List Api_Span))
  | 0, _, _, _ => none
  | n1 + 1, x1, x2, l3 =>
    bif (decide ((x1 : Int) < x2)) then
      if 0 ≤ (x2 : Int) ∧ x2 < ((l3.length : Nat) : Int) then
      if 0 ≤ (x1 : Int) ∧ x1 < ((l3.length : Nat) : Int) then
      if 0 ≤ (x1 : Int) ∧ x1 < ((l3.length : Nat) : Int) then
      if 0 ≤ (x2 : Int) ∧ x2 < ((l3.length : Nat) : Int) then
      slices_Reverse_api_Span_h0_l1 a0 n1 (IntKind.i64.wrap (x1 + 1)) (IntKind.i64.wrap (x2 - 1)) ((l3.set (0 + (Int.toNat x1)) (l3.getD (0 + (Int.toNat x2)) (⟨0, 0⟩ : Api_Span))).set (0 + (Int.toNat x2)) (l3.getD (0 + (Int.toNat x1)) (⟨0, 0⟩ : Api_Span)))
      else none
      else none
      else none
      else none
    else
      some l3

def slices_Reverse_api_Span_h0 (a0 : (List Api_Span)) : Option ((List Api_Span)) :=
  slices_Reverse_api_Span_h0_l1 a0 FUEL 0 (IntKind.i64.wrap (((a0.length : Nat) : Int) - 1)) a0


/- corebell/corebellkeep.LiftMerged$1$1 -/
def keep_LiftMerged_1_1 (a0 : Api_Span) (a1 : Int) : Option (Bool) :=
  some ((decide ((a0.From : Int) ≤ a1)) && (decide ((a1 : Int) < a0.To)))


/- slices.IndexFunc(()corebell/api.Span,corebell/api.Span) -/
def slices_IndexFunc_api_Span_keep_LiftMerged_1_1_l1 (a0 : (List Api_Span)) (a1 : Int) : Nat → Nat → Option (Int)
  | 0, _ => none
  | n1 + 1, k1 =>
    bif (decide ((((k1 : Nat) : Int) : Int) < ((a0.length : Nat) : Int))) then
      (keep_LiftMerged_1_1 (a0.getD k1 (⟨0, 0⟩ : Api_Span)) a1).bind fun r4 =>
      bif r4 then
        some ((k1 : Nat) : Int)
      else
        slices_IndexFunc_api_Span_keep_LiftMerged_1_1_l1 a0 a1 n1 (k1 + 1)
    else
      some (-1)

def slices_IndexFunc_api_Span_keep_LiftMerged_1_1 (a0 : (List Api_Span)) (a1 : Int) : Option (Int) :=
  slices_IndexFunc_api_Span_keep_LiftMerged_1_1_l1 a0 a1 FUEL 0


/- slices.ContainsFunc(()corebell/api.Span,corebell/api.Span) -/
def slices_ContainsFunc_api_Span_keep_LiftMerged_1_1 (a0 : (List Api_Span)) (a1 : Int) : Option (Bool) :=
  (slices_IndexFunc_api_Span_keep_LiftMerged_1_1 a0 a1).bind fun r1 =>
  some (decide ((r1 : Int) ≥ 0))


/- corebell/corebellkeep.LiftMerged$1 -/
def keep_LiftMerged_1 (a0 : (List Api_Span)) (a1 : Int) : Option (Bool) :=
  (slices_ContainsFunc_api_Span_keep_LiftMerged_1_1 a0 a1).bind fun r1 =>
  some r1


/- corebell/corebellkeep.LiftMerged -/
def keep_LiftMerged_l1 (a0 : (List Api_Span)) (a1 : Int) (r4 : (List Api_Span) × Int) (r12 : (List Api_Span) × Int) (r14 : (List Api_Span) × Int) : Nat → Nat → Option (Bool)
  | 0, _ => none
  | n1 + 1, k16 =>
    bif (decide ((((k16 : Nat) : Int) : Int) < ((r4.1.length : Nat) : Int))) then
      if (((!(decide (((r4.1.getD (0 + k16) (⟨0, 0⟩ : Api_Span)).From : Int) ≥ ((r4.1.getD (0 + k16) (⟨0, 0⟩ : Api_Span)).To)))) && (decide ((((k16 : Nat) : Int) : Int) > 0))) = true → (0 ≤ ((IntKind.i64.wrap (((k16 : Nat) : Int) - 1)) : Int) ∧ (IntKind.i64.wrap (((k16 : Nat) : Int) - 1)) < ((r4.1.length : Nat) : Int))) then
      bif ((!(decide (((r4.1.getD (0 + k16) (⟨0, 0⟩ : Api_Span)).From : Int) ≥ ((r4.1.getD (0 + k16) (⟨0, 0⟩ : Api_Span)).To)))) && (decide ((((k16 : Nat) : Int) : Int) > 0))) then
        if (((!(decide (((r4.1.getD (0 + k16) (⟨0, 0⟩ : Api_Span)).From : Int) ≥ ((r4.1.getD (0 + k16) (⟨0, 0⟩ : Api_Span)).To)))) && (decide ((((k16 : Nat) : Int) : Int) > 0))) = true → (0 ≤ (((k16 : Nat) : Int) : Int) ∧ ((k16 : Nat) : Int) < ((r4.1.length : Nat) : Int))) then
        bif ((decide (((r4.1.getD (0 + k16) (⟨0, 0⟩ : Api_Span)).From : Int) ≥ ((r4.1.getD (0 + k16) (⟨0, 0⟩ : Api_Span)).To))) || ((decide ((((k16 : Nat) : Int) : Int) > 0)) && (decide (((r4.1.getD (0 + (Int.toNat (IntKind.i64.wrap (((k16 : Nat) : Int) - 1)))) (⟨0, 0⟩ : Api_Span)).To : Int) ≥ ((r4.1.getD (0 + k16) (⟨0, 0⟩ : Api_Span)).From))))) then
          some false
        else
          keep_LiftMerged_l1 a0 a1 r4 r12 r14 n1 (k16 + 1)
        else none
      else
        if (((!(decide (((r4.1.getD (0 + k16) (⟨0, 0⟩ : Api_Span)).From : Int) ≥ ((r4.1.getD (0 + k16) (⟨0, 0⟩ : Api_Span)).To)))) && (decide ((((k16 : Nat) : Int) : Int) > 0))) = true → (0 ≤ (((k16 : Nat) : Int) : Int) ∧ ((k16 : Nat) : Int) < ((r4.1.length : Nat) : Int))) then
        bif ((decide (((r4.1.getD (0 + k16) (⟨0, 0⟩ : Api_Span)).From : Int) ≥ ((r4.1.getD (0 + k16) (⟨0, 0⟩ : Api_Span)).To))) || ((decide ((((k16 : Nat) : Int) : Int) > 0)) && (decide ((0 : Int) ≥ 0)))) then
          some false
        else
          keep_LiftMerged_l1 a0 a1 r4 r12 r14 n1 (k16 + 1)
        else none
      else none
    else
      (keep_LiftMerged_1 a0 a1).bind fun r48 =>
      (keep_LiftMerged_1 r4.1 a1).bind fun r50 =>
      bif (((r48 == r50) && ((r12.2 : Int) == 0)) && ((r14.2 : Int) == 0)) then
        (slices_Equal_api_Span r12.1 r4.1).bind fun r57 =>
        bif ((((r48 == r50) && ((r12.2 : Int) == 0)) && ((r14.2 : Int) == 0)) && r57) then
          (slices_Equal_api_Span r14.1 r4.1).bind fun r61 =>
          some ((((((r48 == r50) && ((r12.2 : Int) == 0)) && ((r14.2 : Int) == 0)) && r57) && r61) && (decide ((((r4.1.length : Nat) : Int) : Int) ≤ ((a0.length : Nat) : Int))))
        else
          some ((((((r48 == r50) && ((r12.2 : Int) == 0)) && ((r14.2 : Int) == 0)) && r57) && false) && (decide ((((r4.1.length : Nat) : Int) : Int) ≤ ((a0.length : Nat) : Int))))
      else
        bif ((((r48 == r50) && ((r12.2 : Int) == 0)) && ((r14.2 : Int) == 0)) && false) then
          (slices_Equal_api_Span r14.1 r4.1).bind fun r77 =>
          some ((((((r48 == r50) && ((r12.2 : Int) == 0)) && ((r14.2 : Int) == 0)) && false) && r77) && (decide ((((r4.1.length : Nat) : Int) : Int) ≤ ((a0.length : Nat) : Int))))
        else
          some ((((((r48 == r50) && ((r12.2 : Int) == 0)) && ((r14.2 : Int) == 0)) && false) && false) && (decide ((((r4.1.length : Nat) : Int) : Int) ≤ ((a0.length : Nat) : Int))))

def keep_LiftMerged (a0 : (List Api_Span)) (a1 : Int) : Option (Bool) :=
  (keep_alive19).bind fun r1 =>
  bif (!r1) then
    some false
  else
    (lift_Merge a0).bind fun r4 =>
    bif ((r4.2 : Int) != 0) then
      some ((((r4.1.length : Nat) : Int) : Int) == 0)
    else
      (slices_Clone_api_Span a0).bind fun r7 =>
      (slices_Reverse_api_Span_h0 r7).bind fun r9 =>
      if r9.length = r7.length then
      (lift_Merge r9).bind fun r12 =>
      (lift_Merge r4.1).bind fun r14 =>
      keep_LiftMerged_l1 a0 a1 r4 r12 r14 FUEL 0
      else none


def slices_Delete_int (a0 : List Int) (a1 a2 : Int) : Option (List Int) := if 0 ≤ a1 ∧ a1 ≤ a2 ∧ a2 ≤ a0.length then some (a0.take a1.toNat ++ a0.drop a2.toNat) else none

/- corebell/corebellkeep.LiftBest -/
def keep_LiftBest_l1 (a0 : Int) (a1 : (List Int)) (a2 : (List Int)) (r4 : (List Int) × Int) (r7 : (List Int)) : Nat → List Int → List Int → Int → Option (Bool)
  | 0, _, _, _ => none
  | n1 + 1, l9, l10, x11 =>
    bif (decide ((((l9.length : Nat) : Int) : Int) > 0)) then
      bif (decide ((x11 : Int) < ((a2.length : Nat) : Int))) then
        if 0 ≤ (x11 : Int) ∧ x11 < ((a2.length : Nat) : Int) then
        if (((l9.length : Nat) : Int) : Int) ≠ 0 then
        if (((l9.length : Nat) : Int) : Int) ≠ 0 then
        if 0 ≤ ((Int.tmod (IntKind.i64.wrap ((Int.tmod (a2.getD (Int.toNat x11) 0) ((l9.length : Nat) : Int)) + ((l9.length : Nat) : Int))) ((l9.length : Nat) : Int)) : Int) ∧ (Int.tmod (IntKind.i64.wrap ((Int.tmod (a2.getD (Int.toNat x11) 0) ((l9.length : Nat) : Int)) + ((l9.length : Nat) : Int))) ((l9.length : Nat) : Int)) < ((l9.length : Nat) : Int) then
        if ((l10).length + ([(l9.getD (0 + (Int.toNat (Int.tmod (IntKind.i64.wrap ((Int.tmod (a2.getD (Int.toNat x11) 0) ((l9.length : Nat) : Int)) + ((l9.length : Nat) : Int))) ((l9.length : Nat) : Int)))) 0)]).length) * 8 ≤ 140737488355328 ∧ (l10).length + ([(l9.getD (0 + (Int.toNat (Int.tmod (IntKind.i64.wrap ((Int.tmod (a2.getD (Int.toNat x11) 0) ((l9.length : Nat) : Int)) + ((l9.length : Nat) : Int))) ((l9.length : Nat) : Int)))) 0)]).length ≤ 140737488355328 then
        (slices_Delete_int l9 (Int.tmod (IntKind.i64.wrap ((Int.tmod (a2.getD (Int.toNat x11) 0) ((l9.length : Nat) : Int)) + ((l9.length : Nat) : Int))) ((l9.length : Nat) : Int)) (IntKind.i64.wrap ((Int.tmod (IntKind.i64.wrap ((Int.tmod (a2.getD (Int.toNat x11) 0) ((l9.length : Nat) : Int)) + ((l9.length : Nat) : Int))) ((l9.length : Nat) : Int)) + 1))).bind fun r19 =>
        keep_LiftBest_l1 a0 a1 a2 r4 r7 n1 r19 (l10 ++ [(l9.getD (0 + (Int.toNat (Int.tmod (IntKind.i64.wrap ((Int.tmod (a2.getD (Int.toNat x11) 0) ((l9.length : Nat) : Int)) + ((l9.length : Nat) : Int))) ((l9.length : Nat) : Int)))) 0)]) (IntKind.i64.wrap (x11 + 1))
        else none
        else none
        else none
        else none
        else none
      else
        if 0 ≤ (0 : Int) ∧ 0 < ((l9.length : Nat) : Int) then
        if ((l10).length + ([(l9.getD (0 + 0) 0)]).length) * 8 ≤ 140737488355328 ∧ (l10).length + ([(l9.getD (0 + 0) 0)]).length ≤ 140737488355328 then
        (slices_Delete_int l9 0 (IntKind.i64.wrap (0 + 1))).bind fun r23 =>
        keep_LiftBest_l1 a0 a1 a2 r4 r7 n1 r23 (l10 ++ [(l9.getD (0 + 0) 0)]) (IntKind.i64.wrap (x11 + 1))
        else none
        else none
    else
      (lift_Way a0 r4.1).bind fun r25 =>
      (lift_Way a0 l10).bind fun r27 =>
      (lift_Sweep a0 a1).bind fun r29 =>
      (lift_Way a0 r29.1).bind fun r31 =>
      some (((((((r25.2 : Int) == 0) && ((r27.2 : Int) == 0)) && ((r29.2 : Int) == 0)) && ((r31.2 : Int) == 0)) && (decide ((r25.1 : Int) ≤ r27.1))) && (decide ((r25.1 : Int) ≤ r31.1)))

def keep_LiftBest (a0 : Int) (a1 : (List Int)) (a2 : (List Int)) : Option (Bool) :=
  (keep_alive19).bind fun r1 =>
  bif (!r1) then
    some false
  else
    (lift_Short a0 a1).bind fun r4 =>
    bif ((r4.2 : Int) != 0) then
      some ((((r4.1.length : Nat) : Int) : Int) == 0)
    else
      (slices_Clone_int a1).bind fun r7 =>
      keep_LiftBest_l1 a0 a1 a2 r4 r7 FUEL r7 ([] : List Int) 0


/- slices.Min(()int,int) -/
def slices_Min_int_l1 (a0 : (List Int)) : Nat → Int → Int → Option (Int)
  | 0, _, _ => none
  | n1 + 1, x3, x4 =>
    bif (decide ((x4 : Int) < ((a0.length : Nat) : Int))) then
      if 0 ≤ (x4 : Int) ∧ x4 < ((a0.length : Nat) : Int) then
      slices_Min_int_l1 a0 n1 (if ((a0.getD (Int.toNat x4) 0) : Int) < x3 then (a0.getD (Int.toNat x4) 0) else x3) (IntKind.i64.wrap (x4 + 1))
      else none
    else
      some x3

def slices_Min_int (a0 : (List Int)) : Option (Int) :=
  bif (decide ((((a0.length : Nat) : Int) : Int) < 1)) then
    none
  else
    if 0 ≤ (0 : Int) ∧ 0 < ((a0.length : Nat) : Int) then
    slices_Min_int_l1 a0 FUEL (a0.getD 0 0) 1
    else none


/- slices.Max(()int,int) -/
def slices_Max_int_l1 (a0 : (List Int)) : Nat → Int → Int → Option (Int)
  | 0, _, _ => none
  | n1 + 1, x3, x4 =>
    bif (decide ((x4 : Int) < ((a0.length : Nat) : Int))) then
      if 0 ≤ (x4 : Int) ∧ x4 < ((a0.length : Nat) : Int) then
      slices_Max_int_l1 a0 n1 (if ((a0.getD (Int.toNat x4) 0) : Int) > x3 then (a0.getD (Int.toNat x4) 0) else x3) (IntKind.i64.wrap (x4 + 1))
      else none
    else
      some x3

def slices_Max_int (a0 : (List Int)) : Option (Int) :=
  bif (decide ((((a0.length : Nat) : Int) : Int) < 1)) then
    none
  else
    if 0 ≤ (0 : Int) ∧ 0 < ((a0.length : Nat) : Int) then
    slices_Max_int_l1 a0 FUEL (a0.getD 0 0) 1
    else none


/- corebell/corebellkeep.LiftEnds -/
def keep_LiftEnds (a0 : Int) (a1 : (List Int)) : Option (Bool) :=
  (keep_alive19).bind fun r1 =>
  bif (!r1) then
    some false
  else
    (lift_Short a0 a1).bind fun r4 =>
    (lift_Way a0 r4.1).bind fun r6 =>
    bif (!(((r4.2 : Int) != 0) || ((((a1.length : Nat) : Int) : Int) == 0))) then
      (slices_Min_int a1).bind fun r12 =>
      bif (!((((r4.2 : Int) != 0) || ((((a1.length : Nat) : Int) : Int) == 0)) || (decide ((a0 : Int) < r12)))) then
        (slices_Max_int a1).bind fun r18 =>
        bif (((((r4.2 : Int) != 0) || ((((a1.length : Nat) : Int) : Int) == 0)) || (decide ((a0 : Int) < r12))) || (decide ((a0 : Int) > r18))) then
          some true
        else
          (slices_Min_int a1).bind fun r24 =>
          (slices_Max_int a1).bind fun r26 =>
          some (((r6.2 : Int) == 0) && ((r6.1 : Int) == (IntKind.i64.wrap ((IntKind.i64.wrap ((IntKind.i64.wrap (a0 - r24)) + (IntKind.i64.wrap (r26 - a0)))) + (if ((IntKind.i64.wrap (r26 - a0)) : Int) < (IntKind.i64.wrap (a0 - r24)) then (IntKind.i64.wrap (r26 - a0)) else (IntKind.i64.wrap (a0 - r24)))))))
      else
        bif (((((r4.2 : Int) != 0) || ((((a1.length : Nat) : Int) : Int) == 0)) || (decide ((a0 : Int) < r12))) || (decide ((a0 : Int) > 0))) then
          some true
        else
          (slices_Min_int a1).bind fun r41 =>
          (slices_Max_int a1).bind fun r43 =>
          some (((r6.2 : Int) == 0) && ((r6.1 : Int) == (IntKind.i64.wrap ((IntKind.i64.wrap ((IntKind.i64.wrap (a0 - r41)) + (IntKind.i64.wrap (r43 - a0)))) + (if ((IntKind.i64.wrap (r43 - a0)) : Int) < (IntKind.i64.wrap (a0 - r41)) then (IntKind.i64.wrap (r43 - a0)) else (IntKind.i64.wrap (a0 - r41)))))))
    else
      bif (!((((r4.2 : Int) != 0) || ((((a1.length : Nat) : Int) : Int) == 0)) || (decide ((a0 : Int) < 0)))) then
        (slices_Max_int a1).bind fun r58 =>
        bif (((((r4.2 : Int) != 0) || ((((a1.length : Nat) : Int) : Int) == 0)) || (decide ((a0 : Int) < 0))) || (decide ((a0 : Int) > r58))) then
          some true
        else
          (slices_Min_int a1).bind fun r64 =>
          (slices_Max_int a1).bind fun r66 =>
          some (((r6.2 : Int) == 0) && ((r6.1 : Int) == (IntKind.i64.wrap ((IntKind.i64.wrap ((IntKind.i64.wrap (a0 - r64)) + (IntKind.i64.wrap (r66 - a0)))) + (if ((IntKind.i64.wrap (r66 - a0)) : Int) < (IntKind.i64.wrap (a0 - r64)) then (IntKind.i64.wrap (r66 - a0)) else (IntKind.i64.wrap (a0 - r64)))))))
      else
        bif (((((r4.2 : Int) != 0) || ((((a1.length : Nat) : Int) : Int) == 0)) || (decide ((a0 : Int) < 0))) || (decide ((a0 : Int) > 0))) then
          some true
        else
          (slices_Min_int a1).bind fun r81 =>
          (slices_Max_int a1).bind fun r83 =>
          some (((r6.2 : Int) == 0) && ((r6.1 : Int) == (IntKind.i64.wrap ((IntKind.i64.wrap ((IntKind.i64.wrap (a0 - r81)) + (IntKind.i64.wrap (r83 - a0)))) + (if ((IntKind.i64.wrap (r83 - a0)) : Int) < (IntKind.i64.wrap (a0 - r81)) then (IntKind.i64.wrap (r83 - a0)) else (IntKind.i64.wrap (a0 - r81)))))))


end Go.Proofs.Ytkccegeejlbhnaa
