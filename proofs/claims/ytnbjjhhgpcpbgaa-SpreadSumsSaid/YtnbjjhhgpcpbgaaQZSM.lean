/- The models of the functions: printed by program. -/
import Derived.Test.YtnbjjhhgpcpbgaaAbYg
import Derived.Test.YtnbjjhhgpcpbgaaSpD
import Derived.Test.YtnbjjhhgpcpbgaaSpB
set_option linter.unusedSimpArgs false
set_option linter.unusedVariables false
namespace Go.Proofs.Ytnbjjhhgpcpbgaa
open Go Go.Ab

structure Api_Plan where
  Core : (List Int)
  Most : Int
deriving DecidableEq


/- corebell/spread.Wrong$1 -/
def spread_Wrong_1 (a0 : Int) : Option (Bool) :=
  some ((decide ((a0 : Int) < 0)) || (decide ((a0 : Int) > 1073741824)))


/- slices.IndexFunc(()int,int) -/
def slices_IndexFunc_int_spread_Wrong_1_l1 (a0 : (List Int)) : Nat → Nat → Option (Int)
  | 0, _ => none
  | n1 + 1, k1 =>
    bif (decide ((((k1 : Nat) : Int) : Int) < ((a0.length : Nat) : Int))) then
      (spread_Wrong_1 (a0.getD k1 0)).bind fun r4 =>
      bif r4 then
        some ((k1 : Nat) : Int)
      else
        slices_IndexFunc_int_spread_Wrong_1_l1 a0 n1 (k1 + 1)
    else
      some (-1)

def slices_IndexFunc_int_spread_Wrong_1 (a0 : (List Int)) : Option (Int) :=
  slices_IndexFunc_int_spread_Wrong_1_l1 a0 FUEL 0


/- slices.ContainsFunc(()int,int) -/
def slices_ContainsFunc_int_spread_Wrong_1 (a0 : (List Int)) : Option (Bool) :=
  (slices_IndexFunc_int_spread_Wrong_1 a0).bind fun r1 =>
  some (decide ((r1 : Int) ≥ 0))


/- corebell/spread.Wrong -/
def spread_Wrong (a0 : (List Int)) (a1 : Int) : Option (Int) :=
  (bif (!(((decide ((a1 : Int) < 1)) || (decide ((a1 : Int) > 8))) || (decide ((((a0.length : Nat) : Int) : Int) > 400)))) then slices_ContainsFunc_int_spread_Wrong_1 a0 else some false).bind fun r6 =>
  bif ((((decide ((a1 : Int) < 1)) || (decide ((a1 : Int) > 8))) || (decide ((((a0.length : Nat) : Int) : Int) > 400))) || r6) then
    some 2
  else
    some 0


/- corebell/spread.inOrder -/
def spread_inOrder_l1 (a0 : Int) : Nat → Nat → List Int → Option ((List Int))
  | 0, _, _ => none
  | n1 + 1, k2, l3 =>
    bif (decide ((((k2 : Nat) : Int) : Int) < (((Int.toNat a0) : Nat) : Int))) then
      if 0 ≤ (((k2 : Nat) : Int) : Int) ∧ ((k2 : Nat) : Int) < ((l3.length : Nat) : Int) then
      spread_inOrder_l1 a0 n1 (k2 + 1) (l3.set (0 + k2) ((k2 : Nat) : Int))
      else none
    else
      some l3

def spread_inOrder (a0 : Int) : Option ((List Int)) :=
  if 0 ≤ (a0 : Int) ∧ (Int.toNat a0) * 8 ≤ 140737488355328 ∧ (Int.toNat a0) ≤ 140737488355328 then
  spread_inOrder_l1 a0 FUEL 0 (List.replicate (Int.toNat a0) (0 : Int))
  else none


/- slices.Min(()int,int) -/
def slices_Min_int_l1 (a0 : (List Int)) : Nat → Int → Int → Option (Int)
  | 0, _, _ => none
  | n1 + 1, x3, x4 =>
    bif (decide ((x4 : Int) < ((a0.length : Nat) : Int))) then
      if 0 ≤ (x4 : Int) ∧ x4 < ((a0.length : Nat) : Int) then
      slices_Min_int_l1 a0 n1 (if ((a0.getD (Int.toNat x4) 0) : Int) < x3 then (a0.getD (Int.toNat x4) 0) else x3) (IntKind.i64.wrap (x4 + 1))
      else none
    else
      some x3

def slices_Min_int (a0 : (List Int)) : Option (Int) :=
  bif (decide ((((a0.length : Nat) : Int) : Int) < 1)) then
    none
  else
    if 0 ≤ (0 : Int) ∧ 0 < ((a0.length : Nat) : Int) then
    slices_Min_int_l1 a0 FUEL (a0.getD 0 0) 1
    else none


/- slices.Index(()int,int) -/
def slices_Index_int_l1 (a0 : (List Int)) (a1 : Int) : Nat → Nat → Option (Int)
  | 0, _ => none
  | n1 + 1, k1 =>
    bif (decide ((((k1 : Nat) : Int) : Int) < ((a0.length : Nat) : Int))) then
      bif ((a1 : Int) == (a0.getD k1 0)) then
        some ((k1 : Nat) : Int)
      else
        slices_Index_int_l1 a0 a1 n1 (k1 + 1)
    else
      some (-1)

def slices_Index_int (a0 : (List Int)) (a1 : Int) : Option (Int) :=
  slices_Index_int_l1 a0 a1 FUEL 0


/- corebell/spread.idle -/
def spread_idle (a0 : (List Int)) : Option (Int) :=
  (slices_Min_int a0).bind fun r1 =>
  (slices_Index_int a0 r1).bind fun r3 =>
  some r3


/- corebell/spread.plan -/
def spread_plan_l1 (a0 : (List Int)) (a1 : Int) (a2 : (List Int)) : Nat → Nat → Int → List Int → List Int → Option (Api_Plan)
  | 0, _, _, _, _ => none
  | n1 + 1, k3, x4, l5, l6 =>
    bif (decide ((((k3 : Nat) : Int) : Int) < ((a2.length : Nat) : Int))) then
      (spread_idle l6).bind fun r9 =>
      if 0 ≤ ((a2.getD k3 0) : Int) ∧ (a2.getD k3 0) < ((l5.length : Nat) : Int) then
      if 0 ≤ (r9 : Int) ∧ r9 < ((l6.length : Nat) : Int) then
      if 0 ≤ ((a2.getD k3 0) : Int) ∧ (a2.getD k3 0) < ((a0.length : Nat) : Int) then
      if 0 ≤ (r9 : Int) ∧ r9 < ((l6.length : Nat) : Int) then
      if 0 ≤ (r9 : Int) ∧ r9 < ((l6.length : Nat) : Int) then
      spread_plan_l1 a0 a1 a2 n1 (k3 + 1) (if (((l6.set (0 + (Int.toNat r9)) (IntKind.i64.wrap ((l6.getD (0 + (Int.toNat r9)) 0) + (a0.getD (Int.toNat (a2.getD k3 0)) 0)))).getD (0 + (Int.toNat r9)) 0) : Int) > x4 then ((l6.set (0 + (Int.toNat r9)) (IntKind.i64.wrap ((l6.getD (0 + (Int.toNat r9)) 0) + (a0.getD (Int.toNat (a2.getD k3 0)) 0)))).getD (0 + (Int.toNat r9)) 0) else x4) (l5.set (0 + (Int.toNat (a2.getD k3 0))) r9) (l6.set (0 + (Int.toNat r9)) (IntKind.i64.wrap ((l6.getD (0 + (Int.toNat r9)) 0) + (a0.getD (Int.toNat (a2.getD k3 0)) 0))))
      else none
      else none
      else none
      else none
      else none
    else
      some (⟨l5, x4⟩ : Api_Plan)

def spread_plan (a0 : (List Int)) (a1 : Int) (a2 : (List Int)) : Option (Api_Plan) :=
  if 0 ≤ (((a0.length : Nat) : Int) : Int) ∧ a0.length * 8 ≤ 140737488355328 ∧ a0.length ≤ 140737488355328 then
  if 0 ≤ (a1 : Int) ∧ (Int.toNat a1) * 8 ≤ 140737488355328 ∧ (Int.toNat a1) ≤ 140737488355328 then
  spread_plan_l1 a0 a1 a2 FUEL 0 0 (List.replicate a0.length (0 : Int)) (List.replicate (Int.toNat a1) (0 : Int))
  else none
  else none


/- corebell/spread.List -/
def spread_List (a0 : (List Int)) (a1 : Int) : Option (Api_Plan × Int) :=
  (spread_Wrong a0 a1).bind fun r1 =>
  bif ((r1 : Int) != 0) then
    some ((⟨([] : List Int), 0⟩ : Api_Plan), r1)
  else
    (spread_inOrder ((a0.length : Nat) : Int)).bind fun r4 =>
    (spread_plan a0 a1 r4).bind fun r6 =>
    some (r6, 0)


/- slices.SortStableFunc, of pieces by size -/
def slices_SortStable_spread (a0 a1 : List Int) : Option (List Int) :=
  if (∀ x ∈ a0, 0 ≤ x ∧ x < a1.length) ∧ (∀ w ∈ a1, 0 ≤ w ∧ w ≤ 1099511627776) ∧ a0.length < 1000000000 then some (Go.Sp.stabF a1 a0) else none

/- corebell/spread.Longest -/
def spread_Longest (a0 : (List Int)) (a1 : Int) : Option (Api_Plan × Int) :=
  (spread_Wrong a0 a1).bind fun r1 =>
  bif ((r1 : Int) != 0) then
    some ((⟨([] : List Int), 0⟩ : Api_Plan), r1)
  else
    (spread_inOrder ((a0.length : Nat) : Int)).bind fun r4 =>
    (slices_SortStable_spread r4 a0).bind fun r6 =>
    if r6.length = r4.length then
    (spread_plan a0 a1 r6).bind fun r9 =>
    some (r9, 0)
    else none


/- spread.Best: the search of SpB -/
def spread_Best (a0 : List Int) (a1 : Int) : Option (Int × Int) :=
  if (a1 ≤ 9223372036854775807 ∧ -9223372036854775808 ≤ a1) then some (Go.Sp.bestF a0 a1) else none

/- slices.Equal(()int,int) -/
def slices_Equal_int_l1 (a0 : (List Int)) (a1 : (List Int)) : Nat → Nat → Option (Bool)
  | 0, _ => none
  | n1 + 1, k2 =>
    bif (decide ((((k2 : Nat) : Int) : Int) < ((a0.length : Nat) : Int))) then
      if 0 ≤ (((k2 : Nat) : Int) : Int) ∧ ((k2 : Nat) : Int) < ((a1.length : Nat) : Int) then
      bif (((a0.getD k2 0) : Int) != (a1.getD k2 0)) then
        some false
      else
        slices_Equal_int_l1 a0 a1 n1 (k2 + 1)
      else none
    else
      some true

def slices_Equal_int (a0 : (List Int)) (a1 : (List Int)) : Option (Bool) :=
  bif ((((a0.length : Nat) : Int) : Int) != ((a1.length : Nat) : Int)) then
    some false
  else
    slices_Equal_int_l1 a0 a1 FUEL 0


/- corebell/corebellkeep.alive5 -/
def keep_alive5 : Option (Bool) :=
  (spread_List [2, 3, 4, 5] 2).bind fun r1 =>
  (spread_Longest [2, 3, 4, 5] 2).bind fun r3 =>
  (spread_Best [3, 3, 2, 2, 2] 2).bind fun r5 =>
  (bif ((((r1.2 : Int) == 0) && ((r3.2 : Int) == 0)) && ((r5.2 : Int) == 0)) then slices_Equal_int r1.1.Core [0, 1, 0, 1] else some false).bind fun r12 =>
  some ((((((((r1.2 : Int) == 0) && ((r3.2 : Int) == 0)) && ((r5.2 : Int) == 0)) && r12) && ((r1.1.Most : Int) == 8)) && ((r3.1.Most : Int) == 7)) && ((r5.1 : Int) == 6))


/- corebell/corebellkeep.total -/
def keep_total_l1 (a0 : (List Int)) : Nat → Int → Nat → Option (Int)
  | 0, _, _ => none
  | n1 + 1, x1, k2 =>
    bif (decide ((((k2 : Nat) : Int) : Int) < ((a0.length : Nat) : Int))) then
      keep_total_l1 a0 n1 (IntKind.i64.wrap (x1 + (a0.getD k2 0))) (k2 + 1)
    else
      some x1

def keep_total (a0 : (List Int)) : Option (Int) :=
  keep_total_l1 a0 FUEL 0 0


/- slices.Max(()int,int) -/
def slices_Max_int_l1 (a0 : (List Int)) : Nat → Int → Int → Option (Int)
  | 0, _, _ => none
  | n1 + 1, x3, x4 =>
    bif (decide ((x4 : Int) < ((a0.length : Nat) : Int))) then
      if 0 ≤ (x4 : Int) ∧ x4 < ((a0.length : Nat) : Int) then
      slices_Max_int_l1 a0 n1 (if ((a0.getD (Int.toNat x4) 0) : Int) > x3 then (a0.getD (Int.toNat x4) 0) else x3) (IntKind.i64.wrap (x4 + 1))
      else none
    else
      some x3

def slices_Max_int (a0 : (List Int)) : Option (Int) :=
  bif (decide ((((a0.length : Nat) : Int) : Int) < 1)) then
    none
  else
    if 0 ≤ (0 : Int) ∧ 0 < ((a0.length : Nat) : Int) then
    slices_Max_int_l1 a0 FUEL (a0.getD 0 0) 1
    else none


/- corebell/corebellkeep.SpreadGraham -/
def keep_SpreadGraham (a0 : (List Int)) (a1 : Int) : Option (Bool) :=
  (keep_alive5).bind fun r1 =>
  bif (!r1) then
    some false
  else
    (spread_List a0 a1).bind fun r4 =>
    bif (((r4.2 : Int) != 0) || ((((a0.length : Nat) : Int) : Int) == 0)) then
      (spread_Wrong a0 a1).bind fun r10 =>
      some (((r4.2 : Int) == r10) && ((r4.1.Most : Int) == 0))
    else
      (keep_total a0).bind fun r15 =>
      (slices_Max_int a0).bind fun r17 =>
      bif (decide (((IntKind.i64.wrap (r4.1.Most * a1)) : Int) > (IntKind.i64.wrap (r15 + (IntKind.i64.wrap ((IntKind.i64.wrap (a1 - 1)) * r17)))))) then
        some false
      else
        (spread_Best a0 a1).bind fun r20 =>
        some (((r20.2 : Int) != 0) || (decide (((IntKind.i64.wrap (r4.1.Most * a1)) : Int) ≤ (IntKind.i64.wrap (r20.1 * (IntKind.i64.wrap ((IntKind.i64.wrap (2 * a1)) - 1)))))))


/- corebell/corebellkeep.SpreadThird -/
def keep_SpreadThird (a0 : (List Int)) (a1 : Int) : Option (Bool) :=
  (keep_alive5).bind fun r1 =>
  bif (!r1) then
    some false
  else
    (spread_Longest a0 a1).bind fun r4 =>
    (spread_Best a0 a1).bind fun r6 =>
    some ((((r4.2 : Int) != 0) || ((r6.2 : Int) != 0)) || (decide (((IntKind.i64.wrap ((IntKind.i64.wrap (3 * a1)) * r4.1.Most)) : Int) ≤ (IntKind.i64.wrap (r6.1 * (IntKind.i64.wrap ((IntKind.i64.wrap (4 * a1)) - 1)))))))


/- corebell/corebellkeep.SpreadSums -/
def keep_SpreadSums_l1 (a0 : (List Int)) (a1 : Int) (r12 : Api_Plan × Int) : Nat → Nat → List Int → Option (Bool)
  | 0, _, _ => none
  | n1 + 1, k19, l20 =>
    bif (decide ((((k19 : Nat) : Int) : Int) < ((r12.1.Core.length : Nat) : Int))) then
      bif ((decide (((r12.1.Core.getD (0 + k19) 0) : Int) < 0)) || (decide (((r12.1.Core.getD (0 + k19) 0) : Int) ≥ a1))) then
        some false
      else
        if 0 ≤ ((r12.1.Core.getD (0 + k19) 0) : Int) ∧ (r12.1.Core.getD (0 + k19) 0) < ((l20.length : Nat) : Int) then
        if 0 ≤ (((k19 : Nat) : Int) : Int) ∧ ((k19 : Nat) : Int) < ((a0.length : Nat) : Int) then
        if 0 ≤ ((r12.1.Core.getD (0 + k19) 0) : Int) ∧ (r12.1.Core.getD (0 + k19) 0) < ((l20.length : Nat) : Int) then
        keep_SpreadSums_l1 a0 a1 r12 n1 (k19 + 1) (l20.set (0 + (Int.toNat (r12.1.Core.getD (0 + k19) 0))) (IntKind.i64.wrap ((l20.getD (0 + (Int.toNat (r12.1.Core.getD (0 + k19) 0))) 0) + (a0.getD k19 0))))
        else none
        else none
        else none
    else
      (slices_Max_int l20).bind fun r30 =>
      (bif (!((r30 : Int) != r12.1.Most)) then keep_total l20 else some 0).bind fun r32 =>
      (bif (!((r30 : Int) != r12.1.Most)) then keep_total a0 else some 0).bind fun r34 =>
      bif (((r30 : Int) != r12.1.Most) || ((r32 : Int) != r34)) then
        some false
      else
        bif (decide (((IntKind.i64.wrap ((IntKind.i64.wrap (0 + 1)) + 1)) : Int) < ((2 : Nat) : Int))) then
          if 0 ≤ ((IntKind.i64.wrap ((IntKind.i64.wrap (0 + 1)) + 1)) : Int) ∧ (IntKind.i64.wrap ((IntKind.i64.wrap (0 + 1)) + 1)) < ((2 : Nat) : Int) then
          none
          else none
        else
          some true

def keep_SpreadSums_l3 (a0 : (List Int)) (a1 : Int) (r7 : Api_Plan × Int) (k44 : Nat) (r67 : Api_Plan × Int) : Nat → Nat → Bool → List Int → Option (Bool)
  | 0, _, _, _ => none
  | n3 + 1, k74, b75, l76 =>
    bif (decide ((((k74 : Nat) : Int) : Int) < ((r67.1.Core.length : Nat) : Int))) then
      bif ((decide (((r67.1.Core.getD (0 + k74) 0) : Int) < 0)) || (decide (((r67.1.Core.getD (0 + k74) 0) : Int) ≥ a1))) then
        some false
      else
        if 0 ≤ ((r67.1.Core.getD (0 + k74) 0) : Int) ∧ (r67.1.Core.getD (0 + k74) 0) < ((l76.length : Nat) : Int) then
        if 0 ≤ (((k74 : Nat) : Int) : Int) ∧ ((k74 : Nat) : Int) < ((a0.length : Nat) : Int) then
        if 0 ≤ ((r67.1.Core.getD (0 + k74) 0) : Int) ∧ (r67.1.Core.getD (0 + k74) 0) < ((l76.length : Nat) : Int) then
        keep_SpreadSums_l3 a0 a1 r7 k44 r67 n3 (k74 + 1) (decide ((((k74 : Nat) : Int) : Int) < ((r67.1.Core.length : Nat) : Int))) (l76.set (0 + (Int.toNat (r67.1.Core.getD (0 + k74) 0))) (IntKind.i64.wrap ((l76.getD (0 + (Int.toNat (r67.1.Core.getD (0 + k74) 0))) 0) + (a0.getD k74 0))))
        else none
        else none
        else none
    else
      (slices_Max_int l76).bind fun r86 =>
      (bif (!((r86 : Int) != r67.1.Most)) then keep_total l76 else some 0).bind fun r88 =>
      (bif (!((r86 : Int) != r67.1.Most)) then keep_total a0 else some 0).bind fun r90 =>
      bif (((r86 : Int) != r67.1.Most) || ((r88 : Int) != r90)) then
        some false
      else
        bif (decide (((IntKind.i64.wrap ((IntKind.i64.wrap (0 + 1)) + 1)) : Int) < ((2 : Nat) : Int))) then
          if 0 ≤ ((IntKind.i64.wrap ((IntKind.i64.wrap (0 + 1)) + 1)) : Int) ∧ (IntKind.i64.wrap ((IntKind.i64.wrap (0 + 1)) + 1)) < ((2 : Nat) : Int) then
          none
          else none
        else
          some true

def keep_SpreadSums_l2 (a0 : (List Int)) (a1 : Int) (r7 : Api_Plan × Int) : Nat → Nat → List Int → Option (Bool)
  | 0, _, _ => none
  | n2 + 1, k44, l45 =>
    bif (decide ((((k44 : Nat) : Int) : Int) < ((r7.1.Core.length : Nat) : Int))) then
      bif ((decide (((r7.1.Core.getD (0 + k44) 0) : Int) < 0)) || (decide (((r7.1.Core.getD (0 + k44) 0) : Int) ≥ a1))) then
        some false
      else
        if 0 ≤ ((r7.1.Core.getD (0 + k44) 0) : Int) ∧ (r7.1.Core.getD (0 + k44) 0) < ((l45.length : Nat) : Int) then
        if 0 ≤ (((k44 : Nat) : Int) : Int) ∧ ((k44 : Nat) : Int) < ((a0.length : Nat) : Int) then
        if 0 ≤ ((r7.1.Core.getD (0 + k44) 0) : Int) ∧ (r7.1.Core.getD (0 + k44) 0) < ((l45.length : Nat) : Int) then
        keep_SpreadSums_l2 a0 a1 r7 n2 (k44 + 1) (l45.set (0 + (Int.toNat (r7.1.Core.getD (0 + k44) 0))) (IntKind.i64.wrap ((l45.getD (0 + (Int.toNat (r7.1.Core.getD (0 + k44) 0))) 0) + (a0.getD k44 0))))
        else none
        else none
        else none
    else
      (slices_Max_int l45).bind fun r55 =>
      (bif (!((r55 : Int) != r7.1.Most)) then keep_total l45 else some 0).bind fun r57 =>
      (bif (!((r55 : Int) != r7.1.Most)) then keep_total a0 else some 0).bind fun r59 =>
      bif (((r55 : Int) != r7.1.Most) || ((r57 : Int) != r59)) then
        some false
      else
        bif (decide (((IntKind.i64.wrap (0 + 1)) : Int) < ((2 : Nat) : Int))) then
          if 0 ≤ ((IntKind.i64.wrap (0 + 1)) : Int) ∧ (IntKind.i64.wrap (0 + 1)) < ((2 : Nat) : Int) then
          (spread_Longest a0 a1).bind fun r67 =>
          bif ((r67.2 : Int) != 0) then
            bif (decide (((IntKind.i64.wrap ((IntKind.i64.wrap (0 + 1)) + 1)) : Int) < ((2 : Nat) : Int))) then
              if 0 ≤ ((IntKind.i64.wrap ((IntKind.i64.wrap (0 + 1)) + 1)) : Int) ∧ (IntKind.i64.wrap ((IntKind.i64.wrap (0 + 1)) + 1)) < ((2 : Nat) : Int) then
              none
              else none
            else
              some true
          else
            if 0 ≤ (a1 : Int) ∧ (Int.toNat a1) * 8 ≤ 140737488355328 ∧ (Int.toNat a1) ≤ 140737488355328 then
            bif ((((r67.1.Core.length : Nat) : Int) : Int) != ((a0.length : Nat) : Int)) then
              some false
            else
              keep_SpreadSums_l3 a0 a1 r7 k44 r67 FUEL 0 (decide ((((k44 : Nat) : Int) : Int) < ((r7.1.Core.length : Nat) : Int))) (List.replicate (Int.toNat a1) (0 : Int))
            else none
          else none
        else
          some true

def keep_SpreadSums (a0 : (List Int)) (a1 : Int) : Option (Bool) :=
  (keep_alive5).bind fun r1 =>
  bif (!r1) then
    some false
  else
    bif (decide ((0 : Int) < ((2 : Nat) : Int))) then
      (spread_List a0 a1).bind fun r7 =>
      bif ((r7.2 : Int) != 0) then
        bif (decide (((IntKind.i64.wrap (0 + 1)) : Int) < ((2 : Nat) : Int))) then
          if 0 ≤ ((IntKind.i64.wrap (0 + 1)) : Int) ∧ (IntKind.i64.wrap (0 + 1)) < ((2 : Nat) : Int) then
          (spread_Longest a0 a1).bind fun r12 =>
          bif ((r12.2 : Int) != 0) then
            bif (decide (((IntKind.i64.wrap ((IntKind.i64.wrap (0 + 1)) + 1)) : Int) < ((2 : Nat) : Int))) then
              if 0 ≤ ((IntKind.i64.wrap ((IntKind.i64.wrap (0 + 1)) + 1)) : Int) ∧ (IntKind.i64.wrap ((IntKind.i64.wrap (0 + 1)) + 1)) < ((2 : Nat) : Int) then
              none
              else none
            else
              some true
          else
            if 0 ≤ (a1 : Int) ∧ (Int.toNat a1) * 8 ≤ 140737488355328 ∧ (Int.toNat a1) ≤ 140737488355328 then
            bif ((((r12.1.Core.length : Nat) : Int) : Int) != ((a0.length : Nat) : Int)) then
              some false
            else
              keep_SpreadSums_l1 a0 a1 r12 FUEL 0 (List.replicate (Int.toNat a1) (0 : Int))
            else none
          else none
        else
          some true
      else
        if 0 ≤ (a1 : Int) ∧ (Int.toNat a1) * 8 ≤ 140737488355328 ∧ (Int.toNat a1) ≤ 140737488355328 then
        bif ((((r7.1.Core.length : Nat) : Int) : Int) != ((a0.length : Nat) : Int)) then
          some false
        else
          keep_SpreadSums_l2 a0 a1 r7 FUEL 0 (List.replicate (Int.toNat a1) (0 : Int))
        else none
    else
      some true


/- corebell/corebellkeep.SpreadLeast -/
def keep_SpreadLeast (a0 : (List Int)) (a1 : Int) : Option (Bool) :=
  (keep_alive5).bind fun r1 =>
  bif (!r1) then
    some false
  else
    (spread_Best a0 a1).bind fun r4 =>
    bif ((r4.2 : Int) != 0) then
      some ((r4.1 : Int) == 0)
    else
      (spread_List a0 a1).bind fun r7 =>
      (spread_Longest a0 a1).bind fun r9 =>
      (bif (!((decide ((r4.1 : Int) > r7.1.Most)) || (decide ((r4.1 : Int) > r9.1.Most)))) then keep_total a0 else some 0).bind fun r17 =>
      (bif ((!(((decide ((r4.1 : Int) > r7.1.Most)) || (decide ((r4.1 : Int) > r9.1.Most))) || (decide (((IntKind.i64.wrap (r4.1 * a1)) : Int) < r17)))) && (decide ((((a0.length : Nat) : Int) : Int) > 0))) then slices_Max_int a0 else some 0).bind fun r25 =>
      bif ((((decide ((r4.1 : Int) > r7.1.Most)) || (decide ((r4.1 : Int) > r9.1.Most))) || (decide (((IntKind.i64.wrap (r4.1 * a1)) : Int) < r17))) || ((decide ((((a0.length : Nat) : Int) : Int) > 0)) && (decide ((r4.1 : Int) < r25)))) then
        some false
      else
        (spread_Best a0 (IntKind.i64.wrap (a1 + 1))).bind fun r33 =>
        some (((r33.2 : Int) != 0) || (decide ((r33.1 : Int) ≤ r4.1)))


/- slices.Clone(()int,int) -/
def slices_Clone_int (a0 : List Int) : Option (List Int) := if a0.length * 8 ≤ 140737488355328 then some a0 else none

/- slices.Reverse(()int,int) -/
def slices_Reverse_int_h0_l1 (a0 : (List Int)) : Nat → Int → Int → List Int → Option ((List Int))
  | 0, _, _, _ => none
  | n1 + 1, x1, x2, l3 =>
    bif (decide ((x1 : Int) < x2)) then
      if 0 ≤ (x2 : Int) ∧ x2 < ((l3.length : Nat) : Int) then
      if 0 ≤ (x1 : Int) ∧ x1 < ((l3.length : Nat) : Int) then
      if 0 ≤ (x1 : Int) ∧ x1 < ((l3.length : Nat) : Int) then
      if 0 ≤ (x2 : Int) ∧ x2 < ((l3.length : Nat) : Int) then
      slices_Reverse_int_h0_l1 a0 n1 (IntKind.i64.wrap (x1 + 1)) (IntKind.i64.wrap (x2 - 1)) ((l3.set (0 + (Int.toNat x1)) (l3.getD (0 + (Int.toNat x2)) 0)).set (0 + (Int.toNat x2)) (l3.getD (0 + (Int.toNat x1)) 0))
      else none
      else none
      else none
      else none
    else
      some l3

def slices_Reverse_int_h0 (a0 : (List Int)) : Option ((List Int)) :=
  slices_Reverse_int_h0_l1 a0 FUEL 0 (IntKind.i64.wrap (((a0.length : Nat) : Int) - 1)) a0


/- corebell/corebellkeep.SpreadOrder -/
def keep_SpreadOrder (a0 : (List Int)) (a1 : Int) : Option (Bool) :=
  (keep_alive5).bind fun r1 =>
  bif (!r1) then
    some false
  else
    (slices_Clone_int a0).bind fun r4 =>
    (slices_Reverse_int_h0 r4).bind fun r6 =>
    if r6.length = r4.length then
    (spread_Longest a0 a1).bind fun r9 =>
    (spread_Longest r6 a1).bind fun r11 =>
    (spread_Best a0 a1).bind fun r13 =>
    (spread_Best r6 a1).bind fun r15 =>
    some (((((r9.2 : Int) == r11.2) && ((r9.1.Most : Int) == r11.1.Most)) && ((r13.2 : Int) == r15.2)) && ((r13.1 : Int) == r15.1))
    else none


end Go.Proofs.Ytnbjjhhgpcpbgaa
