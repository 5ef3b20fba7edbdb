/- The models of the functions: printed by program. -/
import Derived.Test.YtegafdnfcijemaaAbY
set_option linter.unusedSimpArgs false
set_option linter.unusedVariables false
namespace Go.Proofs.Ytegafdnfcijemaa
open Go Go.Ab

structure Api_Rate where
  Num : Int
  Den : Int
deriving DecidableEq


/- corebell/clock.Extend -/
def clock_Extend_l1 (a0 : (List Int)) : Nat → List Int → Int → Nat → Option ((List Int) × Int)
  | 0, _, _, _ => none
  | n + 1, l1, x2, k3 =>
    bif (decide ((((k3 : Nat) : Int) : Int) < ((a0.length : Nat) : Int))) then
      bif ((decide (((a0.getD k3 0) : Int) < 0)) || (decide (((a0.getD k3 0) : Int) ≥ 65536))) then
        some (([] : List Int), 2)
      else
        bif ((((k3 : Nat) : Int) : Int) == 0) then
          if ((l1).length + ([(a0.getD k3 0)]).length) * 8 ≤ 140737488355328 ∧ (l1).length + ([(a0.getD k3 0)]).length ≤ 140737488355328 then
          clock_Extend_l1 a0 n (l1 ++ [(a0.getD k3 0)]) (a0.getD k3 0) (k3 + 1)
          else none
        else
          if ((l1).length + ([(IntKind.i64.wrap (x2 + (Int.tmod (IntKind.i64.wrap ((IntKind.i64.wrap ((a0.getD k3 0) - (Int.tmod x2 65536))) + 65536)) 65536)))]).length) * 8 ≤ 140737488355328 ∧ (l1).length + ([(IntKind.i64.wrap (x2 + (Int.tmod (IntKind.i64.wrap ((IntKind.i64.wrap ((a0.getD k3 0) - (Int.tmod x2 65536))) + 65536)) 65536)))]).length ≤ 140737488355328 then
          clock_Extend_l1 a0 n (l1 ++ [(IntKind.i64.wrap (x2 + (Int.tmod (IntKind.i64.wrap ((IntKind.i64.wrap ((a0.getD k3 0) - (Int.tmod x2 65536))) + 65536)) 65536)))]) (IntKind.i64.wrap (x2 + (Int.tmod (IntKind.i64.wrap ((IntKind.i64.wrap ((a0.getD k3 0) - (Int.tmod x2 65536))) + 65536)) 65536))) (k3 + 1)
          else none
    else
      some (l1, 0)

def clock_Extend (a0 : (List Int)) : Option ((List Int) × Int) :=
  clock_Extend_l1 a0 FUEL ([] : List Int) 0 0


/- corebell/clock.Wrong -/
def clock_Wrong (a0 : Api_Rate) : Option (Int) :=
  bif ((((decide ((a0.Num : Int) < 1)) || (decide ((a0.Num : Int) > 1048576))) || (decide ((a0.Den : Int) < 1))) || (decide ((a0.Den : Int) > 1048576))) then
    some 2
  else
    some 0


/- corebell/clock.Steps$1 -/
def clock_Steps_1 (a0 : Int) : Option (Bool) :=
  some ((decide ((a0 : Int) < 0)) || (decide ((a0 : Int) > 1073741824)))


/- slices.IndexFunc(()int,int) -/
def slices_IndexFunc_int_clock_Steps_1_l1 (a0 : (List Int)) : Nat → Nat → Option (Int)
  | 0, _ => none
  | n + 1, k1 =>
    bif (decide ((((k1 : Nat) : Int) : Int) < ((a0.length : Nat) : Int))) then
      (clock_Steps_1 (a0.getD k1 0)).bind fun r4 =>
      bif r4 then
        some ((k1 : Nat) : Int)
      else
        slices_IndexFunc_int_clock_Steps_1_l1 a0 n (k1 + 1)
    else
      some (-1)

def slices_IndexFunc_int_clock_Steps_1 (a0 : (List Int)) : Option (Int) :=
  slices_IndexFunc_int_clock_Steps_1_l1 a0 FUEL 0


/- slices.ContainsFunc(()int,int) -/
def slices_ContainsFunc_int_clock_Steps_1 (a0 : (List Int)) : Option (Bool) :=
  (slices_IndexFunc_int_clock_Steps_1 a0).bind fun r1 =>
  some (decide ((r1 : Int) ≥ 0))


/- corebell/clock.Steps -/
def clock_Steps_l1 (a0 : Api_Rate) (a1 : (List Int)) (r1 : Int) (r4 : Bool) : Nat → List Int → Int → Nat → Option ((List Int) × Int)
  | 0, _, _, _ => none
  | n + 1, l8, x9, k10 =>
    bif (decide ((((k10 : Nat) : Int) : Int) < ((a1.length : Nat) : Int))) then
      if (a0.Den : Int) ≠ 0 then
      if ((l8).length + ([(IntKind.i64.wrap (Int.tdiv (IntKind.i64.wrap ((IntKind.i64.wrap ((a1.getD k10 0) * a0.Num)) + x9)) a0.Den))]).length) * 8 ≤ 140737488355328 ∧ (l8).length + ([(IntKind.i64.wrap (Int.tdiv (IntKind.i64.wrap ((IntKind.i64.wrap ((a1.getD k10 0) * a0.Num)) + x9)) a0.Den))]).length ≤ 140737488355328 then
      if (a0.Den : Int) ≠ 0 then
      clock_Steps_l1 a0 a1 r1 r4 n (l8 ++ [(IntKind.i64.wrap (Int.tdiv (IntKind.i64.wrap ((IntKind.i64.wrap ((a1.getD k10 0) * a0.Num)) + x9)) a0.Den))]) (Int.tmod (IntKind.i64.wrap ((IntKind.i64.wrap ((a1.getD k10 0) * a0.Num)) + x9)) a0.Den) (k10 + 1)
      else none
      else none
      else none
    else
      some (l8, 0)

def clock_Steps (a0 : Api_Rate) (a1 : (List Int)) : Option ((List Int) × Int) :=
  (clock_Wrong (⟨a0.Num, a0.Den⟩ : Api_Rate)).bind fun r1 =>
  bif ((r1 : Int) != 0) then
    some (([] : List Int), r1)
  else
    (bif (!(decide ((((a1.length : Nat) : Int) : Int) > 400))) then slices_ContainsFunc_int_clock_Steps_1 a1 else some false).bind fun r4 =>
    bif ((decide ((((a1.length : Nat) : Int) : Int) > 400)) || r4) then
      some (([] : List Int), 2)
    else
      clock_Steps_l1 a0 a1 r1 r4 FUEL ([] : List Int) 0 0


/- corebell/clock.Ticks -/
def clock_Ticks (a0 : Api_Rate) (a1 : Int) : Option (Int × Int) :=
  (clock_Wrong (⟨a0.Num, a0.Den⟩ : Api_Rate)).bind fun r1 =>
  bif ((((r1 : Int) != 0) || (decide ((a1 : Int) < 0))) || (decide ((a1 : Int) > 1099511627776))) then
    some (0, 2)
  else
    if (a0.Num : Int) ≠ 0 then
    if (a0.Num : Int) ≠ 0 then
    if (a0.Num : Int) ≠ 0 then
    some ((IntKind.i64.wrap ((IntKind.i64.wrap ((IntKind.i64.wrap (Int.tdiv a1 a0.Num)) * a0.Den)) + (IntKind.i64.wrap (Int.tdiv (IntKind.i64.wrap ((IntKind.i64.wrap ((IntKind.i64.wrap ((Int.tmod a1 a0.Num) * a0.Den)) + a0.Num)) - 1)) a0.Num)))), 0)
    else none
    else none
    else none


/- slices.Equal(()int,int) -/
def slices_Equal_int_l1 (a0 : (List Int)) (a1 : (List Int)) : Nat → Nat → Option (Bool)
  | 0, _ => none
  | n + 1, k2 =>
    bif (decide ((((k2 : Nat) : Int) : Int) < ((a0.length : Nat) : Int))) then
      if 0 ≤ (((k2 : Nat) : Int) : Int) ∧ ((k2 : Nat) : Int) < ((a1.length : Nat) : Int) then
      bif (((a0.getD k2 0) : Int) != (a1.getD k2 0)) then
        some false
      else
        slices_Equal_int_l1 a0 a1 n (k2 + 1)
      else none
    else
      some true

def slices_Equal_int (a0 : (List Int)) (a1 : (List Int)) : Option (Bool) :=
  bif ((((a0.length : Nat) : Int) : Int) != ((a1.length : Nat) : Int)) then
    some false
  else
    slices_Equal_int_l1 a0 a1 FUEL 0


/- corebell/corebellkeep.alive23 -/
def keep_alive23 : Option (Bool) :=
  (clock_Extend [65530, 65535, 4, 4]).bind fun r1 =>
  (clock_Steps (⟨2, 3⟩ : Api_Rate) [1, 1, 1, 4]).bind fun r3 =>
  (clock_Ticks (⟨2, 3⟩ : Api_Rate) 3).bind fun r5 =>
  (bif ((((r1.2 : Int) == 0) && ((r3.2 : Int) == 0)) && ((r5.2 : Int) == 0)) then slices_Equal_int r1.1 [65530, 65535, 65540, 65540] else some false).bind fun r11 =>
  (bif (((((r1.2 : Int) == 0) && ((r3.2 : Int) == 0)) && ((r5.2 : Int) == 0)) && r11) then slices_Equal_int r3.1 [0, 1, 1, 2] else some false).bind fun r14 =>
  some (((((((r1.2 : Int) == 0) && ((r3.2 : Int) == 0)) && ((r5.2 : Int) == 0)) && r11) && r14) && ((r5.1 : Int) == 5))


/- corebell/corebellkeep.ClockAgain -/
def keep_ClockAgain_l2 (a0 : (List Int)) (r1 : Bool) (l4 : List Int) (k5 : Nat) (r9 : (List Int) × Int) (r11 : (List Int) × Int) : Nat → Nat → Option (Bool)
  | 0, _ => none
  | n + 1, k28 =>
    bif (decide ((((k28 : Nat) : Int) : Int) < ((r9.1.length : Nat) : Int))) then
      if 0 ≤ (((k28 : Nat) : Int) : Int) ∧ ((k28 : Nat) : Int) < ((a0.length : Nat) : Int) then
      if ((!(((Int.tmod (r9.1.getD (0 + k28) 0) 65536) : Int) != (a0.getD k28 0))) = true → (0 ≤ ((IntKind.i64.wrap (2 * ((k28 : Nat) : Int))) : Int) ∧ (IntKind.i64.wrap (2 * ((k28 : Nat) : Int))) < ((r11.1.length : Nat) : Int))) then
      if ((!((((Int.tmod (r9.1.getD (0 + k28) 0) 65536) : Int) != (a0.getD k28 0)) || (((r11.1.getD (0 + (Int.toNat (IntKind.i64.wrap (2 * ((k28 : Nat) : Int))))) 0) : Int) != (r9.1.getD (0 + k28) 0)))) = true → (0 ≤ ((IntKind.i64.wrap ((IntKind.i64.wrap (2 * ((k28 : Nat) : Int))) + 1)) : Int) ∧ (IntKind.i64.wrap ((IntKind.i64.wrap (2 * ((k28 : Nat) : Int))) + 1)) < ((r11.1.length : Nat) : Int))) then
      if (((!(((((Int.tmod (r9.1.getD (0 + k28) 0) 65536) : Int) != (a0.getD k28 0)) || (((r11.1.getD (0 + (Int.toNat (IntKind.i64.wrap (2 * ((k28 : Nat) : Int))))) 0) : Int) != (r9.1.getD (0 + k28) 0))) || (((r11.1.getD (0 + (Int.toNat (IntKind.i64.wrap ((IntKind.i64.wrap (2 * ((k28 : Nat) : Int))) + 1)))) 0) : Int) != (r9.1.getD (0 + k28) 0)))) && (decide ((((k28 : Nat) : Int) : Int) > 0))) = true → (0 ≤ ((IntKind.i64.wrap (((k28 : Nat) : Int) - 1)) : Int) ∧ (IntKind.i64.wrap (((k28 : Nat) : Int) - 1)) < ((r9.1.length : Nat) : Int))) then
      if ((((!(((((Int.tmod (r9.1.getD (0 + k28) 0) 65536) : Int) != (a0.getD k28 0)) || (((r11.1.getD (0 + (Int.toNat (IntKind.i64.wrap (2 * ((k28 : Nat) : Int))))) 0) : Int) != (r9.1.getD (0 + k28) 0))) || (((r11.1.getD (0 + (Int.toNat (IntKind.i64.wrap ((IntKind.i64.wrap (2 * ((k28 : Nat) : Int))) + 1)))) 0) : Int) != (r9.1.getD (0 + k28) 0)))) && (decide ((((k28 : Nat) : Int) : Int) > 0))) && !(decide (((r9.1.getD (0 + k28) 0) : Int) < (r9.1.getD (0 + (Int.toNat (IntKind.i64.wrap (((k28 : Nat) : Int) - 1)))) 0)))) = true → (0 ≤ ((IntKind.i64.wrap (((k28 : Nat) : Int) - 1)) : Int) ∧ (IntKind.i64.wrap (((k28 : Nat) : Int) - 1)) < ((r9.1.length : Nat) : Int))) then
      bif ((((((Int.tmod (r9.1.getD (0 + k28) 0) 65536) : Int) != (a0.getD k28 0)) || (((r11.1.getD (0 + (Int.toNat (IntKind.i64.wrap (2 * ((k28 : Nat) : Int))))) 0) : Int) != (r9.1.getD (0 + k28) 0))) || (((r11.1.getD (0 + (Int.toNat (IntKind.i64.wrap ((IntKind.i64.wrap (2 * ((k28 : Nat) : Int))) + 1)))) 0) : Int) != (r9.1.getD (0 + k28) 0))) || ((decide ((((k28 : Nat) : Int) : Int) > 0)) && ((decide (((r9.1.getD (0 + k28) 0) : Int) < (r9.1.getD (0 + (Int.toNat (IntKind.i64.wrap (((k28 : Nat) : Int) - 1)))) 0))) || (decide (((IntKind.i64.wrap ((r9.1.getD (0 + k28) 0) - (r9.1.getD (0 + (Int.toNat (IntKind.i64.wrap (((k28 : Nat) : Int) - 1)))) 0))) : Int) > 65535))))) then
        some false
      else
        keep_ClockAgain_l2 a0 r1 l4 k5 r9 r11 n (k28 + 1)
      else none
      else none
      else none
      else none
      else none
    else
      some true

def keep_ClockAgain_l1 (a0 : (List Int)) (r1 : Bool) : Nat → List Int → Nat → Option (Bool)
  | 0, _, _ => none
  | n + 1, l4, k5 =>
    bif (decide ((((k5 : Nat) : Int) : Int) < ((a0.length : Nat) : Int))) then
      if ((l4).length + ([(a0.getD k5 0), (a0.getD k5 0)]).length) * 8 ≤ 140737488355328 ∧ (l4).length + ([(a0.getD k5 0), (a0.getD k5 0)]).length ≤ 140737488355328 then
      keep_ClockAgain_l1 a0 r1 n (l4 ++ [(a0.getD k5 0), (a0.getD k5 0)]) (k5 + 1)
      else none
    else
      (clock_Extend a0).bind fun r9 =>
      (clock_Extend l4).bind fun r11 =>
      bif ((r9.2 : Int) != 0) then
        some (((r11.2 : Int) == r9.2) && ((((r9.1.length : Nat) : Int) : Int) == 0))
      else
        bif ((((r11.2 : Int) != 0) || ((((r9.1.length : Nat) : Int) : Int) != ((a0.length : Nat) : Int))) || ((((r11.1.length : Nat) : Int) : Int) != ((l4.length : Nat) : Int))) then
          some false
        else
          keep_ClockAgain_l2 a0 r1 l4 k5 r9 r11 FUEL 0

def keep_ClockAgain (a0 : (List Int)) : Option (Bool) :=
  (keep_alive23).bind fun r1 =>
  bif (!r1) then
    some false
  else
    keep_ClockAgain_l1 a0 r1 FUEL ([] : List Int) 0


end Go.Proofs.Ytegafdnfcijemaa
