/- The models of the functions: printed by program. -/
import Derived.Test.YtegafdnfcijemaaAbY
set_option linter.unusedSimpArgs false
set_option linter.unusedVariables false
namespace Go.Proofs.Ytegafdnfcijemaa
open Go Go.Ab

structure Api_Frame where
  On : Bool
  Irq : Bool
deriving DecidableEq

structure Api_Core where
  On : Bool
  Kept : (List Api_Frame)
deriving DecidableEq

structure Api_Rate where
  Num : Int
  Den : Int
deriving DecidableEq

def Ok_Api_Frame (x : Api_Frame) : Prop := True ∧ True
def Ok_Api_Core (x : Api_Core) : Prop := True ∧ (x.Kept.length * 2 ≤ 140737488351232 ∧ ∀ y ∈ x.Kept, (Ok_Api_Frame y))
def Ok_Api_Rate (x : Api_Rate) : Prop := (-9223372036854775808 ≤ x.Num ∧ x.Num ≤ 9223372036854775807) ∧ (-9223372036854775808 ≤ x.Den ∧ x.Den ≤ 9223372036854775807)

/- corebell/nest.Right -/
def nest_Right_l1 (a0 : Api_Core) : Nat → Bool → Nat → Option (Bool)
  | 0, _, _ => none
  | n + 1, b2, k3 =>
    bif (decide ((((k3 : Nat) : Int) : Int) < ((a0.Kept.length : Nat) : Int))) then
      bif ((((a0.Kept.getD k3 (⟨false, false⟩ : Api_Frame)).On) && (!b2)) || (((a0.Kept.getD k3 (⟨false, false⟩ : Api_Frame)).Irq) && (!((a0.Kept.getD k3 (⟨false, false⟩ : Api_Frame)).On)))) then
        some false
      else
        nest_Right_l1 a0 n false (k3 + 1)
    else
      some ((!a0.On) || b2)

def nest_Right (a0 : Api_Core) : Option (Bool) :=
  bif (decide ((((a0.Kept.length : Nat) : Int) : Int) > 400)) then
    some false
  else
    nest_Right_l1 a0 FUEL true 0


/- slices.Clone(()corebell/api.Frame,corebell/api.Frame) -/
def slices_Clone_api_Frame (a0 : List Api_Frame) : Option (List Api_Frame) := if a0.length * 2 ≤ 140737488355328 then some a0 else none

/- corebell/nest.Step -/
def nest_Step (a0 : Api_Core) (a1 : Int) : Option (Api_Core × Int) :=
  (nest_Right (⟨a0.On, a0.Kept⟩ : Api_Core)).bind fun r1 =>
  bif (!r1) then
    some ((⟨false, ([] : List Api_Frame)⟩ : Api_Core), 1)
  else
    bif ((decide ((a1 : Int) < 1)) || (decide ((a1 : Int) > 4))) then
      some ((⟨false, ([] : List Api_Frame)⟩ : Api_Core), 5)
    else
      bif ((((a1 : Int) == 1) || ((a1 : Int) == 3)) && ((((a0.Kept.length : Nat) : Int) : Int) == 400)) then
        some ((⟨false, ([] : List Api_Frame)⟩ : Api_Core), 4)
      else
        bif (((a1 : Int) == 3) && (!a0.On)) then
          some ((⟨false, ([] : List Api_Frame)⟩ : Api_Core), 7)
        else
          bif ((((a1 : Int) == 2) || ((a1 : Int) == 4)) && ((((a0.Kept.length : Nat) : Int) : Int) == 0)) then
            some ((⟨false, ([] : List Api_Frame)⟩ : Api_Core), 3)
          else
            if ((((a1 : Int) == 2) || ((a1 : Int) == 4)) = true → (0 ≤ ((IntKind.i64.wrap (((a0.Kept.length : Nat) : Int) - 1)) : Int) ∧ (IntKind.i64.wrap (((a0.Kept.length : Nat) : Int) - 1)) < ((a0.Kept.length : Nat) : Int))) then
            bif ((((a1 : Int) == 2) || ((a1 : Int) == 4)) && (((a0.Kept.getD (Int.toNat (IntKind.i64.wrap (((a0.Kept.length : Nat) : Int) - 1))) (⟨false, false⟩ : Api_Frame)).Irq) != ((a1 : Int) == 4))) then
              some ((⟨false, ([] : List Api_Frame)⟩ : Api_Core), 8)
            else
              bif (((a1 : Int) == 1) || ((a1 : Int) == 3)) then
                (slices_Clone_api_Frame a0.Kept).bind fun r38 =>
                if ((r38).length + ([(⟨a0.On, ((a1 : Int) == 3)⟩ : Api_Frame)]).length) * 2 ≤ 140737488355328 ∧ (r38).length + ([(⟨a0.On, ((a1 : Int) == 3)⟩ : Api_Frame)]).length ≤ 140737488355328 then
                some ((⟨false, (r38 ++ [(⟨a0.On, ((a1 : Int) == 3)⟩ : Api_Frame)])⟩ : Api_Core), 0)
                else none
              else
                if 0 ≤ ((IntKind.i64.wrap (((a0.Kept.length : Nat) : Int) - 1)) : Int) ∧ (IntKind.i64.wrap (((a0.Kept.length : Nat) : Int) - 1)) < ((a0.Kept.length : Nat) : Int) then
                if 0 ≤ ((IntKind.i64.wrap (((a0.Kept.length : Nat) : Int) - 1)) : Int) then
                if (Int.toNat (IntKind.i64.wrap (((a0.Kept.length : Nat) : Int) - 1))) ≤ a0.Kept.length then
                (slices_Clone_api_Frame ((a0.Kept.drop 0).take ((Int.toNat (IntKind.i64.wrap (((a0.Kept.length : Nat) : Int) - 1))) - 0))).bind fun r44 =>
                some ((⟨(a0.Kept.getD (Int.toNat (IntKind.i64.wrap (((a0.Kept.length : Nat) : Int) - 1))) (⟨false, false⟩ : Api_Frame)).On, r44⟩ : Api_Core), 0)
                else none
                else none
                else none
            else none


/- corebell/nest.Play -/
def nest_Play_l1 (a0 : (List Int)) : Nat → List Int → Nat → Bool → List Api_Frame → Option ((List Int) × Api_Core)
  | 0, _, _, _, _ => none
  | n + 1, l1, k2, b3, l4 =>
    bif (decide ((((k2 : Nat) : Int) : Int) < ((a0.length : Nat) : Int))) then
      (nest_Step (⟨b3, l4⟩ : Api_Core) (a0.getD k2 0)).bind fun r7 =>
      bif ((r7.2 : Int) == 0) then
        if ((l1).length + ([r7.2]).length) * 8 ≤ 140737488355328 ∧ (l1).length + ([r7.2]).length ≤ 140737488355328 then
        nest_Play_l1 a0 n (l1 ++ [r7.2]) (k2 + 1) r7.1.On r7.1.Kept
        else none
      else
        if ((l1).length + ([r7.2]).length) * 8 ≤ 140737488355328 ∧ (l1).length + ([r7.2]).length ≤ 140737488355328 then
        nest_Play_l1 a0 n (l1 ++ [r7.2]) (k2 + 1) b3 l4
        else none
    else
      some (l1, (⟨b3, l4⟩ : Api_Core))

def nest_Play (a0 : (List Int)) : Option ((List Int) × Api_Core) :=
  nest_Play_l1 a0 FUEL ([] : List Int) 0 true ([] : List Api_Frame)


/- slices.Equal(()corebell/api.Errno,corebell/api.Errno) -/
def slices_Equal_api_Errno_l1 (a0 : (List Int)) (a1 : (List Int)) : Nat → Nat → Option (Bool)
  | 0, _ => none
  | n + 1, k2 =>
    bif (decide ((((k2 : Nat) : Int) : Int) < ((a0.length : Nat) : Int))) then
      if 0 ≤ (((k2 : Nat) : Int) : Int) ∧ ((k2 : Nat) : Int) < ((a1.length : Nat) : Int) then
      bif (((a0.getD k2 0) : Int) != (a1.getD k2 0)) then
        some false
      else
        slices_Equal_api_Errno_l1 a0 a1 n (k2 + 1)
      else none
    else
      some true

def slices_Equal_api_Errno (a0 : (List Int)) (a1 : (List Int)) : Option (Bool) :=
  bif ((((a0.length : Nat) : Int) : Int) != ((a1.length : Nat) : Int)) then
    some false
  else
    slices_Equal_api_Errno_l1 a0 a1 FUEL 0


/- corebell/corebellref.SameCore -/
def ref_SameCore_l1 (a0 : Api_Core) (a1 : Api_Core) : Nat → Nat → Option (Bool)
  | 0, _ => none
  | n + 1, k9 =>
    bif (decide ((((k9 : Nat) : Int) : Int) < ((a0.Kept.length : Nat) : Int))) then
      if 0 ≤ (((k9 : Nat) : Int) : Int) ∧ ((k9 : Nat) : Int) < ((a1.Kept.length : Nat) : Int) then
      bif (!((((a0.Kept.getD k9 (⟨false, false⟩ : Api_Frame)).On) == ((a1.Kept.getD k9 (⟨false, false⟩ : Api_Frame)).On)) && ((((a0.Kept.getD k9 (⟨false, false⟩ : Api_Frame)).Irq) == ((a1.Kept.getD k9 (⟨false, false⟩ : Api_Frame)).Irq)) && true))) then
        some false
      else
        ref_SameCore_l1 a0 a1 n (k9 + 1)
      else none
    else
      some true

def ref_SameCore (a0 : Api_Core) (a1 : Api_Core) : Option (Bool) :=
  bif ((a0.On != a1.On) || ((((a0.Kept.length : Nat) : Int) : Int) != ((a1.Kept.length : Nat) : Int))) then
    some false
  else
    ref_SameCore_l1 a0 a1 FUEL 0


/- corebell/corebellkeep.alive7 -/
def keep_alive7 : Option (Bool) :=
  (nest_Play [3, 1, 3, 4, 2, 4]).bind fun r1 =>
  (slices_Equal_api_Errno r1.1 [0, 0, 7, 8, 0, 0]).bind fun r3 =>
  (bif r3 then ref_SameCore (⟨r1.2.On, r1.2.Kept⟩ : Api_Core) (⟨true, ([] : List Api_Frame)⟩ : Api_Core) else some false).bind fun r5 =>
  some (r3 && r5)


/- corebell/corebellkeep.NestBack -/
def keep_NestBack_l1 (a0 : Api_Core) (r1 : Bool) : Nat → Nat → Option (Bool)
  | 0, _ => none
  | n + 1, k4 =>
    bif (decide ((((k4 : Nat) : Int) : Int) < ((2 : Nat) : Int))) then
      if 0 ≤ (((k4 : Nat) : Int) : Int) ∧ ((k4 : Nat) : Int) < (([[1, 2], [3, 4]].length : Nat) : Int) then
      (nest_Step (⟨a0.On, a0.Kept⟩ : Api_Core) (([[1, 2], [3, 4]].getD (0 + k4) [0, 0]).getD 0 0)).bind fun r8 =>
      bif ((r8.2 : Int) != 0) then
        keep_NestBack_l1 a0 r1 n (k4 + 1)
      else
        (nest_Step (⟨r8.1.On, r8.1.Kept⟩ : Api_Core) (([[1, 2], [3, 4]].getD (0 + k4) [0, 0]).getD 1 0)).bind fun r12 =>
        (bif (!((r12.2 : Int) != 0)) then ref_SameCore (⟨r12.1.On, r12.1.Kept⟩ : Api_Core) (⟨a0.On, a0.Kept⟩ : Api_Core) else some false).bind fun r14 =>
        (bif (!((((r12.2 : Int) != 0) || (!r14)) || r8.1.On)) then nest_Right (⟨r8.1.On, r8.1.Kept⟩ : Api_Core) else some false).bind fun r20 =>
        bif (((((r12.2 : Int) != 0) || (!r14)) || r8.1.On) || (!r20)) then
          some false
        else
          keep_NestBack_l1 a0 r1 n (k4 + 1)
      else none
    else
      some true

def keep_NestBack (a0 : Api_Core) : Option (Bool) :=
  (keep_alive7).bind fun r1 =>
  bif (!r1) then
    some false
  else
    keep_NestBack_l1 a0 r1 FUEL 0


/- corebell/corebellkeep.NestQuiet -/
def keep_NestQuiet_l1 (a0 : (List Int)) (r1 : Bool) (r4 : (List Int) × Api_Core) : Nat → Int → Nat → Option (Bool)
  | 0, _, _ => none
  | n + 1, x7, k8 =>
    bif (decide ((((k8 : Nat) : Int) : Int) < ((a0.length : Nat) : Int))) then
      if 0 ≤ (((k8 : Nat) : Int) : Int) ∧ ((k8 : Nat) : Int) < ((r4.1.length : Nat) : Int) then
      bif (((r4.1.getD (0 + k8) 0) : Int) != 0) then
        keep_NestQuiet_l1 a0 r1 r4 n x7 (k8 + 1)
      else
        bif (((a0.getD k8 0) : Int) == 3) then
          bif (decide ((x7 : Int) > 0)) then
            some false
          else
            keep_NestQuiet_l1 a0 r1 r4 n (IntKind.i64.wrap (x7 + 1)) (k8 + 1)
        else
          bif (((a0.getD k8 0) : Int) == 1) then
            keep_NestQuiet_l1 a0 r1 r4 n (IntKind.i64.wrap (x7 + 1)) (k8 + 1)
          else
            keep_NestQuiet_l1 a0 r1 r4 n (IntKind.i64.wrap (x7 - 1)) (k8 + 1)
      else none
    else
      some (decide ((x7 : Int) ≥ 0))

def keep_NestQuiet (a0 : (List Int)) : Option (Bool) :=
  (keep_alive7).bind fun r1 =>
  bif (!r1) then
    some false
  else
    (nest_Play a0).bind fun r4 =>
    bif ((((r4.1.length : Nat) : Int) : Int) != ((a0.length : Nat) : Int)) then
      some false
    else
      keep_NestQuiet_l1 a0 r1 r4 FUEL 0 0


/- corebell/corebellkeep.NestEven -/
def keep_NestEven_l1 (a0 : (List Int)) (r1 : Bool) (r4 : (List Int) × Api_Core) : Nat → Int → Nat → Option (Bool)
  | 0, _, _ => none
  | n + 1, x6, k7 =>
    bif (decide ((((k7 : Nat) : Int) : Int) < ((a0.length : Nat) : Int))) then
      if ((decide ((((k7 : Nat) : Int) : Int) < ((r4.1.length : Nat) : Int))) = true → (0 ≤ (((k7 : Nat) : Int) : Int) ∧ ((k7 : Nat) : Int) < ((r4.1.length : Nat) : Int))) then
      bif ((decide ((((k7 : Nat) : Int) : Int) < ((r4.1.length : Nat) : Int))) && (((r4.1.getD (0 + k7) 0) : Int) == 0)) then
        bif ((((a0.getD k7 0) : Int) == 1) || (((a0.getD k7 0) : Int) == 3)) then
          keep_NestEven_l1 a0 r1 r4 n (IntKind.i64.wrap (x6 + 1)) (k7 + 1)
        else
          keep_NestEven_l1 a0 r1 r4 n (IntKind.i64.wrap (x6 - 1)) (k7 + 1)
      else
        keep_NestEven_l1 a0 r1 r4 n x6 (k7 + 1)
      else none
    else
      (bif (((((r4.2.Kept.length : Nat) : Int) : Int) == x6) && (r4.2.On == ((x6 : Int) == 0))) then nest_Right (⟨r4.2.On, r4.2.Kept⟩ : Api_Core) else some false).bind fun r24 =>
      some ((((((r4.2.Kept.length : Nat) : Int) : Int) == x6) && (r4.2.On == ((x6 : Int) == 0))) && r24)

def keep_NestEven (a0 : (List Int)) : Option (Bool) :=
  (keep_alive7).bind fun r1 =>
  bif (!r1) then
    some false
  else
    (nest_Play a0).bind fun r4 =>
    keep_NestEven_l1 a0 r1 r4 FUEL 0 0


/- corebell/clock.Extend -/
def clock_Extend_l1 (a0 : (List Int)) : Nat → List Int → Int → Nat → Option ((List Int) × Int)
  | 0, _, _, _ => none
  | n + 1, l1, x2, k3 =>
    bif (decide ((((k3 : Nat) : Int) : Int) < ((a0.length : Nat) : Int))) then
      bif ((decide (((a0.getD k3 0) : Int) < 0)) || (decide (((a0.getD k3 0) : Int) ≥ 65536))) then
        some (([] : List Int), 2)
      else
        bif ((((k3 : Nat) : Int) : Int) == 0) then
          if ((l1).length + ([(a0.getD k3 0)]).length) * 8 ≤ 140737488355328 ∧ (l1).length + ([(a0.getD k3 0)]).length ≤ 140737488355328 then
          clock_Extend_l1 a0 n (l1 ++ [(a0.getD k3 0)]) (a0.getD k3 0) (k3 + 1)
          else none
        else
          if ((l1).length + ([(IntKind.i64.wrap (x2 + (Int.tmod (IntKind.i64.wrap ((IntKind.i64.wrap ((a0.getD k3 0) - (Int.tmod x2 65536))) + 65536)) 65536)))]).length) * 8 ≤ 140737488355328 ∧ (l1).length + ([(IntKind.i64.wrap (x2 + (Int.tmod (IntKind.i64.wrap ((IntKind.i64.wrap ((a0.getD k3 0) - (Int.tmod x2 65536))) + 65536)) 65536)))]).length ≤ 140737488355328 then
          clock_Extend_l1 a0 n (l1 ++ [(IntKind.i64.wrap (x2 + (Int.tmod (IntKind.i64.wrap ((IntKind.i64.wrap ((a0.getD k3 0) - (Int.tmod x2 65536))) + 65536)) 65536)))]) (IntKind.i64.wrap (x2 + (Int.tmod (IntKind.i64.wrap ((IntKind.i64.wrap ((a0.getD k3 0) - (Int.tmod x2 65536))) + 65536)) 65536))) (k3 + 1)
          else none
    else
      some (l1, 0)

def clock_Extend (a0 : (List Int)) : Option ((List Int) × Int) :=
  clock_Extend_l1 a0 FUEL ([] : List Int) 0 0


/- corebell/clock.Wrong -/
def clock_Wrong (a0 : Api_Rate) : Option (Int) :=
  bif ((((decide ((a0.Num : Int) < 1)) || (decide ((a0.Num : Int) > 1048576))) || (decide ((a0.Den : Int) < 1))) || (decide ((a0.Den : Int) > 1048576))) then
    some 2
  else
    some 0


/- corebell/clock.Steps$1 -/
def clock_Steps_1 (a0 : Int) : Option (Bool) :=
  some ((decide ((a0 : Int) < 0)) || (decide ((a0 : Int) > 1073741824)))


/- slices.IndexFunc(()int,int) -/
def slices_IndexFunc_int_clock_Steps_1_l1 (a0 : (List Int)) : Nat → Nat → Option (Int)
  | 0, _ => none
  | n + 1, k1 =>
    bif (decide ((((k1 : Nat) : Int) : Int) < ((a0.length : Nat) : Int))) then
      (clock_Steps_1 (a0.getD k1 0)).bind fun r4 =>
      bif r4 then
        some ((k1 : Nat) : Int)
      else
        slices_IndexFunc_int_clock_Steps_1_l1 a0 n (k1 + 1)
    else
      some (-1)

def slices_IndexFunc_int_clock_Steps_1 (a0 : (List Int)) : Option (Int) :=
  slices_IndexFunc_int_clock_Steps_1_l1 a0 FUEL 0


/- slices.ContainsFunc(()int,int) -/
def slices_ContainsFunc_int_clock_Steps_1 (a0 : (List Int)) : Option (Bool) :=
  (slices_IndexFunc_int_clock_Steps_1 a0).bind fun r1 =>
  some (decide ((r1 : Int) ≥ 0))


/- corebell/clock.Steps -/
def clock_Steps_l1 (a0 : Api_Rate) (a1 : (List Int)) (r1 : Int) (r4 : Bool) : Nat → List Int → Int → Nat → Option ((List Int) × Int)
  | 0, _, _, _ => none
  | n + 1, l8, x9, k10 =>
    bif (decide ((((k10 : Nat) : Int) : Int) < ((a1.length : Nat) : Int))) then
      if (a0.Den : Int) ≠ 0 then
      if ((l8).length + ([(IntKind.i64.wrap (Int.tdiv (IntKind.i64.wrap ((IntKind.i64.wrap ((a1.getD k10 0) * a0.Num)) + x9)) a0.Den))]).length) * 8 ≤ 140737488355328 ∧ (l8).length + ([(IntKind.i64.wrap (Int.tdiv (IntKind.i64.wrap ((IntKind.i64.wrap ((a1.getD k10 0) * a0.Num)) + x9)) a0.Den))]).length ≤ 140737488355328 then
      if (a0.Den : Int) ≠ 0 then
      clock_Steps_l1 a0 a1 r1 r4 n (l8 ++ [(IntKind.i64.wrap (Int.tdiv (IntKind.i64.wrap ((IntKind.i64.wrap ((a1.getD k10 0) * a0.Num)) + x9)) a0.Den))]) (Int.tmod (IntKind.i64.wrap ((IntKind.i64.wrap ((a1.getD k10 0) * a0.Num)) + x9)) a0.Den) (k10 + 1)
      else none
      else none
      else none
    else
      some (l8, 0)

def clock_Steps (a0 : Api_Rate) (a1 : (List Int)) : Option ((List Int) × Int) :=
  (clock_Wrong (⟨a0.Num, a0.Den⟩ : Api_Rate)).bind fun r1 =>
  bif ((r1 : Int) != 0) then
    some (([] : List Int), r1)
  else
    (bif (!(decide ((((a1.length : Nat) : Int) : Int) > 400))) then slices_ContainsFunc_int_clock_Steps_1 a1 else some false).bind fun r4 =>
    bif ((decide ((((a1.length : Nat) : Int) : Int) > 400)) || r4) then
      some (([] : List Int), 2)
    else
      clock_Steps_l1 a0 a1 r1 r4 FUEL ([] : List Int) 0 0


/- corebell/clock.Ticks -/
def clock_Ticks (a0 : Api_Rate) (a1 : Int) : Option (Int × Int) :=
  (clock_Wrong (⟨a0.Num, a0.Den⟩ : Api_Rate)).bind fun r1 =>
  bif ((((r1 : Int) != 0) || (decide ((a1 : Int) < 0))) || (decide ((a1 : Int) > 1099511627776))) then
    some (0, 2)
  else
    if (a0.Num : Int) ≠ 0 then
    if (a0.Num : Int) ≠ 0 then
    if (a0.Num : Int) ≠ 0 then
    some ((IntKind.i64.wrap ((IntKind.i64.wrap ((IntKind.i64.wrap (Int.tdiv a1 a0.Num)) * a0.Den)) + (IntKind.i64.wrap (Int.tdiv (IntKind.i64.wrap ((IntKind.i64.wrap ((IntKind.i64.wrap ((Int.tmod a1 a0.Num) * a0.Den)) + a0.Num)) - 1)) a0.Num)))), 0)
    else none
    else none
    else none


/- slices.Equal(()int,int) -/
def slices_Equal_int_l1 (a0 : (List Int)) (a1 : (List Int)) : Nat → Nat → Option (Bool)
  | 0, _ => none
  | n + 1, k2 =>
    bif (decide ((((k2 : Nat) : Int) : Int) < ((a0.length : Nat) : Int))) then
      if 0 ≤ (((k2 : Nat) : Int) : Int) ∧ ((k2 : Nat) : Int) < ((a1.length : Nat) : Int) then
      bif (((a0.getD k2 0) : Int) != (a1.getD k2 0)) then
        some false
      else
        slices_Equal_int_l1 a0 a1 n (k2 + 1)
      else none
    else
      some true

def slices_Equal_int (a0 : (List Int)) (a1 : (List Int)) : Option (Bool) :=
  bif ((((a0.length : Nat) : Int) : Int) != ((a1.length : Nat) : Int)) then
    some false
  else
    slices_Equal_int_l1 a0 a1 FUEL 0


/- corebell/corebellkeep.alive23 -/
def keep_alive23 : Option (Bool) :=
  (clock_Extend [65530, 65535, 4, 4]).bind fun r1 =>
  (clock_Steps (⟨2, 3⟩ : Api_Rate) [1, 1, 1, 4]).bind fun r3 =>
  (clock_Ticks (⟨2, 3⟩ : Api_Rate) 3).bind fun r5 =>
  (bif ((((r1.2 : Int) == 0) && ((r3.2 : Int) == 0)) && ((r5.2 : Int) == 0)) then slices_Equal_int r1.1 [65530, 65535, 65540, 65540] else some false).bind fun r11 =>
  (bif (((((r1.2 : Int) == 0) && ((r3.2 : Int) == 0)) && ((r5.2 : Int) == 0)) && r11) then slices_Equal_int r3.1 [0, 1, 1, 2] else some false).bind fun r14 =>
  some (((((((r1.2 : Int) == 0) && ((r3.2 : Int) == 0)) && ((r5.2 : Int) == 0)) && r11) && r14) && ((r5.1 : Int) == 5))


/- corebell/corebellkeep.ClockTrue -/
def keep_ClockTrue_l1 (a0 : Int) (a1 : (List Int)) (r1 : Bool) : Nat → Int → List Int → List Int → Nat → Option (Bool)
  | 0, _, _, _, _ => none
  | n + 1, x10, l11, l12, k13 =>
    bif (decide ((((k13 : Nat) : Int) : Int) < ((a1.length : Nat) : Int))) then
      bif ((decide (((a1.getD k13 0) : Int) < 0)) || (decide (((a1.getD k13 0) : Int) > 65535))) then
        some true
      else
        if ((l11).length + ([(Int.tmod (IntKind.i64.wrap (x10 + (a1.getD k13 0))) 65536)]).length) * 8 ≤ 140737488355328 ∧ (l11).length + ([(Int.tmod (IntKind.i64.wrap (x10 + (a1.getD k13 0))) 65536)]).length ≤ 140737488355328 then
        if ((l12).length + ([(IntKind.i64.wrap (x10 + (a1.getD k13 0)))]).length) * 8 ≤ 140737488355328 ∧ (l12).length + ([(IntKind.i64.wrap (x10 + (a1.getD k13 0)))]).length ≤ 140737488355328 then
        keep_ClockTrue_l1 a0 a1 r1 n (IntKind.i64.wrap (x10 + (a1.getD k13 0))) (l11 ++ [(Int.tmod (IntKind.i64.wrap (x10 + (a1.getD k13 0))) 65536)]) (l12 ++ [(IntKind.i64.wrap (x10 + (a1.getD k13 0)))]) (k13 + 1)
        else none
        else none
    else
      (clock_Extend l11).bind fun r22 =>
      (bif ((r22.2 : Int) == 0) then slices_Equal_int r22.1 l12 else some false).bind fun r24 =>
      some (((r22.2 : Int) == 0) && r24)

def keep_ClockTrue (a0 : Int) (a1 : (List Int)) : Option (Bool) :=
  (keep_alive23).bind fun r1 =>
  bif (!r1) then
    some false
  else
    bif (((decide ((a0 : Int) < 0)) || (decide ((a0 : Int) > 65535))) || (decide ((((a1.length : Nat) : Int) : Int) > 1000))) then
      some true
    else
      keep_ClockTrue_l1 a0 a1 r1 FUEL a0 [a0] [a0] 0


/- corebell/corebellkeep.ClockAgain -/
def keep_ClockAgain_l2 (a0 : (List Int)) (r1 : Bool) (l4 : List Int) (k5 : Nat) (r9 : (List Int) × Int) (r11 : (List Int) × Int) : Nat → Nat → Option (Bool)
  | 0, _ => none
  | n + 1, k28 =>
    bif (decide ((((k28 : Nat) : Int) : Int) < ((r9.1.length : Nat) : Int))) then
      if 0 ≤ (((k28 : Nat) : Int) : Int) ∧ ((k28 : Nat) : Int) < ((a0.length : Nat) : Int) then
      if ((!(((Int.tmod (r9.1.getD (0 + k28) 0) 65536) : Int) != (a0.getD k28 0))) = true → (0 ≤ ((IntKind.i64.wrap (2 * ((k28 : Nat) : Int))) : Int) ∧ (IntKind.i64.wrap (2 * ((k28 : Nat) : Int))) < ((r11.1.length : Nat) : Int))) then
      if ((!((((Int.tmod (r9.1.getD (0 + k28) 0) 65536) : Int) != (a0.getD k28 0)) || (((r11.1.getD (0 + (Int.toNat (IntKind.i64.wrap (2 * ((k28 : Nat) : Int))))) 0) : Int) != (r9.1.getD (0 + k28) 0)))) = true → (0 ≤ ((IntKind.i64.wrap ((IntKind.i64.wrap (2 * ((k28 : Nat) : Int))) + 1)) : Int) ∧ (IntKind.i64.wrap ((IntKind.i64.wrap (2 * ((k28 : Nat) : Int))) + 1)) < ((r11.1.length : Nat) : Int))) then
      if (((!(((((Int.tmod (r9.1.getD (0 + k28) 0) 65536) : Int) != (a0.getD k28 0)) || (((r11.1.getD (0 + (Int.toNat (IntKind.i64.wrap (2 * ((k28 : Nat) : Int))))) 0) : Int) != (r9.1.getD (0 + k28) 0))) || (((r11.1.getD (0 + (Int.toNat (IntKind.i64.wrap ((IntKind.i64.wrap (2 * ((k28 : Nat) : Int))) + 1)))) 0) : Int) != (r9.1.getD (0 + k28) 0)))) && (decide ((((k28 : Nat) : Int) : Int) > 0))) = true → (0 ≤ ((IntKind.i64.wrap (((k28 : Nat) : Int) - 1)) : Int) ∧ (IntKind.i64.wrap (((k28 : Nat) : Int) - 1)) < ((r9.1.length : Nat) : Int))) then
      if ((((!(((((Int.tmod (r9.1.getD (0 + k28) 0) 65536) : Int) != (a0.getD k28 0)) || (((r11.1.getD (0 + (Int.toNat (IntKind.i64.wrap (2 * ((k28 : Nat) : Int))))) 0) : Int) != (r9.1.getD (0 + k28) 0))) || (((r11.1.getD (0 + (Int.toNat (IntKind.i64.wrap ((IntKind.i64.wrap (2 * ((k28 : Nat) : Int))) + 1)))) 0) : Int) != (r9.1.getD (0 + k28) 0)))) && (decide ((((k28 : Nat) : Int) : Int) > 0))) && !(decide (((r9.1.getD (0 + k28) 0) : Int) < (r9.1.getD (0 + (Int.toNat (IntKind.i64.wrap (((k28 : Nat) : Int) - 1)))) 0)))) = true → (0 ≤ ((IntKind.i64.wrap (((k28 : Nat) : Int) - 1)) : Int) ∧ (IntKind.i64.wrap (((k28 : Nat) : Int) - 1)) < ((r9.1.length : Nat) : Int))) then
      bif ((((((Int.tmod (r9.1.getD (0 + k28) 0) 65536) : Int) != (a0.getD k28 0)) || (((r11.1.getD (0 + (Int.toNat (IntKind.i64.wrap (2 * ((k28 : Nat) : Int))))) 0) : Int) != (r9.1.getD (0 + k28) 0))) || (((r11.1.getD (0 + (Int.toNat (IntKind.i64.wrap ((IntKind.i64.wrap (2 * ((k28 : Nat) : Int))) + 1)))) 0) : Int) != (r9.1.getD (0 + k28) 0))) || ((decide ((((k28 : Nat) : Int) : Int) > 0)) && ((decide (((r9.1.getD (0 + k28) 0) : Int) < (r9.1.getD (0 + (Int.toNat (IntKind.i64.wrap (((k28 : Nat) : Int) - 1)))) 0))) || (decide (((IntKind.i64.wrap ((r9.1.getD (0 + k28) 0) - (r9.1.getD (0 + (Int.toNat (IntKind.i64.wrap (((k28 : Nat) : Int) - 1)))) 0))) : Int) > 65535))))) then
        some false
      else
        keep_ClockAgain_l2 a0 r1 l4 k5 r9 r11 n (k28 + 1)
      else none
      else none
      else none
      else none
      else none
    else
      some true

def keep_ClockAgain_l1 (a0 : (List Int)) (r1 : Bool) : Nat → List Int → Nat → Option (Bool)
  | 0, _, _ => none
  | n + 1, l4, k5 =>
    bif (decide ((((k5 : Nat) : Int) : Int) < ((a0.length : Nat) : Int))) then
      if ((l4).length + ([(a0.getD k5 0), (a0.getD k5 0)]).length) * 8 ≤ 140737488355328 ∧ (l4).length + ([(a0.getD k5 0), (a0.getD k5 0)]).length ≤ 140737488355328 then
      keep_ClockAgain_l1 a0 r1 n (l4 ++ [(a0.getD k5 0), (a0.getD k5 0)]) (k5 + 1)
      else none
    else
      (clock_Extend a0).bind fun r9 =>
      (clock_Extend l4).bind fun r11 =>
      bif ((r9.2 : Int) != 0) then
        some (((r11.2 : Int) == r9.2) && ((((r9.1.length : Nat) : Int) : Int) == 0))
      else
        bif ((((r11.2 : Int) != 0) || ((((r9.1.length : Nat) : Int) : Int) != ((a0.length : Nat) : Int))) || ((((r11.1.length : Nat) : Int) : Int) != ((l4.length : Nat) : Int))) then
          some false
        else
          keep_ClockAgain_l2 a0 r1 l4 k5 r9 r11 FUEL 0

def keep_ClockAgain (a0 : (List Int)) : Option (Bool) :=
  (keep_alive23).bind fun r1 =>
  bif (!r1) then
    some false
  else
    keep_ClockAgain_l1 a0 r1 FUEL ([] : List Int) 0


/- corebell/clock.Scale -/
def clock_Scale (a0 : Api_Rate) (a1 : Int) : Option (Int × Int) :=
  (clock_Wrong (⟨a0.Num, a0.Den⟩ : Api_Rate)).bind fun r1 =>
  bif ((((r1 : Int) != 0) || (decide ((a1 : Int) < 0))) || (decide ((a1 : Int) > 1099511627776))) then
    some (0, 2)
  else
    if (a0.Den : Int) ≠ 0 then
    if (a0.Den : Int) ≠ 0 then
    if (a0.Den : Int) ≠ 0 then
    some ((IntKind.i64.wrap ((IntKind.i64.wrap ((IntKind.i64.wrap (Int.tdiv a1 a0.Den)) * a0.Num)) + (IntKind.i64.wrap (Int.tdiv (IntKind.i64.wrap ((Int.tmod a1 a0.Den) * a0.Num)) a0.Den)))), 0)
    else none
    else none
    else none


/- corebell/corebellkeep.ClockNothingLost -/
def keep_ClockNothingLost_l1 (a0 : Api_Rate) (a1 : (List Int)) (r1 : Bool) (r4 : (List Int) × Int) : Nat → Int → Int → Nat → Option (Bool)
  | 0, _, _, _ => none
  | n + 1, x7, x8, k9 =>
    bif (decide ((((k9 : Nat) : Int) : Int) < ((a1.length : Nat) : Int))) then
      if ((!(decide ((((k9 : Nat) : Int) : Int) ≥ ((r4.1.length : Nat) : Int)))) = true → (0 ≤ (((k9 : Nat) : Int) : Int) ∧ ((k9 : Nat) : Int) < ((r4.1.length : Nat) : Int))) then
      bif ((decide ((((k9 : Nat) : Int) : Int) ≥ ((r4.1.length : Nat) : Int))) || (decide (((r4.1.getD (0 + k9) 0) : Int) < 0))) then
        some false
      else
        if 0 ≤ (((k9 : Nat) : Int) : Int) ∧ ((k9 : Nat) : Int) < ((r4.1.length : Nat) : Int) then
        (clock_Scale (⟨a0.Num, a0.Den⟩ : Api_Rate) (IntKind.i64.wrap (x7 + (a1.getD k9 0)))).bind fun r19 =>
        bif (((r19.2 : Int) != 0) || ((r19.1 : Int) != (IntKind.i64.wrap (x8 + (r4.1.getD (0 + k9) 0))))) then
          some false
        else
          keep_ClockNothingLost_l1 a0 a1 r1 r4 n (IntKind.i64.wrap (x7 + (a1.getD k9 0))) (IntKind.i64.wrap (x8 + (r4.1.getD (0 + k9) 0))) (k9 + 1)
        else none
      else none
    else
      some ((((r4.1.length : Nat) : Int) : Int) == ((a1.length : Nat) : Int))

def keep_ClockNothingLost (a0 : Api_Rate) (a1 : (List Int)) : Option (Bool) :=
  (keep_alive23).bind fun r1 =>
  bif (!r1) then
    some false
  else
    (clock_Steps (⟨a0.Num, a0.Den⟩ : Api_Rate) a1).bind fun r4 =>
    bif ((r4.2 : Int) != 0) then
      some ((((r4.1.length : Nat) : Int) : Int) == 0)
    else
      keep_ClockNothingLost_l1 a0 a1 r1 r4 FUEL 0 0 0


/- corebell/corebellkeep.ClockBack -/
def keep_ClockBack (a0 : Api_Rate) (a1 : Int) : Option (Bool) :=
  (keep_alive23).bind fun r1 =>
  bif (!r1) then
    some false
  else
    (clock_Ticks (⟨a0.Num, a0.Den⟩ : Api_Rate) a1).bind fun r4 =>
    bif (((r4.2 : Int) != 0) || (decide ((r4.1 : Int) > 1099511627776))) then
      some (((r4.2 : Int) == 0) || ((r4.1 : Int) == 0))
    else
      (clock_Scale (⟨a0.Num, a0.Den⟩ : Api_Rate) r4.1).bind fun r11 =>
      (clock_Scale (⟨a0.Num, a0.Den⟩ : Api_Rate) (IntKind.i64.wrap (r4.1 - 1))).bind fun r13 =>
      some ((((r11.2 : Int) == 0) && (decide ((r11.1 : Int) ≥ a1))) && ((((r4.1 : Int) == 0) && ((r13.2 : Int) == 2)) || (((decide ((r4.1 : Int) > 0)) && ((r13.2 : Int) == 0)) && (decide ((r13.1 : Int) < a1)))))


/- corebell/corebellkeep.ClockRises -/
def keep_ClockRises (a0 : Api_Rate) (a1 : Int) (a2 : Int) : Option (Bool) :=
  (keep_alive23).bind fun r1 =>
  bif (!r1) then
    some false
  else
    bif ((((decide ((a1 : Int) < 0)) || (decide ((a2 : Int) < 0))) || (decide ((a1 : Int) > 549755813888))) || (decide ((a2 : Int) > 549755813888))) then
      some true
    else
      (clock_Scale (⟨a0.Num, a0.Den⟩ : Api_Rate) a1).bind fun r11 =>
      (clock_Scale (⟨a0.Num, a0.Den⟩ : Api_Rate) a2).bind fun r13 =>
      (clock_Scale (⟨a0.Num, a0.Den⟩ : Api_Rate) (IntKind.i64.wrap (a1 + a2))).bind fun r15 =>
      some (((r11.2 : Int) != 0) || (((((r13.2 : Int) == 0) && ((r15.2 : Int) == 0)) && (decide ((r15.1 : Int) ≥ r11.1))) && (((r15.1 : Int) == (IntKind.i64.wrap (r11.1 + r13.1))) || ((r15.1 : Int) == (IntKind.i64.wrap ((IntKind.i64.wrap (r11.1 + r13.1)) + 1))))))


end Go.Proofs.Ytegafdnfcijemaa
