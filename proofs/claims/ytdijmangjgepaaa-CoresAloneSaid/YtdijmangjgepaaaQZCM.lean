/- The models of the functions: printed by program. -/
import Derived.Test.YtdijmangjgepaaaAbYg
import Derived.Test.YtdijmangjgepaaaQCG
set_option linter.unusedSimpArgs false
set_option linter.unusedVariables false
namespace Go.Proofs.Ytdijmangjgepaaa
open Go Go.Ab

structure Api_Thread where
  Come : Int
  Level : Int
  Work : Int
deriving DecidableEq

def Ok_Api_Thread (x : Api_Thread) : Prop := (-9223372036854775808 ≤ x.Come ∧ x.Come ≤ 9223372036854775807) ∧ (-9223372036854775808 ≤ x.Level ∧ x.Level ≤ 9223372036854775807) ∧ (-9223372036854775808 ≤ x.Work ∧ x.Work ≤ 9223372036854775807)

/- cores.Run: the scheduler of QCA -/
def cp_in (x : Api_Thread) : Go.Cp.Tin := (x.Come, x.Level, x.Work)
def cores_Run (a0 : Int) (a1 : Int) (a2 : List Api_Thread) (a3 : Int) : Option ((List (List Int)) × Int) :=
  if (a0 ≤ 9223372036854775807 ∧ -9223372036854775808 ≤ a0) ∧ (a1 ≤ 9223372036854775807 ∧ -9223372036854775808 ≤ a1) ∧ (a3 ≤ 9223372036854775807 ∧ -9223372036854775808 ≤ a3) then
    some ((Go.Cp.runF a0 a1 (a2.map cp_in) a3).1.map (·.map fun k : Nat => (k : Int)), (Go.Cp.runF a0 a1 (a2.map cp_in) a3).2)
  else none

/- slices.Equal(()int,int) -/
def slices_Equal_int_l1 (a0 : (List Int)) (a1 : (List Int)) : Nat → Nat → Option (Bool)
  | 0, _ => none
  | n1 + 1, k2 =>
    bif (decide ((((k2 : Nat) : Int) : Int) < ((a0.length : Nat) : Int))) then
      if 0 ≤ (((k2 : Nat) : Int) : Int) ∧ ((k2 : Nat) : Int) < ((a1.length : Nat) : Int) then
      bif (((a0.getD k2 0) : Int) != (a1.getD k2 0)) then
        some false
      else
        slices_Equal_int_l1 a0 a1 n1 (k2 + 1)
      else none
    else
      some true

def slices_Equal_int (a0 : (List Int)) (a1 : (List Int)) : Option (Bool) :=
  bif ((((a0.length : Nat) : Int) : Int) != ((a1.length : Nat) : Int)) then
    some false
  else
    slices_Equal_int_l1 a0 a1 FUEL 0


/- corebell/corebellkeep.alive14$1 -/
def keep_alive14_1 (a0 : (List Int)) (a1 : (List Int)) : Option (Bool) :=
  (slices_Equal_int a0 a1).bind fun r1 =>
  some r1


/- slices.EqualFunc(()()int,()()int,()int,()int) -/
def slices_EqualFunc_slint_keep_alive14_1_l1 (a0 : (List (List Int))) (a1 : (List (List Int))) : Nat → Nat → Option (Bool)
  | 0, _ => none
  | n1 + 1, k2 =>
    bif (decide ((((k2 : Nat) : Int) : Int) < ((a0.length : Nat) : Int))) then
      if 0 ≤ (((k2 : Nat) : Int) : Int) ∧ ((k2 : Nat) : Int) < ((a1.length : Nat) : Int) then
      (keep_alive14_1 (a0.getD k2 []) (a1.getD k2 [])).bind fun r6 =>
      bif (!r6) then
        some false
      else
        slices_EqualFunc_slint_keep_alive14_1_l1 a0 a1 n1 (k2 + 1)
      else none
    else
      some true

def slices_EqualFunc_slint_keep_alive14_1 (a0 : (List (List Int))) (a1 : (List (List Int))) : Option (Bool) :=
  bif ((((a0.length : Nat) : Int) : Int) != ((a1.length : Nat) : Int)) then
    some false
  else
    slices_EqualFunc_slint_keep_alive14_1_l1 a0 a1 FUEL 0


/- corebell/corebellkeep.alive14 -/
def keep_alive14 : Option (Bool) :=
  (cores_Run 1 2 [(⟨0, 0, 3⟩ : Api_Thread), (⟨0, 0, 9⟩ : Api_Thread), (⟨5, 3, 1⟩ : Api_Thread)] 7).bind fun r1 =>
  (bif ((r1.2 : Int) == 0) then slices_EqualFunc_slint_keep_alive14_1 r1.1 [[0], [0], [1], [1], [0], [2], [1]] else some false).bind fun r3 =>
  some (((r1.2 : Int) == 0) && r3)


/- slices.Index(()int,int) -/
def slices_Index_int_l1 (a0 : (List Int)) (a1 : Int) : Nat → Nat → Option (Int)
  | 0, _ => none
  | n1 + 1, k1 =>
    bif (decide ((((k1 : Nat) : Int) : Int) < ((a0.length : Nat) : Int))) then
      bif ((a1 : Int) == (a0.getD k1 0)) then
        some ((k1 : Nat) : Int)
      else
        slices_Index_int_l1 a0 a1 n1 (k1 + 1)
    else
      some (-1)

def slices_Index_int (a0 : (List Int)) (a1 : Int) : Option (Int) :=
  slices_Index_int_l1 a0 a1 FUEL 0


/- slices.Contains(()int,int) -/
def slices_Contains_int (a0 : (List Int)) (a1 : Int) : Option (Bool) :=
  (slices_Index_int a0 a1).bind fun r1 =>
  some (decide ((r1 : Int) ≥ 0))


/- corebell/corebellkeep.CoresBusy -/
def keep_CoresBusy_l3 (a2 : (List Api_Thread)) (k13 : Nat) (l14 : List Int) (K3_0 : (List Int) → Nat → Option (Bool)) : Nat → List Int → Nat → Option (Bool)
  | 0, _, _ => none
  | n3 + 1, l17, k18 =>
    bif (decide ((((k18 : Nat) : Int) : Int) < ((a2.length : Nat) : Int))) then
      if ((decide (((a2.getD k18 (⟨0, 0, 0⟩ : Api_Thread)).Come : Int) ≤ ((k13 : Nat) : Int))) = true → (0 ≤ (((k18 : Nat) : Int) : Int) ∧ ((k18 : Nat) : Int) < ((l14.length : Nat) : Int))) then
      bif ((decide (((a2.getD k18 (⟨0, 0, 0⟩ : Api_Thread)).Come : Int) ≤ ((k13 : Nat) : Int))) && (decide (((l14.getD (0 + k18) 0) : Int) > 0))) then
        if ((l17).length + ([((k18 : Nat) : Int)]).length) * 8 ≤ 140737488355328 ∧ (l17).length + ([((k18 : Nat) : Int)]).length ≤ 140737488355328 then
        keep_CoresBusy_l3 a2 k13 l14 K3_0 n3 (l17 ++ [((k18 : Nat) : Int)]) (k18 + 1)
        else none
      else
        keep_CoresBusy_l3 a2 k13 l14 K3_0 n3 l17 (k18 + 1)
      else none
    else
      K3_0 l17 k18

def keep_CoresBusy_l5 (a2 : (List Api_Thread)) (r4 : ((List (List Int)) × Int)) (k13 : Nat) (l17 : List Int) (k29 : Nat) (K5_0 : Nat → Option (Bool)) : Nat → Nat → Option (Bool)
  | 0, _ => none
  | n5 + 1, k47 =>
    bif (decide ((((k47 : Nat) : Int) : Int) < ((l17.length : Nat) : Int))) then
      (slices_Contains_int (r4.1.getD (0 + k13) []) (l17.getD (0 + k47) 0)).bind fun r50 =>
      if ((!r50) = true → (0 ≤ ((l17.getD (0 + k47) 0) : Int) ∧ (l17.getD (0 + k47) 0) < ((a2.length : Nat) : Int))) then
      if ((!r50) = true → (0 ≤ (((r4.1.getD (0 + k13) []).getD k29 0) : Int) ∧ ((r4.1.getD (0 + k13) []).getD k29 0) < ((a2.length : Nat) : Int))) then
      bif ((!r50) && (decide (((a2.getD (Int.toNat (l17.getD (0 + k47) 0)) (⟨0, 0, 0⟩ : Api_Thread)).Level : Int) > ((a2.getD (Int.toNat ((r4.1.getD (0 + k13) []).getD k29 0)) (⟨0, 0, 0⟩ : Api_Thread)).Level)))) then
        some false
      else
        keep_CoresBusy_l5 a2 r4 k13 l17 k29 K5_0 n5 (k47 + 1)
      else none
      else none
    else
      K5_0 k47

def keep_CoresBusy_l4 (a2 : (List Api_Thread)) (r4 : ((List (List Int)) × Int)) (k13 : Nat) (l17 : List Int) (K4_0 : Nat → Option (Bool)) : Nat → Nat → Option (Bool)
  | 0, _ => none
  | n4 + 1, k29 =>
    bif (decide ((((k29 : Nat) : Int) : Int) < (((r4.1.getD (0 + k13) []).length : Nat) : Int))) then
      (slices_Contains_int l17 ((r4.1.getD (0 + k13) []).getD k29 0)).bind fun r32 =>
      if (((!(!r32)) && (decide ((((k29 : Nat) : Int) : Int) > 0))) = true → (0 ≤ ((IntKind.i64.wrap (((k29 : Nat) : Int) - 1)) : Int) ∧ (IntKind.i64.wrap (((k29 : Nat) : Int) - 1)) < (((r4.1.getD (0 + k13) []).length : Nat) : Int))) then
      bif ((!r32) || ((decide ((((k29 : Nat) : Int) : Int) > 0)) && (decide ((((r4.1.getD (0 + k13) []).getD (Int.toNat (IntKind.i64.wrap (((k29 : Nat) : Int) - 1))) 0) : Int) ≥ ((r4.1.getD (0 + k13) []).getD k29 0))))) then
        some false
      else
        keep_CoresBusy_l5 a2 r4 k13 l17 k29 (fun (k47 : Nat) =>
            keep_CoresBusy_l4 a2 r4 k13 l17 K4_0 n4 (k29 + 1)
          ) FUEL 0
      else none
    else
      K4_0 k29

def keep_CoresBusy_l6 (r4 : ((List (List Int)) × Int)) (k13 : Nat) (l14 : List Int) (K6_0 : Nat → (List Int) → Option (Bool)) : Nat → Nat → List Int → Option (Bool)
  | 0, _, _ => none
  | n6 + 1, k66, l67 =>
    bif (decide ((((k66 : Nat) : Int) : Int) < (((r4.1.getD (0 + k13) []).length : Nat) : Int))) then
      if 0 ≤ (((r4.1.getD (0 + k13) []).getD k66 0) : Int) ∧ ((r4.1.getD (0 + k13) []).getD k66 0) < ((l67.length : Nat) : Int) then
      if 0 ≤ (((r4.1.getD (0 + k13) []).getD k66 0) : Int) ∧ ((r4.1.getD (0 + k13) []).getD k66 0) < ((l67.length : Nat) : Int) then
      keep_CoresBusy_l6 r4 k13 l14 K6_0 n6 (k66 + 1) (l67.set (0 + (Int.toNat ((r4.1.getD (0 + k13) []).getD k66 0))) (IntKind.i64.wrap ((l67.getD (0 + (Int.toNat ((r4.1.getD (0 + k13) []).getD k66 0))) 0) - 1)))
      else none
      else none
    else
      K6_0 k66 l67

def keep_CoresBusy_l2 (a0 : Int) (a2 : (List Api_Thread)) (a3 : Int) (r4 : ((List (List Int)) × Int)) (l9 : List Int) : Nat → Nat → List Int → Option (Bool)
  | 0, _, _ => none
  | n2 + 1, k13, l14 =>
    bif (decide ((((k13 : Nat) : Int) : Int) < ((r4.1.length : Nat) : Int))) then
      keep_CoresBusy_l3 a2 k13 l14 (fun (l17 : List Int) (k18 : Nat) =>
          bif (((((r4.1.getD (0 + k13) []).length : Nat) : Int) : Int) != (if (((l17.length : Nat) : Int) : Int) < a0 then ((l17.length : Nat) : Int) else a0)) then
            some false
          else
            keep_CoresBusy_l4 a2 r4 k13 l17 (fun (k29 : Nat) =>
                keep_CoresBusy_l6 r4 k13 l14 (fun (k66 : Nat) (l67 : List Int) =>
                    keep_CoresBusy_l2 a0 a2 a3 r4 l9 n2 (k13 + 1) l67
                  ) FUEL 0 l14
              ) FUEL 0
        ) FUEL ([] : List Int) 0
    else
      some ((((r4.1.length : Nat) : Int) : Int) == a3)

def keep_CoresBusy_l1 (a0 : Int) (a2 : (List Api_Thread)) (a3 : Int) (r4 : ((List (List Int)) × Int)) : Nat → Nat → List Int → Option (Bool)
  | 0, _, _ => none
  | n1 + 1, k8, l9 =>
    bif (decide ((((k8 : Nat) : Int) : Int) < ((a2.length : Nat) : Int))) then
      if 0 ≤ (((k8 : Nat) : Int) : Int) ∧ ((k8 : Nat) : Int) < ((l9.length : Nat) : Int) then
      keep_CoresBusy_l1 a0 a2 a3 r4 n1 (k8 + 1) (l9.set (0 + k8) ((a2.getD k8 (⟨0, 0, 0⟩ : Api_Thread)).Work))
      else none
    else
      keep_CoresBusy_l2 a0 a2 a3 r4 l9 FUEL 0 l9

def keep_CoresBusy (a0 : Int) (a1 : Int) (a2 : (List Api_Thread)) (a3 : Int) : Option (Bool) :=
  (keep_alive14).bind fun r1 =>
  bif (!r1) then
    some false
  else
    (cores_Run a0 a1 a2 a3).bind fun r4 =>
    bif ((r4.2 : Int) != 0) then
      some ((((r4.1.length : Nat) : Int) : Int) == 0)
    else
      if 0 ≤ (((a2.length : Nat) : Int) : Int) ∧ a2.length * 8 ≤ 140737488355328 ∧ a2.length ≤ 140737488355328 then
      keep_CoresBusy_l1 a0 a2 a3 r4 FUEL 0 (List.replicate a2.length (0 : Int))
      else none


/- corebell/corebellkeep.CoresDone -/
def keep_CoresDone_l4 (a2 : (List Api_Thread)) (r22 : ((List (List Int)) × Int)) (k26 : Nat) (l27 : List Int) (K4_0 : Nat → (List Int) → Option (Bool)) : Nat → Nat → List Int → Option (Bool)
  | 0, _, _ => none
  | n4 + 1, k30, l31 =>
    bif (decide ((((k30 : Nat) : Int) : Int) < (((r22.1.getD (0 + k26) []).length : Nat) : Int))) then
      bif ((decide ((((r22.1.getD (0 + k26) []).getD k30 0) : Int) < 0)) || (decide ((((r22.1.getD (0 + k26) []).getD k30 0) : Int) ≥ ((a2.length : Nat) : Int)))) then
        some false
      else
        if 0 ≤ (((r22.1.getD (0 + k26) []).getD k30 0) : Int) ∧ ((r22.1.getD (0 + k26) []).getD k30 0) < ((l31.length : Nat) : Int) then
        if 0 ≤ (((r22.1.getD (0 + k26) []).getD k30 0) : Int) ∧ ((r22.1.getD (0 + k26) []).getD k30 0) < ((l31.length : Nat) : Int) then
        keep_CoresDone_l4 a2 r22 k26 l27 K4_0 n4 (k30 + 1) (l31.set (0 + (Int.toNat ((r22.1.getD (0 + k26) []).getD k30 0))) (IntKind.i64.wrap ((l31.getD (0 + (Int.toNat ((r22.1.getD (0 + k26) []).getD k30 0))) 0) + 1)))
        else none
        else none
    else
      K4_0 k30 l31

def keep_CoresDone_l5 (a2 : (List Api_Thread)) (l27 : List Int) : Nat → Nat → Option (Bool)
  | 0, _ => none
  | n5 + 1, k41 =>
    bif (decide ((((k41 : Nat) : Int) : Int) < ((a2.length : Nat) : Int))) then
      if 0 ≤ (((k41 : Nat) : Int) : Int) ∧ ((k41 : Nat) : Int) < ((l27.length : Nat) : Int) then
      bif (((l27.getD (0 + k41) 0) : Int) != ((a2.getD k41 (⟨0, 0, 0⟩ : Api_Thread)).Work)) then
        some false
      else
        keep_CoresDone_l5 a2 l27 n5 (k41 + 1)
      else none
    else
      some true

def keep_CoresDone_l3 (a2 : (List Api_Thread)) (r22 : ((List (List Int)) × Int)) : Nat → Nat → List Int → Option (Bool)
  | 0, _, _ => none
  | n3 + 1, k26, l27 =>
    bif (decide ((((k26 : Nat) : Int) : Int) < ((r22.1.length : Nat) : Int))) then
      keep_CoresDone_l4 a2 r22 k26 l27 (fun (k30 : Nat) (l31 : List Int) =>
          keep_CoresDone_l3 a2 r22 n3 (k26 + 1) l31
        ) FUEL 0 l27
    else
      keep_CoresDone_l5 a2 l27 FUEL 0

def keep_CoresDone_l2 (a0 : Int) (a1 : Int) (a2 : (List Api_Thread)) (x4 : Int) : Nat → Int → Nat → Option (Bool)
  | 0, _, _ => none
  | n2 + 1, x18, k19 =>
    bif (decide ((((k19 : Nat) : Int) : Int) < ((a2.length : Nat) : Int))) then
      keep_CoresDone_l2 a0 a1 a2 x4 n2 (IntKind.i64.wrap (x18 + ((a2.getD k19 (⟨0, 0, 0⟩ : Api_Thread)).Work))) (k19 + 1)
    else
      (cores_Run a0 a1 a2 x18).bind fun r22 =>
      bif ((r22.2 : Int) != 0) then
        some true
      else
        if 0 ≤ (((a2.length : Nat) : Int) : Int) ∧ a2.length * 8 ≤ 140737488355328 ∧ a2.length ≤ 140737488355328 then
        keep_CoresDone_l3 a2 r22 FUEL 0 (List.replicate a2.length (0 : Int))
        else none

def keep_CoresDone_l1 (a0 : Int) (a1 : Int) (a2 : (List Api_Thread)) : Nat → Int → Nat → Option (Bool)
  | 0, _, _ => none
  | n1 + 1, x4, k5 =>
    bif (decide ((((k5 : Nat) : Int) : Int) < ((a2.length : Nat) : Int))) then
      bif ((((decide (((a2.getD k5 (⟨0, 0, 0⟩ : Api_Thread)).Come : Int) < 0)) || (decide (((a2.getD k5 (⟨0, 0, 0⟩ : Api_Thread)).Work : Int) < 0))) || (decide (((a2.getD k5 (⟨0, 0, 0⟩ : Api_Thread)).Come : Int) > 300))) || (decide (((a2.getD k5 (⟨0, 0, 0⟩ : Api_Thread)).Work : Int) > 30))) then
        some true
      else
        keep_CoresDone_l1 a0 a1 a2 n1 (if ((a2.getD k5 (⟨0, 0, 0⟩ : Api_Thread)).Come : Int) > x4 then ((a2.getD k5 (⟨0, 0, 0⟩ : Api_Thread)).Come) else x4) (k5 + 1)
    else
      keep_CoresDone_l2 a0 a1 a2 x4 FUEL x4 0

def keep_CoresDone (a0 : Int) (a1 : Int) (a2 : (List Api_Thread)) : Option (Bool) :=
  (keep_alive14).bind fun r1 =>
  bif (!r1) then
    some false
  else
    keep_CoresDone_l1 a0 a1 a2 FUEL 0 0


/- slices.Clone(()int,int) -/
def slices_Clone_int (a0 : List Int) : Option (List Int) := if a0.length * 8 ≤ 140737488355328 then some a0 else none

/- corebell/corebellkeep.CoresAlone$1 -/
def keep_CoresAlone_1 (a0 : Int) (a1 : (List Int)) : Option (Bool) :=
  (slices_Contains_int a1 a0).bind fun r1 =>
  some (!r1)


/- slices.IndexFunc(()int,int) -/
def slices_IndexFunc_int_keep_CoresAlone_1_l1 (a0 : (List Int)) (a1 : (List Int)) : Nat → Nat → Option (Int)
  | 0, _ => none
  | n1 + 1, k1 =>
    bif (decide ((((k1 : Nat) : Int) : Int) < ((a0.length : Nat) : Int))) then
      (keep_CoresAlone_1 (a0.getD k1 0) a1).bind fun r4 =>
      bif r4 then
        some ((k1 : Nat) : Int)
      else
        slices_IndexFunc_int_keep_CoresAlone_1_l1 a0 a1 n1 (k1 + 1)
    else
      some (-1)

def slices_IndexFunc_int_keep_CoresAlone_1 (a0 : (List Int)) (a1 : (List Int)) : Option (Int) :=
  slices_IndexFunc_int_keep_CoresAlone_1_l1 a0 a1 FUEL 0


/- slices.DeleteFunc(()int,int) -/
def slices_DeleteFunc_int_keep_CoresAlone_1_h0_l1 (a0 : (List Int)) (a1 : (List Int)) (r1 : Int) : Nat → Int → Int → List Int → Option ((List Int))
  | 0, _, _, _ => none
  | n1 + 1, x4, x5, l6 =>
    bif (decide ((x5 : Int) < ((l6.length : Nat) : Int))) then
      if 0 ≤ (x5 : Int) ∧ x5 < ((l6.length : Nat) : Int) then
      (keep_CoresAlone_1 (l6.getD (0 + (Int.toNat x5)) 0) a1).bind fun r9 =>
      bif (!r9) then
        if 0 ≤ (x4 : Int) ∧ x4 < ((l6.length : Nat) : Int) then
        slices_DeleteFunc_int_keep_CoresAlone_1_h0_l1 a0 a1 r1 n1 (IntKind.i64.wrap (x4 + 1)) (IntKind.i64.wrap (x5 + 1)) (l6.set (0 + (Int.toNat x4)) (l6.getD (0 + (Int.toNat x5)) 0))
        else none
      else
        slices_DeleteFunc_int_keep_CoresAlone_1_h0_l1 a0 a1 r1 n1 x4 (IntKind.i64.wrap (x5 + 1)) l6
      else none
    else
      if 0 ≤ (x4 : Int) then
      if (Int.toNat x4) ≤ l6.length then
      if (0 + (Int.toNat x4)) + (l6.length - (Int.toNat x4)) ≤ l6.length then
      if 0 ≤ (x4 : Int) then
      if (Int.toNat x4) ≤ l6.length then
      some (((cpL l6 (0 + (Int.toNat x4)) (l6.length - (Int.toNat x4)) (List.replicate (l6.length - (Int.toNat x4)) (0 : Int))).drop (0 + 0)).take ((Int.toNat x4) - 0))
      else none
      else none
      else none
      else none
      else none

def slices_DeleteFunc_int_keep_CoresAlone_1_h0 (a0 : (List Int)) (a1 : (List Int)) : Option ((List Int)) :=
  (slices_IndexFunc_int_keep_CoresAlone_1 a0 a1).bind fun r1 =>
  bif ((r1 : Int) == (-1)) then
    some a0
  else
    slices_DeleteFunc_int_keep_CoresAlone_1_h0_l1 a0 a1 r1 FUEL r1 (IntKind.i64.wrap (r1 + 1)) a0


/- corebell/corebellkeep.CoresAlone -/
def keep_CoresAlone_l3 (l6 : List Int) (r14 : ((List (List Int)) × Int)) (k24 : Nat) (K3_0 : (List Int) → Nat → Option (Bool)) : Nat → List Int → Nat → Option (Bool)
  | 0, _, _ => none
  | n3 + 1, l27, k28 =>
    bif (decide ((((k28 : Nat) : Int) : Int) < (((r14.1.getD (0 + k24) []).length : Nat) : Int))) then
      bif ((decide ((((r14.1.getD (0 + k24) []).getD k28 0) : Int) < 0)) || (decide ((((r14.1.getD (0 + k24) []).getD k28 0) : Int) ≥ ((l6.length : Nat) : Int)))) then
        some false
      else
        if 0 ≤ (((r14.1.getD (0 + k24) []).getD k28 0) : Int) ∧ ((r14.1.getD (0 + k24) []).getD k28 0) < ((l6.length : Nat) : Int) then
        if ((l27).length + ([(l6.getD (0 + (Int.toNat ((r14.1.getD (0 + k24) []).getD k28 0))) 0)]).length) * 8 ≤ 140737488355328 ∧ (l27).length + ([(l6.getD (0 + (Int.toNat ((r14.1.getD (0 + k24) []).getD k28 0))) 0)]).length ≤ 140737488355328 then
        keep_CoresAlone_l3 l6 r14 k24 K3_0 n3 (l27 ++ [(l6.getD (0 + (Int.toNat ((r14.1.getD (0 + k24) []).getD k28 0))) 0)]) (k28 + 1)
        else none
        else none
    else
      K3_0 l27 k28

def keep_CoresAlone_l2 (l6 : List Int) (r12 : ((List (List Int)) × Int)) (r14 : ((List (List Int)) × Int)) : Nat → Nat → Option (Bool)
  | 0, _ => none
  | n2 + 1, k24 =>
    bif (decide ((((k24 : Nat) : Int) : Int) < ((r12.1.length : Nat) : Int))) then
      if 0 ≤ (((k24 : Nat) : Int) : Int) ∧ ((k24 : Nat) : Int) < ((r14.1.length : Nat) : Int) then
      keep_CoresAlone_l3 l6 r14 k24 (fun (l27 : List Int) (k28 : Nat) =>
          (slices_Clone_int (r12.1.getD (0 + k24) [])).bind fun r39 =>
          (slices_DeleteFunc_int_keep_CoresAlone_1_h0 r39 l6).bind fun r41 =>
          (slices_Equal_int r41 l27).bind fun r43 =>
          bif (!r43) then
            some false
          else
            keep_CoresAlone_l2 l6 r12 r14 n2 (k24 + 1)
        ) FUEL ([] : List Int) 0
      else none
    else
      some true

def keep_CoresAlone_l1 (a0 : Int) (a1 : Int) (a2 : (List Api_Thread)) (a3 : Int) (a4 : Int) : Nat → List Api_Thread → Nat → List Int → Option (Bool)
  | 0, _, _, _ => none
  | n1 + 1, l4, k5, l6 =>
    bif (decide ((((k5 : Nat) : Int) : Int) < ((a2.length : Nat) : Int))) then
      bif (decide (((a2.getD k5 (⟨0, 0, 0⟩ : Api_Thread)).Level : Int) ≥ a4)) then
        if ((l4).length + ([(a2.getD k5 (⟨0, 0, 0⟩ : Api_Thread))]).length) * 24 ≤ 140737488355328 ∧ (l4).length + ([(a2.getD k5 (⟨0, 0, 0⟩ : Api_Thread))]).length ≤ 140737488355328 then
        if ((l6).length + ([((k5 : Nat) : Int)]).length) * 8 ≤ 140737488355328 ∧ (l6).length + ([((k5 : Nat) : Int)]).length ≤ 140737488355328 then
        keep_CoresAlone_l1 a0 a1 a2 a3 a4 n1 (l4 ++ [(a2.getD k5 (⟨0, 0, 0⟩ : Api_Thread))]) (k5 + 1) (l6 ++ [((k5 : Nat) : Int)])
        else none
        else none
      else
        keep_CoresAlone_l1 a0 a1 a2 a3 a4 n1 l4 (k5 + 1) l6
    else
      (cores_Run a0 a1 a2 a3).bind fun r12 =>
      (cores_Run a0 a1 l4 a3).bind fun r14 =>
      bif ((((r12.2 : Int) != 0) || ((r14.2 : Int) != 0)) || ((((r12.1.length : Nat) : Int) : Int) != ((r14.1.length : Nat) : Int))) then
        some ((r12.2 : Int) != 0)
      else
        keep_CoresAlone_l2 l6 r12 r14 FUEL 0

def keep_CoresAlone (a0 : Int) (a1 : Int) (a2 : (List Api_Thread)) (a3 : Int) (a4 : Int) : Option (Bool) :=
  (keep_alive14).bind fun r1 =>
  bif (!r1) then
    some false
  else
    keep_CoresAlone_l1 a0 a1 a2 a3 a4 FUEL ([] : List Api_Thread) 0 ([] : List Int)


/- math/bits.Mul32 -/
def math_bits_Mul32 (a0 : Int) (a1 : Int) : Option (Int × Int) :=
  some ((IntKind.u32.wrap (Int.fdiv (IntKind.u64.wrap ((IntKind.u64.wrap a0) * (IntKind.u64.wrap a1))) (2 ^ (min (Int.toNat 32) IntKind.u64.bits)))), (IntKind.u32.wrap (IntKind.u64.wrap ((IntKind.u64.wrap a0) * (IntKind.u64.wrap a1)))))


/- math/bits.Mul64 -/
def math_bits_Mul64 (a0 : Int) (a1 : Int) : Option (Int × Int) :=
  some ((IntKind.u64.wrap ((IntKind.u64.wrap ((IntKind.u64.wrap ((Int.fdiv a0 (2 ^ (min (Int.toNat 32) IntKind.u64.bits))) * (Int.fdiv a1 (2 ^ (min (Int.toNat 32) IntKind.u64.bits))))) + (Int.fdiv (IntKind.u64.wrap ((IntKind.u64.wrap ((Int.fdiv a0 (2 ^ (min (Int.toNat 32) IntKind.u64.bits))) * (bitsOf .and .u64 a1 4294967295))) + (Int.fdiv (IntKind.u64.wrap ((bitsOf .and .u64 a0 4294967295) * (bitsOf .and .u64 a1 4294967295))) (2 ^ (min (Int.toNat 32) IntKind.u64.bits))))) (2 ^ (min (Int.toNat 32) IntKind.u64.bits))))) + (Int.fdiv (IntKind.u64.wrap ((bitsOf .and .u64 (IntKind.u64.wrap ((IntKind.u64.wrap ((Int.fdiv a0 (2 ^ (min (Int.toNat 32) IntKind.u64.bits))) * (bitsOf .and .u64 a1 4294967295))) + (Int.fdiv (IntKind.u64.wrap ((bitsOf .and .u64 a0 4294967295) * (bitsOf .and .u64 a1 4294967295))) (2 ^ (min (Int.toNat 32) IntKind.u64.bits))))) 4294967295) + (IntKind.u64.wrap ((bitsOf .and .u64 a0 4294967295) * (Int.fdiv a1 (2 ^ (min (Int.toNat 32) IntKind.u64.bits))))))) (2 ^ (min (Int.toNat 32) IntKind.u64.bits))))), (IntKind.u64.wrap (a0 * a1)))


/- math/bits.Mul -/
def math_bits_Mul (a0 : Int) (a1 : Int) : Option (Int × Int) :=
  bif false then
    (math_bits_Mul32 (IntKind.u32.wrap a0) (IntKind.u32.wrap a1)).bind fun r2 =>
    some ((IntKind.u64.wrap r2.1), (IntKind.u64.wrap r2.2))
  else
    (math_bits_Mul64 a0 a1).bind fun r4 =>
    some (r4.1, r4.2)


/- slices.Repeat(()corebell/api.Thread,corebell/api.Thread) -/
def slices_Repeat_api_Thread_l1 (a0 : (List Api_Thread)) (r2 : Int × Int) : Nat → Int → List Api_Thread → Option ((List Api_Thread))
  | 0, _, _ => none
  | n1 + 1, x9, l10 =>
    bif (decide ((x9 : Int) < ((l10.length : Nat) : Int))) then
      if 0 ≤ (x9 : Int) then
      if (Int.toNat x9) ≤ l10.length then
      if 0 ≤ (x9 : Int) then
      if (Int.toNat x9) ≤ l10.length then
      if (0 + (Int.toNat x9)) + (l10.length - (Int.toNat x9)) ≤ l10.length ∧ (0 + 0) + ((Int.toNat x9) - 0) ≤ l10.length then
      slices_Repeat_api_Thread_l1 a0 r2 n1 (IntKind.i64.wrap (x9 + (((min ((l10.drop (0 + 0)).take ((Int.toNat x9) - 0)).length (l10.length - (Int.toNat x9))) : Nat) : Int))) (cpL l10 (0 + (Int.toNat x9)) (min ((l10.drop (0 + 0)).take ((Int.toNat x9) - 0)).length (l10.length - (Int.toNat x9))) ((l10.drop (0 + 0)).take ((Int.toNat x9) - 0)))
      else none
      else none
      else none
      else none
      else none
    else
      some l10

def slices_Repeat_api_Thread (a0 : (List Api_Thread)) (a1 : Int) : Option ((List Api_Thread)) :=
  bif (decide ((a1 : Int) < 0)) then
    none
  else
    (math_bits_Mul (IntKind.u64.wrap ((a0.length : Nat) : Int)) (IntKind.u64.wrap a1)).bind fun r2 =>
    bif ((decide ((r2.1 : Int) > 0)) || (decide ((r2.2 : Int) > 9223372036854775807))) then
      none
    else
      if 0 ≤ ((IntKind.i64.wrap r2.2) : Int) ∧ (Int.toNat (IntKind.i64.wrap r2.2)) * 24 ≤ 140737488355328 ∧ (Int.toNat (IntKind.i64.wrap r2.2)) ≤ 140737488355328 then
      if 0 + (Int.toNat (IntKind.i64.wrap r2.2)) ≤ (List.replicate (Int.toNat (IntKind.i64.wrap r2.2)) (⟨0, 0, 0⟩ : Api_Thread)).length then
      slices_Repeat_api_Thread_l1 a0 r2 FUEL (((min a0.length (Int.toNat (IntKind.i64.wrap r2.2))) : Nat) : Int) (cpL (List.replicate (Int.toNat (IntKind.i64.wrap r2.2)) (⟨0, 0, 0⟩ : Api_Thread)) 0 (min a0.length (Int.toNat (IntKind.i64.wrap r2.2))) a0)
      else none
      else none


/- slices.Max(()int,int) -/
def slices_Max_int_l1 (a0 : (List Int)) : Nat → Int → Int → Option (Int)
  | 0, _, _ => none
  | n1 + 1, x3, x4 =>
    bif (decide ((x4 : Int) < ((a0.length : Nat) : Int))) then
      if 0 ≤ (x4 : Int) ∧ x4 < ((a0.length : Nat) : Int) then
      slices_Max_int_l1 a0 n1 (if ((a0.getD (Int.toNat x4) 0) : Int) > x3 then (a0.getD (Int.toNat x4) 0) else x3) (IntKind.i64.wrap (x4 + 1))
      else none
    else
      some x3

def slices_Max_int (a0 : (List Int)) : Option (Int) :=
  bif (decide ((((a0.length : Nat) : Int) : Int) < 1)) then
    none
  else
    if 0 ≤ (0 : Int) ∧ 0 < ((a0.length : Nat) : Int) then
    slices_Max_int_l1 a0 FUEL (a0.getD 0 0) 1
    else none


/- slices.Min(()int,int) -/
def slices_Min_int_l1 (a0 : (List Int)) : Nat → Int → Int → Option (Int)
  | 0, _, _ => none
  | n1 + 1, x3, x4 =>
    bif (decide ((x4 : Int) < ((a0.length : Nat) : Int))) then
      if 0 ≤ (x4 : Int) ∧ x4 < ((a0.length : Nat) : Int) then
      slices_Min_int_l1 a0 n1 (if ((a0.getD (Int.toNat x4) 0) : Int) < x3 then (a0.getD (Int.toNat x4) 0) else x3) (IntKind.i64.wrap (x4 + 1))
      else none
    else
      some x3

def slices_Min_int (a0 : (List Int)) : Option (Int) :=
  bif (decide ((((a0.length : Nat) : Int) : Int) < 1)) then
    none
  else
    if 0 ≤ (0 : Int) ∧ 0 < ((a0.length : Nat) : Int) then
    slices_Min_int_l1 a0 FUEL (a0.getD 0 0) 1
    else none


/- corebell/corebellkeep.CoresFair -/
def keep_CoresFair_l2 (a2 : Int) (r13 : ((List (List Int)) × Int)) (k17 : Nat) (l18 : List Int) (K2_0 : Nat → (List Int) → Option (Bool)) : Nat → Nat → List Int → Option (Bool)
  | 0, _, _ => none
  | n2 + 1, k21, l22 =>
    bif (decide ((((k21 : Nat) : Int) : Int) < (((r13.1.getD (0 + k17) []).length : Nat) : Int))) then
      bif ((decide ((((r13.1.getD (0 + k17) []).getD k21 0) : Int) < 0)) || (decide ((((r13.1.getD (0 + k17) []).getD k21 0) : Int) ≥ a2))) then
        some false
      else
        if 0 ≤ (((r13.1.getD (0 + k17) []).getD k21 0) : Int) ∧ ((r13.1.getD (0 + k17) []).getD k21 0) < ((l22.length : Nat) : Int) then
        if 0 ≤ (((r13.1.getD (0 + k17) []).getD k21 0) : Int) ∧ ((r13.1.getD (0 + k17) []).getD k21 0) < ((l22.length : Nat) : Int) then
        keep_CoresFair_l2 a2 r13 k17 l18 K2_0 n2 (k21 + 1) (l22.set (0 + (Int.toNat ((r13.1.getD (0 + k17) []).getD k21 0))) (IntKind.i64.wrap ((l22.getD (0 + (Int.toNat ((r13.1.getD (0 + k17) []).getD k21 0))) 0) + 1)))
        else none
        else none
    else
      K2_0 k21 l22

def keep_CoresFair_l1 (a1 : Int) (a2 : Int) (r13 : ((List (List Int)) × Int)) : Nat → Nat → List Int → Option (Bool)
  | 0, _, _ => none
  | n1 + 1, k17, l18 =>
    bif (decide ((((k17 : Nat) : Int) : Int) < ((r13.1.length : Nat) : Int))) then
      keep_CoresFair_l2 a2 r13 k17 l18 (fun (k21 : Nat) (l22 : List Int) =>
          keep_CoresFair_l1 a1 a2 r13 n1 (k17 + 1) l22
        ) FUEL 0 l18
    else
      (slices_Max_int l18).bind fun r31 =>
      (slices_Min_int l18).bind fun r33 =>
      some (decide (((IntKind.i64.wrap (r31 - r33)) : Int) ≤ a1))

def keep_CoresFair (a0 : Int) (a1 : Int) (a2 : Int) (a3 : Int) : Option (Bool) :=
  (keep_alive14).bind fun r1 =>
  bif (!r1) then
    some false
  else
    bif ((((decide ((a2 : Int) < 1)) || (decide ((a2 : Int) > 64))) || (decide ((a3 : Int) < 0))) || (decide ((a3 : Int) > 2000))) then
      some true
    else
      (slices_Repeat_api_Thread [(⟨0, 0, 10000⟩ : Api_Thread)] a2).bind fun r11 =>
      (cores_Run a0 a1 r11 a3).bind fun r13 =>
      bif ((r13.2 : Int) != 0) then
        some true
      else
        if 0 ≤ (a2 : Int) ∧ (Int.toNat a2) * 8 ≤ 140737488355328 ∧ (Int.toNat a2) ≤ 140737488355328 then
        keep_CoresFair_l1 a1 a2 r13 FUEL 0 (List.replicate (Int.toNat a2) (0 : Int))
        else none


end Go.Proofs.Ytdijmangjgepaaa
