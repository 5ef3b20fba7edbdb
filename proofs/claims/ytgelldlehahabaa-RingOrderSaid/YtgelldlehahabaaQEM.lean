/- The models of the functions: printed by program. -/
import Derived.Test.YtgelldlehahabaaAbY
set_option linter.unusedSimpArgs false
set_option linter.unusedVariables false
namespace Go.Proofs.Ytgelldlehahabaa
open Go Go.Ab

structure Api_Cell where
  Device : Bool
  Data : Int
deriving DecidableEq

structure Api_Ring where
  Cells : (List Api_Cell)
  Give : Int
  Take : Int
  Work : Int
deriving DecidableEq

structure Api_RingOp where
  Kind : Int
  Data : Int
deriving DecidableEq

def Ok_Api_RingOp (x : Api_RingOp) : Prop := (-9223372036854775808 ≤ x.Kind ∧ x.Kind ≤ 9223372036854775807) ∧ (-9223372036854775808 ≤ x.Data ∧ x.Data ≤ 9223372036854775807)
def Ok_Api_Cell (x : Api_Cell) : Prop := True ∧ (-9223372036854775808 ≤ x.Data ∧ x.Data ≤ 9223372036854775807)
def Ok_Api_Ring (x : Api_Ring) : Prop := (x.Cells.length * 16 ≤ 140737488351232 ∧ ∀ y ∈ x.Cells, (Ok_Api_Cell y)) ∧ (-9223372036854775808 ≤ x.Give ∧ x.Give ≤ 9223372036854775807) ∧ (-9223372036854775808 ≤ x.Take ∧ x.Take ≤ 9223372036854775807) ∧ (-9223372036854775808 ≤ x.Work ∧ x.Work ≤ 9223372036854775807)

/- corebell/ring.New -/
def ring_New (a0 : Int) : Option (Api_Ring × Int) :=
  bif ((decide ((a0 : Int) < 2)) || (decide ((a0 : Int) > 64))) then
    some ((⟨([] : List Api_Cell), 0, 0, 0⟩ : Api_Ring), 2)
  else
    if 0 ≤ (a0 : Int) ∧ (Int.toNat a0) * 16 ≤ 140737488355328 ∧ (Int.toNat a0) ≤ 140737488355328 then
    some ((⟨(List.replicate (Int.toNat a0) (⟨false, 0⟩ : Api_Cell)), 0, 0, 0⟩ : Api_Ring), 0)
    else none


/- corebell/ring.ahead -/
def ring_ahead (a0 : Api_Ring) (a1 : Int) (a2 : Int) : Option (Int) :=
  if (((a0.Cells.length : Nat) : Int) : Int) ≠ 0 then
  some (Int.tmod (IntKind.i64.wrap ((IntKind.i64.wrap (a2 - a1)) + ((a0.Cells.length : Nat) : Int))) ((a0.Cells.length : Nat) : Int))
  else none


/- corebell/ring.Right -/
def ring_Right_l1 (a0 : Api_Ring) : Nat → Nat → Option (Bool)
  | 0, _ => none
  | n1 + 1, k32 =>
    bif (decide ((((k32 : Nat) : Int) : Int) < ((a0.Cells.length : Nat) : Int))) then
      (ring_ahead a0 a0.Take ((k32 : Nat) : Int)).bind fun r35 =>
      (ring_ahead a0 a0.Take a0.Work).bind fun r37 =>
      (bif (decide ((r35 : Int) ≥ r37)) then ring_ahead a0 a0.Take a0.Give else some 0).bind fun r41 =>
      (bif (!(((a0.Cells.getD k32 (⟨false, 0⟩ : Api_Cell)).Device) != ((decide ((r35 : Int) ≥ r37)) && (decide ((r35 : Int) < r41))))) then ring_ahead a0 a0.Take a0.Give else some 0).bind fun r48 =>
      bif ((((a0.Cells.getD k32 (⟨false, 0⟩ : Api_Cell)).Device) != ((decide ((r35 : Int) ≥ r37)) && (decide ((r35 : Int) < r41)))) || ((decide ((r35 : Int) ≥ r48)) && (((a0.Cells.getD k32 (⟨false, 0⟩ : Api_Cell)).Data : Int) != 0))) then
        some false
      else
        ring_Right_l1 a0 n1 (k32 + 1)
    else
      some true

def ring_Right (a0 : Api_Ring) : Option (Bool) :=
  (bif (!((((decide ((((a0.Cells.length : Nat) : Int) : Int) < 2)) || (decide ((((a0.Cells.length : Nat) : Int) : Int) > 64))) || (decide (((if (a0.Work : Int) < (if (a0.Take : Int) < a0.Give then a0.Take else a0.Give) then a0.Work else (if (a0.Take : Int) < a0.Give then a0.Take else a0.Give)) : Int) < 0))) || (decide (((if (a0.Work : Int) > (if (a0.Take : Int) > a0.Give then a0.Take else a0.Give) then a0.Work else (if (a0.Take : Int) > a0.Give then a0.Take else a0.Give)) : Int) ≥ ((a0.Cells.length : Nat) : Int))))) then ring_ahead a0 a0.Take a0.Work else some 0).bind fun r22 =>
  (bif (!((((decide ((((a0.Cells.length : Nat) : Int) : Int) < 2)) || (decide ((((a0.Cells.length : Nat) : Int) : Int) > 64))) || (decide (((if (a0.Work : Int) < (if (a0.Take : Int) < a0.Give then a0.Take else a0.Give) then a0.Work else (if (a0.Take : Int) < a0.Give then a0.Take else a0.Give)) : Int) < 0))) || (decide (((if (a0.Work : Int) > (if (a0.Take : Int) > a0.Give then a0.Take else a0.Give) then a0.Work else (if (a0.Take : Int) > a0.Give then a0.Take else a0.Give)) : Int) ≥ ((a0.Cells.length : Nat) : Int))))) then ring_ahead a0 a0.Take a0.Give else some 0).bind fun r26 =>
  bif (((((decide ((((a0.Cells.length : Nat) : Int) : Int) < 2)) || (decide ((((a0.Cells.length : Nat) : Int) : Int) > 64))) || (decide (((if (a0.Work : Int) < (if (a0.Take : Int) < a0.Give then a0.Take else a0.Give) then a0.Work else (if (a0.Take : Int) < a0.Give then a0.Take else a0.Give)) : Int) < 0))) || (decide (((if (a0.Work : Int) > (if (a0.Take : Int) > a0.Give then a0.Take else a0.Give) then a0.Work else (if (a0.Take : Int) > a0.Give then a0.Take else a0.Give)) : Int) ≥ ((a0.Cells.length : Nat) : Int)))) || (decide ((r22 : Int) > r26))) then
    some false
  else
    ring_Right_l1 a0 FUEL 0


/- slices.Clone(()corebell/api.Cell,corebell/api.Cell) -/
def slices_Clone_api_Cell (a0 : List Api_Cell) : Option (List Api_Cell) := if a0.length * 16 ≤ 140737488355328 then some a0 else none

/- corebell/ring.Step -/
def ring_Step (a0 : Api_Ring) (a1 : Api_RingOp) : Option (Api_Ring × Int × Int) :=
  (ring_Right a0).bind fun r1 =>
  bif (!r1) then
    some ((⟨([] : List Api_Cell), 0, 0, 0⟩ : Api_Ring), 0, 1)
  else
    (slices_Clone_api_Cell a0.Cells).bind fun r4 =>
    bif ((a1.Kind : Int) == 1) then
      (ring_ahead a0 a0.Take a0.Give).bind fun r7 =>
      bif ((r7 : Int) == (IntKind.i64.wrap (((a0.Cells.length : Nat) : Int) - 1))) then
        some ((⟨([] : List Api_Cell), 0, 0, 0⟩ : Api_Ring), 0, 7)
      else
        if 0 ≤ (a0.Give : Int) ∧ a0.Give < ((r4.length : Nat) : Int) then
        if (((a0.Cells.length : Nat) : Int) : Int) ≠ 0 then
        some ((⟨(r4.set (0 + (Int.toNat a0.Give)) (⟨true, a1.Data⟩ : Api_Cell)), (Int.tmod (IntKind.i64.wrap (a0.Give + 1)) ((a0.Cells.length : Nat) : Int)), a0.Take, a0.Work⟩ : Api_Ring), 0, 0)
        else none
        else none
    else
      bif ((a1.Kind : Int) == 2) then
        bif ((a0.Work : Int) == a0.Give) then
          some ((⟨([] : List Api_Cell), 0, 0, 0⟩ : Api_Ring), 0, 3)
        else
          if 0 ≤ (a0.Work : Int) ∧ a0.Work < ((a0.Cells.length : Nat) : Int) then
          if 0 ≤ (a0.Work : Int) ∧ a0.Work < ((r4.length : Nat) : Int) then
          if (((a0.Cells.length : Nat) : Int) : Int) ≠ 0 then
          some ((⟨(r4.set (0 + (Int.toNat a0.Work)) (⟨false, (bitsOf .xor .i64 (if IntKind.i64.signed then -1 else IntKind.i64.max) ((a0.Cells.getD (Int.toNat a0.Work) (⟨false, 0⟩ : Api_Cell)).Data))⟩ : Api_Cell)), a0.Give, a0.Take, (Int.tmod (IntKind.i64.wrap (a0.Work + 1)) ((a0.Cells.length : Nat) : Int))⟩ : Api_Ring), 0, 0)
          else none
          else none
          else none
      else
        bif ((a1.Kind : Int) == 3) then
          bif ((a0.Take : Int) == a0.Work) then
            some ((⟨([] : List Api_Cell), 0, 0, 0⟩ : Api_Ring), 0, 3)
          else
            if 0 ≤ (a0.Take : Int) ∧ a0.Take < ((a0.Cells.length : Nat) : Int) then
            if 0 ≤ (a0.Take : Int) ∧ a0.Take < ((r4.length : Nat) : Int) then
            if (((a0.Cells.length : Nat) : Int) : Int) ≠ 0 then
            some ((⟨(r4.set (0 + (Int.toNat a0.Take)) (⟨false, 0⟩ : Api_Cell)), a0.Give, (Int.tmod (IntKind.i64.wrap (a0.Take + 1)) ((a0.Cells.length : Nat) : Int)), a0.Work⟩ : Api_Ring), (a0.Cells.getD (Int.toNat a0.Take) (⟨false, 0⟩ : Api_Cell)).Data, 0)
            else none
            else none
            else none
        else
          some ((⟨([] : List Api_Cell), 0, 0, 0⟩ : Api_Ring), 0, 5)


/- corebell/ring.Play -/
def ring_Play_l1 (a1 : (List Api_RingOp)) (r1 : Api_Ring × Int) : Nat → List Int → List Int → Nat → List Api_Cell → Int → Int → Int → Option ((List Int) × (List Int) × Api_Ring × Int)
  | 0, _, _, _, _, _, _, _ => none
  | n1 + 1, l4, l5, k6, l7, x8, x9, x10 =>
    bif (decide ((((k6 : Nat) : Int) : Int) < ((a1.length : Nat) : Int))) then
      (ring_Step (⟨l7, x8, x9, x10⟩ : Api_Ring) (a1.getD k6 (⟨0, 0⟩ : Api_RingOp))).bind fun r13 =>
      bif ((r13.2.2 : Int) == 0) then
        bif (((a1.getD k6 (⟨0, 0⟩ : Api_RingOp)).Kind : Int) == 3) then
          if ((l5).length + ([r13.2.1]).length) * 8 ≤ 140737488355328 ∧ (l5).length + ([r13.2.1]).length ≤ 140737488355328 then
          if ((l4).length + ([r13.2.2]).length) * 8 ≤ 140737488355328 ∧ (l4).length + ([r13.2.2]).length ≤ 140737488355328 then
          ring_Play_l1 a1 r1 n1 (l4 ++ [r13.2.2]) (l5 ++ [r13.2.1]) (k6 + 1) r13.1.Cells r13.1.Give r13.1.Take r13.1.Work
          else none
          else none
        else
          if ((l4).length + ([r13.2.2]).length) * 8 ≤ 140737488355328 ∧ (l4).length + ([r13.2.2]).length ≤ 140737488355328 then
          ring_Play_l1 a1 r1 n1 (l4 ++ [r13.2.2]) l5 (k6 + 1) r13.1.Cells r13.1.Give r13.1.Take r13.1.Work
          else none
      else
        if ((l4).length + ([r13.2.2]).length) * 8 ≤ 140737488355328 ∧ (l4).length + ([r13.2.2]).length ≤ 140737488355328 then
        ring_Play_l1 a1 r1 n1 (l4 ++ [r13.2.2]) l5 (k6 + 1) l7 x8 x9 x10
        else none
    else
      some (l4, l5, (⟨l7, x8, x9, x10⟩ : Api_Ring), 0)

def ring_Play (a0 : Int) (a1 : (List Api_RingOp)) : Option ((List Int) × (List Int) × Api_Ring × Int) :=
  (ring_New a0).bind fun r1 =>
  bif ((r1.2 : Int) != 0) then
    some (([] : List Int), ([] : List Int), (⟨([] : List Api_Cell), 0, 0, 0⟩ : Api_Ring), r1.2)
  else
    ring_Play_l1 a1 r1 FUEL ([] : List Int) ([] : List Int) 0 r1.1.Cells r1.1.Give r1.1.Take r1.1.Work


/- slices.Equal(()corebell/api.Errno,corebell/api.Errno) -/
def slices_Equal_api_Errno_l1 (a0 : (List Int)) (a1 : (List Int)) : Nat → Nat → Option (Bool)
  | 0, _ => none
  | n1 + 1, k2 =>
    bif (decide ((((k2 : Nat) : Int) : Int) < ((a0.length : Nat) : Int))) then
      if 0 ≤ (((k2 : Nat) : Int) : Int) ∧ ((k2 : Nat) : Int) < ((a1.length : Nat) : Int) then
      bif (((a0.getD k2 0) : Int) != (a1.getD k2 0)) then
        some false
      else
        slices_Equal_api_Errno_l1 a0 a1 n1 (k2 + 1)
      else none
    else
      some true

def slices_Equal_api_Errno (a0 : (List Int)) (a1 : (List Int)) : Option (Bool) :=
  bif ((((a0.length : Nat) : Int) : Int) != ((a1.length : Nat) : Int)) then
    some false
  else
    slices_Equal_api_Errno_l1 a0 a1 FUEL 0


/- slices.Equal(()int,int) -/
def slices_Equal_int_l1 (a0 : (List Int)) (a1 : (List Int)) : Nat → Nat → Option (Bool)
  | 0, _ => none
  | n1 + 1, k2 =>
    bif (decide ((((k2 : Nat) : Int) : Int) < ((a0.length : Nat) : Int))) then
      if 0 ≤ (((k2 : Nat) : Int) : Int) ∧ ((k2 : Nat) : Int) < ((a1.length : Nat) : Int) then
      bif (((a0.getD k2 0) : Int) != (a1.getD k2 0)) then
        some false
      else
        slices_Equal_int_l1 a0 a1 n1 (k2 + 1)
      else none
    else
      some true

def slices_Equal_int (a0 : (List Int)) (a1 : (List Int)) : Option (Bool) :=
  bif ((((a0.length : Nat) : Int) : Int) != ((a1.length : Nat) : Int)) then
    some false
  else
    slices_Equal_int_l1 a0 a1 FUEL 0


/- corebell/corebellkeep.alive18 -/
def keep_alive18 : Option (Bool) :=
  (ring_Play 2 [(⟨1, 5⟩ : Api_RingOp), (⟨1, 6⟩ : Api_RingOp), (⟨2, 0⟩ : Api_RingOp), (⟨3, 0⟩ : Api_RingOp)]).bind fun r1 =>
  (bif ((r1.2.2.2 : Int) == 0) then slices_Equal_api_Errno r1.1 [0, 7, 0, 0] else some false).bind fun r3 =>
  (bif (((r1.2.2.2 : Int) == 0) && r3) then slices_Equal_int r1.2.1 [(-6)] else some false).bind fun r6 =>
  (bif ((((r1.2.2.2 : Int) == 0) && r3) && r6) then ring_Right r1.2.2.1 else some false).bind fun r9 =>
  some ((((((r1.2.2.2 : Int) == 0) && r3) && r6) && r9) && ((r1.2.2.1.Take : Int) == 1))


/- corebell/corebellref.SameRing -/
def ref_SameRing_l1 (a0 : Api_Ring) (a1 : Api_Ring) : Nat → Nat → Option (Bool)
  | 0, _ => none
  | n1 + 1, k19 =>
    bif (decide ((((k19 : Nat) : Int) : Int) < ((a0.Cells.length : Nat) : Int))) then
      if 0 ≤ (((k19 : Nat) : Int) : Int) ∧ ((k19 : Nat) : Int) < ((a1.Cells.length : Nat) : Int) then
      bif (!((((a0.Cells.getD k19 (⟨false, 0⟩ : Api_Cell)).Device) == ((a1.Cells.getD k19 (⟨false, 0⟩ : Api_Cell)).Device)) && ((((a0.Cells.getD k19 (⟨false, 0⟩ : Api_Cell)).Data : Int) == ((a1.Cells.getD k19 (⟨false, 0⟩ : Api_Cell)).Data)) && true))) then
        some false
      else
        ref_SameRing_l1 a0 a1 n1 (k19 + 1)
      else none
    else
      some true

def ref_SameRing (a0 : Api_Ring) (a1 : Api_Ring) : Option (Bool) :=
  bif (((((a0.Give : Int) != a1.Give) || ((a0.Take : Int) != a1.Take)) || ((a0.Work : Int) != a1.Work)) || ((((a0.Cells.length : Nat) : Int) : Int) != ((a1.Cells.length : Nat) : Int))) then
    some false
  else
    ref_SameRing_l1 a0 a1 FUEL 0


/- corebell/corebellkeep.RingOwn -/
def keep_RingOwn_l1 (a0 : Api_Ring) (a1 : Api_RingOp) (r4 : Api_Ring × Int × Int) : Nat → Int → Nat → Option (Bool)
  | 0, _, _ => none
  | n1 + 1, x19, k20 =>
    bif (decide ((((k20 : Nat) : Int) : Int) < ((a0.Cells.length : Nat) : Int))) then
      if 0 ≤ (((k20 : Nat) : Int) : Int) ∧ ((k20 : Nat) : Int) < ((r4.1.Cells.length : Nat) : Int) then
      bif ((((r4.1.Cells.getD (0 + k20) (⟨false, 0⟩ : Api_Cell)).Device) == ((a0.Cells.getD k20 (⟨false, 0⟩ : Api_Cell)).Device)) && ((((r4.1.Cells.getD (0 + k20) (⟨false, 0⟩ : Api_Cell)).Data : Int) == ((a0.Cells.getD k20 (⟨false, 0⟩ : Api_Cell)).Data)) && true)) then
        keep_RingOwn_l1 a0 a1 r4 n1 x19 (k20 + 1)
      else
        if ((!(((a0.Cells.getD k20 (⟨false, 0⟩ : Api_Cell)).Device) != ((a1.Kind : Int) == 2))) = true → (0 ≤ (((k20 : Nat) : Int) : Int) ∧ ((k20 : Nat) : Int) < ((r4.1.Cells.length : Nat) : Int))) then
        bif ((((a0.Cells.getD k20 (⟨false, 0⟩ : Api_Cell)).Device) != ((a1.Kind : Int) == 2)) || (((r4.1.Cells.getD (0 + k20) (⟨false, 0⟩ : Api_Cell)).Device) != ((a1.Kind : Int) == 1))) then
          some false
        else
          keep_RingOwn_l1 a0 a1 r4 n1 (IntKind.i64.wrap (x19 + 1)) (k20 + 1)
        else none
      else none
    else
      some (decide ((x19 : Int) ≤ 1))

def keep_RingOwn (a0 : Api_Ring) (a1 : Api_RingOp) : Option (Bool) :=
  (keep_alive18).bind fun r1 =>
  bif (!r1) then
    some false
  else
    (ring_Step a0 a1).bind fun r4 =>
    bif ((r4.2.2 : Int) != 0) then
      (ref_SameRing r4.1 (⟨([] : List Api_Cell), 0, 0, 0⟩ : Api_Ring)).bind fun r7 =>
      some r7
    else
      (ring_Right r4.1).bind fun r9 =>
      bif ((!r9) || ((((r4.1.Cells.length : Nat) : Int) : Int) != ((a0.Cells.length : Nat) : Int))) then
        some false
      else
        keep_RingOwn_l1 a0 a1 r4 FUEL 0 0


/- corebell/corebellkeep.RingOrder -/
def keep_RingOrder_l3 (l43 : List Int) (x44 : Int) (x45 : Int) (x46 : Int) (l47 : List Api_Cell) (K3_0 : (List Int) → Nat → (List Api_Cell) → Int → Int → Int → Option (Bool)) : Nat → List Int → Nat → List Api_Cell → Int → Int → Int → Option (Bool)
  | 0, _, _, _, _, _, _ => none
  | n3 + 1, l49, k50, l51, x52, x53, x54 =>
    bif (decide ((((k50 : Nat) : Int) : Int) < ((2 : Nat) : Int))) then
      if 0 ≤ (((k50 : Nat) : Int) : Int) ∧ ((k50 : Nat) : Int) < (([2, 3].length : Nat) : Int) then
      (ring_Step (⟨l51, x52, x53, x54⟩ : Api_Ring) (⟨([2, 3].getD (0 + k50) 0), 0⟩ : Api_RingOp)).bind fun r57 =>
      bif ((r57.2.2 : Int) != 0) then
        keep_RingOrder_l3 l43 x44 x45 x46 l47 K3_0 n3 l49 (k50 + 1) l51 x52 x53 x54
      else
        bif ((([2, 3].getD (0 + k50) 0) : Int) == 3) then
          if ((l49).length + ([r57.2.1]).length) * 8 ≤ 140737488355328 ∧ (l49).length + ([r57.2.1]).length ≤ 140737488355328 then
          keep_RingOrder_l3 l43 x44 x45 x46 l47 K3_0 n3 (l49 ++ [r57.2.1]) (k50 + 1) r57.1.Cells r57.1.Give r57.1.Take r57.1.Work
          else none
        else
          keep_RingOrder_l3 l43 x44 x45 x46 l47 K3_0 n3 l49 (k50 + 1) r57.1.Cells r57.1.Give r57.1.Take r57.1.Work
      else none
    else
      K3_0 l49 k50 l51 x52 x53 x54

def keep_RingOrder_l2 (a0 : Int) (r4 : (List Int) × (List Int) × Api_Ring × Int) (l15 : List Int) : Nat → Int → List Int → Int → Int → Int → List Api_Cell → Option (Bool)
  | 0, _, _, _, _, _, _ => none
  | n2 + 1, x42, l43, x44, x45, x46, l47 =>
    bif (decide ((x42 : Int) < (IntKind.i64.wrap (3 * a0)))) then
      keep_RingOrder_l3 l43 x44 x45 x46 l47 (fun (l49 : List Int) (k50 : Nat) (l51 : List Api_Cell) (x52 : Int) (x53 : Int) (x54 : Int) =>
          keep_RingOrder_l2 a0 r4 l15 n2 (IntKind.i64.wrap (x42 + 1)) l49 x52 x53 x54 l51
        ) FUEL l43 0 l47 x44 x45 x46
    else
      (slices_Equal_int l43 l15).bind fun r62 =>
      some r62

def keep_RingOrder_l1 (a0 : Int) (a1 : (List Api_RingOp)) (r4 : (List Int) × (List Int) × Api_Ring × Int) : Nat → List Int → Nat → Option (Bool)
  | 0, _, _ => none
  | n1 + 1, l15, k16 =>
    bif (decide ((((k16 : Nat) : Int) : Int) < ((a1.length : Nat) : Int))) then
      if 0 ≤ (((k16 : Nat) : Int) : Int) ∧ ((k16 : Nat) : Int) < ((r4.1.length : Nat) : Int) then
      bif ((((r4.1.getD (0 + k16) 0) : Int) == 0) && (((a1.getD k16 (⟨0, 0⟩ : Api_RingOp)).Kind : Int) == 1)) then
        if ((l15).length + ([(bitsOf .xor .i64 (if IntKind.i64.signed then -1 else IntKind.i64.max) ((a1.getD k16 (⟨0, 0⟩ : Api_RingOp)).Data))]).length) * 8 ≤ 140737488355328 ∧ (l15).length + ([(bitsOf .xor .i64 (if IntKind.i64.signed then -1 else IntKind.i64.max) ((a1.getD k16 (⟨0, 0⟩ : Api_RingOp)).Data))]).length ≤ 140737488355328 then
        keep_RingOrder_l1 a0 a1 r4 n1 (l15 ++ [(bitsOf .xor .i64 (if IntKind.i64.signed then -1 else IntKind.i64.max) ((a1.getD k16 (⟨0, 0⟩ : Api_RingOp)).Data))]) (k16 + 1)
        else none
      else
        keep_RingOrder_l1 a0 a1 r4 n1 l15 (k16 + 1)
      else none
    else
      (ring_Right r4.2.2.1).bind fun r25 =>
      if ((!((!r25) || (decide ((((r4.2.1.length : Nat) : Int) : Int) > ((l15.length : Nat) : Int))))) = true → (0 ≤ (((r4.2.1.length : Nat) : Int) : Int))) then
      if ((!((!r25) || (decide ((((r4.2.1.length : Nat) : Int) : Int) > ((l15.length : Nat) : Int))))) = true → (r4.2.1.length ≤ l15.length)) then
      (bif (!((!r25) || (decide ((((r4.2.1.length : Nat) : Int) : Int) > ((l15.length : Nat) : Int))))) then slices_Equal_int r4.2.1 ((l15.drop (0 + 0)).take (r4.2.1.length - 0)) else some false).bind fun r37 =>
      bif (((!r25) || (decide ((((r4.2.1.length : Nat) : Int) : Int) > ((l15.length : Nat) : Int)))) || (!r37)) then
        some false
      else
        keep_RingOrder_l2 a0 r4 l15 FUEL 0 r4.2.1 r4.2.2.1.Give r4.2.2.1.Take r4.2.2.1.Work r4.2.2.1.Cells
      else none
      else none

def keep_RingOrder (a0 : Int) (a1 : (List Api_RingOp)) : Option (Bool) :=
  (keep_alive18).bind fun r1 =>
  bif (!r1) then
    some false
  else
    (ring_Play a0 a1).bind fun r4 =>
    bif (((r4.2.2.2 : Int) != 0) || ((((r4.1.length : Nat) : Int) : Int) != ((a1.length : Nat) : Int))) then
      some (((r4.2.2.2 : Int) != 0) && ((((r4.1.length : Nat) : Int) : Int) == 0))
    else
      keep_RingOrder_l1 a0 a1 r4 FUEL ([] : List Int) 0


end Go.Proofs.Ytgelldlehahabaa
