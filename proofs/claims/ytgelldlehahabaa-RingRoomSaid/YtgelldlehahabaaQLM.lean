/- The models of the functions: printed by program. -/
import Derived.Test.YtgelldlehahabaaAbYg
set_option linter.unusedSimpArgs false
set_option linter.unusedVariables false
namespace Go.Proofs.Ytgelldlehahabaa
open Go Go.Ab

structure Api_RingOp where
  Kind : Int
  Data : Int
deriving DecidableEq

structure Api_Cell where
  Device : Bool
  Data : Int
deriving DecidableEq

structure Api_Ring where
  Cells : (List Api_Cell)
  Give : Int
  Take : Int
  Work : Int
deriving DecidableEq


/- corebell/ring.New -/
def ring_New (a0 : Int) : Option (Api_Ring × Int) :=
  bif ((decide ((a0 : Int) < 2)) || (decide ((a0 : Int) > 64))) then
    some ((⟨([] : List Api_Cell), 0, 0, 0⟩ : Api_Ring), 2)
  else
    if 0 ≤ (a0 : Int) ∧ (Int.toNat a0) * 16 ≤ 140737488355328 ∧ (Int.toNat a0) ≤ 140737488355328 then
    some ((⟨(List.replicate (Int.toNat a0) (⟨false, 0⟩ : Api_Cell)), 0, 0, 0⟩ : Api_Ring), 0)
    else none


/- corebell/ring.ahead -/
def ring_ahead (a0 : Api_Ring) (a1 : Int) (a2 : Int) : Option (Int) :=
  if (((a0.Cells.length : Nat) : Int) : Int) ≠ 0 then
  some (Int.tmod (IntKind.i64.wrap ((IntKind.i64.wrap (a2 - a1)) + ((a0.Cells.length : Nat) : Int))) ((a0.Cells.length : Nat) : Int))
  else none


/- corebell/ring.Right -/
def ring_Right_l1 (a0 : Api_Ring) : Nat → Nat → Option (Bool)
  | 0, _ => none
  | n1 + 1, k32 =>
    bif (decide ((((k32 : Nat) : Int) : Int) < ((a0.Cells.length : Nat) : Int))) then
      (ring_ahead a0 a0.Take ((k32 : Nat) : Int)).bind fun r35 =>
      (ring_ahead a0 a0.Take a0.Work).bind fun r37 =>
      (bif (decide ((r35 : Int) ≥ r37)) then ring_ahead a0 a0.Take a0.Give else some 0).bind fun r41 =>
      (bif (!(((a0.Cells.getD k32 (⟨false, 0⟩ : Api_Cell)).Device) != ((decide ((r35 : Int) ≥ r37)) && (decide ((r35 : Int) < r41))))) then ring_ahead a0 a0.Take a0.Give else some 0).bind fun r48 =>
      bif ((((a0.Cells.getD k32 (⟨false, 0⟩ : Api_Cell)).Device) != ((decide ((r35 : Int) ≥ r37)) && (decide ((r35 : Int) < r41)))) || ((decide ((r35 : Int) ≥ r48)) && (((a0.Cells.getD k32 (⟨false, 0⟩ : Api_Cell)).Data : Int) != 0))) then
        some false
      else
        ring_Right_l1 a0 n1 (k32 + 1)
    else
      some true

def ring_Right (a0 : Api_Ring) : Option (Bool) :=
  (bif (!((((decide ((((a0.Cells.length : Nat) : Int) : Int) < 2)) || (decide ((((a0.Cells.length : Nat) : Int) : Int) > 64))) || (decide (((if (a0.Work : Int) < (if (a0.Take : Int) < a0.Give then a0.Take else a0.Give) then a0.Work else (if (a0.Take : Int) < a0.Give then a0.Take else a0.Give)) : Int) < 0))) || (decide (((if (a0.Work : Int) > (if (a0.Take : Int) > a0.Give then a0.Take else a0.Give) then a0.Work else (if (a0.Take : Int) > a0.Give then a0.Take else a0.Give)) : Int) ≥ ((a0.Cells.length : Nat) : Int))))) then ring_ahead a0 a0.Take a0.Work else some 0).bind fun r22 =>
  (bif (!((((decide ((((a0.Cells.length : Nat) : Int) : Int) < 2)) || (decide ((((a0.Cells.length : Nat) : Int) : Int) > 64))) || (decide (((if (a0.Work : Int) < (if (a0.Take : Int) < a0.Give then a0.Take else a0.Give) then a0.Work else (if (a0.Take : Int) < a0.Give then a0.Take else a0.Give)) : Int) < 0))) || (decide (((if (a0.Work : Int) > (if (a0.Take : Int) > a0.Give then a0.Take else a0.Give) then a0.Work else (if (a0.Take : Int) > a0.Give then a0.Take else a0.Give)) : Int) ≥ ((a0.Cells.length : Nat) : Int))))) then ring_ahead a0 a0.Take a0.Give else some 0).bind fun r26 =>
  bif (((((decide ((((a0.Cells.length : Nat) : Int) : Int) < 2)) || (decide ((((a0.Cells.length : Nat) : Int) : Int) > 64))) || (decide (((if (a0.Work : Int) < (if (a0.Take : Int) < a0.Give then a0.Take else a0.Give) then a0.Work else (if (a0.Take : Int) < a0.Give then a0.Take else a0.Give)) : Int) < 0))) || (decide (((if (a0.Work : Int) > (if (a0.Take : Int) > a0.Give then a0.Take else a0.Give) then a0.Work else (if (a0.Take : Int) > a0.Give then a0.Take else a0.Give)) : Int) ≥ ((a0.Cells.length : Nat) : Int)))) || (decide ((r22 : Int) > r26))) then
    some false
  else
    ring_Right_l1 a0 FUEL 0


/- slices.Clone(()corebell/api.Cell,corebell/api.Cell) -/
def slices_Clone_api_Cell (a0 : List Api_Cell) : Option (List Api_Cell) := if a0.length * 16 ≤ 140737488355328 then some a0 else none

/- corebell/ring.Step -/
def ring_Step (a0 : Api_Ring) (a1 : Api_RingOp) : Option (Api_Ring × Int × Int) :=
  (ring_Right a0).bind fun r1 =>
  bif (!r1) then
    some ((⟨([] : List Api_Cell), 0, 0, 0⟩ : Api_Ring), 0, 1)
  else
    (slices_Clone_api_Cell a0.Cells).bind fun r4 =>
    bif ((a1.Kind : Int) == 1) then
      (ring_ahead a0 a0.Take a0.Give).bind fun r7 =>
      bif ((r7 : Int) == (IntKind.i64.wrap (((a0.Cells.length : Nat) : Int) - 1))) then
        some ((⟨([] : List Api_Cell), 0, 0, 0⟩ : Api_Ring), 0, 7)
      else
        if 0 ≤ (a0.Give : Int) ∧ a0.Give < ((r4.length : Nat) : Int) then
        if (((a0.Cells.length : Nat) : Int) : Int) ≠ 0 then
        some ((⟨(r4.set (0 + (Int.toNat a0.Give)) (⟨true, a1.Data⟩ : Api_Cell)), (Int.tmod (IntKind.i64.wrap (a0.Give + 1)) ((a0.Cells.length : Nat) : Int)), a0.Take, a0.Work⟩ : Api_Ring), 0, 0)
        else none
        else none
    else
      bif ((a1.Kind : Int) == 2) then
        bif ((a0.Work : Int) == a0.Give) then
          some ((⟨([] : List Api_Cell), 0, 0, 0⟩ : Api_Ring), 0, 3)
        else
          if 0 ≤ (a0.Work : Int) ∧ a0.Work < ((a0.Cells.length : Nat) : Int) then
          if 0 ≤ (a0.Work : Int) ∧ a0.Work < ((r4.length : Nat) : Int) then
          if (((a0.Cells.length : Nat) : Int) : Int) ≠ 0 then
          some ((⟨(r4.set (0 + (Int.toNat a0.Work)) (⟨false, (bitsOf .xor .i64 (if IntKind.i64.signed then -1 else IntKind.i64.max) ((a0.Cells.getD (Int.toNat a0.Work) (⟨false, 0⟩ : Api_Cell)).Data))⟩ : Api_Cell)), a0.Give, a0.Take, (Int.tmod (IntKind.i64.wrap (a0.Work + 1)) ((a0.Cells.length : Nat) : Int))⟩ : Api_Ring), 0, 0)
          else none
          else none
          else none
      else
        bif ((a1.Kind : Int) == 3) then
          bif ((a0.Take : Int) == a0.Work) then
            some ((⟨([] : List Api_Cell), 0, 0, 0⟩ : Api_Ring), 0, 3)
          else
            if 0 ≤ (a0.Take : Int) ∧ a0.Take < ((a0.Cells.length : Nat) : Int) then
            if 0 ≤ (a0.Take : Int) ∧ a0.Take < ((r4.length : Nat) : Int) then
            if (((a0.Cells.length : Nat) : Int) : Int) ≠ 0 then
            some ((⟨(r4.set (0 + (Int.toNat a0.Take)) (⟨false, 0⟩ : Api_Cell)), a0.Give, (Int.tmod (IntKind.i64.wrap (a0.Take + 1)) ((a0.Cells.length : Nat) : Int)), a0.Work⟩ : Api_Ring), (a0.Cells.getD (Int.toNat a0.Take) (⟨false, 0⟩ : Api_Cell)).Data, 0)
            else none
            else none
            else none
        else
          some ((⟨([] : List Api_Cell), 0, 0, 0⟩ : Api_Ring), 0, 5)


/- corebell/ring.Play -/
def ring_Play_l1 (a1 : (List Api_RingOp)) (r1 : Api_Ring × Int) : Nat → List Int → List Int → Nat → List Api_Cell → Int → Int → Int → Option ((List Int) × (List Int) × Api_Ring × Int)
  | 0, _, _, _, _, _, _, _ => none
  | n1 + 1, l4, l5, k6, l7, x8, x9, x10 =>
    bif (decide ((((k6 : Nat) : Int) : Int) < ((a1.length : Nat) : Int))) then
      (ring_Step (⟨l7, x8, x9, x10⟩ : Api_Ring) (a1.getD k6 (⟨0, 0⟩ : Api_RingOp))).bind fun r13 =>
      bif ((r13.2.2 : Int) == 0) then
        bif (((a1.getD k6 (⟨0, 0⟩ : Api_RingOp)).Kind : Int) == 3) then
          if ((l5).length + ([r13.2.1]).length) * 8 ≤ 140737488355328 ∧ (l5).length + ([r13.2.1]).length ≤ 140737488355328 then
          if ((l4).length + ([r13.2.2]).length) * 8 ≤ 140737488355328 ∧ (l4).length + ([r13.2.2]).length ≤ 140737488355328 then
          ring_Play_l1 a1 r1 n1 (l4 ++ [r13.2.2]) (l5 ++ [r13.2.1]) (k6 + 1) r13.1.Cells r13.1.Give r13.1.Take r13.1.Work
          else none
          else none
        else
          if ((l4).length + ([r13.2.2]).length) * 8 ≤ 140737488355328 ∧ (l4).length + ([r13.2.2]).length ≤ 140737488355328 then
          ring_Play_l1 a1 r1 n1 (l4 ++ [r13.2.2]) l5 (k6 + 1) r13.1.Cells r13.1.Give r13.1.Take r13.1.Work
          else none
      else
        if ((l4).length + ([r13.2.2]).length) * 8 ≤ 140737488355328 ∧ (l4).length + ([r13.2.2]).length ≤ 140737488355328 then
        ring_Play_l1 a1 r1 n1 (l4 ++ [r13.2.2]) l5 (k6 + 1) l7 x8 x9 x10
        else none
    else
      some (l4, l5, (⟨l7, x8, x9, x10⟩ : Api_Ring), 0)

def ring_Play (a0 : Int) (a1 : (List Api_RingOp)) : Option ((List Int) × (List Int) × Api_Ring × Int) :=
  (ring_New a0).bind fun r1 =>
  bif ((r1.2 : Int) != 0) then
    some (([] : List Int), ([] : List Int), (⟨([] : List Api_Cell), 0, 0, 0⟩ : Api_Ring), r1.2)
  else
    ring_Play_l1 a1 r1 FUEL ([] : List Int) ([] : List Int) 0 r1.1.Cells r1.1.Give r1.1.Take r1.1.Work


/- slices.Equal(()corebell/api.Errno,corebell/api.Errno) -/
def slices_Equal_api_Errno_l1 (a0 : (List Int)) (a1 : (List Int)) : Nat → Nat → Option (Bool)
  | 0, _ => none
  | n1 + 1, k2 =>
    bif (decide ((((k2 : Nat) : Int) : Int) < ((a0.length : Nat) : Int))) then
      if 0 ≤ (((k2 : Nat) : Int) : Int) ∧ ((k2 : Nat) : Int) < ((a1.length : Nat) : Int) then
      bif (((a0.getD k2 0) : Int) != (a1.getD k2 0)) then
        some false
      else
        slices_Equal_api_Errno_l1 a0 a1 n1 (k2 + 1)
      else none
    else
      some true

def slices_Equal_api_Errno (a0 : (List Int)) (a1 : (List Int)) : Option (Bool) :=
  bif ((((a0.length : Nat) : Int) : Int) != ((a1.length : Nat) : Int)) then
    some false
  else
    slices_Equal_api_Errno_l1 a0 a1 FUEL 0


/- slices.Equal(()int,int) -/
def slices_Equal_int_l1 (a0 : (List Int)) (a1 : (List Int)) : Nat → Nat → Option (Bool)
  | 0, _ => none
  | n1 + 1, k2 =>
    bif (decide ((((k2 : Nat) : Int) : Int) < ((a0.length : Nat) : Int))) then
      if 0 ≤ (((k2 : Nat) : Int) : Int) ∧ ((k2 : Nat) : Int) < ((a1.length : Nat) : Int) then
      bif (((a0.getD k2 0) : Int) != (a1.getD k2 0)) then
        some false
      else
        slices_Equal_int_l1 a0 a1 n1 (k2 + 1)
      else none
    else
      some true

def slices_Equal_int (a0 : (List Int)) (a1 : (List Int)) : Option (Bool) :=
  bif ((((a0.length : Nat) : Int) : Int) != ((a1.length : Nat) : Int)) then
    some false
  else
    slices_Equal_int_l1 a0 a1 FUEL 0


/- corebell/corebellkeep.alive18 -/
def keep_alive18 : Option (Bool) :=
  (ring_Play 2 [(⟨1, 5⟩ : Api_RingOp), (⟨1, 6⟩ : Api_RingOp), (⟨2, 0⟩ : Api_RingOp), (⟨3, 0⟩ : Api_RingOp)]).bind fun r1 =>
  (bif ((r1.2.2.2 : Int) == 0) then slices_Equal_api_Errno r1.1 [0, 7, 0, 0] else some false).bind fun r3 =>
  (bif (((r1.2.2.2 : Int) == 0) && r3) then slices_Equal_int r1.2.1 [(-6)] else some false).bind fun r6 =>
  (bif ((((r1.2.2.2 : Int) == 0) && r3) && r6) then ring_Right r1.2.2.1 else some false).bind fun r9 =>
  some ((((((r1.2.2.2 : Int) == 0) && r3) && r6) && r9) && ((r1.2.2.1.Take : Int) == 1))


/- math/bits.Mul32 -/
def math_bits_Mul32 (a0 : Int) (a1 : Int) : Option (Int × Int) :=
  some ((IntKind.u32.wrap (Int.fdiv (IntKind.u64.wrap ((IntKind.u64.wrap a0) * (IntKind.u64.wrap a1))) (2 ^ (min (Int.toNat 32) IntKind.u64.bits)))), (IntKind.u32.wrap (IntKind.u64.wrap ((IntKind.u64.wrap a0) * (IntKind.u64.wrap a1)))))


/- math/bits.Mul64 -/
def math_bits_Mul64 (a0 : Int) (a1 : Int) : Option (Int × Int) :=
  some ((IntKind.u64.wrap ((IntKind.u64.wrap ((IntKind.u64.wrap ((Int.fdiv a0 (2 ^ (min (Int.toNat 32) IntKind.u64.bits))) * (Int.fdiv a1 (2 ^ (min (Int.toNat 32) IntKind.u64.bits))))) + (Int.fdiv (IntKind.u64.wrap ((IntKind.u64.wrap ((Int.fdiv a0 (2 ^ (min (Int.toNat 32) IntKind.u64.bits))) * (bitsOf .and .u64 a1 4294967295))) + (Int.fdiv (IntKind.u64.wrap ((bitsOf .and .u64 a0 4294967295) * (bitsOf .and .u64 a1 4294967295))) (2 ^ (min (Int.toNat 32) IntKind.u64.bits))))) (2 ^ (min (Int.toNat 32) IntKind.u64.bits))))) + (Int.fdiv (IntKind.u64.wrap ((bitsOf .and .u64 (IntKind.u64.wrap ((IntKind.u64.wrap ((Int.fdiv a0 (2 ^ (min (Int.toNat 32) IntKind.u64.bits))) * (bitsOf .and .u64 a1 4294967295))) + (Int.fdiv (IntKind.u64.wrap ((bitsOf .and .u64 a0 4294967295) * (bitsOf .and .u64 a1 4294967295))) (2 ^ (min (Int.toNat 32) IntKind.u64.bits))))) 4294967295) + (IntKind.u64.wrap ((bitsOf .and .u64 a0 4294967295) * (Int.fdiv a1 (2 ^ (min (Int.toNat 32) IntKind.u64.bits))))))) (2 ^ (min (Int.toNat 32) IntKind.u64.bits))))), (IntKind.u64.wrap (a0 * a1)))


/- math/bits.Mul -/
def math_bits_Mul (a0 : Int) (a1 : Int) : Option (Int × Int) :=
  bif false then
    (math_bits_Mul32 (IntKind.u32.wrap a0) (IntKind.u32.wrap a1)).bind fun r2 =>
    some ((IntKind.u64.wrap r2.1), (IntKind.u64.wrap r2.2))
  else
    (math_bits_Mul64 a0 a1).bind fun r4 =>
    some (r4.1, r4.2)


/- slices.Repeat(()corebell/api.RingOp,corebell/api.RingOp) -/
def slices_Repeat_api_RingOp_l1 (a0 : (List Api_RingOp)) (r2 : Int × Int) : Nat → Int → List Api_RingOp → Option ((List Api_RingOp))
  | 0, _, _ => none
  | n1 + 1, x9, l10 =>
    bif (decide ((x9 : Int) < ((l10.length : Nat) : Int))) then
      if 0 ≤ (x9 : Int) then
      if (Int.toNat x9) ≤ l10.length then
      if 0 ≤ (x9 : Int) then
      if (Int.toNat x9) ≤ l10.length then
      if (0 + (Int.toNat x9)) + (l10.length - (Int.toNat x9)) ≤ l10.length ∧ (0 + 0) + ((Int.toNat x9) - 0) ≤ l10.length then
      slices_Repeat_api_RingOp_l1 a0 r2 n1 (IntKind.i64.wrap (x9 + (((min ((l10.drop (0 + 0)).take ((Int.toNat x9) - 0)).length (l10.length - (Int.toNat x9))) : Nat) : Int))) (cpL l10 (0 + (Int.toNat x9)) (min ((l10.drop (0 + 0)).take ((Int.toNat x9) - 0)).length (l10.length - (Int.toNat x9))) ((l10.drop (0 + 0)).take ((Int.toNat x9) - 0)))
      else none
      else none
      else none
      else none
      else none
    else
      some l10

def slices_Repeat_api_RingOp (a0 : (List Api_RingOp)) (a1 : Int) : Option ((List Api_RingOp)) :=
  bif (decide ((a1 : Int) < 0)) then
    none
  else
    (math_bits_Mul (IntKind.u64.wrap ((a0.length : Nat) : Int)) (IntKind.u64.wrap a1)).bind fun r2 =>
    bif ((decide ((r2.1 : Int) > 0)) || (decide ((r2.2 : Int) > 9223372036854775807))) then
      none
    else
      if 0 ≤ ((IntKind.i64.wrap r2.2) : Int) ∧ (Int.toNat (IntKind.i64.wrap r2.2)) * 16 ≤ 140737488355328 ∧ (Int.toNat (IntKind.i64.wrap r2.2)) ≤ 140737488355328 then
      if 0 + (Int.toNat (IntKind.i64.wrap r2.2)) ≤ (List.replicate (Int.toNat (IntKind.i64.wrap r2.2)) (⟨0, 0⟩ : Api_RingOp)).length then
      slices_Repeat_api_RingOp_l1 a0 r2 FUEL (((min a0.length (Int.toNat (IntKind.i64.wrap r2.2))) : Nat) : Int) (cpL (List.replicate (Int.toNat (IntKind.i64.wrap r2.2)) (⟨0, 0⟩ : Api_RingOp)) 0 (min a0.length (Int.toNat (IntKind.i64.wrap r2.2))) a0)
      else none
      else none


/- corebell/corebellkeep.RingRoom -/
def keep_RingRoom (a0 : Int) (a1 : Int) : Option (Bool) :=
  (keep_alive18).bind fun r1 =>
  bif (!r1) then
    some false
  else
    bif ((decide ((a0 : Int) < 2)) || (decide ((a0 : Int) > 64))) then
      some true
    else
      (slices_Repeat_api_RingOp [(⟨1, a1⟩ : Api_RingOp)] a0).bind fun r7 =>
      if ((r7).length + ([(⟨2, 0⟩ : Api_RingOp), (⟨1, 0⟩ : Api_RingOp), (⟨3, 0⟩ : Api_RingOp), (⟨1, 0⟩ : Api_RingOp)]).length) * 16 ≤ 140737488355328 ∧ (r7).length + ([(⟨2, 0⟩ : Api_RingOp), (⟨1, 0⟩ : Api_RingOp), (⟨3, 0⟩ : Api_RingOp), (⟨1, 0⟩ : Api_RingOp)]).length ≤ 140737488355328 then
      (ring_Play a0 (r7 ++ [(⟨2, 0⟩ : Api_RingOp), (⟨1, 0⟩ : Api_RingOp), (⟨3, 0⟩ : Api_RingOp), (⟨1, 0⟩ : Api_RingOp)])).bind fun r10 =>
      if 0 ≤ ((IntKind.i64.wrap (a0 + 4)) : Int) ∧ (Int.toNat (IntKind.i64.wrap (a0 + 4))) * 8 ≤ 140737488355328 ∧ (Int.toNat (IntKind.i64.wrap (a0 + 4))) ≤ 140737488355328 then
      if 0 ≤ ((IntKind.i64.wrap (a0 - 1)) : Int) ∧ (IntKind.i64.wrap (a0 - 1)) < (((Int.toNat (IntKind.i64.wrap (a0 + 4))) : Nat) : Int) then
      if 0 ≤ ((IntKind.i64.wrap (a0 + 1)) : Int) ∧ (IntKind.i64.wrap (a0 + 1)) < (((Int.toNat (IntKind.i64.wrap (a0 + 4))) : Nat) : Int) then
      (bif ((r10.2.2.2 : Int) == 0) then slices_Equal_api_Errno r10.1 (((List.replicate (Int.toNat (IntKind.i64.wrap (a0 + 4))) (0 : Int)).set (0 + (Int.toNat (IntKind.i64.wrap (a0 - 1)))) 7).set (0 + (Int.toNat (IntKind.i64.wrap (a0 + 1)))) 7) else some false).bind fun r15 =>
      some (((r10.2.2.2 : Int) == 0) && r15)
      else none
      else none
      else none
      else none


end Go.Proofs.Ytgelldlehahabaa
