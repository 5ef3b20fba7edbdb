/- The models of the functions: printed by program. -/
import Derived.Test.YtfnhanmdfbdimaaDoorAbYg
import Derived.Lib.BitFns
set_option linter.unusedSimpArgs false
set_option linter.unusedVariables false
namespace Go.Proofs.YtfnhanmdfbdimaaDoor
open Go Go.Ab


/- corebell/bits.fits -/
def bits_fits (a0 : Int) : Option (Bool) :=
  some ((decide ((a0 : Int) ≥ 0)) && (decide ((a0 : Int) < 256)))


/- corebell/bits.With -/
def bits_With (a0 : (Nat → Int)) (a1 : Int) : Option ((Nat → Int)) :=
  (bits_fits a1).bind fun r1 =>
  bif r1 then
    if 0 ≤ ((IntKind.i64.wrap (Int.tdiv a1 64)) : Int) ∧ (IntKind.i64.wrap (Int.tdiv a1 64)) < ((4 : Nat) : Int) then
    if 0 ≤ ((Int.tmod a1 64) : Int) then
    if 0 ≤ ((IntKind.i64.wrap (Int.tdiv a1 64)) : Int) ∧ (IntKind.i64.wrap (Int.tdiv a1 64)) < ((4 : Nat) : Int) then
    some (upd a0 (Int.toNat (IntKind.i64.wrap (Int.tdiv a1 64))) (bitsOf .or .u64 (a0 (Int.toNat (IntKind.i64.wrap (Int.tdiv a1 64)))) (IntKind.u64.wrap (1 * 2 ^ (min (Int.toNat (Int.tmod a1 64)) IntKind.u64.bits)))))
    else none
    else none
    else none
  else
    some a0


/- math/bits.LeadingZeros64 -/
def bits_LeadingZeros64 (a0 : Int) : Option Int := if 0 ≤ a0 ∧ a0 < 18446744073709551616 then some (64 - ((Lib.bitLen a0.toNat : Nat) : Int)) else none

/- corebell/bits.Top -/
def bits_Top_l1 (a0 : (Nat → Int)) : Nat → Int → Option (Int)
  | 0, _ => none
  | n1 + 1, x1 =>
    bif (decide ((x1 : Int) ≥ 0)) then
      if 0 ≤ (x1 : Int) ∧ x1 < ((4 : Nat) : Int) then
      bif (((a0 (Int.toNat x1)) : Int) != 0) then
        if 0 ≤ (x1 : Int) ∧ x1 < ((4 : Nat) : Int) then
        (bits_LeadingZeros64 (a0 (Int.toNat x1))).bind fun r6 =>
        some (IntKind.i64.wrap ((IntKind.i64.wrap ((IntKind.i64.wrap (64 * x1)) + 63)) - r6))
        else none
      else
        bits_Top_l1 a0 n1 (IntKind.i64.wrap (x1 - 1))
      else none
    else
      some (-1)

def bits_Top (a0 : (Nat → Int)) : Option (Int) :=
  bits_Top_l1 a0 FUEL 3


/- math/bits.TrailingZeros64 -/
def bits_TrailingZeros64 (a0 : Int) : Option Int := if 0 ≤ a0 ∧ a0 < 18446744073709551616 then some ((Lib.ctz 64 a0.toNat : Nat) : Int) else none

/- corebell/bits.Next -/
def bits_Next_l1 (a0 : (Nat → Int)) (a1 : Int) : Nat → Int → Option (Int)
  | 0, _ => none
  | n1 + 1, x10 =>
    bif (decide ((x10 : Int) < 4)) then
      if 0 ≤ (x10 : Int) ∧ x10 < ((4 : Nat) : Int) then
      bif ((((upd a0 (Int.toNat (IntKind.i64.wrap (Int.tdiv (if (0 : Int) > a1 then 0 else a1) 64))) (bitsOf .andNot .u64 (a0 (Int.toNat (IntKind.i64.wrap (Int.tdiv (if (0 : Int) > a1 then 0 else a1) 64)))) (IntKind.u64.wrap ((IntKind.u64.wrap (1 * 2 ^ (min (Int.toNat (Int.tmod (if (0 : Int) > a1 then 0 else a1) 64)) IntKind.u64.bits))) - 1)))) (Int.toNat x10)) : Int) != 0) then
        if 0 ≤ (x10 : Int) ∧ x10 < ((4 : Nat) : Int) then
        (bits_TrailingZeros64 ((upd a0 (Int.toNat (IntKind.i64.wrap (Int.tdiv (if (0 : Int) > a1 then 0 else a1) 64))) (bitsOf .andNot .u64 (a0 (Int.toNat (IntKind.i64.wrap (Int.tdiv (if (0 : Int) > a1 then 0 else a1) 64)))) (IntKind.u64.wrap ((IntKind.u64.wrap (1 * 2 ^ (min (Int.toNat (Int.tmod (if (0 : Int) > a1 then 0 else a1) 64)) IntKind.u64.bits))) - 1)))) (Int.toNat x10))).bind fun r15 =>
        some (IntKind.i64.wrap ((IntKind.i64.wrap (64 * x10)) + r15))
        else none
      else
        bits_Next_l1 a0 a1 n1 (IntKind.i64.wrap (x10 + 1))
      else none
    else
      some (-1)

def bits_Next (a0 : (Nat → Int)) (a1 : Int) : Option (Int) :=
  (bits_fits (if (0 : Int) > a1 then 0 else a1)).bind fun r1 =>
  bif (!r1) then
    some (-1)
  else
    if 0 ≤ ((IntKind.i64.wrap (Int.tdiv (if (0 : Int) > a1 then 0 else a1) 64)) : Int) ∧ (IntKind.i64.wrap (Int.tdiv (if (0 : Int) > a1 then 0 else a1) 64)) < ((4 : Nat) : Int) then
    if 0 ≤ ((Int.tmod (if (0 : Int) > a1 then 0 else a1) 64) : Int) then
    if 0 ≤ ((IntKind.i64.wrap (Int.tdiv (if (0 : Int) > a1 then 0 else a1) 64)) : Int) ∧ (IntKind.i64.wrap (Int.tdiv (if (0 : Int) > a1 then 0 else a1) 64)) < ((4 : Nat) : Int) then
    bits_Next_l1 a0 a1 FUEL (IntKind.i64.wrap (Int.tdiv (if (0 : Int) > a1 then 0 else a1) 64))
    else none
    else none
    else none


/- corebell/bits.All -/
def bits_All_l1 (a0 : (Nat → Int)) (r1 : Int) : Nat → List Int → Int → Option ((List Int))
  | 0, _, _ => none
  | n1 + 1, l3, x4 =>
    bif (decide ((x4 : Int) ≥ 0)) then
      if ((l3).length + ([x4]).length) * 8 ≤ 140737488355328 ∧ (l3).length + ([x4]).length ≤ 140737488355328 then
      (bits_Next a0 (IntKind.i64.wrap (x4 + 1))).bind fun r7 =>
      bits_All_l1 a0 r1 n1 (l3 ++ [x4]) r7
      else none
    else
      some l3

def bits_All (a0 : (Nat → Int)) : Option ((List Int)) :=
  (bits_Next a0 0).bind fun r1 =>
  bits_All_l1 a0 r1 FUEL ([] : List Int) r1


/- slices.Equal(()int,int) -/
def slices_Equal_int_l1 (a0 : (List Int)) (a1 : (List Int)) : Nat → Nat → Option (Bool)
  | 0, _ => none
  | n1 + 1, k2 =>
    bif (decide ((((k2 : Nat) : Int) : Int) < ((a0.length : Nat) : Int))) then
      if 0 ≤ (((k2 : Nat) : Int) : Int) ∧ ((k2 : Nat) : Int) < ((a1.length : Nat) : Int) then
      bif (((a0.getD k2 0) : Int) != (a1.getD k2 0)) then
        some false
      else
        slices_Equal_int_l1 a0 a1 n1 (k2 + 1)
      else none
    else
      some true

def slices_Equal_int (a0 : (List Int)) (a1 : (List Int)) : Option (Bool) :=
  bif ((((a0.length : Nat) : Int) : Int) != ((a1.length : Nat) : Int)) then
    some false
  else
    slices_Equal_int_l1 a0 a1 FUEL 0


/- corebell/bits.Has -/
def bits_Has (a0 : (Nat → Int)) (a1 : Int) : Option (Bool) :=
  (bits_fits a1).bind fun r1 =>
  if (r1 = true → (0 ≤ ((IntKind.i64.wrap (Int.tdiv a1 64)) : Int) ∧ (IntKind.i64.wrap (Int.tdiv a1 64)) < ((4 : Nat) : Int))) then
  if (r1 = true → (0 ≤ ((Int.tmod a1 64) : Int))) then
  some (r1 && (((bitsOf .and .u64 (Int.fdiv (a0 (Int.toNat (IntKind.i64.wrap (Int.tdiv a1 64)))) (2 ^ (min (Int.toNat (Int.tmod a1 64)) IntKind.u64.bits))) 1) : Int) == 1))
  else none
  else none


/- corebell/corebellkeep.alive1 -/
def keep_alive1 : Option (Bool) :=
  (bits_With (fun _ => 0) 3).bind fun r1 =>
  (bits_With r1 200).bind fun r3 =>
  (bif ((((r3 0) : Int) == 8) && ((((r3 1) : Int) == 0) && ((((r3 2) : Int) == 0) && ((((r3 3) : Int) == 256) && true)))) then bits_Top r3 else some 0).bind fun r5 =>
  (bif (((((r3 0) : Int) == 8) && ((((r3 1) : Int) == 0) && ((((r3 2) : Int) == 0) && ((((r3 3) : Int) == 256) && true)))) && ((r5 : Int) == 200)) then bits_Next r3 4 else some 0).bind fun r9 =>
  (bif ((((((r3 0) : Int) == 8) && ((((r3 1) : Int) == 0) && ((((r3 2) : Int) == 0) && ((((r3 3) : Int) == 256) && true)))) && ((r5 : Int) == 200)) && ((r9 : Int) == 200)) then bits_All r3 else some []).bind fun r13 =>
  (bif ((((((r3 0) : Int) == 8) && ((((r3 1) : Int) == 0) && ((((r3 2) : Int) == 0) && ((((r3 3) : Int) == 256) && true)))) && ((r5 : Int) == 200)) && ((r9 : Int) == 200)) then slices_Equal_int r13 [3, 200] else some false).bind fun r15 =>
  (bif (((((((r3 0) : Int) == 8) && ((((r3 1) : Int) == 0) && ((((r3 2) : Int) == 0) && ((((r3 3) : Int) == 256) && true)))) && ((r5 : Int) == 200)) && ((r9 : Int) == 200)) && r15) then bits_Has r3 3 else some false).bind fun r18 =>
  (bif ((((((((r3 0) : Int) == 8) && ((((r3 1) : Int) == 0) && ((((r3 2) : Int) == 0) && ((((r3 3) : Int) == 256) && true)))) && ((r5 : Int) == 200)) && ((r9 : Int) == 200)) && r15) && r18) then bits_Has r3 4 else some false).bind fun r21 =>
  some (((((((((r3 0) : Int) == 8) && ((((r3 1) : Int) == 0) && ((((r3 2) : Int) == 0) && ((((r3 3) : Int) == 256) && true)))) && ((r5 : Int) == 200)) && ((r9 : Int) == 200)) && r15) && r18) && (!r21))


/- corebell/bits.Both -/
def bits_Both_l1 (a0 : (Nat → Int)) (a1 : (Nat → Int)) : Nat → Nat → (Nat → Int) → Option ((Nat → Int))
  | 0, _, _ => none
  | n1 + 1, k1, f2 =>
    bif (decide ((((k1 : Nat) : Int) : Int) < 4)) then
      if 0 ≤ (((k1 : Nat) : Int) : Int) ∧ ((k1 : Nat) : Int) < ((4 : Nat) : Int) then
      if 0 ≤ (((k1 : Nat) : Int) : Int) ∧ ((k1 : Nat) : Int) < ((4 : Nat) : Int) then
      if 0 ≤ (((k1 : Nat) : Int) : Int) ∧ ((k1 : Nat) : Int) < ((4 : Nat) : Int) then
      bits_Both_l1 a0 a1 n1 (k1 + 1) (upd f2 k1 (bitsOf .and .u64 (f2 k1) (a1 k1)))
      else none
      else none
      else none
    else
      some f2

def bits_Both (a0 : (Nat → Int)) (a1 : (Nat → Int)) : Option ((Nat → Int)) :=
  bits_Both_l1 a0 a1 FUEL 0 a0


/- corebell/bits.Either -/
def bits_Either_l1 (a0 : (Nat → Int)) (a1 : (Nat → Int)) : Nat → Nat → (Nat → Int) → Option ((Nat → Int))
  | 0, _, _ => none
  | n1 + 1, k1, f2 =>
    bif (decide ((((k1 : Nat) : Int) : Int) < 4)) then
      if 0 ≤ (((k1 : Nat) : Int) : Int) ∧ ((k1 : Nat) : Int) < ((4 : Nat) : Int) then
      if 0 ≤ (((k1 : Nat) : Int) : Int) ∧ ((k1 : Nat) : Int) < ((4 : Nat) : Int) then
      if 0 ≤ (((k1 : Nat) : Int) : Int) ∧ ((k1 : Nat) : Int) < ((4 : Nat) : Int) then
      bits_Either_l1 a0 a1 n1 (k1 + 1) (upd f2 k1 (bitsOf .or .u64 (f2 k1) (a1 k1)))
      else none
      else none
      else none
    else
      some f2

def bits_Either (a0 : (Nat → Int)) (a1 : (Nat → Int)) : Option ((Nat → Int)) :=
  bits_Either_l1 a0 a1 FUEL 0 a0


/- corebell/corebellkeep.BitsRing -/
def keep_BitsRing (a0 : (Nat → Int)) (a1 : (Nat → Int)) (a2 : (Nat → Int)) : Option (Bool) :=
  (keep_alive1).bind fun r1 =>
  bif (!r1) then
    some false
  else
    (bits_Both a0 a1).bind fun r4 =>
    (bits_Both a1 a0).bind fun r6 =>
    (bif ((((r4 0) : Int) == (r6 0)) && ((((r4 1) : Int) == (r6 1)) && ((((r4 2) : Int) == (r6 2)) && ((((r4 3) : Int) == (r6 3)) && true)))) then bits_Either a0 a1 else some (fun (_ : Nat) => (0 : Int))).bind fun r8 =>
    (bif ((((r4 0) : Int) == (r6 0)) && ((((r4 1) : Int) == (r6 1)) && ((((r4 2) : Int) == (r6 2)) && ((((r4 3) : Int) == (r6 3)) && true)))) then bits_Either a1 a0 else some (fun (_ : Nat) => (0 : Int))).bind fun r10 =>
    (bif (((((r4 0) : Int) == (r6 0)) && ((((r4 1) : Int) == (r6 1)) && ((((r4 2) : Int) == (r6 2)) && ((((r4 3) : Int) == (r6 3)) && true)))) && ((((r8 0) : Int) == (r10 0)) && ((((r8 1) : Int) == (r10 1)) && ((((r8 2) : Int) == (r10 2)) && ((((r8 3) : Int) == (r10 3)) && true))))) then bits_Either a1 a2 else some (fun (_ : Nat) => (0 : Int))).bind fun r15 =>
    (bif (((((r4 0) : Int) == (r6 0)) && ((((r4 1) : Int) == (r6 1)) && ((((r4 2) : Int) == (r6 2)) && ((((r4 3) : Int) == (r6 3)) && true)))) && ((((r8 0) : Int) == (r10 0)) && ((((r8 1) : Int) == (r10 1)) && ((((r8 2) : Int) == (r10 2)) && ((((r8 3) : Int) == (r10 3)) && true))))) then bits_Both a0 r15 else some (fun (_ : Nat) => (0 : Int))).bind fun r17 =>
    (bif (((((r4 0) : Int) == (r6 0)) && ((((r4 1) : Int) == (r6 1)) && ((((r4 2) : Int) == (r6 2)) && ((((r4 3) : Int) == (r6 3)) && true)))) && ((((r8 0) : Int) == (r10 0)) && ((((r8 1) : Int) == (r10 1)) && ((((r8 2) : Int) == (r10 2)) && ((((r8 3) : Int) == (r10 3)) && true))))) then bits_Both a0 a1 else some (fun (_ : Nat) => (0 : Int))).bind fun r19 =>
    (bif (((((r4 0) : Int) == (r6 0)) && ((((r4 1) : Int) == (r6 1)) && ((((r4 2) : Int) == (r6 2)) && ((((r4 3) : Int) == (r6 3)) && true)))) && ((((r8 0) : Int) == (r10 0)) && ((((r8 1) : Int) == (r10 1)) && ((((r8 2) : Int) == (r10 2)) && ((((r8 3) : Int) == (r10 3)) && true))))) then bits_Both a0 a2 else some (fun (_ : Nat) => (0 : Int))).bind fun r21 =>
    (bif (((((r4 0) : Int) == (r6 0)) && ((((r4 1) : Int) == (r6 1)) && ((((r4 2) : Int) == (r6 2)) && ((((r4 3) : Int) == (r6 3)) && true)))) && ((((r8 0) : Int) == (r10 0)) && ((((r8 1) : Int) == (r10 1)) && ((((r8 2) : Int) == (r10 2)) && ((((r8 3) : Int) == (r10 3)) && true))))) then bits_Either r19 r21 else some (fun (_ : Nat) => (0 : Int))).bind fun r23 =>
    (bif ((((((r4 0) : Int) == (r6 0)) && ((((r4 1) : Int) == (r6 1)) && ((((r4 2) : Int) == (r6 2)) && ((((r4 3) : Int) == (r6 3)) && true)))) && ((((r8 0) : Int) == (r10 0)) && ((((r8 1) : Int) == (r10 1)) && ((((r8 2) : Int) == (r10 2)) && ((((r8 3) : Int) == (r10 3)) && true))))) && ((((r17 0) : Int) == (r23 0)) && ((((r17 1) : Int) == (r23 1)) && ((((r17 2) : Int) == (r23 2)) && ((((r17 3) : Int) == (r23 3)) && true))))) then bits_Both a1 a2 else some (fun (_ : Nat) => (0 : Int))).bind fun r28 =>
    (bif ((((((r4 0) : Int) == (r6 0)) && ((((r4 1) : Int) == (r6 1)) && ((((r4 2) : Int) == (r6 2)) && ((((r4 3) : Int) == (r6 3)) && true)))) && ((((r8 0) : Int) == (r10 0)) && ((((r8 1) : Int) == (r10 1)) && ((((r8 2) : Int) == (r10 2)) && ((((r8 3) : Int) == (r10 3)) && true))))) && ((((r17 0) : Int) == (r23 0)) && ((((r17 1) : Int) == (r23 1)) && ((((r17 2) : Int) == (r23 2)) && ((((r17 3) : Int) == (r23 3)) && true))))) then bits_Either a0 r28 else some (fun (_ : Nat) => (0 : Int))).bind fun r30 =>
    (bif ((((((r4 0) : Int) == (r6 0)) && ((((r4 1) : Int) == (r6 1)) && ((((r4 2) : Int) == (r6 2)) && ((((r4 3) : Int) == (r6 3)) && true)))) && ((((r8 0) : Int) == (r10 0)) && ((((r8 1) : Int) == (r10 1)) && ((((r8 2) : Int) == (r10 2)) && ((((r8 3) : Int) == (r10 3)) && true))))) && ((((r17 0) : Int) == (r23 0)) && ((((r17 1) : Int) == (r23 1)) && ((((r17 2) : Int) == (r23 2)) && ((((r17 3) : Int) == (r23 3)) && true))))) then bits_Either a0 a1 else some (fun (_ : Nat) => (0 : Int))).bind fun r32 =>
    (bif ((((((r4 0) : Int) == (r6 0)) && ((((r4 1) : Int) == (r6 1)) && ((((r4 2) : Int) == (r6 2)) && ((((r4 3) : Int) == (r6 3)) && true)))) && ((((r8 0) : Int) == (r10 0)) && ((((r8 1) : Int) == (r10 1)) && ((((r8 2) : Int) == (r10 2)) && ((((r8 3) : Int) == (r10 3)) && true))))) && ((((r17 0) : Int) == (r23 0)) && ((((r17 1) : Int) == (r23 1)) && ((((r17 2) : Int) == (r23 2)) && ((((r17 3) : Int) == (r23 3)) && true))))) then bits_Either a0 a2 else some (fun (_ : Nat) => (0 : Int))).bind fun r34 =>
    (bif ((((((r4 0) : Int) == (r6 0)) && ((((r4 1) : Int) == (r6 1)) && ((((r4 2) : Int) == (r6 2)) && ((((r4 3) : Int) == (r6 3)) && true)))) && ((((r8 0) : Int) == (r10 0)) && ((((r8 1) : Int) == (r10 1)) && ((((r8 2) : Int) == (r10 2)) && ((((r8 3) : Int) == (r10 3)) && true))))) && ((((r17 0) : Int) == (r23 0)) && ((((r17 1) : Int) == (r23 1)) && ((((r17 2) : Int) == (r23 2)) && ((((r17 3) : Int) == (r23 3)) && true))))) then bits_Both r32 r34 else some (fun (_ : Nat) => (0 : Int))).bind fun r36 =>
    (bif (((((((r4 0) : Int) == (r6 0)) && ((((r4 1) : Int) == (r6 1)) && ((((r4 2) : Int) == (r6 2)) && ((((r4 3) : Int) == (r6 3)) && true)))) && ((((r8 0) : Int) == (r10 0)) && ((((r8 1) : Int) == (r10 1)) && ((((r8 2) : Int) == (r10 2)) && ((((r8 3) : Int) == (r10 3)) && true))))) && ((((r17 0) : Int) == (r23 0)) && ((((r17 1) : Int) == (r23 1)) && ((((r17 2) : Int) == (r23 2)) && ((((r17 3) : Int) == (r23 3)) && true))))) && ((((r30 0) : Int) == (r36 0)) && ((((r30 1) : Int) == (r36 1)) && ((((r30 2) : Int) == (r36 2)) && ((((r30 3) : Int) == (r36 3)) && true))))) then bits_Either a0 a1 else some (fun (_ : Nat) => (0 : Int))).bind fun r41 =>
    (bif (((((((r4 0) : Int) == (r6 0)) && ((((r4 1) : Int) == (r6 1)) && ((((r4 2) : Int) == (r6 2)) && ((((r4 3) : Int) == (r6 3)) && true)))) && ((((r8 0) : Int) == (r10 0)) && ((((r8 1) : Int) == (r10 1)) && ((((r8 2) : Int) == (r10 2)) && ((((r8 3) : Int) == (r10 3)) && true))))) && ((((r17 0) : Int) == (r23 0)) && ((((r17 1) : Int) == (r23 1)) && ((((r17 2) : Int) == (r23 2)) && ((((r17 3) : Int) == (r23 3)) && true))))) && ((((r30 0) : Int) == (r36 0)) && ((((r30 1) : Int) == (r36 1)) && ((((r30 2) : Int) == (r36 2)) && ((((r30 3) : Int) == (r36 3)) && true))))) then bits_Both a0 r41 else some (fun (_ : Nat) => (0 : Int))).bind fun r43 =>
    (bif ((((((((r4 0) : Int) == (r6 0)) && ((((r4 1) : Int) == (r6 1)) && ((((r4 2) : Int) == (r6 2)) && ((((r4 3) : Int) == (r6 3)) && true)))) && ((((r8 0) : Int) == (r10 0)) && ((((r8 1) : Int) == (r10 1)) && ((((r8 2) : Int) == (r10 2)) && ((((r8 3) : Int) == (r10 3)) && true))))) && ((((r17 0) : Int) == (r23 0)) && ((((r17 1) : Int) == (r23 1)) && ((((r17 2) : Int) == (r23 2)) && ((((r17 3) : Int) == (r23 3)) && true))))) && ((((r30 0) : Int) == (r36 0)) && ((((r30 1) : Int) == (r36 1)) && ((((r30 2) : Int) == (r36 2)) && ((((r30 3) : Int) == (r36 3)) && true))))) && ((((r43 0) : Int) == (a0 0)) && ((((r43 1) : Int) == (a0 1)) && ((((r43 2) : Int) == (a0 2)) && ((((r43 3) : Int) == (a0 3)) && true))))) then bits_Both a0 a1 else some (fun (_ : Nat) => (0 : Int))).bind fun r48 =>
    (bif ((((((((r4 0) : Int) == (r6 0)) && ((((r4 1) : Int) == (r6 1)) && ((((r4 2) : Int) == (r6 2)) && ((((r4 3) : Int) == (r6 3)) && true)))) && ((((r8 0) : Int) == (r10 0)) && ((((r8 1) : Int) == (r10 1)) && ((((r8 2) : Int) == (r10 2)) && ((((r8 3) : Int) == (r10 3)) && true))))) && ((((r17 0) : Int) == (r23 0)) && ((((r17 1) : Int) == (r23 1)) && ((((r17 2) : Int) == (r23 2)) && ((((r17 3) : Int) == (r23 3)) && true))))) && ((((r30 0) : Int) == (r36 0)) && ((((r30 1) : Int) == (r36 1)) && ((((r30 2) : Int) == (r36 2)) && ((((r30 3) : Int) == (r36 3)) && true))))) && ((((r43 0) : Int) == (a0 0)) && ((((r43 1) : Int) == (a0 1)) && ((((r43 2) : Int) == (a0 2)) && ((((r43 3) : Int) == (a0 3)) && true))))) then bits_Either a0 r48 else some (fun (_ : Nat) => (0 : Int))).bind fun r50 =>
    (bif (((((((((r4 0) : Int) == (r6 0)) && ((((r4 1) : Int) == (r6 1)) && ((((r4 2) : Int) == (r6 2)) && ((((r4 3) : Int) == (r6 3)) && true)))) && ((((r8 0) : Int) == (r10 0)) && ((((r8 1) : Int) == (r10 1)) && ((((r8 2) : Int) == (r10 2)) && ((((r8 3) : Int) == (r10 3)) && true))))) && ((((r17 0) : Int) == (r23 0)) && ((((r17 1) : Int) == (r23 1)) && ((((r17 2) : Int) == (r23 2)) && ((((r17 3) : Int) == (r23 3)) && true))))) && ((((r30 0) : Int) == (r36 0)) && ((((r30 1) : Int) == (r36 1)) && ((((r30 2) : Int) == (r36 2)) && ((((r30 3) : Int) == (r36 3)) && true))))) && ((((r43 0) : Int) == (a0 0)) && ((((r43 1) : Int) == (a0 1)) && ((((r43 2) : Int) == (a0 2)) && ((((r43 3) : Int) == (a0 3)) && true))))) && ((((r50 0) : Int) == (a0 0)) && ((((r50 1) : Int) == (a0 1)) && ((((r50 2) : Int) == (a0 2)) && ((((r50 3) : Int) == (a0 3)) && true))))) then bits_Either a0 (fun _ => 0) else some (fun (_ : Nat) => (0 : Int))).bind fun r55 =>
    some ((((((((((r4 0) : Int) == (r6 0)) && ((((r4 1) : Int) == (r6 1)) && ((((r4 2) : Int) == (r6 2)) && ((((r4 3) : Int) == (r6 3)) && true)))) && ((((r8 0) : Int) == (r10 0)) && ((((r8 1) : Int) == (r10 1)) && ((((r8 2) : Int) == (r10 2)) && ((((r8 3) : Int) == (r10 3)) && true))))) && ((((r17 0) : Int) == (r23 0)) && ((((r17 1) : Int) == (r23 1)) && ((((r17 2) : Int) == (r23 2)) && ((((r17 3) : Int) == (r23 3)) && true))))) && ((((r30 0) : Int) == (r36 0)) && ((((r30 1) : Int) == (r36 1)) && ((((r30 2) : Int) == (r36 2)) && ((((r30 3) : Int) == (r36 3)) && true))))) && ((((r43 0) : Int) == (a0 0)) && ((((r43 1) : Int) == (a0 1)) && ((((r43 2) : Int) == (a0 2)) && ((((r43 3) : Int) == (a0 3)) && true))))) && ((((r50 0) : Int) == (a0 0)) && ((((r50 1) : Int) == (a0 1)) && ((((r50 2) : Int) == (a0 2)) && ((((r50 3) : Int) == (a0 3)) && true))))) && ((((r55 0) : Int) == (a0 0)) && ((((r55 1) : Int) == (a0 1)) && ((((r55 2) : Int) == (a0 2)) && ((((r55 3) : Int) == (a0 3)) && true)))))


end Go.Proofs.YtfnhanmdfbdimaaDoor
