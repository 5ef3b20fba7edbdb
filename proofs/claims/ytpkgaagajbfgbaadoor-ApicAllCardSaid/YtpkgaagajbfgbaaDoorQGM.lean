/- The models of the functions: printed by program. -/
import Derived.Test.YtpkgaagajbfgbaaDoorAbY
import Derived.Lib.BitFns
set_option linter.unusedSimpArgs false
set_option linter.unusedVariables false
namespace Go.Proofs.YtpkgaagajbfgbaaDoor
open Go Go.Ab

structure Api_Local where
  Asked : (Nat → Int)
  Served : (Nat → Int)
  Class : Int

structure Api_LocalOp where
  Kind : Int
  N : Int
deriving DecidableEq

def Ok_Api_LocalOp (x : Api_LocalOp) : Prop := (-9223372036854775808 ≤ x.Kind ∧ x.Kind ≤ 9223372036854775807) ∧ (-9223372036854775808 ≤ x.N ∧ x.N ≤ 9223372036854775807)
def Ok_Api_Local (x : Api_Local) : Prop := (∀ i, i < 4 → (0 ≤ (x.Asked i) ∧ (x.Asked i) ≤ 18446744073709551615)) ∧ (∀ i, i < 4 → (0 ≤ (x.Served i) ∧ (x.Served i) ≤ 18446744073709551615)) ∧ (-9223372036854775808 ≤ x.Class ∧ x.Class ≤ 9223372036854775807)

/- corebell/bits.fits -/
def bits_fits (a0 : Int) : Option (Bool) :=
  some ((decide ((a0 : Int) ≥ 0)) && (decide ((a0 : Int) < 256)))


/- math/bits.TrailingZeros64 -/
def bits_TrailingZeros64 (a0 : Int) : Option Int := if 0 ≤ a0 ∧ a0 < 18446744073709551616 then some ((Lib.ctz 64 a0.toNat : Nat) : Int) else none

/- corebell/bits.Next -/
def bits_Next_l1 (a0 : (Nat → Int)) (a1 : Int) : Nat → Int → Option (Int)
  | 0, _ => none
  | n1 + 1, x10 =>
    bif (decide ((x10 : Int) < 4)) then
      if 0 ≤ (x10 : Int) ∧ x10 < ((4 : Nat) : Int) then
      bif ((((upd a0 (Int.toNat (IntKind.i64.wrap (Int.tdiv (if (0 : Int) > a1 then 0 else a1) 64))) (bitsOf .andNot .u64 (a0 (Int.toNat (IntKind.i64.wrap (Int.tdiv (if (0 : Int) > a1 then 0 else a1) 64)))) (IntKind.u64.wrap ((IntKind.u64.wrap (1 * 2 ^ (min (Int.toNat (Int.tmod (if (0 : Int) > a1 then 0 else a1) 64)) IntKind.u64.bits))) - 1)))) (Int.toNat x10)) : Int) != 0) then
        if 0 ≤ (x10 : Int) ∧ x10 < ((4 : Nat) : Int) then
        (bits_TrailingZeros64 ((upd a0 (Int.toNat (IntKind.i64.wrap (Int.tdiv (if (0 : Int) > a1 then 0 else a1) 64))) (bitsOf .andNot .u64 (a0 (Int.toNat (IntKind.i64.wrap (Int.tdiv (if (0 : Int) > a1 then 0 else a1) 64)))) (IntKind.u64.wrap ((IntKind.u64.wrap (1 * 2 ^ (min (Int.toNat (Int.tmod (if (0 : Int) > a1 then 0 else a1) 64)) IntKind.u64.bits))) - 1)))) (Int.toNat x10))).bind fun r15 =>
        some (IntKind.i64.wrap ((IntKind.i64.wrap (64 * x10)) + r15))
        else none
      else
        bits_Next_l1 a0 a1 n1 (IntKind.i64.wrap (x10 + 1))
      else none
    else
      some (-1)

def bits_Next (a0 : (Nat → Int)) (a1 : Int) : Option (Int) :=
  (bits_fits (if (0 : Int) > a1 then 0 else a1)).bind fun r1 =>
  bif (!r1) then
    some (-1)
  else
    if 0 ≤ ((IntKind.i64.wrap (Int.tdiv (if (0 : Int) > a1 then 0 else a1) 64)) : Int) ∧ (IntKind.i64.wrap (Int.tdiv (if (0 : Int) > a1 then 0 else a1) 64)) < ((4 : Nat) : Int) then
    if 0 ≤ ((Int.tmod (if (0 : Int) > a1 then 0 else a1) 64) : Int) then
    if 0 ≤ ((IntKind.i64.wrap (Int.tdiv (if (0 : Int) > a1 then 0 else a1) 64)) : Int) ∧ (IntKind.i64.wrap (Int.tdiv (if (0 : Int) > a1 then 0 else a1) 64)) < ((4 : Nat) : Int) then
    bits_Next_l1 a0 a1 FUEL (IntKind.i64.wrap (Int.tdiv (if (0 : Int) > a1 then 0 else a1) 64))
    else none
    else none
    else none


/- corebell/apic.class -/
def apic_class (a0 : Int) : Option (Int) :=
  some (IntKind.i64.wrap (Int.tdiv a0 16))


/- corebell/apic.Right -/
def apic_Right_l1 (a0 : Api_Local) (r1 : Int) : Nat → Int → Int → Option (Bool)
  | 0, _, _ => none
  | n1 + 1, x3, x4 =>
    bif (decide ((x4 : Int) ≥ 0)) then
      (apic_class x4).bind fun r6 =>
      bif (((r6 : Int) == x3) || (decide ((x4 : Int) < 32))) then
        some false
      else
        (apic_class x4).bind fun r11 =>
        (bits_Next a0.Served (IntKind.i64.wrap (x4 + 1))).bind fun r13 =>
        apic_Right_l1 a0 r1 n1 r11 r13
    else
      (bif ((decide ((a0.Class : Int) ≥ 0)) && (decide ((a0.Class : Int) ≤ 15))) then bits_Next a0.Asked 0 else some 0).bind fun r19 =>
      (bif (((decide ((a0.Class : Int) ≥ 0)) && (decide ((a0.Class : Int) ≤ 15))) && !(decide ((r19 : Int) < 0))) then bits_Next a0.Asked 0 else some 0).bind fun r24 =>
      some (((decide ((a0.Class : Int) ≥ 0)) && (decide ((a0.Class : Int) ≤ 15))) && ((decide ((r19 : Int) < 0)) || (decide ((r24 : Int) ≥ 32))))

def apic_Right (a0 : Api_Local) : Option (Bool) :=
  (bits_Next a0.Served 0).bind fun r1 =>
  apic_Right_l1 a0 r1 FUEL (-1) r1


/- corebell/apic.Step$1 -/
def apic_Step_1 (a0 : Int) : Option (Api_Local × Int × Int) :=
  some ((⟨(fun _ => 0), (fun _ => 0), 0⟩ : Api_Local), 0, a0)


/- corebell/bits.With -/
def bits_With (a0 : (Nat → Int)) (a1 : Int) : Option ((Nat → Int)) :=
  (bits_fits a1).bind fun r1 =>
  bif r1 then
    if 0 ≤ ((IntKind.i64.wrap (Int.tdiv a1 64)) : Int) ∧ (IntKind.i64.wrap (Int.tdiv a1 64)) < ((4 : Nat) : Int) then
    if 0 ≤ ((Int.tmod a1 64) : Int) then
    if 0 ≤ ((IntKind.i64.wrap (Int.tdiv a1 64)) : Int) ∧ (IntKind.i64.wrap (Int.tdiv a1 64)) < ((4 : Nat) : Int) then
    some (upd a0 (Int.toNat (IntKind.i64.wrap (Int.tdiv a1 64))) (bitsOf .or .u64 (a0 (Int.toNat (IntKind.i64.wrap (Int.tdiv a1 64)))) (IntKind.u64.wrap (1 * 2 ^ (min (Int.toNat (Int.tmod a1 64)) IntKind.u64.bits)))))
    else none
    else none
    else none
  else
    some a0


/- math/bits.LeadingZeros64 -/
def bits_LeadingZeros64 (a0 : Int) : Option Int := if 0 ≤ a0 ∧ a0 < 18446744073709551616 then some (64 - ((Lib.bitLen a0.toNat : Nat) : Int)) else none

/- corebell/bits.Top -/
def bits_Top_l1 (a0 : (Nat → Int)) : Nat → Int → Option (Int)
  | 0, _ => none
  | n1 + 1, x1 =>
    bif (decide ((x1 : Int) ≥ 0)) then
      if 0 ≤ (x1 : Int) ∧ x1 < ((4 : Nat) : Int) then
      bif (((a0 (Int.toNat x1)) : Int) != 0) then
        if 0 ≤ (x1 : Int) ∧ x1 < ((4 : Nat) : Int) then
        (bits_LeadingZeros64 (a0 (Int.toNat x1))).bind fun r6 =>
        some (IntKind.i64.wrap ((IntKind.i64.wrap ((IntKind.i64.wrap (64 * x1)) + 63)) - r6))
        else none
      else
        bits_Top_l1 a0 n1 (IntKind.i64.wrap (x1 - 1))
      else none
    else
      some (-1)

def bits_Top (a0 : (Nat → Int)) : Option (Int) :=
  bits_Top_l1 a0 FUEL 3


/- corebell/apic.level -/
def apic_level (a0 : Api_Local) : Option (Int) :=
  (bits_Top a0.Served).bind fun r1 =>
  (apic_class (if (0 : Int) > r1 then 0 else r1)).bind fun r3 =>
  some (if (r3 : Int) > a0.Class then r3 else a0.Class)


/- corebell/apic.Would -/
def apic_Would (a0 : Api_Local) : Option (Int) :=
  (bits_Top a0.Asked).bind fun r1 =>
  (apic_Right a0).bind fun r3 =>
  (bif (r3 && (decide ((r1 : Int) ≥ 0))) then apic_class r1 else some 0).bind fun r7 =>
  (bif (r3 && (decide ((r1 : Int) ≥ 0))) then apic_level a0 else some 0).bind fun r9 =>
  bif ((r3 && (decide ((r1 : Int) ≥ 0))) && (decide ((r7 : Int) > r9))) then
    some r1
  else
    some (-1)


/- corebell/bits.Without -/
def bits_Without (a0 : (Nat → Int)) (a1 : Int) : Option ((Nat → Int)) :=
  (bits_fits a1).bind fun r1 =>
  bif r1 then
    if 0 ≤ ((IntKind.i64.wrap (Int.tdiv a1 64)) : Int) ∧ (IntKind.i64.wrap (Int.tdiv a1 64)) < ((4 : Nat) : Int) then
    if 0 ≤ ((Int.tmod a1 64) : Int) then
    if 0 ≤ ((IntKind.i64.wrap (Int.tdiv a1 64)) : Int) ∧ (IntKind.i64.wrap (Int.tdiv a1 64)) < ((4 : Nat) : Int) then
    some (upd a0 (Int.toNat (IntKind.i64.wrap (Int.tdiv a1 64))) (bitsOf .andNot .u64 (a0 (Int.toNat (IntKind.i64.wrap (Int.tdiv a1 64)))) (IntKind.u64.wrap (1 * 2 ^ (min (Int.toNat (Int.tmod a1 64)) IntKind.u64.bits)))))
    else none
    else none
    else none
  else
    some a0


/- corebell/apic.Step -/
def apic_Step (a0 : Api_Local) (a1 : Api_LocalOp) : Option (Api_Local × Int × Int) :=
  (apic_Right a0).bind fun r1 =>
  bif (!r1) then
    (apic_Step_1 1).bind fun r4 =>
    some (r4.1, r4.2.1, r4.2.2)
  else
    bif ((a1.Kind : Int) == 1) then
      bif ((decide ((a1.N : Int) < 32)) || (decide ((a1.N : Int) ≥ 256))) then
        (apic_Step_1 2).bind fun r11 =>
        some (r11.1, r11.2.1, r11.2.2)
      else
        (bits_With a0.Asked a1.N).bind fun r13 =>
        some ((⟨r13, a0.Served, a0.Class⟩ : Api_Local), (-1), 0)
    else
      bif ((a1.Kind : Int) == 2) then
        (apic_Would a0).bind fun r16 =>
        bif (decide ((r16 : Int) < 0)) then
          (apic_Step_1 7).bind fun r19 =>
          some (r19.1, r19.2.1, r19.2.2)
        else
          (bits_Without a0.Asked r16).bind fun r21 =>
          (bits_With a0.Served r16).bind fun r23 =>
          some ((⟨r21, r23, a0.Class⟩ : Api_Local), r16, 0)
      else
        bif ((a1.Kind : Int) == 3) then
          (bits_Top a0.Served).bind fun r26 =>
          bif (decide ((r26 : Int) < 0)) then
            (apic_Step_1 3).bind fun r29 =>
            some (r29.1, r29.2.1, r29.2.2)
          else
            (bits_Without a0.Served r26).bind fun r31 =>
            some ((⟨a0.Asked, r31, a0.Class⟩ : Api_Local), r26, 0)
        else
          bif ((a1.Kind : Int) == 4) then
            bif ((decide ((a1.N : Int) < 0)) || (decide ((a1.N : Int) > 15))) then
              (apic_Step_1 2).bind fun r38 =>
              some (r38.1, r38.2.1, r38.2.2)
            else
              some ((⟨a0.Asked, a0.Served, a1.N⟩ : Api_Local), (-1), 0)
          else
            (apic_Step_1 5).bind fun r40 =>
            some (r40.1, r40.2.1, r40.2.2)


/- corebell/corebellkeep.alive2 -/
def keep_alive2 : Option (Bool) :=
  (apic_Step (⟨(fun _ => 0), (fun _ => 0), 0⟩ : Api_Local) (⟨1, 64⟩ : Api_LocalOp)).bind fun r1 =>
  (apic_Step r1.1 (⟨2, 0⟩ : Api_LocalOp)).bind fun r3 =>
  (apic_Step r3.1 (⟨1, 70⟩ : Api_LocalOp)).bind fun r5 =>
  (bif (((((r1.2.2 : Int) == 0) && ((r3.2.2 : Int) == 0)) && ((r5.2.2 : Int) == 0)) && ((r3.2.1 : Int) == 64)) then apic_Would r5.1 else some 0).bind fun r13 =>
  (bif ((((((r1.2.2 : Int) == 0) && ((r3.2.2 : Int) == 0)) && ((r5.2.2 : Int) == 0)) && ((r3.2.1 : Int) == 64)) && ((r13 : Int) == (-1))) then apic_Right r5.1 else some false).bind fun r17 =>
  some (((((((r1.2.2 : Int) == 0) && ((r3.2.2 : Int) == 0)) && ((r5.2.2 : Int) == 0)) && ((r3.2.1 : Int) == 64)) && ((r13 : Int) == (-1))) && r17)


/- corebell/corebellkeep.ApicRight -/
def keep_ApicRight (a0 : Api_Local) (a1 : Api_LocalOp) : Option (Bool) :=
  (keep_alive2).bind fun r1 =>
  bif (!r1) then
    some false
  else
    (apic_Step a0 a1).bind fun r4 =>
    bif ((r4.2.2 : Int) != 0) then
      some ((((((r4.1.Asked 0) : Int) == 0) && ((((r4.1.Asked 1) : Int) == 0) && ((((r4.1.Asked 2) : Int) == 0) && ((((r4.1.Asked 3) : Int) == 0) && true)))) && (((((r4.1.Served 0) : Int) == 0) && ((((r4.1.Served 1) : Int) == 0) && ((((r4.1.Served 2) : Int) == 0) && ((((r4.1.Served 3) : Int) == 0) && true)))) && (((r4.1.Class : Int) == 0) && true))) && ((r4.2.1 : Int) == 0))
    else
      (apic_Right r4.1).bind fun r9 =>
      some r9


/- corebell/corebellkeep.ApicClass -/
def keep_ApicClass (a0 : Api_Local) (a1 : Int) (a2 : Int) : Option (Bool) :=
  (keep_alive2).bind fun r1 =>
  bif (!r1) then
    some false
  else
    (apic_Step a0 (⟨4, a1⟩ : Api_LocalOp)).bind fun r4 =>
    (apic_Step a0 (⟨4, a2⟩ : Api_LocalOp)).bind fun r6 =>
    bif ((((r4.2.2 : Int) != 0) || ((r6.2.2 : Int) != 0)) || (decide ((a1 : Int) > a2))) then
      some true
    else
      (apic_Would r6.1).bind fun r14 =>
      (bif (!((r14 : Int) == (-1))) then apic_Would r6.1 else some 0).bind fun r16 =>
      (bif (!((r14 : Int) == (-1))) then apic_Would r4.1 else some 0).bind fun r18 =>
      some (((r14 : Int) == (-1)) || ((r16 : Int) == r18))


/- corebell/bits.Has -/
def bits_Has (a0 : (Nat → Int)) (a1 : Int) : Option (Bool) :=
  (bits_fits a1).bind fun r1 =>
  if (r1 = true → (0 ≤ ((IntKind.i64.wrap (Int.tdiv a1 64)) : Int) ∧ (IntKind.i64.wrap (Int.tdiv a1 64)) < ((4 : Nat) : Int))) then
  if (r1 = true → (0 ≤ ((Int.tmod a1 64) : Int))) then
  some (r1 && (((bitsOf .and .u64 (Int.fdiv (a0 (Int.toNat (IntKind.i64.wrap (Int.tdiv a1 64)))) (2 ^ (min (Int.toNat (Int.tmod a1 64)) IntKind.u64.bits))) 1) : Int) == 1))
  else none
  else none


/- corebell/corebellkeep.ApicOnce -/
def keep_ApicOnce (a0 : Api_Local) (a1 : Int) : Option (Bool) :=
  (keep_alive2).bind fun r1 =>
  bif (!r1) then
    some false
  else
    (apic_Step a0 (⟨1, a1⟩ : Api_LocalOp)).bind fun r4 =>
    (apic_Step r4.1 (⟨1, a1⟩ : Api_LocalOp)).bind fun r6 =>
    bif ((r4.2.2 : Int) != 0) then
      some true
    else
      (bif (((r6.2.2 : Int) == 0) && (((((r4.1.Asked 0) : Int) == (r6.1.Asked 0)) && ((((r4.1.Asked 1) : Int) == (r6.1.Asked 1)) && ((((r4.1.Asked 2) : Int) == (r6.1.Asked 2)) && ((((r4.1.Asked 3) : Int) == (r6.1.Asked 3)) && true)))) && (((((r4.1.Served 0) : Int) == (r6.1.Served 0)) && ((((r4.1.Served 1) : Int) == (r6.1.Served 1)) && ((((r4.1.Served 2) : Int) == (r6.1.Served 2)) && ((((r4.1.Served 3) : Int) == (r6.1.Served 3)) && true)))) && (((r4.1.Class : Int) == r6.1.Class) && true)))) then bits_Has r4.1.Asked a1 else some false).bind fun r13 =>
      some (((((r6.2.2 : Int) == 0) && (((((r4.1.Asked 0) : Int) == (r6.1.Asked 0)) && ((((r4.1.Asked 1) : Int) == (r6.1.Asked 1)) && ((((r4.1.Asked 2) : Int) == (r6.1.Asked 2)) && ((((r4.1.Asked 3) : Int) == (r6.1.Asked 3)) && true)))) && (((((r4.1.Served 0) : Int) == (r6.1.Served 0)) && ((((r4.1.Served 1) : Int) == (r6.1.Served 1)) && ((((r4.1.Served 2) : Int) == (r6.1.Served 2)) && ((((r4.1.Served 3) : Int) == (r6.1.Served 3)) && true)))) && (((r4.1.Class : Int) == r6.1.Class) && true)))) && r13) && ((((r4.1.Served 0) : Int) == (a0.Served 0)) && ((((r4.1.Served 1) : Int) == (a0.Served 1)) && ((((r4.1.Served 2) : Int) == (a0.Served 2)) && ((((r4.1.Served 3) : Int) == (a0.Served 3)) && true)))))


/- corebell/bits.All -/
def bits_All_l1 (a0 : (Nat → Int)) (r1 : Int) : Nat → List Int → Int → Option ((List Int))
  | 0, _, _ => none
  | n1 + 1, l3, x4 =>
    bif (decide ((x4 : Int) ≥ 0)) then
      if ((l3).length + ([x4]).length) * 8 ≤ 140737488355328 ∧ (l3).length + ([x4]).length ≤ 140737488355328 then
      (bits_Next a0 (IntKind.i64.wrap (x4 + 1))).bind fun r7 =>
      bits_All_l1 a0 r1 n1 (l3 ++ [x4]) r7
      else none
    else
      some l3

def bits_All (a0 : (Nat → Int)) : Option ((List Int)) :=
  (bits_Next a0 0).bind fun r1 =>
  bits_All_l1 a0 r1 FUEL ([] : List Int) r1


/- corebell/corebellkeep.ApicGraver -/
def keep_ApicGraver_l1 (a0 : Api_Local) (r4 : Api_Local × Int × Int) (r7 : (List Int)) : Nat → Nat → Option (Bool)
  | 0, _ => none
  | n1 + 1, k9 =>
    bif (decide ((((k9 : Nat) : Int) : Int) < ((r7.length : Nat) : Int))) then
      bif (decide (((IntKind.i64.wrap (Int.tdiv r4.2.1 16)) : Int) ≤ (IntKind.i64.wrap (Int.tdiv (r7.getD (0 + k9) 0) 16)))) then
        some false
      else
        keep_ApicGraver_l1 a0 r4 r7 n1 (k9 + 1)
    else
      (apic_Step r4.1 (⟨3, 0⟩ : Api_LocalOp)).bind fun r15 =>
      (bif ((((r15.2.2 : Int) == 0) && ((r15.2.1 : Int) == r4.2.1)) && ((((r15.1.Served 0) : Int) == (a0.Served 0)) && ((((r15.1.Served 1) : Int) == (a0.Served 1)) && ((((r15.1.Served 2) : Int) == (a0.Served 2)) && ((((r15.1.Served 3) : Int) == (a0.Served 3)) && true))))) then bits_Top r4.1.Served else some 0).bind fun r26 =>
      some ((((((r15.2.2 : Int) == 0) && ((r15.2.1 : Int) == r4.2.1)) && ((((r15.1.Served 0) : Int) == (a0.Served 0)) && ((((r15.1.Served 1) : Int) == (a0.Served 1)) && ((((r15.1.Served 2) : Int) == (a0.Served 2)) && ((((r15.1.Served 3) : Int) == (a0.Served 3)) && true))))) && ((r26 : Int) == r4.2.1)) && (decide (((IntKind.i64.wrap (Int.tdiv r4.2.1 16)) : Int) > a0.Class)))

def keep_ApicGraver (a0 : Api_Local) : Option (Bool) :=
  (keep_alive2).bind fun r1 =>
  bif (!r1) then
    some false
  else
    (apic_Step a0 (⟨2, 0⟩ : Api_LocalOp)).bind fun r4 =>
    bif ((r4.2.2 : Int) != 0) then
      some true
    else
      (bits_All a0.Served).bind fun r7 =>
      keep_ApicGraver_l1 a0 r4 r7 FUEL 0


/- corebell/corebellkeep.ApicAll -/
def keep_ApicAll_l3 (l9 : List Int) (f16 : (Nat → Int)) (f17 : (Nat → Int)) (x18 : Int) : Nat → Int → (Nat → Int) → (Nat → Int) → Int → Option (Bool)
  | 0, _, _, _, _ => none
  | n3 + 1, x34, f35, f36, x37 =>
    bif (decide ((x34 : Int) ≥ 0)) then
      (apic_Step (⟨f35, f36, x37⟩ : Api_Local) (⟨2, 0⟩ : Api_LocalOp)).bind fun r39 =>
      (apic_Step r39.1 (⟨3, 0⟩ : Api_LocalOp)).bind fun r41 =>
      if ((!(((r39.2.2 : Int) != 0) || ((r41.2.2 : Int) != 0))) = true → (0 ≤ (x34 : Int) ∧ x34 < ((l9.length : Nat) : Int))) then
      bif ((((r39.2.2 : Int) != 0) || ((r41.2.2 : Int) != 0)) || ((r39.2.1 : Int) != (l9.getD (0 + (Int.toNat x34)) 0))) then
        some false
      else
        keep_ApicAll_l3 l9 f16 f17 x18 n3 (IntKind.i64.wrap (x34 - 1)) r41.1.Asked r41.1.Served r41.1.Class
      else none
    else
      (apic_Would (⟨f35, f36, x37⟩ : Api_Local)).bind fun r52 =>
      some ((r52 : Int) == (-1))

def keep_ApicAll_l2 (a0 : Api_Local) (l9 : List Int) : Nat → (Nat → Int) → (Nat → Int) → Int → Option (Bool)
  | 0, _, _, _ => none
  | n2 + 1, f16, f17, x18 =>
    (bits_Top f17).bind fun r19 =>
    bif (decide ((r19 : Int) ≥ 0)) then
      (apic_Step (⟨f16, f17, x18⟩ : Api_Local) (⟨3, 0⟩ : Api_LocalOp)).bind fun r22 =>
      (bif (!((r22.2.2 : Int) != 0)) then bits_Top r22.1.Served else some 0).bind fun r25 =>
      (bif (!((r22.2.2 : Int) != 0)) then bits_Top f17 else some 0).bind fun r28 =>
      bif (((r22.2.2 : Int) != 0) || (decide ((r25 : Int) ≥ r28))) then
        some false
      else
        keep_ApicAll_l2 a0 l9 n2 r22.1.Asked r22.1.Served r22.1.Class
    else
      keep_ApicAll_l3 l9 f16 f17 x18 FUEL (IntKind.i64.wrap (((l9.length : Nat) : Int) - 1)) f16 f17 x18

def keep_ApicAll_l1 (a0 : Api_Local) (r7 : (List Int)) : Nat → List Int → Nat → Option (Bool)
  | 0, _, _ => none
  | n1 + 1, l9, k10 =>
    bif (decide ((((k10 : Nat) : Int) : Int) < ((r7.length : Nat) : Int))) then
      bif (decide (((IntKind.i64.wrap (Int.tdiv (r7.getD (0 + k10) 0) 16)) : Int) > a0.Class)) then
        if ((l9).length + ([(r7.getD (0 + k10) 0)]).length) * 8 ≤ 140737488355328 ∧ (l9).length + ([(r7.getD (0 + k10) 0)]).length ≤ 140737488355328 then
        keep_ApicAll_l1 a0 r7 n1 (l9 ++ [(r7.getD (0 + k10) 0)]) (k10 + 1)
        else none
      else
        keep_ApicAll_l1 a0 r7 n1 l9 (k10 + 1)
    else
      keep_ApicAll_l2 a0 l9 FUEL a0.Asked a0.Served a0.Class

def keep_ApicAll (a0 : Api_Local) : Option (Bool) :=
  (keep_alive2).bind fun r1 =>
  bif (!r1) then
    some false
  else
    (apic_Right a0).bind fun r4 =>
    bif (!r4) then
      some true
    else
      (bits_All a0.Asked).bind fun r7 =>
      keep_ApicAll_l1 a0 r7 FUEL ((([] : List Int).drop 0).take 0) 0


/- corebell/corebellkeep.ApicDepth -/
def keep_ApicDepth_l1 (a0 : (List Api_LocalOp)) : Nat → Int → Nat → (Nat → Int) → (Nat → Int) → Int → Option (Bool)
  | 0, _, _, _, _, _ => none
  | n1 + 1, x4, k5, f6, f7, x8 =>
    bif (decide ((((k5 : Nat) : Int) : Int) < ((a0.length : Nat) : Int))) then
      (apic_Step (⟨f6, f7, x8⟩ : Api_Local) (a0.getD k5 (⟨0, 0⟩ : Api_LocalOp))).bind fun r11 =>
      bif ((r11.2.2 : Int) != 0) then
        keep_ApicDepth_l1 a0 n1 x4 (k5 + 1) f6 f7 x8
      else
        bif (((a0.getD k5 (⟨0, 0⟩ : Api_LocalOp)).Kind : Int) == 2) then
          (bits_All r11.1.Served).bind fun r15 =>
          bif (((((r15.length : Nat) : Int) : Int) != (IntKind.i64.wrap (x4 + 1))) || (decide (((IntKind.i64.wrap (x4 + 1)) : Int) > 14))) then
            some false
          else
            keep_ApicDepth_l1 a0 n1 (IntKind.i64.wrap (x4 + 1)) (k5 + 1) r11.1.Asked r11.1.Served r11.1.Class
        else
          bif (((a0.getD k5 (⟨0, 0⟩ : Api_LocalOp)).Kind : Int) == 3) then
            (bits_All r11.1.Served).bind fun r21 =>
            bif (((((r21.length : Nat) : Int) : Int) != (IntKind.i64.wrap (x4 - 1))) || (decide (((IntKind.i64.wrap (x4 - 1)) : Int) > 14))) then
              some false
            else
              keep_ApicDepth_l1 a0 n1 (IntKind.i64.wrap (x4 - 1)) (k5 + 1) r11.1.Asked r11.1.Served r11.1.Class
          else
            (bits_All r11.1.Served).bind fun r26 =>
            bif (((((r26.length : Nat) : Int) : Int) != x4) || (decide ((x4 : Int) > 14))) then
              some false
            else
              keep_ApicDepth_l1 a0 n1 x4 (k5 + 1) r11.1.Asked r11.1.Served r11.1.Class
    else
      (apic_Right (⟨f6, f7, x8⟩ : Api_Local)).bind fun r31 =>
      some r31

def keep_ApicDepth (a0 : (List Api_LocalOp)) : Option (Bool) :=
  (keep_alive2).bind fun r1 =>
  bif (!r1) then
    some false
  else
    keep_ApicDepth_l1 a0 FUEL 0 0 (fun _ => 0) (fun _ => 0) 0


end Go.Proofs.YtpkgaagajbfgbaaDoor
