/- The models of the functions: printed by program. -/
import Derived.Test.YtdfgmloipigmfaaDoorAbYg
import Derived.Test.YtdfgmloipigmfaaDoorAbYk
import Derived.Lib.BitFns
set_option linter.unusedSimpArgs false
set_option linter.unusedVariables false
namespace Go.Proofs.YtdfgmloipigmfaaDoor
open Go Go.Ab

structure Api_VecOp where
  Kind : Int
  Line : Int
  Mask : Int
deriving DecidableEq

structure Api_Slot where
  Core : Int
  Vec : Int
deriving DecidableEq

structure Vector_table where
  cores_ : Int
  of_ : (List Api_Slot)
  taken_ : (List (Nat → Int))

def Ok_Api_VecOp (x : Api_VecOp) : Prop := (-9223372036854775808 ≤ x.Kind ∧ x.Kind ≤ 9223372036854775807) ∧ (-9223372036854775808 ≤ x.Line ∧ x.Line ≤ 9223372036854775807) ∧ (-9223372036854775808 ≤ x.Mask ∧ x.Mask ≤ 9223372036854775807)

/- corebell/bits.fits -/
def bits_fits (a0 : Int) : Option (Bool) :=
  some ((decide ((a0 : Int) ≥ 0)) && (decide ((a0 : Int) < 256)))


/- math/bits.TrailingZeros64 -/
def bits_TrailingZeros64 (a0 : Int) : Option Int := if 0 ≤ a0 ∧ a0 < 18446744073709551616 then some ((Lib.ctz 64 a0.toNat : Nat) : Int) else none

/- corebell/bits.Next -/
def bits_Next_l1 (a0 : (Nat → Int)) (a1 : Int) : Nat → Int → Option (Int)
  | 0, _ => none
  | n1 + 1, x10 =>
    bif (decide ((x10 : Int) < 4)) then
      if 0 ≤ (x10 : Int) ∧ x10 < ((4 : Nat) : Int) then
      bif ((((upd a0 (Int.toNat (IntKind.i64.wrap (Int.tdiv (if (0 : Int) > a1 then 0 else a1) 64))) (bitsOf .andNot .u64 (a0 (Int.toNat (IntKind.i64.wrap (Int.tdiv (if (0 : Int) > a1 then 0 else a1) 64)))) (IntKind.u64.wrap ((IntKind.u64.wrap (1 * 2 ^ (min (Int.toNat (Int.tmod (if (0 : Int) > a1 then 0 else a1) 64)) IntKind.u64.bits))) - 1)))) (Int.toNat x10)) : Int) != 0) then
        if 0 ≤ (x10 : Int) ∧ x10 < ((4 : Nat) : Int) then
        (bits_TrailingZeros64 ((upd a0 (Int.toNat (IntKind.i64.wrap (Int.tdiv (if (0 : Int) > a1 then 0 else a1) 64))) (bitsOf .andNot .u64 (a0 (Int.toNat (IntKind.i64.wrap (Int.tdiv (if (0 : Int) > a1 then 0 else a1) 64)))) (IntKind.u64.wrap ((IntKind.u64.wrap (1 * 2 ^ (min (Int.toNat (Int.tmod (if (0 : Int) > a1 then 0 else a1) 64)) IntKind.u64.bits))) - 1)))) (Int.toNat x10))).bind fun r15 =>
        some (IntKind.i64.wrap ((IntKind.i64.wrap (64 * x10)) + r15))
        else none
      else
        bits_Next_l1 a0 a1 n1 (IntKind.i64.wrap (x10 + 1))
      else none
    else
      some (-1)

def bits_Next (a0 : (Nat → Int)) (a1 : Int) : Option (Int) :=
  (bits_fits (if (0 : Int) > a1 then 0 else a1)).bind fun r1 =>
  bif (!r1) then
    some (-1)
  else
    if 0 ≤ ((IntKind.i64.wrap (Int.tdiv (if (0 : Int) > a1 then 0 else a1) 64)) : Int) ∧ (IntKind.i64.wrap (Int.tdiv (if (0 : Int) > a1 then 0 else a1) 64)) < ((4 : Nat) : Int) then
    if 0 ≤ ((Int.tmod (if (0 : Int) > a1 then 0 else a1) 64) : Int) then
    if 0 ≤ ((IntKind.i64.wrap (Int.tdiv (if (0 : Int) > a1 then 0 else a1) 64)) : Int) ∧ (IntKind.i64.wrap (Int.tdiv (if (0 : Int) > a1 then 0 else a1) 64)) < ((4 : Nat) : Int) then
    bits_Next_l1 a0 a1 FUEL (IntKind.i64.wrap (Int.tdiv (if (0 : Int) > a1 then 0 else a1) 64))
    else none
    else none
    else none


/- corebell/bits.All -/
def bits_All_l1 (a0 : (Nat → Int)) (r1 : Int) : Nat → List Int → Int → Option ((List Int))
  | 0, _, _ => none
  | n1 + 1, l3, x4 =>
    bif (decide ((x4 : Int) ≥ 0)) then
      if ((l3).length + ([x4]).length) * 8 ≤ 140737488355328 ∧ (l3).length + ([x4]).length ≤ 140737488355328 then
      (bits_Next a0 (IntKind.i64.wrap (x4 + 1))).bind fun r7 =>
      bits_All_l1 a0 r1 n1 (l3 ++ [x4]) r7
      else none
    else
      some l3

def bits_All (a0 : (Nat → Int)) : Option ((List Int)) :=
  (bits_Next a0 0).bind fun r1 =>
  bits_All_l1 a0 r1 FUEL ([] : List Int) r1


/- (*corebell/vector.table).load -/
def vector_table_load (a0 : Vector_table) (a1 : Int) : Option (Int) :=
  if 0 ≤ (a1 : Int) ∧ a1 < ((a0.taken_.length : Nat) : Int) then
  (bits_All (a0.taken_.getD (Int.toNat a1) (fun (_ : Nat) => (0 : Int)))).bind fun r2 =>
  some ((r2.length : Nat) : Int)
  else none


/- (*corebell/vector.table).best -/
def vector_table_best_l1 (a0 : Vector_table) (a1 : Int) (a2 : Int) : Nat → Int → Int → Option (Int)
  | 0, _, _ => none
  | n1 + 1, x1, x2 =>
    bif (decide ((x2 : Int) < a0.cores_)) then
      if 0 ≤ (x2 : Int) then
      (bif ((((bitsOf .and .i64 (Int.fdiv a1 (2 ^ (min (Int.toNat x2) IntKind.i64.bits))) 1) : Int) == 1) && ((x2 : Int) != a2)) then vector_table_load a0 x2 else some 0).bind fun r8 =>
      (bif ((((((bitsOf .and .i64 (Int.fdiv a1 (2 ^ (min (Int.toNat x2) IntKind.i64.bits))) 1) : Int) == 1) && ((x2 : Int) != a2)) && (decide ((r8 : Int) < 224))) && !(decide ((x1 : Int) < 0))) then vector_table_load a0 x2 else some 0).bind fun r14 =>
      (bif ((((((bitsOf .and .i64 (Int.fdiv a1 (2 ^ (min (Int.toNat x2) IntKind.i64.bits))) 1) : Int) == 1) && ((x2 : Int) != a2)) && (decide ((r8 : Int) < 224))) && !(decide ((x1 : Int) < 0))) then vector_table_load a0 x1 else some 0).bind fun r16 =>
      bif ((((((bitsOf .and .i64 (Int.fdiv a1 (2 ^ (min (Int.toNat x2) IntKind.i64.bits))) 1) : Int) == 1) && ((x2 : Int) != a2)) && (decide ((r8 : Int) < 224))) && ((decide ((x1 : Int) < 0)) || (decide ((r14 : Int) < r16)))) then
        vector_table_best_l1 a0 a1 a2 n1 x2 (IntKind.i64.wrap (x2 + 1))
      else
        vector_table_best_l1 a0 a1 a2 n1 x1 (IntKind.i64.wrap (x2 + 1))
      else none
    else
      some x1

def vector_table_best (a0 : Vector_table) (a1 : Int) (a2 : Int) : Option (Int) :=
  vector_table_best_l1 a0 a1 a2 FUEL (-1) 0


/- corebell/bits.Has -/
def bits_Has (a0 : (Nat → Int)) (a1 : Int) : Option (Bool) :=
  (bits_fits a1).bind fun r1 =>
  if (r1 = true → (0 ≤ ((IntKind.i64.wrap (Int.tdiv a1 64)) : Int) ∧ (IntKind.i64.wrap (Int.tdiv a1 64)) < ((4 : Nat) : Int))) then
  if (r1 = true → (0 ≤ ((Int.tmod a1 64) : Int))) then
  some (r1 && (((bitsOf .and .u64 (Int.fdiv (a0 (Int.toNat (IntKind.i64.wrap (Int.tdiv a1 64)))) (2 ^ (min (Int.toNat (Int.tmod a1 64)) IntKind.u64.bits))) 1) : Int) == 1))
  else none
  else none


/- (*corebell/vector.table).least -/
def vector_table_least_l1 (a0 : Vector_table) (a1 : Int) : Nat → Int → Option (Int)
  | 0, _ => none
  | n1 + 1, x1 =>
    if 0 ≤ (a1 : Int) ∧ a1 < ((a0.taken_.length : Nat) : Int) then
    (bits_Has (a0.taken_.getD (Int.toNat a1) (fun (_ : Nat) => (0 : Int))) x1).bind fun r3 =>
    bif r3 then
      vector_table_least_l1 a0 a1 n1 (IntKind.i64.wrap (x1 + 1))
    else
      some x1
    else none

def vector_table_least (a0 : Vector_table) (a1 : Int) : Option (Int) :=
  vector_table_least_l1 a0 a1 FUEL 32


/- corebell/bits.With -/
def bits_With (a0 : (Nat → Int)) (a1 : Int) : Option ((Nat → Int)) :=
  (bits_fits a1).bind fun r1 =>
  bif r1 then
    if 0 ≤ ((IntKind.i64.wrap (Int.tdiv a1 64)) : Int) ∧ (IntKind.i64.wrap (Int.tdiv a1 64)) < ((4 : Nat) : Int) then
    if 0 ≤ ((Int.tmod a1 64) : Int) then
    if 0 ≤ ((IntKind.i64.wrap (Int.tdiv a1 64)) : Int) ∧ (IntKind.i64.wrap (Int.tdiv a1 64)) < ((4 : Nat) : Int) then
    some (upd a0 (Int.toNat (IntKind.i64.wrap (Int.tdiv a1 64))) (bitsOf .or .u64 (a0 (Int.toNat (IntKind.i64.wrap (Int.tdiv a1 64)))) (IntKind.u64.wrap (1 * 2 ^ (min (Int.toNat (Int.tmod a1 64)) IntKind.u64.bits)))))
    else none
    else none
    else none
  else
    some a0


/- (*corebell/vector.table).take -/
def vector_table_take (a0 : Vector_table) (a1 : Int) (a2 : Int) : Option (Vector_table) :=
  (vector_table_least a0 a2).bind fun r1 =>
  if 0 ≤ (a1 : Int) ∧ a1 < ((a0.of_.length : Nat) : Int) then
  if 0 ≤ (a2 : Int) ∧ a2 < ((a0.taken_.length : Nat) : Int) then
  (bits_With (a0.taken_.getD (0 + (Int.toNat a2)) (fun (_ : Nat) => (0 : Int))) r1).bind fun r5 =>
  if 0 ≤ (a2 : Int) ∧ a2 < ((a0.taken_.length : Nat) : Int) then
  some (⟨a0.cores_, (a0.of_.set (0 + (Int.toNat a1)) (⟨a2, r1⟩ : Api_Slot)), (a0.taken_.set (0 + (Int.toNat a2)) r5)⟩ : Vector_table)
  else none
  else none
  else none


/- corebell/bits.Without -/
def bits_Without (a0 : (Nat → Int)) (a1 : Int) : Option ((Nat → Int)) :=
  (bits_fits a1).bind fun r1 =>
  bif r1 then
    if 0 ≤ ((IntKind.i64.wrap (Int.tdiv a1 64)) : Int) ∧ (IntKind.i64.wrap (Int.tdiv a1 64)) < ((4 : Nat) : Int) then
    if 0 ≤ ((Int.tmod a1 64) : Int) then
    if 0 ≤ ((IntKind.i64.wrap (Int.tdiv a1 64)) : Int) ∧ (IntKind.i64.wrap (Int.tdiv a1 64)) < ((4 : Nat) : Int) then
    some (upd a0 (Int.toNat (IntKind.i64.wrap (Int.tdiv a1 64))) (bitsOf .andNot .u64 (a0 (Int.toNat (IntKind.i64.wrap (Int.tdiv a1 64)))) (IntKind.u64.wrap (1 * 2 ^ (min (Int.toNat (Int.tmod a1 64)) IntKind.u64.bits)))))
    else none
    else none
    else none
  else
    some a0


/- (*corebell/vector.table).give -/
def vector_table_give (a0 : Vector_table) (a1 : Int) : Option (Vector_table) :=
  if 0 ≤ (a1 : Int) ∧ a1 < ((a0.of_.length : Nat) : Int) then
  if 0 ≤ ((a0.of_.getD (0 + (Int.toNat a1)) (⟨0, 0⟩ : Api_Slot)).Core : Int) ∧ ((a0.of_.getD (0 + (Int.toNat a1)) (⟨0, 0⟩ : Api_Slot)).Core) < ((a0.taken_.length : Nat) : Int) then
  (bits_Without (a0.taken_.getD (0 + (Int.toNat ((a0.of_.getD (0 + (Int.toNat a1)) (⟨0, 0⟩ : Api_Slot)).Core))) (fun (_ : Nat) => (0 : Int))) ((a0.of_.getD (0 + (Int.toNat a1)) (⟨0, 0⟩ : Api_Slot)).Vec)).bind fun r3 =>
  if 0 ≤ ((a0.of_.getD (0 + (Int.toNat a1)) (⟨0, 0⟩ : Api_Slot)).Core : Int) ∧ ((a0.of_.getD (0 + (Int.toNat a1)) (⟨0, 0⟩ : Api_Slot)).Core) < ((a0.taken_.length : Nat) : Int) then
  if 0 ≤ (a1 : Int) ∧ a1 < ((a0.of_.length : Nat) : Int) then
  some (⟨a0.cores_, (a0.of_.set (0 + (Int.toNat a1)) (⟨0, 0⟩ : Api_Slot)), (a0.taken_.set (0 + (Int.toNat ((a0.of_.getD (0 + (Int.toNat a1)) (⟨0, 0⟩ : Api_Slot)).Core))) r3)⟩ : Vector_table)
  else none
  else none
  else none
  else none


/- (*corebell/vector.table).do -/
def vector_table_do (a0 : Vector_table) (a1 : Api_VecOp) : Option (Int × Vector_table) :=
  bif ((decide ((a1.Kind : Int) < 1)) || (decide ((a1.Kind : Int) > 3))) then
    some (5, a0)
  else
    bif ((decide ((a1.Line : Int) < 0)) || (decide ((a1.Line : Int) ≥ ((a0.of_.length : Nat) : Int)))) then
      some (2, a0)
    else
      if 0 ≤ (a1.Line : Int) ∧ a1.Line < ((a0.of_.length : Nat) : Int) then
      bif (((a1.Kind : Int) == 1) == (decide (((a0.of_.getD (0 + (Int.toNat a1.Line)) (⟨0, 0⟩ : Api_Slot)).Vec : Int) > 0))) then
        bif ((a1.Kind : Int) == 1) then
          some (6, a0)
        else
          some (3, a0)
      else
        bif ((a1.Kind : Int) == 1) then
          (vector_table_best a0 a1.Mask (-1)).bind fun r18 =>
          bif (decide ((r18 : Int) < 0)) then
            some (4, a0)
          else
            (vector_table_take a0 a1.Line r18).bind fun r21 =>
            some (0, r21)
        else
          bif ((a1.Kind : Int) == 2) then
            (vector_table_give a0 a1.Line).bind fun r24 =>
            some (0, r24)
          else
            bif ((a1.Kind : Int) == 3) then
              if 0 ≤ (a1.Line : Int) ∧ a1.Line < ((a0.of_.length : Nat) : Int) then
              (vector_table_best a0 a1.Mask ((a0.of_.getD (0 + (Int.toNat a1.Line)) (⟨0, 0⟩ : Api_Slot)).Core)).bind fun r28 =>
              bif (decide ((r28 : Int) < 0)) then
                some (4, a0)
              else
                (vector_table_give a0 a1.Line).bind fun r31 =>
                (vector_table_take r31 a1.Line r28).bind fun r33 =>
                some (0, r33)
              else none
            else
              some (0, a0)
      else none


/- slices.Clone(()corebell/api.Slot,corebell/api.Slot) -/
def slices_Clone_api_Slot (a0 : List Api_Slot) : Option (List Api_Slot) := if a0.length * 16 ≤ 140737488355328 then some a0 else none

/- corebell/vector.Play -/
def vector_Play_l1 (a0 : Int) (a1 : Int) (a2 : (List Api_VecOp)) : Nat → List Int → Nat → Int → List Api_Slot → List (Nat → Int) → Option ((List Int) × (List Api_Slot) × Int)
  | 0, _, _, _, _, _ => none
  | n1 + 1, l10, k11, x12, l13, l14 =>
    bif (decide ((((k11 : Nat) : Int) : Int) < ((a2.length : Nat) : Int))) then
      (vector_table_do (⟨x12, l13, l14⟩ : Vector_table) (a2.getD k11 (⟨0, 0, 0⟩ : Api_VecOp))).bind fun r17 =>
      if ((l10).length + ([r17.1]).length) * 8 ≤ 140737488355328 ∧ (l10).length + ([r17.1]).length ≤ 140737488355328 then
      vector_Play_l1 a0 a1 a2 n1 (l10 ++ [r17.1]) (k11 + 1) r17.2.cores_ r17.2.of_ r17.2.taken_
      else none
    else
      (slices_Clone_api_Slot l13).bind fun r20 =>
      some (l10, r20, 0)

def vector_Play (a0 : Int) (a1 : Int) (a2 : (List Api_VecOp)) : Option ((List Int) × (List Api_Slot) × Int) :=
  bif ((((decide ((a0 : Int) < 1)) || (decide ((a0 : Int) > 8))) || (decide ((a1 : Int) < 0))) || (decide ((a1 : Int) > 2000))) then
    some (([] : List Int), ([] : List Api_Slot), 2)
  else
    if 0 ≤ (a1 : Int) ∧ (Int.toNat a1) * 16 ≤ 140737488355328 ∧ (Int.toNat a1) ≤ 140737488355328 then
    if 0 ≤ (a0 : Int) ∧ (Int.toNat a0) * 32 ≤ 140737488355328 ∧ (Int.toNat a0) ≤ 140737488355328 then
    vector_Play_l1 a0 a1 a2 FUEL ([] : List Int) 0 a0 (List.replicate (Int.toNat a1) (⟨0, 0⟩ : Api_Slot)) (List.replicate (Int.toNat a0) (fun (_ : Nat) => (0 : Int)))
    else none
    else none


/- slices.Equal(()corebell/api.Errno,corebell/api.Errno) -/
def slices_Equal_api_Errno_l1 (a0 : (List Int)) (a1 : (List Int)) : Nat → Nat → Option (Bool)
  | 0, _ => none
  | n1 + 1, k2 =>
    bif (decide ((((k2 : Nat) : Int) : Int) < ((a0.length : Nat) : Int))) then
      if 0 ≤ (((k2 : Nat) : Int) : Int) ∧ ((k2 : Nat) : Int) < ((a1.length : Nat) : Int) then
      bif (((a0.getD k2 0) : Int) != (a1.getD k2 0)) then
        some false
      else
        slices_Equal_api_Errno_l1 a0 a1 n1 (k2 + 1)
      else none
    else
      some true

def slices_Equal_api_Errno (a0 : (List Int)) (a1 : (List Int)) : Option (Bool) :=
  bif ((((a0.length : Nat) : Int) : Int) != ((a1.length : Nat) : Int)) then
    some false
  else
    slices_Equal_api_Errno_l1 a0 a1 FUEL 0


/- slices.Equal(()corebell/api.Slot,corebell/api.Slot) -/
def slices_Equal_api_Slot_l1 (a0 : (List Api_Slot)) (a1 : (List Api_Slot)) : Nat → Nat → Option (Bool)
  | 0, _ => none
  | n1 + 1, k2 =>
    bif (decide ((((k2 : Nat) : Int) : Int) < ((a0.length : Nat) : Int))) then
      if 0 ≤ (((k2 : Nat) : Int) : Int) ∧ ((k2 : Nat) : Int) < ((a1.length : Nat) : Int) then
      bif (!((((a0.getD k2 (⟨0, 0⟩ : Api_Slot)).Core : Int) == ((a1.getD k2 (⟨0, 0⟩ : Api_Slot)).Core)) && ((((a0.getD k2 (⟨0, 0⟩ : Api_Slot)).Vec : Int) == ((a1.getD k2 (⟨0, 0⟩ : Api_Slot)).Vec)) && true))) then
        some false
      else
        slices_Equal_api_Slot_l1 a0 a1 n1 (k2 + 1)
      else none
    else
      some true

def slices_Equal_api_Slot (a0 : (List Api_Slot)) (a1 : (List Api_Slot)) : Option (Bool) :=
  bif ((((a0.length : Nat) : Int) : Int) != ((a1.length : Nat) : Int)) then
    some false
  else
    slices_Equal_api_Slot_l1 a0 a1 FUEL 0


/- corebell/corebellkeep.alive4 -/
def keep_alive4 : Option (Bool) :=
  (vector_Play 2 3 [(⟨1, 0, 3⟩ : Api_VecOp), (⟨1, 1, 3⟩ : Api_VecOp), (⟨1, 2, 3⟩ : Api_VecOp), (⟨3, 1, 3⟩ : Api_VecOp)]).bind fun r1 =>
  (bif ((r1.2.2 : Int) == 0) then slices_Equal_api_Errno r1.1 [0, 0, 0, 0] else some false).bind fun r3 =>
  (bif (((r1.2.2 : Int) == 0) && r3) then slices_Equal_api_Slot r1.2.1 [(⟨0, 32⟩ : Api_Slot), (⟨0, 34⟩ : Api_Slot), (⟨0, 33⟩ : Api_Slot)] else some false).bind fun r6 =>
  some ((((r1.2.2 : Int) == 0) && r3) && r6)


/- corebell/corebellkeep.VectorApart -/
def keep_VectorApart_l1 (a0 : Int) (a1 : Int) (r4 : (List Int) × (List Api_Slot) × Int) : Nat → Nat → List (Api_Slot × Int) → Option (Bool)
  | 0, _, _ => none
  | n1 + 1, k7, m8 =>
    bif (decide ((((k7 : Nat) : Int) : Int) < ((r4.2.1.length : Nat) : Int))) then
      bif (((r4.2.1.getD (0 + k7) (⟨0, 0⟩ : Api_Slot)).Vec : Int) == 0) then
        bif (((r4.2.1.getD (0 + k7) (⟨0, 0⟩ : Api_Slot)).Core : Int) != 0) then
          some false
        else
          keep_VectorApart_l1 a0 a1 r4 n1 (k7 + 1) m8
      else
        bif (((((decide ((((kget (r4.2.1.getD (0 + k7) (⟨0, 0⟩ : Api_Slot)) (kput (r4.2.1.getD (0 + k7) (⟨0, 0⟩ : Api_Slot)) (IntKind.i64.wrap (((kget (r4.2.1.getD (0 + k7) (⟨0, 0⟩ : Api_Slot)) m8).getD 0) + 1)) m8)).getD 0) : Int) > 1)) || (decide (((r4.2.1.getD (0 + k7) (⟨0, 0⟩ : Api_Slot)).Core : Int) < 0))) || (decide (((r4.2.1.getD (0 + k7) (⟨0, 0⟩ : Api_Slot)).Core : Int) ≥ a0))) || (decide (((r4.2.1.getD (0 + k7) (⟨0, 0⟩ : Api_Slot)).Vec : Int) < 32))) || (decide (((r4.2.1.getD (0 + k7) (⟨0, 0⟩ : Api_Slot)).Vec : Int) ≥ 256))) then
          some false
        else
          keep_VectorApart_l1 a0 a1 r4 n1 (k7 + 1) (kput (r4.2.1.getD (0 + k7) (⟨0, 0⟩ : Api_Slot)) (IntKind.i64.wrap (((kget (r4.2.1.getD (0 + k7) (⟨0, 0⟩ : Api_Slot)) m8).getD 0) + 1)) m8)
    else
      some ((((r4.2.1.length : Nat) : Int) : Int) == a1)

def keep_VectorApart (a0 : Int) (a1 : Int) (a2 : (List Api_VecOp)) : Option (Bool) :=
  (keep_alive4).bind fun r1 =>
  bif (!r1) then
    some false
  else
    (vector_Play a0 a1 a2).bind fun r4 =>
    bif ((r4.2.2 : Int) != 0) then
      some ((((r4.2.1.length : Nat) : Int) : Int) == 0)
    else
      keep_VectorApart_l1 a0 a1 r4 FUEL 0 ([] : List (Api_Slot × Int))


end Go.Proofs.YtdfgmloipigmfaaDoor
