/- The models of the functions: printed by program. -/
import Derived.Test.YtfmjgicgbdbpoaaDoorAbY
import Derived.Lib.BitFns
set_option linter.unusedSimpArgs false
set_option linter.unusedVariables false
namespace Go.Proofs.YtfmjgicgbdbpoaaDoor
open Go Go.Ab

structure Api_VecOp where
  Kind : Int
  Line : Int
  Mask : Int
deriving DecidableEq

structure Api_Slot where
  Core : Int
  Vec : Int
deriving DecidableEq

structure Vector_table where
  cores_ : Int
  of_ : (List Api_Slot)
  taken_ : (List (Nat → Int))

def Ok_Api_VecOp (x : Api_VecOp) : Prop := (-9223372036854775808 ≤ x.Kind ∧ x.Kind ≤ 9223372036854775807) ∧ (-9223372036854775808 ≤ x.Line ∧ x.Line ≤ 9223372036854775807) ∧ (-9223372036854775808 ≤ x.Mask ∧ x.Mask ≤ 9223372036854775807)

/- corebell/bits.fits -/
def bits_fits (a0 : Int) : Option (Bool) :=
  some ((decide ((a0 : Int) ≥ 0)) && (decide ((a0 : Int) < 256)))


/- math/bits.TrailingZeros64 -/
def bits_TrailingZeros64 (a0 : Int) : Option Int := if 0 ≤ a0 ∧ a0 < 18446744073709551616 then some ((Lib.ctz 64 a0.toNat : Nat) : Int) else none

/- corebell/bits.Next -/
def bits_Next_l1 (a0 : (Nat → Int)) (a1 : Int) : Nat → Int → Option (Int)
  | 0, _ => none
  | n1 + 1, x10 =>
    bif (decide ((x10 : Int) < 4)) then
      if 0 ≤ (x10 : Int) ∧ x10 < ((4 : Nat) : Int) then
      bif ((((upd a0 (Int.toNat (IntKind.i64.wrap (Int.tdiv (if (0 : Int) > a1 then 0 else a1) 64))) (bitsOf .andNot .u64 (a0 (Int.toNat (IntKind.i64.wrap (Int.tdiv (if (0 : Int) > a1 then 0 else a1) 64)))) (IntKind.u64.wrap ((IntKind.u64.wrap (1 * 2 ^ (min (Int.toNat (Int.tmod (if (0 : Int) > a1 then 0 else a1) 64)) IntKind.u64.bits))) - 1)))) (Int.toNat x10)) : Int) != 0) then
        if 0 ≤ (x10 : Int) ∧ x10 < ((4 : Nat) : Int) then
        (bits_TrailingZeros64 ((upd a0 (Int.toNat (IntKind.i64.wrap (Int.tdiv (if (0 : Int) > a1 then 0 else a1) 64))) (bitsOf .andNot .u64 (a0 (Int.toNat (IntKind.i64.wrap (Int.tdiv (if (0 : Int) > a1 then 0 else a1) 64)))) (IntKind.u64.wrap ((IntKind.u64.wrap (1 * 2 ^ (min (Int.toNat (Int.tmod (if (0 : Int) > a1 then 0 else a1) 64)) IntKind.u64.bits))) - 1)))) (Int.toNat x10))).bind fun r15 =>
        some (IntKind.i64.wrap ((IntKind.i64.wrap (64 * x10)) + r15))
        else none
      else
        bits_Next_l1 a0 a1 n1 (IntKind.i64.wrap (x10 + 1))
      else none
    else
      some (-1)

def bits_Next (a0 : (Nat → Int)) (a1 : Int) : Option (Int) :=
  (bits_fits (if (0 : Int) > a1 then 0 else a1)).bind fun r1 =>
  bif (!r1) then
    some (-1)
  else
    if 0 ≤ ((IntKind.i64.wrap (Int.tdiv (if (0 : Int) > a1 then 0 else a1) 64)) : Int) ∧ (IntKind.i64.wrap (Int.tdiv (if (0 : Int) > a1 then 0 else a1) 64)) < ((4 : Nat) : Int) then
    if 0 ≤ ((Int.tmod (if (0 : Int) > a1 then 0 else a1) 64) : Int) then
    if 0 ≤ ((IntKind.i64.wrap (Int.tdiv (if (0 : Int) > a1 then 0 else a1) 64)) : Int) ∧ (IntKind.i64.wrap (Int.tdiv (if (0 : Int) > a1 then 0 else a1) 64)) < ((4 : Nat) : Int) then
    bits_Next_l1 a0 a1 FUEL (IntKind.i64.wrap (Int.tdiv (if (0 : Int) > a1 then 0 else a1) 64))
    else none
    else none
    else none


/- corebell/bits.All -/
def bits_All_l1 (a0 : (Nat → Int)) (r1 : Int) : Nat → List Int → Int → Option ((List Int))
  | 0, _, _ => none
  | n1 + 1, l3, x4 =>
    bif (decide ((x4 : Int) ≥ 0)) then
      if ((l3).length + ([x4]).length) * 8 ≤ 140737488355328 ∧ (l3).length + ([x4]).length ≤ 140737488355328 then
      (bits_Next a0 (IntKind.i64.wrap (x4 + 1))).bind fun r7 =>
      bits_All_l1 a0 r1 n1 (l3 ++ [x4]) r7
      else none
    else
      some l3

def bits_All (a0 : (Nat → Int)) : Option ((List Int)) :=
  (bits_Next a0 0).bind fun r1 =>
  bits_All_l1 a0 r1 FUEL ([] : List Int) r1


/- (*corebell/vector.table).load -/
def vector_table_load (a0 : Vector_table) (a1 : Int) : Option (Int) :=
  if 0 ≤ (a1 : Int) ∧ a1 < ((a0.taken_.length : Nat) : Int) then
  (bits_All (a0.taken_.getD (Int.toNat a1) (fun (_ : Nat) => (0 : Int)))).bind fun r2 =>
  some ((r2.length : Nat) : Int)
  else none


/- (*corebell/vector.table).best -/
def vector_table_best_l1 (a0 : Vector_table) (a1 : Int) (a2 : Int) : Nat → Int → Int → Option (Int)
  | 0, _, _ => none
  | n1 + 1, x1, x2 =>
    bif (decide ((x2 : Int) < a0.cores_)) then
      if 0 ≤ (x2 : Int) then
      (bif ((((bitsOf .and .i64 (Int.fdiv a1 (2 ^ (min (Int.toNat x2) IntKind.i64.bits))) 1) : Int) == 1) && ((x2 : Int) != a2)) then vector_table_load a0 x2 else some 0).bind fun r8 =>
      (bif ((((((bitsOf .and .i64 (Int.fdiv a1 (2 ^ (min (Int.toNat x2) IntKind.i64.bits))) 1) : Int) == 1) && ((x2 : Int) != a2)) && (decide ((r8 : Int) < 224))) && !(decide ((x1 : Int) < 0))) then vector_table_load a0 x2 else some 0).bind fun r14 =>
      (bif ((((((bitsOf .and .i64 (Int.fdiv a1 (2 ^ (min (Int.toNat x2) IntKind.i64.bits))) 1) : Int) == 1) && ((x2 : Int) != a2)) && (decide ((r8 : Int) < 224))) && !(decide ((x1 : Int) < 0))) then vector_table_load a0 x1 else some 0).bind fun r16 =>
      bif ((((((bitsOf .and .i64 (Int.fdiv a1 (2 ^ (min (Int.toNat x2) IntKind.i64.bits))) 1) : Int) == 1) && ((x2 : Int) != a2)) && (decide ((r8 : Int) < 224))) && ((decide ((x1 : Int) < 0)) || (decide ((r14 : Int) < r16)))) then
        vector_table_best_l1 a0 a1 a2 n1 x2 (IntKind.i64.wrap (x2 + 1))
      else
        vector_table_best_l1 a0 a1 a2 n1 x1 (IntKind.i64.wrap (x2 + 1))
      else none
    else
      some x1

def vector_table_best (a0 : Vector_table) (a1 : Int) (a2 : Int) : Option (Int) :=
  vector_table_best_l1 a0 a1 a2 FUEL (-1) 0


/- corebell/bits.Has -/
def bits_Has (a0 : (Nat → Int)) (a1 : Int) : Option (Bool) :=
  (bits_fits a1).bind fun r1 =>
  if (r1 = true → (0 ≤ ((IntKind.i64.wrap (Int.tdiv a1 64)) : Int) ∧ (IntKind.i64.wrap (Int.tdiv a1 64)) < ((4 : Nat) : Int))) then
  if (r1 = true → (0 ≤ ((Int.tmod a1 64) : Int))) then
  some (r1 && (((bitsOf .and .u64 (Int.fdiv (a0 (Int.toNat (IntKind.i64.wrap (Int.tdiv a1 64)))) (2 ^ (min (Int.toNat (Int.tmod a1 64)) IntKind.u64.bits))) 1) : Int) == 1))
  else none
  else none


/- (*corebell/vector.table).least -/
def vector_table_least_l1 (a0 : Vector_table) (a1 : Int) : Nat → Int → Option (Int)
  | 0, _ => none
  | n1 + 1, x1 =>
    if 0 ≤ (a1 : Int) ∧ a1 < ((a0.taken_.length : Nat) : Int) then
    (bits_Has (a0.taken_.getD (Int.toNat a1) (fun (_ : Nat) => (0 : Int))) x1).bind fun r3 =>
    bif r3 then
      vector_table_least_l1 a0 a1 n1 (IntKind.i64.wrap (x1 + 1))
    else
      some x1
    else none

def vector_table_least (a0 : Vector_table) (a1 : Int) : Option (Int) :=
  vector_table_least_l1 a0 a1 FUEL 32


/- corebell/bits.With -/
def bits_With (a0 : (Nat → Int)) (a1 : Int) : Option ((Nat → Int)) :=
  (bits_fits a1).bind fun r1 =>
  bif r1 then
    if 0 ≤ ((IntKind.i64.wrap (Int.tdiv a1 64)) : Int) ∧ (IntKind.i64.wrap (Int.tdiv a1 64)) < ((4 : Nat) : Int) then
    if 0 ≤ ((Int.tmod a1 64) : Int) then
    if 0 ≤ ((IntKind.i64.wrap (Int.tdiv a1 64)) : Int) ∧ (IntKind.i64.wrap (Int.tdiv a1 64)) < ((4 : Nat) : Int) then
    some (upd a0 (Int.toNat (IntKind.i64.wrap (Int.tdiv a1 64))) (bitsOf .or .u64 (a0 (Int.toNat (IntKind.i64.wrap (Int.tdiv a1 64)))) (IntKind.u64.wrap (1 * 2 ^ (min (Int.toNat (Int.tmod a1 64)) IntKind.u64.bits)))))
    else none
    else none
    else none
  else
    some a0


/- (*corebell/vector.table).take -/
def vector_table_take (a0 : Vector_table) (a1 : Int) (a2 : Int) : Option (Vector_table) :=
  (vector_table_least a0 a2).bind fun r1 =>
  if 0 ≤ (a1 : Int) ∧ a1 < ((a0.of_.length : Nat) : Int) then
  if 0 ≤ (a2 : Int) ∧ a2 < ((a0.taken_.length : Nat) : Int) then
  (bits_With (a0.taken_.getD (0 + (Int.toNat a2)) (fun (_ : Nat) => (0 : Int))) r1).bind fun r5 =>
  if 0 ≤ (a2 : Int) ∧ a2 < ((a0.taken_.length : Nat) : Int) then
  some (⟨a0.cores_, (a0.of_.set (0 + (Int.toNat a1)) (⟨a2, r1⟩ : Api_Slot)), (a0.taken_.set (0 + (Int.toNat a2)) r5)⟩ : Vector_table)
  else none
  else none
  else none


/- corebell/bits.Without -/
def bits_Without (a0 : (Nat → Int)) (a1 : Int) : Option ((Nat → Int)) :=
  (bits_fits a1).bind fun r1 =>
  bif r1 then
    if 0 ≤ ((IntKind.i64.wrap (Int.tdiv a1 64)) : Int) ∧ (IntKind.i64.wrap (Int.tdiv a1 64)) < ((4 : Nat) : Int) then
    if 0 ≤ ((Int.tmod a1 64) : Int) then
    if 0 ≤ ((IntKind.i64.wrap (Int.tdiv a1 64)) : Int) ∧ (IntKind.i64.wrap (Int.tdiv a1 64)) < ((4 : Nat) : Int) then
    some (upd a0 (Int.toNat (IntKind.i64.wrap (Int.tdiv a1 64))) (bitsOf .andNot .u64 (a0 (Int.toNat (IntKind.i64.wrap (Int.tdiv a1 64)))) (IntKind.u64.wrap (1 * 2 ^ (min (Int.toNat (Int.tmod a1 64)) IntKind.u64.bits)))))
    else none
    else none
    else none
  else
    some a0


/- (*corebell/vector.table).give -/
def vector_table_give (a0 : Vector_table) (a1 : Int) : Option (Vector_table) :=
  if 0 ≤ (a1 : Int) ∧ a1 < ((a0.of_.length : Nat) : Int) then
  if 0 ≤ ((a0.of_.getD (0 + (Int.toNat a1)) (⟨0, 0⟩ : Api_Slot)).Core : Int) ∧ ((a0.of_.getD (0 + (Int.toNat a1)) (⟨0, 0⟩ : Api_Slot)).Core) < ((a0.taken_.length : Nat) : Int) then
  (bits_Without (a0.taken_.getD (0 + (Int.toNat ((a0.of_.getD (0 + (Int.toNat a1)) (⟨0, 0⟩ : Api_Slot)).Core))) (fun (_ : Nat) => (0 : Int))) ((a0.of_.getD (0 + (Int.toNat a1)) (⟨0, 0⟩ : Api_Slot)).Vec)).bind fun r3 =>
  if 0 ≤ ((a0.of_.getD (0 + (Int.toNat a1)) (⟨0, 0⟩ : Api_Slot)).Core : Int) ∧ ((a0.of_.getD (0 + (Int.toNat a1)) (⟨0, 0⟩ : Api_Slot)).Core) < ((a0.taken_.length : Nat) : Int) then
  if 0 ≤ (a1 : Int) ∧ a1 < ((a0.of_.length : Nat) : Int) then
  some (⟨a0.cores_, (a0.of_.set (0 + (Int.toNat a1)) (⟨0, 0⟩ : Api_Slot)), (a0.taken_.set (0 + (Int.toNat ((a0.of_.getD (0 + (Int.toNat a1)) (⟨0, 0⟩ : Api_Slot)).Core))) r3)⟩ : Vector_table)
  else none
  else none
  else none
  else none


/- (*corebell/vector.table).do -/
def vector_table_do (a0 : Vector_table) (a1 : Api_VecOp) : Option (Int × Vector_table) :=
  bif ((decide ((a1.Kind : Int) < 1)) || (decide ((a1.Kind : Int) > 3))) then
    some (5, a0)
  else
    bif ((decide ((a1.Line : Int) < 0)) || (decide ((a1.Line : Int) ≥ ((a0.of_.length : Nat) : Int)))) then
      some (2, a0)
    else
      if 0 ≤ (a1.Line : Int) ∧ a1.Line < ((a0.of_.length : Nat) : Int) then
      bif (((a1.Kind : Int) == 1) == (decide (((a0.of_.getD (0 + (Int.toNat a1.Line)) (⟨0, 0⟩ : Api_Slot)).Vec : Int) > 0))) then
        bif ((a1.Kind : Int) == 1) then
          some (6, a0)
        else
          some (3, a0)
      else
        bif ((a1.Kind : Int) == 1) then
          (vector_table_best a0 a1.Mask (-1)).bind fun r18 =>
          bif (decide ((r18 : Int) < 0)) then
            some (4, a0)
          else
            (vector_table_take a0 a1.Line r18).bind fun r21 =>
            some (0, r21)
        else
          bif ((a1.Kind : Int) == 2) then
            (vector_table_give a0 a1.Line).bind fun r24 =>
            some (0, r24)
          else
            bif ((a1.Kind : Int) == 3) then
              if 0 ≤ (a1.Line : Int) ∧ a1.Line < ((a0.of_.length : Nat) : Int) then
              (vector_table_best a0 a1.Mask ((a0.of_.getD (0 + (Int.toNat a1.Line)) (⟨0, 0⟩ : Api_Slot)).Core)).bind fun r28 =>
              bif (decide ((r28 : Int) < 0)) then
                some (4, a0)
              else
                (vector_table_give a0 a1.Line).bind fun r31 =>
                (vector_table_take r31 a1.Line r28).bind fun r33 =>
                some (0, r33)
              else none
            else
              some (0, a0)
      else none


/- slices.Clone(()corebell/api.Slot,corebell/api.Slot) -/
def slices_Clone_api_Slot (a0 : List Api_Slot) : Option (List Api_Slot) := if a0.length * 16 ≤ 140737488355328 then some a0 else none

/- corebell/vector.Play -/
def vector_Play_l1 (a0 : Int) (a1 : Int) (a2 : (List Api_VecOp)) : Nat → List Int → Nat → Int → List Api_Slot → List (Nat → Int) → Option ((List Int) × (List Api_Slot) × Int)
  | 0, _, _, _, _, _ => none
  | n1 + 1, l10, k11, x12, l13, l14 =>
    bif (decide ((((k11 : Nat) : Int) : Int) < ((a2.length : Nat) : Int))) then
      (vector_table_do (⟨x12, l13, l14⟩ : Vector_table) (a2.getD k11 (⟨0, 0, 0⟩ : Api_VecOp))).bind fun r17 =>
      if ((l10).length + ([r17.1]).length) * 8 ≤ 140737488355328 ∧ (l10).length + ([r17.1]).length ≤ 140737488355328 then
      vector_Play_l1 a0 a1 a2 n1 (l10 ++ [r17.1]) (k11 + 1) r17.2.cores_ r17.2.of_ r17.2.taken_
      else none
    else
      (slices_Clone_api_Slot l13).bind fun r20 =>
      some (l10, r20, 0)

def vector_Play (a0 : Int) (a1 : Int) (a2 : (List Api_VecOp)) : Option ((List Int) × (List Api_Slot) × Int) :=
  bif ((((decide ((a0 : Int) < 1)) || (decide ((a0 : Int) > 8))) || (decide ((a1 : Int) < 0))) || (decide ((a1 : Int) > 2000))) then
    some (([] : List Int), ([] : List Api_Slot), 2)
  else
    if 0 ≤ (a1 : Int) ∧ (Int.toNat a1) * 16 ≤ 140737488355328 ∧ (Int.toNat a1) ≤ 140737488355328 then
    if 0 ≤ (a0 : Int) ∧ (Int.toNat a0) * 32 ≤ 140737488355328 ∧ (Int.toNat a0) ≤ 140737488355328 then
    vector_Play_l1 a0 a1 a2 FUEL ([] : List Int) 0 a0 (List.replicate (Int.toNat a1) (⟨0, 0⟩ : Api_Slot)) (List.replicate (Int.toNat a0) (fun (_ : Nat) => (0 : Int)))
    else none
    else none


/- slices.Equal(()corebell/api.Errno,corebell/api.Errno) -/
def slices_Equal_api_Errno_l1 (a0 : (List Int)) (a1 : (List Int)) : Nat → Nat → Option (Bool)
  | 0, _ => none
  | n1 + 1, k2 =>
    bif (decide ((((k2 : Nat) : Int) : Int) < ((a0.length : Nat) : Int))) then
      if 0 ≤ (((k2 : Nat) : Int) : Int) ∧ ((k2 : Nat) : Int) < ((a1.length : Nat) : Int) then
      bif (((a0.getD k2 0) : Int) != (a1.getD k2 0)) then
        some false
      else
        slices_Equal_api_Errno_l1 a0 a1 n1 (k2 + 1)
      else none
    else
      some true

def slices_Equal_api_Errno (a0 : (List Int)) (a1 : (List Int)) : Option (Bool) :=
  bif ((((a0.length : Nat) : Int) : Int) != ((a1.length : Nat) : Int)) then
    some false
  else
    slices_Equal_api_Errno_l1 a0 a1 FUEL 0


/- slices.Equal(()corebell/api.Slot,corebell/api.Slot) -/
def slices_Equal_api_Slot_l1 (a0 : (List Api_Slot)) (a1 : (List Api_Slot)) : Nat → Nat → Option (Bool)
  | 0, _ => none
  | n1 + 1, k2 =>
    bif (decide ((((k2 : Nat) : Int) : Int) < ((a0.length : Nat) : Int))) then
      if 0 ≤ (((k2 : Nat) : Int) : Int) ∧ ((k2 : Nat) : Int) < ((a1.length : Nat) : Int) then
      bif (!((((a0.getD k2 (⟨0, 0⟩ : Api_Slot)).Core : Int) == ((a1.getD k2 (⟨0, 0⟩ : Api_Slot)).Core)) && ((((a0.getD k2 (⟨0, 0⟩ : Api_Slot)).Vec : Int) == ((a1.getD k2 (⟨0, 0⟩ : Api_Slot)).Vec)) && true))) then
        some false
      else
        slices_Equal_api_Slot_l1 a0 a1 n1 (k2 + 1)
      else none
    else
      some true

def slices_Equal_api_Slot (a0 : (List Api_Slot)) (a1 : (List Api_Slot)) : Option (Bool) :=
  bif ((((a0.length : Nat) : Int) : Int) != ((a1.length : Nat) : Int)) then
    some false
  else
    slices_Equal_api_Slot_l1 a0 a1 FUEL 0


/- corebell/corebellkeep.alive4 -/
def keep_alive4 : Option (Bool) :=
  (vector_Play 2 3 [(⟨1, 0, 3⟩ : Api_VecOp), (⟨1, 1, 3⟩ : Api_VecOp), (⟨1, 2, 3⟩ : Api_VecOp), (⟨3, 1, 3⟩ : Api_VecOp)]).bind fun r1 =>
  (bif ((r1.2.2 : Int) == 0) then slices_Equal_api_Errno r1.1 [0, 0, 0, 0] else some false).bind fun r3 =>
  (bif (((r1.2.2 : Int) == 0) && r3) then slices_Equal_api_Slot r1.2.1 [(⟨0, 32⟩ : Api_Slot), (⟨0, 34⟩ : Api_Slot), (⟨0, 33⟩ : Api_Slot)] else some false).bind fun r6 =>
  some ((((r1.2.2 : Int) == 0) && r3) && r6)


/- slices.Clone(()corebell/api.VecOp,corebell/api.VecOp) -/
def slices_Clone_api_VecOp (a0 : List Api_VecOp) : Option (List Api_VecOp) := if a0.length * 24 ≤ 140737488355328 then some a0 else none

/- corebell/corebellkeep.VectorMeant -/
def keep_VectorMeant_l1 (a3 : Api_VecOp) (r4 : (List Int) × (List Api_Slot) × Int) (r9 : (List Int) × (List Api_Slot) × Int) : Nat → Nat → Option (Bool)
  | 0, _ => none
  | n1 + 1, k26 =>
    bif (decide ((((k26 : Nat) : Int) : Int) < ((r4.2.1.length : Nat) : Int))) then
      if (((((k26 : Nat) : Int) : Int) != a3.Line) = true → (0 ≤ (((k26 : Nat) : Int) : Int) ∧ ((k26 : Nat) : Int) < ((r4.2.1.length : Nat) : Int))) then
      if (((((k26 : Nat) : Int) : Int) != a3.Line) = true → (0 ≤ (((k26 : Nat) : Int) : Int) ∧ ((k26 : Nat) : Int) < ((r9.2.1.length : Nat) : Int))) then
      bif (((((k26 : Nat) : Int) : Int) != a3.Line) && (!((((r4.2.1.getD (0 + k26) (⟨0, 0⟩ : Api_Slot)).Core : Int) == ((r9.2.1.getD (0 + k26) (⟨0, 0⟩ : Api_Slot)).Core)) && ((((r4.2.1.getD (0 + k26) (⟨0, 0⟩ : Api_Slot)).Vec : Int) == ((r9.2.1.getD (0 + k26) (⟨0, 0⟩ : Api_Slot)).Vec)) && true)))) then
        some false
      else
        keep_VectorMeant_l1 a3 r4 r9 n1 (k26 + 1)
      else none
      else none
    else
      if 0 ≤ (a3.Line : Int) ∧ a3.Line < ((r9.2.1.length : Nat) : Int) then
      bif ((a3.Kind : Int) == 2) then
        some ((((r9.2.1.getD (0 + (Int.toNat a3.Line)) (⟨0, 0⟩ : Api_Slot)).Core : Int) == 0) && ((((r9.2.1.getD (0 + (Int.toNat a3.Line)) (⟨0, 0⟩ : Api_Slot)).Vec : Int) == 0) && true))
      else
        if 0 ≤ ((r9.2.1.getD (0 + (Int.toNat a3.Line)) (⟨0, 0⟩ : Api_Slot)).Core : Int) then
        if (((((Int.tmod (Int.fdiv (IntKind.u64.wrap a3.Mask) (2 ^ (min (Int.toNat ((r9.2.1.getD (0 + (Int.toNat a3.Line)) (⟨0, 0⟩ : Api_Slot)).Core)) IntKind.u64.bits))) 2) : Int) == 1) && !((a3.Kind : Int) == 1)) = true → (0 ≤ (a3.Line : Int) ∧ a3.Line < ((r4.2.1.length : Nat) : Int))) then
        some ((((Int.tmod (Int.fdiv (IntKind.u64.wrap a3.Mask) (2 ^ (min (Int.toNat ((r9.2.1.getD (0 + (Int.toNat a3.Line)) (⟨0, 0⟩ : Api_Slot)).Core)) IntKind.u64.bits))) 2) : Int) == 1) && (((a3.Kind : Int) == 1) || (((r9.2.1.getD (0 + (Int.toNat a3.Line)) (⟨0, 0⟩ : Api_Slot)).Core : Int) != ((r4.2.1.getD (0 + (Int.toNat a3.Line)) (⟨0, 0⟩ : Api_Slot)).Core))))
        else none
        else none
      else none

def keep_VectorMeant (a0 : Int) (a1 : Int) (a2 : (List Api_VecOp)) (a3 : Api_VecOp) : Option (Bool) :=
  (keep_alive4).bind fun r1 =>
  bif (!r1) then
    some false
  else
    (vector_Play a0 a1 a2).bind fun r4 =>
    (slices_Clone_api_VecOp a2).bind fun r6 =>
    if ((r6).length + ([a3]).length) * 24 ≤ 140737488355328 ∧ (r6).length + ([a3]).length ≤ 140737488355328 then
    (vector_Play a0 a1 (r6 ++ [a3])).bind fun r9 =>
    bif ((((r4.2.2 : Int) != 0) || ((r9.2.2 : Int) != 0)) || ((((r9.1.length : Nat) : Int) : Int) != (IntKind.i64.wrap (((a2.length : Nat) : Int) + 1)))) then
      some (((r4.2.2 : Int) == r9.2.2) && ((r4.2.2 : Int) != 0))
    else
      if 0 ≤ (((a2.length : Nat) : Int) : Int) ∧ ((a2.length : Nat) : Int) < ((r9.1.length : Nat) : Int) then
      bif (((r9.1.getD (0 + a2.length) 0) : Int) != 0) then
        (slices_Equal_api_Slot r4.2.1 r9.2.1).bind fun r24 =>
        some r24
      else
        keep_VectorMeant_l1 a3 r4 r9 FUEL 0
      else none
    else none


/- corebell/corebellkeep.VectorFull -/
def keep_VectorFull_l2 (r4 : (List Int) × (List Api_Slot) × Int) (x24 : Int) (K2_0 : Int → Nat → Option (Bool)) : Nat → Int → Nat → Option (Bool)
  | 0, _, _ => none
  | n2 + 1, x26, k27 =>
    bif (decide ((((k27 : Nat) : Int) : Int) < ((r4.2.1.length : Nat) : Int))) then
      bif ((decide (((r4.2.1.getD (0 + k27) (⟨0, 0⟩ : Api_Slot)).Vec : Int) > 0)) && (((r4.2.1.getD (0 + k27) (⟨0, 0⟩ : Api_Slot)).Core : Int) == x24)) then
        keep_VectorFull_l2 r4 x24 K2_0 n2 (IntKind.i64.wrap (x26 + 1)) (k27 + 1)
      else
        keep_VectorFull_l2 r4 x24 K2_0 n2 x26 (k27 + 1)
    else
      K2_0 x26 k27

def keep_VectorFull_l1 (a0 : Int) (a2 : (List Api_VecOp)) (a4 : Int) (r4 : (List Int) × (List Api_Slot) × Int) (r9 : (List Int) × (List Api_Slot) × Int) : Nat → Bool → Int → Option (Bool)
  | 0, _, _ => none
  | n1 + 1, b23, x24 =>
    bif (decide ((x24 : Int) < a0)) then
      keep_VectorFull_l2 r4 x24 (fun (x26 : Int) (k27 : Nat) =>
          if ((!b23) = true → (0 ≤ (x24 : Int))) then
          keep_VectorFull_l1 a0 a2 a4 r4 r9 n1 (b23 || ((((Int.tmod (Int.fdiv (IntKind.u64.wrap a4) (2 ^ (min (Int.toNat x24) IntKind.u64.bits))) 2) : Int) == 1) && (decide ((x26 : Int) < 224)))) (IntKind.i64.wrap (x24 + 1))
          else none
        ) FUEL 0 0
    else
      if (((((r9.1.length : Nat) : Int) : Int) == (IntKind.i64.wrap (((a2.length : Nat) : Int) + 1))) = true → (0 ≤ (((a2.length : Nat) : Int) : Int) ∧ ((a2.length : Nat) : Int) < ((r9.1.length : Nat) : Int))) then
      if (((((((r9.1.length : Nat) : Int) : Int) == (IntKind.i64.wrap (((a2.length : Nat) : Int) + 1))) && ((((r9.1.getD (0 + a2.length) 0) : Int) == 0) == b23)) && !b23) = true → (0 ≤ (((a2.length : Nat) : Int) : Int) ∧ ((a2.length : Nat) : Int) < ((r9.1.length : Nat) : Int))) then
      some ((((((r9.1.length : Nat) : Int) : Int) == (IntKind.i64.wrap (((a2.length : Nat) : Int) + 1))) && ((((r9.1.getD (0 + a2.length) 0) : Int) == 0) == b23)) && (b23 || (((r9.1.getD (0 + a2.length) 0) : Int) == 4)))
      else none
      else none

def keep_VectorFull (a0 : Int) (a1 : Int) (a2 : (List Api_VecOp)) (a3 : Int) (a4 : Int) : Option (Bool) :=
  (keep_alive4).bind fun r1 =>
  bif (!r1) then
    some false
  else
    (vector_Play a0 a1 a2).bind fun r4 =>
    (slices_Clone_api_VecOp a2).bind fun r6 =>
    if ((r6).length + ([(⟨1, a3, a4⟩ : Api_VecOp)]).length) * 24 ≤ 140737488355328 ∧ (r6).length + ([(⟨1, a3, a4⟩ : Api_VecOp)]).length ≤ 140737488355328 then
    (vector_Play a0 a1 (r6 ++ [(⟨1, a3, a4⟩ : Api_VecOp)])).bind fun r9 =>
    if ((!((((r4.2.2 : Int) != 0) || (decide ((a3 : Int) < 0))) || (decide ((a3 : Int) ≥ a1)))) = true → (0 ≤ (a3 : Int) ∧ a3 < ((r4.2.1.length : Nat) : Int))) then
    bif (((((r4.2.2 : Int) != 0) || (decide ((a3 : Int) < 0))) || (decide ((a3 : Int) ≥ a1))) || (decide (((r4.2.1.getD (0 + (Int.toNat a3)) (⟨0, 0⟩ : Api_Slot)).Vec : Int) > 0))) then
      some true
    else
      keep_VectorFull_l1 a0 a2 a4 r4 r9 FUEL false 0
    else none
    else none


/- corebell/corebellkeep.VectorEven$1 -/
def keep_VectorEven_1 (a0 : Int) : Option (Bool) :=
  some ((a0 : Int) != 0)


/- slices.IndexFunc(()corebell/api.Errno,corebell/api.Errno) -/
def slices_IndexFunc_api_Errno_keep_VectorEven_1_l1 (a0 : (List Int)) : Nat → Nat → Option (Int)
  | 0, _ => none
  | n1 + 1, k1 =>
    bif (decide ((((k1 : Nat) : Int) : Int) < ((a0.length : Nat) : Int))) then
      (keep_VectorEven_1 (a0.getD k1 0)).bind fun r4 =>
      bif r4 then
        some ((k1 : Nat) : Int)
      else
        slices_IndexFunc_api_Errno_keep_VectorEven_1_l1 a0 n1 (k1 + 1)
    else
      some (-1)

def slices_IndexFunc_api_Errno_keep_VectorEven_1 (a0 : (List Int)) : Option (Int) :=
  slices_IndexFunc_api_Errno_keep_VectorEven_1_l1 a0 FUEL 0


/- slices.ContainsFunc(()corebell/api.Errno,corebell/api.Errno) -/
def slices_ContainsFunc_api_Errno_keep_VectorEven_1 (a0 : (List Int)) : Option (Bool) :=
  (slices_IndexFunc_api_Errno_keep_VectorEven_1 a0).bind fun r1 =>
  some (decide ((r1 : Int) ≥ 0))


/- corebell/corebellkeep.VectorEven -/
def keep_VectorEven_l3 (a0 : Int) (a1 : Int) (f24 : (Nat → Int)) : Nat → Int → Option (Bool)
  | 0, _ => none
  | n3 + 1, x29 =>
    bif (decide ((x29 : Int) < a0)) then
      if 0 ≤ (x29 : Int) ∧ x29 < ((8 : Nat) : Int) then
      if (a0 : Int) ≠ 0 then
      if ((!(decide (((f24 (Int.toNat x29)) : Int) < (IntKind.i64.wrap (Int.tdiv a1 a0))))) = true → (0 ≤ (x29 : Int) ∧ x29 < ((8 : Nat) : Int))) then
      if ((!(decide (((f24 (Int.toNat x29)) : Int) < (IntKind.i64.wrap (Int.tdiv a1 a0))))) = true → ((a0 : Int) ≠ 0)) then
      bif ((decide (((f24 (Int.toNat x29)) : Int) < (IntKind.i64.wrap (Int.tdiv a1 a0)))) || (decide (((f24 (Int.toNat x29)) : Int) > (IntKind.i64.wrap (Int.tdiv (IntKind.i64.wrap ((IntKind.i64.wrap (a1 + a0)) - 1)) a0))))) then
        some false
      else
        keep_VectorEven_l3 a0 a1 f24 n3 (IntKind.i64.wrap (x29 + 1))
      else none
      else none
      else none
      else none
    else
      some true

def keep_VectorEven_l2 (a0 : Int) (a1 : Int) (r17 : (List Int) × (List Api_Slot) × Int) : Nat → Nat → (Nat → Int) → Option (Bool)
  | 0, _, _ => none
  | n2 + 1, k23, f24 =>
    bif (decide ((((k23 : Nat) : Int) : Int) < ((r17.2.1.length : Nat) : Int))) then
      if 0 ≤ ((r17.2.1.getD (0 + k23) (⟨0, 0⟩ : Api_Slot)).Core : Int) ∧ ((r17.2.1.getD (0 + k23) (⟨0, 0⟩ : Api_Slot)).Core) < ((8 : Nat) : Int) then
      if 0 ≤ ((r17.2.1.getD (0 + k23) (⟨0, 0⟩ : Api_Slot)).Core : Int) ∧ ((r17.2.1.getD (0 + k23) (⟨0, 0⟩ : Api_Slot)).Core) < ((8 : Nat) : Int) then
      keep_VectorEven_l2 a0 a1 r17 n2 (k23 + 1) (upd f24 (Int.toNat ((r17.2.1.getD (0 + k23) (⟨0, 0⟩ : Api_Slot)).Core)) (IntKind.i64.wrap ((f24 (Int.toNat ((r17.2.1.getD (0 + k23) (⟨0, 0⟩ : Api_Slot)).Core))) + 1)))
      else none
      else none
    else
      keep_VectorEven_l3 a0 a1 f24 FUEL 0

def keep_VectorEven_l1 (a0 : Int) (a1 : Int) : Nat → List Api_VecOp → Int → Option (Bool)
  | 0, _, _ => none
  | n1 + 1, l13, x14 =>
    bif (decide ((x14 : Int) < a1)) then
      if ((l13).length + ([(⟨1, x14, 255⟩ : Api_VecOp)]).length) * 24 ≤ 140737488355328 ∧ (l13).length + ([(⟨1, x14, 255⟩ : Api_VecOp)]).length ≤ 140737488355328 then
      keep_VectorEven_l1 a0 a1 n1 (l13 ++ [(⟨1, x14, 255⟩ : Api_VecOp)]) (IntKind.i64.wrap (x14 + 1))
      else none
    else
      (vector_Play a0 a1 l13).bind fun r17 =>
      (bif (!((r17.2.2 : Int) != 0)) then slices_ContainsFunc_api_Errno_keep_VectorEven_1 r17.1 else some false).bind fun r19 =>
      bif (((r17.2.2 : Int) != 0) || r19) then
        some false
      else
        keep_VectorEven_l2 a0 a1 r17 FUEL 0 (fun _ => 0)

def keep_VectorEven (a0 : Int) (a1 : Int) : Option (Bool) :=
  (keep_alive4).bind fun r1 =>
  bif (!r1) then
    some false
  else
    bif ((((decide ((a0 : Int) < 1)) || (decide ((a0 : Int) > 8))) || (decide ((a1 : Int) < 0))) || (decide ((a1 : Int) > (IntKind.i64.wrap (224 * a0))))) then
      some true
    else
      keep_VectorEven_l1 a0 a1 FUEL ([] : List Api_VecOp) 0


end Go.Proofs.YtfmjgicgbdbpoaaDoor
