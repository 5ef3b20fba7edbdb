/- The models of the functions: printed by program. -/
import Derived.Test.YtfmjgicgbdbpoaaAbYg
set_option linter.unusedSimpArgs false
set_option linter.unusedVariables false
namespace Go.Proofs.Ytfmjgicgbdbpoaa
open Go Go.Ab

structure Api_RankOp where
  Kind : Int
  Thread : Int
  Lock : Int
deriving DecidableEq

structure Rank_state where
  holder_ : (List Int)
  waits_ : (List Int)
deriving DecidableEq

def Ok_Api_RankOp (x : Api_RankOp) : Prop := (-9223372036854775808 ≤ x.Kind ∧ x.Kind ≤ 9223372036854775807) ∧ (-9223372036854775808 ≤ x.Thread ∧ x.Thread ≤ 9223372036854775807) ∧ (-9223372036854775808 ≤ x.Lock ∧ x.Lock ≤ 9223372036854775807)

/- math/bits.Mul32 -/
def math_bits_Mul32 (a0 : Int) (a1 : Int) : Option (Int × Int) :=
  some ((IntKind.u32.wrap (Int.fdiv (IntKind.u64.wrap ((IntKind.u64.wrap a0) * (IntKind.u64.wrap a1))) (2 ^ (min (Int.toNat 32) IntKind.u64.bits)))), (IntKind.u32.wrap (IntKind.u64.wrap ((IntKind.u64.wrap a0) * (IntKind.u64.wrap a1)))))


/- math/bits.Mul64 -/
def math_bits_Mul64 (a0 : Int) (a1 : Int) : Option (Int × Int) :=
  some ((IntKind.u64.wrap ((IntKind.u64.wrap ((IntKind.u64.wrap ((Int.fdiv a0 (2 ^ (min (Int.toNat 32) IntKind.u64.bits))) * (Int.fdiv a1 (2 ^ (min (Int.toNat 32) IntKind.u64.bits))))) + (Int.fdiv (IntKind.u64.wrap ((IntKind.u64.wrap ((Int.fdiv a0 (2 ^ (min (Int.toNat 32) IntKind.u64.bits))) * (bitsOf .and .u64 a1 4294967295))) + (Int.fdiv (IntKind.u64.wrap ((bitsOf .and .u64 a0 4294967295) * (bitsOf .and .u64 a1 4294967295))) (2 ^ (min (Int.toNat 32) IntKind.u64.bits))))) (2 ^ (min (Int.toNat 32) IntKind.u64.bits))))) + (Int.fdiv (IntKind.u64.wrap ((bitsOf .and .u64 (IntKind.u64.wrap ((IntKind.u64.wrap ((Int.fdiv a0 (2 ^ (min (Int.toNat 32) IntKind.u64.bits))) * (bitsOf .and .u64 a1 4294967295))) + (Int.fdiv (IntKind.u64.wrap ((bitsOf .and .u64 a0 4294967295) * (bitsOf .and .u64 a1 4294967295))) (2 ^ (min (Int.toNat 32) IntKind.u64.bits))))) 4294967295) + (IntKind.u64.wrap ((bitsOf .and .u64 a0 4294967295) * (Int.fdiv a1 (2 ^ (min (Int.toNat 32) IntKind.u64.bits))))))) (2 ^ (min (Int.toNat 32) IntKind.u64.bits))))), (IntKind.u64.wrap (a0 * a1)))


/- math/bits.Mul -/
def math_bits_Mul (a0 : Int) (a1 : Int) : Option (Int × Int) :=
  bif false then
    (math_bits_Mul32 (IntKind.u32.wrap a0) (IntKind.u32.wrap a1)).bind fun r2 =>
    some ((IntKind.u64.wrap r2.1), (IntKind.u64.wrap r2.2))
  else
    (math_bits_Mul64 a0 a1).bind fun r4 =>
    some (r4.1, r4.2)


/- slices.Repeat(()int,int) -/
def slices_Repeat_int_l1 (a0 : (List Int)) (r2 : Int × Int) : Nat → Int → List Int → Option ((List Int))
  | 0, _, _ => none
  | n1 + 1, x9, l10 =>
    bif (decide ((x9 : Int) < ((l10.length : Nat) : Int))) then
      if 0 ≤ (x9 : Int) then
      if (Int.toNat x9) ≤ l10.length then
      if 0 ≤ (x9 : Int) then
      if (Int.toNat x9) ≤ l10.length then
      if (0 + (Int.toNat x9)) + (l10.length - (Int.toNat x9)) ≤ l10.length ∧ (0 + 0) + ((Int.toNat x9) - 0) ≤ l10.length then
      slices_Repeat_int_l1 a0 r2 n1 (IntKind.i64.wrap (x9 + (((min ((l10.drop (0 + 0)).take ((Int.toNat x9) - 0)).length (l10.length - (Int.toNat x9))) : Nat) : Int))) (cpL l10 (0 + (Int.toNat x9)) (min ((l10.drop (0 + 0)).take ((Int.toNat x9) - 0)).length (l10.length - (Int.toNat x9))) ((l10.drop (0 + 0)).take ((Int.toNat x9) - 0)))
      else none
      else none
      else none
      else none
      else none
    else
      some l10

def slices_Repeat_int (a0 : (List Int)) (a1 : Int) : Option ((List Int)) :=
  bif (decide ((a1 : Int) < 0)) then
    none
  else
    (math_bits_Mul (IntKind.u64.wrap ((a0.length : Nat) : Int)) (IntKind.u64.wrap a1)).bind fun r2 =>
    bif ((decide ((r2.1 : Int) > 0)) || (decide ((r2.2 : Int) > 9223372036854775807))) then
      none
    else
      if 0 ≤ ((IntKind.i64.wrap r2.2) : Int) ∧ (Int.toNat (IntKind.i64.wrap r2.2)) * 8 ≤ 140737488355328 ∧ (Int.toNat (IntKind.i64.wrap r2.2)) ≤ 140737488355328 then
      if 0 + (Int.toNat (IntKind.i64.wrap r2.2)) ≤ (List.replicate (Int.toNat (IntKind.i64.wrap r2.2)) (0 : Int)).length then
      slices_Repeat_int_l1 a0 r2 FUEL (((min a0.length (Int.toNat (IntKind.i64.wrap r2.2))) : Nat) : Int) (cpL (List.replicate (Int.toNat (IntKind.i64.wrap r2.2)) (0 : Int)) 0 (min a0.length (Int.toNat (IntKind.i64.wrap r2.2))) a0)
      else none
      else none


/- (*corebell/rank.state).held -/
def rank_state_held_l1 (a0 : Rank_state) (a1 : Int) : Nat → List Int → Nat → Option ((List Int))
  | 0, _, _ => none
  | n1 + 1, l1, k2 =>
    bif (decide ((((k2 : Nat) : Int) : Int) < ((a0.holder_.length : Nat) : Int))) then
      bif (((a0.holder_.getD k2 0) : Int) == a1) then
        if ((l1).length + ([((k2 : Nat) : Int)]).length) * 8 ≤ 140737488355328 ∧ (l1).length + ([((k2 : Nat) : Int)]).length ≤ 140737488355328 then
        rank_state_held_l1 a0 a1 n1 (l1 ++ [((k2 : Nat) : Int)]) (k2 + 1)
        else none
      else
        rank_state_held_l1 a0 a1 n1 l1 (k2 + 1)
    else
      some l1

def rank_state_held (a0 : Rank_state) (a1 : Int) : Option ((List Int)) :=
  rank_state_held_l1 a0 a1 FUEL ([] : List Int) 0


/- slices.Index(()int,int) -/
def slices_Index_int_l1 (a0 : (List Int)) (a1 : Int) : Nat → Nat → Option (Int)
  | 0, _ => none
  | n1 + 1, k1 =>
    bif (decide ((((k1 : Nat) : Int) : Int) < ((a0.length : Nat) : Int))) then
      bif ((a1 : Int) == (a0.getD k1 0)) then
        some ((k1 : Nat) : Int)
      else
        slices_Index_int_l1 a0 a1 n1 (k1 + 1)
    else
      some (-1)

def slices_Index_int (a0 : (List Int)) (a1 : Int) : Option (Int) :=
  slices_Index_int_l1 a0 a1 FUEL 0


/- slices.Contains(()int,int) -/
def slices_Contains_int (a0 : (List Int)) (a1 : Int) : Option (Bool) :=
  (slices_Index_int a0 a1).bind fun r1 =>
  some (decide ((r1 : Int) ≥ 0))


/- slices.Max(()int,int) -/
def slices_Max_int_l1 (a0 : (List Int)) : Nat → Int → Int → Option (Int)
  | 0, _, _ => none
  | n1 + 1, x3, x4 =>
    bif (decide ((x4 : Int) < ((a0.length : Nat) : Int))) then
      if 0 ≤ (x4 : Int) ∧ x4 < ((a0.length : Nat) : Int) then
      slices_Max_int_l1 a0 n1 (if ((a0.getD (Int.toNat x4) 0) : Int) > x3 then (a0.getD (Int.toNat x4) 0) else x3) (IntKind.i64.wrap (x4 + 1))
      else none
    else
      some x3

def slices_Max_int (a0 : (List Int)) : Option (Int) :=
  bif (decide ((((a0.length : Nat) : Int) : Int) < 1)) then
    none
  else
    if 0 ≤ (0 : Int) ∧ 0 < ((a0.length : Nat) : Int) then
    slices_Max_int_l1 a0 FUEL (a0.getD 0 0) 1
    else none


/- (*corebell/rank.state).do -/
def rank_state_do (a0 : Rank_state) (a1 : Api_RankOp) (a2 : Bool) : Option (Int × Rank_state) :=
  bif (((a1.Kind : Int) != 1) && ((a1.Kind : Int) != 2)) then
    some (5, a0)
  else
    bif ((((decide ((a1.Thread : Int) < 0)) || (decide ((a1.Thread : Int) ≥ ((a0.waits_.length : Nat) : Int)))) || (decide ((a1.Lock : Int) < 0))) || (decide ((a1.Lock : Int) ≥ ((a0.holder_.length : Nat) : Int)))) then
      some (2, a0)
    else
      (rank_state_held a0 a1.Thread).bind fun r25 =>
      bif ((a1.Kind : Int) == 2) then
        if 0 ≤ (a1.Lock : Int) ∧ a1.Lock < ((a0.holder_.length : Nat) : Int) then
        if ((!(((a0.holder_.getD (0 + (Int.toNat a1.Lock)) 0) : Int) != a1.Thread)) = true → (0 ≤ (a1.Thread : Int) ∧ a1.Thread < ((a0.waits_.length : Nat) : Int))) then
        bif ((((a0.holder_.getD (0 + (Int.toNat a1.Lock)) 0) : Int) != a1.Thread) || (decide (((a0.waits_.getD (0 + (Int.toNat a1.Thread)) 0) : Int) ≥ 0))) then
          some (3, a0)
        else
          if 0 ≤ (a1.Lock : Int) ∧ a1.Lock < ((a0.holder_.length : Nat) : Int) then
          some (0, (⟨(a0.holder_.set (0 + (Int.toNat a1.Lock)) (-1)), a0.waits_⟩ : Rank_state))
          else none
        else none
        else none
      else
        (slices_Contains_int r25 a1.Lock).bind fun r40 =>
        bif r40 then
          some (6, a0)
        else
          (bif (a2 && (decide ((((r25.length : Nat) : Int) : Int) > 0))) then slices_Max_int r25 else some 0).bind fun r46 =>
          bif ((a2 && (decide ((((r25.length : Nat) : Int) : Int) > 0))) && (decide ((r46 : Int) > a1.Lock))) then
            some (8, a0)
          else
            if 0 ≤ (a1.Thread : Int) ∧ a1.Thread < ((a0.waits_.length : Nat) : Int) then
            if ((decide (((a0.waits_.getD (0 + (Int.toNat a1.Thread)) 0) : Int) ≥ 0)) = true → (0 ≤ (a1.Thread : Int) ∧ a1.Thread < ((a0.waits_.length : Nat) : Int))) then
            bif ((decide (((a0.waits_.getD (0 + (Int.toNat a1.Thread)) 0) : Int) ≥ 0)) && (((a0.waits_.getD (0 + (Int.toNat a1.Thread)) 0) : Int) != a1.Lock)) then
              some (3, a0)
            else
              if 0 ≤ (a1.Lock : Int) ∧ a1.Lock < ((a0.holder_.length : Nat) : Int) then
              bif (decide (((a0.holder_.getD (0 + (Int.toNat a1.Lock)) 0) : Int) ≥ 0)) then
                if 0 ≤ (a1.Thread : Int) ∧ a1.Thread < ((a0.waits_.length : Nat) : Int) then
                some (7, (⟨a0.holder_, (a0.waits_.set (0 + (Int.toNat a1.Thread)) a1.Lock)⟩ : Rank_state))
                else none
              else
                if 0 ≤ (a1.Lock : Int) ∧ a1.Lock < ((a0.holder_.length : Nat) : Int) then
                if 0 ≤ (a1.Thread : Int) ∧ a1.Thread < ((a0.waits_.length : Nat) : Int) then
                some (0, (⟨(a0.holder_.set (0 + (Int.toNat a1.Lock)) a1.Thread), (a0.waits_.set (0 + (Int.toNat a1.Thread)) (-1))⟩ : Rank_state))
                else none
                else none
              else none
            else none
            else none


/- corebell/rank.Play -/
def rank_Play_l1 (a2 : Bool) (a3 : (List Api_RankOp)) (r8 : (List Int)) (r10 : (List Int)) : Nat → List Int → Nat → List Int → List Int → Option ((List Int) × (List Int) × (List Int) × Int)
  | 0, _, _, _, _ => none
  | n1 + 1, l12, k13, l14, l15 =>
    bif (decide ((((k13 : Nat) : Int) : Int) < ((a3.length : Nat) : Int))) then
      (rank_state_do (⟨l14, l15⟩ : Rank_state) (a3.getD k13 (⟨0, 0, 0⟩ : Api_RankOp)) a2).bind fun r18 =>
      if ((l12).length + ([r18.1]).length) * 8 ≤ 140737488355328 ∧ (l12).length + ([r18.1]).length ≤ 140737488355328 then
      rank_Play_l1 a2 a3 r8 r10 n1 (l12 ++ [r18.1]) (k13 + 1) r18.2.holder_ r18.2.waits_
      else none
    else
      some (l12, l14, l15, 0)

def rank_Play (a0 : Int) (a1 : Int) (a2 : Bool) (a3 : (List Api_RankOp)) : Option ((List Int) × (List Int) × (List Int) × Int) :=
  bif ((((decide ((a0 : Int) < 1)) || (decide ((a0 : Int) > 16))) || (decide ((a1 : Int) < 1))) || (decide ((a1 : Int) > 16))) then
    some (([] : List Int), ([] : List Int), ([] : List Int), 2)
  else
    (slices_Repeat_int [(-1)] a1).bind fun r8 =>
    (slices_Repeat_int [(-1)] a0).bind fun r10 =>
    rank_Play_l1 a2 a3 r8 r10 FUEL ([] : List Int) 0 r8 r10


/- slices.Equal(()corebell/api.Errno,corebell/api.Errno) -/
def slices_Equal_api_Errno_l1 (a0 : (List Int)) (a1 : (List Int)) : Nat → Nat → Option (Bool)
  | 0, _ => none
  | n1 + 1, k2 =>
    bif (decide ((((k2 : Nat) : Int) : Int) < ((a0.length : Nat) : Int))) then
      if 0 ≤ (((k2 : Nat) : Int) : Int) ∧ ((k2 : Nat) : Int) < ((a1.length : Nat) : Int) then
      bif (((a0.getD k2 0) : Int) != (a1.getD k2 0)) then
        some false
      else
        slices_Equal_api_Errno_l1 a0 a1 n1 (k2 + 1)
      else none
    else
      some true

def slices_Equal_api_Errno (a0 : (List Int)) (a1 : (List Int)) : Option (Bool) :=
  bif ((((a0.length : Nat) : Int) : Int) != ((a1.length : Nat) : Int)) then
    some false
  else
    slices_Equal_api_Errno_l1 a0 a1 FUEL 0


/- corebell/rank.Circle$1 -/
def rank_Circle_1 (a0 : Int) (a1 : (List Int)) (a2 : (List Int)) : Option (Int) :=
  if 0 ≤ (a0 : Int) ∧ a0 < ((a1.length : Nat) : Int) then
  if (((decide (((a1.getD (Int.toNat a0) 0) : Int) ≥ 0)) && (decide (((a1.getD (Int.toNat a0) 0) : Int) < ((a2.length : Nat) : Int)))) = true → (0 ≤ ((a1.getD (Int.toNat a0) 0) : Int) ∧ (a1.getD (Int.toNat a0) 0) < ((a2.length : Nat) : Int))) then
  if ((((decide (((a1.getD (Int.toNat a0) 0) : Int) ≥ 0)) && (decide (((a1.getD (Int.toNat a0) 0) : Int) < ((a2.length : Nat) : Int)))) && (decide (((a2.getD (Int.toNat (a1.getD (Int.toNat a0) 0)) 0) : Int) ≥ 0))) = true → (0 ≤ ((a1.getD (Int.toNat a0) 0) : Int) ∧ (a1.getD (Int.toNat a0) 0) < ((a2.length : Nat) : Int))) then
  bif ((((decide (((a1.getD (Int.toNat a0) 0) : Int) ≥ 0)) && (decide (((a1.getD (Int.toNat a0) 0) : Int) < ((a2.length : Nat) : Int)))) && (decide (((a2.getD (Int.toNat (a1.getD (Int.toNat a0) 0)) 0) : Int) ≥ 0))) && (decide (((a2.getD (Int.toNat (a1.getD (Int.toNat a0) 0)) 0) : Int) < ((a1.length : Nat) : Int)))) then
    if 0 ≤ ((a1.getD (Int.toNat a0) 0) : Int) ∧ (a1.getD (Int.toNat a0) 0) < ((a2.length : Nat) : Int) then
    some (a2.getD (Int.toNat (a1.getD (Int.toNat a0) 0)) 0)
    else none
  else
    some (-1)
  else none
  else none
  else none


/- corebell/rank.Circle -/
def rank_Circle_l2 (a0 : (List Int)) (a1 : (List Int)) (k1 : Nat) (r3 : Int) (K2_0 : (List Int) → Int → Option ((List Int))) : Nat → List Int → Int → Option ((List Int))
  | 0, _, _ => none
  | n2 + 1, l5, x6 =>
    bif ((decide ((x6 : Int) ≥ 0)) && (decide ((((l5.length : Nat) : Int) : Int) ≤ ((a1.length : Nat) : Int)))) then
      bif ((x6 : Int) == ((k1 : Nat) : Int)) then
        some l5
      else
        if ((l5).length + ([x6]).length) * 8 ≤ 140737488355328 ∧ (l5).length + ([x6]).length ≤ 140737488355328 then
        (rank_Circle_1 x6 a1 a0).bind fun r15 =>
        rank_Circle_l2 a0 a1 k1 r3 K2_0 n2 (l5 ++ [x6]) r15
        else none
    else
      K2_0 l5 x6

def rank_Circle_l1 (a0 : (List Int)) (a1 : (List Int)) : Nat → Nat → Option ((List Int))
  | 0, _ => none
  | n1 + 1, k1 =>
    bif (decide ((((k1 : Nat) : Int) : Int) < ((a1.length : Nat) : Int))) then
      (rank_Circle_1 ((k1 : Nat) : Int) a1 a0).bind fun r3 =>
      rank_Circle_l2 a0 a1 k1 r3 (fun (l5 : List Int) (x6 : Int) =>
          rank_Circle_l1 a0 a1 n1 (k1 + 1)
        ) FUEL [((k1 : Nat) : Int)] r3
    else
      some ([] : List Int)

def rank_Circle (a0 : (List Int)) (a1 : (List Int)) : Option ((List Int)) :=
  rank_Circle_l1 a0 a1 FUEL 0


/- slices.Equal(()int,int) -/
def slices_Equal_int_l1 (a0 : (List Int)) (a1 : (List Int)) : Nat → Nat → Option (Bool)
  | 0, _ => none
  | n1 + 1, k2 =>
    bif (decide ((((k2 : Nat) : Int) : Int) < ((a0.length : Nat) : Int))) then
      if 0 ≤ (((k2 : Nat) : Int) : Int) ∧ ((k2 : Nat) : Int) < ((a1.length : Nat) : Int) then
      bif (((a0.getD k2 0) : Int) != (a1.getD k2 0)) then
        some false
      else
        slices_Equal_int_l1 a0 a1 n1 (k2 + 1)
      else none
    else
      some true

def slices_Equal_int (a0 : (List Int)) (a1 : (List Int)) : Option (Bool) :=
  bif ((((a0.length : Nat) : Int) : Int) != ((a1.length : Nat) : Int)) then
    some false
  else
    slices_Equal_int_l1 a0 a1 FUEL 0


/- corebell/corebellkeep.alive8 -/
def keep_alive8 : Option (Bool) :=
  (rank_Play 2 2 false [(⟨1, 0, 0⟩ : Api_RankOp), (⟨1, 1, 1⟩ : Api_RankOp), (⟨1, 0, 1⟩ : Api_RankOp), (⟨1, 1, 0⟩ : Api_RankOp)]).bind fun r1 =>
  (rank_Play 2 2 true [(⟨1, 0, 0⟩ : Api_RankOp), (⟨1, 1, 1⟩ : Api_RankOp), (⟨1, 0, 1⟩ : Api_RankOp), (⟨1, 1, 0⟩ : Api_RankOp)]).bind fun r3 =>
  (bif (((r1.2.2.2 : Int) == 0) && ((r3.2.2.2 : Int) == 0)) then slices_Equal_api_Errno r1.1 [0, 0, 7, 7] else some false).bind fun r7 =>
  (bif ((((r1.2.2.2 : Int) == 0) && ((r3.2.2.2 : Int) == 0)) && r7) then slices_Equal_api_Errno r3.1 [0, 0, 7, 8] else some false).bind fun r10 =>
  (bif (((((r1.2.2.2 : Int) == 0) && ((r3.2.2.2 : Int) == 0)) && r7) && r10) then rank_Circle r1.2.1 r1.2.2.1 else some []).bind fun r13 =>
  (bif (((((r1.2.2.2 : Int) == 0) && ((r3.2.2.2 : Int) == 0)) && r7) && r10) then slices_Equal_int r13 [0, 1] else some false).bind fun r15 =>
  some ((((((r1.2.2.2 : Int) == 0) && ((r3.2.2.2 : Int) == 0)) && r7) && r10) && r15)


/- corebell/corebellkeep.RankNever -/
def keep_RankNever (a0 : Int) (a1 : Int) (a2 : (List Api_RankOp)) : Option (Bool) :=
  (keep_alive8).bind fun r1 =>
  bif (!r1) then
    some false
  else
    (rank_Play a0 a1 true a2).bind fun r4 =>
    (bif ((!(((r4.2.2.2 : Int) != 0) && (((IntKind.i64.wrap (((r4.2.1.length : Nat) : Int) + ((r4.2.2.1.length : Nat) : Int))) : Int) == 0))) && (((((r4.2.1.length : Nat) : Int) : Int) == a1) && ((((r4.2.2.1.length : Nat) : Int) : Int) == a0))) then rank_Circle r4.2.1 r4.2.2.1 else some []).bind fun r22 =>
    some ((((r4.2.2.2 : Int) != 0) && (((IntKind.i64.wrap (((r4.2.1.length : Nat) : Int) + ((r4.2.2.1.length : Nat) : Int))) : Int) == 0)) || ((((((r4.2.1.length : Nat) : Int) : Int) == a1) && ((((r4.2.2.1.length : Nat) : Int) : Int) == a0)) && ((((r22.length : Nat) : Int) : Int) == 0)))


/- corebell/corebellkeep.RankSome -/
def keep_RankSome_l2 (r4 : (List Int) × (List Int) × (List Int) × Int) : Nat → Bool → Bool → Nat → Option (Bool)
  | 0, _, _, _ => none
  | n2 + 1, b11, b12, k13 =>
    bif (decide ((((k13 : Nat) : Int) : Int) < ((r4.2.2.1.length : Nat) : Int))) then
      if ((!(decide (((r4.2.2.1.getD (0 + k13) 0) : Int) < 0))) = true → (0 ≤ ((r4.2.2.1.getD (0 + k13) 0) : Int) ∧ (r4.2.2.1.getD (0 + k13) 0) < ((r4.2.1.length : Nat) : Int))) then
      bif ((decide (((r4.2.2.1.getD (0 + k13) 0) : Int) < 0)) || (decide (((r4.2.1.getD (0 + (Int.toNat (r4.2.2.1.getD (0 + k13) 0))) 0) : Int) < 0))) then
        keep_RankSome_l2 r4 n2 b11 b12 (k13 + 1)
      else
        if 0 ≤ ((r4.2.2.1.getD (0 + k13) 0) : Int) ∧ (r4.2.2.1.getD (0 + k13) 0) < ((r4.2.1.length : Nat) : Int) then
        bif (decide (((r4.2.1.getD (0 + (Int.toNat (r4.2.2.1.getD (0 + k13) 0))) 0) : Int) ≥ ((r4.2.2.1.length : Nat) : Int))) then
          some false
        else
          if ((!b12) = true → (0 ≤ ((r4.2.2.1.getD (0 + k13) 0) : Int) ∧ (r4.2.2.1.getD (0 + k13) 0) < ((r4.2.1.length : Nat) : Int))) then
          if ((!b12) = true → (0 ≤ ((r4.2.1.getD (0 + (Int.toNat (r4.2.2.1.getD (0 + k13) 0))) 0) : Int) ∧ (r4.2.1.getD (0 + (Int.toNat (r4.2.2.1.getD (0 + k13) 0))) 0) < ((r4.2.2.1.length : Nat) : Int))) then
          if ((!(b12 || (decide (((r4.2.2.1.getD (0 + (Int.toNat (r4.2.1.getD (0 + (Int.toNat (r4.2.2.1.getD (0 + k13) 0))) 0))) 0) : Int) < 0)))) = true → (0 ≤ ((r4.2.2.1.getD (0 + k13) 0) : Int) ∧ (r4.2.2.1.getD (0 + k13) 0) < ((r4.2.1.length : Nat) : Int))) then
          if ((!(b12 || (decide (((r4.2.2.1.getD (0 + (Int.toNat (r4.2.1.getD (0 + (Int.toNat (r4.2.2.1.getD (0 + k13) 0))) 0))) 0) : Int) < 0)))) = true → (0 ≤ ((r4.2.1.getD (0 + (Int.toNat (r4.2.2.1.getD (0 + k13) 0))) 0) : Int) ∧ (r4.2.1.getD (0 + (Int.toNat (r4.2.2.1.getD (0 + k13) 0))) 0) < ((r4.2.2.1.length : Nat) : Int))) then
          if ((!(b12 || (decide (((r4.2.2.1.getD (0 + (Int.toNat (r4.2.1.getD (0 + (Int.toNat (r4.2.2.1.getD (0 + k13) 0))) 0))) 0) : Int) < 0)))) = true → (0 ≤ ((r4.2.2.1.getD (0 + (Int.toNat (r4.2.1.getD (0 + (Int.toNat (r4.2.2.1.getD (0 + k13) 0))) 0))) 0) : Int) ∧ (r4.2.2.1.getD (0 + (Int.toNat (r4.2.1.getD (0 + (Int.toNat (r4.2.2.1.getD (0 + k13) 0))) 0))) 0) < ((r4.2.1.length : Nat) : Int))) then
          keep_RankSome_l2 r4 n2 true ((b12 || (decide (((r4.2.2.1.getD (0 + (Int.toNat (r4.2.1.getD (0 + (Int.toNat (r4.2.2.1.getD (0 + k13) 0))) 0))) 0) : Int) < 0))) || (decide (((r4.2.1.getD (0 + (Int.toNat (r4.2.2.1.getD (0 + (Int.toNat (r4.2.1.getD (0 + (Int.toNat (r4.2.2.1.getD (0 + k13) 0))) 0))) 0))) 0) : Int) < 0))) (k13 + 1)
          else none
          else none
          else none
          else none
          else none
        else none
      else none
    else
      some ((!b11) || b12)

def keep_RankSome_l1 (r4 : (List Int) × (List Int) × (List Int) × Int) : Nat → Nat → Option (Bool)
  | 0, _ => none
  | n1 + 1, k7 =>
    bif (decide ((((k7 : Nat) : Int) : Int) < ((r4.2.2.1.length : Nat) : Int))) then
      bif (decide (((r4.2.2.1.getD (0 + k7) 0) : Int) ≥ ((r4.2.1.length : Nat) : Int))) then
        some false
      else
        keep_RankSome_l1 r4 n1 (k7 + 1)
    else
      keep_RankSome_l2 r4 FUEL false false 0

def keep_RankSome (a0 : Int) (a1 : Int) (a2 : (List Api_RankOp)) : Option (Bool) :=
  (keep_alive8).bind fun r1 =>
  bif (!r1) then
    some false
  else
    (rank_Play a0 a1 true a2).bind fun r4 =>
    bif ((r4.2.2.2 : Int) != 0) then
      some true
    else
      keep_RankSome_l1 r4 FUEL 0


/- corebell/corebellkeep.RankTrue -/
def keep_RankTrue_l1 (a0 : (List Int)) (a1 : (List Int)) (r4 : (List Int)) : Nat → Nat → Option (Bool)
  | 0, _ => none
  | n1 + 1, k6 =>
    bif (decide ((((k6 : Nat) : Int) : Int) < ((r4.length : Nat) : Int))) then
      if (((r4.length : Nat) : Int) : Int) ≠ 0 then
      if 0 ≤ ((Int.tmod (IntKind.i64.wrap (((k6 : Nat) : Int) + 1)) ((r4.length : Nat) : Int)) : Int) ∧ (Int.tmod (IntKind.i64.wrap (((k6 : Nat) : Int) + 1)) ((r4.length : Nat) : Int)) < ((r4.length : Nat) : Int) then
      if ((!((decide (((r4.getD (0 + k6) 0) : Int) < 0)) || (decide (((r4.getD (0 + k6) 0) : Int) ≥ ((a1.length : Nat) : Int))))) = true → (0 ≤ (((k6 : Nat) : Int) : Int))) then
      if ((!((decide (((r4.getD (0 + k6) 0) : Int) < 0)) || (decide (((r4.getD (0 + k6) 0) : Int) ≥ ((a1.length : Nat) : Int))))) = true → (k6 ≤ r4.length)) then
      (bif (!((decide (((r4.getD (0 + k6) 0) : Int) < 0)) || (decide (((r4.getD (0 + k6) 0) : Int) ≥ ((a1.length : Nat) : Int))))) then slices_Contains_int ((r4.drop (0 + 0)).take (k6 - 0)) (r4.getD (0 + k6) 0) else some false).bind fun r19 =>
      if ((!(((decide (((r4.getD (0 + k6) 0) : Int) < 0)) || (decide (((r4.getD (0 + k6) 0) : Int) ≥ ((a1.length : Nat) : Int)))) || r19)) = true → (0 ≤ ((r4.getD (0 + k6) 0) : Int) ∧ (r4.getD (0 + k6) 0) < ((a1.length : Nat) : Int))) then
      if ((!((((decide (((r4.getD (0 + k6) 0) : Int) < 0)) || (decide (((r4.getD (0 + k6) 0) : Int) ≥ ((a1.length : Nat) : Int)))) || r19) || (decide (((a1.getD (Int.toNat (r4.getD (0 + k6) 0)) 0) : Int) < 0)))) = true → (0 ≤ ((r4.getD (0 + k6) 0) : Int) ∧ (r4.getD (0 + k6) 0) < ((a1.length : Nat) : Int))) then
      if ((!(((((decide (((r4.getD (0 + k6) 0) : Int) < 0)) || (decide (((r4.getD (0 + k6) 0) : Int) ≥ ((a1.length : Nat) : Int)))) || r19) || (decide (((a1.getD (Int.toNat (r4.getD (0 + k6) 0)) 0) : Int) < 0))) || (decide (((a1.getD (Int.toNat (r4.getD (0 + k6) 0)) 0) : Int) ≥ ((a0.length : Nat) : Int))))) = true → (0 ≤ ((r4.getD (0 + k6) 0) : Int) ∧ (r4.getD (0 + k6) 0) < ((a1.length : Nat) : Int))) then
      if ((!(((((decide (((r4.getD (0 + k6) 0) : Int) < 0)) || (decide (((r4.getD (0 + k6) 0) : Int) ≥ ((a1.length : Nat) : Int)))) || r19) || (decide (((a1.getD (Int.toNat (r4.getD (0 + k6) 0)) 0) : Int) < 0))) || (decide (((a1.getD (Int.toNat (r4.getD (0 + k6) 0)) 0) : Int) ≥ ((a0.length : Nat) : Int))))) = true → (0 ≤ ((a1.getD (Int.toNat (r4.getD (0 + k6) 0)) 0) : Int) ∧ (a1.getD (Int.toNat (r4.getD (0 + k6) 0)) 0) < ((a0.length : Nat) : Int))) then
      bif ((((((decide (((r4.getD (0 + k6) 0) : Int) < 0)) || (decide (((r4.getD (0 + k6) 0) : Int) ≥ ((a1.length : Nat) : Int)))) || r19) || (decide (((a1.getD (Int.toNat (r4.getD (0 + k6) 0)) 0) : Int) < 0))) || (decide (((a1.getD (Int.toNat (r4.getD (0 + k6) 0)) 0) : Int) ≥ ((a0.length : Nat) : Int)))) || (((a0.getD (Int.toNat (a1.getD (Int.toNat (r4.getD (0 + k6) 0)) 0)) 0) : Int) != (r4.getD (0 + (Int.toNat (Int.tmod (IntKind.i64.wrap (((k6 : Nat) : Int) + 1)) ((r4.length : Nat) : Int)))) 0))) then
        some false
      else
        keep_RankTrue_l1 a0 a1 r4 n1 (k6 + 1)
      else none
      else none
      else none
      else none
      else none
      else none
      else none
      else none
    else
      some true

def keep_RankTrue (a0 : (List Int)) (a1 : (List Int)) : Option (Bool) :=
  (keep_alive8).bind fun r1 =>
  bif (!r1) then
    some false
  else
    (rank_Circle a0 a1).bind fun r4 =>
    keep_RankTrue_l1 a0 a1 r4 FUEL 0


/- slices.Clone(()corebell/api.RankOp,corebell/api.RankOp) -/
def slices_Clone_api_RankOp (a0 : List Api_RankOp) : Option (List Api_RankOp) := if a0.length * 24 ≤ 140737488355328 then some a0 else none

/- corebell/corebellkeep.RankApart -/
def keep_RankApart_l1 (a4 : Api_RankOp) (r4 : (List Int) × (List Int) × (List Int) × Int) (r9 : (List Int) × (List Int) × (List Int) × Int) : Nat → Nat → Option (Bool)
  | 0, _ => none
  | n1 + 1, k33 =>
    bif (decide ((((k33 : Nat) : Int) : Int) < ((r4.2.1.length : Nat) : Int))) then
      if (((((k33 : Nat) : Int) : Int) != a4.Lock) = true → (0 ≤ (((k33 : Nat) : Int) : Int) ∧ ((k33 : Nat) : Int) < ((r4.2.1.length : Nat) : Int))) then
      if (((((k33 : Nat) : Int) : Int) != a4.Lock) = true → (0 ≤ (((k33 : Nat) : Int) : Int) ∧ ((k33 : Nat) : Int) < ((r9.2.1.length : Nat) : Int))) then
      bif (((((k33 : Nat) : Int) : Int) != a4.Lock) && (((r4.2.1.getD (0 + k33) 0) : Int) != (r9.2.1.getD (0 + k33) 0))) then
        some false
      else
        keep_RankApart_l1 a4 r4 r9 n1 (k33 + 1)
      else none
      else none
    else
      if (((a4.Kind : Int) == 1) = true → (0 ≤ (a4.Lock : Int) ∧ a4.Lock < ((r4.2.1.length : Nat) : Int))) then
      if ((((a4.Kind : Int) == 1) && (decide (((r4.2.1.getD (0 + (Int.toNat a4.Lock)) 0) : Int) < 0))) = true → (0 ≤ (a4.Lock : Int) ∧ a4.Lock < ((r9.2.1.length : Nat) : Int))) then
      if (((!((((a4.Kind : Int) == 1) && (decide (((r4.2.1.getD (0 + (Int.toNat a4.Lock)) 0) : Int) < 0))) && (((r9.2.1.getD (0 + (Int.toNat a4.Lock)) 0) : Int) == a4.Thread))) && ((a4.Kind : Int) == 2)) = true → (0 ≤ (a4.Lock : Int) ∧ a4.Lock < ((r4.2.1.length : Nat) : Int))) then
      if (((!((((a4.Kind : Int) == 1) && (decide (((r4.2.1.getD (0 + (Int.toNat a4.Lock)) 0) : Int) < 0))) && (((r9.2.1.getD (0 + (Int.toNat a4.Lock)) 0) : Int) == a4.Thread))) && (((a4.Kind : Int) == 2) && (((r4.2.1.getD (0 + (Int.toNat a4.Lock)) 0) : Int) == a4.Thread))) = true → (0 ≤ (a4.Lock : Int) ∧ a4.Lock < ((r9.2.1.length : Nat) : Int))) then
      some (((((a4.Kind : Int) == 1) && (decide (((r4.2.1.getD (0 + (Int.toNat a4.Lock)) 0) : Int) < 0))) && (((r9.2.1.getD (0 + (Int.toNat a4.Lock)) 0) : Int) == a4.Thread)) || ((((a4.Kind : Int) == 2) && (((r4.2.1.getD (0 + (Int.toNat a4.Lock)) 0) : Int) == a4.Thread)) && (decide (((r9.2.1.getD (0 + (Int.toNat a4.Lock)) 0) : Int) < 0))))
      else none
      else none
      else none
      else none

def keep_RankApart (a0 : Int) (a1 : Int) (a2 : Bool) (a3 : (List Api_RankOp)) (a4 : Api_RankOp) : Option (Bool) :=
  (keep_alive8).bind fun r1 =>
  bif (!r1) then
    some false
  else
    (rank_Play a0 a1 a2 a3).bind fun r4 =>
    (slices_Clone_api_RankOp a3).bind fun r6 =>
    if ((r6).length + ([a4]).length) * 24 ≤ 140737488355328 ∧ (r6).length + ([a4]).length ≤ 140737488355328 then
    (rank_Play a0 a1 a2 (r6 ++ [a4])).bind fun r9 =>
    bif ((((r4.2.2.2 : Int) != 0) || ((r9.2.2.2 : Int) != 0)) || ((((r9.1.length : Nat) : Int) : Int) != (IntKind.i64.wrap (((a3.length : Nat) : Int) + 1)))) then
      some (((r4.2.2.2 : Int) == r9.2.2.2) && ((r4.2.2.2 : Int) != 0))
    else
      if 0 ≤ (((a3.length : Nat) : Int) : Int) ∧ ((a3.length : Nat) : Int) < ((r9.1.length : Nat) : Int) then
      bif (((r9.1.getD (0 + a3.length) 0) : Int) != 0) then
        (slices_Equal_int r4.2.1 r9.2.1).bind fun r24 =>
        (bif (r24 && !(((r9.1.getD (0 + a3.length) 0) : Int) == 7)) then slices_Equal_int r4.2.2.1 r9.2.2.1 else some false).bind fun r28 =>
        some (r24 && ((((r9.1.getD (0 + a3.length) 0) : Int) == 7) || r28))
      else
        keep_RankApart_l1 a4 r4 r9 FUEL 0
      else none
    else none


end Go.Proofs.Ytfmjgicgbdbpoaa
