/- The models of the functions: printed by program. -/
import Derived.Test.YtfnhanmdfbdimaaAbY
set_option linter.unusedSimpArgs false
set_option linter.unusedVariables false
namespace Go.Proofs.Ytfnhanmdfbdimaa
open Go Go.Ab

structure Api_NicOp where
  Kind : Int
  N : Int
deriving DecidableEq

structure Api_Nic where
  Has : (List Int)
  Room : Int
  Lost : Int
  May : Bool
  Due : Bool
  Asked : Int
deriving DecidableEq

def OkU_Api_NicOp (x : Api_NicOp) : Prop := (-9223372036854775808 ≤ x.Kind ∧ x.Kind ≤ 9223372036854775807) ∧ (-9223372036854775808 ≤ x.N ∧ x.N ≤ 9223372036854775807)

/- corebell/nic.New -/
def nic_New (a0 : Int) : Option (Api_Nic × Int) :=
  bif ((decide ((a0 : Int) < 1)) || (decide ((a0 : Int) > 64))) then
    some ((⟨([] : List Int), 0, 0, false, false, 0⟩ : Api_Nic), 2)
  else
    some ((⟨([] : List Int), a0, 0, true, false, 0⟩ : Api_Nic), 0)


/- corebell/nic.Right -/
def nic_Right (a0 : Api_Nic) : Option (Bool) :=
  some (((((((((decide ((a0.Room : Int) ≥ 1)) && (decide ((a0.Room : Int) ≤ 64))) && (decide ((((a0.Has.length : Nat) : Int) : Int) ≤ a0.Room))) && (decide ((a0.Lost : Int) ≥ 0))) && (decide ((a0.Lost : Int) ≤ 1099511627776))) && (decide ((a0.Asked : Int) ≥ 0))) && (decide ((a0.Asked : Int) ≤ 1099511627776))) && (a0.May != a0.Due)) && (a0.Due || ((((a0.Has.length : Nat) : Int) : Int) == 0)))


/- corebell/nic.Step$1 -/
def nic_Step_1 (a0 : Int) : Option (Api_Nic × (List Int) × Int) :=
  some ((⟨([] : List Int), 0, 0, false, false, 0⟩ : Api_Nic), ([] : List Int), a0)


/- slices.Clone(()int,int) -/
def slices_Clone_int (a0 : List Int) : Option (List Int) := if a0.length * 8 ≤ 140737488355328 then some a0 else none

/- corebell/nic.Step -/
def nic_Step (a0 : Api_Nic) (a1 : Api_NicOp) : Option (Api_Nic × (List Int) × Int) :=
  (nic_Right a0).bind fun r1 =>
  bif (!r1) then
    (nic_Step_1 1).bind fun r4 =>
    some (r4.1, r4.2.1, r4.2.2)
  else
    (slices_Clone_int a0.Has).bind fun r6 =>
    bif ((a1.Kind : Int) == 1) then
      bif (((a0.Lost : Int) == 1099511627776) || ((a0.Asked : Int) == 1099511627776)) then
        (nic_Step_1 4).bind fun r13 =>
        some (r13.1, r13.2.1, r13.2.2)
      else
        bif ((((r6.length : Nat) : Int) : Int) == a0.Room) then
          bif a0.May then
            some ((⟨r6, a0.Room, (IntKind.i64.wrap (a0.Lost + 1)), false, true, (IntKind.i64.wrap (a0.Asked + 1))⟩ : Api_Nic), ([] : List Int), 0)
          else
            some ((⟨r6, a0.Room, (IntKind.i64.wrap (a0.Lost + 1)), a0.May, a0.Due, a0.Asked⟩ : Api_Nic), ([] : List Int), 0)
        else
          if ((r6).length + ([a1.N]).length) * 8 ≤ 140737488355328 ∧ (r6).length + ([a1.N]).length ≤ 140737488355328 then
          bif a0.May then
            some ((⟨(r6 ++ [a1.N]), a0.Room, a0.Lost, false, true, (IntKind.i64.wrap (a0.Asked + 1))⟩ : Api_Nic), ([] : List Int), 0)
          else
            some ((⟨(r6 ++ [a1.N]), a0.Room, a0.Lost, a0.May, a0.Due, a0.Asked⟩ : Api_Nic), ([] : List Int), 0)
          else none
    else
      bif ((a1.Kind : Int) == 2) then
        bif (decide ((a1.N : Int) < 1)) then
          (nic_Step_1 2).bind fun r21 =>
          some (r21.1, r21.2.1, r21.2.2)
        else
          bif (!a0.Due) then
            (nic_Step_1 7).bind fun r24 =>
            some (r24.1, r24.2.1, r24.2.2)
          else
            if 0 ≤ ((if (((r6.length : Nat) : Int) : Int) < a1.N then ((r6.length : Nat) : Int) else a1.N) : Int) then
            if 0 ≤ ((if (((r6.length : Nat) : Int) : Int) < a1.N then ((r6.length : Nat) : Int) else a1.N) : Int) then
            if 0 ≤ (Int.toNat (if (((r6.length : Nat) : Int) : Int) < a1.N then ((r6.length : Nat) : Int) else a1.N)) then
            if (Int.toNat (if (((r6.length : Nat) : Int) : Int) < a1.N then ((r6.length : Nat) : Int) else a1.N)) ≤ (Int.toNat (if (((r6.length : Nat) : Int) : Int) < a1.N then ((r6.length : Nat) : Int) else a1.N)) then
            if (Int.toNat (if (((r6.length : Nat) : Int) : Int) < a1.N then ((r6.length : Nat) : Int) else a1.N)) ≤ r6.length then
            if 0 ≤ ((if (((r6.length : Nat) : Int) : Int) < a1.N then ((r6.length : Nat) : Int) else a1.N) : Int) then
            if (Int.toNat (if (((r6.length : Nat) : Int) : Int) < a1.N then ((r6.length : Nat) : Int) else a1.N)) ≤ r6.length then
            (slices_Clone_int ((r6.drop (Int.toNat (if (((r6.length : Nat) : Int) : Int) < a1.N then ((r6.length : Nat) : Int) else a1.N))).take (r6.length - (Int.toNat (if (((r6.length : Nat) : Int) : Int) < a1.N then ((r6.length : Nat) : Int) else a1.N))))).bind fun r33 =>
            bif (decide (((if (((r6.length : Nat) : Int) : Int) < a1.N then ((r6.length : Nat) : Int) else a1.N) : Int) < a1.N)) then
              some ((⟨r33, a0.Room, a0.Lost, true, false, a0.Asked⟩ : Api_Nic), ((r6.drop 0).take ((Int.toNat (if (((r6.length : Nat) : Int) : Int) < a1.N then ((r6.length : Nat) : Int) else a1.N)) - 0)), 0)
            else
              some ((⟨r33, a0.Room, a0.Lost, a0.May, a0.Due, a0.Asked⟩ : Api_Nic), ((r6.drop 0).take ((Int.toNat (if (((r6.length : Nat) : Int) : Int) < a1.N then ((r6.length : Nat) : Int) else a1.N)) - 0)), 0)
            else none
            else none
            else none
            else none
            else none
            else none
            else none
      else
        (nic_Step_1 5).bind fun r36 =>
        some (r36.1, r36.2.1, r36.2.2)


/- corebell/nic.Play -/
def nic_Play_l1 (a1 : (List Api_NicOp)) (r1 : Api_Nic × Int) : Nat → List Int → Nat → List Int → Int → Int → Bool → Bool → Int → Option ((List Int) × Api_Nic × Int)
  | 0, _, _, _, _, _, _, _, _ => none
  | n1 + 1, l4, k5, l6, x7, x8, b9, b10, x11 =>
    bif (decide ((((k5 : Nat) : Int) : Int) < ((a1.length : Nat) : Int))) then
      (nic_Step (⟨l6, x7, x8, b9, b10, x11⟩ : Api_Nic) (a1.getD k5 (⟨0, 0⟩ : Api_NicOp))).bind fun r14 =>
      bif ((r14.2.2 : Int) == 0) then
        if ((l4).length + (r14.2.1).length) * 8 ≤ 140737488355328 ∧ (l4).length + (r14.2.1).length ≤ 140737488355328 then
        nic_Play_l1 a1 r1 n1 (l4 ++ r14.2.1) (k5 + 1) r14.1.Has r14.1.Room r14.1.Lost r14.1.May r14.1.Due r14.1.Asked
        else none
      else
        nic_Play_l1 a1 r1 n1 l4 (k5 + 1) l6 x7 x8 b9 b10 x11
    else
      some (l4, (⟨l6, x7, x8, b9, b10, x11⟩ : Api_Nic), 0)

def nic_Play (a0 : Int) (a1 : (List Api_NicOp)) : Option ((List Int) × Api_Nic × Int) :=
  (nic_New a0).bind fun r1 =>
  bif ((r1.2 : Int) != 0) then
    some (([] : List Int), (⟨([] : List Int), 0, 0, false, false, 0⟩ : Api_Nic), r1.2)
  else
    nic_Play_l1 a1 r1 FUEL ([] : List Int) 0 r1.1.Has r1.1.Room r1.1.Lost r1.1.May r1.1.Due r1.1.Asked


/- slices.Equal(()int,int) -/
def slices_Equal_int_l1 (a0 : (List Int)) (a1 : (List Int)) : Nat → Nat → Option (Bool)
  | 0, _ => none
  | n1 + 1, k2 =>
    bif (decide ((((k2 : Nat) : Int) : Int) < ((a0.length : Nat) : Int))) then
      if 0 ≤ (((k2 : Nat) : Int) : Int) ∧ ((k2 : Nat) : Int) < ((a1.length : Nat) : Int) then
      bif (((a0.getD k2 0) : Int) != (a1.getD k2 0)) then
        some false
      else
        slices_Equal_int_l1 a0 a1 n1 (k2 + 1)
      else none
    else
      some true

def slices_Equal_int (a0 : (List Int)) (a1 : (List Int)) : Option (Bool) :=
  bif ((((a0.length : Nat) : Int) : Int) != ((a1.length : Nat) : Int)) then
    some false
  else
    slices_Equal_int_l1 a0 a1 FUEL 0


/- corebell/corebellkeep.alive20 -/
def keep_alive20 : Option (Bool) :=
  (nic_Play 2 [(⟨1, 7⟩ : Api_NicOp), (⟨1, 8⟩ : Api_NicOp), (⟨1, 9⟩ : Api_NicOp), (⟨2, 2⟩ : Api_NicOp), (⟨2, 2⟩ : Api_NicOp), (⟨1, 5⟩ : Api_NicOp)]).bind fun r1 =>
  (bif ((r1.2.2 : Int) == 0) then slices_Equal_int r1.1 [7, 8] else some false).bind fun r3 =>
  (bif ((((((r1.2.2 : Int) == 0) && r3) && ((r1.2.1.Lost : Int) == 1)) && ((r1.2.1.Asked : Int) == 2)) && r1.2.1.Due) then slices_Equal_int r1.2.1.Has [5] else some false).bind fun r15 =>
  some (((((((r1.2.2 : Int) == 0) && r3) && ((r1.2.1.Lost : Int) == 1)) && ((r1.2.1.Asked : Int) == 2)) && r1.2.1.Due) && r15)


/- slices.Grow(()int,int), from nothing -/
def slices_Grow_int_nil (a0 : Int) : Option (List Int) := if 0 ≤ a0 ∧ a0.toNat * 8 ≤ 140737488355328 ∧ a0.toNat ≤ 140737488355328 then some [] else none

/- slices.Concat(()int,int) -/
def slices_Concat_int_l2 (a0 : (List (List Int))) (r6 : (List Int)) : Nat → List Int → Nat → Option ((List Int))
  | 0, _, _ => none
  | n2 + 1, l8, k9 =>
    bif (decide ((((k9 : Nat) : Int) : Int) < ((a0.length : Nat) : Int))) then
      if ((l8).length + ((a0.getD k9 [])).length) * 8 ≤ 140737488355328 ∧ (l8).length + ((a0.getD k9 [])).length ≤ 140737488355328 then
      slices_Concat_int_l2 a0 r6 n2 (l8 ++ (a0.getD k9 [])) (k9 + 1)
      else none
    else
      some l8

def slices_Concat_int_l1 (a0 : (List (List Int))) : Nat → Int → Nat → Option ((List Int))
  | 0, _, _ => none
  | n1 + 1, x1, k2 =>
    bif (decide ((((k2 : Nat) : Int) : Int) < ((a0.length : Nat) : Int))) then
      bif (decide (((IntKind.i64.wrap (x1 + (((a0.getD k2 []).length : Nat) : Int))) : Int) < 0)) then
        none
      else
        slices_Concat_int_l1 a0 n1 (IntKind.i64.wrap (x1 + (((a0.getD k2 []).length : Nat) : Int))) (k2 + 1)
    else
      (slices_Grow_int_nil x1).bind fun r6 =>
      slices_Concat_int_l2 a0 r6 FUEL r6 0

def slices_Concat_int (a0 : (List (List Int))) : Option ((List Int)) :=
  slices_Concat_int_l1 a0 FUEL 0 0


/- corebell/corebellkeep.NicStream -/
def keep_NicStream_l1 (a1 : (List Api_NicOp)) (r4 : (List Int) × Api_Nic × Int) (r7 : (List Int)) : Nat → Int → Int → Nat → Option (Bool)
  | 0, _, _, _ => none
  | n1 + 1, x9, x10, k11 =>
    bif (decide ((((k11 : Nat) : Int) : Int) < ((a1.length : Nat) : Int))) then
      bif (((a1.getD k11 (⟨0, 0⟩ : Api_NicOp)).Kind : Int) != 1) then
        keep_NicStream_l1 a1 r4 r7 n1 x9 x10 (k11 + 1)
      else
        if ((decide ((x10 : Int) < ((r7.length : Nat) : Int))) = true → (0 ≤ (x10 : Int) ∧ x10 < ((r7.length : Nat) : Int))) then
        bif ((decide ((x10 : Int) < ((r7.length : Nat) : Int))) && (((r7.getD (0 + (Int.toNat x10)) 0) : Int) == ((a1.getD k11 (⟨0, 0⟩ : Api_NicOp)).N))) then
          keep_NicStream_l1 a1 r4 r7 n1 (IntKind.i64.wrap (x9 + 1)) (IntKind.i64.wrap (x10 + 1)) (k11 + 1)
        else
          keep_NicStream_l1 a1 r4 r7 n1 (IntKind.i64.wrap (x9 + 1)) x10 (k11 + 1)
        else none
    else
      some (((x10 : Int) == ((r7.length : Nat) : Int)) && ((x9 : Int) == (IntKind.i64.wrap (((r7.length : Nat) : Int) + r4.2.1.Lost))))

def keep_NicStream (a0 : Int) (a1 : (List Api_NicOp)) : Option (Bool) :=
  (keep_alive20).bind fun r1 =>
  bif (!r1) then
    some false
  else
    (nic_Play a0 a1).bind fun r4 =>
    bif ((r4.2.2 : Int) != 0) then
      some true
    else
      (slices_Concat_int [r4.1, r4.2.1.Has]).bind fun r7 =>
      keep_NicStream_l1 a1 r4 r7 FUEL 0 0 0


end Go.Proofs.Ytfnhanmdfbdimaa
