/- The models of the functions: printed by program. -/
import Derived.Test.YtpkgaagajbfgbaaAbYg
set_option linter.unusedSimpArgs false
set_option linter.unusedVariables false
namespace Go.Proofs.Ytpkgaagajbfgbaa
open Go Go.Ab

structure Api_Tty where
  Lines : (List (List Int))
  Edit : (List Int)
deriving DecidableEq

def Ok_Api_Tty (x : Api_Tty) : Prop := (x.Lines.length * 24 ≤ 140737488351232 ∧ ∀ y ∈ x.Lines, (y.length * 1 ≤ 140737488351232 ∧ ∀ z ∈ y, (0 ≤ z ∧ z ≤ 255))) ∧ (x.Edit.length * 1 ≤ 140737488351232 ∧ ∀ y ∈ x.Edit, (0 ≤ y ∧ y ≤ 255))

/- corebell/tty.Right$1 -/
def tty_Right_1 (a0 : (List Int)) : Option (Bool) :=
  some (decide ((((a0.length : Nat) : Int) : Int) > 65))


/- slices.IndexFunc(()()byte,()byte) -/
def slices_IndexFunc_slbyte_tty_Right_1_l1 (a0 : (List (List Int))) : Nat → Nat → Option (Int)
  | 0, _ => none
  | n1 + 1, k1 =>
    bif (decide ((((k1 : Nat) : Int) : Int) < ((a0.length : Nat) : Int))) then
      (tty_Right_1 (a0.getD k1 [])).bind fun r4 =>
      bif r4 then
        some ((k1 : Nat) : Int)
      else
        slices_IndexFunc_slbyte_tty_Right_1_l1 a0 n1 (k1 + 1)
    else
      some (-1)

def slices_IndexFunc_slbyte_tty_Right_1 (a0 : (List (List Int))) : Option (Int) :=
  slices_IndexFunc_slbyte_tty_Right_1_l1 a0 FUEL 0


/- slices.ContainsFunc(()()byte,()byte) -/
def slices_ContainsFunc_slbyte_tty_Right_1 (a0 : (List (List Int))) : Option (Bool) :=
  (slices_IndexFunc_slbyte_tty_Right_1 a0).bind fun r1 =>
  some (decide ((r1 : Int) ≥ 0))


/- corebell/tty.Right -/
def tty_Right (a0 : Api_Tty) : Option (Bool) :=
  (bif ((decide ((((a0.Edit.length : Nat) : Int) : Int) ≤ 64)) && (decide ((((a0.Lines.length : Nat) : Int) : Int) ≤ 400))) then slices_ContainsFunc_slbyte_tty_Right_1 a0.Lines else some false).bind fun r6 =>
  some (((decide ((((a0.Edit.length : Nat) : Int) : Int) ≤ 64)) && (decide ((((a0.Lines.length : Nat) : Int) : Int) ≤ 400))) && (!r6))


/- slices.Clone(()()byte,()byte) -/
def slices_Clone_slbyte (a0 : List (List Int)) : Option (List (List Int)) := if a0.length * 24 ≤ 140737488355328 then some a0 else none

/- slices.Clone(()byte,byte) -/
def slices_Clone_byte (a0 : List Int) : Option (List Int) := if a0.length * 1 ≤ 140737488355328 then some a0 else none

/- corebell/tty.told -/
def tty_told_roro (a0 : Api_Tty) (a1 : (List Int)) : Option (Api_Tty) :=
  (slices_Clone_slbyte a0.Lines).bind fun r1 =>
  (slices_Clone_byte a0.Edit).bind fun r3 =>
  if ((r3).length + (a1).length) * 1 ≤ 140737488355328 ∧ (r3).length + (a1).length ≤ 140737488355328 then
  if ((r1).length + ([(r3 ++ a1)]).length) * 24 ≤ 140737488355328 ∧ (r1).length + ([(r3 ++ a1)]).length ≤ 140737488355328 then
  some (⟨(r1 ++ [(r3 ++ a1)]), ([] : List Int)⟩ : Api_Tty)
  else none
  else none


/- bytes.Clone -/
def bytes_Clone (a0 : List Int) : Option (List Int) := if a0.length * 1 ≤ 140737488355328 then some a0 else none

/- corebell/tty.own -/
def tty_own_l1 (a0 : Api_Tty) (r1 : (List Int)) : Nat → Nat → List (List Int) → Option (Api_Tty)
  | 0, _, _ => none
  | n1 + 1, k3, l4 =>
    bif (decide ((((k3 : Nat) : Int) : Int) < ((a0.Lines.length : Nat) : Int))) then
      (bytes_Clone (a0.Lines.getD k3 [])).bind fun r7 =>
      if ((l4).length + ([r7]).length) * 24 ≤ 140737488355328 ∧ (l4).length + ([r7]).length ≤ 140737488355328 then
      tty_own_l1 a0 r1 n1 (k3 + 1) (l4 ++ [r7])
      else none
    else
      some (⟨l4, r1⟩ : Api_Tty)

def tty_own (a0 : Api_Tty) : Option (Api_Tty) :=
  (bytes_Clone a0.Edit).bind fun r1 =>
  tty_own_l1 a0 r1 FUEL 0 ([] : List (List Int))


/- corebell/tty.word -/
def tty_word_l2 (a0 : (List Int)) (x1 : Int) : Nat → Int → Option (Int)
  | 0, _ => none
  | n2 + 1, x10 =>
    if ((decide ((x10 : Int) > 0)) = true → (0 ≤ ((IntKind.i64.wrap (x10 - 1)) : Int) ∧ (IntKind.i64.wrap (x10 - 1)) < ((a0.length : Nat) : Int))) then
    bif ((decide ((x10 : Int) > 0)) && (((a0.getD (Int.toNat (IntKind.i64.wrap (x10 - 1))) 0) : Int) != 32)) then
      tty_word_l2 a0 x1 n2 (IntKind.i64.wrap (x10 - 1))
    else
      some x10
    else none

def tty_word_l1 (a0 : (List Int)) : Nat → Int → Option (Int)
  | 0, _ => none
  | n1 + 1, x1 =>
    if ((decide ((x1 : Int) > 0)) = true → (0 ≤ ((IntKind.i64.wrap (x1 - 1)) : Int) ∧ (IntKind.i64.wrap (x1 - 1)) < ((a0.length : Nat) : Int))) then
    bif ((decide ((x1 : Int) > 0)) && (((a0.getD (Int.toNat (IntKind.i64.wrap (x1 - 1))) 0) : Int) == 32)) then
      tty_word_l1 a0 n1 (IntKind.i64.wrap (x1 - 1))
    else
      tty_word_l2 a0 x1 FUEL x1
    else none

def tty_word (a0 : (List Int)) : Option (Int) :=
  tty_word_l1 a0 FUEL ((a0.length : Nat) : Int)


/- corebell/tty.Key -/
def tty_Key (a0 : Api_Tty) (a1 : Int) : Option (Api_Tty × Int) :=
  (tty_Right a0).bind fun r1 =>
  bif (!r1) then
    some ((⟨([] : List (List Int)), ([] : List Int)⟩ : Api_Tty), 1)
  else
    bif ((((a1 : Int) == 10) || ((a1 : Int) == 4)) && ((((a0.Lines.length : Nat) : Int) : Int) == 400)) then
      some ((⟨([] : List (List Int)), ([] : List Int)⟩ : Api_Tty), 4)
    else
      bif ((a1 : Int) == 10) then
        (tty_told_roro a0 [a1]).bind fun r12 =>
        (tty_own r12).bind fun r14 =>
        some (r14, 0)
      else
        bif ((a1 : Int) == 4) then
          (tty_told_roro a0 ([] : List Int)).bind fun r17 =>
          (tty_own r17).bind fun r19 =>
          some (r19, 0)
        else
          bif ((a1 : Int) == 8) then
            if 0 ≤ ((if (0 : Int) > (IntKind.i64.wrap (((a0.Edit.length : Nat) : Int) - 1)) then 0 else (IntKind.i64.wrap (((a0.Edit.length : Nat) : Int) - 1))) : Int) then
            if (Int.toNat (if (0 : Int) > (IntKind.i64.wrap (((a0.Edit.length : Nat) : Int) - 1)) then 0 else (IntKind.i64.wrap (((a0.Edit.length : Nat) : Int) - 1)))) ≤ a0.Edit.length then
            (tty_own (⟨a0.Lines, ((a0.Edit.drop 0).take ((Int.toNat (if (0 : Int) > (IntKind.i64.wrap (((a0.Edit.length : Nat) : Int) - 1)) then 0 else (IntKind.i64.wrap (((a0.Edit.length : Nat) : Int) - 1)))) - 0))⟩ : Api_Tty)).bind fun r24 =>
            some (r24, 0)
            else none
            else none
          else
            bif ((a1 : Int) == 21) then
              (tty_own (⟨a0.Lines, ([] : List Int)⟩ : Api_Tty)).bind fun r27 =>
              some (r27, 0)
            else
              bif ((a1 : Int) == 23) then
                (tty_word a0.Edit).bind fun r30 =>
                if 0 ≤ (r30 : Int) then
                if (Int.toNat r30) ≤ a0.Edit.length then
                (tty_own (⟨a0.Lines, ((a0.Edit.drop 0).take ((Int.toNat r30) - 0))⟩ : Api_Tty)).bind fun r34 =>
                some (r34, 0)
                else none
                else none
              else
                bif ((((a0.Edit.length : Nat) : Int) : Int) == 64) then
                  some ((⟨([] : List (List Int)), ([] : List Int)⟩ : Api_Tty), 4)
                else
                  (bytes_Clone a0.Edit).bind fun r37 =>
                  if ((r37).length + ([a1]).length) * 1 ≤ 140737488355328 ∧ (r37).length + ([a1]).length ≤ 140737488355328 then
                  (tty_own (⟨a0.Lines, (r37 ++ [a1])⟩ : Api_Tty)).bind fun r40 =>
                  some (r40, 0)
                  else none


/- corebell/tty.Type -/
def tty_Type_l1 (a0 : (List Int)) : Nat → Nat → List (List Int) → List Int → Option (Api_Tty)
  | 0, _, _, _ => none
  | n1 + 1, k1, l2, l3 =>
    bif (decide ((((k1 : Nat) : Int) : Int) < ((a0.length : Nat) : Int))) then
      (tty_Key (⟨l2, l3⟩ : Api_Tty) (a0.getD k1 0)).bind fun r6 =>
      bif ((r6.2 : Int) == 0) then
        tty_Type_l1 a0 n1 (k1 + 1) r6.1.Lines r6.1.Edit
      else
        tty_Type_l1 a0 n1 (k1 + 1) l2 l3
    else
      some (⟨l2, l3⟩ : Api_Tty)

def tty_Type (a0 : (List Int)) : Option (Api_Tty) :=
  tty_Type_l1 a0 FUEL 0 ([] : List (List Int)) ([] : List Int)


/- corebell/tty.Read -/
def tty_Read (a0 : Api_Tty) (a1 : Int) : Option (Api_Tty × (List Int) × Int) :=
  (tty_Right a0).bind fun r1 =>
  bif (!r1) then
    some ((⟨([] : List (List Int)), ([] : List Int)⟩ : Api_Tty), ([] : List Int), 1)
  else
    bif (decide ((a1 : Int) < 1)) then
      some ((⟨([] : List (List Int)), ([] : List Int)⟩ : Api_Tty), ([] : List Int), 2)
    else
      bif ((((a0.Lines.length : Nat) : Int) : Int) == 0) then
        some ((⟨([] : List (List Int)), ([] : List Int)⟩ : Api_Tty), ([] : List Int), 7)
      else
        (tty_own a0).bind fun r6 =>
        if 0 ≤ (0 : Int) ∧ 0 < ((r6.Lines.length : Nat) : Int) then
        if 0 ≤ ((if ((((r6.Lines.getD (0 + 0) []).length : Nat) : Int) : Int) < a1 then (((r6.Lines.getD (0 + 0) []).length : Nat) : Int) else a1) : Int) then
        if (Int.toNat (if ((((r6.Lines.getD (0 + 0) []).length : Nat) : Int) : Int) < a1 then (((r6.Lines.getD (0 + 0) []).length : Nat) : Int) else a1)) ≤ ((r6.Lines.getD (0 + 0) []).length) then
        (bytes_Clone (((r6.Lines.getD (0 + 0) []).drop 0).take ((Int.toNat (if ((((r6.Lines.getD (0 + 0) []).length : Nat) : Int) : Int) < a1 then (((r6.Lines.getD (0 + 0) []).length : Nat) : Int) else a1)) - 0))).bind fun r11 =>
        bif (((if ((((r6.Lines.getD (0 + 0) []).length : Nat) : Int) : Int) < a1 then (((r6.Lines.getD (0 + 0) []).length : Nat) : Int) else a1) : Int) == (((r6.Lines.getD (0 + 0) []).length : Nat) : Int)) then
          if 1 ≤ r6.Lines.length then
          some ((⟨((r6.Lines.drop (0 + 1)).take (r6.Lines.length - 1)), r6.Edit⟩ : Api_Tty), r11, 0)
          else none
        else
          if 0 ≤ ((if ((((r6.Lines.getD (0 + 0) []).length : Nat) : Int) : Int) < a1 then (((r6.Lines.getD (0 + 0) []).length : Nat) : Int) else a1) : Int) then
          if (Int.toNat (if ((((r6.Lines.getD (0 + 0) []).length : Nat) : Int) : Int) < a1 then (((r6.Lines.getD (0 + 0) []).length : Nat) : Int) else a1)) ≤ ((r6.Lines.getD (0 + 0) []).length) then
          (bytes_Clone (((r6.Lines.getD (0 + 0) []).drop (Int.toNat (if ((((r6.Lines.getD (0 + 0) []).length : Nat) : Int) : Int) < a1 then (((r6.Lines.getD (0 + 0) []).length : Nat) : Int) else a1))).take (((r6.Lines.getD (0 + 0) []).length) - (Int.toNat (if ((((r6.Lines.getD (0 + 0) []).length : Nat) : Int) : Int) < a1 then (((r6.Lines.getD (0 + 0) []).length : Nat) : Int) else a1))))).bind fun r18 =>
          if 0 ≤ (0 : Int) ∧ 0 < ((r6.Lines.length : Nat) : Int) then
          some ((⟨(r6.Lines.set (0 + 0) r18), r6.Edit⟩ : Api_Tty), r11, 0)
          else none
          else none
          else none
        else none
        else none
        else none


/- corebell/corebellkeep.alive17 -/
def keep_alive17 : Option (Bool) :=
  (tty_Type [97, 98, 32, 8, 99, 23, 100, 101, 10, 120, 4, 121, 122]).bind fun r1 =>
  (tty_Read r1 2).bind fun r3 =>
  if ((((r3.2.2 : Int) == 0) && ((((r1.Lines.length : Nat) : Int) : Int) == 2)) = true → (0 ≤ (0 : Int) ∧ 0 < ((r1.Lines.length : Nat) : Int))) then
  if (((((r3.2.2 : Int) == 0) && ((((r1.Lines.length : Nat) : Int) : Int) == 2)) && ((bytesOf (r1.Lines.getD 0 [])).toList == (bytesOf [100, 101, 10]).toList)) = true → (0 ≤ (1 : Int) ∧ 1 < ((r1.Lines.length : Nat) : Int))) then
  if (((((((((r3.2.2 : Int) == 0) && ((((r1.Lines.length : Nat) : Int) : Int) == 2)) && ((bytesOf (r1.Lines.getD 0 [])).toList == (bytesOf [100, 101, 10]).toList)) && ((bytesOf (r1.Lines.getD 1 [])).toList == (bytesOf [120]).toList)) && ((bytesOf r1.Edit).toList == (bytesOf [121, 122]).toList)) && ((bytesOf r3.2.1).toList == (bytesOf [100, 101]).toList)) && ((((r3.1.Lines.length : Nat) : Int) : Int) == 2)) = true → (0 ≤ (0 : Int) ∧ 0 < ((r3.1.Lines.length : Nat) : Int))) then
  some (((((((((r3.2.2 : Int) == 0) && ((((r1.Lines.length : Nat) : Int) : Int) == 2)) && ((bytesOf (r1.Lines.getD 0 [])).toList == (bytesOf [100, 101, 10]).toList)) && ((bytesOf (r1.Lines.getD 1 [])).toList == (bytesOf [120]).toList)) && ((bytesOf r1.Edit).toList == (bytesOf [121, 122]).toList)) && ((bytesOf r3.2.1).toList == (bytesOf [100, 101]).toList)) && ((((r3.1.Lines.length : Nat) : Int) : Int) == 2)) && ((bytesOf (r3.1.Lines.getD 0 [])).toList == (bytesOf [10]).toList))
  else none
  else none
  else none


/- corebell/corebellkeep.plain -/
def keep_plain (a0 : Int) : Option (Bool) :=
  some ((((((a0 : Int) != 8) && ((a0 : Int) != 21)) && ((a0 : Int) != 4)) && ((a0 : Int) != 10)) && ((a0 : Int) != 23))


/- corebell/corebellkeep.TtyPlain$1 -/
def keep_TtyPlain_1 (a0 : Int) : Option (Bool) :=
  (keep_plain a0).bind fun r1 =>
  some (!r1)


/- slices.IndexFunc(()byte,byte) -/
def slices_IndexFunc_byte_keep_TtyPlain_1_l1 (a0 : (List Int)) : Nat → Nat → Option (Int)
  | 0, _ => none
  | n1 + 1, k1 =>
    bif (decide ((((k1 : Nat) : Int) : Int) < ((a0.length : Nat) : Int))) then
      (keep_TtyPlain_1 (a0.getD k1 0)).bind fun r4 =>
      bif r4 then
        some ((k1 : Nat) : Int)
      else
        slices_IndexFunc_byte_keep_TtyPlain_1_l1 a0 n1 (k1 + 1)
    else
      some (-1)

def slices_IndexFunc_byte_keep_TtyPlain_1 (a0 : (List Int)) : Option (Int) :=
  slices_IndexFunc_byte_keep_TtyPlain_1_l1 a0 FUEL 0


/- slices.ContainsFunc(()byte,byte) -/
def slices_ContainsFunc_byte_keep_TtyPlain_1 (a0 : (List Int)) : Option (Bool) :=
  (slices_IndexFunc_byte_keep_TtyPlain_1 a0).bind fun r1 =>
  some (decide ((r1 : Int) ≥ 0))


/- corebell/corebellref.SameTty -/
def ref_SameTty_l1 (a0 : Api_Tty) (a1 : Api_Tty) : Nat → Nat → Option (Bool)
  | 0, _ => none
  | n1 + 1, k9 =>
    bif (decide ((((k9 : Nat) : Int) : Int) < ((a0.Lines.length : Nat) : Int))) then
      if 0 ≤ (((k9 : Nat) : Int) : Int) ∧ ((k9 : Nat) : Int) < ((a1.Lines.length : Nat) : Int) then
      bif (!((bytesOf (a0.Lines.getD k9 [])).toList == (bytesOf (a1.Lines.getD k9 [])).toList)) then
        some false
      else
        ref_SameTty_l1 a0 a1 n1 (k9 + 1)
      else none
    else
      some true

def ref_SameTty (a0 : Api_Tty) (a1 : Api_Tty) : Option (Bool) :=
  bif ((!((bytesOf a0.Edit).toList == (bytesOf a1.Edit).toList)) || ((((a0.Lines.length : Nat) : Int) : Int) != ((a1.Lines.length : Nat) : Int))) then
    some false
  else
    ref_SameTty_l1 a0 a1 FUEL 0


/- corebell/corebellkeep.TtyPlain -/
def keep_TtyPlain_l2 (a1 : Int) (l8 : List Int) (r18 : Api_Tty) : Nat → List Int → Int → List (List Int) → List Int → Option (Bool)
  | 0, _, _, _, _ => none
  | n2 + 1, l20, x21, l22, l23 =>
    bif (decide ((x21 : Int) < (IntKind.i64.wrap (((l8.length : Nat) : Int) + 1)))) then
      (tty_Read (⟨l22, l23⟩ : Api_Tty) a1).bind fun r25 =>
      bif ((r25.2.2 : Int) == 7) then
        (bif ((bytesOf l20).toList == (bytesOf l8).toList) then ref_SameTty (⟨l22, l23⟩ : Api_Tty) (⟨([] : List (List Int)), ([] : List Int)⟩ : Api_Tty) else some false).bind fun r28 =>
        some (((bytesOf l20).toList == (bytesOf l8).toList) && r28)
      else
        bif (((r25.2.2 : Int) != 0) || (decide ((((r25.2.1.length : Nat) : Int) : Int) > a1))) then
          some false
        else
          if ((l20).length + (r25.2.1).length) * 1 ≤ 140737488355328 ∧ (l20).length + (r25.2.1).length ≤ 140737488355328 then
          keep_TtyPlain_l2 a1 l8 r18 n2 (l20 ++ r25.2.1) (IntKind.i64.wrap (x21 + 1)) r25.1.Lines r25.1.Edit
          else none
    else
      (bif ((bytesOf l20).toList == (bytesOf l8).toList) then ref_SameTty (⟨l22, l23⟩ : Api_Tty) (⟨([] : List (List Int)), ([] : List Int)⟩ : Api_Tty) else some false).bind fun r37 =>
      some (((bytesOf l20).toList == (bytesOf l8).toList) && r37)

def keep_TtyPlain_l1 (a0 : (List (List Int))) (a1 : Int) : Nat → List Int → Nat → Option (Bool)
  | 0, _, _ => none
  | n1 + 1, l8, k9 =>
    bif (decide ((((k9 : Nat) : Int) : Int) < ((a0.length : Nat) : Int))) then
      (bif (!(decide (((((a0.getD k9 []).length : Nat) : Int) : Int) > 64))) then slices_ContainsFunc_byte_keep_TtyPlain_1 (a0.getD k9 []) else some false).bind fun r12 =>
      bif ((decide (((((a0.getD k9 []).length : Nat) : Int) : Int) > 64)) || r12) then
        some true
      else
        if ((l8).length + ((a0.getD k9 [])).length) * 1 ≤ 140737488355328 ∧ (l8).length + ((a0.getD k9 [])).length ≤ 140737488355328 then
        if (((l8 ++ (a0.getD k9 []))).length + ([10]).length) * 1 ≤ 140737488355328 ∧ ((l8 ++ (a0.getD k9 []))).length + ([10]).length ≤ 140737488355328 then
        keep_TtyPlain_l1 a0 a1 n1 ((l8 ++ (a0.getD k9 [])) ++ [10]) (k9 + 1)
        else none
        else none
    else
      (tty_Type l8).bind fun r18 =>
      keep_TtyPlain_l2 a1 l8 r18 FUEL ([] : List Int) 0 r18.Lines r18.Edit

def keep_TtyPlain (a0 : (List (List Int))) (a1 : Int) : Option (Bool) :=
  (keep_alive17).bind fun r1 =>
  bif (!r1) then
    some false
  else
    bif ((decide ((a1 : Int) < 1)) || (decide ((((a0.length : Nat) : Int) : Int) > 50))) then
      some true
    else
      keep_TtyPlain_l1 a0 a1 FUEL ([] : List Int) 0


/- slices.Grow(()byte,byte), from nothing -/
def slices_Grow_byte_nil (a0 : Int) : Option (List Int) := if 0 ≤ a0 ∧ a0.toNat * 1 ≤ 140737488355328 ∧ a0.toNat ≤ 140737488355328 then some [] else none

/- slices.Concat(()byte,byte) -/
def slices_Concat_byte_l2 (a0 : (List (List Int))) (r6 : (List Int)) : Nat → List Int → Nat → Option ((List Int))
  | 0, _, _ => none
  | n2 + 1, l8, k9 =>
    bif (decide ((((k9 : Nat) : Int) : Int) < ((a0.length : Nat) : Int))) then
      if ((l8).length + ((a0.getD k9 [])).length) * 1 ≤ 140737488355328 ∧ (l8).length + ((a0.getD k9 [])).length ≤ 140737488355328 then
      slices_Concat_byte_l2 a0 r6 n2 (l8 ++ (a0.getD k9 [])) (k9 + 1)
      else none
    else
      some l8

def slices_Concat_byte_l1 (a0 : (List (List Int))) : Nat → Int → Nat → Option ((List Int))
  | 0, _, _ => none
  | n1 + 1, x1, k2 =>
    bif (decide ((((k2 : Nat) : Int) : Int) < ((a0.length : Nat) : Int))) then
      bif (decide (((IntKind.i64.wrap (x1 + (((a0.getD k2 []).length : Nat) : Int))) : Int) < 0)) then
        none
      else
        slices_Concat_byte_l1 a0 n1 (IntKind.i64.wrap (x1 + (((a0.getD k2 []).length : Nat) : Int))) (k2 + 1)
    else
      (slices_Grow_byte_nil x1).bind fun r6 =>
      slices_Concat_byte_l2 a0 r6 FUEL r6 0

def slices_Concat_byte (a0 : (List (List Int))) : Option ((List Int)) :=
  slices_Concat_byte_l1 a0 FUEL 0 0


/- corebell/corebellkeep.TtyErase$1 -/
def keep_TtyErase_1 (a0 : Int) : Option (Bool) :=
  (keep_plain a0).bind fun r1 =>
  some (!r1)


/- slices.IndexFunc(()byte,byte) -/
def slices_IndexFunc_byte_keep_TtyErase_1_l1 (a0 : (List Int)) : Nat → Nat → Option (Int)
  | 0, _ => none
  | n1 + 1, k1 =>
    bif (decide ((((k1 : Nat) : Int) : Int) < ((a0.length : Nat) : Int))) then
      (keep_TtyErase_1 (a0.getD k1 0)).bind fun r4 =>
      bif r4 then
        some ((k1 : Nat) : Int)
      else
        slices_IndexFunc_byte_keep_TtyErase_1_l1 a0 n1 (k1 + 1)
    else
      some (-1)

def slices_IndexFunc_byte_keep_TtyErase_1 (a0 : (List Int)) : Option (Int) :=
  slices_IndexFunc_byte_keep_TtyErase_1_l1 a0 FUEL 0


/- slices.ContainsFunc(()byte,byte) -/
def slices_ContainsFunc_byte_keep_TtyErase_1 (a0 : (List Int)) : Option (Bool) :=
  (slices_IndexFunc_byte_keep_TtyErase_1 a0).bind fun r1 =>
  some (decide ((r1 : Int) ≥ 0))


/- corebell/corebellkeep.TtyErase -/
def keep_TtyErase (a0 : (List Int)) (a1 : Int) (a2 : (List Int)) : Option (Bool) :=
  (keep_alive17).bind fun r1 =>
  bif (!r1) then
    some false
  else
    (tty_Type a0).bind fun r4 =>
    (keep_plain a1).bind fun r6 =>
    bif ((!r6) || ((((r4.Edit.length : Nat) : Int) : Int) == 64)) then
      some true
    else
      (slices_Concat_byte [a0, [a1, 8], a2]).bind fun r13 =>
      (tty_Type r13).bind fun r15 =>
      (slices_Concat_byte [a0, a2]).bind fun r17 =>
      (tty_Type r17).bind fun r19 =>
      (ref_SameTty r15 r19).bind fun r21 =>
      bif (!r21) then
        some false
      else
        (bif (!((decide ((((r4.Edit.length : Nat) : Int) : Int) > 0)) || (decide ((((a2.length : Nat) : Int) : Int) > 64)))) then slices_ContainsFunc_byte_keep_TtyErase_1 a2 else some false).bind fun r27 =>
        bif (((decide ((((r4.Edit.length : Nat) : Int) : Int) > 0)) || (decide ((((a2.length : Nat) : Int) : Int) > 64))) || r27) then
          some true
        else
          (slices_Concat_byte [a0, a2, [21]]).bind fun r31 =>
          (tty_Type r31).bind fun r33 =>
          (ref_SameTty r33 r4).bind fun r35 =>
          some r35


/- corebell/corebellkeep.TtyReads -/
def keep_TtyReads (a0 : Api_Tty) (a1 : Int) (a2 : Int) : Option (Bool) :=
  (keep_alive17).bind fun r1 =>
  bif (!r1) then
    some false
  else
    if ((!(((((decide ((a1 : Int) < 1)) || (decide ((a2 : Int) < 1))) || (decide ((a1 : Int) > 100))) || (decide ((a2 : Int) > 100))) || ((((a0.Lines.length : Nat) : Int) : Int) == 0))) = true → (0 ≤ (0 : Int) ∧ 0 < ((a0.Lines.length : Nat) : Int))) then
    bif ((((((decide ((a1 : Int) < 1)) || (decide ((a2 : Int) < 1))) || (decide ((a1 : Int) > 100))) || (decide ((a2 : Int) > 100))) || ((((a0.Lines.length : Nat) : Int) : Int) == 0)) || (decide ((a1 : Int) ≥ (((a0.Lines.getD 0 []).length : Nat) : Int)))) then
      some true
    else
      (tty_Read a0 a1).bind fun r23 =>
      (tty_Read r23.1 a2).bind fun r25 =>
      (tty_Read a0 (IntKind.i64.wrap (a1 + a2))).bind fun r27 =>
      bif ((r27.2.2 : Int) != 0) then
        some ((r23.2.2 : Int) == r27.2.2)
      else
        (bif (((r23.2.2 : Int) == 0) && ((r25.2.2 : Int) == 0)) then slices_Concat_byte [r23.2.1, r25.2.1] else some []).bind fun r32 =>
        (bif ((((r23.2.2 : Int) == 0) && ((r25.2.2 : Int) == 0)) && ((bytesOf r32).toList == (bytesOf r27.2.1).toList)) then ref_SameTty r25.1 r27.1 else some false).bind fun r37 =>
        some (((((r23.2.2 : Int) == 0) && ((r25.2.2 : Int) == 0)) && ((bytesOf r32).toList == (bytesOf r27.2.1).toList)) && r37)
    else none


/- corebell/corebellkeep.TtyWord$1 -/
def keep_TtyWord_1 (a0 : Int) : Option (Bool) :=
  (keep_plain a0).bind fun r1 =>
  some ((!r1) || ((a0 : Int) == 32))


/- slices.IndexFunc(()byte,byte) -/
def slices_IndexFunc_byte_keep_TtyWord_1_l1 (a0 : (List Int)) : Nat → Nat → Option (Int)
  | 0, _ => none
  | n1 + 1, k1 =>
    bif (decide ((((k1 : Nat) : Int) : Int) < ((a0.length : Nat) : Int))) then
      (keep_TtyWord_1 (a0.getD k1 0)).bind fun r4 =>
      bif r4 then
        some ((k1 : Nat) : Int)
      else
        slices_IndexFunc_byte_keep_TtyWord_1_l1 a0 n1 (k1 + 1)
    else
      some (-1)

def slices_IndexFunc_byte_keep_TtyWord_1 (a0 : (List Int)) : Option (Int) :=
  slices_IndexFunc_byte_keep_TtyWord_1_l1 a0 FUEL 0


/- slices.ContainsFunc(()byte,byte) -/
def slices_ContainsFunc_byte_keep_TtyWord_1 (a0 : (List Int)) : Option (Bool) :=
  (slices_IndexFunc_byte_keep_TtyWord_1 a0).bind fun r1 =>
  some (decide ((r1 : Int) ≥ 0))


/- math/bits.Mul32 -/
def math_bits_Mul32 (a0 : Int) (a1 : Int) : Option (Int × Int) :=
  some ((IntKind.u32.wrap (Int.fdiv (IntKind.u64.wrap ((IntKind.u64.wrap a0) * (IntKind.u64.wrap a1))) (2 ^ (min (Int.toNat 32) IntKind.u64.bits)))), (IntKind.u32.wrap (IntKind.u64.wrap ((IntKind.u64.wrap a0) * (IntKind.u64.wrap a1)))))


/- math/bits.Mul64 -/
def math_bits_Mul64 (a0 : Int) (a1 : Int) : Option (Int × Int) :=
  some ((IntKind.u64.wrap ((IntKind.u64.wrap ((IntKind.u64.wrap ((Int.fdiv a0 (2 ^ (min (Int.toNat 32) IntKind.u64.bits))) * (Int.fdiv a1 (2 ^ (min (Int.toNat 32) IntKind.u64.bits))))) + (Int.fdiv (IntKind.u64.wrap ((IntKind.u64.wrap ((Int.fdiv a0 (2 ^ (min (Int.toNat 32) IntKind.u64.bits))) * (bitsOf .and .u64 a1 4294967295))) + (Int.fdiv (IntKind.u64.wrap ((bitsOf .and .u64 a0 4294967295) * (bitsOf .and .u64 a1 4294967295))) (2 ^ (min (Int.toNat 32) IntKind.u64.bits))))) (2 ^ (min (Int.toNat 32) IntKind.u64.bits))))) + (Int.fdiv (IntKind.u64.wrap ((bitsOf .and .u64 (IntKind.u64.wrap ((IntKind.u64.wrap ((Int.fdiv a0 (2 ^ (min (Int.toNat 32) IntKind.u64.bits))) * (bitsOf .and .u64 a1 4294967295))) + (Int.fdiv (IntKind.u64.wrap ((bitsOf .and .u64 a0 4294967295) * (bitsOf .and .u64 a1 4294967295))) (2 ^ (min (Int.toNat 32) IntKind.u64.bits))))) 4294967295) + (IntKind.u64.wrap ((bitsOf .and .u64 a0 4294967295) * (Int.fdiv a1 (2 ^ (min (Int.toNat 32) IntKind.u64.bits))))))) (2 ^ (min (Int.toNat 32) IntKind.u64.bits))))), (IntKind.u64.wrap (a0 * a1)))


/- math/bits.Mul -/
def math_bits_Mul (a0 : Int) (a1 : Int) : Option (Int × Int) :=
  bif false then
    (math_bits_Mul32 (IntKind.u32.wrap a0) (IntKind.u32.wrap a1)).bind fun r2 =>
    some ((IntKind.u64.wrap r2.1), (IntKind.u64.wrap r2.2))
  else
    (math_bits_Mul64 a0 a1).bind fun r4 =>
    some (r4.1, r4.2)


/- slices.Repeat(()byte,byte) -/
def slices_Repeat_byte_l1 (a0 : (List Int)) (r2 : Int × Int) : Nat → Int → List Int → Option ((List Int))
  | 0, _, _ => none
  | n1 + 1, x9, l10 =>
    bif (decide ((x9 : Int) < ((l10.length : Nat) : Int))) then
      if 0 ≤ (x9 : Int) then
      if (Int.toNat x9) ≤ l10.length then
      if 0 ≤ (x9 : Int) then
      if (Int.toNat x9) ≤ l10.length then
      if (0 + (Int.toNat x9)) + (l10.length - (Int.toNat x9)) ≤ l10.length ∧ (0 + 0) + ((Int.toNat x9) - 0) ≤ l10.length then
      slices_Repeat_byte_l1 a0 r2 n1 (IntKind.i64.wrap (x9 + (((min ((l10.drop (0 + 0)).take ((Int.toNat x9) - 0)).length (l10.length - (Int.toNat x9))) : Nat) : Int))) (cpL l10 (0 + (Int.toNat x9)) (min ((l10.drop (0 + 0)).take ((Int.toNat x9) - 0)).length (l10.length - (Int.toNat x9))) ((l10.drop (0 + 0)).take ((Int.toNat x9) - 0)))
      else none
      else none
      else none
      else none
      else none
    else
      some l10

def slices_Repeat_byte (a0 : (List Int)) (a1 : Int) : Option ((List Int)) :=
  bif (decide ((a1 : Int) < 0)) then
    none
  else
    (math_bits_Mul (IntKind.u64.wrap ((a0.length : Nat) : Int)) (IntKind.u64.wrap a1)).bind fun r2 =>
    bif ((decide ((r2.1 : Int) > 0)) || (decide ((r2.2 : Int) > 9223372036854775807))) then
      none
    else
      if 0 ≤ ((IntKind.i64.wrap r2.2) : Int) ∧ (Int.toNat (IntKind.i64.wrap r2.2)) * 1 ≤ 140737488355328 ∧ (Int.toNat (IntKind.i64.wrap r2.2)) ≤ 140737488355328 then
      if 0 + (Int.toNat (IntKind.i64.wrap r2.2)) ≤ (List.replicate (Int.toNat (IntKind.i64.wrap r2.2)) (0 : Int)).length then
      slices_Repeat_byte_l1 a0 r2 FUEL (((min a0.length (Int.toNat (IntKind.i64.wrap r2.2))) : Nat) : Int) (cpL (List.replicate (Int.toNat (IntKind.i64.wrap r2.2)) (0 : Int)) 0 (min a0.length (Int.toNat (IntKind.i64.wrap r2.2))) a0)
      else none
      else none


/- corebell/corebellkeep.TtyWord -/
def keep_TtyWord (a0 : (List Int)) (a1 : (List Int)) (a2 : Int) : Option (Bool) :=
  (keep_alive17).bind fun r1 =>
  bif (!r1) then
    some false
  else
    (tty_Type a0).bind fun r4 =>
    if ((decide ((((r4.Edit.length : Nat) : Int) : Int) > 0)) = true → (0 ≤ ((IntKind.i64.wrap (((r4.Edit.length : Nat) : Int) - 1)) : Int) ∧ (IntKind.i64.wrap (((r4.Edit.length : Nat) : Int) - 1)) < ((r4.Edit.length : Nat) : Int))) then
    (bif (!((((((decide ((((r4.Edit.length : Nat) : Int) : Int) > 0)) && (((r4.Edit.getD (Int.toNat (IntKind.i64.wrap (((r4.Edit.length : Nat) : Int) - 1))) 0) : Int) != 32)) || ((((a1.length : Nat) : Int) : Int) == 0)) || (decide ((a2 : Int) < 0))) || (decide ((a2 : Int) > 9))) || (decide (((IntKind.i64.wrap ((IntKind.i64.wrap (((r4.Edit.length : Nat) : Int) + ((a1.length : Nat) : Int))) + a2)) : Int) > 64)))) then slices_ContainsFunc_byte_keep_TtyWord_1 a1 else some false).bind fun r28 =>
    bif (((((((decide ((((r4.Edit.length : Nat) : Int) : Int) > 0)) && (((r4.Edit.getD (Int.toNat (IntKind.i64.wrap (((r4.Edit.length : Nat) : Int) - 1))) 0) : Int) != 32)) || ((((a1.length : Nat) : Int) : Int) == 0)) || (decide ((a2 : Int) < 0))) || (decide ((a2 : Int) > 9))) || (decide (((IntKind.i64.wrap ((IntKind.i64.wrap (((r4.Edit.length : Nat) : Int) + ((a1.length : Nat) : Int))) + a2)) : Int) > 64))) || r28) then
      some true
    else
      (slices_Repeat_byte [32] a2).bind fun r32 =>
      (slices_Concat_byte [a0, a1, r32, [23]]).bind fun r34 =>
      (tty_Type r34).bind fun r36 =>
      (ref_SameTty r36 r4).bind fun r38 =>
      some r38
    else none


end Go.Proofs.Ytpkgaagajbfgbaa
