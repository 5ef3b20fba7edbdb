import Derived.Test.YtfkoglicoabbaaaAbYg
import Derived.Test.YtfkoglicoabbaaaQFA
set_option linter.unusedSimpArgs false
set_option linter.unusedVariables false
namespace Go.Proofs.Ytfkoglicoabbaaa
open Go Go.Ab
structure Api_FileOp where
 Kind : Int
 Proc : Int
 Name : Int
 Size : Int
 Fd : Int
 To : Int
 Most : Int
deriving DecidableEq
structure Api_FileAns where
 Err : Int
 Value : Int
deriving DecidableEq
def Ok_Api_FileOp (x : Api_FileOp) : Prop := (-9223372036854775808 ≤ x.Kind ∧ x.Kind ≤ 9223372036854775807) ∧ (-9223372036854775808 ≤ x.Proc ∧ x.Proc ≤ 9223372036854775807) ∧ (-9223372036854775808 ≤ x.Name ∧ x.Name ≤ 9223372036854775807) ∧ (-9223372036854775808 ≤ x.Size ∧ x.Size ≤ 9223372036854775807) ∧ (-9223372036854775808 ≤ x.Fd ∧ x.Fd ≤ 9223372036854775807) ∧ (-9223372036854775808 ≤ x.To ∧ x.To ≤ 9223372036854775807) ∧ (-9223372036854775808 ≤ x.Most ∧ x.Most ≤ 9223372036854775807)
def fp_op (x : Api_FileOp) : Go.Fp.Op := ⟨x.Kind, x.Proc, x.Name, x.Size, x.Fd, x.To, x.Most⟩
def fp_ans (a : Int × Int) : Api_FileAns := ⟨a.1, a.2⟩
def files_Play (a0 : List Api_FileOp) : Option ((List Api_FileAns) × (Nat → (Nat → Int))) :=
 if a0.length ≤ 8796093022208 ∧ (a0.all fun x => decide (x.Most ≤ 9223372036854775807)) = true then
  some ((Go.Fp.answers (a0.map fp_op) Go.Fp.s0).map fp_ans, fun p fd => Go.Fp.cell (Go.Fp.run (a0.map fp_op) Go.Fp.s0) p fd)
 else none
def slices_Equal_api_FileAns_l1 (a0 : (List Api_FileAns)) (a1 : (List Api_FileAns)) : Nat → Nat → Option (Bool)
 | 0, _ => none
 | n1 + 1, k2 =>
  bif (decide ((((k2 : Nat) : Int) : Int) < ((a0.length : Nat) : Int))) then
   if 0 ≤ (((k2 : Nat) : Int) : Int) ∧ ((k2 : Nat) : Int) < ((a1.length : Nat) : Int) then
   bif (!((((a0.getD k2 (⟨0, 0⟩ : Api_FileAns)).Err : Int) == ((a1.getD k2 (⟨0, 0⟩ : Api_FileAns)).Err)) && ((((a0.getD k2 (⟨0, 0⟩ : Api_FileAns)).Value : Int) == ((a1.getD k2 (⟨0, 0⟩ : Api_FileAns)).Value)) && true))) then
    some false
   else
    slices_Equal_api_FileAns_l1 a0 a1 n1 (k2 + 1)
   else none
  else
   some true
def slices_Equal_api_FileAns (a0 : (List Api_FileAns)) (a1 : (List Api_FileAns)) : Option (Bool) :=
 bif ((((a0.length : Nat) : Int) : Int) != ((a1.length : Nat) : Int)) then
  some false
 else
  slices_Equal_api_FileAns_l1 a0 a1 FUEL 0
def keep_alive22 : Option (Bool) :=
 (files_Play [(⟨1, 0, 7, 10, 0, 0, 0⟩ : Api_FileOp), (⟨2, 0, 0, 0, 0, 0, 0⟩ : Api_FileOp), (⟨5, 0, 0, 0, 0, 0, 4⟩ : Api_FileOp), (⟨5, 0, 0, 0, 1, 0, 9⟩ : Api_FileOp), (⟨4, 0, 0, 0, 0, 0, 0⟩ : Api_FileOp), (⟨1, 0, 8, 0, 0, 0, 0⟩ : Api_FileOp), (⟨7, 0, 0, 0, 0, 2, 0⟩ : Api_FileOp), (⟨4, 0, 0, 0, 1, 0, 0⟩ : Api_FileOp)]).bind fun r1 =>
 (slices_Equal_api_FileAns r1.1 [(⟨0, 0⟩ : Api_FileAns), (⟨0, 1⟩ : Api_FileAns), (⟨0, 4⟩ : Api_FileAns), (⟨0, 6⟩ : Api_FileAns), (⟨0, 1⟩ : Api_FileAns), (⟨0, 0⟩ : Api_FileAns), (⟨0, 2⟩ : Api_FileAns), (⟨0, 1⟩ : Api_FileAns)]).bind fun r3 =>
 if (r3 = true → (0 ≤ (0 : Int) ∧ 0 < ((4 : Nat) : Int))) then
 if (r3 = true → (0 ≤ (0 : Int) ∧ 0 < ((16 : Nat) : Int))) then
 if ((r3 && ((((r1.2 0) 0) : Int) == 8)) = true → (0 ≤ (0 : Int) ∧ 0 < ((4 : Nat) : Int))) then
 if ((r3 && ((((r1.2 0) 0) : Int) == 8)) = true → (0 ≤ (1 : Int) ∧ 1 < ((16 : Nat) : Int))) then
 if (((r3 && ((((r1.2 0) 0) : Int) == 8)) && ((((r1.2 0) 1) : Int) == (-1))) = true → (0 ≤ (2 : Int) ∧ 2 < ((4 : Nat) : Int))) then
 if (((r3 && ((((r1.2 0) 0) : Int) == 8)) && ((((r1.2 0) 1) : Int) == (-1))) = true → (0 ≤ (1 : Int) ∧ 1 < ((16 : Nat) : Int))) then
 some (((r3 && ((((r1.2 0) 0) : Int) == 8)) && ((((r1.2 0) 1) : Int) == (-1))) && ((((r1.2 2) 1) : Int) == 7))
 else none
 else none
 else none
 else none
 else none
 else none
def slices_Clone_api_FileOp (a0 : List Api_FileOp) : Option (List Api_FileOp) := if a0.length * 56 ≤ 140737488355328 then some a0 else none
def keep_FilesLeast_l1 (a0 : (List Api_FileOp)) (a1 : Api_FileOp) (r8 : ((List Api_FileAns) × (Nat → (Nat → Int)))) (r13 : ((List Api_FileAns) × (Nat → (Nat → Int)))) : Nat → Nat → Option (Bool)
 | 0, _ => none
 | n1 + 1, k48 =>
  bif (decide ((((k48 : Nat) : Int) : Int) < 16)) then
   if 0 ≤ (((k48 : Nat) : Int) : Int) ∧ ((k48 : Nat) : Int) < ((16 : Nat) : Int) then
   if 0 ≤ (((a0.length : Nat) : Int) : Int) ∧ ((a0.length : Nat) : Int) < ((r13.1.length : Nat) : Int) then
   if ((!((decide ((((k48 : Nat) : Int) : Int) < ((r13.1.getD (0 + a0.length) (⟨0, 0⟩ : Api_FileAns)).Value))) && (decide ((((r8.2 (Int.toNat a1.Proc)) k48) : Int) < 0)))) = true → (0 ≤ (((a0.length : Nat) : Int) : Int) ∧ ((a0.length : Nat) : Int) < ((r13.1.length : Nat) : Int))) then
   if ((!(((decide ((((k48 : Nat) : Int) : Int) < ((r13.1.getD (0 + a0.length) (⟨0, 0⟩ : Api_FileAns)).Value))) && (decide ((((r8.2 (Int.toNat a1.Proc)) k48) : Int) < 0))) || (((((k48 : Nat) : Int) : Int) == ((r13.1.getD (0 + a0.length) (⟨0, 0⟩ : Api_FileAns)).Value)) && (decide ((((r8.2 (Int.toNat a1.Proc)) k48) : Int) ≥ 0))))) = true → (0 ≤ (((a0.length : Nat) : Int) : Int) ∧ ((a0.length : Nat) : Int) < ((r13.1.length : Nat) : Int))) then
   if (((!(((decide ((((k48 : Nat) : Int) : Int) < ((r13.1.getD (0 + a0.length) (⟨0, 0⟩ : Api_FileAns)).Value))) && (decide ((((r8.2 (Int.toNat a1.Proc)) k48) : Int) < 0))) || (((((k48 : Nat) : Int) : Int) == ((r13.1.getD (0 + a0.length) (⟨0, 0⟩ : Api_FileAns)).Value)) && (decide ((((r8.2 (Int.toNat a1.Proc)) k48) : Int) ≥ 0))))) && ((((k48 : Nat) : Int) : Int) != ((r13.1.getD (0 + a0.length) (⟨0, 0⟩ : Api_FileAns)).Value))) = true → (0 ≤ (a1.Proc : Int) ∧ a1.Proc < ((4 : Nat) : Int))) then
   if (((!(((decide ((((k48 : Nat) : Int) : Int) < ((r13.1.getD (0 + a0.length) (⟨0, 0⟩ : Api_FileAns)).Value))) && (decide ((((r8.2 (Int.toNat a1.Proc)) k48) : Int) < 0))) || (((((k48 : Nat) : Int) : Int) == ((r13.1.getD (0 + a0.length) (⟨0, 0⟩ : Api_FileAns)).Value)) && (decide ((((r8.2 (Int.toNat a1.Proc)) k48) : Int) ≥ 0))))) && ((((k48 : Nat) : Int) : Int) != ((r13.1.getD (0 + a0.length) (⟨0, 0⟩ : Api_FileAns)).Value))) = true → (0 ≤ (((k48 : Nat) : Int) : Int) ∧ ((k48 : Nat) : Int) < ((16 : Nat) : Int))) then
   bif ((((decide ((((k48 : Nat) : Int) : Int) < ((r13.1.getD (0 + a0.length) (⟨0, 0⟩ : Api_FileAns)).Value))) && (decide ((((r8.2 (Int.toNat a1.Proc)) k48) : Int) < 0))) || (((((k48 : Nat) : Int) : Int) == ((r13.1.getD (0 + a0.length) (⟨0, 0⟩ : Api_FileAns)).Value)) && (decide ((((r8.2 (Int.toNat a1.Proc)) k48) : Int) ≥ 0)))) || (((((k48 : Nat) : Int) : Int) != ((r13.1.getD (0 + a0.length) (⟨0, 0⟩ : Api_FileAns)).Value)) && ((((r13.2 (Int.toNat a1.Proc)) k48) : Int) != ((r8.2 (Int.toNat a1.Proc)) k48)))) then
    some false
   else
    keep_FilesLeast_l1 a0 a1 r8 r13 n1 (k48 + 1)
   else none
   else none
   else none
   else none
   else none
   else none
  else
   if 0 ≤ (((a0.length : Nat) : Int) : Int) ∧ ((a0.length : Nat) : Int) < ((r13.1.length : Nat) : Int) then
   if 0 ≤ (a1.Proc : Int) ∧ a1.Proc < ((4 : Nat) : Int) then
   if 0 ≤ ((r13.1.getD (0 + a0.length) (⟨0, 0⟩ : Api_FileAns)).Value : Int) ∧ ((r13.1.getD (0 + a0.length) (⟨0, 0⟩ : Api_FileAns)).Value) < ((16 : Nat) : Int) then
   some (decide ((((r13.2 (Int.toNat a1.Proc)) (Int.toNat ((r13.1.getD (0 + a0.length) (⟨0, 0⟩ : Api_FileAns)).Value))) : Int) ≥ 0))
   else none
   else none
   else none
def keep_FilesLeast (a0 : (List Api_FileOp)) (a1 : Api_FileOp) : Option (Bool) :=
 (keep_alive22).bind fun r1 =>
 bif (!r1) then
  some false
 else
  bif (((a1.Kind : Int) != 1) && ((a1.Kind : Int) != 2)) then
   some true
  else
   (files_Play a0).bind fun r8 =>
   (slices_Clone_api_FileOp a0).bind fun r10 =>
   if ((r10).length + ([a1]).length) * 56 ≤ 140737488355328 ∧ (r10).length + ([a1]).length ≤ 140737488355328 then
   (files_Play (r10 ++ [a1])).bind fun r13 =>
   if ((!((((r13.1.length : Nat) : Int) : Int) != (IntKind.i64.wrap (((a0.length : Nat) : Int) + 1)))) = true → (0 ≤ (((a0.length : Nat) : Int) : Int) ∧ ((a0.length : Nat) : Int) < ((r13.1.length : Nat) : Int))) then
   bif (((((r13.1.length : Nat) : Int) : Int) != (IntKind.i64.wrap (((a0.length : Nat) : Int) + 1))) || (((r13.1.getD (0 + a0.length) (⟨0, 0⟩ : Api_FileAns)).Err : Int) != 0)) then
    if ((((((r13.1.length : Nat) : Int) : Int) == (IntKind.i64.wrap (((a0.length : Nat) : Int) + 1))) && ((((((r8.2 0) 0) : Int) == ((r13.2 0) 0)) && (((((r8.2 0) 1) : Int) == ((r13.2 0) 1)) && (((((r8.2 0) 2) : Int) == ((r13.2 0) 2)) && (((((r8.2 0) 3) : Int) == ((r13.2 0) 3)) && (((((r8.2 0) 4) : Int) == ((r13.2 0) 4)) && (((((r8.2 0) 5) : Int) == ((r13.2 0) 5)) && (((((r8.2 0) 6) : Int) == ((r13.2 0) 6)) && (((((r8.2 0) 7) : Int) == ((r13.2 0) 7)) && (((((r8.2 0) 8) : Int) == ((r13.2 0) 8)) && (((((r8.2 0) 9) : Int) == ((r13.2 0) 9)) && (((((r8.2 0) 10) : Int) == ((r13.2 0) 10)) && (((((r8.2 0) 11) : Int) == ((r13.2 0) 11)) && (((((r8.2 0) 12) : Int) == ((r13.2 0) 12)) && (((((r8.2 0) 13) : Int) == ((r13.2 0) 13)) && (((((r8.2 0) 14) : Int) == ((r13.2 0) 14)) && (((((r8.2 0) 15) : Int) == ((r13.2 0) 15)) && true)))))))))))))))) && ((((((r8.2 1) 0) : Int) == ((r13.2 1) 0)) && (((((r8.2 1) 1) : Int) == ((r13.2 1) 1)) && (((((r8.2 1) 2) : Int) == ((r13.2 1) 2)) && (((((r8.2 1) 3) : Int) == ((r13.2 1) 3)) && (((((r8.2 1) 4) : Int) == ((r13.2 1) 4)) && (((((r8.2 1) 5) : Int) == ((r13.2 1) 5)) && (((((r8.2 1) 6) : Int) == ((r13.2 1) 6)) && (((((r8.2 1) 7) : Int) == ((r13.2 1) 7)) && (((((r8.2 1) 8) : Int) == ((r13.2 1) 8)) && (((((r8.2 1) 9) : Int) == ((r13.2 1) 9)) && (((((r8.2 1) 10) : Int) == ((r13.2 1) 10)) && (((((r8.2 1) 11) : Int) == ((r13.2 1) 11)) && (((((r8.2 1) 12) : Int) == ((r13.2 1) 12)) && (((((r8.2 1) 13) : Int) == ((r13.2 1) 13)) && (((((r8.2 1) 14) : Int) == ((r13.2 1) 14)) && (((((r8.2 1) 15) : Int) == ((r13.2 1) 15)) && true)))))))))))))))) && ((((((r8.2 2) 0) : Int) == ((r13.2 2) 0)) && (((((r8.2 2) 1) : Int) == ((r13.2 2) 1)) && (((((r8.2 2) 2) : Int) == ((r13.2 2) 2)) && (((((r8.2 2) 3) : Int) == ((r13.2 2) 3)) && (((((r8.2 2) 4) : Int) == ((r13.2 2) 4)) && (((((r8.2 2) 5) : Int) == ((r13.2 2) 5)) && (((((r8.2 2) 6) : Int) == ((r13.2 2) 6)) && (((((r8.2 2) 7) : Int) == ((r13.2 2) 7)) && (((((r8.2 2) 8) : Int) == ((r13.2 2) 8)) && (((((r8.2 2) 9) : Int) == ((r13.2 2) 9)) && (((((r8.2 2) 10) : Int) == ((r13.2 2) 10)) && (((((r8.2 2) 11) : Int) == ((r13.2 2) 11)) && (((((r8.2 2) 12) : Int) == ((r13.2 2) 12)) && (((((r8.2 2) 13) : Int) == ((r13.2 2) 13)) && (((((r8.2 2) 14) : Int) == ((r13.2 2) 14)) && (((((r8.2 2) 15) : Int) == ((r13.2 2) 15)) && true)))))))))))))))) && ((((((r8.2 3) 0) : Int) == ((r13.2 3) 0)) && (((((r8.2 3) 1) : Int) == ((r13.2 3) 1)) && (((((r8.2 3) 2) : Int) == ((r13.2 3) 2)) && (((((r8.2 3) 3) : Int) == ((r13.2 3) 3)) && (((((r8.2 3) 4) : Int) == ((r13.2 3) 4)) && (((((r8.2 3) 5) : Int) == ((r13.2 3) 5)) && (((((r8.2 3) 6) : Int) == ((r13.2 3) 6)) && (((((r8.2 3) 7) : Int) == ((r13.2 3) 7)) && (((((r8.2 3) 8) : Int) == ((r13.2 3) 8)) && (((((r8.2 3) 9) : Int) == ((r13.2 3) 9)) && (((((r8.2 3) 10) : Int) == ((r13.2 3) 10)) && (((((r8.2 3) 11) : Int) == ((r13.2 3) 11)) && (((((r8.2 3) 12) : Int) == ((r13.2 3) 12)) && (((((r8.2 3) 13) : Int) == ((r13.2 3) 13)) && (((((r8.2 3) 14) : Int) == ((r13.2 3) 14)) && (((((r8.2 3) 15) : Int) == ((r13.2 3) 15)) && true)))))))))))))))) && true))))) = true → (0 ≤ (((a0.length : Nat) : Int) : Int) ∧ ((a0.length : Nat) : Int) < ((r13.1.length : Nat) : Int))) then
    some ((((((r13.1.length : Nat) : Int) : Int) == (IntKind.i64.wrap (((a0.length : Nat) : Int) + 1))) && ((((((r8.2 0) 0) : Int) == ((r13.2 0) 0)) && (((((r8.2 0) 1) : Int) == ((r13.2 0) 1)) && (((((r8.2 0) 2) : Int) == ((r13.2 0) 2)) && (((((r8.2 0) 3) : Int) == ((r13.2 0) 3)) && (((((r8.2 0) 4) : Int) == ((r13.2 0) 4)) && (((((r8.2 0) 5) : Int) == ((r13.2 0) 5)) && (((((r8.2 0) 6) : Int) == ((r13.2 0) 6)) && (((((r8.2 0) 7) : Int) == ((r13.2 0) 7)) && (((((r8.2 0) 8) : Int) == ((r13.2 0) 8)) && (((((r8.2 0) 9) : Int) == ((r13.2 0) 9)) && (((((r8.2 0) 10) : Int) == ((r13.2 0) 10)) && (((((r8.2 0) 11) : Int) == ((r13.2 0) 11)) && (((((r8.2 0) 12) : Int) == ((r13.2 0) 12)) && (((((r8.2 0) 13) : Int) == ((r13.2 0) 13)) && (((((r8.2 0) 14) : Int) == ((r13.2 0) 14)) && (((((r8.2 0) 15) : Int) == ((r13.2 0) 15)) && true)))))))))))))))) && ((((((r8.2 1) 0) : Int) == ((r13.2 1) 0)) && (((((r8.2 1) 1) : Int) == ((r13.2 1) 1)) && (((((r8.2 1) 2) : Int) == ((r13.2 1) 2)) && (((((r8.2 1) 3) : Int) == ((r13.2 1) 3)) && (((((r8.2 1) 4) : Int) == ((r13.2 1) 4)) && (((((r8.2 1) 5) : Int) == ((r13.2 1) 5)) && (((((r8.2 1) 6) : Int) == ((r13.2 1) 6)) && (((((r8.2 1) 7) : Int) == ((r13.2 1) 7)) && (((((r8.2 1) 8) : Int) == ((r13.2 1) 8)) && (((((r8.2 1) 9) : Int) == ((r13.2 1) 9)) && (((((r8.2 1) 10) : Int) == ((r13.2 1) 10)) && (((((r8.2 1) 11) : Int) == ((r13.2 1) 11)) && (((((r8.2 1) 12) : Int) == ((r13.2 1) 12)) && (((((r8.2 1) 13) : Int) == ((r13.2 1) 13)) && (((((r8.2 1) 14) : Int) == ((r13.2 1) 14)) && (((((r8.2 1) 15) : Int) == ((r13.2 1) 15)) && true)))))))))))))))) && ((((((r8.2 2) 0) : Int) == ((r13.2 2) 0)) && (((((r8.2 2) 1) : Int) == ((r13.2 2) 1)) && (((((r8.2 2) 2) : Int) == ((r13.2 2) 2)) && (((((r8.2 2) 3) : Int) == ((r13.2 2) 3)) && (((((r8.2 2) 4) : Int) == ((r13.2 2) 4)) && (((((r8.2 2) 5) : Int) == ((r13.2 2) 5)) && (((((r8.2 2) 6) : Int) == ((r13.2 2) 6)) && (((((r8.2 2) 7) : Int) == ((r13.2 2) 7)) && (((((r8.2 2) 8) : Int) == ((r13.2 2) 8)) && (((((r8.2 2) 9) : Int) == ((r13.2 2) 9)) && (((((r8.2 2) 10) : Int) == ((r13.2 2) 10)) && (((((r8.2 2) 11) : Int) == ((r13.2 2) 11)) && (((((r8.2 2) 12) : Int) == ((r13.2 2) 12)) && (((((r8.2 2) 13) : Int) == ((r13.2 2) 13)) && (((((r8.2 2) 14) : Int) == ((r13.2 2) 14)) && (((((r8.2 2) 15) : Int) == ((r13.2 2) 15)) && true)))))))))))))))) && ((((((r8.2 3) 0) : Int) == ((r13.2 3) 0)) && (((((r8.2 3) 1) : Int) == ((r13.2 3) 1)) && (((((r8.2 3) 2) : Int) == ((r13.2 3) 2)) && (((((r8.2 3) 3) : Int) == ((r13.2 3) 3)) && (((((r8.2 3) 4) : Int) == ((r13.2 3) 4)) && (((((r8.2 3) 5) : Int) == ((r13.2 3) 5)) && (((((r8.2 3) 6) : Int) == ((r13.2 3) 6)) && (((((r8.2 3) 7) : Int) == ((r13.2 3) 7)) && (((((r8.2 3) 8) : Int) == ((r13.2 3) 8)) && (((((r8.2 3) 9) : Int) == ((r13.2 3) 9)) && (((((r8.2 3) 10) : Int) == ((r13.2 3) 10)) && (((((r8.2 3) 11) : Int) == ((r13.2 3) 11)) && (((((r8.2 3) 12) : Int) == ((r13.2 3) 12)) && (((((r8.2 3) 13) : Int) == ((r13.2 3) 13)) && (((((r8.2 3) 14) : Int) == ((r13.2 3) 14)) && (((((r8.2 3) 15) : Int) == ((r13.2 3) 15)) && true)))))))))))))))) && true))))) && (((r13.1.getD (0 + a0.length) (⟨0, 0⟩ : Api_FileAns)).Value : Int) == 0))
    else none
   else
    if ((!((decide ((a1.Proc : Int) < 0)) || (decide ((a1.Proc : Int) ≥ 4)))) = true → (0 ≤ (((a0.length : Nat) : Int) : Int) ∧ ((a0.length : Nat) : Int) < ((r13.1.length : Nat) : Int))) then
    if ((!(((decide ((a1.Proc : Int) < 0)) || (decide ((a1.Proc : Int) ≥ 4))) || (decide (((r13.1.getD (0 + a0.length) (⟨0, 0⟩ : Api_FileAns)).Value : Int) < 0)))) = true → (0 ≤ (((a0.length : Nat) : Int) : Int) ∧ ((a0.length : Nat) : Int) < ((r13.1.length : Nat) : Int))) then
    bif ((((decide ((a1.Proc : Int) < 0)) || (decide ((a1.Proc : Int) ≥ 4))) || (decide (((r13.1.getD (0 + a0.length) (⟨0, 0⟩ : Api_FileAns)).Value : Int) < 0))) || (decide (((r13.1.getD (0 + a0.length) (⟨0, 0⟩ : Api_FileAns)).Value : Int) ≥ 16))) then
     some false
    else
     if 0 ≤ (a1.Proc : Int) ∧ a1.Proc < ((4 : Nat) : Int) then
     keep_FilesLeast_l1 a0 a1 r8 r13 FUEL 0
     else none
    else none
    else none
   else none
   else none
def keep_FilesShared_1 (a0 : Int) (a1 : Int) (a2 : Int) : Option (Api_FileOp) :=
 some (⟨5, a2, 0, 0, a0, 0, a1⟩ : Api_FileOp)
def keep_FilesShared (a0 : (List Api_FileOp)) (a1 : Int) (a2 : Int) (a3 : Int) (a4 : Int) : Option (Bool) :=
 (keep_alive22).bind fun r1 =>
 bif (!r1) then
  some false
 else
  (slices_Clone_api_FileOp a0).bind fun r4 =>
  (keep_FilesShared_1 a2 a3 a1).bind fun r6 =>
  if ((r4).length + ([(⟨2, a1, 0, 0, a2, 0, 0⟩ : Api_FileOp), r6]).length) * 56 ≤ 140737488355328 ∧ (r4).length + ([(⟨2, a1, 0, 0, a2, 0, 0⟩ : Api_FileOp), r6]).length ≤ 140737488355328 then
  (files_Play (r4 ++ [(⟨2, a1, 0, 0, a2, 0, 0⟩ : Api_FileOp), r6])).bind fun r9 =>
  if ((!((((r9.1.length : Nat) : Int) : Int) != (IntKind.i64.wrap (((a0.length : Nat) : Int) + 2)))) = true → (0 ≤ (((a0.length : Nat) : Int) : Int) ∧ ((a0.length : Nat) : Int) < ((r9.1.length : Nat) : Int))) then
  if ((!(((((r9.1.length : Nat) : Int) : Int) != (IntKind.i64.wrap (((a0.length : Nat) : Int) + 2))) || (((r9.1.getD (0 + a0.length) (⟨0, 0⟩ : Api_FileAns)).Err : Int) != 0))) = true → (0 ≤ ((IntKind.i64.wrap (((a0.length : Nat) : Int) + 1)) : Int) ∧ (IntKind.i64.wrap (((a0.length : Nat) : Int) + 1)) < ((r9.1.length : Nat) : Int))) then
  bif (((((((((r9.1.length : Nat) : Int) : Int) != (IntKind.i64.wrap (((a0.length : Nat) : Int) + 2))) || (((r9.1.getD (0 + a0.length) (⟨0, 0⟩ : Api_FileAns)).Err : Int) != 0)) || (((r9.1.getD (0 + (Int.toNat (IntKind.i64.wrap (((a0.length : Nat) : Int) + 1)))) (⟨0, 0⟩ : Api_FileAns)).Err : Int) != 0)) || (decide ((a4 : Int) < 1))) || (decide ((a3 : Int) > 1125899906842624))) || (decide ((a4 : Int) > 1125899906842624))) then
   some ((((r9.1.length : Nat) : Int) : Int) == (IntKind.i64.wrap (((a0.length : Nat) : Int) + 2)))
  else
   (slices_Clone_api_FileOp a0).bind fun r31 =>
   (keep_FilesShared_1 a2 a3 a1).bind fun r33 =>
   if 0 ≤ (((a0.length : Nat) : Int) : Int) ∧ ((a0.length : Nat) : Int) < ((r9.1.length : Nat) : Int) then
   (keep_FilesShared_1 ((r9.1.getD (0 + a0.length) (⟨0, 0⟩ : Api_FileAns)).Value) a4 a1).bind fun r36 =>
   if ((r31).length + ([(⟨2, a1, 0, 0, a2, 0, 0⟩ : Api_FileOp), r33, r36]).length) * 56 ≤ 140737488355328 ∧ (r31).length + ([(⟨2, a1, 0, 0, a2, 0, 0⟩ : Api_FileOp), r33, r36]).length ≤ 140737488355328 then
   (files_Play (r31 ++ [(⟨2, a1, 0, 0, a2, 0, 0⟩ : Api_FileOp), r33, r36])).bind fun r39 =>
   (slices_Clone_api_FileOp a0).bind fun r41 =>
   (keep_FilesShared_1 a2 (IntKind.i64.wrap (a3 + a4)) a1).bind fun r43 =>
   if ((r41).length + ([r43]).length) * 56 ≤ 140737488355328 ∧ (r41).length + ([r43]).length ≤ 140737488355328 then
   (files_Play (r41 ++ [r43])).bind fun r46 =>
   if ((((((r39.1.length : Nat) : Int) : Int) == (IntKind.i64.wrap (((a0.length : Nat) : Int) + 3))) && ((((r46.1.length : Nat) : Int) : Int) == (IntKind.i64.wrap (((a0.length : Nat) : Int) + 1)))) = true → (0 ≤ ((IntKind.i64.wrap (((a0.length : Nat) : Int) + 1)) : Int) ∧ (IntKind.i64.wrap (((a0.length : Nat) : Int) + 1)) < ((r39.1.length : Nat) : Int))) then
   if ((((((r39.1.length : Nat) : Int) : Int) == (IntKind.i64.wrap (((a0.length : Nat) : Int) + 3))) && ((((r46.1.length : Nat) : Int) : Int) == (IntKind.i64.wrap (((a0.length : Nat) : Int) + 1)))) = true → (0 ≤ ((IntKind.i64.wrap (((a0.length : Nat) : Int) + 2)) : Int) ∧ (IntKind.i64.wrap (((a0.length : Nat) : Int) + 2)) < ((r39.1.length : Nat) : Int))) then
   if ((((((r39.1.length : Nat) : Int) : Int) == (IntKind.i64.wrap (((a0.length : Nat) : Int) + 3))) && ((((r46.1.length : Nat) : Int) : Int) == (IntKind.i64.wrap (((a0.length : Nat) : Int) + 1)))) = true → (0 ≤ (((a0.length : Nat) : Int) : Int) ∧ ((a0.length : Nat) : Int) < ((r46.1.length : Nat) : Int))) then
   some ((((((r39.1.length : Nat) : Int) : Int) == (IntKind.i64.wrap (((a0.length : Nat) : Int) + 3))) && ((((r46.1.length : Nat) : Int) : Int) == (IntKind.i64.wrap (((a0.length : Nat) : Int) + 1)))) && (((IntKind.i64.wrap (((r39.1.getD (0 + (Int.toNat (IntKind.i64.wrap (((a0.length : Nat) : Int) + 1)))) (⟨0, 0⟩ : Api_FileAns)).Value) + ((r39.1.getD (0 + (Int.toNat (IntKind.i64.wrap (((a0.length : Nat) : Int) + 2)))) (⟨0, 0⟩ : Api_FileAns)).Value))) : Int) == ((r46.1.getD (0 + a0.length) (⟨0, 0⟩ : Api_FileAns)).Value)))
   else none
   else none
   else none
   else none
   else none
   else none
  else none
  else none
  else none
def keep_FilesClosed (a0 : (List Api_FileOp)) (a1 : Int) (a2 : Int) : Option (Bool) :=
 (keep_alive22).bind fun r1 =>
 bif (!r1) then
  some false
 else
  (files_Play a0).bind fun r4 =>
  (slices_Clone_api_FileOp a0).bind fun r6 =>
  if ((r6).length + ([(⟨4, a1, 0, 0, a2, 0, 0⟩ : Api_FileOp), (⟨4, a1, 0, 0, a2, 0, 0⟩ : Api_FileOp)]).length) * 56 ≤ 140737488355328 ∧ (r6).length + ([(⟨4, a1, 0, 0, a2, 0, 0⟩ : Api_FileOp), (⟨4, a1, 0, 0, a2, 0, 0⟩ : Api_FileOp)]).length ≤ 140737488355328 then
  (files_Play (r6 ++ [(⟨4, a1, 0, 0, a2, 0, 0⟩ : Api_FileOp), (⟨4, a1, 0, 0, a2, 0, 0⟩ : Api_FileOp)])).bind fun r9 =>
  if ((!((((r9.1.length : Nat) : Int) : Int) != (IntKind.i64.wrap (((a0.length : Nat) : Int) + 2)))) = true → (0 ≤ ((IntKind.i64.wrap (((a0.length : Nat) : Int) + 1)) : Int) ∧ (IntKind.i64.wrap (((a0.length : Nat) : Int) + 1)) < ((r9.1.length : Nat) : Int))) then
  bif (((((r9.1.length : Nat) : Int) : Int) != (IntKind.i64.wrap (((a0.length : Nat) : Int) + 2))) || (((r9.1.getD (0 + (Int.toNat (IntKind.i64.wrap (((a0.length : Nat) : Int) + 1)))) (⟨0, 0⟩ : Api_FileAns)).Err : Int) == 0)) then
   some false
  else
   if 0 ≤ (((a0.length : Nat) : Int) : Int) ∧ ((a0.length : Nat) : Int) < ((r9.1.length : Nat) : Int) then
   bif (((r9.1.getD (0 + a0.length) (⟨0, 0⟩ : Api_FileAns)).Err : Int) != 0) then
    some ((((((r4.2 0) 0) : Int) == ((r9.2 0) 0)) && (((((r4.2 0) 1) : Int) == ((r9.2 0) 1)) && (((((r4.2 0) 2) : Int) == ((r9.2 0) 2)) && (((((r4.2 0) 3) : Int) == ((r9.2 0) 3)) && (((((r4.2 0) 4) : Int) == ((r9.2 0) 4)) && (((((r4.2 0) 5) : Int) == ((r9.2 0) 5)) && (((((r4.2 0) 6) : Int) == ((r9.2 0) 6)) && (((((r4.2 0) 7) : Int) == ((r9.2 0) 7)) && (((((r4.2 0) 8) : Int) == ((r9.2 0) 8)) && (((((r4.2 0) 9) : Int) == ((r9.2 0) 9)) && (((((r4.2 0) 10) : Int) == ((r9.2 0) 10)) && (((((r4.2 0) 11) : Int) == ((r9.2 0) 11)) && (((((r4.2 0) 12) : Int) == ((r9.2 0) 12)) && (((((r4.2 0) 13) : Int) == ((r9.2 0) 13)) && (((((r4.2 0) 14) : Int) == ((r9.2 0) 14)) && (((((r4.2 0) 15) : Int) == ((r9.2 0) 15)) && true)))))))))))))))) && ((((((r4.2 1) 0) : Int) == ((r9.2 1) 0)) && (((((r4.2 1) 1) : Int) == ((r9.2 1) 1)) && (((((r4.2 1) 2) : Int) == ((r9.2 1) 2)) && (((((r4.2 1) 3) : Int) == ((r9.2 1) 3)) && (((((r4.2 1) 4) : Int) == ((r9.2 1) 4)) && (((((r4.2 1) 5) : Int) == ((r9.2 1) 5)) && (((((r4.2 1) 6) : Int) == ((r9.2 1) 6)) && (((((r4.2 1) 7) : Int) == ((r9.2 1) 7)) && (((((r4.2 1) 8) : Int) == ((r9.2 1) 8)) && (((((r4.2 1) 9) : Int) == ((r9.2 1) 9)) && (((((r4.2 1) 10) : Int) == ((r9.2 1) 10)) && (((((r4.2 1) 11) : Int) == ((r9.2 1) 11)) && (((((r4.2 1) 12) : Int) == ((r9.2 1) 12)) && (((((r4.2 1) 13) : Int) == ((r9.2 1) 13)) && (((((r4.2 1) 14) : Int) == ((r9.2 1) 14)) && (((((r4.2 1) 15) : Int) == ((r9.2 1) 15)) && true)))))))))))))))) && ((((((r4.2 2) 0) : Int) == ((r9.2 2) 0)) && (((((r4.2 2) 1) : Int) == ((r9.2 2) 1)) && (((((r4.2 2) 2) : Int) == ((r9.2 2) 2)) && (((((r4.2 2) 3) : Int) == ((r9.2 2) 3)) && (((((r4.2 2) 4) : Int) == ((r9.2 2) 4)) && (((((r4.2 2) 5) : Int) == ((r9.2 2) 5)) && (((((r4.2 2) 6) : Int) == ((r9.2 2) 6)) && (((((r4.2 2) 7) : Int) == ((r9.2 2) 7)) && (((((r4.2 2) 8) : Int) == ((r9.2 2) 8)) && (((((r4.2 2) 9) : Int) == ((r9.2 2) 9)) && (((((r4.2 2) 10) : Int) == ((r9.2 2) 10)) && (((((r4.2 2) 11) : Int) == ((r9.2 2) 11)) && (((((r4.2 2) 12) : Int) == ((r9.2 2) 12)) && (((((r4.2 2) 13) : Int) == ((r9.2 2) 13)) && (((((r4.2 2) 14) : Int) == ((r9.2 2) 14)) && (((((r4.2 2) 15) : Int) == ((r9.2 2) 15)) && true)))))))))))))))) && ((((((r4.2 3) 0) : Int) == ((r9.2 3) 0)) && (((((r4.2 3) 1) : Int) == ((r9.2 3) 1)) && (((((r4.2 3) 2) : Int) == ((r9.2 3) 2)) && (((((r4.2 3) 3) : Int) == ((r9.2 3) 3)) && (((((r4.2 3) 4) : Int) == ((r9.2 3) 4)) && (((((r4.2 3) 5) : Int) == ((r9.2 3) 5)) && (((((r4.2 3) 6) : Int) == ((r9.2 3) 6)) && (((((r4.2 3) 7) : Int) == ((r9.2 3) 7)) && (((((r4.2 3) 8) : Int) == ((r9.2 3) 8)) && (((((r4.2 3) 9) : Int) == ((r9.2 3) 9)) && (((((r4.2 3) 10) : Int) == ((r9.2 3) 10)) && (((((r4.2 3) 11) : Int) == ((r9.2 3) 11)) && (((((r4.2 3) 12) : Int) == ((r9.2 3) 12)) && (((((r4.2 3) 13) : Int) == ((r9.2 3) 13)) && (((((r4.2 3) 14) : Int) == ((r9.2 3) 14)) && (((((r4.2 3) 15) : Int) == ((r9.2 3) 15)) && true)))))))))))))))) && true))))
   else
    if ((!((((decide ((a1 : Int) < 0)) || (decide ((a1 : Int) ≥ 4))) || (decide ((a2 : Int) < 0))) || (decide ((a2 : Int) ≥ 16)))) = true → (0 ≤ (((a0.length : Nat) : Int) : Int) ∧ ((a0.length : Nat) : Int) < ((r9.1.length : Nat) : Int))) then
    bif (((((decide ((a1 : Int) < 0)) || (decide ((a1 : Int) ≥ 4))) || (decide ((a2 : Int) < 0))) || (decide ((a2 : Int) ≥ 16))) || (decide (((r9.1.getD (0 + a0.length) (⟨0, 0⟩ : Api_FileAns)).Value : Int) < 0))) then
     some false
    else
     if 0 ≤ (a1 : Int) ∧ a1 < ((4 : Nat) : Int) then
     if 0 ≤ (a2 : Int) ∧ a2 < ((16 : Nat) : Int) then
     some (((((((upd r4.2 (Int.toNat a1) (upd (r4.2 (Int.toNat a1)) (Int.toNat a2) (-1))) 0) 0) : Int) == ((r9.2 0) 0)) && ((((((upd r4.2 (Int.toNat a1) (upd (r4.2 (Int.toNat a1)) (Int.toNat a2) (-1))) 0) 1) : Int) == ((r9.2 0) 1)) && ((((((upd r4.2 (Int.toNat a1) (upd (r4.2 (Int.toNat a1)) (Int.toNat a2) (-1))) 0) 2) : Int) == ((r9.2 0) 2)) && ((((((upd r4.2 (Int.toNat a1) (upd (r4.2 (Int.toNat a1)) (Int.toNat a2) (-1))) 0) 3) : Int) == ((r9.2 0) 3)) && ((((((upd r4.2 (Int.toNat a1) (upd (r4.2 (Int.toNat a1)) (Int.toNat a2) (-1))) 0) 4) : Int) == ((r9.2 0) 4)) && ((((((upd r4.2 (Int.toNat a1) (upd (r4.2 (Int.toNat a1)) (Int.toNat a2) (-1))) 0) 5) : Int) == ((r9.2 0) 5)) && ((((((upd r4.2 (Int.toNat a1) (upd (r4.2 (Int.toNat a1)) (Int.toNat a2) (-1))) 0) 6) : Int) == ((r9.2 0) 6)) && ((((((upd r4.2 (Int.toNat a1) (upd (r4.2 (Int.toNat a1)) (Int.toNat a2) (-1))) 0) 7) : Int) == ((r9.2 0) 7)) && ((((((upd r4.2 (Int.toNat a1) (upd (r4.2 (Int.toNat a1)) (Int.toNat a2) (-1))) 0) 8) : Int) == ((r9.2 0) 8)) && ((((((upd r4.2 (Int.toNat a1) (upd (r4.2 (Int.toNat a1)) (Int.toNat a2) (-1))) 0) 9) : Int) == ((r9.2 0) 9)) && ((((((upd r4.2 (Int.toNat a1) (upd (r4.2 (Int.toNat a1)) (Int.toNat a2) (-1))) 0) 10) : Int) == ((r9.2 0) 10)) && ((((((upd r4.2 (Int.toNat a1) (upd (r4.2 (Int.toNat a1)) (Int.toNat a2) (-1))) 0) 11) : Int) == ((r9.2 0) 11)) && ((((((upd r4.2 (Int.toNat a1) (upd (r4.2 (Int.toNat a1)) (Int.toNat a2) (-1))) 0) 12) : Int) == ((r9.2 0) 12)) && ((((((upd r4.2 (Int.toNat a1) (upd (r4.2 (Int.toNat a1)) (Int.toNat a2) (-1))) 0) 13) : Int) == ((r9.2 0) 13)) && ((((((upd r4.2 (Int.toNat a1) (upd (r4.2 (Int.toNat a1)) (Int.toNat a2) (-1))) 0) 14) : Int) == ((r9.2 0) 14)) && ((((((upd r4.2 (Int.toNat a1) (upd (r4.2 (Int.toNat a1)) (Int.toNat a2) (-1))) 0) 15) : Int) == ((r9.2 0) 15)) && true)))))))))))))))) && (((((((upd r4.2 (Int.toNat a1) (upd (r4.2 (Int.toNat a1)) (Int.toNat a2) (-1))) 1) 0) : Int) == ((r9.2 1) 0)) && ((((((upd r4.2 (Int.toNat a1) (upd (r4.2 (Int.toNat a1)) (Int.toNat a2) (-1))) 1) 1) : Int) == ((r9.2 1) 1)) && ((((((upd r4.2 (Int.toNat a1) (upd (r4.2 (Int.toNat a1)) (Int.toNat a2) (-1))) 1) 2) : Int) == ((r9.2 1) 2)) && ((((((upd r4.2 (Int.toNat a1) (upd (r4.2 (Int.toNat a1)) (Int.toNat a2) (-1))) 1) 3) : Int) == ((r9.2 1) 3)) && ((((((upd r4.2 (Int.toNat a1) (upd (r4.2 (Int.toNat a1)) (Int.toNat a2) (-1))) 1) 4) : Int) == ((r9.2 1) 4)) && ((((((upd r4.2 (Int.toNat a1) (upd (r4.2 (Int.toNat a1)) (Int.toNat a2) (-1))) 1) 5) : Int) == ((r9.2 1) 5)) && ((((((upd r4.2 (Int.toNat a1) (upd (r4.2 (Int.toNat a1)) (Int.toNat a2) (-1))) 1) 6) : Int) == ((r9.2 1) 6)) && ((((((upd r4.2 (Int.toNat a1) (upd (r4.2 (Int.toNat a1)) (Int.toNat a2) (-1))) 1) 7) : Int) == ((r9.2 1) 7)) && ((((((upd r4.2 (Int.toNat a1) (upd (r4.2 (Int.toNat a1)) (Int.toNat a2) (-1))) 1) 8) : Int) == ((r9.2 1) 8)) && ((((((upd r4.2 (Int.toNat a1) (upd (r4.2 (Int.toNat a1)) (Int.toNat a2) (-1))) 1) 9) : Int) == ((r9.2 1) 9)) && ((((((upd r4.2 (Int.toNat a1) (upd (r4.2 (Int.toNat a1)) (Int.toNat a2) (-1))) 1) 10) : Int) == ((r9.2 1) 10)) && ((((((upd r4.2 (Int.toNat a1) (upd (r4.2 (Int.toNat a1)) (Int.toNat a2) (-1))) 1) 11) : Int) == ((r9.2 1) 11)) && ((((((upd r4.2 (Int.toNat a1) (upd (r4.2 (Int.toNat a1)) (Int.toNat a2) (-1))) 1) 12) : Int) == ((r9.2 1) 12)) && ((((((upd r4.2 (Int.toNat a1) (upd (r4.2 (Int.toNat a1)) (Int.toNat a2) (-1))) 1) 13) : Int) == ((r9.2 1) 13)) && ((((((upd r4.2 (Int.toNat a1) (upd (r4.2 (Int.toNat a1)) (Int.toNat a2) (-1))) 1) 14) : Int) == ((r9.2 1) 14)) && ((((((upd r4.2 (Int.toNat a1) (upd (r4.2 (Int.toNat a1)) (Int.toNat a2) (-1))) 1) 15) : Int) == ((r9.2 1) 15)) && true)))))))))))))))) && (((((((upd r4.2 (Int.toNat a1) (upd (r4.2 (Int.toNat a1)) (Int.toNat a2) (-1))) 2) 0) : Int) == ((r9.2 2) 0)) && ((((((upd r4.2 (Int.toNat a1) (upd (r4.2 (Int.toNat a1)) (Int.toNat a2) (-1))) 2) 1) : Int) == ((r9.2 2) 1)) && ((((((upd r4.2 (Int.toNat a1) (upd (r4.2 (Int.toNat a1)) (Int.toNat a2) (-1))) 2) 2) : Int) == ((r9.2 2) 2)) && ((((((upd r4.2 (Int.toNat a1) (upd (r4.2 (Int.toNat a1)) (Int.toNat a2) (-1))) 2) 3) : Int) == ((r9.2 2) 3)) && ((((((upd r4.2 (Int.toNat a1) (upd (r4.2 (Int.toNat a1)) (Int.toNat a2) (-1))) 2) 4) : Int) == ((r9.2 2) 4)) && ((((((upd r4.2 (Int.toNat a1) (upd (r4.2 (Int.toNat a1)) (Int.toNat a2) (-1))) 2) 5) : Int) == ((r9.2 2) 5)) && ((((((upd r4.2 (Int.toNat a1) (upd (r4.2 (Int.toNat a1)) (Int.toNat a2) (-1))) 2) 6) : Int) == ((r9.2 2) 6)) && ((((((upd r4.2 (Int.toNat a1) (upd (r4.2 (Int.toNat a1)) (Int.toNat a2) (-1))) 2) 7) : Int) == ((r9.2 2) 7)) && ((((((upd r4.2 (Int.toNat a1) (upd (r4.2 (Int.toNat a1)) (Int.toNat a2) (-1))) 2) 8) : Int) == ((r9.2 2) 8)) && ((((((upd r4.2 (Int.toNat a1) (upd (r4.2 (Int.toNat a1)) (Int.toNat a2) (-1))) 2) 9) : Int) == ((r9.2 2) 9)) && ((((((upd r4.2 (Int.toNat a1) (upd (r4.2 (Int.toNat a1)) (Int.toNat a2) (-1))) 2) 10) : Int) == ((r9.2 2) 10)) && ((((((upd r4.2 (Int.toNat a1) (upd (r4.2 (Int.toNat a1)) (Int.toNat a2) (-1))) 2) 11) : Int) == ((r9.2 2) 11)) && ((((((upd r4.2 (Int.toNat a1) (upd (r4.2 (Int.toNat a1)) (Int.toNat a2) (-1))) 2) 12) : Int) == ((r9.2 2) 12)) && ((((((upd r4.2 (Int.toNat a1) (upd (r4.2 (Int.toNat a1)) (Int.toNat a2) (-1))) 2) 13) : Int) == ((r9.2 2) 13)) && ((((((upd r4.2 (Int.toNat a1) (upd (r4.2 (Int.toNat a1)) (Int.toNat a2) (-1))) 2) 14) : Int) == ((r9.2 2) 14)) && ((((((upd r4.2 (Int.toNat a1) (upd (r4.2 (Int.toNat a1)) (Int.toNat a2) (-1))) 2) 15) : Int) == ((r9.2 2) 15)) && true)))))))))))))))) && (((((((upd r4.2 (Int.toNat a1) (upd (r4.2 (Int.toNat a1)) (Int.toNat a2) (-1))) 3) 0) : Int) == ((r9.2 3) 0)) && ((((((upd r4.2 (Int.toNat a1) (upd (r4.2 (Int.toNat a1)) (Int.toNat a2) (-1))) 3) 1) : Int) == ((r9.2 3) 1)) && ((((((upd r4.2 (Int.toNat a1) (upd (r4.2 (Int.toNat a1)) (Int.toNat a2) (-1))) 3) 2) : Int) == ((r9.2 3) 2)) && ((((((upd r4.2 (Int.toNat a1) (upd (r4.2 (Int.toNat a1)) (Int.toNat a2) (-1))) 3) 3) : Int) == ((r9.2 3) 3)) && ((((((upd r4.2 (Int.toNat a1) (upd (r4.2 (Int.toNat a1)) (Int.toNat a2) (-1))) 3) 4) : Int) == ((r9.2 3) 4)) && ((((((upd r4.2 (Int.toNat a1) (upd (r4.2 (Int.toNat a1)) (Int.toNat a2) (-1))) 3) 5) : Int) == ((r9.2 3) 5)) && ((((((upd r4.2 (Int.toNat a1) (upd (r4.2 (Int.toNat a1)) (Int.toNat a2) (-1))) 3) 6) : Int) == ((r9.2 3) 6)) && ((((((upd r4.2 (Int.toNat a1) (upd (r4.2 (Int.toNat a1)) (Int.toNat a2) (-1))) 3) 7) : Int) == ((r9.2 3) 7)) && ((((((upd r4.2 (Int.toNat a1) (upd (r4.2 (Int.toNat a1)) (Int.toNat a2) (-1))) 3) 8) : Int) == ((r9.2 3) 8)) && ((((((upd r4.2 (Int.toNat a1) (upd (r4.2 (Int.toNat a1)) (Int.toNat a2) (-1))) 3) 9) : Int) == ((r9.2 3) 9)) && ((((((upd r4.2 (Int.toNat a1) (upd (r4.2 (Int.toNat a1)) (Int.toNat a2) (-1))) 3) 10) : Int) == ((r9.2 3) 10)) && ((((((upd r4.2 (Int.toNat a1) (upd (r4.2 (Int.toNat a1)) (Int.toNat a2) (-1))) 3) 11) : Int) == ((r9.2 3) 11)) && ((((((upd r4.2 (Int.toNat a1) (upd (r4.2 (Int.toNat a1)) (Int.toNat a2) (-1))) 3) 12) : Int) == ((r9.2 3) 12)) && ((((((upd r4.2 (Int.toNat a1) (upd (r4.2 (Int.toNat a1)) (Int.toNat a2) (-1))) 3) 13) : Int) == ((r9.2 3) 13)) && ((((((upd r4.2 (Int.toNat a1) (upd (r4.2 (Int.toNat a1)) (Int.toNat a2) (-1))) 3) 14) : Int) == ((r9.2 3) 14)) && ((((((upd r4.2 (Int.toNat a1) (upd (r4.2 (Int.toNat a1)) (Int.toNat a2) (-1))) 3) 15) : Int) == ((r9.2 3) 15)) && true)))))))))))))))) && true))))
     else none
     else none
    else none
   else none
  else none
  else none
def keep_FilesCount_l4 (l28 : List Int) (l34 : List Api_FileOp) (r39 : ((List Api_FileAns) × (Nat → (Nat → Int)))) : Nat → Nat → Option (Bool)
 | 0, _ => none
 | n4 + 1, k47 =>
  bif (decide ((((k47 : Nat) : Int) : Int) < (((r39.1.length - (Int.toNat (IntKind.i64.wrap (((l34.length : Nat) : Int) - ((l28.length : Nat) : Int))))) : Nat) : Int))) then
   bif ((((r39.1.getD ((0 + (Int.toNat (IntKind.i64.wrap (((l34.length : Nat) : Int) - ((l28.length : Nat) : Int))))) + k47) (⟨0, 0⟩ : Api_FileAns)).Err : Int) != 0) || (((r39.1.getD ((0 + (Int.toNat (IntKind.i64.wrap (((l34.length : Nat) : Int) - ((l28.length : Nat) : Int))))) + k47) (⟨0, 0⟩ : Api_FileAns)).Value : Int) != (IntKind.i64.wrap ((IntKind.i64.wrap (((l28.length : Nat) : Int) - 1)) - ((k47 : Nat) : Int))))) then
    some false
   else
    keep_FilesCount_l4 l28 l34 r39 n4 (k47 + 1)
  else
   some true
def keep_FilesCount_l3 (a1 : Int) (l19 : List Api_FileOp) (l28 : List Int) : Nat → List Api_FileOp → Nat → Option (Bool)
 | 0, _, _ => none
 | n3 + 1, l34, k35 =>
  bif (decide ((((k35 : Nat) : Int) : Int) < ((l28.length : Nat) : Int))) then
   if ((l34).length + ([(⟨4, a1, 0, 0, (l28.getD (0 + k35) 0), 0, 0⟩ : Api_FileOp)]).length) * 56 ≤ 140737488355328 ∧ (l34).length + ([(⟨4, a1, 0, 0, (l28.getD (0 + k35) 0), 0, 0⟩ : Api_FileOp)]).length ≤ 140737488355328 then
   keep_FilesCount_l3 a1 l19 l28 n3 (l34 ++ [(⟨4, a1, 0, 0, (l28.getD (0 + k35) 0), 0, 0⟩ : Api_FileOp)]) (k35 + 1)
   else none
  else
   (files_Play l34).bind fun r39 =>
   bif (((((r39.1.length : Nat) : Int) : Int) != ((l34.length : Nat) : Int)) || ((((l28.length : Nat) : Int) : Int) == 0)) then
    some false
   else
    if 0 ≤ ((IntKind.i64.wrap (((l34.length : Nat) : Int) - ((l28.length : Nat) : Int))) : Int) then
    if (Int.toNat (IntKind.i64.wrap (((l34.length : Nat) : Int) - ((l28.length : Nat) : Int)))) ≤ r39.1.length then
    keep_FilesCount_l4 l28 l34 r39 FUEL 0
    else none
    else none
def keep_FilesCount_l2 (a0 : (List Api_FileOp)) (a1 : Int) (l19 : List Api_FileOp) (r24 : ((List Api_FileAns) × (Nat → (Nat → Int)))) : Nat → List Int → Nat → Option (Bool)
 | 0, _, _ => none
 | n2 + 1, l28, k29 =>
  bif (decide ((((k29 : Nat) : Int) : Int) < (((r24.1.length - (Int.toNat (if (((r24.1.length : Nat) : Int) : Int) < ((a0.length : Nat) : Int) then ((r24.1.length : Nat) : Int) else ((a0.length : Nat) : Int)))) : Nat) : Int))) then
   bif (((r24.1.getD ((0 + (Int.toNat (if (((r24.1.length : Nat) : Int) : Int) < ((a0.length : Nat) : Int) then ((r24.1.length : Nat) : Int) else ((a0.length : Nat) : Int)))) + k29) (⟨0, 0⟩ : Api_FileAns)).Err : Int) == 0) then
    if ((l28).length + ([(r24.1.getD ((0 + (Int.toNat (if (((r24.1.length : Nat) : Int) : Int) < ((a0.length : Nat) : Int) then ((r24.1.length : Nat) : Int) else ((a0.length : Nat) : Int)))) + k29) (⟨0, 0⟩ : Api_FileAns)).Value]).length) * 8 ≤ 140737488355328 ∧ (l28).length + ([(r24.1.getD ((0 + (Int.toNat (if (((r24.1.length : Nat) : Int) : Int) < ((a0.length : Nat) : Int) then ((r24.1.length : Nat) : Int) else ((a0.length : Nat) : Int)))) + k29) (⟨0, 0⟩ : Api_FileAns)).Value]).length ≤ 140737488355328 then
    keep_FilesCount_l2 a0 a1 l19 r24 n2 (l28 ++ [(r24.1.getD ((0 + (Int.toNat (if (((r24.1.length : Nat) : Int) : Int) < ((a0.length : Nat) : Int) then ((r24.1.length : Nat) : Int) else ((a0.length : Nat) : Int)))) + k29) (⟨0, 0⟩ : Api_FileAns)).Value]) (k29 + 1)
    else none
   else
    keep_FilesCount_l2 a0 a1 l19 r24 n2 l28 (k29 + 1)
  else
   keep_FilesCount_l3 a1 l19 l28 FUEL l19 0
def keep_FilesCount_l1 (a0 : (List Api_FileOp)) (a1 : Int) (a2 : Int) (r7 : (List Api_FileOp)) (r10 : ((List Api_FileAns) × (Nat → (Nat → Int)))) : Nat → List Api_FileOp → Int → Option (Bool)
 | 0, _, _ => none
 | n1 + 1, l19, x20 =>
  bif (decide ((x20 : Int) < a2)) then
   if 0 ≤ (((a0.length : Nat) : Int) : Int) ∧ ((a0.length : Nat) : Int) < ((r10.1.length : Nat) : Int) then
   if ((l19).length + ([(⟨2, a1, 0, 0, (r10.1.getD (0 + a0.length) (⟨0, 0⟩ : Api_FileAns)).Value, 0, 0⟩ : Api_FileOp)]).length) * 56 ≤ 140737488355328 ∧ (l19).length + ([(⟨2, a1, 0, 0, (r10.1.getD (0 + a0.length) (⟨0, 0⟩ : Api_FileAns)).Value, 0, 0⟩ : Api_FileOp)]).length ≤ 140737488355328 then
   keep_FilesCount_l1 a0 a1 a2 r7 r10 n1 (l19 ++ [(⟨2, a1, 0, 0, (r10.1.getD (0 + a0.length) (⟨0, 0⟩ : Api_FileAns)).Value, 0, 0⟩ : Api_FileOp)]) (IntKind.i64.wrap (x20 + 1))
   else none
   else none
  else
   (files_Play l19).bind fun r24 =>
   if 0 ≤ ((if (((r24.1.length : Nat) : Int) : Int) < ((a0.length : Nat) : Int) then ((r24.1.length : Nat) : Int) else ((a0.length : Nat) : Int)) : Int) then
   if (Int.toNat (if (((r24.1.length : Nat) : Int) : Int) < ((a0.length : Nat) : Int) then ((r24.1.length : Nat) : Int) else ((a0.length : Nat) : Int))) ≤ r24.1.length then
   keep_FilesCount_l2 a0 a1 l19 r24 FUEL ((([] : List Int).drop 0).take 0) 0
   else none
   else none
def keep_FilesCount (a0 : (List Api_FileOp)) (a1 : Int) (a2 : Int) : Option (Bool) :=
 (keep_alive22).bind fun r1 =>
 bif (!r1) then
  some false
 else
  bif ((decide ((a2 : Int) < 0)) || (decide ((a2 : Int) > 20))) then
   some true
  else
   (slices_Clone_api_FileOp a0).bind fun r7 =>
   if ((r7).length + ([(⟨1, a1, 0, 0, 0, 0, 0⟩ : Api_FileOp)]).length) * 56 ≤ 140737488355328 ∧ (r7).length + ([(⟨1, a1, 0, 0, 0, 0, 0⟩ : Api_FileOp)]).length ≤ 140737488355328 then
   (files_Play (r7 ++ [(⟨1, a1, 0, 0, 0, 0, 0⟩ : Api_FileOp)])).bind fun r10 =>
   if ((!((((r10.1.length : Nat) : Int) : Int) != (IntKind.i64.wrap (((a0.length : Nat) : Int) + 1)))) = true → (0 ≤ (((a0.length : Nat) : Int) : Int) ∧ ((a0.length : Nat) : Int) < ((r10.1.length : Nat) : Int))) then
   bif (((((r10.1.length : Nat) : Int) : Int) != (IntKind.i64.wrap (((a0.length : Nat) : Int) + 1))) || (((r10.1.getD (0 + a0.length) (⟨0, 0⟩ : Api_FileAns)).Err : Int) != 0)) then
    some ((((r10.1.length : Nat) : Int) : Int) == (IntKind.i64.wrap (((a0.length : Nat) : Int) + 1)))
   else
    keep_FilesCount_l1 a0 a1 a2 r7 r10 FUEL (r7 ++ [(⟨1, a1, 0, 0, 0, 0, 0⟩ : Api_FileOp)]) 0
   else none
   else none
end Go.Proofs.Ytfkoglicoabbaaa

