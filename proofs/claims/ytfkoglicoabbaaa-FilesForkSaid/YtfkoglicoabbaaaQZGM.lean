import Derived.Test.YtfkoglicoabbaaaAbYg
import Derived.Test.YtfkoglicoabbaaaQFA
set_option linter.unusedSimpArgs false
set_option linter.unusedVariables false
namespace Go.Proofs.Ytfkoglicoabbaaa
open Go Go.Ab
structure Api_FileOp where
 Kind : Int
 Proc : Int
 Name : Int
 Size : Int
 Fd : Int
 To : Int
 Most : Int
deriving DecidableEq
structure Api_FileAns where
 Err : Int
 Value : Int
deriving DecidableEq
def Ok_Api_FileOp (x : Api_FileOp) : Prop := (-9223372036854775808 ≤ x.Kind ∧ x.Kind ≤ 9223372036854775807) ∧ (-9223372036854775808 ≤ x.Proc ∧ x.Proc ≤ 9223372036854775807) ∧ (-9223372036854775808 ≤ x.Name ∧ x.Name ≤ 9223372036854775807) ∧ (-9223372036854775808 ≤ x.Size ∧ x.Size ≤ 9223372036854775807) ∧ (-9223372036854775808 ≤ x.Fd ∧ x.Fd ≤ 9223372036854775807) ∧ (-9223372036854775808 ≤ x.To ∧ x.To ≤ 9223372036854775807) ∧ (-9223372036854775808 ≤ x.Most ∧ x.Most ≤ 9223372036854775807)
def fp_op (x : Api_FileOp) : Go.Fp.Op := ⟨x.Kind, x.Proc, x.Name, x.Size, x.Fd, x.To, x.Most⟩
def fp_ans (a : Int × Int) : Api_FileAns := ⟨a.1, a.2⟩
def files_Play (a0 : List Api_FileOp) : Option ((List Api_FileAns) × (Nat → (Nat → Int))) :=
 if a0.length ≤ 8796093022208 ∧ (a0.all fun x => decide (x.Most ≤ 9223372036854775807)) = true then
  some ((Go.Fp.answers (a0.map fp_op) Go.Fp.s0).map fp_ans, fun p fd => Go.Fp.cell (Go.Fp.run (a0.map fp_op) Go.Fp.s0) p fd)
 else none
def slices_Equal_api_FileAns_l1 (a0 : (List Api_FileAns)) (a1 : (List Api_FileAns)) : Nat → Nat → Option (Bool)
 | 0, _ => none
 | n1 + 1, k2 =>
  bif (decide ((((k2 : Nat) : Int) : Int) < ((a0.length : Nat) : Int))) then
   if 0 ≤ (((k2 : Nat) : Int) : Int) ∧ ((k2 : Nat) : Int) < ((a1.length : Nat) : Int) then
   bif (!((((a0.getD k2 (⟨0, 0⟩ : Api_FileAns)).Err : Int) == ((a1.getD k2 (⟨0, 0⟩ : Api_FileAns)).Err)) && ((((a0.getD k2 (⟨0, 0⟩ : Api_FileAns)).Value : Int) == ((a1.getD k2 (⟨0, 0⟩ : Api_FileAns)).Value)) && true))) then
    some false
   else
    slices_Equal_api_FileAns_l1 a0 a1 n1 (k2 + 1)
   else none
  else
   some true
def slices_Equal_api_FileAns (a0 : (List Api_FileAns)) (a1 : (List Api_FileAns)) : Option (Bool) :=
 bif ((((a0.length : Nat) : Int) : Int) != ((a1.length : Nat) : Int)) then
  some false
 else
  slices_Equal_api_FileAns_l1 a0 a1 FUEL 0
def keep_alive22 : Option (Bool) :=
 (files_Play [(⟨1, 0, 7, 10, 0, 0, 0⟩ : Api_FileOp), (⟨2, 0, 0, 0, 0, 0, 0⟩ : Api_FileOp), (⟨5, 0, 0, 0, 0, 0, 4⟩ : Api_FileOp), (⟨5, 0, 0, 0, 1, 0, 9⟩ : Api_FileOp), (⟨4, 0, 0, 0, 0, 0, 0⟩ : Api_FileOp), (⟨1, 0, 8, 0, 0, 0, 0⟩ : Api_FileOp), (⟨7, 0, 0, 0, 0, 2, 0⟩ : Api_FileOp), (⟨4, 0, 0, 0, 1, 0, 0⟩ : Api_FileOp)]).bind fun r1 =>
 (slices_Equal_api_FileAns r1.1 [(⟨0, 0⟩ : Api_FileAns), (⟨0, 1⟩ : Api_FileAns), (⟨0, 4⟩ : Api_FileAns), (⟨0, 6⟩ : Api_FileAns), (⟨0, 1⟩ : Api_FileAns), (⟨0, 0⟩ : Api_FileAns), (⟨0, 2⟩ : Api_FileAns), (⟨0, 1⟩ : Api_FileAns)]).bind fun r3 =>
 if (r3 = true → (0 ≤ (0 : Int) ∧ 0 < ((4 : Nat) : Int))) then
 if (r3 = true → (0 ≤ (0 : Int) ∧ 0 < ((16 : Nat) : Int))) then
 if ((r3 && ((((r1.2 0) 0) : Int) == 8)) = true → (0 ≤ (0 : Int) ∧ 0 < ((4 : Nat) : Int))) then
 if ((r3 && ((((r1.2 0) 0) : Int) == 8)) = true → (0 ≤ (1 : Int) ∧ 1 < ((16 : Nat) : Int))) then
 if (((r3 && ((((r1.2 0) 0) : Int) == 8)) && ((((r1.2 0) 1) : Int) == (-1))) = true → (0 ≤ (2 : Int) ∧ 2 < ((4 : Nat) : Int))) then
 if (((r3 && ((((r1.2 0) 0) : Int) == 8)) && ((((r1.2 0) 1) : Int) == (-1))) = true → (0 ≤ (1 : Int) ∧ 1 < ((16 : Nat) : Int))) then
 some (((r3 && ((((r1.2 0) 0) : Int) == 8)) && ((((r1.2 0) 1) : Int) == (-1))) && ((((r1.2 2) 1) : Int) == 7))
 else none
 else none
 else none
 else none
 else none
 else none
def slices_Clone_api_FileOp (a0 : List Api_FileOp) : Option (List Api_FileOp) := if a0.length * 56 ≤ 140737488355328 then some a0 else none
def keep_FilesFork (a0 : (List Api_FileOp)) (a1 : Int) (a2 : Int) (a3 : Int) : Option (Bool) :=
 (keep_alive22).bind fun r1 =>
 bif (!r1) then
  some false
 else
  (files_Play a0).bind fun r4 =>
  (slices_Clone_api_FileOp a0).bind fun r6 =>
  if ((r6).length + ([(⟨7, a1, 0, 0, 0, a2, 0⟩ : Api_FileOp), (⟨4, a1, 0, 0, a3, 0, 0⟩ : Api_FileOp)]).length) * 56 ≤ 140737488355328 ∧ (r6).length + ([(⟨7, a1, 0, 0, 0, a2, 0⟩ : Api_FileOp), (⟨4, a1, 0, 0, a3, 0, 0⟩ : Api_FileOp)]).length ≤ 140737488355328 then
  (files_Play (r6 ++ [(⟨7, a1, 0, 0, 0, a2, 0⟩ : Api_FileOp), (⟨4, a1, 0, 0, a3, 0, 0⟩ : Api_FileOp)])).bind fun r9 =>
  if ((!((((r9.1.length : Nat) : Int) : Int) != (IntKind.i64.wrap (((a0.length : Nat) : Int) + 2)))) = true → (0 ≤ (((a0.length : Nat) : Int) : Int) ∧ ((a0.length : Nat) : Int) < ((r9.1.length : Nat) : Int))) then
  bif (!((((r9.1.length : Nat) : Int) : Int) != (IntKind.i64.wrap (((a0.length : Nat) : Int) + 2)))) then
   bif (((((r9.1.length : Nat) : Int) : Int) != (IntKind.i64.wrap (((a0.length : Nat) : Int) + 2))) || (((r9.1.getD (0 + a0.length) (⟨0, 0⟩ : Api_FileAns)).Err : Int) != 0)) then
    some ((((r9.1.length : Nat) : Int) : Int) == (IntKind.i64.wrap (((a0.length : Nat) : Int) + 2)))
   else
    if (((((decide ((a1 : Int) ≥ 0)) && (decide ((a1 : Int) < 4))) && (decide ((a2 : Int) ≥ 0))) && (decide ((a2 : Int) < 4))) = true → (0 ≤ (a2 : Int) ∧ a2 < ((4 : Nat) : Int))) then
    bif ((((decide ((a1 : Int) ≥ 0)) && (decide ((a1 : Int) < 4))) && (decide ((a2 : Int) ≥ 0))) && (decide ((a2 : Int) < 4))) then
     if (((((decide ((a1 : Int) ≥ 0)) && (decide ((a1 : Int) < 4))) && (decide ((a2 : Int) ≥ 0))) && (decide ((a2 : Int) < 4))) = true → (0 ≤ (a1 : Int) ∧ a1 < ((4 : Nat) : Int))) then
     some (((((decide ((a1 : Int) ≥ 0)) && (decide ((a1 : Int) < 4))) && (decide ((a2 : Int) ≥ 0))) && (decide ((a2 : Int) < 4))) && (((((r9.2 (Int.toNat a2)) 0) : Int) == ((r4.2 (Int.toNat a1)) 0)) && (((((r9.2 (Int.toNat a2)) 1) : Int) == ((r4.2 (Int.toNat a1)) 1)) && (((((r9.2 (Int.toNat a2)) 2) : Int) == ((r4.2 (Int.toNat a1)) 2)) && (((((r9.2 (Int.toNat a2)) 3) : Int) == ((r4.2 (Int.toNat a1)) 3)) && (((((r9.2 (Int.toNat a2)) 4) : Int) == ((r4.2 (Int.toNat a1)) 4)) && (((((r9.2 (Int.toNat a2)) 5) : Int) == ((r4.2 (Int.toNat a1)) 5)) && (((((r9.2 (Int.toNat a2)) 6) : Int) == ((r4.2 (Int.toNat a1)) 6)) && (((((r9.2 (Int.toNat a2)) 7) : Int) == ((r4.2 (Int.toNat a1)) 7)) && (((((r9.2 (Int.toNat a2)) 8) : Int) == ((r4.2 (Int.toNat a1)) 8)) && (((((r9.2 (Int.toNat a2)) 9) : Int) == ((r4.2 (Int.toNat a1)) 9)) && (((((r9.2 (Int.toNat a2)) 10) : Int) == ((r4.2 (Int.toNat a1)) 10)) && (((((r9.2 (Int.toNat a2)) 11) : Int) == ((r4.2 (Int.toNat a1)) 11)) && (((((r9.2 (Int.toNat a2)) 12) : Int) == ((r4.2 (Int.toNat a1)) 12)) && (((((r9.2 (Int.toNat a2)) 13) : Int) == ((r4.2 (Int.toNat a1)) 13)) && (((((r9.2 (Int.toNat a2)) 14) : Int) == ((r4.2 (Int.toNat a1)) 14)) && (((((r9.2 (Int.toNat a2)) 15) : Int) == ((r4.2 (Int.toNat a1)) 15)) && true)))))))))))))))))
     else none
    else
     if (((((decide ((a1 : Int) ≥ 0)) && (decide ((a1 : Int) < 4))) && (decide ((a2 : Int) ≥ 0))) && (decide ((a2 : Int) < 4))) = true → (0 ≤ (a1 : Int) ∧ a1 < ((4 : Nat) : Int))) then
     some (((((decide ((a1 : Int) ≥ 0)) && (decide ((a1 : Int) < 4))) && (decide ((a2 : Int) ≥ 0))) && (decide ((a2 : Int) < 4))) && (((0 : Int) == 0) && (((0 : Int) == 0) && (((0 : Int) == 0) && (((0 : Int) == 0) && (((0 : Int) == 0) && (((0 : Int) == 0) && (((0 : Int) == 0) && (((0 : Int) == 0) && (((0 : Int) == 0) && (((0 : Int) == 0) && (((0 : Int) == 0) && (((0 : Int) == 0) && (((0 : Int) == 0) && (((0 : Int) == 0) && (((0 : Int) == 0) && (((0 : Int) == 0) && true)))))))))))))))))
     else none
    else none
  else
   bif (((((r9.1.length : Nat) : Int) : Int) != (IntKind.i64.wrap (((a0.length : Nat) : Int) + 2))) || ((0 : Int) != 0)) then
    some ((((r9.1.length : Nat) : Int) : Int) == (IntKind.i64.wrap (((a0.length : Nat) : Int) + 2)))
   else
    if (((((decide ((a1 : Int) ≥ 0)) && (decide ((a1 : Int) < 4))) && (decide ((a2 : Int) ≥ 0))) && (decide ((a2 : Int) < 4))) = true → (0 ≤ (a2 : Int) ∧ a2 < ((4 : Nat) : Int))) then
    bif ((((decide ((a1 : Int) ≥ 0)) && (decide ((a1 : Int) < 4))) && (decide ((a2 : Int) ≥ 0))) && (decide ((a2 : Int) < 4))) then
     if (((((decide ((a1 : Int) ≥ 0)) && (decide ((a1 : Int) < 4))) && (decide ((a2 : Int) ≥ 0))) && (decide ((a2 : Int) < 4))) = true → (0 ≤ (a1 : Int) ∧ a1 < ((4 : Nat) : Int))) then
     some (((((decide ((a1 : Int) ≥ 0)) && (decide ((a1 : Int) < 4))) && (decide ((a2 : Int) ≥ 0))) && (decide ((a2 : Int) < 4))) && (((((r9.2 (Int.toNat a2)) 0) : Int) == ((r4.2 (Int.toNat a1)) 0)) && (((((r9.2 (Int.toNat a2)) 1) : Int) == ((r4.2 (Int.toNat a1)) 1)) && (((((r9.2 (Int.toNat a2)) 2) : Int) == ((r4.2 (Int.toNat a1)) 2)) && (((((r9.2 (Int.toNat a2)) 3) : Int) == ((r4.2 (Int.toNat a1)) 3)) && (((((r9.2 (Int.toNat a2)) 4) : Int) == ((r4.2 (Int.toNat a1)) 4)) && (((((r9.2 (Int.toNat a2)) 5) : Int) == ((r4.2 (Int.toNat a1)) 5)) && (((((r9.2 (Int.toNat a2)) 6) : Int) == ((r4.2 (Int.toNat a1)) 6)) && (((((r9.2 (Int.toNat a2)) 7) : Int) == ((r4.2 (Int.toNat a1)) 7)) && (((((r9.2 (Int.toNat a2)) 8) : Int) == ((r4.2 (Int.toNat a1)) 8)) && (((((r9.2 (Int.toNat a2)) 9) : Int) == ((r4.2 (Int.toNat a1)) 9)) && (((((r9.2 (Int.toNat a2)) 10) : Int) == ((r4.2 (Int.toNat a1)) 10)) && (((((r9.2 (Int.toNat a2)) 11) : Int) == ((r4.2 (Int.toNat a1)) 11)) && (((((r9.2 (Int.toNat a2)) 12) : Int) == ((r4.2 (Int.toNat a1)) 12)) && (((((r9.2 (Int.toNat a2)) 13) : Int) == ((r4.2 (Int.toNat a1)) 13)) && (((((r9.2 (Int.toNat a2)) 14) : Int) == ((r4.2 (Int.toNat a1)) 14)) && (((((r9.2 (Int.toNat a2)) 15) : Int) == ((r4.2 (Int.toNat a1)) 15)) && true)))))))))))))))))
     else none
    else
     if (((((decide ((a1 : Int) ≥ 0)) && (decide ((a1 : Int) < 4))) && (decide ((a2 : Int) ≥ 0))) && (decide ((a2 : Int) < 4))) = true → (0 ≤ (a1 : Int) ∧ a1 < ((4 : Nat) : Int))) then
     some (((((decide ((a1 : Int) ≥ 0)) && (decide ((a1 : Int) < 4))) && (decide ((a2 : Int) ≥ 0))) && (decide ((a2 : Int) < 4))) && (((0 : Int) == 0) && (((0 : Int) == 0) && (((0 : Int) == 0) && (((0 : Int) == 0) && (((0 : Int) == 0) && (((0 : Int) == 0) && (((0 : Int) == 0) && (((0 : Int) == 0) && (((0 : Int) == 0) && (((0 : Int) == 0) && (((0 : Int) == 0) && (((0 : Int) == 0) && (((0 : Int) == 0) && (((0 : Int) == 0) && (((0 : Int) == 0) && (((0 : Int) == 0) && true)))))))))))))))))
     else none
    else none
  else none
  else none
end Go.Proofs.Ytfkoglicoabbaaa

