import Derived.Test.YtfnmmlcmjmepjaaAbYg
set_option linter.unusedSimpArgs false
set_option linter.unusedVariables false
namespace Go.Proofs.Ytfnmmlcmjmepjaa
open Go Go.Ab
structure Api_Pin where
 Core : Int
 Vec : Int
 Level : Bool
 Masked : Bool
 Up : Bool
 Kept : Bool
 Sent : Bool
deriving DecidableEq
structure Api_PinOp where
 Kind : Int
 Pin : Int
deriving DecidableEq
structure Api_Sent where
 Pin : Int
 Core : Int
 Vec : Int
deriving DecidableEq
def Ok_Api_PinOp (x : Api_PinOp) : Prop := (-9223372036854775808 ≤ x.Kind ∧ x.Kind ≤ 9223372036854775807) ∧ (-9223372036854775808 ≤ x.Pin ∧ x.Pin ≤ 9223372036854775807)
def Ok_Api_Pin (x : Api_Pin) : Prop := (-9223372036854775808 ≤ x.Core ∧ x.Core ≤ 9223372036854775807) ∧ (-9223372036854775808 ≤ x.Vec ∧ x.Vec ≤ 9223372036854775807) ∧ True ∧ True ∧ True ∧ True ∧ True
def line_Right_1 (a0 : Api_Pin) : Option (Bool) :=
 some ((((((((decide ((a0.Core : Int) < 0)) || (decide ((a0.Core : Int) ≥ 8))) || (decide ((a0.Vec : Int) < 32))) || (decide ((a0.Vec : Int) ≥ 256))) || (a0.Level && a0.Kept)) || ((!a0.Level) && a0.Sent)) || (a0.Kept && (!a0.Masked))) || (((a0.Level && a0.Up) && (!a0.Masked)) && (!a0.Sent)))
def slices_IndexFunc_api_Pin_line_Right_1_l1 (a0 : (List Api_Pin)) : Nat → Nat → Option (Int)
 | 0, _ => none
 | n1 + 1, k1 =>
  bif (decide ((((k1 : Nat) : Int) : Int) < ((a0.length : Nat) : Int))) then
   (line_Right_1 (a0.getD k1 (⟨0, 0, false, false, false, false, false⟩ : Api_Pin))).bind fun r4 =>
   bif r4 then
    some ((k1 : Nat) : Int)
   else
    slices_IndexFunc_api_Pin_line_Right_1_l1 a0 n1 (k1 + 1)
  else
   some (-1)
def slices_IndexFunc_api_Pin_line_Right_1 (a0 : (List Api_Pin)) : Option (Int) :=
 slices_IndexFunc_api_Pin_line_Right_1_l1 a0 FUEL 0
def slices_ContainsFunc_api_Pin_line_Right_1 (a0 : (List Api_Pin)) : Option (Bool) :=
 (slices_IndexFunc_api_Pin_line_Right_1 a0).bind fun r1 =>
 some (decide ((r1 : Int) ≥ 0))
def line_Right (a0 : (List Api_Pin)) : Option (Bool) :=
 (bif (decide ((((a0.length : Nat) : Int) : Int) ≤ 24)) then slices_ContainsFunc_api_Pin_line_Right_1 a0 else some false).bind fun r1 =>
 some ((decide ((((a0.length : Nat) : Int) : Int) ≤ 24)) && (!r1))
def slices_Clone_api_Pin (a0 : List Api_Pin) : Option (List Api_Pin) := if a0.length * 24 ≤ 140737488355328 then some a0 else none
def line_fire (a0 : Api_Pin) (a1 : Bool) : Option (Bool × Api_Pin) :=
 bif a0.Level then
  bif ((a0.Up && (!a0.Masked)) && (!a0.Sent)) then
   some (true, (⟨a0.Core, a0.Vec, a0.Level, a0.Masked, a0.Up, a0.Kept, true⟩ : Api_Pin))
  else
   some (false, a0)
 else
  bif (a1 && a0.Masked) then
   some (false, (⟨a0.Core, a0.Vec, a0.Level, a0.Masked, a0.Up, true, a0.Sent⟩ : Api_Pin))
  else
   bif a1 then
    bif a1 then
     some (true, (⟨a0.Core, a0.Vec, a0.Level, a0.Masked, a0.Up, false, a0.Sent⟩ : Api_Pin))
    else
     some (false, a0)
   else
    bif (a0.Kept && (!a0.Masked)) then
     some (true, (⟨a0.Core, a0.Vec, a0.Level, a0.Masked, a0.Up, false, a0.Sent⟩ : Api_Pin))
    else
     some (false, a0)
def line_Step (a0 : (List Api_Pin)) (a1 : Api_PinOp) : Option ((List Api_Pin) × (List Api_Sent) × Int) :=
 (line_Right a0).bind fun r1 =>
 bif (!r1) then
  some (([] : List Api_Pin), ([] : List Api_Sent), 1)
 else
  bif ((decide ((a1.Kind : Int) < 1)) || (decide ((a1.Kind : Int) > 5))) then
   some (([] : List Api_Pin), ([] : List Api_Sent), 5)
  else
   bif ((decide ((a1.Pin : Int) < 0)) || (decide ((a1.Pin : Int) ≥ ((a0.length : Nat) : Int)))) then
    some (([] : List Api_Pin), ([] : List Api_Sent), 3)
   else
    (slices_Clone_api_Pin a0).bind fun r14 =>
    if 0 ≤ (a1.Pin : Int) ∧ a1.Pin < ((r14.length : Nat) : Int) then
    bif ((a1.Kind : Int) == 1) then
     bif ((a1.Kind : Int) == 1) then
      (line_fire ((r14.set (0 + (Int.toNat a1.Pin)) (⟨(r14.getD (0 + (Int.toNat a1.Pin)) (⟨0, 0, false, false, false, false, false⟩ : Api_Pin)).Core, (r14.getD (0 + (Int.toNat a1.Pin)) (⟨0, 0, false, false, false, false, false⟩ : Api_Pin)).Vec, (r14.getD (0 + (Int.toNat a1.Pin)) (⟨0, 0, false, false, false, false, false⟩ : Api_Pin)).Level, (r14.getD (0 + (Int.toNat a1.Pin)) (⟨0, 0, false, false, false, false, false⟩ : Api_Pin)).Masked, ((a1.Kind : Int) == 1), (r14.getD (0 + (Int.toNat a1.Pin)) (⟨0, 0, false, false, false, false, false⟩ : Api_Pin)).Kept, (r14.getD (0 + (Int.toNat a1.Pin)) (⟨0, 0, false, false, false, false, false⟩ : Api_Pin)).Sent⟩ : Api_Pin)).getD (0 + (Int.toNat a1.Pin)) (⟨0, 0, false, false, false, false, false⟩ : Api_Pin)) (((a1.Kind : Int) == 1) && (!((r14.getD (0 + (Int.toNat a1.Pin)) (⟨0, 0, false, false, false, false, false⟩ : Api_Pin)).Up)))).bind fun r23 =>
      bif r23.1 then
       some (((r14.set (0 + (Int.toNat a1.Pin)) (⟨(r14.getD (0 + (Int.toNat a1.Pin)) (⟨0, 0, false, false, false, false, false⟩ : Api_Pin)).Core, (r14.getD (0 + (Int.toNat a1.Pin)) (⟨0, 0, false, false, false, false, false⟩ : Api_Pin)).Vec, (r14.getD (0 + (Int.toNat a1.Pin)) (⟨0, 0, false, false, false, false, false⟩ : Api_Pin)).Level, (r14.getD (0 + (Int.toNat a1.Pin)) (⟨0, 0, false, false, false, false, false⟩ : Api_Pin)).Masked, ((a1.Kind : Int) == 1), (r14.getD (0 + (Int.toNat a1.Pin)) (⟨0, 0, false, false, false, false, false⟩ : Api_Pin)).Kept, (r14.getD (0 + (Int.toNat a1.Pin)) (⟨0, 0, false, false, false, false, false⟩ : Api_Pin)).Sent⟩ : Api_Pin)).set (0 + (Int.toNat a1.Pin)) r23.2), [(⟨a1.Pin, (((r14.set (0 + (Int.toNat a1.Pin)) (⟨(r14.getD (0 + (Int.toNat a1.Pin)) (⟨0, 0, false, false, false, false, false⟩ : Api_Pin)).Core, (r14.getD (0 + (Int.toNat a1.Pin)) (⟨0, 0, false, false, false, false, false⟩ : Api_Pin)).Vec, (r14.getD (0 + (Int.toNat a1.Pin)) (⟨0, 0, false, false, false, false, false⟩ : Api_Pin)).Level, (r14.getD (0 + (Int.toNat a1.Pin)) (⟨0, 0, false, false, false, false, false⟩ : Api_Pin)).Masked, ((a1.Kind : Int) == 1), (r14.getD (0 + (Int.toNat a1.Pin)) (⟨0, 0, false, false, false, false, false⟩ : Api_Pin)).Kept, (r14.getD (0 + (Int.toNat a1.Pin)) (⟨0, 0, false, false, false, false, false⟩ : Api_Pin)).Sent⟩ : Api_Pin)).set (0 + (Int.toNat a1.Pin)) r23.2).getD (0 + (Int.toNat a1.Pin)) (⟨0, 0, false, false, false, false, false⟩ : Api_Pin)).Core, (((r14.set (0 + (Int.toNat a1.Pin)) (⟨(r14.getD (0 + (Int.toNat a1.Pin)) (⟨0, 0, false, false, false, false, false⟩ : Api_Pin)).Core, (r14.getD (0 + (Int.toNat a1.Pin)) (⟨0, 0, false, false, false, false, false⟩ : Api_Pin)).Vec, (r14.getD (0 + (Int.toNat a1.Pin)) (⟨0, 0, false, false, false, false, false⟩ : Api_Pin)).Level, (r14.getD (0 + (Int.toNat a1.Pin)) (⟨0, 0, false, false, false, false, false⟩ : Api_Pin)).Masked, ((a1.Kind : Int) == 1), (r14.getD (0 + (Int.toNat a1.Pin)) (⟨0, 0, false, false, false, false, false⟩ : Api_Pin)).Kept, (r14.getD (0 + (Int.toNat a1.Pin)) (⟨0, 0, false, false, false, false, false⟩ : Api_Pin)).Sent⟩ : Api_Pin)).set (0 + (Int.toNat a1.Pin)) r23.2).getD (0 + (Int.toNat a1.Pin)) (⟨0, 0, false, false, false, false, false⟩ : Api_Pin)).Vec⟩ : Api_Sent)], 0)
      else
       some (((r14.set (0 + (Int.toNat a1.Pin)) (⟨(r14.getD (0 + (Int.toNat a1.Pin)) (⟨0, 0, false, false, false, false, false⟩ : Api_Pin)).Core, (r14.getD (0 + (Int.toNat a1.Pin)) (⟨0, 0, false, false, false, false, false⟩ : Api_Pin)).Vec, (r14.getD (0 + (Int.toNat a1.Pin)) (⟨0, 0, false, false, false, false, false⟩ : Api_Pin)).Level, (r14.getD (0 + (Int.toNat a1.Pin)) (⟨0, 0, false, false, false, false, false⟩ : Api_Pin)).Masked, ((a1.Kind : Int) == 1), (r14.getD (0 + (Int.toNat a1.Pin)) (⟨0, 0, false, false, false, false, false⟩ : Api_Pin)).Kept, (r14.getD (0 + (Int.toNat a1.Pin)) (⟨0, 0, false, false, false, false, false⟩ : Api_Pin)).Sent⟩ : Api_Pin)).set (0 + (Int.toNat a1.Pin)) r23.2), ([] : List Api_Sent), 0)
     else
      bif ((a1.Kind : Int) == 3) then
       bif ((a1.Kind : Int) == 3) then
        (line_fire ((r14.set (0 + (Int.toNat a1.Pin)) (⟨(r14.getD (0 + (Int.toNat a1.Pin)) (⟨0, 0, false, false, false, false, false⟩ : Api_Pin)).Core, (r14.getD (0 + (Int.toNat a1.Pin)) (⟨0, 0, false, false, false, false, false⟩ : Api_Pin)).Vec, (r14.getD (0 + (Int.toNat a1.Pin)) (⟨0, 0, false, false, false, false, false⟩ : Api_Pin)).Level, ((a1.Kind : Int) == 3), (r14.getD (0 + (Int.toNat a1.Pin)) (⟨0, 0, false, false, false, false, false⟩ : Api_Pin)).Up, (r14.getD (0 + (Int.toNat a1.Pin)) (⟨0, 0, false, false, false, false, false⟩ : Api_Pin)).Kept, (r14.getD (0 + (Int.toNat a1.Pin)) (⟨0, 0, false, false, false, false, false⟩ : Api_Pin)).Sent⟩ : Api_Pin)).getD (0 + (Int.toNat a1.Pin)) (⟨0, 0, false, false, false, false, false⟩ : Api_Pin)) (((a1.Kind : Int) == 1) && (!((r14.getD (0 + (Int.toNat a1.Pin)) (⟨0, 0, false, false, false, false, false⟩ : Api_Pin)).Up)))).bind fun r28 =>
        bif r28.1 then
         some (((r14.set (0 + (Int.toNat a1.Pin)) (⟨(r14.getD (0 + (Int.toNat a1.Pin)) (⟨0, 0, false, false, false, false, false⟩ : Api_Pin)).Core, (r14.getD (0 + (Int.toNat a1.Pin)) (⟨0, 0, false, false, false, false, false⟩ : Api_Pin)).Vec, (r14.getD (0 + (Int.toNat a1.Pin)) (⟨0, 0, false, false, false, false, false⟩ : Api_Pin)).Level, ((a1.Kind : Int) == 3), (r14.getD (0 + (Int.toNat a1.Pin)) (⟨0, 0, false, false, false, false, false⟩ : Api_Pin)).Up, (r14.getD (0 + (Int.toNat a1.Pin)) (⟨0, 0, false, false, false, false, false⟩ : Api_Pin)).Kept, (r14.getD (0 + (Int.toNat a1.Pin)) (⟨0, 0, false, false, false, false, false⟩ : Api_Pin)).Sent⟩ : Api_Pin)).set (0 + (Int.toNat a1.Pin)) r28.2), [(⟨a1.Pin, (((r14.set (0 + (Int.toNat a1.Pin)) (⟨(r14.getD (0 + (Int.toNat a1.Pin)) (⟨0, 0, false, false, false, false, false⟩ : Api_Pin)).Core, (r14.getD (0 + (Int.toNat a1.Pin)) (⟨0, 0, false, false, false, false, false⟩ : Api_Pin)).Vec, (r14.getD (0 + (Int.toNat a1.Pin)) (⟨0, 0, false, false, false, false, false⟩ : Api_Pin)).Level, ((a1.Kind : Int) == 3), (r14.getD (0 + (Int.toNat a1.Pin)) (⟨0, 0, false, false, false, false, false⟩ : Api_Pin)).Up, (r14.getD (0 + (Int.toNat a1.Pin)) (⟨0, 0, false, false, false, false, false⟩ : Api_Pin)).Kept, (r14.getD (0 + (Int.toNat a1.Pin)) (⟨0, 0, false, false, false, false, false⟩ : Api_Pin)).Sent⟩ : Api_Pin)).set (0 + (Int.toNat a1.Pin)) r28.2).getD (0 + (Int.toNat a1.Pin)) (⟨0, 0, false, false, false, false, false⟩ : Api_Pin)).Core, (((r14.set (0 + (Int.toNat a1.Pin)) (⟨(r14.getD (0 + (Int.toNat a1.Pin)) (⟨0, 0, false, false, false, false, false⟩ : Api_Pin)).Core, (r14.getD (0 + (Int.toNat a1.Pin)) (⟨0, 0, false, false, false, false, false⟩ : Api_Pin)).Vec, (r14.getD (0 + (Int.toNat a1.Pin)) (⟨0, 0, false, false, false, false, false⟩ : Api_Pin)).Level, ((a1.Kind : Int) == 3), (r14.getD (0 + (Int.toNat a1.Pin)) (⟨0, 0, false, false, false, false, false⟩ : Api_Pin)).Up, (r14.getD (0 + (Int.toNat a1.Pin)) (⟨0, 0, false, false, false, false, false⟩ : Api_Pin)).Kept, (r14.getD (0 + (Int.toNat a1.Pin)) (⟨0, 0, false, false, false, false, false⟩ : Api_Pin)).Sent⟩ : Api_Pin)).set (0 + (Int.toNat a1.Pin)) r28.2).getD (0 + (Int.toNat a1.Pin)) (⟨0, 0, false, false, false, false, false⟩ : Api_Pin)).Vec⟩ : Api_Sent)], 0)
        else
         some (((r14.set (0 + (Int.toNat a1.Pin)) (⟨(r14.getD (0 + (Int.toNat a1.Pin)) (⟨0, 0, false, false, false, false, false⟩ : Api_Pin)).Core, (r14.getD (0 + (Int.toNat a1.Pin)) (⟨0, 0, false, false, false, false, false⟩ : Api_Pin)).Vec, (r14.getD (0 + (Int.toNat a1.Pin)) (⟨0, 0, false, false, false, false, false⟩ : Api_Pin)).Level, ((a1.Kind : Int) == 3), (r14.getD (0 + (Int.toNat a1.Pin)) (⟨0, 0, false, false, false, false, false⟩ : Api_Pin)).Up, (r14.getD (0 + (Int.toNat a1.Pin)) (⟨0, 0, false, false, false, false, false⟩ : Api_Pin)).Kept, (r14.getD (0 + (Int.toNat a1.Pin)) (⟨0, 0, false, false, false, false, false⟩ : Api_Pin)).Sent⟩ : Api_Pin)).set (0 + (Int.toNat a1.Pin)) r28.2), ([] : List Api_Sent), 0)
       else
        bif ((a1.Kind : Int) == 5) then
         (line_fire ((r14.set (0 + (Int.toNat a1.Pin)) (⟨(r14.getD (0 + (Int.toNat a1.Pin)) (⟨0, 0, false, false, false, false, false⟩ : Api_Pin)).Core, (r14.getD (0 + (Int.toNat a1.Pin)) (⟨0, 0, false, false, false, false, false⟩ : Api_Pin)).Vec, (r14.getD (0 + (Int.toNat a1.Pin)) (⟨0, 0, false, false, false, false, false⟩ : Api_Pin)).Level, (r14.getD (0 + (Int.toNat a1.Pin)) (⟨0, 0, false, false, false, false, false⟩ : Api_Pin)).Masked, (r14.getD (0 + (Int.toNat a1.Pin)) (⟨0, 0, false, false, false, false, false⟩ : Api_Pin)).Up, (r14.getD (0 + (Int.toNat a1.Pin)) (⟨0, 0, false, false, false, false, false⟩ : Api_Pin)).Kept, false⟩ : Api_Pin)).getD (0 + (Int.toNat a1.Pin)) (⟨0, 0, false, false, false, false, false⟩ : Api_Pin)) (((a1.Kind : Int) == 1) && (!((r14.getD (0 + (Int.toNat a1.Pin)) (⟨0, 0, false, false, false, false, false⟩ : Api_Pin)).Up)))).bind fun r32 =>
         bif r32.1 then
          some (((r14.set (0 + (Int.toNat a1.Pin)) (⟨(r14.getD (0 + (Int.toNat a1.Pin)) (⟨0, 0, false, false, false, false, false⟩ : Api_Pin)).Core, (r14.getD (0 + (Int.toNat a1.Pin)) (⟨0, 0, false, false, false, false, false⟩ : Api_Pin)).Vec, (r14.getD (0 + (Int.toNat a1.Pin)) (⟨0, 0, false, false, false, false, false⟩ : Api_Pin)).Level, (r14.getD (0 + (Int.toNat a1.Pin)) (⟨0, 0, false, false, false, false, false⟩ : Api_Pin)).Masked, (r14.getD (0 + (Int.toNat a1.Pin)) (⟨0, 0, false, false, false, false, false⟩ : Api_Pin)).Up, (r14.getD (0 + (Int.toNat a1.Pin)) (⟨0, 0, false, false, false, false, false⟩ : Api_Pin)).Kept, false⟩ : Api_Pin)).set (0 + (Int.toNat a1.Pin)) r32.2), [(⟨a1.Pin, (((r14.set (0 + (Int.toNat a1.Pin)) (⟨(r14.getD (0 + (Int.toNat a1.Pin)) (⟨0, 0, false, false, false, false, false⟩ : Api_Pin)).Core, (r14.getD (0 + (Int.toNat a1.Pin)) (⟨0, 0, false, false, false, false, false⟩ : Api_Pin)).Vec, (r14.getD (0 + (Int.toNat a1.Pin)) (⟨0, 0, false, false, false, false, false⟩ : Api_Pin)).Level, (r14.getD (0 + (Int.toNat a1.Pin)) (⟨0, 0, false, false, false, false, false⟩ : Api_Pin)).Masked, (r14.getD (0 + (Int.toNat a1.Pin)) (⟨0, 0, false, false, false, false, false⟩ : Api_Pin)).Up, (r14.getD (0 + (Int.toNat a1.Pin)) (⟨0, 0, false, false, false, false, false⟩ : Api_Pin)).Kept, false⟩ : Api_Pin)).set (0 + (Int.toNat a1.Pin)) r32.2).getD (0 + (Int.toNat a1.Pin)) (⟨0, 0, false, false, false, false, false⟩ : Api_Pin)).Core, (((r14.set (0 + (Int.toNat a1.Pin)) (⟨(r14.getD (0 + (Int.toNat a1.Pin)) (⟨0, 0, false, false, false, false, false⟩ : Api_Pin)).Core, (r14.getD (0 + (Int.toNat a1.Pin)) (⟨0, 0, false, false, false, false, false⟩ : Api_Pin)).Vec, (r14.getD (0 + (Int.toNat a1.Pin)) (⟨0, 0, false, false, false, false, false⟩ : Api_Pin)).Level, (r14.getD (0 + (Int.toNat a1.Pin)) (⟨0, 0, false, false, false, false, false⟩ : Api_Pin)).Masked, (r14.getD (0 + (Int.toNat a1.Pin)) (⟨0, 0, false, false, false, false, false⟩ : Api_Pin)).Up, (r14.getD (0 + (Int.toNat a1.Pin)) (⟨0, 0, false, false, false, false, false⟩ : Api_Pin)).Kept, false⟩ : Api_Pin)).set (0 + (Int.toNat a1.Pin)) r32.2).getD (0 + (Int.toNat a1.Pin)) (⟨0, 0, false, false, false, false, false⟩ : Api_Pin)).Vec⟩ : Api_Sent)], 0)
         else
          some (((r14.set (0 + (Int.toNat a1.Pin)) (⟨(r14.getD (0 + (Int.toNat a1.Pin)) (⟨0, 0, false, false, false, false, false⟩ : Api_Pin)).Core, (r14.getD (0 + (Int.toNat a1.Pin)) (⟨0, 0, false, false, false, false, false⟩ : Api_Pin)).Vec, (r14.getD (0 + (Int.toNat a1.Pin)) (⟨0, 0, false, false, false, false, false⟩ : Api_Pin)).Level, (r14.getD (0 + (Int.toNat a1.Pin)) (⟨0, 0, false, false, false, false, false⟩ : Api_Pin)).Masked, (r14.getD (0 + (Int.toNat a1.Pin)) (⟨0, 0, false, false, false, false, false⟩ : Api_Pin)).Up, (r14.getD (0 + (Int.toNat a1.Pin)) (⟨0, 0, false, false, false, false, false⟩ : Api_Pin)).Kept, false⟩ : Api_Pin)).set (0 + (Int.toNat a1.Pin)) r32.2), ([] : List Api_Sent), 0)
        else
         (line_fire (r14.getD (0 + (Int.toNat a1.Pin)) (⟨0, 0, false, false, false, false, false⟩ : Api_Pin)) (((a1.Kind : Int) == 1) && (!((r14.getD (0 + (Int.toNat a1.Pin)) (⟨0, 0, false, false, false, false, false⟩ : Api_Pin)).Up)))).bind fun r35 =>
         bif r35.1 then
          some ((r14.set (0 + (Int.toNat a1.Pin)) r35.2), [(⟨a1.Pin, ((r14.set (0 + (Int.toNat a1.Pin)) r35.2).getD (0 + (Int.toNat a1.Pin)) (⟨0, 0, false, false, false, false, false⟩ : Api_Pin)).Core, ((r14.set (0 + (Int.toNat a1.Pin)) r35.2).getD (0 + (Int.toNat a1.Pin)) (⟨0, 0, false, false, false, false, false⟩ : Api_Pin)).Vec⟩ : Api_Sent)], 0)
         else
          some ((r14.set (0 + (Int.toNat a1.Pin)) r35.2), ([] : List Api_Sent), 0)
      else
       bif ((a1.Kind : Int) == 4) then
        (line_fire ((r14.set (0 + (Int.toNat a1.Pin)) (⟨(r14.getD (0 + (Int.toNat a1.Pin)) (⟨0, 0, false, false, false, false, false⟩ : Api_Pin)).Core, (r14.getD (0 + (Int.toNat a1.Pin)) (⟨0, 0, false, false, false, false, false⟩ : Api_Pin)).Vec, (r14.getD (0 + (Int.toNat a1.Pin)) (⟨0, 0, false, false, false, false, false⟩ : Api_Pin)).Level, ((a1.Kind : Int) == 3), (r14.getD (0 + (Int.toNat a1.Pin)) (⟨0, 0, false, false, false, false, false⟩ : Api_Pin)).Up, (r14.getD (0 + (Int.toNat a1.Pin)) (⟨0, 0, false, false, false, false, false⟩ : Api_Pin)).Kept, (r14.getD (0 + (Int.toNat a1.Pin)) (⟨0, 0, false, false, false, false, false⟩ : Api_Pin)).Sent⟩ : Api_Pin)).getD (0 + (Int.toNat a1.Pin)) (⟨0, 0, false, false, false, false, false⟩ : Api_Pin)) (((a1.Kind : Int) == 1) && (!((r14.getD (0 + (Int.toNat a1.Pin)) (⟨0, 0, false, false, false, false, false⟩ : Api_Pin)).Up)))).bind fun r39 =>
        bif r39.1 then
         some (((r14.set (0 + (Int.toNat a1.Pin)) (⟨(r14.getD (0 + (Int.toNat a1.Pin)) (⟨0, 0, false, false, false, false, false⟩ : Api_Pin)).Core, (r14.getD (0 + (Int.toNat a1.Pin)) (⟨0, 0, false, false, false, false, false⟩ : Api_Pin)).Vec, (r14.getD (0 + (Int.toNat a1.Pin)) (⟨0, 0, false, false, false, false, false⟩ : Api_Pin)).Level, ((a1.Kind : Int) == 3), (r14.getD (0 + (Int.toNat a1.Pin)) (⟨0, 0, false, false, false, false, false⟩ : Api_Pin)).Up, (r14.getD (0 + (Int.toNat a1.Pin)) (⟨0, 0, false, false, false, false, false⟩ : Api_Pin)).Kept, (r14.getD (0 + (Int.toNat a1.Pin)) (⟨0, 0, false, false, false, false, false⟩ : Api_Pin)).Sent⟩ : Api_Pin)).set (0 + (Int.toNat a1.Pin)) r39.2), [(⟨a1.Pin, (((r14.set (0 + (Int.toNat a1.Pin)) (⟨(r14.getD (0 + (Int.toNat a1.Pin)) (⟨0, 0, false, false, false, false, false⟩ : Api_Pin)).Core, (r14.getD (0 + (Int.toNat a1.Pin)) (⟨0, 0, false, false, false, false, false⟩ : Api_Pin)).Vec, (r14.getD (0 + (Int.toNat a1.Pin)) (⟨0, 0, false, false, false, false, false⟩ : Api_Pin)).Level, ((a1.Kind : Int) == 3), (r14.getD (0 + (Int.toNat a1.Pin)) (⟨0, 0, false, false, false, false, false⟩ : Api_Pin)).Up, (r14.getD (0 + (Int.toNat a1.Pin)) (⟨0, 0, false, false, false, false, false⟩ : Api_Pin)).Kept, (r14.getD (0 + (Int.toNat a1.Pin)) (⟨0, 0, false, false, false, false, false⟩ : Api_Pin)).Sent⟩ : Api_Pin)).set (0 + (Int.toNat a1.Pin)) r39.2).getD (0 + (Int.toNat a1.Pin)) (⟨0, 0, false, false, false, false, false⟩ : Api_Pin)).Core, (((r14.set (0 + (Int.toNat a1.Pin)) (⟨(r14.getD (0 + (Int.toNat a1.Pin)) (⟨0, 0, false, false, false, false, false⟩ : Api_Pin)).Core, (r14.getD (0 + (Int.toNat a1.Pin)) (⟨0, 0, false, false, false, false, false⟩ : Api_Pin)).Vec, (r14.getD (0 + (Int.toNat a1.Pin)) (⟨0, 0, false, false, false, false, false⟩ : Api_Pin)).Level, ((a1.Kind : Int) == 3), (r14.getD (0 + (Int.toNat a1.Pin)) (⟨0, 0, false, false, false, false, false⟩ : Api_Pin)).Up, (r14.getD (0 + (Int.toNat a1.Pin)) (⟨0, 0, false, false, false, false, false⟩ : Api_Pin)).Kept, (r14.getD (0 + (Int.toNat a1.Pin)) (⟨0, 0, false, false, false, false, false⟩ : Api_Pin)).Sent⟩ : Api_Pin)).set (0 + (Int.toNat a1.Pin)) r39.2).getD (0 + (Int.toNat a1.Pin)) (⟨0, 0, false, false, false, false, false⟩ : Api_Pin)).Vec⟩ : Api_Sent)], 0)
        else
         some (((r14.set (0 + (Int.toNat a1.Pin)) (⟨(r14.getD (0 + (Int.toNat a1.Pin)) (⟨0, 0, false, false, false, false, false⟩ : Api_Pin)).Core, (r14.getD (0 + (Int.toNat a1.Pin)) (⟨0, 0, false, false, false, false, false⟩ : Api_Pin)).Vec, (r14.getD (0 + (Int.toNat a1.Pin)) (⟨0, 0, false, false, false, false, false⟩ : Api_Pin)).Level, ((a1.Kind : Int) == 3), (r14.getD (0 + (Int.toNat a1.Pin)) (⟨0, 0, false, false, false, false, false⟩ : Api_Pin)).Up, (r14.getD (0 + (Int.toNat a1.Pin)) (⟨0, 0, false, false, false, false, false⟩ : Api_Pin)).Kept, (r14.getD (0 + (Int.toNat a1.Pin)) (⟨0, 0, false, false, false, false, false⟩ : Api_Pin)).Sent⟩ : Api_Pin)).set (0 + (Int.toNat a1.Pin)) r39.2), ([] : List Api_Sent), 0)
       else
        bif ((a1.Kind : Int) == 5) then
         (line_fire ((r14.set (0 + (Int.toNat a1.Pin)) (⟨(r14.getD (0 + (Int.toNat a1.Pin)) (⟨0, 0, false, false, false, false, false⟩ : Api_Pin)).Core, (r14.getD (0 + (Int.toNat a1.Pin)) (⟨0, 0, false, false, false, false, false⟩ : Api_Pin)).Vec, (r14.getD (0 + (Int.toNat a1.Pin)) (⟨0, 0, false, false, false, false, false⟩ : Api_Pin)).Level, (r14.getD (0 + (Int.toNat a1.Pin)) (⟨0, 0, false, false, false, false, false⟩ : Api_Pin)).Masked, (r14.getD (0 + (Int.toNat a1.Pin)) (⟨0, 0, false, false, false, false, false⟩ : Api_Pin)).Up, (r14.getD (0 + (Int.toNat a1.Pin)) (⟨0, 0, false, false, false, false, false⟩ : Api_Pin)).Kept, false⟩ : Api_Pin)).getD (0 + (Int.toNat a1.Pin)) (⟨0, 0, false, false, false, false, false⟩ : Api_Pin)) (((a1.Kind : Int) == 1) && (!((r14.getD (0 + (Int.toNat a1.Pin)) (⟨0, 0, false, false, false, false, false⟩ : Api_Pin)).Up)))).bind fun r43 =>
         bif r43.1 then
          some (((r14.set (0 + (Int.toNat a1.Pin)) (⟨(r14.getD (0 + (Int.toNat a1.Pin)) (⟨0, 0, false, false, false, false, false⟩ : Api_Pin)).Core, (r14.getD (0 + (Int.toNat a1.Pin)) (⟨0, 0, false, false, false, false, false⟩ : Api_Pin)).Vec, (r14.getD (0 + (Int.toNat a1.Pin)) (⟨0, 0, false, false, false, false, false⟩ : Api_Pin)).Level, (r14.getD (0 + (Int.toNat a1.Pin)) (⟨0, 0, false, false, false, false, false⟩ : Api_Pin)).Masked, (r14.getD (0 + (Int.toNat a1.Pin)) (⟨0, 0, false, false, false, false, false⟩ : Api_Pin)).Up, (r14.getD (0 + (Int.toNat a1.Pin)) (⟨0, 0, false, false, false, false, false⟩ : Api_Pin)).Kept, false⟩ : Api_Pin)).set (0 + (Int.toNat a1.Pin)) r43.2), [(⟨a1.Pin, (((r14.set (0 + (Int.toNat a1.Pin)) (⟨(r14.getD (0 + (Int.toNat a1.Pin)) (⟨0, 0, false, false, false, false, false⟩ : Api_Pin)).Core, (r14.getD (0 + (Int.toNat a1.Pin)) (⟨0, 0, false, false, false, false, false⟩ : Api_Pin)).Vec, (r14.getD (0 + (Int.toNat a1.Pin)) (⟨0, 0, false, false, false, false, false⟩ : Api_Pin)).Level, (r14.getD (0 + (Int.toNat a1.Pin)) (⟨0, 0, false, false, false, false, false⟩ : Api_Pin)).Masked, (r14.getD (0 + (Int.toNat a1.Pin)) (⟨0, 0, false, false, false, false, false⟩ : Api_Pin)).Up, (r14.getD (0 + (Int.toNat a1.Pin)) (⟨0, 0, false, false, false, false, false⟩ : Api_Pin)).Kept, false⟩ : Api_Pin)).set (0 + (Int.toNat a1.Pin)) r43.2).getD (0 + (Int.toNat a1.Pin)) (⟨0, 0, false, false, false, false, false⟩ : Api_Pin)).Core, (((r14.set (0 + (Int.toNat a1.Pin)) (⟨(r14.getD (0 + (Int.toNat a1.Pin)) (⟨0, 0, false, false, false, false, false⟩ : Api_Pin)).Core, (r14.getD (0 + (Int.toNat a1.Pin)) (⟨0, 0, false, false, false, false, false⟩ : Api_Pin)).Vec, (r14.getD (0 + (Int.toNat a1.Pin)) (⟨0, 0, false, false, false, false, false⟩ : Api_Pin)).Level, (r14.getD (0 + (Int.toNat a1.Pin)) (⟨0, 0, false, false, false, false, false⟩ : Api_Pin)).Masked, (r14.getD (0 + (Int.toNat a1.Pin)) (⟨0, 0, false, false, false, false, false⟩ : Api_Pin)).Up, (r14.getD (0 + (Int.toNat a1.Pin)) (⟨0, 0, false, false, false, false, false⟩ : Api_Pin)).Kept, false⟩ : Api_Pin)).set (0 + (Int.toNat a1.Pin)) r43.2).getD (0 + (Int.toNat a1.Pin)) (⟨0, 0, false, false, false, false, false⟩ : Api_Pin)).Vec⟩ : Api_Sent)], 0)
         else
          some (((r14.set (0 + (Int.toNat a1.Pin)) (⟨(r14.getD (0 + (Int.toNat a1.Pin)) (⟨0, 0, false, false, false, false, false⟩ : Api_Pin)).Core, (r14.getD (0 + (Int.toNat a1.Pin)) (⟨0, 0, false, false, false, false, false⟩ : Api_Pin)).Vec, (r14.getD (0 + (Int.toNat a1.Pin)) (⟨0, 0, false, false, false, false, false⟩ : Api_Pin)).Level, (r14.getD (0 + (Int.toNat a1.Pin)) (⟨0, 0, false, false, false, false, false⟩ : Api_Pin)).Masked, (r14.getD (0 + (Int.toNat a1.Pin)) (⟨0, 0, false, false, false, false, false⟩ : Api_Pin)).Up, (r14.getD (0 + (Int.toNat a1.Pin)) (⟨0, 0, false, false, false, false, false⟩ : Api_Pin)).Kept, false⟩ : Api_Pin)).set (0 + (Int.toNat a1.Pin)) r43.2), ([] : List Api_Sent), 0)
        else
         (line_fire (r14.getD (0 + (Int.toNat a1.Pin)) (⟨0, 0, false, false, false, false, false⟩ : Api_Pin)) (((a1.Kind : Int) == 1) && (!((r14.getD (0 + (Int.toNat a1.Pin)) (⟨0, 0, false, false, false, false, false⟩ : Api_Pin)).Up)))).bind fun r46 =>
         bif r46.1 then
          some ((r14.set (0 + (Int.toNat a1.Pin)) r46.2), [(⟨a1.Pin, ((r14.set (0 + (Int.toNat a1.Pin)) r46.2).getD (0 + (Int.toNat a1.Pin)) (⟨0, 0, false, false, false, false, false⟩ : Api_Pin)).Core, ((r14.set (0 + (Int.toNat a1.Pin)) r46.2).getD (0 + (Int.toNat a1.Pin)) (⟨0, 0, false, false, false, false, false⟩ : Api_Pin)).Vec⟩ : Api_Sent)], 0)
         else
          some ((r14.set (0 + (Int.toNat a1.Pin)) r46.2), ([] : List Api_Sent), 0)
    else
     bif ((a1.Kind : Int) == 2) then
      (line_fire ((r14.set (0 + (Int.toNat a1.Pin)) (⟨(r14.getD (0 + (Int.toNat a1.Pin)) (⟨0, 0, false, false, false, false, false⟩ : Api_Pin)).Core, (r14.getD (0 + (Int.toNat a1.Pin)) (⟨0, 0, false, false, false, false, false⟩ : Api_Pin)).Vec, (r14.getD (0 + (Int.toNat a1.Pin)) (⟨0, 0, false, false, false, false, false⟩ : Api_Pin)).Level, (r14.getD (0 + (Int.toNat a1.Pin)) (⟨0, 0, false, false, false, false, false⟩ : Api_Pin)).Masked, ((a1.Kind : Int) == 1), (r14.getD (0 + (Int.toNat a1.Pin)) (⟨0, 0, false, false, false, false, false⟩ : Api_Pin)).Kept, (r14.getD (0 + (Int.toNat a1.Pin)) (⟨0, 0, false, false, false, false, false⟩ : Api_Pin)).Sent⟩ : Api_Pin)).getD (0 + (Int.toNat a1.Pin)) (⟨0, 0, false, false, false, false, false⟩ : Api_Pin)) (((a1.Kind : Int) == 1) && (!((r14.getD (0 + (Int.toNat a1.Pin)) (⟨0, 0, false, false, false, false, false⟩ : Api_Pin)).Up)))).bind fun r50 =>
      bif r50.1 then
       some (((r14.set (0 + (Int.toNat a1.Pin)) (⟨(r14.getD (0 + (Int.toNat a1.Pin)) (⟨0, 0, false, false, false, false, false⟩ : Api_Pin)).Core, (r14.getD (0 + (Int.toNat a1.Pin)) (⟨0, 0, false, false, false, false, false⟩ : Api_Pin)).Vec, (r14.getD (0 + (Int.toNat a1.Pin)) (⟨0, 0, false, false, false, false, false⟩ : Api_Pin)).Level, (r14.getD (0 + (Int.toNat a1.Pin)) (⟨0, 0, false, false, false, false, false⟩ : Api_Pin)).Masked, ((a1.Kind : Int) == 1), (r14.getD (0 + (Int.toNat a1.Pin)) (⟨0, 0, false, false, false, false, false⟩ : Api_Pin)).Kept, (r14.getD (0 + (Int.toNat a1.Pin)) (⟨0, 0, false, false, false, false, false⟩ : Api_Pin)).Sent⟩ : Api_Pin)).set (0 + (Int.toNat a1.Pin)) r50.2), [(⟨a1.Pin, (((r14.set (0 + (Int.toNat a1.Pin)) (⟨(r14.getD (0 + (Int.toNat a1.Pin)) (⟨0, 0, false, false, false, false, false⟩ : Api_Pin)).Core, (r14.getD (0 + (Int.toNat a1.Pin)) (⟨0, 0, false, false, false, false, false⟩ : Api_Pin)).Vec, (r14.getD (0 + (Int.toNat a1.Pin)) (⟨0, 0, false, false, false, false, false⟩ : Api_Pin)).Level, (r14.getD (0 + (Int.toNat a1.Pin)) (⟨0, 0, false, false, false, false, false⟩ : Api_Pin)).Masked, ((a1.Kind : Int) == 1), (r14.getD (0 + (Int.toNat a1.Pin)) (⟨0, 0, false, false, false, false, false⟩ : Api_Pin)).Kept, (r14.getD (0 + (Int.toNat a1.Pin)) (⟨0, 0, false, false, false, false, false⟩ : Api_Pin)).Sent⟩ : Api_Pin)).set (0 + (Int.toNat a1.Pin)) r50.2).getD (0 + (Int.toNat a1.Pin)) (⟨0, 0, false, false, false, false, false⟩ : Api_Pin)).Core, (((r14.set (0 + (Int.toNat a1.Pin)) (⟨(r14.getD (0 + (Int.toNat a1.Pin)) (⟨0, 0, false, false, false, false, false⟩ : Api_Pin)).Core, (r14.getD (0 + (Int.toNat a1.Pin)) (⟨0, 0, false, false, false, false, false⟩ : Api_Pin)).Vec, (r14.getD (0 + (Int.toNat a1.Pin)) (⟨0, 0, false, false, false, false, false⟩ : Api_Pin)).Level, (r14.getD (0 + (Int.toNat a1.Pin)) (⟨0, 0, false, false, false, false, false⟩ : Api_Pin)).Masked, ((a1.Kind : Int) == 1), (r14.getD (0 + (Int.toNat a1.Pin)) (⟨0, 0, false, false, false, false, false⟩ : Api_Pin)).Kept, (r14.getD (0 + (Int.toNat a1.Pin)) (⟨0, 0, false, false, false, false, false⟩ : Api_Pin)).Sent⟩ : Api_Pin)).set (0 + (Int.toNat a1.Pin)) r50.2).getD (0 + (Int.toNat a1.Pin)) (⟨0, 0, false, false, false, false, false⟩ : Api_Pin)).Vec⟩ : Api_Sent)], 0)
      else
       some (((r14.set (0 + (Int.toNat a1.Pin)) (⟨(r14.getD (0 + (Int.toNat a1.Pin)) (⟨0, 0, false, false, false, false, false⟩ : Api_Pin)).Core, (r14.getD (0 + (Int.toNat a1.Pin)) (⟨0, 0, false, false, false, false, false⟩ : Api_Pin)).Vec, (r14.getD (0 + (Int.toNat a1.Pin)) (⟨0, 0, false, false, false, false, false⟩ : Api_Pin)).Level, (r14.getD (0 + (Int.toNat a1.Pin)) (⟨0, 0, false, false, false, false, false⟩ : Api_Pin)).Masked, ((a1.Kind : Int) == 1), (r14.getD (0 + (Int.toNat a1.Pin)) (⟨0, 0, false, false, false, false, false⟩ : Api_Pin)).Kept, (r14.getD (0 + (Int.toNat a1.Pin)) (⟨0, 0, false, false, false, false, false⟩ : Api_Pin)).Sent⟩ : Api_Pin)).set (0 + (Int.toNat a1.Pin)) r50.2), ([] : List Api_Sent), 0)
     else
      bif ((a1.Kind : Int) == 3) then
       bif ((a1.Kind : Int) == 3) then
        (line_fire ((r14.set (0 + (Int.toNat a1.Pin)) (⟨(r14.getD (0 + (Int.toNat a1.Pin)) (⟨0, 0, false, false, false, false, false⟩ : Api_Pin)).Core, (r14.getD (0 + (Int.toNat a1.Pin)) (⟨0, 0, false, false, false, false, false⟩ : Api_Pin)).Vec, (r14.getD (0 + (Int.toNat a1.Pin)) (⟨0, 0, false, false, false, false, false⟩ : Api_Pin)).Level, ((a1.Kind : Int) == 3), (r14.getD (0 + (Int.toNat a1.Pin)) (⟨0, 0, false, false, false, false, false⟩ : Api_Pin)).Up, (r14.getD (0 + (Int.toNat a1.Pin)) (⟨0, 0, false, false, false, false, false⟩ : Api_Pin)).Kept, (r14.getD (0 + (Int.toNat a1.Pin)) (⟨0, 0, false, false, false, false, false⟩ : Api_Pin)).Sent⟩ : Api_Pin)).getD (0 + (Int.toNat a1.Pin)) (⟨0, 0, false, false, false, false, false⟩ : Api_Pin)) (((a1.Kind : Int) == 1) && (!((r14.getD (0 + (Int.toNat a1.Pin)) (⟨0, 0, false, false, false, false, false⟩ : Api_Pin)).Up)))).bind fun r55 =>
        bif r55.1 then
         some (((r14.set (0 + (Int.toNat a1.Pin)) (⟨(r14.getD (0 + (Int.toNat a1.Pin)) (⟨0, 0, false, false, false, false, false⟩ : Api_Pin)).Core, (r14.getD (0 + (Int.toNat a1.Pin)) (⟨0, 0, false, false, false, false, false⟩ : Api_Pin)).Vec, (r14.getD (0 + (Int.toNat a1.Pin)) (⟨0, 0, false, false, false, false, false⟩ : Api_Pin)).Level, ((a1.Kind : Int) == 3), (r14.getD (0 + (Int.toNat a1.Pin)) (⟨0, 0, false, false, false, false, false⟩ : Api_Pin)).Up, (r14.getD (0 + (Int.toNat a1.Pin)) (⟨0, 0, false, false, false, false, false⟩ : Api_Pin)).Kept, (r14.getD (0 + (Int.toNat a1.Pin)) (⟨0, 0, false, false, false, false, false⟩ : Api_Pin)).Sent⟩ : Api_Pin)).set (0 + (Int.toNat a1.Pin)) r55.2), [(⟨a1.Pin, (((r14.set (0 + (Int.toNat a1.Pin)) (⟨(r14.getD (0 + (Int.toNat a1.Pin)) (⟨0, 0, false, false, false, false, false⟩ : Api_Pin)).Core, (r14.getD (0 + (Int.toNat a1.Pin)) (⟨0, 0, false, false, false, false, false⟩ : Api_Pin)).Vec, (r14.getD (0 + (Int.toNat a1.Pin)) (⟨0, 0, false, false, false, false, false⟩ : Api_Pin)).Level, ((a1.Kind : Int) == 3), (r14.getD (0 + (Int.toNat a1.Pin)) (⟨0, 0, false, false, false, false, false⟩ : Api_Pin)).Up, (r14.getD (0 + (Int.toNat a1.Pin)) (⟨0, 0, false, false, false, false, false⟩ : Api_Pin)).Kept, (r14.getD (0 + (Int.toNat a1.Pin)) (⟨0, 0, false, false, false, false, false⟩ : Api_Pin)).Sent⟩ : Api_Pin)).set (0 + (Int.toNat a1.Pin)) r55.2).getD (0 + (Int.toNat a1.Pin)) (⟨0, 0, false, false, false, false, false⟩ : Api_Pin)).Core, (((r14.set (0 + (Int.toNat a1.Pin)) (⟨(r14.getD (0 + (Int.toNat a1.Pin)) (⟨0, 0, false, false, false, false, false⟩ : Api_Pin)).Core, (r14.getD (0 + (Int.toNat a1.Pin)) (⟨0, 0, false, false, false, false, false⟩ : Api_Pin)).Vec, (r14.getD (0 + (Int.toNat a1.Pin)) (⟨0, 0, false, false, false, false, false⟩ : Api_Pin)).Level, ((a1.Kind : Int) == 3), (r14.getD (0 + (Int.toNat a1.Pin)) (⟨0, 0, false, false, false, false, false⟩ : Api_Pin)).Up, (r14.getD (0 + (Int.toNat a1.Pin)) (⟨0, 0, false, false, false, false, false⟩ : Api_Pin)).Kept, (r14.getD (0 + (Int.toNat a1.Pin)) (⟨0, 0, false, false, false, false, false⟩ : Api_Pin)).Sent⟩ : Api_Pin)).set (0 + (Int.toNat a1.Pin)) r55.2).getD (0 + (Int.toNat a1.Pin)) (⟨0, 0, false, false, false, false, false⟩ : Api_Pin)).Vec⟩ : Api_Sent)], 0)
        else
         some (((r14.set (0 + (Int.toNat a1.Pin)) (⟨(r14.getD (0 + (Int.toNat a1.Pin)) (⟨0, 0, false, false, false, false, false⟩ : Api_Pin)).Core, (r14.getD (0 + (Int.toNat a1.Pin)) (⟨0, 0, false, false, false, false, false⟩ : Api_Pin)).Vec, (r14.getD (0 + (Int.toNat a1.Pin)) (⟨0, 0, false, false, false, false, false⟩ : Api_Pin)).Level, ((a1.Kind : Int) == 3), (r14.getD (0 + (Int.toNat a1.Pin)) (⟨0, 0, false, false, false, false, false⟩ : Api_Pin)).Up, (r14.getD (0 + (Int.toNat a1.Pin)) (⟨0, 0, false, false, false, false, false⟩ : Api_Pin)).Kept, (r14.getD (0 + (Int.toNat a1.Pin)) (⟨0, 0, false, false, false, false, false⟩ : Api_Pin)).Sent⟩ : Api_Pin)).set (0 + (Int.toNat a1.Pin)) r55.2), ([] : List Api_Sent), 0)
       else
        bif ((a1.Kind : Int) == 5) then
         (line_fire ((r14.set (0 + (Int.toNat a1.Pin)) (⟨(r14.getD (0 + (Int.toNat a1.Pin)) (⟨0, 0, false, false, false, false, false⟩ : Api_Pin)).Core, (r14.getD (0 + (Int.toNat a1.Pin)) (⟨0, 0, false, false, false, false, false⟩ : Api_Pin)).Vec, (r14.getD (0 + (Int.toNat a1.Pin)) (⟨0, 0, false, false, false, false, false⟩ : Api_Pin)).Level, (r14.getD (0 + (Int.toNat a1.Pin)) (⟨0, 0, false, false, false, false, false⟩ : Api_Pin)).Masked, (r14.getD (0 + (Int.toNat a1.Pin)) (⟨0, 0, false, false, false, false, false⟩ : Api_Pin)).Up, (r14.getD (0 + (Int.toNat a1.Pin)) (⟨0, 0, false, false, false, false, false⟩ : Api_Pin)).Kept, false⟩ : Api_Pin)).getD (0 + (Int.toNat a1.Pin)) (⟨0, 0, false, false, false, false, false⟩ : Api_Pin)) (((a1.Kind : Int) == 1) && (!((r14.getD (0 + (Int.toNat a1.Pin)) (⟨0, 0, false, false, false, false, false⟩ : Api_Pin)).Up)))).bind fun r59 =>
         bif r59.1 then
          some (((r14.set (0 + (Int.toNat a1.Pin)) (⟨(r14.getD (0 + (Int.toNat a1.Pin)) (⟨0, 0, false, false, false, false, false⟩ : Api_Pin)).Core, (r14.getD (0 + (Int.toNat a1.Pin)) (⟨0, 0, false, false, false, false, false⟩ : Api_Pin)).Vec, (r14.getD (0 + (Int.toNat a1.Pin)) (⟨0, 0, false, false, false, false, false⟩ : Api_Pin)).Level, (r14.getD (0 + (Int.toNat a1.Pin)) (⟨0, 0, false, false, false, false, false⟩ : Api_Pin)).Masked, (r14.getD (0 + (Int.toNat a1.Pin)) (⟨0, 0, false, false, false, false, false⟩ : Api_Pin)).Up, (r14.getD (0 + (Int.toNat a1.Pin)) (⟨0, 0, false, false, false, false, false⟩ : Api_Pin)).Kept, false⟩ : Api_Pin)).set (0 + (Int.toNat a1.Pin)) r59.2), [(⟨a1.Pin, (((r14.set (0 + (Int.toNat a1.Pin)) (⟨(r14.getD (0 + (Int.toNat a1.Pin)) (⟨0, 0, false, false, false, false, false⟩ : Api_Pin)).Core, (r14.getD (0 + (Int.toNat a1.Pin)) (⟨0, 0, false, false, false, false, false⟩ : Api_Pin)).Vec, (r14.getD (0 + (Int.toNat a1.Pin)) (⟨0, 0, false, false, false, false, false⟩ : Api_Pin)).Level, (r14.getD (0 + (Int.toNat a1.Pin)) (⟨0, 0, false, false, false, false, false⟩ : Api_Pin)).Masked, (r14.getD (0 + (Int.toNat a1.Pin)) (⟨0, 0, false, false, false, false, false⟩ : Api_Pin)).Up, (r14.getD (0 + (Int.toNat a1.Pin)) (⟨0, 0, false, false, false, false, false⟩ : Api_Pin)).Kept, false⟩ : Api_Pin)).set (0 + (Int.toNat a1.Pin)) r59.2).getD (0 + (Int.toNat a1.Pin)) (⟨0, 0, false, false, false, false, false⟩ : Api_Pin)).Core, (((r14.set (0 + (Int.toNat a1.Pin)) (⟨(r14.getD (0 + (Int.toNat a1.Pin)) (⟨0, 0, false, false, false, false, false⟩ : Api_Pin)).Core, (r14.getD (0 + (Int.toNat a1.Pin)) (⟨0, 0, false, false, false, false, false⟩ : Api_Pin)).Vec, (r14.getD (0 + (Int.toNat a1.Pin)) (⟨0, 0, false, false, false, false, false⟩ : Api_Pin)).Level, (r14.getD (0 + (Int.toNat a1.Pin)) (⟨0, 0, false, false, false, false, false⟩ : Api_Pin)).Masked, (r14.getD (0 + (Int.toNat a1.Pin)) (⟨0, 0, false, false, false, false, false⟩ : Api_Pin)).Up, (r14.getD (0 + (Int.toNat a1.Pin)) (⟨0, 0, false, false, false, false, false⟩ : Api_Pin)).Kept, false⟩ : Api_Pin)).set (0 + (Int.toNat a1.Pin)) r59.2).getD (0 + (Int.toNat a1.Pin)) (⟨0, 0, false, false, false, false, false⟩ : Api_Pin)).Vec⟩ : Api_Sent)], 0)
         else
          some (((r14.set (0 + (Int.toNat a1.Pin)) (⟨(r14.getD (0 + (Int.toNat a1.Pin)) (⟨0, 0, false, false, false, false, false⟩ : Api_Pin)).Core, (r14.getD (0 + (Int.toNat a1.Pin)) (⟨0, 0, false, false, false, false, false⟩ : Api_Pin)).Vec, (r14.getD (0 + (Int.toNat a1.Pin)) (⟨0, 0, false, false, false, false, false⟩ : Api_Pin)).Level, (r14.getD (0 + (Int.toNat a1.Pin)) (⟨0, 0, false, false, false, false, false⟩ : Api_Pin)).Masked, (r14.getD (0 + (Int.toNat a1.Pin)) (⟨0, 0, false, false, false, false, false⟩ : Api_Pin)).Up, (r14.getD (0 + (Int.toNat a1.Pin)) (⟨0, 0, false, false, false, false, false⟩ : Api_Pin)).Kept, false⟩ : Api_Pin)).set (0 + (Int.toNat a1.Pin)) r59.2), ([] : List Api_Sent), 0)
        else
         (line_fire (r14.getD (0 + (Int.toNat a1.Pin)) (⟨0, 0, false, false, false, false, false⟩ : Api_Pin)) (((a1.Kind : Int) == 1) && (!((r14.getD (0 + (Int.toNat a1.Pin)) (⟨0, 0, false, false, false, false, false⟩ : Api_Pin)).Up)))).bind fun r62 =>
         bif r62.1 then
          some ((r14.set (0 + (Int.toNat a1.Pin)) r62.2), [(⟨a1.Pin, ((r14.set (0 + (Int.toNat a1.Pin)) r62.2).getD (0 + (Int.toNat a1.Pin)) (⟨0, 0, false, false, false, false, false⟩ : Api_Pin)).Core, ((r14.set (0 + (Int.toNat a1.Pin)) r62.2).getD (0 + (Int.toNat a1.Pin)) (⟨0, 0, false, false, false, false, false⟩ : Api_Pin)).Vec⟩ : Api_Sent)], 0)
         else
          some ((r14.set (0 + (Int.toNat a1.Pin)) r62.2), ([] : List Api_Sent), 0)
      else
       bif ((a1.Kind : Int) == 4) then
        (line_fire ((r14.set (0 + (Int.toNat a1.Pin)) (⟨(r14.getD (0 + (Int.toNat a1.Pin)) (⟨0, 0, false, false, false, false, false⟩ : Api_Pin)).Core, (r14.getD (0 + (Int.toNat a1.Pin)) (⟨0, 0, false, false, false, false, false⟩ : Api_Pin)).Vec, (r14.getD (0 + (Int.toNat a1.Pin)) (⟨0, 0, false, false, false, false, false⟩ : Api_Pin)).Level, ((a1.Kind : Int) == 3), (r14.getD (0 + (Int.toNat a1.Pin)) (⟨0, 0, false, false, false, false, false⟩ : Api_Pin)).Up, (r14.getD (0 + (Int.toNat a1.Pin)) (⟨0, 0, false, false, false, false, false⟩ : Api_Pin)).Kept, (r14.getD (0 + (Int.toNat a1.Pin)) (⟨0, 0, false, false, false, false, false⟩ : Api_Pin)).Sent⟩ : Api_Pin)).getD (0 + (Int.toNat a1.Pin)) (⟨0, 0, false, false, false, false, false⟩ : Api_Pin)) (((a1.Kind : Int) == 1) && (!((r14.getD (0 + (Int.toNat a1.Pin)) (⟨0, 0, false, false, false, false, false⟩ : Api_Pin)).Up)))).bind fun r66 =>
        bif r66.1 then
         some (((r14.set (0 + (Int.toNat a1.Pin)) (⟨(r14.getD (0 + (Int.toNat a1.Pin)) (⟨0, 0, false, false, false, false, false⟩ : Api_Pin)).Core, (r14.getD (0 + (Int.toNat a1.Pin)) (⟨0, 0, false, false, false, false, false⟩ : Api_Pin)).Vec, (r14.getD (0 + (Int.toNat a1.Pin)) (⟨0, 0, false, false, false, false, false⟩ : Api_Pin)).Level, ((a1.Kind : Int) == 3), (r14.getD (0 + (Int.toNat a1.Pin)) (⟨0, 0, false, false, false, false, false⟩ : Api_Pin)).Up, (r14.getD (0 + (Int.toNat a1.Pin)) (⟨0, 0, false, false, false, false, false⟩ : Api_Pin)).Kept, (r14.getD (0 + (Int.toNat a1.Pin)) (⟨0, 0, false, false, false, false, false⟩ : Api_Pin)).Sent⟩ : Api_Pin)).set (0 + (Int.toNat a1.Pin)) r66.2), [(⟨a1.Pin, (((r14.set (0 + (Int.toNat a1.Pin)) (⟨(r14.getD (0 + (Int.toNat a1.Pin)) (⟨0, 0, false, false, false, false, false⟩ : Api_Pin)).Core, (r14.getD (0 + (Int.toNat a1.Pin)) (⟨0, 0, false, false, false, false, false⟩ : Api_Pin)).Vec, (r14.getD (0 + (Int.toNat a1.Pin)) (⟨0, 0, false, false, false, false, false⟩ : Api_Pin)).Level, ((a1.Kind : Int) == 3), (r14.getD (0 + (Int.toNat a1.Pin)) (⟨0, 0, false, false, false, false, false⟩ : Api_Pin)).Up, (r14.getD (0 + (Int.toNat a1.Pin)) (⟨0, 0, false, false, false, false, false⟩ : Api_Pin)).Kept, (r14.getD (0 + (Int.toNat a1.Pin)) (⟨0, 0, false, false, false, false, false⟩ : Api_Pin)).Sent⟩ : Api_Pin)).set (0 + (Int.toNat a1.Pin)) r66.2).getD (0 + (Int.toNat a1.Pin)) (⟨0, 0, false, false, false, false, false⟩ : Api_Pin)).Core, (((r14.set (0 + (Int.toNat a1.Pin)) (⟨(r14.getD (0 + (Int.toNat a1.Pin)) (⟨0, 0, false, false, false, false, false⟩ : Api_Pin)).Core, (r14.getD (0 + (Int.toNat a1.Pin)) (⟨0, 0, false, false, false, false, false⟩ : Api_Pin)).Vec, (r14.getD (0 + (Int.toNat a1.Pin)) (⟨0, 0, false, false, false, false, false⟩ : Api_Pin)).Level, ((a1.Kind : Int) == 3), (r14.getD (0 + (Int.toNat a1.Pin)) (⟨0, 0, false, false, false, false, false⟩ : Api_Pin)).Up, (r14.getD (0 + (Int.toNat a1.Pin)) (⟨0, 0, false, false, false, false, false⟩ : Api_Pin)).Kept, (r14.getD (0 + (Int.toNat a1.Pin)) (⟨0, 0, false, false, false, false, false⟩ : Api_Pin)).Sent⟩ : Api_Pin)).set (0 + (Int.toNat a1.Pin)) r66.2).getD (0 + (Int.toNat a1.Pin)) (⟨0, 0, false, false, false, false, false⟩ : Api_Pin)).Vec⟩ : Api_Sent)], 0)
        else
         some (((r14.set (0 + (Int.toNat a1.Pin)) (⟨(r14.getD (0 + (Int.toNat a1.Pin)) (⟨0, 0, false, false, false, false, false⟩ : Api_Pin)).Core, (r14.getD (0 + (Int.toNat a1.Pin)) (⟨0, 0, false, false, false, false, false⟩ : Api_Pin)).Vec, (r14.getD (0 + (Int.toNat a1.Pin)) (⟨0, 0, false, false, false, false, false⟩ : Api_Pin)).Level, ((a1.Kind : Int) == 3), (r14.getD (0 + (Int.toNat a1.Pin)) (⟨0, 0, false, false, false, false, false⟩ : Api_Pin)).Up, (r14.getD (0 + (Int.toNat a1.Pin)) (⟨0, 0, false, false, false, false, false⟩ : Api_Pin)).Kept, (r14.getD (0 + (Int.toNat a1.Pin)) (⟨0, 0, false, false, false, false, false⟩ : Api_Pin)).Sent⟩ : Api_Pin)).set (0 + (Int.toNat a1.Pin)) r66.2), ([] : List Api_Sent), 0)
       else
        bif ((a1.Kind : Int) == 5) then
         (line_fire ((r14.set (0 + (Int.toNat a1.Pin)) (⟨(r14.getD (0 + (Int.toNat a1.Pin)) (⟨0, 0, false, false, false, false, false⟩ : Api_Pin)).Core, (r14.getD (0 + (Int.toNat a1.Pin)) (⟨0, 0, false, false, false, false, false⟩ : Api_Pin)).Vec, (r14.getD (0 + (Int.toNat a1.Pin)) (⟨0, 0, false, false, false, false, false⟩ : Api_Pin)).Level, (r14.getD (0 + (Int.toNat a1.Pin)) (⟨0, 0, false, false, false, false, false⟩ : Api_Pin)).Masked, (r14.getD (0 + (Int.toNat a1.Pin)) (⟨0, 0, false, false, false, false, false⟩ : Api_Pin)).Up, (r14.getD (0 + (Int.toNat a1.Pin)) (⟨0, 0, false, false, false, false, false⟩ : Api_Pin)).Kept, false⟩ : Api_Pin)).getD (0 + (Int.toNat a1.Pin)) (⟨0, 0, false, false, false, false, false⟩ : Api_Pin)) (((a1.Kind : Int) == 1) && (!((r14.getD (0 + (Int.toNat a1.Pin)) (⟨0, 0, false, false, false, false, false⟩ : Api_Pin)).Up)))).bind fun r70 =>
         bif r70.1 then
          some (((r14.set (0 + (Int.toNat a1.Pin)) (⟨(r14.getD (0 + (Int.toNat a1.Pin)) (⟨0, 0, false, false, false, false, false⟩ : Api_Pin)).Core, (r14.getD (0 + (Int.toNat a1.Pin)) (⟨0, 0, false, false, false, false, false⟩ : Api_Pin)).Vec, (r14.getD (0 + (Int.toNat a1.Pin)) (⟨0, 0, false, false, false, false, false⟩ : Api_Pin)).Level, (r14.getD (0 + (Int.toNat a1.Pin)) (⟨0, 0, false, false, false, false, false⟩ : Api_Pin)).Masked, (r14.getD (0 + (Int.toNat a1.Pin)) (⟨0, 0, false, false, false, false, false⟩ : Api_Pin)).Up, (r14.getD (0 + (Int.toNat a1.Pin)) (⟨0, 0, false, false, false, false, false⟩ : Api_Pin)).Kept, false⟩ : Api_Pin)).set (0 + (Int.toNat a1.Pin)) r70.2), [(⟨a1.Pin, (((r14.set (0 + (Int.toNat a1.Pin)) (⟨(r14.getD (0 + (Int.toNat a1.Pin)) (⟨0, 0, false, false, false, false, false⟩ : Api_Pin)).Core, (r14.getD (0 + (Int.toNat a1.Pin)) (⟨0, 0, false, false, false, false, false⟩ : Api_Pin)).Vec, (r14.getD (0 + (Int.toNat a1.Pin)) (⟨0, 0, false, false, false, false, false⟩ : Api_Pin)).Level, (r14.getD (0 + (Int.toNat a1.Pin)) (⟨0, 0, false, false, false, false, false⟩ : Api_Pin)).Masked, (r14.getD (0 + (Int.toNat a1.Pin)) (⟨0, 0, false, false, false, false, false⟩ : Api_Pin)).Up, (r14.getD (0 + (Int.toNat a1.Pin)) (⟨0, 0, false, false, false, false, false⟩ : Api_Pin)).Kept, false⟩ : Api_Pin)).set (0 + (Int.toNat a1.Pin)) r70.2).getD (0 + (Int.toNat a1.Pin)) (⟨0, 0, false, false, false, false, false⟩ : Api_Pin)).Core, (((r14.set (0 + (Int.toNat a1.Pin)) (⟨(r14.getD (0 + (Int.toNat a1.Pin)) (⟨0, 0, false, false, false, false, false⟩ : Api_Pin)).Core, (r14.getD (0 + (Int.toNat a1.Pin)) (⟨0, 0, false, false, false, false, false⟩ : Api_Pin)).Vec, (r14.getD (0 + (Int.toNat a1.Pin)) (⟨0, 0, false, false, false, false, false⟩ : Api_Pin)).Level, (r14.getD (0 + (Int.toNat a1.Pin)) (⟨0, 0, false, false, false, false, false⟩ : Api_Pin)).Masked, (r14.getD (0 + (Int.toNat a1.Pin)) (⟨0, 0, false, false, false, false, false⟩ : Api_Pin)).Up, (r14.getD (0 + (Int.toNat a1.Pin)) (⟨0, 0, false, false, false, false, false⟩ : Api_Pin)).Kept, false⟩ : Api_Pin)).set (0 + (Int.toNat a1.Pin)) r70.2).getD (0 + (Int.toNat a1.Pin)) (⟨0, 0, false, false, false, false, false⟩ : Api_Pin)).Vec⟩ : Api_Sent)], 0)
         else
          some (((r14.set (0 + (Int.toNat a1.Pin)) (⟨(r14.getD (0 + (Int.toNat a1.Pin)) (⟨0, 0, false, false, false, false, false⟩ : Api_Pin)).Core, (r14.getD (0 + (Int.toNat a1.Pin)) (⟨0, 0, false, false, false, false, false⟩ : Api_Pin)).Vec, (r14.getD (0 + (Int.toNat a1.Pin)) (⟨0, 0, false, false, false, false, false⟩ : Api_Pin)).Level, (r14.getD (0 + (Int.toNat a1.Pin)) (⟨0, 0, false, false, false, false, false⟩ : Api_Pin)).Masked, (r14.getD (0 + (Int.toNat a1.Pin)) (⟨0, 0, false, false, false, false, false⟩ : Api_Pin)).Up, (r14.getD (0 + (Int.toNat a1.Pin)) (⟨0, 0, false, false, false, false, false⟩ : Api_Pin)).Kept, false⟩ : Api_Pin)).set (0 + (Int.toNat a1.Pin)) r70.2), ([] : List Api_Sent), 0)
        else
         (line_fire (r14.getD (0 + (Int.toNat a1.Pin)) (⟨0, 0, false, false, false, false, false⟩ : Api_Pin)) (((a1.Kind : Int) == 1) && (!((r14.getD (0 + (Int.toNat a1.Pin)) (⟨0, 0, false, false, false, false, false⟩ : Api_Pin)).Up)))).bind fun r73 =>
         bif r73.1 then
          some ((r14.set (0 + (Int.toNat a1.Pin)) r73.2), [(⟨a1.Pin, ((r14.set (0 + (Int.toNat a1.Pin)) r73.2).getD (0 + (Int.toNat a1.Pin)) (⟨0, 0, false, false, false, false, false⟩ : Api_Pin)).Core, ((r14.set (0 + (Int.toNat a1.Pin)) r73.2).getD (0 + (Int.toNat a1.Pin)) (⟨0, 0, false, false, false, false, false⟩ : Api_Pin)).Vec⟩ : Api_Sent)], 0)
         else
          some ((r14.set (0 + (Int.toNat a1.Pin)) r73.2), ([] : List Api_Sent), 0)
    else none
def line_Play_l1 (a0 : (List Api_Pin)) (a1 : (List Api_PinOp)) : Nat → List Api_Pin → List Api_Sent → Nat → Option ((List Api_Pin) × (List Api_Sent) × Int)
 | 0, _, _, _ => none
 | n1 + 1, l4, l5, k6 =>
  bif (decide ((((k6 : Nat) : Int) : Int) < ((a1.length : Nat) : Int))) then
   (line_Step l4 (a1.getD k6 (⟨0, 0⟩ : Api_PinOp))).bind fun r9 =>
   bif ((r9.2.2 : Int) == 0) then
    if ((l5).length + (r9.2.1).length + ((l5).length + (r9.2.1).length) / 4 + 192) * 24 ≤ 281474976710656 ∧ (l5).length + (r9.2.1).length ≤ 140737488355328 then
    line_Play_l1 a0 a1 n1 r9.1 (l5 ++ r9.2.1) (k6 + 1)
    else none
   else
    line_Play_l1 a0 a1 n1 l4 l5 (k6 + 1)
  else
   (slices_Clone_api_Pin l4).bind fun r13 =>
   some (r13, l5, 0)
def line_Play (a0 : (List Api_Pin)) (a1 : (List Api_PinOp)) : Option ((List Api_Pin) × (List Api_Sent) × Int) :=
 (line_Right a0).bind fun r1 =>
 bif (!r1) then
  some (([] : List Api_Pin), ([] : List Api_Sent), 1)
 else
  line_Play_l1 a0 a1 FUEL a0 ([] : List Api_Sent) 0
def slices_Equal_api_Sent_l1 (a0 : (List Api_Sent)) (a1 : (List Api_Sent)) : Nat → Nat → Option (Bool)
 | 0, _ => none
 | n1 + 1, k2 =>
  bif (decide ((((k2 : Nat) : Int) : Int) < ((a0.length : Nat) : Int))) then
   if 0 ≤ (((k2 : Nat) : Int) : Int) ∧ ((k2 : Nat) : Int) < ((a1.length : Nat) : Int) then
   bif (!((((a0.getD k2 (⟨0, 0, 0⟩ : Api_Sent)).Pin : Int) == ((a1.getD k2 (⟨0, 0, 0⟩ : Api_Sent)).Pin)) && ((((a0.getD k2 (⟨0, 0, 0⟩ : Api_Sent)).Core : Int) == ((a1.getD k2 (⟨0, 0, 0⟩ : Api_Sent)).Core)) && ((((a0.getD k2 (⟨0, 0, 0⟩ : Api_Sent)).Vec : Int) == ((a1.getD k2 (⟨0, 0, 0⟩ : Api_Sent)).Vec)) && true)))) then
    some false
   else
    slices_Equal_api_Sent_l1 a0 a1 n1 (k2 + 1)
   else none
  else
   some true
def slices_Equal_api_Sent (a0 : (List Api_Sent)) (a1 : (List Api_Sent)) : Option (Bool) :=
 bif ((((a0.length : Nat) : Int) : Int) != ((a1.length : Nat) : Int)) then
  some false
 else
  slices_Equal_api_Sent_l1 a0 a1 FUEL 0
def keep_alive3 : Option (Bool) :=
 (line_Play [(⟨0, 40, false, false, false, false, false⟩ : Api_Pin), (⟨1, 50, true, false, false, false, false⟩ : Api_Pin)] [(⟨3, 0⟩ : Api_PinOp), (⟨1, 0⟩ : Api_PinOp), (⟨4, 0⟩ : Api_PinOp), (⟨1, 1⟩ : Api_PinOp), (⟨5, 1⟩ : Api_PinOp)]).bind fun r1 =>
 (bif (((r1.2.2 : Int) == 0) && ((((r1.1.length : Nat) : Int) : Int) == 2)) then slices_Equal_api_Sent r1.2.1 [(⟨0, 0, 40⟩ : Api_Sent), (⟨1, 1, 50⟩ : Api_Sent), (⟨1, 1, 50⟩ : Api_Sent)] else some false).bind fun r6 =>
 some ((((r1.2.2 : Int) == 0) && ((((r1.1.length : Nat) : Int) : Int) == 2)) && r6)
def slices_Clone_api_PinOp (a0 : List Api_PinOp) : Option (List Api_PinOp) := if a0.length * 16 ≤ 140737488355328 then some a0 else none
def slices_Insert_api_PinOp (a0 : List Api_PinOp) (a1 : Int) (a2 : List Api_PinOp) : Option (List Api_PinOp) := if 0 ≤ a1 ∧ a1 ≤ a0.length ∧ 0 < a2.length ∧ (a0.length + a2.length) * 16 ≤ 140737488355328 ∧ a0.length + a2.length ≤ 140737488355328 then some (a0.take a1.toNat ++ a2 ++ a0.drop a1.toNat) else none
def slices_Equal_api_Pin_l1 (a0 : (List Api_Pin)) (a1 : (List Api_Pin)) : Nat → Nat → Option (Bool)
 | 0, _ => none
 | n1 + 1, k2 =>
  bif (decide ((((k2 : Nat) : Int) : Int) < ((a0.length : Nat) : Int))) then
   if 0 ≤ (((k2 : Nat) : Int) : Int) ∧ ((k2 : Nat) : Int) < ((a1.length : Nat) : Int) then
   bif (!((((a0.getD k2 (⟨0, 0, false, false, false, false, false⟩ : Api_Pin)).Core : Int) == ((a1.getD k2 (⟨0, 0, false, false, false, false, false⟩ : Api_Pin)).Core)) && ((((a0.getD k2 (⟨0, 0, false, false, false, false, false⟩ : Api_Pin)).Vec : Int) == ((a1.getD k2 (⟨0, 0, false, false, false, false, false⟩ : Api_Pin)).Vec)) && ((((a0.getD k2 (⟨0, 0, false, false, false, false, false⟩ : Api_Pin)).Level) == ((a1.getD k2 (⟨0, 0, false, false, false, false, false⟩ : Api_Pin)).Level)) && ((((a0.getD k2 (⟨0, 0, false, false, false, false, false⟩ : Api_Pin)).Masked) == ((a1.getD k2 (⟨0, 0, false, false, false, false, false⟩ : Api_Pin)).Masked)) && ((((a0.getD k2 (⟨0, 0, false, false, false, false, false⟩ : Api_Pin)).Up) == ((a1.getD k2 (⟨0, 0, false, false, false, false, false⟩ : Api_Pin)).Up)) && ((((a0.getD k2 (⟨0, 0, false, false, false, false, false⟩ : Api_Pin)).Kept) == ((a1.getD k2 (⟨0, 0, false, false, false, false, false⟩ : Api_Pin)).Kept)) && ((((a0.getD k2 (⟨0, 0, false, false, false, false, false⟩ : Api_Pin)).Sent) == ((a1.getD k2 (⟨0, 0, false, false, false, false, false⟩ : Api_Pin)).Sent)) && true)))))))) then
    some false
   else
    slices_Equal_api_Pin_l1 a0 a1 n1 (k2 + 1)
   else none
  else
   some true
def slices_Equal_api_Pin (a0 : (List Api_Pin)) (a1 : (List Api_Pin)) : Option (Bool) :=
 bif ((((a0.length : Nat) : Int) : Int) != ((a1.length : Nat) : Int)) then
  some false
 else
  slices_Equal_api_Pin_l1 a0 a1 FUEL 0
def keep_LineMask (a0 : (List Api_Pin)) (a1 : (List Api_PinOp)) (a2 : Int) (a3 : Int) : Option (Bool) :=
 (keep_alive3).bind fun r1 =>
 bif (!r1) then
  some false
 else
  (line_Right a0).bind fun r4 =>
  bif (((((!r4) || (decide ((a2 : Int) < 0))) || (decide ((a2 : Int) ≥ ((a0.length : Nat) : Int)))) || (decide ((a3 : Int) < 0))) || (decide ((a3 : Int) > ((a1.length : Nat) : Int)))) then
   some true
  else
   (slices_Clone_api_PinOp a1).bind fun r19 =>
   (slices_Insert_api_PinOp r19 a3 [(⟨3, a2⟩ : Api_PinOp), (⟨4, a2⟩ : Api_PinOp)]).bind fun r21 =>
   (line_Play a0 a1).bind fun r23 =>
   (line_Play a0 r21).bind fun r25 =>
   if 0 ≤ (a3 : Int) then
   if (Int.toNat a3) ≤ a1.length then
   (line_Play a0 ((a1.drop 0).take ((Int.toNat a3) - 0))).bind fun r29 =>
   bif ((((r23.2.2 : Int) != 0) || ((r25.2.2 : Int) != 0)) || ((r29.2.2 : Int) != 0)) then
    some false
   else
    if 0 ≤ (a2 : Int) ∧ a2 < ((r29.1.length : Nat) : Int) then
    (bif (!((r29.1.getD (0 + (Int.toNat a2)) (⟨0, 0, false, false, false, false, false⟩ : Api_Pin)).Masked)) then slices_Equal_api_Pin r23.1 r25.1 else some false).bind fun r37 =>
    (bif ((!((r29.1.getD (0 + (Int.toNat a2)) (⟨0, 0, false, false, false, false, false⟩ : Api_Pin)).Masked)) && r37) then slices_Equal_api_Sent r23.2.1 r25.2.1 else some false).bind fun r40 =>
    some (((r29.1.getD (0 + (Int.toNat a2)) (⟨0, 0, false, false, false, false, false⟩ : Api_Pin)).Masked) || (r37 && r40))
    else none
   else none
   else none
end Go.Proofs.Ytfnmmlcmjmepjaa

