import Derived.Test.YtfnmmlcmjmepjaaAbYg
set_option linter.unusedSimpArgs false
set_option linter.unusedVariables false
namespace Go.Proofs.Ytfnmmlcmjmepjaa
open Go Go.Ab
structure Api_PipeOp where
 Kind : Int
 Most : Int
 Data : (List Int)
deriving DecidableEq
structure Api_Pipe where
 Has : (List Int)
 Writers : Int
 Readers : Int
deriving DecidableEq
def Ok_Api_PipeOp (x : Api_PipeOp) : Prop := (-9223372036854775808 ≤ x.Kind ∧ x.Kind ≤ 9223372036854775807) ∧ (-9223372036854775808 ≤ x.Most ∧ x.Most ≤ 9223372036854775807) ∧ (x.Data.length * 1 ≤ 140737488351232 ∧ ∀ y ∈ x.Data, (0 ≤ y ∧ y ≤ 255))
def pipe_Right (a0 : Api_Pipe) : Option (Bool) :=
 some (((((decide ((((a0.Has.length : Nat) : Int) : Int) ≤ 64)) && (decide ((a0.Writers : Int) ≥ 0))) && (decide ((a0.Writers : Int) ≤ 1099511627776))) && (decide ((a0.Readers : Int) ≥ 0))) && (decide ((a0.Readers : Int) ≤ 1099511627776)))
def pipe_Step_1 (a0 : Int) : Option (Api_Pipe × Int × (List Int) × Int) :=
 some ((⟨([] : List Int), 0, 0⟩ : Api_Pipe), 0, ([] : List Int), a0)
def slices_Clone_byte (a0 : List Int) : Option (List Int) := if a0.length * 1 ≤ 140737488355328 then some a0 else none
def pipe_Step (a0 : Api_Pipe) (a1 : Api_PipeOp) : Option (Api_Pipe × Int × (List Int) × Int) :=
 (pipe_Right a0).bind fun r1 =>
 bif (!r1) then
  (pipe_Step_1 1).bind fun r4 =>
  some (r4.1, r4.2.1, r4.2.2.1, r4.2.2.2)
 else
  (slices_Clone_byte a0.Has).bind fun r6 =>
  bif ((a1.Kind : Int) == 1) then
   bif ((a0.Writers : Int) == 0) then
    (pipe_Step_1 6).bind fun r10 =>
    some (r10.1, r10.2.1, r10.2.2.1, r10.2.2.2)
   else
    bif ((a0.Readers : Int) == 0) then
     (pipe_Step_1 3).bind fun r13 =>
     some (r13.1, r13.2.1, r13.2.2.1, r13.2.2.2)
    else
     bif ((decide ((((a1.Data.length : Nat) : Int) : Int) > (IntKind.i64.wrap (64 - ((r6.length : Nat) : Int))))) && ((((IntKind.i64.wrap (64 - ((r6.length : Nat) : Int))) : Int) == 0) || (decide ((((a1.Data.length : Nat) : Int) : Int) ≤ 16)))) then
      (pipe_Step_1 7).bind fun r24 =>
      some (r24.1, r24.2.1, r24.2.2.1, r24.2.2.2)
     else
      if 0 ≤ ((if (((a1.Data.length : Nat) : Int) : Int) < (IntKind.i64.wrap (64 - ((r6.length : Nat) : Int))) then ((a1.Data.length : Nat) : Int) else (IntKind.i64.wrap (64 - ((r6.length : Nat) : Int)))) : Int) then
      if (Int.toNat (if (((a1.Data.length : Nat) : Int) : Int) < (IntKind.i64.wrap (64 - ((r6.length : Nat) : Int))) then ((a1.Data.length : Nat) : Int) else (IntKind.i64.wrap (64 - ((r6.length : Nat) : Int))))) ≤ a1.Data.length then
      if ((r6).length + (((a1.Data.drop 0).take ((Int.toNat (if (((a1.Data.length : Nat) : Int) : Int) < (IntKind.i64.wrap (64 - ((r6.length : Nat) : Int))) then ((a1.Data.length : Nat) : Int) else (IntKind.i64.wrap (64 - ((r6.length : Nat) : Int))))) - 0))).length + ((r6).length + (((a1.Data.drop 0).take ((Int.toNat (if (((a1.Data.length : Nat) : Int) : Int) < (IntKind.i64.wrap (64 - ((r6.length : Nat) : Int))) then ((a1.Data.length : Nat) : Int) else (IntKind.i64.wrap (64 - ((r6.length : Nat) : Int))))) - 0))).length) / 4 + 192) * 1 ≤ 281474976710656 ∧ (r6).length + (((a1.Data.drop 0).take ((Int.toNat (if (((a1.Data.length : Nat) : Int) : Int) < (IntKind.i64.wrap (64 - ((r6.length : Nat) : Int))) then ((a1.Data.length : Nat) : Int) else (IntKind.i64.wrap (64 - ((r6.length : Nat) : Int))))) - 0))).length ≤ 140737488355328 then
      some ((⟨(r6 ++ ((a1.Data.drop 0).take ((Int.toNat (if (((a1.Data.length : Nat) : Int) : Int) < (IntKind.i64.wrap (64 - ((r6.length : Nat) : Int))) then ((a1.Data.length : Nat) : Int) else (IntKind.i64.wrap (64 - ((r6.length : Nat) : Int))))) - 0))), a0.Writers, a0.Readers⟩ : Api_Pipe), (if (((a1.Data.length : Nat) : Int) : Int) < (IntKind.i64.wrap (64 - ((r6.length : Nat) : Int))) then ((a1.Data.length : Nat) : Int) else (IntKind.i64.wrap (64 - ((r6.length : Nat) : Int)))), ([] : List Int), 0)
      else none
      else none
      else none
  else
   bif ((a1.Kind : Int) == 2) then
    bif ((a0.Readers : Int) == 0) then
     (pipe_Step_1 6).bind fun r31 =>
     some (r31.1, r31.2.1, r31.2.2.1, r31.2.2.2)
    else
     bif (decide ((a1.Most : Int) < 1)) then
      (pipe_Step_1 2).bind fun r34 =>
      some (r34.1, r34.2.1, r34.2.2.1, r34.2.2.2)
     else
      bif (((((r6.length : Nat) : Int) : Int) == 0) && (decide ((a0.Writers : Int) > 0))) then
       (pipe_Step_1 7).bind fun r40 =>
       some (r40.1, r40.2.1, r40.2.2.1, r40.2.2.2)
      else
       if 0 ≤ ((if (((r6.length : Nat) : Int) : Int) < a1.Most then ((r6.length : Nat) : Int) else a1.Most) : Int) then
       if (Int.toNat (if (((r6.length : Nat) : Int) : Int) < a1.Most then ((r6.length : Nat) : Int) else a1.Most)) ≤ r6.length then
       (slices_Clone_byte ((r6.drop (0 + 0)).take ((Int.toNat (if (((r6.length : Nat) : Int) : Int) < a1.Most then ((r6.length : Nat) : Int) else a1.Most)) - 0))).bind fun r44 =>
       if 0 ≤ ((if (((r6.length : Nat) : Int) : Int) < a1.Most then ((r6.length : Nat) : Int) else a1.Most) : Int) then
       if (Int.toNat (if (((r6.length : Nat) : Int) : Int) < a1.Most then ((r6.length : Nat) : Int) else a1.Most)) ≤ r6.length then
       (slices_Clone_byte ((r6.drop (0 + (Int.toNat (if (((r6.length : Nat) : Int) : Int) < a1.Most then ((r6.length : Nat) : Int) else a1.Most)))).take (r6.length - (Int.toNat (if (((r6.length : Nat) : Int) : Int) < a1.Most then ((r6.length : Nat) : Int) else a1.Most))))).bind fun r48 =>
       some ((⟨r48, a0.Writers, a0.Readers⟩ : Api_Pipe), 0, r44, 0)
       else none
       else none
       else none
       else none
   else
    bif ((a1.Kind : Int) == 3) then
     bif false then
      (pipe_Step_1 5).bind fun r52 =>
      some (r52.1, r52.2.1, r52.2.2.1, r52.2.2.2)
     else
      bif (((a1.Kind : Int) == 3) || ((a1.Kind : Int) == 4)) then
       bif ((a0.Writers : Int) == 1099511627776) then
        (pipe_Step_1 4).bind fun r59 =>
        some (r59.1, r59.2.1, r59.2.2.1, r59.2.2.2)
       else
        some ((⟨r6, (IntKind.i64.wrap (a0.Writers + 1)), a0.Readers⟩ : Api_Pipe), 0, ([] : List Int), 0)
      else
       bif ((a0.Writers : Int) == 0) then
        (pipe_Step_1 3).bind fun r62 =>
        some (r62.1, r62.2.1, r62.2.2.1, r62.2.2.2)
       else
        some ((⟨r6, (IntKind.i64.wrap (a0.Writers - 1)), a0.Readers⟩ : Api_Pipe), 0, ([] : List Int), 0)
    else
     bif ((a1.Kind : Int) == 5) then
      bif false then
       (pipe_Step_1 5).bind fun r66 =>
       some (r66.1, r66.2.1, r66.2.2.1, r66.2.2.2)
      else
       bif (((a1.Kind : Int) == 3) || ((a1.Kind : Int) == 4)) then
        bif ((a0.Writers : Int) == 1099511627776) then
         (pipe_Step_1 4).bind fun r73 =>
         some (r73.1, r73.2.1, r73.2.2.1, r73.2.2.2)
        else
         some ((⟨r6, (IntKind.i64.wrap (a0.Writers + 1)), a0.Readers⟩ : Api_Pipe), 0, ([] : List Int), 0)
       else
        bif ((a0.Writers : Int) == 0) then
         (pipe_Step_1 3).bind fun r76 =>
         some (r76.1, r76.2.1, r76.2.2.1, r76.2.2.2)
        else
         some ((⟨r6, (IntKind.i64.wrap (a0.Writers - 1)), a0.Readers⟩ : Api_Pipe), 0, ([] : List Int), 0)
     else
      bif ((a1.Kind : Int) == 4) then
       bif false then
        (pipe_Step_1 5).bind fun r80 =>
        some (r80.1, r80.2.1, r80.2.2.1, r80.2.2.2)
       else
        bif (((a1.Kind : Int) == 3) || ((a1.Kind : Int) == 4)) then
         bif ((a0.Readers : Int) == 1099511627776) then
          (pipe_Step_1 4).bind fun r87 =>
          some (r87.1, r87.2.1, r87.2.2.1, r87.2.2.2)
         else
          some ((⟨r6, a0.Writers, (IntKind.i64.wrap (a0.Readers + 1))⟩ : Api_Pipe), 0, ([] : List Int), 0)
        else
         bif ((a0.Readers : Int) == 0) then
          (pipe_Step_1 3).bind fun r90 =>
          some (r90.1, r90.2.1, r90.2.2.1, r90.2.2.2)
         else
          some ((⟨r6, a0.Writers, (IntKind.i64.wrap (a0.Readers - 1))⟩ : Api_Pipe), 0, ([] : List Int), 0)
      else
       bif ((a1.Kind : Int) == 6) then
        bif false then
         (pipe_Step_1 5).bind fun r94 =>
         some (r94.1, r94.2.1, r94.2.2.1, r94.2.2.2)
        else
         bif (((a1.Kind : Int) == 3) || ((a1.Kind : Int) == 4)) then
          bif ((a0.Readers : Int) == 1099511627776) then
           (pipe_Step_1 4).bind fun r101 =>
           some (r101.1, r101.2.1, r101.2.2.1, r101.2.2.2)
          else
           some ((⟨r6, a0.Writers, (IntKind.i64.wrap (a0.Readers + 1))⟩ : Api_Pipe), 0, ([] : List Int), 0)
         else
          bif ((a0.Readers : Int) == 0) then
           (pipe_Step_1 3).bind fun r104 =>
           some (r104.1, r104.2.1, r104.2.2.1, r104.2.2.2)
          else
           some ((⟨r6, a0.Writers, (IntKind.i64.wrap (a0.Readers - 1))⟩ : Api_Pipe), 0, ([] : List Int), 0)
       else
        bif true then
         (pipe_Step_1 5).bind fun r107 =>
         some (r107.1, r107.2.1, r107.2.2.1, r107.2.2.2)
        else
         bif (((a1.Kind : Int) == 3) || ((a1.Kind : Int) == 4)) then
          none
         else
          none
def pipe_Play_l1 (a0 : (List Api_PipeOp)) : Nat → List Int → List Int → Nat → List Int → Int → Int → Option ((List Int) × (List Int) × Api_Pipe)
 | 0, _, _, _, _, _, _ => none
 | n1 + 1, l1, l2, k3, l4, x5, x6 =>
  bif (decide ((((k3 : Nat) : Int) : Int) < ((a0.length : Nat) : Int))) then
   (pipe_Step (⟨l4, x5, x6⟩ : Api_Pipe) (a0.getD k3 (⟨0, 0, []⟩ : Api_PipeOp))).bind fun r9 =>
   bif ((r9.2.2.2 : Int) == 0) then
    if ((l2).length + (r9.2.2.1).length + ((l2).length + (r9.2.2.1).length) / 4 + 192) * 1 ≤ 281474976710656 ∧ (l2).length + (r9.2.2.1).length ≤ 140737488355328 then
    if ((l1).length + ([r9.2.2.2]).length + ((l1).length + ([r9.2.2.2]).length) / 4 + 192) * 8 ≤ 281474976710656 ∧ (l1).length + ([r9.2.2.2]).length ≤ 140737488355328 then
    pipe_Play_l1 a0 n1 (l1 ++ [r9.2.2.2]) (l2 ++ r9.2.2.1) (k3 + 1) r9.1.Has r9.1.Writers r9.1.Readers
    else none
    else none
   else
    if ((l1).length + ([r9.2.2.2]).length + ((l1).length + ([r9.2.2.2]).length) / 4 + 192) * 8 ≤ 281474976710656 ∧ (l1).length + ([r9.2.2.2]).length ≤ 140737488355328 then
    pipe_Play_l1 a0 n1 (l1 ++ [r9.2.2.2]) l2 (k3 + 1) l4 x5 x6
    else none
  else
   some (l1, l2, (⟨l4, x5, x6⟩ : Api_Pipe))
def pipe_Play (a0 : (List Api_PipeOp)) : Option ((List Int) × (List Int) × Api_Pipe) :=
 pipe_Play_l1 a0 FUEL ([] : List Int) ([] : List Int) 0 ([] : List Int) 1 1
def slices_Equal_api_Errno_l1 (a0 : (List Int)) (a1 : (List Int)) : Nat → Nat → Option (Bool)
 | 0, _ => none
 | n1 + 1, k2 =>
  bif (decide ((((k2 : Nat) : Int) : Int) < ((a0.length : Nat) : Int))) then
   if 0 ≤ (((k2 : Nat) : Int) : Int) ∧ ((k2 : Nat) : Int) < ((a1.length : Nat) : Int) then
   bif (((a0.getD k2 0) : Int) != (a1.getD k2 0)) then
    some false
   else
    slices_Equal_api_Errno_l1 a0 a1 n1 (k2 + 1)
   else none
  else
   some true
def slices_Equal_api_Errno (a0 : (List Int)) (a1 : (List Int)) : Option (Bool) :=
 bif ((((a0.length : Nat) : Int) : Int) != ((a1.length : Nat) : Int)) then
  some false
 else
  slices_Equal_api_Errno_l1 a0 a1 FUEL 0
def keep_alive21 : Option (Bool) :=
 (pipe_Play [(⟨2, 4, ([] : List Int)⟩ : Api_PipeOp), (⟨1, 0, [97, 98, 99, 100, 101]⟩ : Api_PipeOp), (⟨2, 2, ([] : List Int)⟩ : Api_PipeOp), (⟨5, 0, ([] : List Int)⟩ : Api_PipeOp), (⟨2, 9, ([] : List Int)⟩ : Api_PipeOp), (⟨2, 9, ([] : List Int)⟩ : Api_PipeOp)]).bind fun r1 =>
 (slices_Equal_api_Errno r1.1 [7, 0, 0, 0, 0, 0]).bind fun r3 =>
 some (((r3 && ((bytesOf r1.2.1).toList == (bytesOf [97, 98, 99, 100, 101]).toList)) && ((((r1.2.2.Has.length : Nat) : Int) : Int) == 0)) && ((r1.2.2.Readers : Int) == 1))
def slices_Clone_api_PipeOp (a0 : List Api_PipeOp) : Option (List Api_PipeOp) := if a0.length * 40 ≤ 140737488355328 then some a0 else none
def slices_Grow_byte_nil (a0 : Int) : Option (List Int) := if 0 ≤ a0 ∧ a0.toNat * 1 ≤ 140737488355328 ∧ a0.toNat ≤ 140737488355328 then some [] else none
def slices_Concat_byte_l2 (a0 : (List (List Int))) (r6 : (List Int)) : Nat → List Int → Nat → Option ((List Int))
 | 0, _, _ => none
 | n2 + 1, l8, k9 =>
  bif (decide ((((k9 : Nat) : Int) : Int) < ((a0.length : Nat) : Int))) then
   if ((l8).length + ((a0.getD k9 [])).length + ((l8).length + ((a0.getD k9 [])).length) / 4 + 192) * 1 ≤ 281474976710656 ∧ (l8).length + ((a0.getD k9 [])).length ≤ 140737488355328 then
   slices_Concat_byte_l2 a0 r6 n2 (l8 ++ (a0.getD k9 [])) (k9 + 1)
   else none
  else
   some l8
def slices_Concat_byte_l1 (a0 : (List (List Int))) : Nat → Int → Nat → Option ((List Int))
 | 0, _, _ => none
 | n1 + 1, x1, k2 =>
  bif (decide ((((k2 : Nat) : Int) : Int) < ((a0.length : Nat) : Int))) then
   bif (decide (((IntKind.i64.wrap (x1 + (((a0.getD k2 []).length : Nat) : Int))) : Int) < 0)) then
    none
   else
    slices_Concat_byte_l1 a0 n1 (IntKind.i64.wrap (x1 + (((a0.getD k2 []).length : Nat) : Int))) (k2 + 1)
  else
   (slices_Grow_byte_nil x1).bind fun r6 =>
   slices_Concat_byte_l2 a0 r6 FUEL r6 0
def slices_Concat_byte (a0 : (List (List Int))) : Option ((List Int)) :=
 slices_Concat_byte_l1 a0 FUEL 0 0
def keep_PipeEnd_l2 (a1 : Int) (r4 : (List Int) × (List Int) × Api_Pipe) (l19 : List Api_PipeOp) : Nat → List Api_PipeOp → Int → Option (Bool)
 | 0, _, _ => none
 | n2 + 1, l23, x24 =>
  bif (decide ((x24 : Int) < (IntKind.i64.wrap (((r4.2.2.Has.length : Nat) : Int) + 1)))) then
   if ((l23).length + ([(⟨2, a1, ([] : List Int)⟩ : Api_PipeOp)]).length + ((l23).length + ([(⟨2, a1, ([] : List Int)⟩ : Api_PipeOp)]).length) / 4 + 192) * 40 ≤ 281474976710656 ∧ (l23).length + ([(⟨2, a1, ([] : List Int)⟩ : Api_PipeOp)]).length ≤ 140737488355328 then
   keep_PipeEnd_l2 a1 r4 l19 n2 (l23 ++ [(⟨2, a1, ([] : List Int)⟩ : Api_PipeOp)]) (IntKind.i64.wrap (x24 + 1))
   else none
  else
   (pipe_Play l23).bind fun r27 =>
   (bif ((((r27.2.2.Has.length : Nat) : Int) : Int) == 0) then slices_Concat_byte [r4.2.1, r4.2.2.Has] else some []).bind fun r30 =>
   if (((((((r27.2.2.Has.length : Nat) : Int) : Int) == 0) && ((bytesOf r27.2.1).toList == (bytesOf r30).toList)) && (decide ((((r27.1.length : Nat) : Int) : Int) > 0))) = true → (0 ≤ ((IntKind.i64.wrap (((r27.1.length : Nat) : Int) - 1)) : Int) ∧ (IntKind.i64.wrap (((r27.1.length : Nat) : Int) - 1)) < ((r27.1.length : Nat) : Int))) then
   some (((((((r27.2.2.Has.length : Nat) : Int) : Int) == 0) && ((bytesOf r27.2.1).toList == (bytesOf r30).toList)) && (decide ((((r27.1.length : Nat) : Int) : Int) > 0))) && (((r27.1.getD (0 + (Int.toNat (IntKind.i64.wrap (((r27.1.length : Nat) : Int) - 1)))) 0) : Int) == 0))
   else none
def keep_PipeEnd_l1 (a1 : Int) (r4 : (List Int) × (List Int) × Api_Pipe) (r17 : (List Api_PipeOp)) : Nat → List Api_PipeOp → Int → Option (Bool)
 | 0, _, _ => none
 | n1 + 1, l19, x20 =>
  bif (decide ((x20 : Int) < r4.2.2.Writers)) then
   if ((l19).length + ([(⟨5, 0, ([] : List Int)⟩ : Api_PipeOp)]).length + ((l19).length + ([(⟨5, 0, ([] : List Int)⟩ : Api_PipeOp)]).length) / 4 + 192) * 40 ≤ 281474976710656 ∧ (l19).length + ([(⟨5, 0, ([] : List Int)⟩ : Api_PipeOp)]).length ≤ 140737488355328 then
   keep_PipeEnd_l1 a1 r4 r17 n1 (l19 ++ [(⟨5, 0, ([] : List Int)⟩ : Api_PipeOp)]) (IntKind.i64.wrap (x20 + 1))
   else none
  else
   keep_PipeEnd_l2 a1 r4 l19 FUEL l19 0
def keep_PipeEnd (a0 : (List Api_PipeOp)) (a1 : Int) : Option (Bool) :=
 (keep_alive21).bind fun r1 =>
 bif (!r1) then
  some false
 else
  (pipe_Play a0).bind fun r4 =>
  bif ((r4.2.2.Readers : Int) == 0) then
   (pipe_Step r4.2.2 (⟨1, 0, [1]⟩ : Api_PipeOp)).bind fun r7 =>
   some (((r7.2.2.2 : Int) == 3) || (((r7.2.2.2 : Int) == 6) && ((r4.2.2.Writers : Int) == 0)))
  else
   bif (decide ((a1 : Int) < 1)) then
    some true
   else
    (slices_Clone_api_PipeOp a0).bind fun r17 =>
    keep_PipeEnd_l1 a1 r4 r17 FUEL r17 0
end Go.Proofs.Ytfnmmlcmjmepjaa

