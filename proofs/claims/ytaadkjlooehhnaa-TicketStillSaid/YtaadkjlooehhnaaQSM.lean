/- The models of the functions: printed by program. -/
import Derived.Test.YtaadkjlooehhnaaAbYg
set_option linter.unusedSimpArgs false
set_option linter.unusedVariables false
namespace Go.Proofs.Ytaadkjlooehhnaa
open Go Go.Ab

structure Api_Lock where
  Next : Int
  Now : Int
  Mine : (Nat → Int)
  In : (Nat → Bool)

structure Api_LockOp where
  Kind : Int
  Core : Int
deriving DecidableEq

def Ok_Api_Lock (x : Api_Lock) : Prop := (-9223372036854775808 ≤ x.Next ∧ x.Next ≤ 9223372036854775807) ∧ (-9223372036854775808 ≤ x.Now ∧ x.Now ≤ 9223372036854775807) ∧ (∀ i, i < 8 → (-9223372036854775808 ≤ (x.Mine i) ∧ (x.Mine i) ≤ 9223372036854775807)) ∧ (∀ i, i < 8 → True)

/- corebell/ticket.New -/
def ticket_New_l1 : Nat → Nat → (Nat → Int) → Option (Api_Lock)
  | 0, _, _ => none
  | n1 + 1, k1, f2 =>
    bif (decide ((((k1 : Nat) : Int) : Int) < 8)) then
      if 0 ≤ (((k1 : Nat) : Int) : Int) ∧ ((k1 : Nat) : Int) < ((8 : Nat) : Int) then
      ticket_New_l1  n1 (k1 + 1) (upd f2 k1 (-1))
      else none
    else
      some (⟨0, 0, f2, (fun _ => false)⟩ : Api_Lock)

def ticket_New : Option (Api_Lock) :=
  ticket_New_l1  FUEL 0 (fun _ => 0)


/- corebell/ticket.Right -/
def ticket_Right_l2 (l18 : List Bool) : Nat → Nat → Option (Bool)
  | 0, _ => none
  | n2 + 1, k47 =>
    bif (decide ((((k47 : Nat) : Int) : Int) < ((l18.length : Nat) : Int))) then
      bif (!(l18.getD (0 + k47) false)) then
        some false
      else
        ticket_Right_l2 l18 n2 (k47 + 1)
    else
      some true

def ticket_Right_l1 (a0 : Api_Lock) : Nat → Nat → List Bool → Option (Bool)
  | 0, _, _ => none
  | n1 + 1, k17, l18 =>
    bif (decide ((((k17 : Nat) : Int) : Int) < 8)) then
      if 0 ≤ (((k17 : Nat) : Int) : Int) ∧ ((k17 : Nat) : Int) < ((8 : Nat) : Int) then
      bif (((a0.Mine k17) : Int) == (-1)) then
        if 0 ≤ (((k17 : Nat) : Int) : Int) ∧ ((k17 : Nat) : Int) < ((8 : Nat) : Int) then
        bif (a0.In k17) then
          some false
        else
          ticket_Right_l1 a0 n1 (k17 + 1) l18
        else none
      else
        if ((!((decide (((a0.Mine k17) : Int) < a0.Now)) || (decide (((a0.Mine k17) : Int) ≥ a0.Next)))) = true → (0 ≤ ((IntKind.i64.wrap ((a0.Mine k17) - a0.Now)) : Int) ∧ (IntKind.i64.wrap ((a0.Mine k17) - a0.Now)) < ((l18.length : Nat) : Int))) then
        if ((!(((decide (((a0.Mine k17) : Int) < a0.Now)) || (decide (((a0.Mine k17) : Int) ≥ a0.Next))) || (l18.getD (0 + (Int.toNat (IntKind.i64.wrap ((a0.Mine k17) - a0.Now)))) false))) = true → (0 ≤ (((k17 : Nat) : Int) : Int) ∧ ((k17 : Nat) : Int) < ((8 : Nat) : Int))) then
        bif ((((decide (((a0.Mine k17) : Int) < a0.Now)) || (decide (((a0.Mine k17) : Int) ≥ a0.Next))) || (l18.getD (0 + (Int.toNat (IntKind.i64.wrap ((a0.Mine k17) - a0.Now)))) false)) || ((a0.In k17) && (((a0.Mine k17) : Int) != a0.Now))) then
          some false
        else
          if 0 ≤ ((IntKind.i64.wrap ((a0.Mine k17) - a0.Now)) : Int) ∧ (IntKind.i64.wrap ((a0.Mine k17) - a0.Now)) < ((l18.length : Nat) : Int) then
          ticket_Right_l1 a0 n1 (k17 + 1) (l18.set (0 + (Int.toNat (IntKind.i64.wrap ((a0.Mine k17) - a0.Now)))) true)
          else none
        else none
        else none
      else none
    else
      ticket_Right_l2 l18 FUEL 0

def ticket_Right (a0 : Api_Lock) : Option (Bool) :=
  bif ((((decide ((a0.Now : Int) < 0)) || (decide ((a0.Next : Int) < a0.Now))) || (decide (((IntKind.i64.wrap (a0.Next - a0.Now)) : Int) > 8))) || (decide ((a0.Next : Int) > 1099511627776))) then
    some false
  else
    if 0 ≤ ((IntKind.i64.wrap (a0.Next - a0.Now)) : Int) ∧ (Int.toNat (IntKind.i64.wrap (a0.Next - a0.Now))) * 1 ≤ 140737488355328 ∧ (Int.toNat (IntKind.i64.wrap (a0.Next - a0.Now))) ≤ 140737488355328 then
    ticket_Right_l1 a0 FUEL 0 (List.replicate (Int.toNat (IntKind.i64.wrap (a0.Next - a0.Now))) false)
    else none


/- corebell/ticket.Step$1 -/
def ticket_Step_1 (a0 : Int) : Option (Api_Lock × Bool × Int) :=
  some ((⟨0, 0, (fun _ => 0), (fun _ => false)⟩ : Api_Lock), false, a0)


/- corebell/ticket.Step -/
def ticket_Step (a0 : Api_Lock) (a1 : Api_LockOp) : Option (Api_Lock × Bool × Int) :=
  (ticket_Right a0).bind fun r1 =>
  bif (!r1) then
    (ticket_Step_1 1).bind fun r4 =>
    some (r4.1, r4.2.1, r4.2.2)
  else
    bif ((decide ((a1.Kind : Int) < 1)) || (decide ((a1.Kind : Int) > 3))) then
      (ticket_Step_1 5).bind fun r10 =>
      some (r10.1, r10.2.1, r10.2.2)
    else
      bif ((decide ((a1.Core : Int) < 0)) || (decide ((a1.Core : Int) ≥ 8))) then
        (ticket_Step_1 2).bind fun r16 =>
        some (r16.1, r16.2.1, r16.2.2)
      else
        if 0 ≤ (a1.Core : Int) ∧ a1.Core < ((8 : Nat) : Int) then
        if 0 ≤ (a1.Core : Int) ∧ a1.Core < ((8 : Nat) : Int) then
        bif ((a1.Kind : Int) == 1) then
          bif (decide (((a0.Mine (Int.toNat a1.Core)) : Int) ≥ 0)) then
            (ticket_Step_1 6).bind fun r22 =>
            some (r22.1, r22.2.1, r22.2.2)
          else
            bif ((a0.Next : Int) == 1099511627776) then
              (ticket_Step_1 4).bind fun r25 =>
              some (r25.1, r25.2.1, r25.2.2)
            else
              some ((⟨(IntKind.i64.wrap (a0.Next + 1)), a0.Now, (upd a0.Mine (Int.toNat a1.Core) a0.Next), a0.In⟩ : Api_Lock), (a0.In (Int.toNat a1.Core)), 0)
        else
          bif ((a1.Kind : Int) == 2) then
            bif (decide (((a0.Mine (Int.toNat a1.Core)) : Int) < 0)) then
              (ticket_Step_1 3).bind fun r29 =>
              some (r29.1, r29.2.1, r29.2.2)
            else
              some ((⟨a0.Next, a0.Now, a0.Mine, (upd a0.In (Int.toNat a1.Core) (((a0.Mine (Int.toNat a1.Core)) : Int) == a0.Now))⟩ : Api_Lock), ((upd a0.In (Int.toNat a1.Core) (((a0.Mine (Int.toNat a1.Core)) : Int) == a0.Now)) (Int.toNat a1.Core)), 0)
          else
            bif ((a1.Kind : Int) == 3) then
              bif (!(a0.In (Int.toNat a1.Core))) then
                (ticket_Step_1 3).bind fun r33 =>
                some (r33.1, r33.2.1, r33.2.2)
              else
                some ((⟨a0.Next, (IntKind.i64.wrap (a0.Now + 1)), (upd a0.Mine (Int.toNat a1.Core) (-1)), (upd a0.In (Int.toNat a1.Core) false)⟩ : Api_Lock), ((upd a0.In (Int.toNat a1.Core) false) (Int.toNat a1.Core)), 0)
            else
              some (a0, (a0.In (Int.toNat a1.Core)), 0)
        else none
        else none


/- corebell/ticket.Play -/
def ticket_Play_l1 (a0 : (List Api_LockOp)) (r1 : Api_Lock) : Nat → List Int → Nat → (Nat → Int) → (Nat → Bool) → Int → Int → Option ((List Int) × Api_Lock)
  | 0, _, _, _, _, _, _ => none
  | n1 + 1, l3, k4, f5, f6, x7, x8 =>
    bif (decide ((((k4 : Nat) : Int) : Int) < ((a0.length : Nat) : Int))) then
      (ticket_Step (⟨x7, x8, f5, f6⟩ : Api_Lock) (a0.getD k4 (⟨0, 0⟩ : Api_LockOp))).bind fun r11 =>
      bif ((r11.2.2 : Int) != 0) then
        ticket_Play_l1 a0 r1 n1 l3 (k4 + 1) f5 f6 x7 x8
      else
        if (r11.2.1 = true → (0 ≤ ((a0.getD k4 (⟨0, 0⟩ : Api_LockOp)).Core : Int) ∧ ((a0.getD k4 (⟨0, 0⟩ : Api_LockOp)).Core) < ((8 : Nat) : Int))) then
        bif (r11.2.1 && (!(f6 (Int.toNat ((a0.getD k4 (⟨0, 0⟩ : Api_LockOp)).Core))))) then
          if ((l3).length + ([(a0.getD k4 (⟨0, 0⟩ : Api_LockOp)).Core]).length) * 8 ≤ 140737488355328 ∧ (l3).length + ([(a0.getD k4 (⟨0, 0⟩ : Api_LockOp)).Core]).length ≤ 140737488355328 then
          ticket_Play_l1 a0 r1 n1 (l3 ++ [(a0.getD k4 (⟨0, 0⟩ : Api_LockOp)).Core]) (k4 + 1) r11.1.Mine r11.1.In r11.1.Next r11.1.Now
          else none
        else
          ticket_Play_l1 a0 r1 n1 l3 (k4 + 1) r11.1.Mine r11.1.In r11.1.Next r11.1.Now
        else none
    else
      some (l3, (⟨x7, x8, f5, f6⟩ : Api_Lock))

def ticket_Play (a0 : (List Api_LockOp)) : Option ((List Int) × Api_Lock) :=
  (ticket_New).bind fun r1 =>
  ticket_Play_l1 a0 r1 FUEL ([] : List Int) 0 r1.Mine r1.In r1.Next r1.Now


/- slices.Equal(()int,int) -/
def slices_Equal_int_l1 (a0 : (List Int)) (a1 : (List Int)) : Nat → Nat → Option (Bool)
  | 0, _ => none
  | n1 + 1, k2 =>
    bif (decide ((((k2 : Nat) : Int) : Int) < ((a0.length : Nat) : Int))) then
      if 0 ≤ (((k2 : Nat) : Int) : Int) ∧ ((k2 : Nat) : Int) < ((a1.length : Nat) : Int) then
      bif (((a0.getD k2 0) : Int) != (a1.getD k2 0)) then
        some false
      else
        slices_Equal_int_l1 a0 a1 n1 (k2 + 1)
      else none
    else
      some true

def slices_Equal_int (a0 : (List Int)) (a1 : (List Int)) : Option (Bool) :=
  bif ((((a0.length : Nat) : Int) : Int) != ((a1.length : Nat) : Int)) then
    some false
  else
    slices_Equal_int_l1 a0 a1 FUEL 0


/- corebell/corebellkeep.alive6 -/
def keep_alive6 : Option (Bool) :=
  (ticket_Play [(⟨1, 2⟩ : Api_LockOp), (⟨1, 5⟩ : Api_LockOp), (⟨2, 5⟩ : Api_LockOp), (⟨2, 2⟩ : Api_LockOp), (⟨3, 2⟩ : Api_LockOp), (⟨2, 5⟩ : Api_LockOp)]).bind fun r1 =>
  (slices_Equal_int r1.1 [2, 5]).bind fun r3 =>
  if (((r3 && ((r1.2.Now : Int) == 1)) && ((r1.2.Next : Int) == 2)) = true → (0 ≤ (5 : Int) ∧ 5 < ((8 : Nat) : Int))) then
  (bif (((r3 && ((r1.2.Now : Int) == 1)) && ((r1.2.Next : Int) == 2)) && (r1.2.In 5)) then ticket_Right r1.2 else some false).bind fun r14 =>
  some ((((r3 && ((r1.2.Now : Int) == 1)) && ((r1.2.Next : Int) == 2)) && (r1.2.In 5)) && r14)
  else none


/- corebell/corebellkeep.TicketStill -/
def keep_TicketStill (a0 : Api_Lock) (a1 : Int) : Option (Bool) :=
  (keep_alive6).bind fun r1 =>
  bif (!r1) then
    some false
  else
    (ticket_Step a0 (⟨2, a1⟩ : Api_LockOp)).bind fun r4 =>
    bif ((r4.2.2 : Int) != 0) then
      some true
    else
      (ticket_Step r4.1 (⟨2, a1⟩ : Api_LockOp)).bind fun r7 =>
      some ((((((((r7.2.2 : Int) == 0) && (((r7.1.Next : Int) == r4.1.Next) && (((r7.1.Now : Int) == r4.1.Now) && (((((r7.1.Mine 0) : Int) == (r4.1.Mine 0)) && ((((r7.1.Mine 1) : Int) == (r4.1.Mine 1)) && ((((r7.1.Mine 2) : Int) == (r4.1.Mine 2)) && ((((r7.1.Mine 3) : Int) == (r4.1.Mine 3)) && ((((r7.1.Mine 4) : Int) == (r4.1.Mine 4)) && ((((r7.1.Mine 5) : Int) == (r4.1.Mine 5)) && ((((r7.1.Mine 6) : Int) == (r4.1.Mine 6)) && ((((r7.1.Mine 7) : Int) == (r4.1.Mine 7)) && true)))))))) && ((((r7.1.In 0) == (r4.1.In 0)) && (((r7.1.In 1) == (r4.1.In 1)) && (((r7.1.In 2) == (r4.1.In 2)) && (((r7.1.In 3) == (r4.1.In 3)) && (((r7.1.In 4) == (r4.1.In 4)) && (((r7.1.In 5) == (r4.1.In 5)) && (((r7.1.In 6) == (r4.1.In 6)) && (((r7.1.In 7) == (r4.1.In 7)) && true)))))))) && true))))) && (r7.2.1 == r4.2.1)) && ((r4.1.Now : Int) == a0.Now)) && ((r4.1.Next : Int) == a0.Next)) && ((((r4.1.Mine 0) : Int) == (a0.Mine 0)) && ((((r4.1.Mine 1) : Int) == (a0.Mine 1)) && ((((r4.1.Mine 2) : Int) == (a0.Mine 2)) && ((((r4.1.Mine 3) : Int) == (a0.Mine 3)) && ((((r4.1.Mine 4) : Int) == (a0.Mine 4)) && ((((r4.1.Mine 5) : Int) == (a0.Mine 5)) && ((((r4.1.Mine 6) : Int) == (a0.Mine 6)) && ((((r4.1.Mine 7) : Int) == (a0.Mine 7)) && true))))))))) && (r4.2.1 || (((r4.1.Next : Int) == a0.Next) && (((r4.1.Now : Int) == a0.Now) && (((((r4.1.Mine 0) : Int) == (a0.Mine 0)) && ((((r4.1.Mine 1) : Int) == (a0.Mine 1)) && ((((r4.1.Mine 2) : Int) == (a0.Mine 2)) && ((((r4.1.Mine 3) : Int) == (a0.Mine 3)) && ((((r4.1.Mine 4) : Int) == (a0.Mine 4)) && ((((r4.1.Mine 5) : Int) == (a0.Mine 5)) && ((((r4.1.Mine 6) : Int) == (a0.Mine 6)) && ((((r4.1.Mine 7) : Int) == (a0.Mine 7)) && true)))))))) && ((((r4.1.In 0) == (a0.In 0)) && (((r4.1.In 1) == (a0.In 1)) && (((r4.1.In 2) == (a0.In 2)) && (((r4.1.In 3) == (a0.In 3)) && (((r4.1.In 4) == (a0.In 4)) && (((r4.1.In 5) == (a0.In 5)) && (((r4.1.In 6) == (a0.In 6)) && (((r4.1.In 7) == (a0.In 7)) && true)))))))) && true))))))


end Go.Proofs.Ytaadkjlooehhnaa
