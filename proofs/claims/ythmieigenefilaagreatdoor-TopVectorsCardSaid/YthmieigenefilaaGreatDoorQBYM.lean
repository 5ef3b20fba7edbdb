import Derived.Test.YthmieigenefilaaGreatDoorAbYk
import Derived.Lib.BitFns
import Derived.Test.YthmieigenefilaaGreatDoorQBA
set_option linter.unusedSimpArgs false
set_option linter.unusedVariables false
namespace Go.Proofs.YthmieigenefilaaGreatDoor
open Go Go.Ab
structure AKO where
 Kind : Int
 Core : Int
 N : Int
 Byte : Int
deriving DecidableEq
structure Api_Pin where
 Core : Int
 Vec : Int
 Level : Bool
 Masked : Bool
 Up : Bool
 Kept : Bool
 Sent : Bool
deriving DecidableEq
structure Api_Uart where
 In : (List Int)
 Out : (List Int)
 Lost : Int
 Asks : Bool
deriving DecidableEq
structure ALo where
 Asked : (Nat → Int)
 Served : (Nat → Int)
 Class : Int
structure AFr where
 On : Bool
 Irq : Bool
deriving DecidableEq
structure Api_Core where
 On : Bool
 Kept : (List AFr)
deriving DecidableEq
structure Kernel_core where
 local_ : ALo
 nest_ : Api_Core
 serving_ : Bool
structure Api_Tty where
 Lines : (List (List Int))
 Edit : (List Int)
deriving DecidableEq
structure KWh where
 uart_ : Api_Uart
 pins_ : (List Api_Pin)
 cores_ : (Nat → Kernel_core)
 fetched_ : (List Int)
 tty_ : Api_Tty
 taken_ : Int
structure AKA where
 Err : Int
 Data : (List Int)
deriving DecidableEq
structure Api_UartOp where
 Kind : Int
 Byte : Int
deriving DecidableEq
structure Api_PinOp where
 Kind : Int
 Pin : Int
deriving DecidableEq
structure Api_Sent where
 Pin : Int
 Core : Int
 Vec : Int
deriving DecidableEq
structure ALoOp where
 Kind : Int
 N : Int
deriving DecidableEq
structure Api_Whole where
 Device : (List Int)
 Fetched : (List Int)
 Tty : Api_Tty
 Lost : Int
 Taken : Int
deriving DecidableEq
structure Api_Slot where
 Core : Int
 Vec : Int
deriving DecidableEq
structure Api_VecOp where
 Kind : Int
 Line : Int
 Mask : Int
deriving DecidableEq
structure Vector_table where
 cores_ : Int
 of_ : (List Api_Slot)
 taken_ : (List (Nat → Int))
def Ok_Api_PinOp (x : Api_PinOp) : Prop := (-9223372036854775808 ≤ x.Kind ∧ x.Kind ≤ 9223372036854775807) ∧ (-9223372036854775808 ≤ x.Pin ∧ x.Pin ≤ 9223372036854775807)
def Ok_Api_VecOp (x : Api_VecOp) : Prop := (-9223372036854775808 ≤ x.Kind ∧ x.Kind ≤ 9223372036854775807) ∧ (-9223372036854775808 ≤ x.Line ∧ x.Line ≤ 9223372036854775807) ∧ (-9223372036854775808 ≤ x.Mask ∧ x.Mask ≤ 9223372036854775807)
def bn_cut (a0 a1 : ByteArray) : Option (ByteArray × ByteArray × Bool) :=
 if a1 = (⟨#[a1.data.toList.headD 0]⟩ : ByteArray) ∧ a0.size ≤ 140737488355328 then some (Go.Bn.bOf (Go.Bn.cutL (a1.data.toList.headD 0) a0.data.toList).1, Go.Bn.bOf (Go.Bn.cutL (a1.data.toList.headD 0) a0.data.toList).2.1, (Go.Bn.cutL (a1.data.toList.headD 0) a0.data.toList).2.2) else none
def bn_read (a0 : ByteArray) : Option (AKO × Bool) :=
 if a0.size ≤ 140737488355328 then some (⟨(Go.Bn.readL a0.data.toList).1.1, (Go.Bn.readL a0.data.toList).1.2.1, (Go.Bn.readL a0.data.toList).1.2.2.1, (Go.Bn.readL a0.data.toList).1.2.2.2⟩, (Go.Bn.readL a0.data.toList).2) else none
def bench_Parse_l1 (a0 : ByteArray) : Nat → ByteArray → List AKO → Int → Option ((List AKO) × Int × Int)
 | 0, _, _, _ => none
 | n1 + 1, s1, l2, x3 =>
  bif (!(s1.toList == (bytesOf []).toList)) then
   (bn_cut s1 (bytesOf [10])).bind fun r5 =>
   (bn_read r5.1).bind fun r7 =>
   bif ((!r5.2.2) || (!r7.2)) then
    none
   else
    if ((l2).length + ([r7.1]).length + ((l2).length + ([r7.1]).length) / 4 + 192) * 32 ≤ 281474976710656 ∧ (l2).length + ([r7.1]).length ≤ 140737488355328 then
    bench_Parse_l1 a0 n1 r5.2.1 (l2 ++ [r7.1]) (IntKind.i64.wrap (x3 + 1))
    else none
  else
   some (l2, 0, 0)
def bench_Parse (a0 : ByteArray) : Option ((List AKO) × Int × Int) :=
 bench_Parse_l1 a0 FUEL a0 ([] : List AKO) 0
def kernel_boot_l1 : Nat → Nat → Bool → Bool → Option (KWh)
 | 0, _, _, _ => none
 | n1 + 1, k1, b2, b3 =>
  bif (decide ((((k1 : Nat) : Int) : Int) < 2)) then
   if 0 ≤ (((k1 : Nat) : Int) : Int) ∧ ((k1 : Nat) : Int) < ((2 : Nat) : Int) then
   bif (decide (k1 = 0)) then
    kernel_boot_l1  n1 (k1 + 1) true b3
   else
    bif (decide (k1 = 1)) then
     kernel_boot_l1  n1 (k1 + 1) b2 true
    else
     none
   else none
  else
   some (⟨(⟨([] : List Int), ([] : List Int), 0, false⟩ : Api_Uart), [(⟨0, 64, true, false, false, false, false⟩ : Api_Pin)], (arrOf [(⟨(⟨(fun _ => 0), (fun _ => 0), 0⟩ : ALo), (⟨b2, ([] : List AFr)⟩ : Api_Core), false⟩ : Kernel_core), (⟨(⟨(fun _ => 0), (fun _ => 0), 0⟩ : ALo), (⟨b3, ([] : List AFr)⟩ : Api_Core), false⟩ : Kernel_core)] (⟨(⟨(fun (_ : Nat) => (0 : Int)), (fun (_ : Nat) => (0 : Int)), 0⟩ : ALo), (⟨false, []⟩ : Api_Core), false⟩ : Kernel_core)), ([] : List Int), (⟨([] : List (List Int)), ([] : List Int)⟩ : Api_Tty), 0⟩ : KWh)
def kernel_boot : Option (KWh) :=
 kernel_boot_l1  FUEL 0 false false
def kw_do_1 (a0 : Int) : Option (AKA) :=
 some (⟨a0, ([] : List Int)⟩ : AKA)
def uart_Right (a0 : Api_Uart) : Option (Bool) :=
 some (((((decide ((((a0.In.length : Nat) : Int) : Int) ≤ 16)) && (decide ((((a0.Out.length : Nat) : Int) : Int) ≤ 16))) && (decide ((a0.Lost : Int) ≥ 0))) && (decide ((a0.Lost : Int) ≤ 1099511627776))) && (a0.Asks == (decide ((((a0.In.length : Nat) : Int) : Int) > 0))))
def uart_Step_1 (a0 : Int) : Option (Api_Uart × Int × Int) :=
 some ((⟨([] : List Int), ([] : List Int), 0, false⟩ : Api_Uart), 0, a0)
def slices_Clone_byte (a0 : List Int) : Option (List Int) := if a0.length * 1 ≤ 140737488355328 then some a0 else none
def uart_Step (a0 : Api_Uart) (a1 : Api_UartOp) : Option (Api_Uart × Int × Int) :=
 (uart_Right a0).bind fun r1 =>
 bif (!r1) then
  (uart_Step_1 1).bind fun r4 =>
  some (r4.1, r4.2.1, r4.2.2)
 else
  (slices_Clone_byte a0.In).bind fun r6 =>
  (slices_Clone_byte a0.Out).bind fun r8 =>
  bif ((a1.Kind : Int) == 1) then
   bif (decide ((((r6.length : Nat) : Int) : Int) < 16)) then
    if ((r6).length + ([a1.Byte]).length + ((r6).length + ([a1.Byte]).length) / 4 + 192) * 1 ≤ 281474976710656 ∧ (r6).length + ([a1.Byte]).length ≤ 140737488355328 then
    some ((⟨(r6 ++ [a1.Byte]), r8, a0.Lost, (decide (((((r6 ++ [a1.Byte]).length : Nat) : Int) : Int) > 0))⟩ : Api_Uart), 0, 0)
    else none
   else
    bif ((a0.Lost : Int) == 1099511627776) then
     (uart_Step_1 4).bind fun r14 =>
     some (r14.1, r14.2.1, r14.2.2)
    else
     some ((⟨r6, r8, (IntKind.i64.wrap (a0.Lost + 1)), (decide ((((r6.length : Nat) : Int) : Int) > 0))⟩ : Api_Uart), 0, 0)
  else
   bif ((a1.Kind : Int) == 2) then
    bif ((((r6.length : Nat) : Int) : Int) == 0) then
     (uart_Step_1 3).bind fun r18 =>
     some (r18.1, r18.2.1, r18.2.2)
    else
     if 0 ≤ (0 : Int) ∧ 0 < ((r6.length : Nat) : Int) then
     if 1 ≤ r6.length then
     some ((⟨((r6.drop (0 + 1)).take (r6.length - 1)), r8, a0.Lost, (decide (((((r6.length - 1) : Nat) : Int) : Int) > 0))⟩ : Api_Uart), (r6.getD (0 + 0) 0), 0)
     else none
     else none
   else
    bif ((a1.Kind : Int) == 3) then
     bif ((((r8.length : Nat) : Int) : Int) == 16) then
      (uart_Step_1 7).bind fun r25 =>
      some (r25.1, r25.2.1, r25.2.2)
     else
      if ((r8).length + ([a1.Byte]).length + ((r8).length + ([a1.Byte]).length) / 4 + 192) * 1 ≤ 281474976710656 ∧ (r8).length + ([a1.Byte]).length ≤ 140737488355328 then
      some ((⟨r6, (r8 ++ [a1.Byte]), a0.Lost, (decide ((((r6.length : Nat) : Int) : Int) > 0))⟩ : Api_Uart), 0, 0)
      else none
    else
     bif ((a1.Kind : Int) == 4) then
      bif ((((r8.length : Nat) : Int) : Int) == 0) then
       (uart_Step_1 3).bind fun r30 =>
       some (r30.1, r30.2.1, r30.2.2)
      else
       if 0 ≤ (0 : Int) ∧ 0 < ((r8.length : Nat) : Int) then
       if 1 ≤ r8.length then
       some ((⟨r6, ((r8.drop (0 + 1)).take (r8.length - 1)), a0.Lost, (decide ((((r6.length : Nat) : Int) : Int) > 0))⟩ : Api_Uart), (r8.getD (0 + 0) 0), 0)
       else none
       else none
     else
      (uart_Step_1 5).bind fun r35 =>
      some (r35.1, r35.2.1, r35.2.2)
def line_Right_1 (a0 : Api_Pin) : Option (Bool) :=
 some ((((((((decide ((a0.Core : Int) < 0)) || (decide ((a0.Core : Int) ≥ 8))) || (decide ((a0.Vec : Int) < 32))) || (decide ((a0.Vec : Int) ≥ 256))) || (a0.Level && a0.Kept)) || ((!a0.Level) && a0.Sent)) || (a0.Kept && (!a0.Masked))) || (((a0.Level && a0.Up) && (!a0.Masked)) && (!a0.Sent)))
def sIdp_l1 (a0 : (List Api_Pin)) : Nat → Nat → Option (Int)
 | 0, _ => none
 | n1 + 1, k1 =>
  bif (decide ((((k1 : Nat) : Int) : Int) < ((a0.length : Nat) : Int))) then
   (line_Right_1 (a0.getD k1 (⟨0, 0, false, false, false, false, false⟩ : Api_Pin))).bind fun r4 =>
   bif r4 then
    some ((k1 : Nat) : Int)
   else
    sIdp_l1 a0 n1 (k1 + 1)
  else
   some (-1)
def sIdp (a0 : (List Api_Pin)) : Option (Int) :=
 sIdp_l1 a0 FUEL 0
def sCon (a0 : (List Api_Pin)) : Option (Bool) :=
 (sIdp a0).bind fun r1 =>
 some (decide ((r1 : Int) ≥ 0))
def line_Right (a0 : (List Api_Pin)) : Option (Bool) :=
 (bif (decide ((((a0.length : Nat) : Int) : Int) ≤ 24)) then sCon a0 else some false).bind fun r1 =>
 some ((decide ((((a0.length : Nat) : Int) : Int) ≤ 24)) && (!r1))
def slices_Clone_api_Pin (a0 : List Api_Pin) : Option (List Api_Pin) := if a0.length * 24 ≤ 140737488355328 then some a0 else none
def line_fire (a0 : Api_Pin) (a1 : Bool) : Option (Bool × Api_Pin) :=
 bif a0.Level then
  bif ((a0.Up && (!a0.Masked)) && (!a0.Sent)) then
   some (true, (⟨a0.Core, a0.Vec, a0.Level, a0.Masked, a0.Up, a0.Kept, true⟩ : Api_Pin))
  else
   some (false, a0)
 else
  bif (a1 && a0.Masked) then
   some (false, (⟨a0.Core, a0.Vec, a0.Level, a0.Masked, a0.Up, true, a0.Sent⟩ : Api_Pin))
  else
   bif a1 then
    bif a1 then
     some (true, (⟨a0.Core, a0.Vec, a0.Level, a0.Masked, a0.Up, false, a0.Sent⟩ : Api_Pin))
    else
     some (false, a0)
   else
    bif (a0.Kept && (!a0.Masked)) then
     some (true, (⟨a0.Core, a0.Vec, a0.Level, a0.Masked, a0.Up, false, a0.Sent⟩ : Api_Pin))
    else
     some (false, a0)
def Z0_4 (x0 : Api_Pin) (x1 : (List Api_Pin)) (x2 : Api_PinOp) : List Api_Pin := (x1.set (0 + (Int.toNat x2.Pin)) (⟨x0.Core, x0.Vec, x0.Level, x0.Masked, ((x2.Kind : Int) == 1), x0.Kept, x0.Sent⟩ : Api_Pin))
def Z0_0 (x0 : (List Api_Pin)) (x1 : Api_PinOp) : Api_Pin := (x0.getD (0 + (Int.toNat x1.Pin)) (⟨0, 0, false, false, false, false, false⟩ : Api_Pin))
def Z0_1 : Api_Pin := (⟨0, 0, false, false, false, false, false⟩ : Api_Pin)
def Z0_2 (x0 : Api_Pin) (x1 : (List Api_Pin)) (x2 : Api_PinOp) : List Api_Pin := (x1.set (0 + (Int.toNat x2.Pin)) (⟨x0.Core, x0.Vec, x0.Level, ((x2.Kind : Int) == 3), x0.Up, x0.Kept, x0.Sent⟩ : Api_Pin))
def Z0_5 (x0 : Api_Pin) (x1 : Api_PinOp) (x2 : (List Api_Pin)) (x3 : Api_Pin) : Api_Sent := (⟨x1.Pin, (((Z0_2 x0 x2 x1).set (0 + (Int.toNat x1.Pin)) x3).getD (0 + (Int.toNat x1.Pin)) Z0_1).Core, (((Z0_2 x0 x2 x1).set (0 + (Int.toNat x1.Pin)) x3).getD (0 + (Int.toNat x1.Pin)) Z0_1).Vec⟩ : Api_Sent)
def Z0_3 (x0 : Api_Pin) (x1 : (List Api_Pin)) (x2 : Api_PinOp) : List Api_Pin := (x1.set (0 + (Int.toNat x2.Pin)) (⟨x0.Core, x0.Vec, x0.Level, x0.Masked, x0.Up, x0.Kept, false⟩ : Api_Pin))
def Z0_6 (x0 : Api_Pin) (x1 : Api_PinOp) (x2 : (List Api_Pin)) (x3 : Api_Pin) : Api_Sent := (⟨x1.Pin, (((Z0_3 x0 x2 x1).set (0 + (Int.toNat x1.Pin)) x3).getD (0 + (Int.toNat x1.Pin)) Z0_1).Core, (((Z0_3 x0 x2 x1).set (0 + (Int.toNat x1.Pin)) x3).getD (0 + (Int.toNat x1.Pin)) Z0_1).Vec⟩ : Api_Sent)
def Z0_7 (x0 : Int) (x1 : (List Api_Pin)) (x2 : Api_Pin) : Api_Sent := (⟨x0, ((x1.set (0 + (Int.toNat x0)) x2).getD (0 + (Int.toNat x0)) Z0_1).Core, ((x1.set (0 + (Int.toNat x0)) x2).getD (0 + (Int.toNat x0)) Z0_1).Vec⟩ : Api_Sent)
def line_Step (a0 : (List Api_Pin)) (a1 : Api_PinOp) : Option ((List Api_Pin) × (List Api_Sent) × Int) :=
 (line_Right a0).bind fun r1 =>
 bif (!r1) then
  some (([] : List Api_Pin), ([] : List Api_Sent), 1)
 else
  bif ((decide ((a1.Kind : Int) < 1)) || (decide ((a1.Kind : Int) > 5))) then
   some (([] : List Api_Pin), ([] : List Api_Sent), 5)
  else
   bif ((decide ((a1.Pin : Int) < 0)) || (decide ((a1.Pin : Int) ≥ ((a0.length : Nat) : Int)))) then
    some (([] : List Api_Pin), ([] : List Api_Sent), 3)
   else
    (slices_Clone_api_Pin a0).bind fun r14 =>
    if 0 ≤ (a1.Pin : Int) ∧ a1.Pin < ((r14.length : Nat) : Int) then
    bif ((a1.Kind : Int) == 1) then
     bif ((a1.Kind : Int) == 1) then
      (line_fire ((Z0_4 (Z0_0 r14 a1) r14 a1).getD (0 + (Int.toNat a1.Pin)) Z0_1) (((a1.Kind : Int) == 1) && (!((Z0_0 r14 a1).Up)))).bind fun r23 =>
      bif r23.1 then
       some (((Z0_4 (Z0_0 r14 a1) r14 a1).set (0 + (Int.toNat a1.Pin)) r23.2), [(⟨a1.Pin, (((Z0_4 (Z0_0 r14 a1) r14 a1).set (0 + (Int.toNat a1.Pin)) r23.2).getD (0 + (Int.toNat a1.Pin)) Z0_1).Core, (((Z0_4 (Z0_0 r14 a1) r14 a1).set (0 + (Int.toNat a1.Pin)) r23.2).getD (0 + (Int.toNat a1.Pin)) Z0_1).Vec⟩ : Api_Sent)], 0)
      else
       some (((Z0_4 (Z0_0 r14 a1) r14 a1).set (0 + (Int.toNat a1.Pin)) r23.2), ([] : List Api_Sent), 0)
     else
      bif ((a1.Kind : Int) == 3) then
       bif ((a1.Kind : Int) == 3) then
        (line_fire ((Z0_2 (Z0_0 r14 a1) r14 a1).getD (0 + (Int.toNat a1.Pin)) Z0_1) (((a1.Kind : Int) == 1) && (!((Z0_0 r14 a1).Up)))).bind fun r28 =>
        bif r28.1 then
         some (((Z0_2 (Z0_0 r14 a1) r14 a1).set (0 + (Int.toNat a1.Pin)) r28.2), [(Z0_5 (Z0_0 r14 a1) a1 r14 r28.2)], 0)
        else
         some (((Z0_2 (Z0_0 r14 a1) r14 a1).set (0 + (Int.toNat a1.Pin)) r28.2), ([] : List Api_Sent), 0)
       else
        bif ((a1.Kind : Int) == 5) then
         (line_fire ((Z0_3 (Z0_0 r14 a1) r14 a1).getD (0 + (Int.toNat a1.Pin)) Z0_1) (((a1.Kind : Int) == 1) && (!((Z0_0 r14 a1).Up)))).bind fun r32 =>
         bif r32.1 then
          some (((Z0_3 (Z0_0 r14 a1) r14 a1).set (0 + (Int.toNat a1.Pin)) r32.2), [(Z0_6 (Z0_0 r14 a1) a1 r14 r32.2)], 0)
         else
          some (((Z0_3 (Z0_0 r14 a1) r14 a1).set (0 + (Int.toNat a1.Pin)) r32.2), ([] : List Api_Sent), 0)
        else
         (line_fire (Z0_0 r14 a1) (((a1.Kind : Int) == 1) && (!((Z0_0 r14 a1).Up)))).bind fun r35 =>
         bif r35.1 then
          some ((r14.set (0 + (Int.toNat a1.Pin)) r35.2), [(Z0_7 a1.Pin r14 r35.2)], 0)
         else
          some ((r14.set (0 + (Int.toNat a1.Pin)) r35.2), ([] : List Api_Sent), 0)
      else
       bif ((a1.Kind : Int) == 4) then
        (line_fire ((Z0_2 (Z0_0 r14 a1) r14 a1).getD (0 + (Int.toNat a1.Pin)) Z0_1) (((a1.Kind : Int) == 1) && (!((Z0_0 r14 a1).Up)))).bind fun r39 =>
        bif r39.1 then
         some (((Z0_2 (Z0_0 r14 a1) r14 a1).set (0 + (Int.toNat a1.Pin)) r39.2), [(Z0_5 (Z0_0 r14 a1) a1 r14 r39.2)], 0)
        else
         some (((Z0_2 (Z0_0 r14 a1) r14 a1).set (0 + (Int.toNat a1.Pin)) r39.2), ([] : List Api_Sent), 0)
       else
        bif ((a1.Kind : Int) == 5) then
         (line_fire ((Z0_3 (Z0_0 r14 a1) r14 a1).getD (0 + (Int.toNat a1.Pin)) Z0_1) (((a1.Kind : Int) == 1) && (!((Z0_0 r14 a1).Up)))).bind fun r43 =>
         bif r43.1 then
          some (((Z0_3 (Z0_0 r14 a1) r14 a1).set (0 + (Int.toNat a1.Pin)) r43.2), [(Z0_6 (Z0_0 r14 a1) a1 r14 r43.2)], 0)
         else
          some (((Z0_3 (Z0_0 r14 a1) r14 a1).set (0 + (Int.toNat a1.Pin)) r43.2), ([] : List Api_Sent), 0)
        else
         (line_fire (Z0_0 r14 a1) (((a1.Kind : Int) == 1) && (!((Z0_0 r14 a1).Up)))).bind fun r46 =>
         bif r46.1 then
          some ((r14.set (0 + (Int.toNat a1.Pin)) r46.2), [(Z0_7 a1.Pin r14 r46.2)], 0)
         else
          some ((r14.set (0 + (Int.toNat a1.Pin)) r46.2), ([] : List Api_Sent), 0)
    else
     bif ((a1.Kind : Int) == 2) then
      (line_fire ((Z0_4 (Z0_0 r14 a1) r14 a1).getD (0 + (Int.toNat a1.Pin)) Z0_1) (((a1.Kind : Int) == 1) && (!((Z0_0 r14 a1).Up)))).bind fun r50 =>
      bif r50.1 then
       some (((Z0_4 (Z0_0 r14 a1) r14 a1).set (0 + (Int.toNat a1.Pin)) r50.2), [(⟨a1.Pin, (((Z0_4 (Z0_0 r14 a1) r14 a1).set (0 + (Int.toNat a1.Pin)) r50.2).getD (0 + (Int.toNat a1.Pin)) Z0_1).Core, (((Z0_4 (Z0_0 r14 a1) r14 a1).set (0 + (Int.toNat a1.Pin)) r50.2).getD (0 + (Int.toNat a1.Pin)) Z0_1).Vec⟩ : Api_Sent)], 0)
      else
       some (((Z0_4 (Z0_0 r14 a1) r14 a1).set (0 + (Int.toNat a1.Pin)) r50.2), ([] : List Api_Sent), 0)
     else
      bif ((a1.Kind : Int) == 3) then
       bif ((a1.Kind : Int) == 3) then
        (line_fire ((Z0_2 (Z0_0 r14 a1) r14 a1).getD (0 + (Int.toNat a1.Pin)) Z0_1) (((a1.Kind : Int) == 1) && (!((Z0_0 r14 a1).Up)))).bind fun r55 =>
        bif r55.1 then
         some (((Z0_2 (Z0_0 r14 a1) r14 a1).set (0 + (Int.toNat a1.Pin)) r55.2), [(Z0_5 (Z0_0 r14 a1) a1 r14 r55.2)], 0)
        else
         some (((Z0_2 (Z0_0 r14 a1) r14 a1).set (0 + (Int.toNat a1.Pin)) r55.2), ([] : List Api_Sent), 0)
       else
        bif ((a1.Kind : Int) == 5) then
         (line_fire ((Z0_3 (Z0_0 r14 a1) r14 a1).getD (0 + (Int.toNat a1.Pin)) Z0_1) (((a1.Kind : Int) == 1) && (!((Z0_0 r14 a1).Up)))).bind fun r59 =>
         bif r59.1 then
          some (((Z0_3 (Z0_0 r14 a1) r14 a1).set (0 + (Int.toNat a1.Pin)) r59.2), [(Z0_6 (Z0_0 r14 a1) a1 r14 r59.2)], 0)
         else
          some (((Z0_3 (Z0_0 r14 a1) r14 a1).set (0 + (Int.toNat a1.Pin)) r59.2), ([] : List Api_Sent), 0)
        else
         (line_fire (Z0_0 r14 a1) (((a1.Kind : Int) == 1) && (!((Z0_0 r14 a1).Up)))).bind fun r62 =>
         bif r62.1 then
          some ((r14.set (0 + (Int.toNat a1.Pin)) r62.2), [(Z0_7 a1.Pin r14 r62.2)], 0)
         else
          some ((r14.set (0 + (Int.toNat a1.Pin)) r62.2), ([] : List Api_Sent), 0)
      else
       bif ((a1.Kind : Int) == 4) then
        (line_fire ((Z0_2 (Z0_0 r14 a1) r14 a1).getD (0 + (Int.toNat a1.Pin)) Z0_1) (((a1.Kind : Int) == 1) && (!((Z0_0 r14 a1).Up)))).bind fun r66 =>
        bif r66.1 then
         some (((Z0_2 (Z0_0 r14 a1) r14 a1).set (0 + (Int.toNat a1.Pin)) r66.2), [(Z0_5 (Z0_0 r14 a1) a1 r14 r66.2)], 0)
        else
         some (((Z0_2 (Z0_0 r14 a1) r14 a1).set (0 + (Int.toNat a1.Pin)) r66.2), ([] : List Api_Sent), 0)
       else
        bif ((a1.Kind : Int) == 5) then
         (line_fire ((Z0_3 (Z0_0 r14 a1) r14 a1).getD (0 + (Int.toNat a1.Pin)) Z0_1) (((a1.Kind : Int) == 1) && (!((Z0_0 r14 a1).Up)))).bind fun r70 =>
         bif r70.1 then
          some (((Z0_3 (Z0_0 r14 a1) r14 a1).set (0 + (Int.toNat a1.Pin)) r70.2), [(Z0_6 (Z0_0 r14 a1) a1 r14 r70.2)], 0)
         else
          some (((Z0_3 (Z0_0 r14 a1) r14 a1).set (0 + (Int.toNat a1.Pin)) r70.2), ([] : List Api_Sent), 0)
        else
         (line_fire (Z0_0 r14 a1) (((a1.Kind : Int) == 1) && (!((Z0_0 r14 a1).Up)))).bind fun r73 =>
         bif r73.1 then
          some ((r14.set (0 + (Int.toNat a1.Pin)) r73.2), [(Z0_7 a1.Pin r14 r73.2)], 0)
         else
          some ((r14.set (0 + (Int.toNat a1.Pin)) r73.2), ([] : List Api_Sent), 0)
    else none
def bits_fits (a0 : Int) : Option (Bool) :=
 some ((decide ((a0 : Int) ≥ 0)) && (decide ((a0 : Int) < 256)))
def bits_TrailingZeros64 (a0 : Int) : Option Int := if 0 ≤ a0 ∧ a0 < 18446744073709551616 then some ((Lib.ctz 64 a0.toNat : Nat) : Int) else none
def bits_Next_l1 (a0 : (Nat → Int)) (a1 : Int) : Nat → Int → Option (Int)
 | 0, _ => none
 | n1 + 1, x10 =>
  bif (decide ((x10 : Int) < 4)) then
   if 0 ≤ (x10 : Int) ∧ x10 < ((4 : Nat) : Int) then
   bif ((((upd a0 (Int.toNat (IntKind.i64.wrap (Int.tdiv (if (0 : Int) > a1 then 0 else a1) 64))) (bitsOf .andNot .u64 (a0 (Int.toNat (IntKind.i64.wrap (Int.tdiv (if (0 : Int) > a1 then 0 else a1) 64)))) (IntKind.u64.wrap ((IntKind.u64.wrap (1 * 2 ^ (min (Int.toNat (Int.tmod (if (0 : Int) > a1 then 0 else a1) 64)) IntKind.u64.bits))) - 1)))) (Int.toNat x10)) : Int) != 0) then
    if 0 ≤ (x10 : Int) ∧ x10 < ((4 : Nat) : Int) then
    (bits_TrailingZeros64 ((upd a0 (Int.toNat (IntKind.i64.wrap (Int.tdiv (if (0 : Int) > a1 then 0 else a1) 64))) (bitsOf .andNot .u64 (a0 (Int.toNat (IntKind.i64.wrap (Int.tdiv (if (0 : Int) > a1 then 0 else a1) 64)))) (IntKind.u64.wrap ((IntKind.u64.wrap (1 * 2 ^ (min (Int.toNat (Int.tmod (if (0 : Int) > a1 then 0 else a1) 64)) IntKind.u64.bits))) - 1)))) (Int.toNat x10))).bind fun r15 =>
    some (IntKind.i64.wrap ((IntKind.i64.wrap (64 * x10)) + r15))
    else none
   else
    bits_Next_l1 a0 a1 n1 (IntKind.i64.wrap (x10 + 1))
   else none
  else
   some (-1)
def bits_Next (a0 : (Nat → Int)) (a1 : Int) : Option (Int) :=
 (bits_fits (if (0 : Int) > a1 then 0 else a1)).bind fun r1 =>
 bif (!r1) then
  some (-1)
 else
  if 0 ≤ ((IntKind.i64.wrap (Int.tdiv (if (0 : Int) > a1 then 0 else a1) 64)) : Int) ∧ (IntKind.i64.wrap (Int.tdiv (if (0 : Int) > a1 then 0 else a1) 64)) < ((4 : Nat) : Int) then
  if 0 ≤ ((Int.tmod (if (0 : Int) > a1 then 0 else a1) 64) : Int) then
  if 0 ≤ ((IntKind.i64.wrap (Int.tdiv (if (0 : Int) > a1 then 0 else a1) 64)) : Int) ∧ (IntKind.i64.wrap (Int.tdiv (if (0 : Int) > a1 then 0 else a1) 64)) < ((4 : Nat) : Int) then
  bits_Next_l1 a0 a1 FUEL (IntKind.i64.wrap (Int.tdiv (if (0 : Int) > a1 then 0 else a1) 64))
  else none
  else none
  else none
def apic_class (a0 : Int) : Option (Int) :=
 some (IntKind.i64.wrap (Int.tdiv a0 16))
def apic_Right_l1 (a0 : ALo) (r1 : Int) : Nat → Int → Int → Option (Bool)
 | 0, _, _ => none
 | n1 + 1, x3, x4 =>
  bif (decide ((x4 : Int) ≥ 0)) then
   (apic_class x4).bind fun r6 =>
   bif (((r6 : Int) == x3) || (decide ((x4 : Int) < 32))) then
    none
   else
    (apic_class x4).bind fun r11 =>
    (bits_Next a0.Served (IntKind.i64.wrap (x4 + 1))).bind fun r13 =>
    apic_Right_l1 a0 r1 n1 r11 r13
  else
   (bif ((decide ((a0.Class : Int) ≥ 0)) && (decide ((a0.Class : Int) ≤ 15))) then bits_Next a0.Asked 0 else some 0).bind fun r19 =>
   (bif (((decide ((a0.Class : Int) ≥ 0)) && (decide ((a0.Class : Int) ≤ 15))) && !(decide ((r19 : Int) < 0))) then bits_Next a0.Asked 0 else some 0).bind fun r24 =>
   some (((decide ((a0.Class : Int) ≥ 0)) && (decide ((a0.Class : Int) ≤ 15))) && ((decide ((r19 : Int) < 0)) || (decide ((r24 : Int) ≥ 32))))
def apic_Right (a0 : ALo) : Option (Bool) :=
 (bits_Next a0.Served 0).bind fun r1 =>
 apic_Right_l1 a0 r1 FUEL (-1) r1
def bits_With (a0 : (Nat → Int)) (a1 : Int) : Option ((Nat → Int)) :=
 (bits_fits a1).bind fun r1 =>
 bif r1 then
  if 0 ≤ ((IntKind.i64.wrap (Int.tdiv a1 64)) : Int) ∧ (IntKind.i64.wrap (Int.tdiv a1 64)) < ((4 : Nat) : Int) then
  if 0 ≤ ((Int.tmod a1 64) : Int) then
  if 0 ≤ ((IntKind.i64.wrap (Int.tdiv a1 64)) : Int) ∧ (IntKind.i64.wrap (Int.tdiv a1 64)) < ((4 : Nat) : Int) then
  some (upd a0 (Int.toNat (IntKind.i64.wrap (Int.tdiv a1 64))) (bitsOf .or .u64 (a0 (Int.toNat (IntKind.i64.wrap (Int.tdiv a1 64)))) (IntKind.u64.wrap (1 * 2 ^ (min (Int.toNat (Int.tmod a1 64)) IntKind.u64.bits)))))
  else none
  else none
  else none
 else
  some a0
def bits_LeadingZeros64 (a0 : Int) : Option Int := if 0 ≤ a0 ∧ a0 < 18446744073709551616 then some (64 - ((Lib.bitLen a0.toNat : Nat) : Int)) else none
def bits_Top_l1 (a0 : (Nat → Int)) : Nat → Int → Option (Int)
 | 0, _ => none
 | n1 + 1, x1 =>
  bif (decide ((x1 : Int) ≥ 0)) then
   if 0 ≤ (x1 : Int) ∧ x1 < ((4 : Nat) : Int) then
   bif (((a0 (Int.toNat x1)) : Int) != 0) then
    if 0 ≤ (x1 : Int) ∧ x1 < ((4 : Nat) : Int) then
    (bits_LeadingZeros64 (a0 (Int.toNat x1))).bind fun r6 =>
    some (IntKind.i64.wrap ((IntKind.i64.wrap ((IntKind.i64.wrap (64 * x1)) + 63)) - r6))
    else none
   else
    bits_Top_l1 a0 n1 (IntKind.i64.wrap (x1 - 1))
   else none
  else
   some (-1)
def bits_Top (a0 : (Nat → Int)) : Option (Int) :=
 bits_Top_l1 a0 FUEL 3
def apic_level (a0 : ALo) : Option (Int) :=
 (bits_Top a0.Served).bind fun r1 =>
 (apic_class (if (0 : Int) > r1 then 0 else r1)).bind fun r3 =>
 some (if (r3 : Int) > a0.Class then r3 else a0.Class)
def apic_Would (a0 : ALo) : Option (Int) :=
 (bits_Top a0.Asked).bind fun r1 =>
 (apic_Right a0).bind fun r3 =>
 (bif (r3 && (decide ((r1 : Int) ≥ 0))) then apic_class r1 else some 0).bind fun r7 =>
 (bif (r3 && (decide ((r1 : Int) ≥ 0))) then apic_level a0 else some 0).bind fun r9 =>
 bif ((r3 && (decide ((r1 : Int) ≥ 0))) && (decide ((r7 : Int) > r9))) then
  some r1
 else
  some (-1)
def bits_Without (a0 : (Nat → Int)) (a1 : Int) : Option ((Nat → Int)) :=
 (bits_fits a1).bind fun r1 =>
 bif r1 then
  if 0 ≤ ((IntKind.i64.wrap (Int.tdiv a1 64)) : Int) ∧ (IntKind.i64.wrap (Int.tdiv a1 64)) < ((4 : Nat) : Int) then
  if 0 ≤ ((Int.tmod a1 64) : Int) then
  if 0 ≤ ((IntKind.i64.wrap (Int.tdiv a1 64)) : Int) ∧ (IntKind.i64.wrap (Int.tdiv a1 64)) < ((4 : Nat) : Int) then
  some (upd a0 (Int.toNat (IntKind.i64.wrap (Int.tdiv a1 64))) (bitsOf .andNot .u64 (a0 (Int.toNat (IntKind.i64.wrap (Int.tdiv a1 64)))) (IntKind.u64.wrap (1 * 2 ^ (min (Int.toNat (Int.tmod a1 64)) IntKind.u64.bits)))))
  else none
  else none
  else none
 else
  some a0
def apic_Step (a0 : ALo) (a1 : ALoOp) : Option (ALo × Int × Int) :=
 (apic_Right a0).bind fun r1 =>
 bif (!r1) then
  none
 else
  bif ((a1.Kind : Int) == 1) then
   bif ((decide ((a1.N : Int) < 32)) || (decide ((a1.N : Int) ≥ 256))) then
    none
   else
    (bits_With a0.Asked a1.N).bind fun r13 =>
    some ((⟨r13, a0.Served, a0.Class⟩ : ALo), (-1), 0)
  else
   bif ((a1.Kind : Int) == 2) then
    (apic_Would a0).bind fun r16 =>
    bif (decide ((r16 : Int) < 0)) then
     none
    else
     (bits_Without a0.Asked r16).bind fun r21 =>
     (bits_With a0.Served r16).bind fun r23 =>
     some ((⟨r21, r23, a0.Class⟩ : ALo), r16, 0)
   else
    bif ((a1.Kind : Int) == 3) then
     (bits_Top a0.Served).bind fun r26 =>
     bif (decide ((r26 : Int) < 0)) then
      none
     else
      (bits_Without a0.Served r26).bind fun r31 =>
      some ((⟨a0.Asked, r31, a0.Class⟩ : ALo), r26, 0)
    else
     none
def Z1_1 (x0 x1 x2 x3 x4 x5 x6 x7 x8 : Int) (x9 : Bool) (x10 : List AFr) (x11 : Bool) (x12 x13 x14 x15 x16 x17 x18 x19 x20 : Int) (x21 : Bool) (x22 : List AFr) (x23 : Bool) := (arrOf [(⟨(⟨(arrOf [x0, x1, x2, x3] 0), (arrOf [x4, x5, x6, x7] 0), x8⟩ : ALo), (⟨x9, x10⟩ : Api_Core), x11⟩ : Kernel_core), (⟨(⟨(arrOf [x12, x13, x14, x15] 0), (arrOf [x16, x17, x18, x19] 0), x20⟩ : ALo), (⟨x21, x22⟩ : Api_Core), x23⟩ : Kernel_core)] (⟨(⟨(fun (_ : Nat) => (0 : Int)), (fun (_ : Nat) => (0 : Int)), 0⟩ : ALo), (⟨false, []⟩ : Api_Core), false⟩ : Kernel_core))
def Z1_0 (x0 x1 x2 x3 x4 x5 x6 x7 x8 : Int) (x9 : Bool) (x10 : List AFr) (x11 : Bool) (x12 x13 x14 x15 x16 x17 x18 x19 x20 : Int) (x21 : Bool) (x22 : List AFr) (x23 : Bool) (x24 : (List Api_Sent)) (x25 : Nat) (x26 : ALo) := (upd (Z1_1 x0 x1 x2 x3 x4 x5 x6 x7 x8 x9 x10 x11 x12 x13 x14 x15 x16 x17 x18 x19 x20 x21 x22 x23) (Int.toNat ((x24.getD (0 + x25) (⟨0, 0, 0⟩ : Api_Sent)).Core)) (⟨x26, ((Z1_1 x0 x1 x2 x3 x4 x5 x6 x7 x8 x9 x10 x11 x12 x13 x14 x15 x16 x17 x18 x19 x20 x21 x22 x23) (Int.toNat ((x24.getD (0 + x25) (⟨0, 0, 0⟩ : Api_Sent)).Core))).nest_, ((Z1_1 x0 x1 x2 x3 x4 x5 x6 x7 x8 x9 x10 x11 x12 x13 x14 x15 x16 x17 x18 x19 x20 x21 x22 x23) (Int.toNat ((x24.getD (0 + x25) (⟨0, 0, 0⟩ : Api_Sent)).Core))).serving_⟩ : Kernel_core))
def kw_pin_o8_l1 (a0 : KWh) (r1 : (List Api_Pin) × (List Api_Sent) × Int) : Nat → Nat → Int → Int → Int → Int → Int → Int → Int → Int → Int → Bool → List AFr → Bool → Int → Int → Int → Int → Int → Int → Int → Int → Int → Bool → List AFr → Bool → Option (KWh)
 | 0, _, _, _, _, _, _, _, _, _, _, _, _, _, _, _, _, _, _, _, _, _, _, _, _, _ => none
 | n1 + 1, k4, x5, x6, x7, x8, x9, x10, x11, x12, x13, b14, l15, b16, x17, x18, x19, x20, x21, x22, x23, x24, x25, b26, l27, b28 =>
  bif (decide ((((k4 : Nat) : Int) : Int) < ((r1.2.1.length : Nat) : Int))) then
   if 0 ≤ ((r1.2.1.getD (0 + k4) (⟨0, 0, 0⟩ : Api_Sent)).Core : Int) ∧ ((r1.2.1.getD (0 + k4) (⟨0, 0, 0⟩ : Api_Sent)).Core) < ((2 : Nat) : Int) then
   (apic_Step (((Z1_1 x5 x6 x7 x8 x9 x10 x11 x12 x13 b14 l15 b16 x17 x18 x19 x20 x21 x22 x23 x24 x25 b26 l27 b28) (Int.toNat ((r1.2.1.getD (0 + k4) (⟨0, 0, 0⟩ : Api_Sent)).Core))).local_) (⟨1, (r1.2.1.getD (0 + k4) (⟨0, 0, 0⟩ : Api_Sent)).Vec⟩ : ALoOp)).bind fun r32 =>
   bif ((r32.2.2 : Int) == 0) then
    kw_pin_o8_l1 a0 r1 n1 (k4 + 1) ((((Z1_0 x5 x6 x7 x8 x9 x10 x11 x12 x13 b14 l15 b16 x17 x18 x19 x20 x21 x22 x23 x24 x25 b26 l27 b28 r1.2.1 k4 r32.1) 0).local_.Asked) 0) ((((Z1_0 x5 x6 x7 x8 x9 x10 x11 x12 x13 b14 l15 b16 x17 x18 x19 x20 x21 x22 x23 x24 x25 b26 l27 b28 r1.2.1 k4 r32.1) 0).local_.Asked) 1) ((((Z1_0 x5 x6 x7 x8 x9 x10 x11 x12 x13 b14 l15 b16 x17 x18 x19 x20 x21 x22 x23 x24 x25 b26 l27 b28 r1.2.1 k4 r32.1) 0).local_.Asked) 2) ((((Z1_0 x5 x6 x7 x8 x9 x10 x11 x12 x13 b14 l15 b16 x17 x18 x19 x20 x21 x22 x23 x24 x25 b26 l27 b28 r1.2.1 k4 r32.1) 0).local_.Asked) 3) ((((Z1_0 x5 x6 x7 x8 x9 x10 x11 x12 x13 b14 l15 b16 x17 x18 x19 x20 x21 x22 x23 x24 x25 b26 l27 b28 r1.2.1 k4 r32.1) 0).local_.Served) 0) ((((Z1_0 x5 x6 x7 x8 x9 x10 x11 x12 x13 b14 l15 b16 x17 x18 x19 x20 x21 x22 x23 x24 x25 b26 l27 b28 r1.2.1 k4 r32.1) 0).local_.Served) 1) ((((Z1_0 x5 x6 x7 x8 x9 x10 x11 x12 x13 b14 l15 b16 x17 x18 x19 x20 x21 x22 x23 x24 x25 b26 l27 b28 r1.2.1 k4 r32.1) 0).local_.Served) 2) ((((Z1_0 x5 x6 x7 x8 x9 x10 x11 x12 x13 b14 l15 b16 x17 x18 x19 x20 x21 x22 x23 x24 x25 b26 l27 b28 r1.2.1 k4 r32.1) 0).local_.Served) 3) (((Z1_0 x5 x6 x7 x8 x9 x10 x11 x12 x13 b14 l15 b16 x17 x18 x19 x20 x21 x22 x23 x24 x25 b26 l27 b28 r1.2.1 k4 r32.1) 0).local_.Class) (((Z1_0 x5 x6 x7 x8 x9 x10 x11 x12 x13 b14 l15 b16 x17 x18 x19 x20 x21 x22 x23 x24 x25 b26 l27 b28 r1.2.1 k4 r32.1) 0).nest_.On) (((Z1_0 x5 x6 x7 x8 x9 x10 x11 x12 x13 b14 l15 b16 x17 x18 x19 x20 x21 x22 x23 x24 x25 b26 l27 b28 r1.2.1 k4 r32.1) 0).nest_.Kept) (((Z1_0 x5 x6 x7 x8 x9 x10 x11 x12 x13 b14 l15 b16 x17 x18 x19 x20 x21 x22 x23 x24 x25 b26 l27 b28 r1.2.1 k4 r32.1) 0).serving_) ((((Z1_0 x5 x6 x7 x8 x9 x10 x11 x12 x13 b14 l15 b16 x17 x18 x19 x20 x21 x22 x23 x24 x25 b26 l27 b28 r1.2.1 k4 r32.1) 1).local_.Asked) 0) ((((Z1_0 x5 x6 x7 x8 x9 x10 x11 x12 x13 b14 l15 b16 x17 x18 x19 x20 x21 x22 x23 x24 x25 b26 l27 b28 r1.2.1 k4 r32.1) 1).local_.Asked) 1) ((((Z1_0 x5 x6 x7 x8 x9 x10 x11 x12 x13 b14 l15 b16 x17 x18 x19 x20 x21 x22 x23 x24 x25 b26 l27 b28 r1.2.1 k4 r32.1) 1).local_.Asked) 2) ((((Z1_0 x5 x6 x7 x8 x9 x10 x11 x12 x13 b14 l15 b16 x17 x18 x19 x20 x21 x22 x23 x24 x25 b26 l27 b28 r1.2.1 k4 r32.1) 1).local_.Asked) 3) ((((Z1_0 x5 x6 x7 x8 x9 x10 x11 x12 x13 b14 l15 b16 x17 x18 x19 x20 x21 x22 x23 x24 x25 b26 l27 b28 r1.2.1 k4 r32.1) 1).local_.Served) 0) ((((Z1_0 x5 x6 x7 x8 x9 x10 x11 x12 x13 b14 l15 b16 x17 x18 x19 x20 x21 x22 x23 x24 x25 b26 l27 b28 r1.2.1 k4 r32.1) 1).local_.Served) 1) ((((Z1_0 x5 x6 x7 x8 x9 x10 x11 x12 x13 b14 l15 b16 x17 x18 x19 x20 x21 x22 x23 x24 x25 b26 l27 b28 r1.2.1 k4 r32.1) 1).local_.Served) 2) ((((Z1_0 x5 x6 x7 x8 x9 x10 x11 x12 x13 b14 l15 b16 x17 x18 x19 x20 x21 x22 x23 x24 x25 b26 l27 b28 r1.2.1 k4 r32.1) 1).local_.Served) 3) (((Z1_0 x5 x6 x7 x8 x9 x10 x11 x12 x13 b14 l15 b16 x17 x18 x19 x20 x21 x22 x23 x24 x25 b26 l27 b28 r1.2.1 k4 r32.1) 1).local_.Class) (((Z1_0 x5 x6 x7 x8 x9 x10 x11 x12 x13 b14 l15 b16 x17 x18 x19 x20 x21 x22 x23 x24 x25 b26 l27 b28 r1.2.1 k4 r32.1) 1).nest_.On) (((Z1_0 x5 x6 x7 x8 x9 x10 x11 x12 x13 b14 l15 b16 x17 x18 x19 x20 x21 x22 x23 x24 x25 b26 l27 b28 r1.2.1 k4 r32.1) 1).nest_.Kept) (((Z1_0 x5 x6 x7 x8 x9 x10 x11 x12 x13 b14 l15 b16 x17 x18 x19 x20 x21 x22 x23 x24 x25 b26 l27 b28 r1.2.1 k4 r32.1) 1).serving_)
   else
    none
   else none
  else
   some (⟨a0.uart_, r1.1, (Z1_1 x5 x6 x7 x8 x9 x10 x11 x12 x13 b14 l15 b16 x17 x18 x19 x20 x21 x22 x23 x24 x25 b26 l27 b28), a0.fetched_, a0.tty_, a0.taken_⟩ : KWh)
def kw_pin_o8 (a0 : KWh) (a1 : Int) : Option (KWh) :=
 (line_Step a0.pins_ (⟨a1, 0⟩ : Api_PinOp)).bind fun r1 =>
 bif ((r1.2.2 : Int) != 0) then
  none
 else
  kw_pin_o8_l1 a0 r1 FUEL 0 (((a0.cores_ 0).local_.Asked) 0) (((a0.cores_ 0).local_.Asked) 1) (((a0.cores_ 0).local_.Asked) 2) (((a0.cores_ 0).local_.Asked) 3) (((a0.cores_ 0).local_.Served) 0) (((a0.cores_ 0).local_.Served) 1) (((a0.cores_ 0).local_.Served) 2) (((a0.cores_ 0).local_.Served) 3) ((a0.cores_ 0).local_.Class) ((a0.cores_ 0).nest_.On) ((a0.cores_ 0).nest_.Kept) ((a0.cores_ 0).serving_) (((a0.cores_ 1).local_.Asked) 0) (((a0.cores_ 1).local_.Asked) 1) (((a0.cores_ 1).local_.Asked) 2) (((a0.cores_ 1).local_.Asked) 3) (((a0.cores_ 1).local_.Served) 0) (((a0.cores_ 1).local_.Served) 1) (((a0.cores_ 1).local_.Served) 2) (((a0.cores_ 1).local_.Served) 3) ((a0.cores_ 1).local_.Class) ((a0.cores_ 1).nest_.On) ((a0.cores_ 1).nest_.Kept) ((a0.cores_ 1).serving_)
def kw_level_o8 (a0 : KWh) : Option (KWh) :=
 bif a0.uart_.Asks then
  (kw_pin_o8 a0 1).bind fun r2 =>
  some r2
 else
  (kw_pin_o8 a0 2).bind fun r4 =>
  some r4
def kw_device_o8 (a0 : KWh) (a1 : Api_UartOp) : Option (Int × Int × KWh) :=
 (uart_Step a0.uart_ a1).bind fun r1 =>
 bif ((r1.2.2 : Int) == 0) then
  (kw_level_o8 (⟨r1.1, a0.pins_, a0.cores_, a0.fetched_, a0.tty_, a0.taken_⟩ : KWh)).bind fun r4 =>
  some (r1.2.1, r1.2.2, r4)
 else
  none
def nest_Right_l1 (a0 : Api_Core) : Nat → Bool → Nat → Option (Bool)
 | 0, _, _ => none
 | n1 + 1, b2, k3 =>
  bif (decide ((((k3 : Nat) : Int) : Int) < ((a0.Kept.length : Nat) : Int))) then
   bif ((((a0.Kept.getD k3 (⟨false, false⟩ : AFr)).On) && (!b2)) || (((a0.Kept.getD k3 (⟨false, false⟩ : AFr)).Irq) && (!((a0.Kept.getD k3 (⟨false, false⟩ : AFr)).On)))) then
    none
   else
    nest_Right_l1 a0 n1 false (k3 + 1)
  else
   some ((!a0.On) || b2)
def nest_Right (a0 : Api_Core) : Option (Bool) :=
 bif (decide ((((a0.Kept.length : Nat) : Int) : Int) > 400)) then
  none
 else
  nest_Right_l1 a0 FUEL true 0
def slices_Clone_api_Frame (a0 : List AFr) : Option (List AFr) := if a0.length * 2 ≤ 140737488355328 then some a0 else none
def nest_Step (a0 : Api_Core) (a1 : Int) : Option (Api_Core × Int) :=
 (nest_Right a0).bind fun r1 =>
 bif (!r1) then
  none
 else
  bif ((decide ((a1 : Int) < 1)) || (decide ((a1 : Int) > 4))) then
   none
  else
   bif ((((a1 : Int) == 1) || ((a1 : Int) == 3)) && ((((a0.Kept.length : Nat) : Int) : Int) == 400)) then
    none
   else
    bif (((a1 : Int) == 3) && (!a0.On)) then
     none
    else
     bif ((((a1 : Int) == 2) || ((a1 : Int) == 4)) && ((((a0.Kept.length : Nat) : Int) : Int) == 0)) then
      none
     else
      if ((((a1 : Int) == 2) || ((a1 : Int) == 4)) = true → (0 ≤ ((IntKind.i64.wrap (((a0.Kept.length : Nat) : Int) - 1)) : Int) ∧ (IntKind.i64.wrap (((a0.Kept.length : Nat) : Int) - 1)) < ((a0.Kept.length : Nat) : Int))) then
      bif ((((a1 : Int) == 2) || ((a1 : Int) == 4)) && (((a0.Kept.getD (Int.toNat (IntKind.i64.wrap (((a0.Kept.length : Nat) : Int) - 1))) (⟨false, false⟩ : AFr)).Irq) != ((a1 : Int) == 4))) then
       none
      else
       bif (((a1 : Int) == 1) || ((a1 : Int) == 3)) then
        (slices_Clone_api_Frame a0.Kept).bind fun r38 =>
        if ((r38).length + ([(⟨a0.On, ((a1 : Int) == 3)⟩ : AFr)]).length + ((r38).length + ([(⟨a0.On, ((a1 : Int) == 3)⟩ : AFr)]).length) / 4 + 192) * 2 ≤ 281474976710656 ∧ (r38).length + ([(⟨a0.On, ((a1 : Int) == 3)⟩ : AFr)]).length ≤ 140737488355328 then
        some ((⟨false, (r38 ++ [(⟨a0.On, ((a1 : Int) == 3)⟩ : AFr)])⟩ : Api_Core), 0)
        else none
       else
        if 0 ≤ ((IntKind.i64.wrap (((a0.Kept.length : Nat) : Int) - 1)) : Int) ∧ (IntKind.i64.wrap (((a0.Kept.length : Nat) : Int) - 1)) < ((a0.Kept.length : Nat) : Int) then
        if 0 ≤ ((IntKind.i64.wrap (((a0.Kept.length : Nat) : Int) - 1)) : Int) then
        if (Int.toNat (IntKind.i64.wrap (((a0.Kept.length : Nat) : Int) - 1))) ≤ a0.Kept.length then
        (slices_Clone_api_Frame ((a0.Kept.drop 0).take ((Int.toNat (IntKind.i64.wrap (((a0.Kept.length : Nat) : Int) - 1))) - 0))).bind fun r44 =>
        some ((⟨(a0.Kept.getD (Int.toNat (IntKind.i64.wrap (((a0.Kept.length : Nat) : Int) - 1))) (⟨false, false⟩ : AFr)).On, r44⟩ : Api_Core), 0)
        else none
        else none
        else none
      else none
def kcd (a0 : KWh) (k_a0 : Int) (a1 : Int) : Option (Int × KWh) :=
 if 0 ≤ (k_a0 : Int) ∧ k_a0 < ((2 : Nat) : Int) then
 (nest_Step ((a0.cores_ (Int.toNat k_a0)).nest_) a1).bind fun r2 =>
 bif ((r2.2 : Int) == 0) then
  some (r2.2, (⟨a0.uart_, a0.pins_, (upd a0.cores_ (Int.toNat k_a0) (⟨(a0.cores_ (Int.toNat k_a0)).local_, r2.1, (a0.cores_ (Int.toNat k_a0)).serving_⟩ : Kernel_core)), a0.fetched_, a0.tty_, a0.taken_⟩ : KWh))
 else
  none
 else none
def tty_Right_1 (a0 : (List Int)) : Option (Bool) :=
 some (decide ((((a0.length : Nat) : Int) : Int) > 65))
def slices_IndexFunc_slbyte_tty_Right_1_l1 (a0 : (List (List Int))) : Nat → Nat → Option (Int)
 | 0, _ => none
 | n1 + 1, k1 =>
  bif (decide ((((k1 : Nat) : Int) : Int) < ((a0.length : Nat) : Int))) then
   (tty_Right_1 (a0.getD k1 [])).bind fun r4 =>
   bif r4 then
    some ((k1 : Nat) : Int)
   else
    slices_IndexFunc_slbyte_tty_Right_1_l1 a0 n1 (k1 + 1)
  else
   some (-1)
def slices_IndexFunc_slbyte_tty_Right_1 (a0 : (List (List Int))) : Option (Int) :=
 slices_IndexFunc_slbyte_tty_Right_1_l1 a0 FUEL 0
def slices_ContainsFunc_slbyte_tty_Right_1 (a0 : (List (List Int))) : Option (Bool) :=
 (slices_IndexFunc_slbyte_tty_Right_1 a0).bind fun r1 =>
 some (decide ((r1 : Int) ≥ 0))
def tty_Right (a0 : Api_Tty) : Option (Bool) :=
 (bif ((decide ((((a0.Edit.length : Nat) : Int) : Int) ≤ 64)) && (decide ((((a0.Lines.length : Nat) : Int) : Int) ≤ 400))) then slices_ContainsFunc_slbyte_tty_Right_1 a0.Lines else some false).bind fun r6 =>
 some (((decide ((((a0.Edit.length : Nat) : Int) : Int) ≤ 64)) && (decide ((((a0.Lines.length : Nat) : Int) : Int) ≤ 400))) && (!r6))
def bytes_Clone (a0 : List Int) : Option (List Int) := if a0.length * 1 ≤ 140737488355328 then some a0 else none
def tty_own_l1 (a0 : Api_Tty) (r1 : (List Int)) : Nat → Option (Api_Tty)
 | 0 => none
 | n1 + 1 =>
  bif (decide ((0 : Int) < ((a0.Lines.length : Nat) : Int))) then
   none
  else
   some (⟨([] : List (List Int)), r1⟩ : Api_Tty)
def tty_own (a0 : Api_Tty) : Option (Api_Tty) :=
 (bytes_Clone a0.Edit).bind fun r1 =>
 tty_own_l1 a0 r1 FUEL
def tty_Key (a0 : Api_Tty) (a1 : Int) : Option (Api_Tty × Int) :=
 (tty_Right a0).bind fun r1 =>
 bif (!r1) then
  none
 else
  bif ((((a1 : Int) == 10) || ((a1 : Int) == 4)) && ((((a0.Lines.length : Nat) : Int) : Int) == 400)) then
   none
  else
   bif ((a1 : Int) == 10) then
    none
   else
    bif ((a1 : Int) == 4) then
     none
    else
     bif ((a1 : Int) == 8) then
      none
     else
      bif ((a1 : Int) == 21) then
       none
      else
       bif ((a1 : Int) == 23) then
        none
       else
        bif ((((a0.Edit.length : Nat) : Int) : Int) == 64) then
         none
        else
         (bytes_Clone a0.Edit).bind fun r31 =>
         if ((r31).length + ([a1]).length + ((r31).length + ([a1]).length) / 4 + 192) * 1 ≤ 281474976710656 ∧ (r31).length + ([a1]).length ≤ 140737488355328 then
         (tty_own (⟨a0.Lines, (r31 ++ [a1])⟩ : Api_Tty)).bind fun r34 =>
         some (r34, 0)
         else none
def kw_run_o8 (a0 : KWh) (a1 : Int) : Option (Int × KWh) :=
 if 0 ≤ (a1 : Int) ∧ a1 < ((2 : Nat) : Int) then
 bif (((a0.cores_ (Int.toNat a1)).serving_) && a0.uart_.Asks) then
  (kw_device_o8 a0 (⟨2, 0⟩ : Api_UartOp)).bind fun r8 =>
  (slices_Clone_byte r8.2.2.fetched_).bind fun r10 =>
  if ((r10).length + ([r8.1]).length + ((r10).length + ([r8.1]).length) / 4 + 192) * 1 ≤ 281474976710656 ∧ (r10).length + ([r8.1]).length ≤ 140737488355328 then
  some (0, (⟨r8.2.2.uart_, r8.2.2.pins_, r8.2.2.cores_, (r10 ++ [r8.1]), r8.2.2.tty_, r8.2.2.taken_⟩ : KWh))
  else none
 else
  bif (a0.cores_ (Int.toNat a1)).serving_ then
   (apic_Step (((upd a0.cores_ (Int.toNat a1) (⟨(a0.cores_ (Int.toNat a1)).local_, (a0.cores_ (Int.toNat a1)).nest_, false⟩ : Kernel_core)) (Int.toNat a1)).local_) (⟨3, 0⟩ : ALoOp)).bind fun r14 =>
   (kcd (⟨a0.uart_, a0.pins_, (upd (upd a0.cores_ (Int.toNat a1) (⟨(a0.cores_ (Int.toNat a1)).local_, (a0.cores_ (Int.toNat a1)).nest_, false⟩ : Kernel_core)) (Int.toNat a1) (⟨r14.1, ((upd a0.cores_ (Int.toNat a1) (⟨(a0.cores_ (Int.toNat a1)).local_, (a0.cores_ (Int.toNat a1)).nest_, false⟩ : Kernel_core)) (Int.toNat a1)).nest_, ((upd a0.cores_ (Int.toNat a1) (⟨(a0.cores_ (Int.toNat a1)).local_, (a0.cores_ (Int.toNat a1)).nest_, false⟩ : Kernel_core)) (Int.toNat a1)).serving_⟩ : Kernel_core)), a0.fetched_, a0.tty_, a0.taken_⟩ : KWh) a1 4).bind fun r16 =>
   (kw_pin_o8 r16.2 5).bind fun r18 =>
   some (0, r18)
  else
   bif ((a0.cores_ (Int.toNat a1)).nest_.On) then
    (apic_Would ((a0.cores_ (Int.toNat a1)).local_)).bind fun r23 =>
    bif (((a0.cores_ (Int.toNat a1)).nest_.On) && (decide ((r23 : Int) ≥ 0))) then
     (kcd a0 a1 3).bind fun r28 =>
     (apic_Step ((r28.2.cores_ (Int.toNat a1)).local_) (⟨2, 0⟩ : ALoOp)).bind fun r30 =>
     some (0, (⟨r28.2.uart_, r28.2.pins_, (upd (upd r28.2.cores_ (Int.toNat a1) (⟨r30.1, (r28.2.cores_ (Int.toNat a1)).nest_, (r28.2.cores_ (Int.toNat a1)).serving_⟩ : Kernel_core)) (Int.toNat a1) (⟨((upd r28.2.cores_ (Int.toNat a1) (⟨r30.1, (r28.2.cores_ (Int.toNat a1)).nest_, (r28.2.cores_ (Int.toNat a1)).serving_⟩ : Kernel_core)) (Int.toNat a1)).local_, ((upd r28.2.cores_ (Int.toNat a1) (⟨r30.1, (r28.2.cores_ (Int.toNat a1)).nest_, (r28.2.cores_ (Int.toNat a1)).serving_⟩ : Kernel_core)) (Int.toNat a1)).nest_, true⟩ : Kernel_core)), r28.2.fetched_, r28.2.tty_, (IntKind.i64.wrap (r28.2.taken_ + 1))⟩ : KWh))
    else
     bif (decide ((((a0.fetched_.length : Nat) : Int) : Int) > 0)) then
      if 0 ≤ (0 : Int) ∧ 0 < ((a0.fetched_.length : Nat) : Int) then
      (tty_Key a0.tty_ (a0.fetched_.getD 0 0)).bind fun r34 =>
      bif ((r34.2 : Int) == 0) then
       if 1 ≤ a0.fetched_.length then
       some (0, (⟨a0.uart_, a0.pins_, a0.cores_, ((a0.fetched_.drop 1).take (a0.fetched_.length - 1)), r34.1, a0.taken_⟩ : KWh))
       else none
      else
       none
      else none
     else
      some (7, a0)
   else
    bif (((a0.cores_ (Int.toNat a1)).nest_.On) && (decide ((0 : Int) ≥ 0))) then
     none
    else
     bif (decide ((((a0.fetched_.length : Nat) : Int) : Int) > 0)) then
      none
     else
      some (7, a0)
 else none
def kw_do_o8 (a0 : KWh) (a1 : AKO) : Option (AKA × KWh) :=
 bif ((decide ((a1.Kind : Int) < 1)) || (decide ((a1.Kind : Int) > 6))) then
  none
 else
  bif ((((a1.Kind : Int) != 1) && ((a1.Kind : Int) != 3)) && ((decide ((a1.Core : Int) < 0)) || (decide ((a1.Core : Int) ≥ 2)))) then
   none
  else
   bif ((a1.Kind : Int) == 1) then
    (kw_device_o8 a0 (⟨1, a1.Byte⟩ : Api_UartOp)).bind fun r22 =>
    (kw_do_1 r22.2.1).bind fun r24 =>
    some (r24, r22.2.2)
   else
    bif ((a1.Kind : Int) == 2) then
     (kw_run_o8 a0 a1.Core).bind fun r27 =>
     (kw_do_1 r27.1).bind fun r29 =>
     some (r29, r27.2)
    else
     bif ((a1.Kind : Int) == 3) then
      none
     else
      bif ((a1.Kind : Int) == 4) then
       bif ((a1.Kind : Int) == 4) then
        if 0 ≤ (a1.Core : Int) ∧ a1.Core < ((2 : Nat) : Int) then
        bif (a0.cores_ (Int.toNat a1.Core)).serving_ then
         none
        else
         (kcd a0 a1.Core ((mget a1.Kind (mput 5 2 (mput 4 1 ([] : List (Int × Int))))).getD 0)).bind fun r41 =>
         (kw_do_1 r41.1).bind fun r43 =>
         some (r43, r41.2)
        else none
       else
        none
      else
       bif ((a1.Kind : Int) == 5) then
        if 0 ≤ (a1.Core : Int) ∧ a1.Core < ((2 : Nat) : Int) then
        bif (a0.cores_ (Int.toNat a1.Core)).serving_ then
         none
        else
         (kcd a0 a1.Core ((mget a1.Kind (mput 5 2 (mput 4 1 ([] : List (Int × Int))))).getD 0)).bind fun r51 =>
         (kw_do_1 r51.1).bind fun r53 =>
         some (r53, r51.2)
        else none
       else
        none
def kernel_Play_l1 (a0 : (List AKO)) (r1 : KWh) : Nat → List AKA → Nat → List Int → List Int → Int → Bool → List Api_Pin → Int → Int → Int → Int → Int → Int → Int → Int → Int → Bool → List AFr → Bool → Int → Int → Int → Int → Int → Int → Int → Int → Int → Bool → List AFr → Bool → List Int → List (List Int) → List Int → Int → Option ((List AKA) × Api_Whole)
 | 0, _, _, _, _, _, _, _, _, _, _, _, _, _, _, _, _, _, _, _, _, _, _, _, _, _, _, _, _, _, _, _, _, _, _, _ => none
 | n1 + 1, l3, k4, l5, l6, x7, b8, l9, x10, x11, x12, x13, x14, x15, x16, x17, x18, b19, l20, b21, x22, x23, x24, x25, x26, x27, x28, x29, x30, b31, l32, b33, l34, l35, l36, x37 =>
  bif (decide ((((k4 : Nat) : Int) : Int) < ((a0.length : Nat) : Int))) then
   (kw_do_o8 (⟨(⟨l5, l6, x7, b8⟩ : Api_Uart), l9, (arrOf [(⟨(⟨(arrOf [x10, x11, x12, x13] 0), (arrOf [x14, x15, x16, x17] 0), x18⟩ : ALo), (⟨b19, l20⟩ : Api_Core), b21⟩ : Kernel_core), (⟨(⟨(arrOf [x22, x23, x24, x25] 0), (arrOf [x26, x27, x28, x29] 0), x30⟩ : ALo), (⟨b31, l32⟩ : Api_Core), b33⟩ : Kernel_core)] (⟨(⟨(fun (_ : Nat) => (0 : Int)), (fun (_ : Nat) => (0 : Int)), 0⟩ : ALo), (⟨false, []⟩ : Api_Core), false⟩ : Kernel_core)), l34, (⟨l35, l36⟩ : Api_Tty), x37⟩ : KWh) (a0.getD k4 (⟨0, 0, 0, 0⟩ : AKO))).bind fun r40 =>
   if ((l3).length + ([r40.1]).length + ((l3).length + ([r40.1]).length) / 4 + 192) * 32 ≤ 281474976710656 ∧ (l3).length + ([r40.1]).length ≤ 140737488355328 then
   kernel_Play_l1 a0 r1 n1 (l3 ++ [r40.1]) (k4 + 1) r40.2.uart_.In r40.2.uart_.Out r40.2.uart_.Lost r40.2.uart_.Asks r40.2.pins_ (((r40.2.cores_ 0).local_.Asked) 0) (((r40.2.cores_ 0).local_.Asked) 1) (((r40.2.cores_ 0).local_.Asked) 2) (((r40.2.cores_ 0).local_.Asked) 3) (((r40.2.cores_ 0).local_.Served) 0) (((r40.2.cores_ 0).local_.Served) 1) (((r40.2.cores_ 0).local_.Served) 2) (((r40.2.cores_ 0).local_.Served) 3) ((r40.2.cores_ 0).local_.Class) ((r40.2.cores_ 0).nest_.On) ((r40.2.cores_ 0).nest_.Kept) ((r40.2.cores_ 0).serving_) (((r40.2.cores_ 1).local_.Asked) 0) (((r40.2.cores_ 1).local_.Asked) 1) (((r40.2.cores_ 1).local_.Asked) 2) (((r40.2.cores_ 1).local_.Asked) 3) (((r40.2.cores_ 1).local_.Served) 0) (((r40.2.cores_ 1).local_.Served) 1) (((r40.2.cores_ 1).local_.Served) 2) (((r40.2.cores_ 1).local_.Served) 3) ((r40.2.cores_ 1).local_.Class) ((r40.2.cores_ 1).nest_.On) ((r40.2.cores_ 1).nest_.Kept) ((r40.2.cores_ 1).serving_) r40.2.fetched_ r40.2.tty_.Lines r40.2.tty_.Edit r40.2.taken_
   else none
  else
   (slices_Clone_byte l5).bind fun r43 =>
   (slices_Clone_byte l34).bind fun r45 =>
   some (l3, (⟨r43, r45, (⟨l35, l36⟩ : Api_Tty), x7, x37⟩ : Api_Whole))
def kernel_Play (a0 : (List AKO)) : Option ((List AKA) × Api_Whole) :=
 (kernel_boot).bind fun r1 =>
 kernel_Play_l1 a0 r1 FUEL ([] : List AKA) 0 r1.uart_.In r1.uart_.Out r1.uart_.Lost r1.uart_.Asks r1.pins_ (((r1.cores_ 0).local_.Asked) 0) (((r1.cores_ 0).local_.Asked) 1) (((r1.cores_ 0).local_.Asked) 2) (((r1.cores_ 0).local_.Asked) 3) (((r1.cores_ 0).local_.Served) 0) (((r1.cores_ 0).local_.Served) 1) (((r1.cores_ 0).local_.Served) 2) (((r1.cores_ 0).local_.Served) 3) ((r1.cores_ 0).local_.Class) ((r1.cores_ 0).nest_.On) ((r1.cores_ 0).nest_.Kept) ((r1.cores_ 0).serving_) (((r1.cores_ 1).local_.Asked) 0) (((r1.cores_ 1).local_.Asked) 1) (((r1.cores_ 1).local_.Asked) 2) (((r1.cores_ 1).local_.Asked) 3) (((r1.cores_ 1).local_.Served) 0) (((r1.cores_ 1).local_.Served) 1) (((r1.cores_ 1).local_.Served) 2) (((r1.cores_ 1).local_.Served) 3) ((r1.cores_ 1).local_.Class) ((r1.cores_ 1).nest_.On) ((r1.cores_ 1).nest_.Kept) ((r1.cores_ 1).serving_) r1.fetched_ r1.tty_.Lines r1.tty_.Edit r1.taken_
def bn_itoa (a0 : Int) : Option ByteArray := if -9223372036854775808 ≤ a0 ∧ a0 ≤ 9223372036854775807 then some (Go.Bn.bOf (Go.Bn.itoaL a0)) else none
def bench_Tell_l2 (r4 : (List AKA) × Api_Whole) (l6 : List ByteArray) : Nat → ByteArray → Nat → Option ((List ByteArray) × Int)
 | 0, _, _ => none
 | n2 + 1, s34, k35 =>
  bif (decide ((((k35 : Nat) : Int) : Int) < ((6 : Nat) : Int))) then
   if 0 ≤ (((k35 : Nat) : Int) : Int) ∧ ((k35 : Nat) : Int) < (([((r4.2.Device.length : Nat) : Int), ((r4.2.Fetched.length : Nat) : Int), ((r4.2.Tty.Lines.length : Nat) : Int), ((r4.2.Tty.Edit.length : Nat) : Int), r4.2.Lost, r4.2.Taken].length : Nat) : Int) then
   (bn_itoa ([((r4.2.Device.length : Nat) : Int), ((r4.2.Fetched.length : Nat) : Int), ((r4.2.Tty.Lines.length : Nat) : Int), ((r4.2.Tty.Edit.length : Nat) : Int), r4.2.Lost, r4.2.Taken].getD (0 + k35) 0)).bind fun r38 =>
   if (bytesOf [32]).size + r38.size ≤ 9223372036854775807 then
   if s34.size + ((bytesOf [32]) ++ r38).size ≤ 9223372036854775807 then
   bench_Tell_l2 r4 l6 n2 (s34 ++ ((bytesOf [32]) ++ r38)) (k35 + 1)
   else none
   else none
   else none
  else
   if ((l6).length + ([s34]).length + ((l6).length + ([s34]).length) / 4 + 192) * 16 ≤ 281474976710656 ∧ (l6).length + ([s34]).length ≤ 140737488355328 then
   some ((l6 ++ [s34]), 0)
   else none
def bench_Tell_l1 (r1 : (List AKO) × Int × Int) (r4 : (List AKA) × Api_Whole) : Nat → List ByteArray → Nat → Option ((List ByteArray) × Int)
 | 0, _, _ => none
 | n1 + 1, l6, k7 =>
  bif (decide ((((k7 : Nat) : Int) : Int) < ((r4.1.length : Nat) : Int))) then
   bif (((r4.1.getD (0 + k7) (⟨0, []⟩ : AKA)).Err : Int) != 0) then
    (bn_itoa ((r4.1.getD (0 + k7) (⟨0, []⟩ : AKA)).Err)).bind fun r11 =>
    if (bytesOf [101, 114, 114, 111, 114, 32]).size + r11.size ≤ 9223372036854775807 then
    if 0 ≤ (((k7 : Nat) : Int) : Int) ∧ ((k7 : Nat) : Int) < ((r1.1.length : Nat) : Int) then
    bif ((((r1.1.getD k7 (⟨0, 0, 0, 0⟩ : AKO)).Kind : Int) == 3) && (((r4.1.getD (0 + k7) (⟨0, []⟩ : AKA)).Err : Int) == 0)) then
     none
    else
     if ((l6).length + ([((bytesOf [101, 114, 114, 111, 114, 32]) ++ r11)]).length + ((l6).length + ([((bytesOf [101, 114, 114, 111, 114, 32]) ++ r11)]).length) / 4 + 192) * 16 ≤ 281474976710656 ∧ (l6).length + ([((bytesOf [101, 114, 114, 111, 114, 32]) ++ r11)]).length ≤ 140737488355328 then
     bench_Tell_l1 r1 r4 n1 (l6 ++ [((bytesOf [101, 114, 114, 111, 114, 32]) ++ r11)]) (k7 + 1)
     else none
    else none
    else none
   else
    if 0 ≤ (((k7 : Nat) : Int) : Int) ∧ ((k7 : Nat) : Int) < ((r1.1.length : Nat) : Int) then
    bif ((((r1.1.getD k7 (⟨0, 0, 0, 0⟩ : AKO)).Kind : Int) == 3) && (((r4.1.getD (0 + k7) (⟨0, []⟩ : AKA)).Err : Int) == 0)) then
     none
    else
     if ((l6).length + ([(bytesOf [111, 107])]).length + ((l6).length + ([(bytesOf [111, 107])]).length) / 4 + 192) * 16 ≤ 281474976710656 ∧ (l6).length + ([(bytesOf [111, 107])]).length ≤ 140737488355328 then
     bench_Tell_l1 r1 r4 n1 (l6 ++ [(bytesOf [111, 107])]) (k7 + 1)
     else none
    else none
  else
   bench_Tell_l2 r4 l6 FUEL (bytesOf [108, 101, 102, 116]) 0
def bench_Tell (a0 : ByteArray) : Option ((List ByteArray) × Int) :=
 (bench_Parse a0).bind fun r1 =>
 bif ((r1.2.2 : Int) != 0) then
  none
 else
  (kernel_Play r1.1).bind fun r4 =>
  bench_Tell_l1 r1 r4 FUEL ([] : List ByteArray) 0
def top_alive : Option (Bool) :=
 (bench_Tell (bytesOf [105, 110, 32, 57, 55, 10, 114, 117, 110, 32, 49, 10, 115, 97, 118, 101, 32, 48, 10, 114, 117, 110, 32, 48, 10, 114, 101, 115, 116, 111, 114, 101, 32, 48, 10, 114, 117, 110, 32, 48, 10, 114, 117, 110, 32, 48, 10, 114, 117, 110, 32, 48, 10, 114, 117, 110, 32, 49, 10])).bind fun r1 =>
 if ((((r1.2 : Int) == 0) && ((((r1.1.length : Nat) : Int) : Int) == 10)) = true → (0 ≤ (1 : Int) ∧ 1 < ((r1.1.length : Nat) : Int))) then
 if (((((r1.2 : Int) == 0) && ((((r1.1.length : Nat) : Int) : Int) == 10)) && ((r1.1.getD (0 + 1) ByteArray.empty).toList == (bytesOf [101, 114, 114, 111, 114, 32, 55]).toList)) = true → (0 ≤ (3 : Int) ∧ 3 < ((r1.1.length : Nat) : Int))) then
 if ((((((r1.2 : Int) == 0) && ((((r1.1.length : Nat) : Int) : Int) == 10)) && ((r1.1.getD (0 + 1) ByteArray.empty).toList == (bytesOf [101, 114, 114, 111, 114, 32, 55]).toList)) && ((r1.1.getD (0 + 3) ByteArray.empty).toList == (bytesOf [101, 114, 114, 111, 114, 32, 55]).toList)) = true → (0 ≤ (9 : Int) ∧ 9 < ((r1.1.length : Nat) : Int))) then
 some ((((((r1.2 : Int) == 0) && ((((r1.1.length : Nat) : Int) : Int) == 10)) && ((r1.1.getD (0 + 1) ByteArray.empty).toList == (bytesOf [101, 114, 114, 111, 114, 32, 55]).toList)) && ((r1.1.getD (0 + 3) ByteArray.empty).toList == (bytesOf [101, 114, 114, 111, 114, 32, 55]).toList)) && ((r1.1.getD (0 + 9) ByteArray.empty).toList == (bytesOf [108, 101, 102, 116, 32, 48, 32, 48, 32, 48, 32, 49, 32, 48, 32, 49]).toList))
 else none
 else none
 else none
def bits_All_l1 (a0 : (Nat → Int)) (r1 : Int) : Nat → List Int → Int → Option ((List Int))
 | 0, _, _ => none
 | n1 + 1, l3, x4 =>
  bif (decide ((x4 : Int) ≥ 0)) then
   if ((l3).length + ([x4]).length + ((l3).length + ([x4]).length) / 4 + 192) * 8 ≤ 281474976710656 ∧ (l3).length + ([x4]).length ≤ 140737488355328 then
   (bits_Next a0 (IntKind.i64.wrap (x4 + 1))).bind fun r7 =>
   bits_All_l1 a0 r1 n1 (l3 ++ [x4]) r7
   else none
  else
   some l3
def bits_All (a0 : (Nat → Int)) : Option ((List Int)) :=
 (bits_Next a0 0).bind fun r1 =>
 bits_All_l1 a0 r1 FUEL ([] : List Int) r1
def vector_table_load (a0 : Vector_table) (a1 : Int) : Option (Int) :=
 if 0 ≤ (a1 : Int) ∧ a1 < ((a0.taken_.length : Nat) : Int) then
 (bits_All (a0.taken_.getD (Int.toNat a1) (fun (_ : Nat) => (0 : Int)))).bind fun r2 =>
 some ((r2.length : Nat) : Int)
 else none
def vector_table_best_l1 (a0 : Vector_table) (a1 : Int) (a2 : Int) : Nat → Int → Int → Option (Int)
 | 0, _, _ => none
 | n1 + 1, x1, x2 =>
  bif (decide ((x2 : Int) < a0.cores_)) then
   if 0 ≤ (x2 : Int) then
   (bif ((((bitsOf .and .i64 (Int.fdiv a1 (2 ^ (min (Int.toNat x2) IntKind.i64.bits))) 1) : Int) == 1) && ((x2 : Int) != a2)) then vector_table_load a0 x2 else some 0).bind fun r8 =>
   (bif ((((((bitsOf .and .i64 (Int.fdiv a1 (2 ^ (min (Int.toNat x2) IntKind.i64.bits))) 1) : Int) == 1) && ((x2 : Int) != a2)) && (decide ((r8 : Int) < 224))) && !(decide ((x1 : Int) < 0))) then vector_table_load a0 x2 else some 0).bind fun r14 =>
   (bif ((((((bitsOf .and .i64 (Int.fdiv a1 (2 ^ (min (Int.toNat x2) IntKind.i64.bits))) 1) : Int) == 1) && ((x2 : Int) != a2)) && (decide ((r8 : Int) < 224))) && !(decide ((x1 : Int) < 0))) then vector_table_load a0 x1 else some 0).bind fun r16 =>
   bif ((((((bitsOf .and .i64 (Int.fdiv a1 (2 ^ (min (Int.toNat x2) IntKind.i64.bits))) 1) : Int) == 1) && ((x2 : Int) != a2)) && (decide ((r8 : Int) < 224))) && ((decide ((x1 : Int) < 0)) || (decide ((r14 : Int) < r16)))) then
    vector_table_best_l1 a0 a1 a2 n1 x2 (IntKind.i64.wrap (x2 + 1))
   else
    vector_table_best_l1 a0 a1 a2 n1 x1 (IntKind.i64.wrap (x2 + 1))
   else none
  else
   some x1
def vector_table_best (a0 : Vector_table) (a1 : Int) (a2 : Int) : Option (Int) :=
 vector_table_best_l1 a0 a1 a2 FUEL (-1) 0
def bits_Has (a0 : (Nat → Int)) (a1 : Int) : Option (Bool) :=
 (bits_fits a1).bind fun r1 =>
 if (r1 = true → (0 ≤ ((IntKind.i64.wrap (Int.tdiv a1 64)) : Int) ∧ (IntKind.i64.wrap (Int.tdiv a1 64)) < ((4 : Nat) : Int))) then
 if (r1 = true → (0 ≤ ((Int.tmod a1 64) : Int))) then
 some (r1 && (((bitsOf .and .u64 (Int.fdiv (a0 (Int.toNat (IntKind.i64.wrap (Int.tdiv a1 64)))) (2 ^ (min (Int.toNat (Int.tmod a1 64)) IntKind.u64.bits))) 1) : Int) == 1))
 else none
 else none
def vector_table_least_l1 (a0 : Vector_table) (a1 : Int) : Nat → Int → Option (Int)
 | 0, _ => none
 | n1 + 1, x1 =>
  if 0 ≤ (a1 : Int) ∧ a1 < ((a0.taken_.length : Nat) : Int) then
  (bits_Has (a0.taken_.getD (Int.toNat a1) (fun (_ : Nat) => (0 : Int))) x1).bind fun r3 =>
  bif r3 then
   vector_table_least_l1 a0 a1 n1 (IntKind.i64.wrap (x1 + 1))
  else
   some x1
  else none
def vector_table_least (a0 : Vector_table) (a1 : Int) : Option (Int) :=
 vector_table_least_l1 a0 a1 FUEL 32
def vector_table_take (a0 : Vector_table) (a1 : Int) (a2 : Int) : Option (Vector_table) :=
 (vector_table_least a0 a2).bind fun r1 =>
 if 0 ≤ (a1 : Int) ∧ a1 < ((a0.of_.length : Nat) : Int) then
 if 0 ≤ (a2 : Int) ∧ a2 < ((a0.taken_.length : Nat) : Int) then
 (bits_With (a0.taken_.getD (0 + (Int.toNat a2)) (fun (_ : Nat) => (0 : Int))) r1).bind fun r5 =>
 if 0 ≤ (a2 : Int) ∧ a2 < ((a0.taken_.length : Nat) : Int) then
 some (⟨a0.cores_, (a0.of_.set (0 + (Int.toNat a1)) (⟨a2, r1⟩ : Api_Slot)), (a0.taken_.set (0 + (Int.toNat a2)) r5)⟩ : Vector_table)
 else none
 else none
 else none
def vector_table_give (a0 : Vector_table) (a1 : Int) : Option (Vector_table) :=
 if 0 ≤ (a1 : Int) ∧ a1 < ((a0.of_.length : Nat) : Int) then
 if 0 ≤ ((a0.of_.getD (0 + (Int.toNat a1)) (⟨0, 0⟩ : Api_Slot)).Core : Int) ∧ ((a0.of_.getD (0 + (Int.toNat a1)) (⟨0, 0⟩ : Api_Slot)).Core) < ((a0.taken_.length : Nat) : Int) then
 (bits_Without (a0.taken_.getD (0 + (Int.toNat ((a0.of_.getD (0 + (Int.toNat a1)) (⟨0, 0⟩ : Api_Slot)).Core))) (fun (_ : Nat) => (0 : Int))) ((a0.of_.getD (0 + (Int.toNat a1)) (⟨0, 0⟩ : Api_Slot)).Vec)).bind fun r3 =>
 if 0 ≤ ((a0.of_.getD (0 + (Int.toNat a1)) (⟨0, 0⟩ : Api_Slot)).Core : Int) ∧ ((a0.of_.getD (0 + (Int.toNat a1)) (⟨0, 0⟩ : Api_Slot)).Core) < ((a0.taken_.length : Nat) : Int) then
 if 0 ≤ (a1 : Int) ∧ a1 < ((a0.of_.length : Nat) : Int) then
 some (⟨a0.cores_, (a0.of_.set (0 + (Int.toNat a1)) (⟨0, 0⟩ : Api_Slot)), (a0.taken_.set (0 + (Int.toNat ((a0.of_.getD (0 + (Int.toNat a1)) (⟨0, 0⟩ : Api_Slot)).Core))) r3)⟩ : Vector_table)
 else none
 else none
 else none
 else none
def vector_table_do (a0 : Vector_table) (a1 : Api_VecOp) : Option (Int × Vector_table) :=
 bif ((decide ((a1.Kind : Int) < 1)) || (decide ((a1.Kind : Int) > 3))) then
  some (5, a0)
 else
  bif ((decide ((a1.Line : Int) < 0)) || (decide ((a1.Line : Int) ≥ ((a0.of_.length : Nat) : Int)))) then
   some (2, a0)
  else
   if 0 ≤ (a1.Line : Int) ∧ a1.Line < ((a0.of_.length : Nat) : Int) then
   bif (((a1.Kind : Int) == 1) == (decide (((a0.of_.getD (0 + (Int.toNat a1.Line)) (⟨0, 0⟩ : Api_Slot)).Vec : Int) > 0))) then
    bif ((a1.Kind : Int) == 1) then
     some (6, a0)
    else
     some (3, a0)
   else
    bif ((a1.Kind : Int) == 1) then
     (vector_table_best a0 a1.Mask (-1)).bind fun r18 =>
     bif (decide ((r18 : Int) < 0)) then
      some (4, a0)
     else
      (vector_table_take a0 a1.Line r18).bind fun r21 =>
      some (0, r21)
    else
     bif ((a1.Kind : Int) == 2) then
      (vector_table_give a0 a1.Line).bind fun r24 =>
      some (0, r24)
     else
      bif ((a1.Kind : Int) == 3) then
       if 0 ≤ (a1.Line : Int) ∧ a1.Line < ((a0.of_.length : Nat) : Int) then
       (vector_table_best a0 a1.Mask ((a0.of_.getD (0 + (Int.toNat a1.Line)) (⟨0, 0⟩ : Api_Slot)).Core)).bind fun r28 =>
       bif (decide ((r28 : Int) < 0)) then
        some (4, a0)
       else
        (vector_table_give a0 a1.Line).bind fun r31 =>
        (vector_table_take r31 a1.Line r28).bind fun r33 =>
        some (0, r33)
       else none
      else
       some (0, a0)
   else none
def slices_Clone_api_Slot (a0 : List Api_Slot) : Option (List Api_Slot) := if a0.length * 16 ≤ 140737488355328 then some a0 else none
def vector_Play_l1 (a0 : Int) (a1 : Int) (a2 : (List Api_VecOp)) : Nat → List Int → Nat → Int → List Api_Slot → List (Nat → Int) → Option ((List Int) × (List Api_Slot) × Int)
 | 0, _, _, _, _, _ => none
 | n1 + 1, l10, k11, x12, l13, l14 =>
  bif (decide ((((k11 : Nat) : Int) : Int) < ((a2.length : Nat) : Int))) then
   (vector_table_do (⟨x12, l13, l14⟩ : Vector_table) (a2.getD k11 (⟨0, 0, 0⟩ : Api_VecOp))).bind fun r17 =>
   if ((l10).length + ([r17.1]).length + ((l10).length + ([r17.1]).length) / 4 + 192) * 8 ≤ 281474976710656 ∧ (l10).length + ([r17.1]).length ≤ 140737488355328 then
   vector_Play_l1 a0 a1 a2 n1 (l10 ++ [r17.1]) (k11 + 1) r17.2.cores_ r17.2.of_ r17.2.taken_
   else none
  else
   (slices_Clone_api_Slot l13).bind fun r20 =>
   some (l10, r20, 0)
def vector_Play (a0 : Int) (a1 : Int) (a2 : (List Api_VecOp)) : Option ((List Int) × (List Api_Slot) × Int) :=
 bif ((((decide ((a0 : Int) < 1)) || (decide ((a0 : Int) > 8))) || (decide ((a1 : Int) < 0))) || (decide ((a1 : Int) > 2000))) then
  some (([] : List Int), ([] : List Api_Slot), 2)
 else
  if 0 ≤ (a1 : Int) ∧ (Int.toNat a1) * 16 ≤ 140737488355328 ∧ (Int.toNat a1) ≤ 140737488355328 then
  if 0 ≤ (a0 : Int) ∧ (Int.toNat a0) * 32 ≤ 140737488355328 ∧ (Int.toNat a0) ≤ 140737488355328 then
  vector_Play_l1 a0 a1 a2 FUEL ([] : List Int) 0 a0 (List.replicate (Int.toNat a1) (⟨0, 0⟩ : Api_Slot)) (List.replicate (Int.toNat a0) (fun (_ : Nat) => (0 : Int)))
  else none
  else none
def line_Play_l1 (a0 : (List Api_Pin)) (a1 : (List Api_PinOp)) : Nat → List Api_Pin → List Api_Sent → Nat → Option ((List Api_Pin) × (List Api_Sent) × Int)
 | 0, _, _, _ => none
 | n1 + 1, l4, l5, k6 =>
  bif (decide ((((k6 : Nat) : Int) : Int) < ((a1.length : Nat) : Int))) then
   (line_Step l4 (a1.getD k6 (⟨0, 0⟩ : Api_PinOp))).bind fun r9 =>
   bif ((r9.2.2 : Int) == 0) then
    if ((l5).length + (r9.2.1).length + ((l5).length + (r9.2.1).length) / 4 + 192) * 24 ≤ 281474976710656 ∧ (l5).length + (r9.2.1).length ≤ 140737488355328 then
    line_Play_l1 a0 a1 n1 r9.1 (l5 ++ r9.2.1) (k6 + 1)
    else none
   else
    line_Play_l1 a0 a1 n1 l4 l5 (k6 + 1)
  else
   (slices_Clone_api_Pin l4).bind fun r13 =>
   some (r13, l5, 0)
def line_Play (a0 : (List Api_Pin)) (a1 : (List Api_PinOp)) : Option ((List Api_Pin) × (List Api_Sent) × Int) :=
 (line_Right a0).bind fun r1 =>
 bif (!r1) then
  some (([] : List Api_Pin), ([] : List Api_Sent), 1)
 else
  line_Play_l1 a0 a1 FUEL a0 ([] : List Api_Sent) 0
def top_TopVectors_l2 (r4 : (List Int) × (List Api_Slot) × Int) (l11 : List Int) (r23 : (List Api_Pin) × (List Api_Sent) × Int) : Nat → Nat → List (Api_Slot × Int) → Option (Bool)
 | 0, _, _ => none
 | n2 + 1, k25, m26 =>
  bif (decide ((((k25 : Nat) : Int) : Int) < ((r23.2.1.length : Nat) : Int))) then
   bif ((decide (((r23.2.1.getD (0 + k25) (⟨0, 0, 0⟩ : Api_Sent)).Pin : Int) < 0)) || (decide (((r23.2.1.getD (0 + k25) (⟨0, 0, 0⟩ : Api_Sent)).Pin : Int) ≥ ((l11.length : Nat) : Int)))) then
    some false
   else
    bif (((kget (⟨(r23.2.1.getD (0 + k25) (⟨0, 0, 0⟩ : Api_Sent)).Core, (r23.2.1.getD (0 + k25) (⟨0, 0, 0⟩ : Api_Sent)).Vec⟩ : Api_Slot) m26).isSome) && ((((kget (⟨(r23.2.1.getD (0 + k25) (⟨0, 0, 0⟩ : Api_Sent)).Core, (r23.2.1.getD (0 + k25) (⟨0, 0, 0⟩ : Api_Sent)).Vec⟩ : Api_Slot) m26).getD 0) : Int) != ((r23.2.1.getD (0 + k25) (⟨0, 0, 0⟩ : Api_Sent)).Pin))) then
     some false
    else
     if 0 ≤ ((r23.2.1.getD (0 + k25) (⟨0, 0, 0⟩ : Api_Sent)).Pin : Int) ∧ ((r23.2.1.getD (0 + k25) (⟨0, 0, 0⟩ : Api_Sent)).Pin) < ((l11.length : Nat) : Int) then
     if 0 ≤ ((l11.getD (0 + (Int.toNat ((r23.2.1.getD (0 + k25) (⟨0, 0, 0⟩ : Api_Sent)).Pin))) 0) : Int) ∧ (l11.getD (0 + (Int.toNat ((r23.2.1.getD (0 + k25) (⟨0, 0, 0⟩ : Api_Sent)).Pin))) 0) < ((r4.2.1.length : Nat) : Int) then
     (bif (!(!((((r4.2.1.getD (0 + (Int.toNat (l11.getD (0 + (Int.toNat ((r23.2.1.getD (0 + k25) (⟨0, 0, 0⟩ : Api_Sent)).Pin))) 0))) (⟨0, 0⟩ : Api_Slot)).Core : Int) == ((r23.2.1.getD (0 + k25) (⟨0, 0, 0⟩ : Api_Sent)).Core)) && ((((r4.2.1.getD (0 + (Int.toNat (l11.getD (0 + (Int.toNat ((r23.2.1.getD (0 + k25) (⟨0, 0, 0⟩ : Api_Sent)).Pin))) 0))) (⟨0, 0⟩ : Api_Slot)).Vec : Int) == ((r23.2.1.getD (0 + k25) (⟨0, 0, 0⟩ : Api_Sent)).Vec)) && true)))) then bits_With (fun _ => 0) ((r23.2.1.getD (0 + k25) (⟨0, 0, 0⟩ : Api_Sent)).Vec) else some (fun (_ : Nat) => (0 : Int))).bind fun r43 =>
     (bif (!(!((((r4.2.1.getD (0 + (Int.toNat (l11.getD (0 + (Int.toNat ((r23.2.1.getD (0 + k25) (⟨0, 0, 0⟩ : Api_Sent)).Pin))) 0))) (⟨0, 0⟩ : Api_Slot)).Core : Int) == ((r23.2.1.getD (0 + k25) (⟨0, 0, 0⟩ : Api_Sent)).Core)) && ((((r4.2.1.getD (0 + (Int.toNat (l11.getD (0 + (Int.toNat ((r23.2.1.getD (0 + k25) (⟨0, 0, 0⟩ : Api_Sent)).Pin))) 0))) (⟨0, 0⟩ : Api_Slot)).Vec : Int) == ((r23.2.1.getD (0 + k25) (⟨0, 0, 0⟩ : Api_Sent)).Vec)) && true)))) then bits_Has r43 ((r23.2.1.getD (0 + k25) (⟨0, 0, 0⟩ : Api_Sent)).Vec) else some false).bind fun r46 =>
     bif ((!((((r4.2.1.getD (0 + (Int.toNat (l11.getD (0 + (Int.toNat ((r23.2.1.getD (0 + k25) (⟨0, 0, 0⟩ : Api_Sent)).Pin))) 0))) (⟨0, 0⟩ : Api_Slot)).Core : Int) == ((r23.2.1.getD (0 + k25) (⟨0, 0, 0⟩ : Api_Sent)).Core)) && ((((r4.2.1.getD (0 + (Int.toNat (l11.getD (0 + (Int.toNat ((r23.2.1.getD (0 + k25) (⟨0, 0, 0⟩ : Api_Sent)).Pin))) 0))) (⟨0, 0⟩ : Api_Slot)).Vec : Int) == ((r23.2.1.getD (0 + k25) (⟨0, 0, 0⟩ : Api_Sent)).Vec)) && true))) || (!r46)) then
      some false
     else
      top_TopVectors_l2 r4 l11 r23 n2 (k25 + 1) (kput (⟨(r23.2.1.getD (0 + k25) (⟨0, 0, 0⟩ : Api_Sent)).Core, (r23.2.1.getD (0 + k25) (⟨0, 0, 0⟩ : Api_Sent)).Vec⟩ : Api_Slot) ((r23.2.1.getD (0 + k25) (⟨0, 0, 0⟩ : Api_Sent)).Pin) m26)
     else none
     else none
  else
   some ((r23.2.2 : Int) == 0)
def top_TopVectors_l1 (a1 : (List Bool)) (a2 : (List Api_PinOp)) (r4 : (List Int) × (List Api_Slot) × Int) : Nat → List Api_Pin → List Int → Nat → Option (Bool)
 | 0, _, _, _ => none
 | n1 + 1, l10, l11, k12 =>
  bif (decide ((((k12 : Nat) : Int) : Int) < ((r4.2.1.length : Nat) : Int))) then
   bif (decide (((r4.2.1.getD (0 + k12) (⟨0, 0⟩ : Api_Slot)).Vec : Int) > 0)) then
    if ((decide ((((k12 : Nat) : Int) : Int) < ((a1.length : Nat) : Int))) = true → (0 ≤ (((k12 : Nat) : Int) : Int) ∧ ((k12 : Nat) : Int) < ((a1.length : Nat) : Int))) then
    if ((l10).length + ([(⟨(r4.2.1.getD (0 + k12) (⟨0, 0⟩ : Api_Slot)).Core, (r4.2.1.getD (0 + k12) (⟨0, 0⟩ : Api_Slot)).Vec, ((decide ((((k12 : Nat) : Int) : Int) < ((a1.length : Nat) : Int))) && (a1.getD k12 false)), false, false, false, false⟩ : Api_Pin)]).length + ((l10).length + ([(⟨(r4.2.1.getD (0 + k12) (⟨0, 0⟩ : Api_Slot)).Core, (r4.2.1.getD (0 + k12) (⟨0, 0⟩ : Api_Slot)).Vec, ((decide ((((k12 : Nat) : Int) : Int) < ((a1.length : Nat) : Int))) && (a1.getD k12 false)), false, false, false, false⟩ : Api_Pin)]).length) / 4 + 192) * 24 ≤ 281474976710656 ∧ (l10).length + ([(⟨(r4.2.1.getD (0 + k12) (⟨0, 0⟩ : Api_Slot)).Core, (r4.2.1.getD (0 + k12) (⟨0, 0⟩ : Api_Slot)).Vec, ((decide ((((k12 : Nat) : Int) : Int) < ((a1.length : Nat) : Int))) && (a1.getD k12 false)), false, false, false, false⟩ : Api_Pin)]).length ≤ 140737488355328 then
    if ((l11).length + ([((k12 : Nat) : Int)]).length + ((l11).length + ([((k12 : Nat) : Int)]).length) / 4 + 192) * 8 ≤ 281474976710656 ∧ (l11).length + ([((k12 : Nat) : Int)]).length ≤ 140737488355328 then
    top_TopVectors_l1 a1 a2 r4 n1 (l10 ++ [(⟨(r4.2.1.getD (0 + k12) (⟨0, 0⟩ : Api_Slot)).Core, (r4.2.1.getD (0 + k12) (⟨0, 0⟩ : Api_Slot)).Vec, ((decide ((((k12 : Nat) : Int) : Int) < ((a1.length : Nat) : Int))) && (a1.getD k12 false)), false, false, false, false⟩ : Api_Pin)]) (l11 ++ [((k12 : Nat) : Int)]) (k12 + 1)
    else none
    else none
    else none
   else
    top_TopVectors_l1 a1 a2 r4 n1 l10 l11 (k12 + 1)
  else
   (line_Play l10 a2).bind fun r23 =>
   top_TopVectors_l2 r4 l11 r23 FUEL 0 ([] : List (Api_Slot × Int))
def top_TopVectors (a0 : (List Api_VecOp)) (a1 : (List Bool)) (a2 : (List Api_PinOp)) : Option (Bool) :=
 (top_alive).bind fun r1 =>
 bif (!r1) then
  some false
 else
  (vector_Play 8 24 a0).bind fun r4 =>
  bif (((r4.2.2 : Int) != 0) || ((((r4.2.1.length : Nat) : Int) : Int) != 24)) then
   some false
  else
   top_TopVectors_l1 a1 a2 r4 FUEL ([] : List Api_Pin) ([] : List Int) 0
end Go.Proofs.YthmieigenefilaaGreatDoor
