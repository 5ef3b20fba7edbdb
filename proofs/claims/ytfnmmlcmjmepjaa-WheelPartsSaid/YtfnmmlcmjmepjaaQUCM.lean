import Derived.Test.YtfnmmlcmjmepjaaAbYg
import Derived.Lib.BitFns
set_option linter.unusedSimpArgs false
set_option linter.unusedVariables false
namespace Go.Proofs.Ytfnmmlcmjmepjaa
open Go Go.Ab
structure Api_TimerOp where
 Kind : Int
 Id : Int
 Ticks : Int
deriving DecidableEq
structure Wheel_timer where
 at_ : Int
 id_ : Int
deriving DecidableEq
structure Api_Fired where
 At : Int
 Id : Int
deriving DecidableEq
structure Wheel_wheels where
 now_ : Int
 on_ : (Nat → (Nat → (List Wheel_timer)))
 places_ : (List (Int × Int))
 fired_ : (List Api_Fired)
def Ok_Api_TimerOp (x : Api_TimerOp) : Prop := (-9223372036854775808 ≤ x.Kind ∧ x.Kind ≤ 9223372036854775807) ∧ (-9223372036854775808 ≤ x.Id ∧ x.Id ≤ 9223372036854775807) ∧ (-9223372036854775808 ≤ x.Ticks ∧ x.Ticks ≤ 9223372036854775807)
def wheel_wheels_put_l1 (a0 : Wheel_wheels) (a1 : Wheel_timer) : Nat → Int → Nat → Option (Wheel_wheels)
 | 0, _, _ => none
 | n1 + 1, x1, k2 =>
  bif (decide ((((k2 : Nat) : Int) : Int) < 3)) then
   if (x1 : Int) ≠ 0 then
   if (x1 : Int) ≠ 0 then
   bif ((decide (((IntKind.i64.wrap ((IntKind.i64.wrap (Int.tdiv a1.at_ x1)) - (IntKind.i64.wrap (Int.tdiv a0.now_ x1)))) : Int) < 8)) || ((((k2 : Nat) : Int) : Int) == 2)) then
    if (x1 : Int) ≠ 0 then
    if 0 ≤ (((k2 : Nat) : Int) : Int) ∧ ((k2 : Nat) : Int) < ((3 : Nat) : Int) then
    if 0 ≤ ((Int.tmod (IntKind.i64.wrap (Int.tdiv a1.at_ x1)) 8) : Int) ∧ (Int.tmod (IntKind.i64.wrap (Int.tdiv a1.at_ x1)) 8) < ((8 : Nat) : Int) then
    bif (decide (k2 = 0)) then
     bif (decide ((Int.toNat (Int.tmod (IntKind.i64.wrap (Int.tdiv a1.at_ x1)) 8)) = 0)) then
      if ((((a0.on_ 0) 0)).length + ([a1]).length + ((((a0.on_ 0) 0)).length + ([a1]).length) / 4 + 192) * 16 ≤ 281474976710656 ∧ (((a0.on_ 0) 0)).length + ([a1]).length ≤ 140737488355328 then
      some (⟨a0.now_, (upd (upd (upd a0.on_ 0 (upd (upd (upd (upd (upd (upd (upd (upd (a0.on_ 0) 0 (((a0.on_ 0) 0) ++ [a1])) 1 ((a0.on_ 0) 1)) 2 ((a0.on_ 0) 2)) 3 ((a0.on_ 0) 3)) 4 ((a0.on_ 0) 4)) 5 ((a0.on_ 0) 5)) 6 ((a0.on_ 0) 6)) 7 ((a0.on_ 0) 7))) 1 (a0.on_ 1)) 2 (a0.on_ 2)), a0.places_, a0.fired_⟩ : Wheel_wheels)
      else none
     else
      bif (decide ((Int.toNat (Int.tmod (IntKind.i64.wrap (Int.tdiv a1.at_ x1)) 8)) = 1)) then
       if ((((a0.on_ 0) 1)).length + ([a1]).length + ((((a0.on_ 0) 1)).length + ([a1]).length) / 4 + 192) * 16 ≤ 281474976710656 ∧ (((a0.on_ 0) 1)).length + ([a1]).length ≤ 140737488355328 then
       some (⟨a0.now_, (upd (upd (upd a0.on_ 0 (upd (upd (upd (upd (upd (upd (upd (a0.on_ 0) 1 (((a0.on_ 0) 1) ++ [a1])) 2 ((a0.on_ 0) 2)) 3 ((a0.on_ 0) 3)) 4 ((a0.on_ 0) 4)) 5 ((a0.on_ 0) 5)) 6 ((a0.on_ 0) 6)) 7 ((a0.on_ 0) 7))) 1 (a0.on_ 1)) 2 (a0.on_ 2)), a0.places_, a0.fired_⟩ : Wheel_wheels)
       else none
      else
       bif (decide ((Int.toNat (Int.tmod (IntKind.i64.wrap (Int.tdiv a1.at_ x1)) 8)) = 2)) then
        if ((((a0.on_ 0) 2)).length + ([a1]).length + ((((a0.on_ 0) 2)).length + ([a1]).length) / 4 + 192) * 16 ≤ 281474976710656 ∧ (((a0.on_ 0) 2)).length + ([a1]).length ≤ 140737488355328 then
        some (⟨a0.now_, (upd (upd (upd a0.on_ 0 (upd (upd (upd (upd (upd (upd (a0.on_ 0) 2 (((a0.on_ 0) 2) ++ [a1])) 3 ((a0.on_ 0) 3)) 4 ((a0.on_ 0) 4)) 5 ((a0.on_ 0) 5)) 6 ((a0.on_ 0) 6)) 7 ((a0.on_ 0) 7))) 1 (a0.on_ 1)) 2 (a0.on_ 2)), a0.places_, a0.fired_⟩ : Wheel_wheels)
        else none
       else
        bif (decide ((Int.toNat (Int.tmod (IntKind.i64.wrap (Int.tdiv a1.at_ x1)) 8)) = 3)) then
         if ((((a0.on_ 0) 3)).length + ([a1]).length + ((((a0.on_ 0) 3)).length + ([a1]).length) / 4 + 192) * 16 ≤ 281474976710656 ∧ (((a0.on_ 0) 3)).length + ([a1]).length ≤ 140737488355328 then
         some (⟨a0.now_, (upd (upd (upd a0.on_ 0 (upd (upd (upd (upd (upd (a0.on_ 0) 3 (((a0.on_ 0) 3) ++ [a1])) 4 ((a0.on_ 0) 4)) 5 ((a0.on_ 0) 5)) 6 ((a0.on_ 0) 6)) 7 ((a0.on_ 0) 7))) 1 (a0.on_ 1)) 2 (a0.on_ 2)), a0.places_, a0.fired_⟩ : Wheel_wheels)
         else none
        else
         bif (decide ((Int.toNat (Int.tmod (IntKind.i64.wrap (Int.tdiv a1.at_ x1)) 8)) = 4)) then
          if ((((a0.on_ 0) 4)).length + ([a1]).length + ((((a0.on_ 0) 4)).length + ([a1]).length) / 4 + 192) * 16 ≤ 281474976710656 ∧ (((a0.on_ 0) 4)).length + ([a1]).length ≤ 140737488355328 then
          some (⟨a0.now_, (upd (upd (upd a0.on_ 0 (upd (upd (upd (upd (a0.on_ 0) 4 (((a0.on_ 0) 4) ++ [a1])) 5 ((a0.on_ 0) 5)) 6 ((a0.on_ 0) 6)) 7 ((a0.on_ 0) 7))) 1 (a0.on_ 1)) 2 (a0.on_ 2)), a0.places_, a0.fired_⟩ : Wheel_wheels)
          else none
         else
          bif (decide ((Int.toNat (Int.tmod (IntKind.i64.wrap (Int.tdiv a1.at_ x1)) 8)) = 5)) then
           if ((((a0.on_ 0) 5)).length + ([a1]).length + ((((a0.on_ 0) 5)).length + ([a1]).length) / 4 + 192) * 16 ≤ 281474976710656 ∧ (((a0.on_ 0) 5)).length + ([a1]).length ≤ 140737488355328 then
           some (⟨a0.now_, (upd (upd (upd a0.on_ 0 (upd (upd (upd (a0.on_ 0) 5 (((a0.on_ 0) 5) ++ [a1])) 6 ((a0.on_ 0) 6)) 7 ((a0.on_ 0) 7))) 1 (a0.on_ 1)) 2 (a0.on_ 2)), a0.places_, a0.fired_⟩ : Wheel_wheels)
           else none
          else
           bif (decide ((Int.toNat (Int.tmod (IntKind.i64.wrap (Int.tdiv a1.at_ x1)) 8)) = 6)) then
            if ((((a0.on_ 0) 6)).length + ([a1]).length + ((((a0.on_ 0) 6)).length + ([a1]).length) / 4 + 192) * 16 ≤ 281474976710656 ∧ (((a0.on_ 0) 6)).length + ([a1]).length ≤ 140737488355328 then
            some (⟨a0.now_, (upd (upd (upd a0.on_ 0 (upd (upd (a0.on_ 0) 6 (((a0.on_ 0) 6) ++ [a1])) 7 ((a0.on_ 0) 7))) 1 (a0.on_ 1)) 2 (a0.on_ 2)), a0.places_, a0.fired_⟩ : Wheel_wheels)
            else none
           else
            bif (decide ((Int.toNat (Int.tmod (IntKind.i64.wrap (Int.tdiv a1.at_ x1)) 8)) = 7)) then
             if ((((a0.on_ 0) 7)).length + ([a1]).length + ((((a0.on_ 0) 7)).length + ([a1]).length) / 4 + 192) * 16 ≤ 281474976710656 ∧ (((a0.on_ 0) 7)).length + ([a1]).length ≤ 140737488355328 then
             some (⟨a0.now_, (upd (upd (upd a0.on_ 0 (upd (a0.on_ 0) 7 (((a0.on_ 0) 7) ++ [a1]))) 1 (a0.on_ 1)) 2 (a0.on_ 2)), a0.places_, a0.fired_⟩ : Wheel_wheels)
             else none
            else
             none
    else
     bif (decide (k2 = 1)) then
      bif (decide ((Int.toNat (Int.tmod (IntKind.i64.wrap (Int.tdiv a1.at_ x1)) 8)) = 0)) then
       if ((((a0.on_ 1) 0)).length + ([a1]).length + ((((a0.on_ 1) 0)).length + ([a1]).length) / 4 + 192) * 16 ≤ 281474976710656 ∧ (((a0.on_ 1) 0)).length + ([a1]).length ≤ 140737488355328 then
       some (⟨a0.now_, (upd (upd a0.on_ 1 (upd (upd (upd (upd (upd (upd (upd (upd (a0.on_ 1) 0 (((a0.on_ 1) 0) ++ [a1])) 1 ((a0.on_ 1) 1)) 2 ((a0.on_ 1) 2)) 3 ((a0.on_ 1) 3)) 4 ((a0.on_ 1) 4)) 5 ((a0.on_ 1) 5)) 6 ((a0.on_ 1) 6)) 7 ((a0.on_ 1) 7))) 2 (a0.on_ 2)), a0.places_, a0.fired_⟩ : Wheel_wheels)
       else none
      else
       bif (decide ((Int.toNat (Int.tmod (IntKind.i64.wrap (Int.tdiv a1.at_ x1)) 8)) = 1)) then
        if ((((a0.on_ 1) 1)).length + ([a1]).length + ((((a0.on_ 1) 1)).length + ([a1]).length) / 4 + 192) * 16 ≤ 281474976710656 ∧ (((a0.on_ 1) 1)).length + ([a1]).length ≤ 140737488355328 then
        some (⟨a0.now_, (upd (upd a0.on_ 1 (upd (upd (upd (upd (upd (upd (upd (a0.on_ 1) 1 (((a0.on_ 1) 1) ++ [a1])) 2 ((a0.on_ 1) 2)) 3 ((a0.on_ 1) 3)) 4 ((a0.on_ 1) 4)) 5 ((a0.on_ 1) 5)) 6 ((a0.on_ 1) 6)) 7 ((a0.on_ 1) 7))) 2 (a0.on_ 2)), a0.places_, a0.fired_⟩ : Wheel_wheels)
        else none
       else
        bif (decide ((Int.toNat (Int.tmod (IntKind.i64.wrap (Int.tdiv a1.at_ x1)) 8)) = 2)) then
         if ((((a0.on_ 1) 2)).length + ([a1]).length + ((((a0.on_ 1) 2)).length + ([a1]).length) / 4 + 192) * 16 ≤ 281474976710656 ∧ (((a0.on_ 1) 2)).length + ([a1]).length ≤ 140737488355328 then
         some (⟨a0.now_, (upd (upd a0.on_ 1 (upd (upd (upd (upd (upd (upd (a0.on_ 1) 2 (((a0.on_ 1) 2) ++ [a1])) 3 ((a0.on_ 1) 3)) 4 ((a0.on_ 1) 4)) 5 ((a0.on_ 1) 5)) 6 ((a0.on_ 1) 6)) 7 ((a0.on_ 1) 7))) 2 (a0.on_ 2)), a0.places_, a0.fired_⟩ : Wheel_wheels)
         else none
        else
         bif (decide ((Int.toNat (Int.tmod (IntKind.i64.wrap (Int.tdiv a1.at_ x1)) 8)) = 3)) then
          if ((((a0.on_ 1) 3)).length + ([a1]).length + ((((a0.on_ 1) 3)).length + ([a1]).length) / 4 + 192) * 16 ≤ 281474976710656 ∧ (((a0.on_ 1) 3)).length + ([a1]).length ≤ 140737488355328 then
          some (⟨a0.now_, (upd (upd a0.on_ 1 (upd (upd (upd (upd (upd (a0.on_ 1) 3 (((a0.on_ 1) 3) ++ [a1])) 4 ((a0.on_ 1) 4)) 5 ((a0.on_ 1) 5)) 6 ((a0.on_ 1) 6)) 7 ((a0.on_ 1) 7))) 2 (a0.on_ 2)), a0.places_, a0.fired_⟩ : Wheel_wheels)
          else none
         else
          bif (decide ((Int.toNat (Int.tmod (IntKind.i64.wrap (Int.tdiv a1.at_ x1)) 8)) = 4)) then
           if ((((a0.on_ 1) 4)).length + ([a1]).length + ((((a0.on_ 1) 4)).length + ([a1]).length) / 4 + 192) * 16 ≤ 281474976710656 ∧ (((a0.on_ 1) 4)).length + ([a1]).length ≤ 140737488355328 then
           some (⟨a0.now_, (upd (upd a0.on_ 1 (upd (upd (upd (upd (a0.on_ 1) 4 (((a0.on_ 1) 4) ++ [a1])) 5 ((a0.on_ 1) 5)) 6 ((a0.on_ 1) 6)) 7 ((a0.on_ 1) 7))) 2 (a0.on_ 2)), a0.places_, a0.fired_⟩ : Wheel_wheels)
           else none
          else
           bif (decide ((Int.toNat (Int.tmod (IntKind.i64.wrap (Int.tdiv a1.at_ x1)) 8)) = 5)) then
            if ((((a0.on_ 1) 5)).length + ([a1]).length + ((((a0.on_ 1) 5)).length + ([a1]).length) / 4 + 192) * 16 ≤ 281474976710656 ∧ (((a0.on_ 1) 5)).length + ([a1]).length ≤ 140737488355328 then
            some (⟨a0.now_, (upd (upd a0.on_ 1 (upd (upd (upd (a0.on_ 1) 5 (((a0.on_ 1) 5) ++ [a1])) 6 ((a0.on_ 1) 6)) 7 ((a0.on_ 1) 7))) 2 (a0.on_ 2)), a0.places_, a0.fired_⟩ : Wheel_wheels)
            else none
           else
            bif (decide ((Int.toNat (Int.tmod (IntKind.i64.wrap (Int.tdiv a1.at_ x1)) 8)) = 6)) then
             if ((((a0.on_ 1) 6)).length + ([a1]).length + ((((a0.on_ 1) 6)).length + ([a1]).length) / 4 + 192) * 16 ≤ 281474976710656 ∧ (((a0.on_ 1) 6)).length + ([a1]).length ≤ 140737488355328 then
             some (⟨a0.now_, (upd (upd a0.on_ 1 (upd (upd (a0.on_ 1) 6 (((a0.on_ 1) 6) ++ [a1])) 7 ((a0.on_ 1) 7))) 2 (a0.on_ 2)), a0.places_, a0.fired_⟩ : Wheel_wheels)
             else none
            else
             bif (decide ((Int.toNat (Int.tmod (IntKind.i64.wrap (Int.tdiv a1.at_ x1)) 8)) = 7)) then
              if ((((a0.on_ 1) 7)).length + ([a1]).length + ((((a0.on_ 1) 7)).length + ([a1]).length) / 4 + 192) * 16 ≤ 281474976710656 ∧ (((a0.on_ 1) 7)).length + ([a1]).length ≤ 140737488355328 then
              some (⟨a0.now_, (upd (upd a0.on_ 1 (upd (a0.on_ 1) 7 (((a0.on_ 1) 7) ++ [a1]))) 2 (a0.on_ 2)), a0.places_, a0.fired_⟩ : Wheel_wheels)
              else none
             else
              none
     else
      bif (decide (k2 = 2)) then
       bif (decide ((Int.toNat (Int.tmod (IntKind.i64.wrap (Int.tdiv a1.at_ x1)) 8)) = 0)) then
        if ((((a0.on_ 2) 0)).length + ([a1]).length + ((((a0.on_ 2) 0)).length + ([a1]).length) / 4 + 192) * 16 ≤ 281474976710656 ∧ (((a0.on_ 2) 0)).length + ([a1]).length ≤ 140737488355328 then
        some (⟨a0.now_, (upd a0.on_ 2 (upd (upd (upd (upd (upd (upd (upd (upd (a0.on_ 2) 0 (((a0.on_ 2) 0) ++ [a1])) 1 ((a0.on_ 2) 1)) 2 ((a0.on_ 2) 2)) 3 ((a0.on_ 2) 3)) 4 ((a0.on_ 2) 4)) 5 ((a0.on_ 2) 5)) 6 ((a0.on_ 2) 6)) 7 ((a0.on_ 2) 7))), a0.places_, a0.fired_⟩ : Wheel_wheels)
        else none
       else
        bif (decide ((Int.toNat (Int.tmod (IntKind.i64.wrap (Int.tdiv a1.at_ x1)) 8)) = 1)) then
         if ((((a0.on_ 2) 1)).length + ([a1]).length + ((((a0.on_ 2) 1)).length + ([a1]).length) / 4 + 192) * 16 ≤ 281474976710656 ∧ (((a0.on_ 2) 1)).length + ([a1]).length ≤ 140737488355328 then
         some (⟨a0.now_, (upd a0.on_ 2 (upd (upd (upd (upd (upd (upd (upd (a0.on_ 2) 1 (((a0.on_ 2) 1) ++ [a1])) 2 ((a0.on_ 2) 2)) 3 ((a0.on_ 2) 3)) 4 ((a0.on_ 2) 4)) 5 ((a0.on_ 2) 5)) 6 ((a0.on_ 2) 6)) 7 ((a0.on_ 2) 7))), a0.places_, a0.fired_⟩ : Wheel_wheels)
         else none
        else
         bif (decide ((Int.toNat (Int.tmod (IntKind.i64.wrap (Int.tdiv a1.at_ x1)) 8)) = 2)) then
          if ((((a0.on_ 2) 2)).length + ([a1]).length + ((((a0.on_ 2) 2)).length + ([a1]).length) / 4 + 192) * 16 ≤ 281474976710656 ∧ (((a0.on_ 2) 2)).length + ([a1]).length ≤ 140737488355328 then
          some (⟨a0.now_, (upd a0.on_ 2 (upd (upd (upd (upd (upd (upd (a0.on_ 2) 2 (((a0.on_ 2) 2) ++ [a1])) 3 ((a0.on_ 2) 3)) 4 ((a0.on_ 2) 4)) 5 ((a0.on_ 2) 5)) 6 ((a0.on_ 2) 6)) 7 ((a0.on_ 2) 7))), a0.places_, a0.fired_⟩ : Wheel_wheels)
          else none
         else
          bif (decide ((Int.toNat (Int.tmod (IntKind.i64.wrap (Int.tdiv a1.at_ x1)) 8)) = 3)) then
           if ((((a0.on_ 2) 3)).length + ([a1]).length + ((((a0.on_ 2) 3)).length + ([a1]).length) / 4 + 192) * 16 ≤ 281474976710656 ∧ (((a0.on_ 2) 3)).length + ([a1]).length ≤ 140737488355328 then
           some (⟨a0.now_, (upd a0.on_ 2 (upd (upd (upd (upd (upd (a0.on_ 2) 3 (((a0.on_ 2) 3) ++ [a1])) 4 ((a0.on_ 2) 4)) 5 ((a0.on_ 2) 5)) 6 ((a0.on_ 2) 6)) 7 ((a0.on_ 2) 7))), a0.places_, a0.fired_⟩ : Wheel_wheels)
           else none
          else
           bif (decide ((Int.toNat (Int.tmod (IntKind.i64.wrap (Int.tdiv a1.at_ x1)) 8)) = 4)) then
            if ((((a0.on_ 2) 4)).length + ([a1]).length + ((((a0.on_ 2) 4)).length + ([a1]).length) / 4 + 192) * 16 ≤ 281474976710656 ∧ (((a0.on_ 2) 4)).length + ([a1]).length ≤ 140737488355328 then
            some (⟨a0.now_, (upd a0.on_ 2 (upd (upd (upd (upd (a0.on_ 2) 4 (((a0.on_ 2) 4) ++ [a1])) 5 ((a0.on_ 2) 5)) 6 ((a0.on_ 2) 6)) 7 ((a0.on_ 2) 7))), a0.places_, a0.fired_⟩ : Wheel_wheels)
            else none
           else
            bif (decide ((Int.toNat (Int.tmod (IntKind.i64.wrap (Int.tdiv a1.at_ x1)) 8)) = 5)) then
             if ((((a0.on_ 2) 5)).length + ([a1]).length + ((((a0.on_ 2) 5)).length + ([a1]).length) / 4 + 192) * 16 ≤ 281474976710656 ∧ (((a0.on_ 2) 5)).length + ([a1]).length ≤ 140737488355328 then
             some (⟨a0.now_, (upd a0.on_ 2 (upd (upd (upd (a0.on_ 2) 5 (((a0.on_ 2) 5) ++ [a1])) 6 ((a0.on_ 2) 6)) 7 ((a0.on_ 2) 7))), a0.places_, a0.fired_⟩ : Wheel_wheels)
             else none
            else
             bif (decide ((Int.toNat (Int.tmod (IntKind.i64.wrap (Int.tdiv a1.at_ x1)) 8)) = 6)) then
              if ((((a0.on_ 2) 6)).length + ([a1]).length + ((((a0.on_ 2) 6)).length + ([a1]).length) / 4 + 192) * 16 ≤ 281474976710656 ∧ (((a0.on_ 2) 6)).length + ([a1]).length ≤ 140737488355328 then
              some (⟨a0.now_, (upd a0.on_ 2 (upd (upd (a0.on_ 2) 6 (((a0.on_ 2) 6) ++ [a1])) 7 ((a0.on_ 2) 7))), a0.places_, a0.fired_⟩ : Wheel_wheels)
              else none
             else
              bif (decide ((Int.toNat (Int.tmod (IntKind.i64.wrap (Int.tdiv a1.at_ x1)) 8)) = 7)) then
               if ((((a0.on_ 2) 7)).length + ([a1]).length + ((((a0.on_ 2) 7)).length + ([a1]).length) / 4 + 192) * 16 ≤ 281474976710656 ∧ (((a0.on_ 2) 7)).length + ([a1]).length ≤ 140737488355328 then
               some (⟨a0.now_, (upd a0.on_ 2 (upd (a0.on_ 2) 7 (((a0.on_ 2) 7) ++ [a1]))), a0.places_, a0.fired_⟩ : Wheel_wheels)
               else none
              else
               none
      else
       none
    else none
    else none
    else none
   else
    wheel_wheels_put_l1 a0 a1 n1 (IntKind.i64.wrap (x1 * 8)) (k2 + 1)
   else none
   else none
  else
   some a0
def wheel_wheels_put (a0 : Wheel_wheels) (a1 : Wheel_timer) : Option (Wheel_wheels) :=
 wheel_wheels_put_l1 a0 a1 FUEL 1 0
def wheel_wheels_off (a0 : Wheel_wheels) (a1 : Int) (a2 : Int) : Option ((List Wheel_timer) × Wheel_wheels) :=
 if 0 ≤ (a1 : Int) ∧ a1 < ((3 : Nat) : Int) then
 if 0 ≤ (a2 : Int) ∧ a2 < ((8 : Nat) : Int) then
 bif (decide ((Int.toNat a1) = 0)) then
  bif (decide ((Int.toNat a2) = 0)) then
   if 0 ≤ (a1 : Int) ∧ a1 < ((3 : Nat) : Int) then
   if 0 ≤ (a2 : Int) ∧ a2 < ((8 : Nat) : Int) then
   some (((a0.on_ 0) 0), (⟨a0.now_, (upd (upd (upd a0.on_ 0 (upd (upd (upd (upd (upd (upd (upd (upd (a0.on_ 0) 0 ([] : List Wheel_timer)) 1 ((a0.on_ 0) 1)) 2 ((a0.on_ 0) 2)) 3 ((a0.on_ 0) 3)) 4 ((a0.on_ 0) 4)) 5 ((a0.on_ 0) 5)) 6 ((a0.on_ 0) 6)) 7 ((a0.on_ 0) 7))) 1 (a0.on_ 1)) 2 (a0.on_ 2)), a0.places_, a0.fired_⟩ : Wheel_wheels))
   else none
   else none
  else
   bif (decide ((Int.toNat a2) = 1)) then
    if 0 ≤ (a1 : Int) ∧ a1 < ((3 : Nat) : Int) then
    if 0 ≤ (a2 : Int) ∧ a2 < ((8 : Nat) : Int) then
    some (((a0.on_ 0) 1), (⟨a0.now_, (upd (upd (upd a0.on_ 0 (upd (upd (upd (upd (upd (upd (upd (a0.on_ 0) 1 ([] : List Wheel_timer)) 2 ((a0.on_ 0) 2)) 3 ((a0.on_ 0) 3)) 4 ((a0.on_ 0) 4)) 5 ((a0.on_ 0) 5)) 6 ((a0.on_ 0) 6)) 7 ((a0.on_ 0) 7))) 1 (a0.on_ 1)) 2 (a0.on_ 2)), a0.places_, a0.fired_⟩ : Wheel_wheels))
    else none
    else none
   else
    bif (decide ((Int.toNat a2) = 2)) then
     if 0 ≤ (a1 : Int) ∧ a1 < ((3 : Nat) : Int) then
     if 0 ≤ (a2 : Int) ∧ a2 < ((8 : Nat) : Int) then
     some (((a0.on_ 0) 2), (⟨a0.now_, (upd (upd (upd a0.on_ 0 (upd (upd (upd (upd (upd (upd (a0.on_ 0) 2 ([] : List Wheel_timer)) 3 ((a0.on_ 0) 3)) 4 ((a0.on_ 0) 4)) 5 ((a0.on_ 0) 5)) 6 ((a0.on_ 0) 6)) 7 ((a0.on_ 0) 7))) 1 (a0.on_ 1)) 2 (a0.on_ 2)), a0.places_, a0.fired_⟩ : Wheel_wheels))
     else none
     else none
    else
     bif (decide ((Int.toNat a2) = 3)) then
      if 0 ≤ (a1 : Int) ∧ a1 < ((3 : Nat) : Int) then
      if 0 ≤ (a2 : Int) ∧ a2 < ((8 : Nat) : Int) then
      some (((a0.on_ 0) 3), (⟨a0.now_, (upd (upd (upd a0.on_ 0 (upd (upd (upd (upd (upd (a0.on_ 0) 3 ([] : List Wheel_timer)) 4 ((a0.on_ 0) 4)) 5 ((a0.on_ 0) 5)) 6 ((a0.on_ 0) 6)) 7 ((a0.on_ 0) 7))) 1 (a0.on_ 1)) 2 (a0.on_ 2)), a0.places_, a0.fired_⟩ : Wheel_wheels))
      else none
      else none
     else
      bif (decide ((Int.toNat a2) = 4)) then
       if 0 ≤ (a1 : Int) ∧ a1 < ((3 : Nat) : Int) then
       if 0 ≤ (a2 : Int) ∧ a2 < ((8 : Nat) : Int) then
       some (((a0.on_ 0) 4), (⟨a0.now_, (upd (upd (upd a0.on_ 0 (upd (upd (upd (upd (a0.on_ 0) 4 ([] : List Wheel_timer)) 5 ((a0.on_ 0) 5)) 6 ((a0.on_ 0) 6)) 7 ((a0.on_ 0) 7))) 1 (a0.on_ 1)) 2 (a0.on_ 2)), a0.places_, a0.fired_⟩ : Wheel_wheels))
       else none
       else none
      else
       bif (decide ((Int.toNat a2) = 5)) then
        if 0 ≤ (a1 : Int) ∧ a1 < ((3 : Nat) : Int) then
        if 0 ≤ (a2 : Int) ∧ a2 < ((8 : Nat) : Int) then
        some (((a0.on_ 0) 5), (⟨a0.now_, (upd (upd (upd a0.on_ 0 (upd (upd (upd (a0.on_ 0) 5 ([] : List Wheel_timer)) 6 ((a0.on_ 0) 6)) 7 ((a0.on_ 0) 7))) 1 (a0.on_ 1)) 2 (a0.on_ 2)), a0.places_, a0.fired_⟩ : Wheel_wheels))
        else none
        else none
       else
        bif (decide ((Int.toNat a2) = 6)) then
         if 0 ≤ (a1 : Int) ∧ a1 < ((3 : Nat) : Int) then
         if 0 ≤ (a2 : Int) ∧ a2 < ((8 : Nat) : Int) then
         some (((a0.on_ 0) 6), (⟨a0.now_, (upd (upd (upd a0.on_ 0 (upd (upd (a0.on_ 0) 6 ([] : List Wheel_timer)) 7 ((a0.on_ 0) 7))) 1 (a0.on_ 1)) 2 (a0.on_ 2)), a0.places_, a0.fired_⟩ : Wheel_wheels))
         else none
         else none
        else
         bif (decide ((Int.toNat a2) = 7)) then
          if 0 ≤ (a1 : Int) ∧ a1 < ((3 : Nat) : Int) then
          if 0 ≤ (a2 : Int) ∧ a2 < ((8 : Nat) : Int) then
          some (((a0.on_ 0) 7), (⟨a0.now_, (upd (upd (upd a0.on_ 0 (upd (a0.on_ 0) 7 ([] : List Wheel_timer))) 1 (a0.on_ 1)) 2 (a0.on_ 2)), a0.places_, a0.fired_⟩ : Wheel_wheels))
          else none
          else none
         else
          none
 else
  bif (decide ((Int.toNat a1) = 1)) then
   bif (decide ((Int.toNat a2) = 0)) then
    if 0 ≤ (a1 : Int) ∧ a1 < ((3 : Nat) : Int) then
    if 0 ≤ (a2 : Int) ∧ a2 < ((8 : Nat) : Int) then
    some (((a0.on_ 1) 0), (⟨a0.now_, (upd (upd a0.on_ 1 (upd (upd (upd (upd (upd (upd (upd (upd (a0.on_ 1) 0 ([] : List Wheel_timer)) 1 ((a0.on_ 1) 1)) 2 ((a0.on_ 1) 2)) 3 ((a0.on_ 1) 3)) 4 ((a0.on_ 1) 4)) 5 ((a0.on_ 1) 5)) 6 ((a0.on_ 1) 6)) 7 ((a0.on_ 1) 7))) 2 (a0.on_ 2)), a0.places_, a0.fired_⟩ : Wheel_wheels))
    else none
    else none
   else
    bif (decide ((Int.toNat a2) = 1)) then
     if 0 ≤ (a1 : Int) ∧ a1 < ((3 : Nat) : Int) then
     if 0 ≤ (a2 : Int) ∧ a2 < ((8 : Nat) : Int) then
     some (((a0.on_ 1) 1), (⟨a0.now_, (upd (upd a0.on_ 1 (upd (upd (upd (upd (upd (upd (upd (a0.on_ 1) 1 ([] : List Wheel_timer)) 2 ((a0.on_ 1) 2)) 3 ((a0.on_ 1) 3)) 4 ((a0.on_ 1) 4)) 5 ((a0.on_ 1) 5)) 6 ((a0.on_ 1) 6)) 7 ((a0.on_ 1) 7))) 2 (a0.on_ 2)), a0.places_, a0.fired_⟩ : Wheel_wheels))
     else none
     else none
    else
     bif (decide ((Int.toNat a2) = 2)) then
      if 0 ≤ (a1 : Int) ∧ a1 < ((3 : Nat) : Int) then
      if 0 ≤ (a2 : Int) ∧ a2 < ((8 : Nat) : Int) then
      some (((a0.on_ 1) 2), (⟨a0.now_, (upd (upd a0.on_ 1 (upd (upd (upd (upd (upd (upd (a0.on_ 1) 2 ([] : List Wheel_timer)) 3 ((a0.on_ 1) 3)) 4 ((a0.on_ 1) 4)) 5 ((a0.on_ 1) 5)) 6 ((a0.on_ 1) 6)) 7 ((a0.on_ 1) 7))) 2 (a0.on_ 2)), a0.places_, a0.fired_⟩ : Wheel_wheels))
      else none
      else none
     else
      bif (decide ((Int.toNat a2) = 3)) then
       if 0 ≤ (a1 : Int) ∧ a1 < ((3 : Nat) : Int) then
       if 0 ≤ (a2 : Int) ∧ a2 < ((8 : Nat) : Int) then
       some (((a0.on_ 1) 3), (⟨a0.now_, (upd (upd a0.on_ 1 (upd (upd (upd (upd (upd (a0.on_ 1) 3 ([] : List Wheel_timer)) 4 ((a0.on_ 1) 4)) 5 ((a0.on_ 1) 5)) 6 ((a0.on_ 1) 6)) 7 ((a0.on_ 1) 7))) 2 (a0.on_ 2)), a0.places_, a0.fired_⟩ : Wheel_wheels))
       else none
       else none
      else
       bif (decide ((Int.toNat a2) = 4)) then
        if 0 ≤ (a1 : Int) ∧ a1 < ((3 : Nat) : Int) then
        if 0 ≤ (a2 : Int) ∧ a2 < ((8 : Nat) : Int) then
        some (((a0.on_ 1) 4), (⟨a0.now_, (upd (upd a0.on_ 1 (upd (upd (upd (upd (a0.on_ 1) 4 ([] : List Wheel_timer)) 5 ((a0.on_ 1) 5)) 6 ((a0.on_ 1) 6)) 7 ((a0.on_ 1) 7))) 2 (a0.on_ 2)), a0.places_, a0.fired_⟩ : Wheel_wheels))
        else none
        else none
       else
        bif (decide ((Int.toNat a2) = 5)) then
         if 0 ≤ (a1 : Int) ∧ a1 < ((3 : Nat) : Int) then
         if 0 ≤ (a2 : Int) ∧ a2 < ((8 : Nat) : Int) then
         some (((a0.on_ 1) 5), (⟨a0.now_, (upd (upd a0.on_ 1 (upd (upd (upd (a0.on_ 1) 5 ([] : List Wheel_timer)) 6 ((a0.on_ 1) 6)) 7 ((a0.on_ 1) 7))) 2 (a0.on_ 2)), a0.places_, a0.fired_⟩ : Wheel_wheels))
         else none
         else none
        else
         bif (decide ((Int.toNat a2) = 6)) then
          if 0 ≤ (a1 : Int) ∧ a1 < ((3 : Nat) : Int) then
          if 0 ≤ (a2 : Int) ∧ a2 < ((8 : Nat) : Int) then
          some (((a0.on_ 1) 6), (⟨a0.now_, (upd (upd a0.on_ 1 (upd (upd (a0.on_ 1) 6 ([] : List Wheel_timer)) 7 ((a0.on_ 1) 7))) 2 (a0.on_ 2)), a0.places_, a0.fired_⟩ : Wheel_wheels))
          else none
          else none
         else
          bif (decide ((Int.toNat a2) = 7)) then
           if 0 ≤ (a1 : Int) ∧ a1 < ((3 : Nat) : Int) then
           if 0 ≤ (a2 : Int) ∧ a2 < ((8 : Nat) : Int) then
           some (((a0.on_ 1) 7), (⟨a0.now_, (upd (upd a0.on_ 1 (upd (a0.on_ 1) 7 ([] : List Wheel_timer))) 2 (a0.on_ 2)), a0.places_, a0.fired_⟩ : Wheel_wheels))
           else none
           else none
          else
           none
  else
   bif (decide ((Int.toNat a1) = 2)) then
    bif (decide ((Int.toNat a2) = 0)) then
     if 0 ≤ (a1 : Int) ∧ a1 < ((3 : Nat) : Int) then
     if 0 ≤ (a2 : Int) ∧ a2 < ((8 : Nat) : Int) then
     some (((a0.on_ 2) 0), (⟨a0.now_, (upd a0.on_ 2 (upd (upd (upd (upd (upd (upd (upd (upd (a0.on_ 2) 0 ([] : List Wheel_timer)) 1 ((a0.on_ 2) 1)) 2 ((a0.on_ 2) 2)) 3 ((a0.on_ 2) 3)) 4 ((a0.on_ 2) 4)) 5 ((a0.on_ 2) 5)) 6 ((a0.on_ 2) 6)) 7 ((a0.on_ 2) 7))), a0.places_, a0.fired_⟩ : Wheel_wheels))
     else none
     else none
    else
     bif (decide ((Int.toNat a2) = 1)) then
      if 0 ≤ (a1 : Int) ∧ a1 < ((3 : Nat) : Int) then
      if 0 ≤ (a2 : Int) ∧ a2 < ((8 : Nat) : Int) then
      some (((a0.on_ 2) 1), (⟨a0.now_, (upd a0.on_ 2 (upd (upd (upd (upd (upd (upd (upd (a0.on_ 2) 1 ([] : List Wheel_timer)) 2 ((a0.on_ 2) 2)) 3 ((a0.on_ 2) 3)) 4 ((a0.on_ 2) 4)) 5 ((a0.on_ 2) 5)) 6 ((a0.on_ 2) 6)) 7 ((a0.on_ 2) 7))), a0.places_, a0.fired_⟩ : Wheel_wheels))
      else none
      else none
     else
      bif (decide ((Int.toNat a2) = 2)) then
       if 0 ≤ (a1 : Int) ∧ a1 < ((3 : Nat) : Int) then
       if 0 ≤ (a2 : Int) ∧ a2 < ((8 : Nat) : Int) then
       some (((a0.on_ 2) 2), (⟨a0.now_, (upd a0.on_ 2 (upd (upd (upd (upd (upd (upd (a0.on_ 2) 2 ([] : List Wheel_timer)) 3 ((a0.on_ 2) 3)) 4 ((a0.on_ 2) 4)) 5 ((a0.on_ 2) 5)) 6 ((a0.on_ 2) 6)) 7 ((a0.on_ 2) 7))), a0.places_, a0.fired_⟩ : Wheel_wheels))
       else none
       else none
      else
       bif (decide ((Int.toNat a2) = 3)) then
        if 0 ≤ (a1 : Int) ∧ a1 < ((3 : Nat) : Int) then
        if 0 ≤ (a2 : Int) ∧ a2 < ((8 : Nat) : Int) then
        some (((a0.on_ 2) 3), (⟨a0.now_, (upd a0.on_ 2 (upd (upd (upd (upd (upd (a0.on_ 2) 3 ([] : List Wheel_timer)) 4 ((a0.on_ 2) 4)) 5 ((a0.on_ 2) 5)) 6 ((a0.on_ 2) 6)) 7 ((a0.on_ 2) 7))), a0.places_, a0.fired_⟩ : Wheel_wheels))
        else none
        else none
       else
        bif (decide ((Int.toNat a2) = 4)) then
         if 0 ≤ (a1 : Int) ∧ a1 < ((3 : Nat) : Int) then
         if 0 ≤ (a2 : Int) ∧ a2 < ((8 : Nat) : Int) then
         some (((a0.on_ 2) 4), (⟨a0.now_, (upd a0.on_ 2 (upd (upd (upd (upd (a0.on_ 2) 4 ([] : List Wheel_timer)) 5 ((a0.on_ 2) 5)) 6 ((a0.on_ 2) 6)) 7 ((a0.on_ 2) 7))), a0.places_, a0.fired_⟩ : Wheel_wheels))
         else none
         else none
        else
         bif (decide ((Int.toNat a2) = 5)) then
          if 0 ≤ (a1 : Int) ∧ a1 < ((3 : Nat) : Int) then
          if 0 ≤ (a2 : Int) ∧ a2 < ((8 : Nat) : Int) then
          some (((a0.on_ 2) 5), (⟨a0.now_, (upd a0.on_ 2 (upd (upd (upd (a0.on_ 2) 5 ([] : List Wheel_timer)) 6 ((a0.on_ 2) 6)) 7 ((a0.on_ 2) 7))), a0.places_, a0.fired_⟩ : Wheel_wheels))
          else none
          else none
         else
          bif (decide ((Int.toNat a2) = 6)) then
           if 0 ≤ (a1 : Int) ∧ a1 < ((3 : Nat) : Int) then
           if 0 ≤ (a2 : Int) ∧ a2 < ((8 : Nat) : Int) then
           some (((a0.on_ 2) 6), (⟨a0.now_, (upd a0.on_ 2 (upd (upd (a0.on_ 2) 6 ([] : List Wheel_timer)) 7 ((a0.on_ 2) 7))), a0.places_, a0.fired_⟩ : Wheel_wheels))
           else none
           else none
          else
           bif (decide ((Int.toNat a2) = 7)) then
            if 0 ≤ (a1 : Int) ∧ a1 < ((3 : Nat) : Int) then
            if 0 ≤ (a2 : Int) ∧ a2 < ((8 : Nat) : Int) then
            some (((a0.on_ 2) 7), (⟨a0.now_, (upd a0.on_ 2 (upd (a0.on_ 2) 7 ([] : List Wheel_timer))), a0.places_, a0.fired_⟩ : Wheel_wheels))
            else none
            else none
           else
            none
   else
    none
 else none
 else none
def slices_Sort_int (a0 : List Int) : Option (List Int) := some (a0.mergeSort fun x y => decide (x ≤ y))
def slices_Compact_int_h0_l2 (a0 : (List Int)) (x2 : Int) (K2_0 : Int → Int → (List Int) → Option ((List Int))) : Nat → Int → Int → List Int → Option ((List Int))
 | 0, _, _, _ => none
 | n2 + 1, x9, x10, l11 =>
  bif (decide ((x10 : Int) < (((a0.length - (Int.toNat x2)) : Nat) : Int))) then
   if 0 ≤ (x10 : Int) ∧ x10 < (((a0.length - (Int.toNat x2)) : Nat) : Int) then
   if ((0 + (Int.toNat x2)) + (Int.toNat x10)) < l11.length then
   if 0 ≤ ((IntKind.i64.wrap (x10 - 1)) : Int) ∧ (IntKind.i64.wrap (x10 - 1)) < (((a0.length - (Int.toNat x2)) : Nat) : Int) then
   if ((0 + (Int.toNat x2)) + (Int.toNat (IntKind.i64.wrap (x10 - 1)))) < l11.length then
   bif (((l11.getD ((0 + (Int.toNat x2)) + (Int.toNat x10)) 0) : Int) != (l11.getD ((0 + (Int.toNat x2)) + (Int.toNat (IntKind.i64.wrap (x10 - 1)))) 0)) then
    if 0 ≤ (x10 : Int) ∧ x10 < (((a0.length - (Int.toNat x2)) : Nat) : Int) then
    if ((0 + (Int.toNat x2)) + (Int.toNat x10)) < l11.length then
    if 0 ≤ (x9 : Int) ∧ x9 < ((l11.length : Nat) : Int) then
    slices_Compact_int_h0_l2 a0 x2 K2_0 n2 (IntKind.i64.wrap (x9 + 1)) (IntKind.i64.wrap (x10 + 1)) (l11.set (0 + (Int.toNat x9)) (l11.getD ((0 + (Int.toNat x2)) + (Int.toNat x10)) 0))
    else none
    else none
    else none
   else
    slices_Compact_int_h0_l2 a0 x2 K2_0 n2 x9 (IntKind.i64.wrap (x10 + 1)) l11
   else none
   else none
   else none
   else none
  else
   K2_0 x9 x10 l11
def slices_Compact_int_h0_l1 (a0 : (List Int)) : Nat → Int → Option ((List Int))
 | 0, _ => none
 | n1 + 1, x2 =>
  bif (decide ((x2 : Int) < ((a0.length : Nat) : Int))) then
   if 0 ≤ (x2 : Int) ∧ x2 < ((a0.length : Nat) : Int) then
   if 0 ≤ ((IntKind.i64.wrap (x2 - 1)) : Int) ∧ (IntKind.i64.wrap (x2 - 1)) < ((a0.length : Nat) : Int) then
   bif (((a0.getD (0 + (Int.toNat x2)) 0) : Int) == (a0.getD (0 + (Int.toNat (IntKind.i64.wrap (x2 - 1)))) 0)) then
    if 0 ≤ (x2 : Int) then
    if (Int.toNat x2) ≤ a0.length then
    slices_Compact_int_h0_l2 a0 x2 (fun (x9 : Int) (x10 : Int) (l11 : List Int) =>
      if 0 ≤ (x9 : Int) then
      if (Int.toNat x9) ≤ l11.length then
      if (0 + (Int.toNat x9)) + (l11.length - (Int.toNat x9)) ≤ l11.length then
      if 0 ≤ (x9 : Int) then
      if (Int.toNat x9) ≤ l11.length then
      some (((cpL l11 (0 + (Int.toNat x9)) (l11.length - (Int.toNat x9)) (List.replicate (l11.length - (Int.toNat x9)) (0 : Int))).drop (0 + 0)).take ((Int.toNat x9) - 0))
      else none
      else none
      else none
      else none
      else none
     ) FUEL x2 1 a0
    else none
    else none
   else
    slices_Compact_int_h0_l1 a0 n1 (IntKind.i64.wrap (x2 + 1))
   else none
   else none
  else
   some a0
def slices_Compact_int_h0 (a0 : (List Int)) : Option ((List Int)) :=
 bif (decide ((((a0.length : Nat) : Int) : Int) < 2)) then
  some a0
 else
  slices_Compact_int_h0_l1 a0 FUEL 1
def wheel_wheels_tick_l2 (r35 : (List Wheel_timer) × Wheel_wheels) (K2_0 : Nat → Int → (List Wheel_timer) → (List Wheel_timer) → (List Wheel_timer) → (List Wheel_timer) → (List Wheel_timer) → (List Wheel_timer) → (List Wheel_timer) → (List Wheel_timer) → (List Wheel_timer) → (List Wheel_timer) → (List Wheel_timer) → (List Wheel_timer) → (List Wheel_timer) → (List Wheel_timer) → (List Wheel_timer) → (List Wheel_timer) → (List Wheel_timer) → (List Wheel_timer) → (List Wheel_timer) → (List Wheel_timer) → (List Wheel_timer) → (List Wheel_timer) → (List Wheel_timer) → (List Wheel_timer) → (List (Int × Int)) → (List Api_Fired) → Option (Wheel_wheels)) : Nat → Nat → Int → List Wheel_timer → List Wheel_timer → List Wheel_timer → List Wheel_timer → List Wheel_timer → List Wheel_timer → List Wheel_timer → List Wheel_timer → List Wheel_timer → List Wheel_timer → List Wheel_timer → List Wheel_timer → List Wheel_timer → List Wheel_timer → List Wheel_timer → List Wheel_timer → List Wheel_timer → List Wheel_timer → List Wheel_timer → List Wheel_timer → List Wheel_timer → List Wheel_timer → List Wheel_timer → List Wheel_timer → List (Int × Int) → List Api_Fired → Option (Wheel_wheels)
 | 0, _, _, _, _, _, _, _, _, _, _, _, _, _, _, _, _, _, _, _, _, _, _, _, _, _, _, _, _ => none
 | n2 + 1, k37, x38, l39, l40, l41, l42, l43, l44, l45, l46, l47, l48, l49, l50, l51, l52, l53, l54, l55, l56, l57, l58, l59, l60, l61, l62, m63, l64 =>
  bif (decide ((((k37 : Nat) : Int) : Int) < ((r35.1.length : Nat) : Int))) then
   (wheel_wheels_put (⟨x38, (arrOf [(arrOf [l39, l40, l41, l42, l43, l44, l45, l46] []), (arrOf [l47, l48, l49, l50, l51, l52, l53, l54] []), (arrOf [l55, l56, l57, l58, l59, l60, l61, l62] [])] (fun (_ : Nat) => ([] : (List Wheel_timer)))), m63, l64⟩ : Wheel_wheels) (r35.1.getD (0 + k37) (⟨0, 0⟩ : Wheel_timer))).bind fun r67 =>
   wheel_wheels_tick_l2 r35 K2_0 n2 (k37 + 1) r67.now_ ((r67.on_ 0) 0) ((r67.on_ 0) 1) ((r67.on_ 0) 2) ((r67.on_ 0) 3) ((r67.on_ 0) 4) ((r67.on_ 0) 5) ((r67.on_ 0) 6) ((r67.on_ 0) 7) ((r67.on_ 1) 0) ((r67.on_ 1) 1) ((r67.on_ 1) 2) ((r67.on_ 1) 3) ((r67.on_ 1) 4) ((r67.on_ 1) 5) ((r67.on_ 1) 6) ((r67.on_ 1) 7) ((r67.on_ 2) 0) ((r67.on_ 2) 1) ((r67.on_ 2) 2) ((r67.on_ 2) 3) ((r67.on_ 2) 4) ((r67.on_ 2) 5) ((r67.on_ 2) 6) ((r67.on_ 2) 7) r67.places_ r67.fired_
  else
   K2_0 k37 x38 l39 l40 l41 l42 l43 l44 l45 l46 l47 l48 l49 l50 l51 l52 l53 l54 l55 l56 l57 l58 l59 l60 l61 l62 m63 l64
def wheel_wheels_tick_l4 (r72 : (List Wheel_timer) × Wheel_wheels) (m76 : List (Int × Int)) (r88 : (List Int)) : Nat → Nat → List Api_Fired → Option (Wheel_wheels)
 | 0, _, _ => none
 | n4 + 1, k90, l91 =>
  bif (decide ((((k90 : Nat) : Int) : Int) < ((r88.length : Nat) : Int))) then
   if ((l91).length + ([(⟨r72.2.now_, (r88.getD (0 + k90) 0)⟩ : Api_Fired)]).length + ((l91).length + ([(⟨r72.2.now_, (r88.getD (0 + k90) 0)⟩ : Api_Fired)]).length) / 4 + 192) * 16 ≤ 281474976710656 ∧ (l91).length + ([(⟨r72.2.now_, (r88.getD (0 + k90) 0)⟩ : Api_Fired)]).length ≤ 140737488355328 then
   wheel_wheels_tick_l4 r72 m76 r88 n4 (k90 + 1) (l91 ++ [(⟨r72.2.now_, (r88.getD (0 + k90) 0)⟩ : Api_Fired)])
   else none
  else
   some (⟨r72.2.now_, r72.2.on_, m76, l91⟩ : Wheel_wheels)
def wheel_wheels_tick_l3 (r72 : (List Wheel_timer) × Wheel_wheels) : Nat → List Int → Nat → List (Int × Int) → Option (Wheel_wheels)
 | 0, _, _, _ => none
 | n3 + 1, l74, k75, m76 =>
  bif (decide ((((k75 : Nat) : Int) : Int) < ((r72.1.length : Nat) : Int))) then
   bif (((mget ((r72.1.getD (0 + k75) (⟨0, 0⟩ : Wheel_timer)).id_) m76).isSome) && ((((mget ((r72.1.getD (0 + k75) (⟨0, 0⟩ : Wheel_timer)).id_) m76).getD 0) : Int) == ((r72.1.getD (0 + k75) (⟨0, 0⟩ : Wheel_timer)).at_))) then
    if ((l74).length + ([(r72.1.getD (0 + k75) (⟨0, 0⟩ : Wheel_timer)).id_]).length + ((l74).length + ([(r72.1.getD (0 + k75) (⟨0, 0⟩ : Wheel_timer)).id_]).length) / 4 + 192) * 8 ≤ 281474976710656 ∧ (l74).length + ([(r72.1.getD (0 + k75) (⟨0, 0⟩ : Wheel_timer)).id_]).length ≤ 140737488355328 then
    wheel_wheels_tick_l3 r72 n3 (l74 ++ [(r72.1.getD (0 + k75) (⟨0, 0⟩ : Wheel_timer)).id_]) (k75 + 1) (mdelete ((r72.1.getD (0 + k75) (⟨0, 0⟩ : Wheel_timer)).id_) m76)
    else none
   else
    wheel_wheels_tick_l3 r72 n3 l74 (k75 + 1) m76
  else
   (slices_Sort_int l74).bind fun r85 =>
   if r85.length = l74.length then
   (slices_Compact_int_h0 r85).bind fun r88 =>
   wheel_wheels_tick_l4 r72 m76 r88 FUEL 0 r72.2.fired_
   else none
def wheel_wheels_tick_l1 (a0 : Wheel_wheels) : Nat → Int → Int → Int → List Wheel_timer → List Wheel_timer → List Wheel_timer → List Wheel_timer → List Wheel_timer → List Wheel_timer → List Wheel_timer → List Wheel_timer → List Wheel_timer → List Wheel_timer → List Wheel_timer → List Wheel_timer → List Wheel_timer → List Wheel_timer → List Wheel_timer → List Wheel_timer → List Wheel_timer → List Wheel_timer → List Wheel_timer → List Wheel_timer → List Wheel_timer → List Wheel_timer → List Wheel_timer → List Wheel_timer → List (Int × Int) → List Api_Fired → Option (Wheel_wheels)
 | 0, _, _, _, _, _, _, _, _, _, _, _, _, _, _, _, _, _, _, _, _, _, _, _, _, _, _, _, _, _ => none
 | n1 + 1, x1, x2, x3, l4, l5, l6, l7, l8, l9, l10, l11, l12, l13, l14, l15, l16, l17, l18, l19, l20, l21, l22, l23, l24, l25, l26, l27, m28, l29 =>
  bif (decide ((x1 : Int) > 0)) then
   if (x2 : Int) ≠ 0 then
   bif (((Int.tmod x3 x2) : Int) == 0) then
    if (x2 : Int) ≠ 0 then
    (wheel_wheels_off (⟨x3, (arrOf [(arrOf [l4, l5, l6, l7, l8, l9, l10, l11] []), (arrOf [l12, l13, l14, l15, l16, l17, l18, l19] []), (arrOf [l20, l21, l22, l23, l24, l25, l26, l27] [])] (fun (_ : Nat) => ([] : (List Wheel_timer)))), m28, l29⟩ : Wheel_wheels) x1 (Int.tmod (IntKind.i64.wrap (Int.tdiv x3 x2)) 8)).bind fun r35 =>
    wheel_wheels_tick_l2 r35 (fun (k37 : Nat) (x38 : Int) (l39 : List Wheel_timer) (l40 : List Wheel_timer) (l41 : List Wheel_timer) (l42 : List Wheel_timer) (l43 : List Wheel_timer) (l44 : List Wheel_timer) (l45 : List Wheel_timer) (l46 : List Wheel_timer) (l47 : List Wheel_timer) (l48 : List Wheel_timer) (l49 : List Wheel_timer) (l50 : List Wheel_timer) (l51 : List Wheel_timer) (l52 : List Wheel_timer) (l53 : List Wheel_timer) (l54 : List Wheel_timer) (l55 : List Wheel_timer) (l56 : List Wheel_timer) (l57 : List Wheel_timer) (l58 : List Wheel_timer) (l59 : List Wheel_timer) (l60 : List Wheel_timer) (l61 : List Wheel_timer) (l62 : List Wheel_timer) (m63 : List (Int × Int)) (l64 : List Api_Fired) =>
      wheel_wheels_tick_l1 a0 n1 (IntKind.i64.wrap (x1 - 1)) (IntKind.i64.wrap (Int.tdiv x2 8)) x38 l39 l40 l41 l42 l43 l44 l45 l46 l47 l48 l49 l50 l51 l52 l53 l54 l55 l56 l57 l58 l59 l60 l61 l62 m63 l64
     ) FUEL 0 r35.2.now_ ((r35.2.on_ 0) 0) ((r35.2.on_ 0) 1) ((r35.2.on_ 0) 2) ((r35.2.on_ 0) 3) ((r35.2.on_ 0) 4) ((r35.2.on_ 0) 5) ((r35.2.on_ 0) 6) ((r35.2.on_ 0) 7) ((r35.2.on_ 1) 0) ((r35.2.on_ 1) 1) ((r35.2.on_ 1) 2) ((r35.2.on_ 1) 3) ((r35.2.on_ 1) 4) ((r35.2.on_ 1) 5) ((r35.2.on_ 1) 6) ((r35.2.on_ 1) 7) ((r35.2.on_ 2) 0) ((r35.2.on_ 2) 1) ((r35.2.on_ 2) 2) ((r35.2.on_ 2) 3) ((r35.2.on_ 2) 4) ((r35.2.on_ 2) 5) ((r35.2.on_ 2) 6) ((r35.2.on_ 2) 7) r35.2.places_ r35.2.fired_
    else none
   else
    wheel_wheels_tick_l1 a0 n1 (IntKind.i64.wrap (x1 - 1)) (IntKind.i64.wrap (Int.tdiv x2 8)) x3 l4 l5 l6 l7 l8 l9 l10 l11 l12 l13 l14 l15 l16 l17 l18 l19 l20 l21 l22 l23 l24 l25 l26 l27 m28 l29
   else none
  else
   (wheel_wheels_off (⟨x3, (arrOf [(arrOf [l4, l5, l6, l7, l8, l9, l10, l11] []), (arrOf [l12, l13, l14, l15, l16, l17, l18, l19] []), (arrOf [l20, l21, l22, l23, l24, l25, l26, l27] [])] (fun (_ : Nat) => ([] : (List Wheel_timer)))), m28, l29⟩ : Wheel_wheels) 0 (Int.tmod x3 8)).bind fun r72 =>
   wheel_wheels_tick_l3 r72 FUEL ([] : List Int) 0 r72.2.places_
def wheel_wheels_tick (a0 : Wheel_wheels) : Option (Wheel_wheels) :=
 wheel_wheels_tick_l1 a0 FUEL 2 64 (IntKind.i64.wrap (a0.now_ + 1)) ((a0.on_ 0) 0) ((a0.on_ 0) 1) ((a0.on_ 0) 2) ((a0.on_ 0) 3) ((a0.on_ 0) 4) ((a0.on_ 0) 5) ((a0.on_ 0) 6) ((a0.on_ 0) 7) ((a0.on_ 1) 0) ((a0.on_ 1) 1) ((a0.on_ 1) 2) ((a0.on_ 1) 3) ((a0.on_ 1) 4) ((a0.on_ 1) 5) ((a0.on_ 1) 6) ((a0.on_ 1) 7) ((a0.on_ 2) 0) ((a0.on_ 2) 1) ((a0.on_ 2) 2) ((a0.on_ 2) 3) ((a0.on_ 2) 4) ((a0.on_ 2) 5) ((a0.on_ 2) 6) ((a0.on_ 2) 7) a0.places_ a0.fired_
def wheel_wheels_do_l1 (a0 : Wheel_wheels) (a1 : Api_TimerOp) : Nat → Int → Int → List Wheel_timer → List Wheel_timer → List Wheel_timer → List Wheel_timer → List Wheel_timer → List Wheel_timer → List Wheel_timer → List Wheel_timer → List Wheel_timer → List Wheel_timer → List Wheel_timer → List Wheel_timer → List Wheel_timer → List Wheel_timer → List Wheel_timer → List Wheel_timer → List Wheel_timer → List Wheel_timer → List Wheel_timer → List Wheel_timer → List Wheel_timer → List Wheel_timer → List Wheel_timer → List Wheel_timer → List (Int × Int) → List Api_Fired → Option (Int × Wheel_wheels)
 | 0, _, _, _, _, _, _, _, _, _, _, _, _, _, _, _, _, _, _, _, _, _, _, _, _, _, _, _, _ => none
 | n1 + 1, x16, x17, l18, l19, l20, l21, l22, l23, l24, l25, l26, l27, l28, l29, l30, l31, l32, l33, l34, l35, l36, l37, l38, l39, l40, l41, m42, l43 =>
  bif (decide ((x16 : Int) < a1.Ticks)) then
   (wheel_wheels_tick (⟨x17, (arrOf [(arrOf [l18, l19, l20, l21, l22, l23, l24, l25] []), (arrOf [l26, l27, l28, l29, l30, l31, l32, l33] []), (arrOf [l34, l35, l36, l37, l38, l39, l40, l41] [])] (fun (_ : Nat) => ([] : (List Wheel_timer)))), m42, l43⟩ : Wheel_wheels)).bind fun r45 =>
   wheel_wheels_do_l1 a0 a1 n1 (IntKind.i64.wrap (x16 + 1)) r45.now_ ((r45.on_ 0) 0) ((r45.on_ 0) 1) ((r45.on_ 0) 2) ((r45.on_ 0) 3) ((r45.on_ 0) 4) ((r45.on_ 0) 5) ((r45.on_ 0) 6) ((r45.on_ 0) 7) ((r45.on_ 1) 0) ((r45.on_ 1) 1) ((r45.on_ 1) 2) ((r45.on_ 1) 3) ((r45.on_ 1) 4) ((r45.on_ 1) 5) ((r45.on_ 1) 6) ((r45.on_ 1) 7) ((r45.on_ 2) 0) ((r45.on_ 2) 1) ((r45.on_ 2) 2) ((r45.on_ 2) 3) ((r45.on_ 2) 4) ((r45.on_ 2) 5) ((r45.on_ 2) 6) ((r45.on_ 2) 7) r45.places_ r45.fired_
  else
   some (0, (⟨x17, (arrOf [(arrOf [l18, l19, l20, l21, l22, l23, l24, l25] []), (arrOf [l26, l27, l28, l29, l30, l31, l32, l33] []), (arrOf [l34, l35, l36, l37, l38, l39, l40, l41] [])] (fun (_ : Nat) => ([] : (List Wheel_timer)))), m42, l43⟩ : Wheel_wheels))
def wheel_wheels_do (a0 : Wheel_wheels) (a1 : Api_TimerOp) : Option (Int × Wheel_wheels) :=
 bif ((a1.Kind : Int) == 1) then
  bif ((decide ((a1.Ticks : Int) < 1)) || (decide ((a1.Ticks : Int) > 511))) then
   some (2, a0)
  else
   bif (mget a1.Id a0.places_).isSome then
    some (6, a0)
   else
    (wheel_wheels_put (⟨a0.now_, a0.on_, (mput a1.Id (IntKind.i64.wrap (a0.now_ + a1.Ticks)) a0.places_), a0.fired_⟩ : Wheel_wheels) (⟨(IntKind.i64.wrap (a0.now_ + a1.Ticks)), a1.Id⟩ : Wheel_timer)).bind fun r7 =>
    some (0, r7)
 else
  bif ((a1.Kind : Int) == 2) then
   bif (!((mget a1.Id a0.places_).isSome)) then
    some (3, a0)
   else
    some (0, (⟨a0.now_, a0.on_, (mdelete a1.Id a0.places_), a0.fired_⟩ : Wheel_wheels))
  else
   bif ((a1.Kind : Int) == 3) then
    bif ((decide ((a1.Ticks : Int) < 0)) || (decide ((a1.Ticks : Int) > 2000))) then
     some (2, a0)
    else
     wheel_wheels_do_l1 a0 a1 FUEL 0 a0.now_ ((a0.on_ 0) 0) ((a0.on_ 0) 1) ((a0.on_ 0) 2) ((a0.on_ 0) 3) ((a0.on_ 0) 4) ((a0.on_ 0) 5) ((a0.on_ 0) 6) ((a0.on_ 0) 7) ((a0.on_ 1) 0) ((a0.on_ 1) 1) ((a0.on_ 1) 2) ((a0.on_ 1) 3) ((a0.on_ 1) 4) ((a0.on_ 1) 5) ((a0.on_ 1) 6) ((a0.on_ 1) 7) ((a0.on_ 2) 0) ((a0.on_ 2) 1) ((a0.on_ 2) 2) ((a0.on_ 2) 3) ((a0.on_ 2) 4) ((a0.on_ 2) 5) ((a0.on_ 2) 6) ((a0.on_ 2) 7) a0.places_ a0.fired_
   else
    some (5, a0)
def wheel_Play_l1 (a0 : (List Api_TimerOp)) : Nat → List Int → Nat → Int → List Wheel_timer → List Wheel_timer → List Wheel_timer → List Wheel_timer → List Wheel_timer → List Wheel_timer → List Wheel_timer → List Wheel_timer → List Wheel_timer → List Wheel_timer → List Wheel_timer → List Wheel_timer → List Wheel_timer → List Wheel_timer → List Wheel_timer → List Wheel_timer → List Wheel_timer → List Wheel_timer → List Wheel_timer → List Wheel_timer → List Wheel_timer → List Wheel_timer → List Wheel_timer → List Wheel_timer → List (Int × Int) → List Api_Fired → Option ((List Int) × (List Api_Fired) × Int × Int)
 | 0, _, _, _, _, _, _, _, _, _, _, _, _, _, _, _, _, _, _, _, _, _, _, _, _, _, _, _, _, _ => none
 | n1 + 1, l2, k3, x4, l5, l6, l7, l8, l9, l10, l11, l12, l13, l14, l15, l16, l17, l18, l19, l20, l21, l22, l23, l24, l25, l26, l27, l28, m29, l30 =>
  bif (decide ((((k3 : Nat) : Int) : Int) < ((a0.length : Nat) : Int))) then
   (wheel_wheels_do (⟨x4, (arrOf [(arrOf [l5, l6, l7, l8, l9, l10, l11, l12] []), (arrOf [l13, l14, l15, l16, l17, l18, l19, l20] []), (arrOf [l21, l22, l23, l24, l25, l26, l27, l28] [])] (fun (_ : Nat) => ([] : (List Wheel_timer)))), m29, l30⟩ : Wheel_wheels) (a0.getD k3 (⟨0, 0, 0⟩ : Api_TimerOp))).bind fun r33 =>
   if ((l2).length + ([r33.1]).length + ((l2).length + ([r33.1]).length) / 4 + 192) * 8 ≤ 281474976710656 ∧ (l2).length + ([r33.1]).length ≤ 140737488355328 then
   wheel_Play_l1 a0 n1 (l2 ++ [r33.1]) (k3 + 1) r33.2.now_ ((r33.2.on_ 0) 0) ((r33.2.on_ 0) 1) ((r33.2.on_ 0) 2) ((r33.2.on_ 0) 3) ((r33.2.on_ 0) 4) ((r33.2.on_ 0) 5) ((r33.2.on_ 0) 6) ((r33.2.on_ 0) 7) ((r33.2.on_ 1) 0) ((r33.2.on_ 1) 1) ((r33.2.on_ 1) 2) ((r33.2.on_ 1) 3) ((r33.2.on_ 1) 4) ((r33.2.on_ 1) 5) ((r33.2.on_ 1) 6) ((r33.2.on_ 1) 7) ((r33.2.on_ 2) 0) ((r33.2.on_ 2) 1) ((r33.2.on_ 2) 2) ((r33.2.on_ 2) 3) ((r33.2.on_ 2) 4) ((r33.2.on_ 2) 5) ((r33.2.on_ 2) 6) ((r33.2.on_ 2) 7) r33.2.places_ r33.2.fired_
   else none
  else
   some (l2, l30, ((m29.length : Nat) : Int), 0)
def wheel_Play (a0 : (List Api_TimerOp)) : Option ((List Int) × (List Api_Fired) × Int × Int) :=
 bif (decide ((((a0.length : Nat) : Int) : Int) > 400)) then
  some (([] : List Int), ([] : List Api_Fired), 0, 2)
 else
  wheel_Play_l1 a0 FUEL ([] : List Int) 0 0 ([] : List Wheel_timer) ([] : List Wheel_timer) ([] : List Wheel_timer) ([] : List Wheel_timer) ([] : List Wheel_timer) ([] : List Wheel_timer) ([] : List Wheel_timer) ([] : List Wheel_timer) ([] : List Wheel_timer) ([] : List Wheel_timer) ([] : List Wheel_timer) ([] : List Wheel_timer) ([] : List Wheel_timer) ([] : List Wheel_timer) ([] : List Wheel_timer) ([] : List Wheel_timer) ([] : List Wheel_timer) ([] : List Wheel_timer) ([] : List Wheel_timer) ([] : List Wheel_timer) ([] : List Wheel_timer) ([] : List Wheel_timer) ([] : List Wheel_timer) ([] : List Wheel_timer) ([] : List (Int × Int)) ([] : List Api_Fired)
def slices_Equal_api_Fired_l1 (a0 : (List Api_Fired)) (a1 : (List Api_Fired)) : Nat → Nat → Option (Bool)
 | 0, _ => none
 | n1 + 1, k2 =>
  bif (decide ((((k2 : Nat) : Int) : Int) < ((a0.length : Nat) : Int))) then
   if 0 ≤ (((k2 : Nat) : Int) : Int) ∧ ((k2 : Nat) : Int) < ((a1.length : Nat) : Int) then
   bif (!((((a0.getD k2 (⟨0, 0⟩ : Api_Fired)).At : Int) == ((a1.getD k2 (⟨0, 0⟩ : Api_Fired)).At)) && ((((a0.getD k2 (⟨0, 0⟩ : Api_Fired)).Id : Int) == ((a1.getD k2 (⟨0, 0⟩ : Api_Fired)).Id)) && true))) then
    some false
   else
    slices_Equal_api_Fired_l1 a0 a1 n1 (k2 + 1)
   else none
  else
   some true
def slices_Equal_api_Fired (a0 : (List Api_Fired)) (a1 : (List Api_Fired)) : Option (Bool) :=
 bif ((((a0.length : Nat) : Int) : Int) != ((a1.length : Nat) : Int)) then
  some false
 else
  slices_Equal_api_Fired_l1 a0 a1 FUEL 0
def keep_alive11 : Option (Bool) :=
 (wheel_Play [(⟨1, 7, 100⟩ : Api_TimerOp), (⟨1, 3, 9⟩ : Api_TimerOp), (⟨3, 0, 9⟩ : Api_TimerOp), (⟨1, 4, 91⟩ : Api_TimerOp), (⟨3, 0, 95⟩ : Api_TimerOp), (⟨1, 4, 5⟩ : Api_TimerOp)]).bind fun r1 =>
 (bif ((((r1.2.2.2 : Int) == 0) && ((((r1.1.length : Nat) : Int) : Int) == 6)) && ((r1.2.2.1 : Int) == 1)) then slices_Equal_api_Fired r1.2.1 [(⟨9, 3⟩ : Api_Fired), (⟨100, 4⟩ : Api_Fired), (⟨100, 7⟩ : Api_Fired)] else some false).bind fun r8 =>
 some (((((r1.2.2.2 : Int) == 0) && ((((r1.1.length : Nat) : Int) : Int) == 6)) && ((r1.2.2.1 : Int) == 1)) && r8)
def keep_WheelParts_l1 (a0 : (List Api_TimerOp)) : Nat → List Api_TimerOp → Nat → Option (Bool)
 | 0, _, _ => none
 | n1 + 1, l4, k5 =>
  bif (decide ((((k5 : Nat) : Int) : Int) < ((a0.length : Nat) : Int))) then
   bif ((((((a0.getD k5 (⟨0, 0, 0⟩ : Api_TimerOp)).Kind : Int) == 3) && (decide (((a0.getD k5 (⟨0, 0, 0⟩ : Api_TimerOp)).Ticks : Int) > 1))) && (decide (((a0.getD k5 (⟨0, 0, 0⟩ : Api_TimerOp)).Ticks : Int) ≤ 2000))) && (decide ((((l4.length : Nat) : Int) : Int) < 360))) then
    if ((l4).length + ([(⟨3, 0, 1⟩ : Api_TimerOp), (⟨3, 0, (IntKind.i64.wrap (((a0.getD k5 (⟨0, 0, 0⟩ : Api_TimerOp)).Ticks) - 1))⟩ : Api_TimerOp)]).length + ((l4).length + ([(⟨3, 0, 1⟩ : Api_TimerOp), (⟨3, 0, (IntKind.i64.wrap (((a0.getD k5 (⟨0, 0, 0⟩ : Api_TimerOp)).Ticks) - 1))⟩ : Api_TimerOp)]).length) / 4 + 192) * 24 ≤ 281474976710656 ∧ (l4).length + ([(⟨3, 0, 1⟩ : Api_TimerOp), (⟨3, 0, (IntKind.i64.wrap (((a0.getD k5 (⟨0, 0, 0⟩ : Api_TimerOp)).Ticks) - 1))⟩ : Api_TimerOp)]).length ≤ 140737488355328 then
    keep_WheelParts_l1 a0 n1 (l4 ++ [(⟨3, 0, 1⟩ : Api_TimerOp), (⟨3, 0, (IntKind.i64.wrap (((a0.getD k5 (⟨0, 0, 0⟩ : Api_TimerOp)).Ticks) - 1))⟩ : Api_TimerOp)]) (k5 + 1)
    else none
   else
    if ((l4).length + ([(a0.getD k5 (⟨0, 0, 0⟩ : Api_TimerOp))]).length + ((l4).length + ([(a0.getD k5 (⟨0, 0, 0⟩ : Api_TimerOp))]).length) / 4 + 192) * 24 ≤ 281474976710656 ∧ (l4).length + ([(a0.getD k5 (⟨0, 0, 0⟩ : Api_TimerOp))]).length ≤ 140737488355328 then
    keep_WheelParts_l1 a0 n1 (l4 ++ [(a0.getD k5 (⟨0, 0, 0⟩ : Api_TimerOp))]) (k5 + 1)
    else none
  else
   (wheel_Play a0).bind fun r20 =>
   (wheel_Play l4).bind fun r22 =>
   (bif ((!(((r20.2.2.2 : Int) != 0) || ((r22.2.2.2 : Int) != 0))) && ((r20.2.2.1 : Int) == r22.2.2.1)) then slices_Equal_api_Fired r20.2.1 r22.2.1 else some false).bind fun r29 =>
   some ((((r20.2.2.2 : Int) != 0) || ((r22.2.2.2 : Int) != 0)) || (((r20.2.2.1 : Int) == r22.2.2.1) && r29))
def keep_WheelParts (a0 : (List Api_TimerOp)) : Option (Bool) :=
 (keep_alive11).bind fun r1 =>
 bif (!r1) then
  some false
 else
  keep_WheelParts_l1 a0 FUEL ([] : List Api_TimerOp) 0
end Go.Proofs.Ytfnmmlcmjmepjaa

