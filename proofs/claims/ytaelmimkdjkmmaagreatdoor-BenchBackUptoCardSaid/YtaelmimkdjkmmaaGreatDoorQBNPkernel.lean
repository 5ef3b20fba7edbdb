import Derived.Test.YtaelmimkdjkmmaaGreatDoorQBNK
set_option linter.unusedSimpArgs false
set_option linter.unusedVariables false
namespace Go.Proofs.YtaelmimkdjkmmaaGreatDoor
open Go Go.Ab
structure CS where
 asked : Bool
 served : Bool
 saves : Nat
def b2i (b : Bool) : Int := if b then 1 else 0
def LL (a s : Bool) : Api_Local := ⟨arrOf [0, b2i a, 0, 0] 0, arrOf [0, b2i s, 0, 0] 0, 0⟩
def NS : Nat → Api_Core
 | 0 => ⟨true, []⟩
 | m + 1 => ⟨false, ⟨true, false⟩ :: List.replicate m ⟨false, false⟩⟩
def NI : Api_Core := ⟨false, [⟨true, true⟩]⟩
def CC (c : CS) : Kernel_core := ⟨LL c.asked c.served, if c.served then NI else NS c.saves, c.served⟩
def ZC : Kernel_core := (⟨(⟨(fun (_ : Nat) => (0 : Int)), (fun (_ : Nat) => (0 : Int)), 0⟩ : Api_Local), (⟨false, []⟩ : Api_Core), false⟩ : Kernel_core)
structure KS where
 dev : List Int
 lost : Int
 pc : Nat
 up : Bool
 sent : Bool
 cs : Nat → CS
 fet : List Int
 tty : Api_Tty
 taken : Int
def cores (cs : Nat → CS) : Nat → Kernel_core := arrOf [CC (cs 0), CC (cs 1)] ZC
structure Inv (s : KS) : Prop where
 dev : s.dev.length ≤ 16
 lost : 0 ≤ s.lost ∧ s.lost ≤ 1099511627776
 pc : s.pc < 2
 up : s.up = decide (0 < s.dev.length)
 sent : s.up = true → s.sent = true
 fly : s.sent = ((s.cs 0).asked || (s.cs 0).served || (s.cs 1).asked || (s.cs 1).served)
 one0 : (s.cs 0).asked = true → (s.cs 0).served = false ∧ (s.cs 1).asked = false ∧ (s.cs 1).served = false
 one1 : (s.cs 1).asked = true → (s.cs 1).served = false ∧ (s.cs 0).asked = false ∧ (s.cs 0).served = false
 one2 : (s.cs 0).served = true → (s.cs 1).served = false
 saves : ∀ k, k < 2 → (s.cs k).saves ≤ 400 ∧ ((s.cs k).served = true → (s.cs k).saves = 0)
abbrev T := Api_Tty
abbrev TZ : T := ⟨[], []⟩
def RightT (t : T) : Prop := t.Edit.length ≤ 64 ∧ t.Lines.length ≤ 400 ∧ ∀ l ∈ t.Lines, l.length ≤ 65
instance (t : T) : Decidable (RightT t) := by unfold RightT; infer_instance
structure Pre (s : KS) : Prop where
 dev : s.dev.length ≤ 16
 lost : 0 ≤ s.lost ∧ s.lost ≤ 1099511627776
 pc : s.pc < 2
 sent : s.up = true → s.sent = true
 fly : s.sent = ((s.cs 0).asked || (s.cs 0).served || (s.cs 1).asked || (s.cs 1).served)
 one0 : (s.cs 0).asked = true → (s.cs 0).served = false ∧ (s.cs 1).asked = false ∧ (s.cs 1).served = false
 one1 : (s.cs 1).asked = true → (s.cs 1).served = false ∧ (s.cs 0).asked = false ∧ (s.cs 0).served = false
 one2 : (s.cs 0).served = true → (s.cs 1).served = false
 saves : ∀ k, k < 2 → (s.cs k).saves ≤ 400 ∧ ((s.cs k).served = true → (s.cs k).saves = 0)
theorem Inv.pre {s : KS} (h : Inv s) : Pre s := ⟨h.dev, h.lost, h.pc, h.sent, h.fly, h.one0, h.one1, h.one2, h.saves⟩
def tot (s : KS) : Nat := s.dev.length + s.fet.length + (s.cs 0).saves + (s.cs 1).saves
structure Good (s : KS) (n : Nat) : Prop where
 inv : Inv s
 right : RightT s.tty
 tot : tot s ≤ n
 taken : 0 ≤ s.taken ∧ s.taken ≤ n
end Go.Proofs.YtaelmimkdjkmmaaGreatDoor
