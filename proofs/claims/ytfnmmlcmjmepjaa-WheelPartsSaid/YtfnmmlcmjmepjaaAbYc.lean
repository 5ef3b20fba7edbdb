import Derived.Test.YtfnmmlcmjmepjaaAbYh
set_option linter.unusedVariables false
namespace Go.Ab
open Go.RowKit
variable {P : Program} {T : Tab} {α : Type}
def fl (X : Nat → Nat → List α) (q : Nat) : Nat → Nat → List (List α)
 | _, 0 => []
 | j, n + 1 => X (j / q) (j % q) :: fl X q (j + 1) n
def rA (s : Nat) : Nat → List (List α) → List AV
 | _, [] => []
 | i, l :: r => .row i s 0 l.length :: rA s (i + 1) r
def rH (E : Elem α) (e s : Nat) : Nat → List (List α) → List (Nat × Blk)
 | _, [] => []
 | i, l :: r => (i, .row e s (E.cR l)) :: rH E e s (i + 1) r
def rB (E : Elem α) (e s : Nat) : List (List α) → List Blk
 | [] => []
 | l :: r => .row e s (E.cR l) :: rB E e s r
def lens : List (List α) → List Nat
 | [] => []
 | l :: r => l.length :: lens r
def pL : List Nat → List Prop
 | [] => []
 | n :: r => (0 = 0) :: (n = n) :: pL r
def pB (E : Elem α) : List (List α) → List Prop
 | [] => []
 | l :: r => (E.cR l = E.cR l) :: AllPv (E.cR l) :: pB E r
def rI : Nat → Nat → Nat → List (Nat × Option Nat)
 | _, _, 0 => []
 | i, j, n + 1 => (i, some j) :: rI (i + 1) (j + 1) n
theorem allP_app {a b : List Prop} (h : allP a) (k : allP b) : allP (a ++ b) := (allP_append).2 ⟨h, k⟩
theorem fl_length (X : Nat → Nat → List α) (q : Nat) : ∀ (n j : Nat), (fl X q j n).length = n
 | 0, _ => rfl
 | n + 1, j => by rw [fl, List.length_cons, fl_length X q n]
theorem rA_length (s : Nat) : ∀ (ls : List (List α)) (i : Nat), (rA s i ls).length = ls.length
 | [], _ => rfl
 | l :: r, i => by rw [rA, List.length_cons, rA_length s r, List.length_cons]
theorem pL_ok : ∀ ls : List Nat, allP (pL ls)
 | [] => trivial
 | _ :: r => ⟨rfl, rfl, pL_ok r⟩
theorem pB_ok (E : Elem α) : ∀ ls : List (List α), allP (pB E ls)
 | [] => trivial
 | l :: r => ⟨rfl, E.cR_pv l, pB_ok E r⟩
theorem rB_bald {E : Elem α} (hE : E.Raw) (e s : Nat) : ∀ ls : List (List α), ∀ b ∈ rB E e s ls, AV.baldL b.all = true
 | [], b, h => by cases h
 | l :: r, b, h => by
  rcases List.mem_cons.1 h with rfl | h
  ·exact Elem.cR_bald hE l
  ·exact rB_bald hE e s r b h
theorem bN : ∀ b ∈ ([] : List Blk), AV.baldL b.all = true := fun _ h => (by cases h)
theorem bC {b : Blk} {r : List Blk} (h : AV.baldL b.all = true) (k : ∀ x ∈ r, AV.baldL x.all = true) : ∀ x ∈ b :: r, AV.baldL x.all = true := by
 intro x hx
 rcases List.mem_cons.1 hx with rfl | hx
 ·exact h
 ·exact k x hx
theorem bA {l r : List Blk} (h : ∀ x ∈ l, AV.baldL x.all = true) (k : ∀ x ∈ r, AV.baldL x.all = true) : ∀ x ∈ l ++ r, AV.baldL x.all = true := by
 intro x hx
 rcases List.mem_append.1 hx with hx | hx
 ·exact h x hx
 ·exact k x hx
end Go.Ab

