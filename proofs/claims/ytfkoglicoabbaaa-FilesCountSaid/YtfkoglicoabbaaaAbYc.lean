import Derived.Test.YtfkoglicoabbaaaAbYh
set_option linter.unusedVariables false
namespace Go.Ab
open Go.RowKit
variable {P : Program} {T : Tab} {α : Type}
def fl (X : Nat → Nat → List α) (q : Nat) : Nat → Nat → List (List α)
 | _, 0 => []
 | j, n + 1 => X (j / q) (j % q) :: fl X q (j + 1) n
def rA (s : Nat) : Nat → List (List α) → List AV
 | _, [] => []
 | i, l :: r => .row i s 0 l.length :: rA s (i + 1) r
def pL : List Nat → List Prop
 | [] => []
 | n :: r => (0 = 0) :: (n = n) :: pL r
def rI : Nat → Nat → Nat → List (Nat × Option Nat)
 | _, _, 0 => []
 | i, j, n + 1 => (i, some j) :: rI (i + 1) (j + 1) n
theorem allP_app {a b : List Prop} (h : allP a) (k : allP b) : allP (a ++ b) := (allP_append).2 ⟨h, k⟩
theorem fl_length (X : Nat → Nat → List α) (q : Nat) : ∀ (n j : Nat), (fl X q j n).length = n
 | 0, _ => rfl
 | n + 1, j => by rw [fl, List.length_cons, fl_length X q n]
theorem rA_length (s : Nat) : ∀ (ls : List (List α)) (i : Nat), (rA s i ls).length = ls.length
 | [], _ => rfl
 | l :: r, i => by rw [rA, List.length_cons, rA_length s r, List.length_cons]
theorem pL_ok : ∀ ls : List Nat, allP (pL ls)
 | [] => trivial
 | _ :: r => ⟨rfl, rfl, pL_ok r⟩
end Go.Ab

