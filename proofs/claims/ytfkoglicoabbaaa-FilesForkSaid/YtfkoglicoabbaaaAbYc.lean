import Derived.Test.YtfkoglicoabbaaaAbYh
set_option linter.unusedVariables false
namespace Go.Ab
open Go.RowKit
variable {P : Program} {T : Tab} {α : Type}
def fl (X : Nat → Nat → List α) (q : Nat) : Nat → Nat → List (List α)
 | _, 0 => []
 | j, n + 1 => X (j / q) (j % q) :: fl X q (j + 1) n
def rA (s : Nat) : Nat → List (List α) → List AV
 | _, [] => []
 | i, l :: r => .row i s 0 l.length :: rA s (i + 1) r
theorem fl_length (X : Nat → Nat → List α) (q : Nat) : ∀ (n j : Nat), (fl X q j n).length = n
 | 0, _ => rfl
 | n + 1, j => by rw [fl, List.length_cons, fl_length X q n]
theorem rA_length (s : Nat) : ∀ (ls : List (List α)) (i : Nat), (rA s i ls).length = ls.length
 | [], _ => rfl
 | l :: r, i => by rw [rA, List.length_cons, rA_length s r, List.length_cons]
end Go.Ab

