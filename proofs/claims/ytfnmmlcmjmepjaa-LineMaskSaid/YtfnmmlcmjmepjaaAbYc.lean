import Derived.Test.YtfnmmlcmjmepjaaAbYh
set_option linter.unusedVariables false
namespace Go.Ab
open Go.RowKit
variable {P : Program} {T : Tab} {α : Type}
def fl (X : Nat → Nat → List α) (q : Nat) : Nat → Nat → List (List α)
 | _, 0 => []
 | j, n + 1 => X (j / q) (j % q) :: fl X q (j + 1) n
def rA (s : Nat) : Nat → List (List α) → List AV
 | _, [] => []
 | i, l :: r => .row i s 0 l.length :: rA s (i + 1) r
def rB (E : Elem α) (e s : Nat) : List (List α) → List Blk
 | [] => []
 | l :: r => .row e s (E.cR l) :: rB E e s r
end Go.Ab

