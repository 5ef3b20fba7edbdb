import Derived.Test.YtfnmmlcmjmepjaaAbYh
set_option linter.unusedVariables false
namespace Go.Ab
open Go.RowKit
variable {P : Program} {T : Tab} {α : Type}
def pL : List Nat → List Prop
 | [] => []
 | n :: r => (0 = 0) :: (n = n) :: pL r
def rI : Nat → Nat → Nat → List (Nat × Option Nat)
 | _, _, 0 => []
 | i, j, n + 1 => (i, some j) :: rI (i + 1) (j + 1) n
theorem allP_app {a b : List Prop} (h : allP a) (k : allP b) : allP (a ++ b) := (allP_append).2 ⟨h, k⟩
theorem pL_ok : ∀ ls : List Nat, allP (pL ls)
 | [] => trivial
 | _ :: r => ⟨rfl, rfl, pL_ok r⟩
end Go.Ab

