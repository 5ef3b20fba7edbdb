import Derived.Test.YtfnmmlcmjmepjaaAbYm
import Derived.Lib.AppendZeros
import Derived.Lib.Walk
import Derived.Lib.SliceRun
set_option linter.unusedVariables false
set_option linter.unusedSimpArgs false
namespace Go.Ab
open Go.RowKit Go.Lib
variable {P : Program} {T : Tab} {α : Type}
def cpL {α : Type} (xs : List α) (off m : Nat) (ys : List α) : List α := xs.take off ++ ys.take m ++ xs.drop (off + m)
@[simp] theorem cpL_length {α : Type} (xs : List α) (off m : Nat) (ys : List α) : (cpL xs off m ys).length = min off xs.length + min m ys.length + (xs.length - (off + m)) := by
 simp [cpL]; omega
end Go.Ab

