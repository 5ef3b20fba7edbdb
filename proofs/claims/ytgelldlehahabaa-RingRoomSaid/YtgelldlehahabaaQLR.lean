/- What is read of the arguments: printed by program. -/
import Derived.Test.YtgelldlehahabaaQLW0
import Derived.Test.YtgelldlehahabaaAbUa
import Derived.Test.YtgelldlehahabaaAbZ
import Derived.ProofKit
set_option linter.unusedSimpArgs false
set_option linter.unusedVariables false
namespace Go.Proofs.Ytgelldlehahabaa
open Go Go.Ab
open Go.ChangeShapes Go.WideShapes Go.ChangeAt Go.RowKit
theorem own : ownKnob Try.prog.godebug = none := by kernel_rfl
theorem laidOut : laidOutB Try.prog = true := by kernel_rfl
theorem R3 : Reads Try.prog 3 Int (fun x => [.raw (.int .i64 x)]) (fun x => (-9223372036854775808 ≤ x ∧ x ≤ 9223372036854775807)) := reads_i64 Try.underlying3
end Go.Proofs.Ytgelldlehahabaa
