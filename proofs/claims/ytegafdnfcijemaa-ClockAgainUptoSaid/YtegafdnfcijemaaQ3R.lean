/- What is read of the arguments: printed by program. -/
import Derived.Test.YtegafdnfcijemaaQ3W0
import Derived.Test.YtegafdnfcijemaaAbZu
import Derived.ProofKit
set_option linter.unusedSimpArgs false
set_option linter.unusedVariables false
namespace Go.Proofs.Ytegafdnfcijemaa
open Go Go.Ab
open Go.ChangeShapes Go.WideShapes Go.ChangeAt Go.RowKit
theorem own : ownKnob Try.prog.godebug = none := by kernel_rfl
theorem laidOut : laidOutB Try.prog = true := by kernel_rfl
theorem cells3 : Try.prog.cellsOf 3 = 1 := by kernel_rfl
theorem bytes3 : Try.prog.bytesOf 3 = 8 := by kernel_rfl
theorem RU3 : ReadsU Try.prog 3 Int (fun x => [.raw (.int .i64 x)]) (fun x => (-9223372036854775808 ≤ x ∧ x ≤ 9223372036854775807)) := readsU_i64 Try.underlying3
theorem RU33 : ReadsU Try.prog 33 (List Int) (fun x => [(E3.ro x)]) (fun x => (x.length ≤ 1048576 ∧ ∀ y ∈ x, (-9223372036854775808 ≤ y ∧ y ≤ 9223372036854775807))) := readsU_list E3 Try.underlying33 RU3 rfl cells3 (by decide) bytes3 (by decide)
end Go.Proofs.Ytegafdnfcijemaa
