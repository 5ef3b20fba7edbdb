/- What is read of the arguments: printed by program. -/
import Derived.Test.YtfnhanmdfbdimaaQ9W0
import Derived.Test.YtfnhanmdfbdimaaAbUa
import Derived.Test.YtfnhanmdfbdimaaAbZ
import Derived.ProofKit
set_option linter.unusedSimpArgs false
set_option linter.unusedVariables false
namespace Go.Proofs.Ytfnhanmdfbdimaa
open Go Go.Ab
open Go.ChangeShapes Go.WideShapes Go.ChangeAt Go.RowKit
theorem own : ownKnob Try.prog.godebug = none := by kernel_rfl
theorem laidOut : laidOutB Try.prog = true := by kernel_rfl
theorem cells3 : Try.prog.cellsOf 3 = 1 := by kernel_rfl
theorem cells35 : Try.prog.cellsOf 35 = 2 := by kernel_rfl
theorem bytes35 : Try.prog.bytesOf 35 = 16 := by kernel_rfl
theorem R3 : Reads Try.prog 3 Int (fun x => [.raw (.int .i64 x)]) (fun x => (-9223372036854775808 ≤ x ∧ x ≤ 9223372036854775807)) := reads_i64 Try.underlying3
theorem R35 : Reads Try.prog 35 Api_NicOp (fun x => [.raw (.int .i64 x.Kind), .raw (.int .i64 x.N)]) (fun x => (Ok_Api_NicOp x)) := (reads_struct Try.underlying35 (readsFs_cons R3 rfl cells3 rfl (readsFs_cons R3 rfl cells3 rfl readsFs_nil)) (by kernel_rfl)).map (fun x => ⟨x.1, x.2.1⟩) _ _ (fun _ => rfl) (fun _ h => ⟨h.1, h.2.1⟩)
theorem R22 : Reads Try.prog 22 (List Api_NicOp) (fun x => [(E35.ro x)]) (fun x => (x.length * 16 ≤ 140737488351232 ∧ ∀ y ∈ x, (Ok_Api_NicOp y))) := reads_list E35 Try.underlying22 R35 rfl cells35 (by decide) bytes35 (by decide)
end Go.Proofs.Ytfnhanmdfbdimaa
