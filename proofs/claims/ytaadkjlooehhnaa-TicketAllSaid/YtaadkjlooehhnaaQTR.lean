/- What is read of the arguments: printed by program. -/
import Derived.Test.YtaadkjlooehhnaaQTW0
import Derived.Test.YtaadkjlooehhnaaAbUa
import Derived.Test.YtaadkjlooehhnaaAbZ
import Derived.ProofKit
set_option linter.unusedSimpArgs false
set_option linter.unusedVariables false
namespace Go.Proofs.Ytaadkjlooehhnaa
open Go Go.Ab
open Go.ChangeShapes Go.WideShapes Go.ChangeAt Go.RowKit
theorem own : ownKnob Try.prog.godebug = none := by kernel_rfl
theorem laidOut : laidOutB Try.prog = true := by kernel_rfl
theorem cells3 : Try.prog.cellsOf 3 = 1 := by kernel_rfl
theorem cells50 : Try.prog.cellsOf 50 = 2 := by kernel_rfl
theorem bytes50 : Try.prog.bytesOf 50 = 16 := by kernel_rfl
theorem R3 : Reads Try.prog 3 Int (fun x => [.raw (.int .i64 x)]) (fun x => (-9223372036854775808 ≤ x ∧ x ≤ 9223372036854775807)) := reads_i64 Try.underlying3
theorem R50 : Reads Try.prog 50 Api_LockOp (fun x => [.raw (.int .i64 x.Kind), .raw (.int .i64 x.Core)]) (fun x => (Ok_Api_LockOp x)) := (reads_struct Try.underlying50 (readsFs_cons R3 rfl cells3 rfl (readsFs_cons R3 rfl cells3 rfl readsFs_nil)) (by kernel_rfl)).map (fun x => ⟨x.1, x.2.1⟩) _ _ (fun _ => rfl) (fun _ h => ⟨h.1, h.2.1⟩)
theorem R55 : Reads Try.prog 55 (List Api_LockOp) (fun x => [(E50.ro x)]) (fun x => (x.length * 16 ≤ 140737488351232 ∧ ∀ y ∈ x, (Ok_Api_LockOp y))) := reads_list E50 Try.underlying55 R50 rfl cells50 (by decide) bytes50 (by decide)
end Go.Proofs.Ytaadkjlooehhnaa
