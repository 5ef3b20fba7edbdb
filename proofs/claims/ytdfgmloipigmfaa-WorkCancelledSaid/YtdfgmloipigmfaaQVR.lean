/- What is read of the arguments: printed by program. -/
import Derived.Test.YtdfgmloipigmfaaQVW0
import Derived.Test.YtdfgmloipigmfaaAbUa
import Derived.Test.YtdfgmloipigmfaaAbZ
import Derived.ProofKit
set_option linter.unusedSimpArgs false
set_option linter.unusedVariables false
namespace Go.Proofs.Ytdfgmloipigmfaa
open Go Go.Ab
open Go.ChangeShapes Go.WideShapes Go.ChangeAt Go.RowKit
theorem own : ownKnob Try.prog.godebug = none := by kernel_rfl
theorem laidOut : laidOutB Try.prog = true := by kernel_rfl
theorem cells3 : Try.prog.cellsOf 3 = 1 := by kernel_rfl
theorem cells56 : Try.prog.cellsOf 56 = 2 := by kernel_rfl
theorem bytes56 : Try.prog.bytesOf 56 = 16 := by kernel_rfl
theorem cells40 : Try.prog.cellsOf 40 = 2 := by kernel_rfl
theorem bytes40 : Try.prog.bytesOf 40 = 16 := by kernel_rfl
theorem R3 : Reads Try.prog 3 Int (fun x => [.raw (.int .i64 x)]) (fun x => (-9223372036854775808 ≤ x ∧ x ≤ 9223372036854775807)) := reads_i64 Try.underlying3
theorem R56 : Reads Try.prog 56 Api_Handler (fun x => [.raw (.int .i64 x.Says), .raw (.int .i64 x.Left)]) (fun x => (Ok_Api_Handler x)) := (reads_struct Try.underlying56 (readsFs_cons R3 rfl cells3 rfl (readsFs_cons R3 rfl cells3 rfl readsFs_nil)) (by kernel_rfl)).map (fun x => ⟨x.1, x.2.1⟩) _ _ (fun _ => rfl) (fun _ h => by obtain ⟨h0, h1, -⟩ := h; exact ⟨h0, h1⟩)
theorem R53 : Reads Try.prog 53 (List Api_Handler) (fun x => [(E56.ro x)]) (fun x => (x.length * 16 ≤ 140737488351232 ∧ ∀ y ∈ x, (Ok_Api_Handler y))) := reads_list E56 Try.underlying53 R56 rfl cells56 (by decide) bytes56 (by decide)
theorem R40 : Reads Try.prog 40 Api_WorkOp (fun x => [.raw (.int .i64 x.Kind), .raw (.int .i64 x.Item)]) (fun x => (Ok_Api_WorkOp x)) := (reads_struct Try.underlying40 (readsFs_cons R3 rfl cells3 rfl (readsFs_cons R3 rfl cells3 rfl readsFs_nil)) (by kernel_rfl)).map (fun x => ⟨x.1, x.2.1⟩) _ _ (fun _ => rfl) (fun _ h => by obtain ⟨h0, h1, -⟩ := h; exact ⟨h0, h1⟩)
theorem R35 : Reads Try.prog 35 (List Api_WorkOp) (fun x => [(E40.ro x)]) (fun x => (x.length * 16 ≤ 140737488351232 ∧ ∀ y ∈ x, (Ok_Api_WorkOp y))) := reads_list E40 Try.underlying35 R40 rfl cells40 (by decide) bytes40 (by decide)
end Go.Proofs.Ytdfgmloipigmfaa
