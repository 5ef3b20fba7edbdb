import Derived.Test.YtfnmmlcmjmepjaaQUAW2
import Derived.Test.YtfnmmlcmjmepjaaAbUa
import Derived.Test.YtfnmmlcmjmepjaaAbZ
import Derived.ProofKit
set_option linter.unusedSimpArgs false
set_option linter.unusedVariables false
namespace Go.Proofs.Ytfnmmlcmjmepjaa
open Go Go.Ab
open Go.ChangeShapes Go.WideShapes Go.ChangeAt Go.RowKit
theorem own : ownKnob Try.prog.godebug = none := by kernel_rfl
theorem laidOut : laidOutB Try.prog = true := by kernel_rfl
theorem cells3 : Try.prog.cellsOf 3 = 1 := by kernel_rfl
theorem cells28 : Try.prog.cellsOf 28 = 2 := by kernel_rfl
theorem bytes28 : Try.prog.bytesOf 28 = 16 := by kernel_rfl
theorem cells4 : Try.prog.cellsOf 4 = 1 := by kernel_rfl
theorem cells35 : Try.prog.cellsOf 35 = 7 := by kernel_rfl
theorem bytes35 : Try.prog.bytesOf 35 = 24 := by kernel_rfl
theorem R3 : Reads Try.prog 3 Int (fun x => [.raw (.int .i64 x)]) (fun x => (-9223372036854775808 ≤ x ∧ x ≤ 9223372036854775807)) := reads_i64 Try.underlying3
theorem R28 : Reads Try.prog 28 Api_PinOp (fun x => [.raw (.int .i64 x.Kind), .raw (.int .i64 x.Pin)]) (fun x => (Ok_Api_PinOp x)) := (reads_struct Try.underlying28 (readsFs_cons R3 rfl cells3 rfl (readsFs_cons R3 rfl cells3 rfl readsFs_nil)) (by kernel_rfl)).map (fun x => ⟨x.1, x.2.1⟩) _ _ (fun _ => rfl) (fun _ h => by obtain ⟨h0, h1, -⟩ := h; exact ⟨h0, h1⟩)
theorem R23 : Reads Try.prog 23 (List Api_PinOp) (fun x => [(E28.ro x)]) (fun x => (x.length * 16 ≤ 140737488351232 ∧ ∀ y ∈ x, (Ok_Api_PinOp y))) := reads_list E28 Try.underlying23 R28 rfl cells28 (by decide) bytes28 (by decide)
theorem R4 : Reads Try.prog 4 Bool (fun x => [.raw (.bool x)]) (fun x => True) := reads_bool Try.underlying4
theorem R35 : Reads Try.prog 35 Api_Pin (fun x => [.raw (.int .i64 x.Core), .raw (.int .i64 x.Vec), .raw (.bool x.Level), .raw (.bool x.Masked), .raw (.bool x.Up), .raw (.bool x.Kept), .raw (.bool x.Sent)]) (fun x => (Ok_Api_Pin x)) := (reads_struct Try.underlying35 (readsFs_cons R3 rfl cells3 rfl (readsFs_cons R3 rfl cells3 rfl (readsFs_cons R4 rfl cells4 rfl (readsFs_cons R4 rfl cells4 rfl (readsFs_cons R4 rfl cells4 rfl (readsFs_cons R4 rfl cells4 rfl (readsFs_cons R4 rfl cells4 rfl readsFs_nil))))))) (by kernel_rfl)).map (fun x => ⟨x.1, x.2.1, x.2.2.1, x.2.2.2.1, x.2.2.2.2.1, x.2.2.2.2.2.1, x.2.2.2.2.2.2.1⟩) _ _ (fun _ => rfl) (fun _ h => by obtain ⟨h0, h1, h2, h3, h4, h5, h6, -⟩ := h; exact ⟨h0, h1, h2, h3, h4, h5, h6⟩)
theorem R22 : Reads Try.prog 22 (List Api_Pin) (fun x => [(E35.ro x)]) (fun x => (x.length * 24 ≤ 140737488351232 ∧ ∀ y ∈ x, (Ok_Api_Pin y))) := reads_list E35 Try.underlying22 R35 rfl cells35 (by decide) bytes35 (by decide)
end Go.Proofs.Ytfnmmlcmjmepjaa

