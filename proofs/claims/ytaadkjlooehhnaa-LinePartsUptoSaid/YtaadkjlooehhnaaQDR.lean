/- What is read of the arguments: printed by program. -/
import Derived.Test.YtaadkjlooehhnaaQDW2
import Derived.Test.YtaadkjlooehhnaaAbUa
import Derived.Test.YtaadkjlooehhnaaAbZu
import Derived.ProofKit
set_option linter.unusedSimpArgs false
set_option linter.unusedVariables false
namespace Go.Proofs.Ytaadkjlooehhnaa
open Go Go.Ab
open Go.ChangeShapes Go.WideShapes Go.ChangeAt Go.RowKit
theorem own : ownKnob Try.prog.godebug = none := by kernel_rfl
theorem laidOut : laidOutB Try.prog = true := by kernel_rfl
theorem cells3 : Try.prog.cellsOf 3 = 1 := by kernel_rfl
theorem cells24 : Try.prog.cellsOf 24 = 2 := by kernel_rfl
theorem bytes24 : Try.prog.bytesOf 24 = 16 := by kernel_rfl
theorem cells4 : Try.prog.cellsOf 4 = 1 := by kernel_rfl
theorem cells31 : Try.prog.cellsOf 31 = 7 := by kernel_rfl
theorem bytes31 : Try.prog.bytesOf 31 = 24 := by kernel_rfl
theorem RU3 : ReadsU Try.prog 3 Int (fun x => [.raw (.int .i64 x)]) (fun x => (-9223372036854775808 ≤ x ∧ x ≤ 9223372036854775807)) := readsU_i64 Try.underlying3
theorem RU24 : ReadsU Try.prog 24 Api_PinOp (fun x => [.raw (.int .i64 x.Kind), .raw (.int .i64 x.Pin)]) (fun x => (OkU_Api_PinOp x)) := (readsU_struct Try.underlying24 (readsFsU_cons RU3 rfl cells3 rfl (readsFsU_cons RU3 rfl cells3 rfl readsFsU_nil)) (by kernel_rfl)).map (fun x => ⟨x.1, x.2.1⟩) _ _ (fun _ => rfl) (fun _ h => by obtain ⟨h0, h1, -⟩ := h; exact ⟨h0, h1⟩)
theorem RU34 : ReadsU Try.prog 34 (List Api_PinOp) (fun x => [(E24.ro x)]) (fun x => (x.length ≤ 1048576 ∧ ∀ y ∈ x, (OkU_Api_PinOp y))) := readsU_list E24 Try.underlying34 RU24 rfl cells24 (by decide) bytes24 (by decide)
theorem RU4 : ReadsU Try.prog 4 Bool (fun x => [.raw (.bool x)]) (fun x => True) := readsU_bool Try.underlying4
theorem RU31 : ReadsU Try.prog 31 Api_Pin (fun x => [.raw (.int .i64 x.Core), .raw (.int .i64 x.Vec), .raw (.bool x.Level), .raw (.bool x.Masked), .raw (.bool x.Up), .raw (.bool x.Kept), .raw (.bool x.Sent)]) (fun x => (OkU_Api_Pin x)) := (readsU_struct Try.underlying31 (readsFsU_cons RU3 rfl cells3 rfl (readsFsU_cons RU3 rfl cells3 rfl (readsFsU_cons RU4 rfl cells4 rfl (readsFsU_cons RU4 rfl cells4 rfl (readsFsU_cons RU4 rfl cells4 rfl (readsFsU_cons RU4 rfl cells4 rfl (readsFsU_cons RU4 rfl cells4 rfl readsFsU_nil))))))) (by kernel_rfl)).map (fun x => ⟨x.1, x.2.1, x.2.2.1, x.2.2.2.1, x.2.2.2.2.1, x.2.2.2.2.2.1, x.2.2.2.2.2.2.1⟩) _ _ (fun _ => rfl) (fun _ h => by obtain ⟨h0, h1, h2, h3, h4, h5, h6, -⟩ := h; exact ⟨h0, h1, h2, h3, h4, h5, h6⟩)
theorem RU22 : ReadsU Try.prog 22 (List Api_Pin) (fun x => [(E31.ro x)]) (fun x => (x.length ≤ 1048576 ∧ ∀ y ∈ x, (OkU_Api_Pin y))) := readsU_list E31 Try.underlying22 RU31 rfl cells31 (by decide) bytes31 (by decide)
end Go.Proofs.Ytaadkjlooehhnaa
