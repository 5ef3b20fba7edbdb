/- What is read of the arguments: printed by program. -/
import Derived.Test.YtdfgmloipigmfaaQZLW2
import Derived.Test.YtdfgmloipigmfaaAbUa
import Derived.Test.YtdfgmloipigmfaaAbZu
import Derived.ProofKit
set_option linter.unusedSimpArgs false
set_option linter.unusedVariables false
namespace Go.Proofs.Ytdfgmloipigmfaa
open Go Go.Ab
open Go.ChangeShapes Go.WideShapes Go.ChangeAt Go.RowKit
theorem own : ownKnob Try.prog.godebug = none := by kernel_rfl
theorem laidOut : laidOutB Try.prog = true := by kernel_rfl
theorem cells3 : Try.prog.cellsOf 3 = 1 := by kernel_rfl
theorem cells69 : Try.prog.cellsOf 69 = 2 := by kernel_rfl
theorem bytes69 : Try.prog.bytesOf 69 = 16 := by kernel_rfl
theorem cells4 : Try.prog.cellsOf 4 = 1 := by kernel_rfl
theorem cells75 : Try.prog.cellsOf 75 = 7 := by kernel_rfl
theorem bytes75 : Try.prog.bytesOf 75 = 24 := by kernel_rfl
theorem RU3 : ReadsU Try.prog 3 Int (fun x => [.raw (.int .i64 x)]) (fun x => (-9223372036854775808 ≤ x ∧ x ≤ 9223372036854775807)) := readsU_i64 Try.underlying3
theorem RU69 : ReadsU Try.prog 69 Api_PinOp (fun x => [.raw (.int .i64 x.Kind), .raw (.int .i64 x.Pin)]) (fun x => (OkU_Api_PinOp x)) := (readsU_struct Try.underlying69 (readsFsU_cons RU3 rfl cells3 rfl (readsFsU_cons RU3 rfl cells3 rfl readsFsU_nil)) (by kernel_rfl)).map (fun x => ⟨x.1, x.2.1⟩) _ _ (fun _ => rfl) (fun _ h => by obtain ⟨h0, h1, -⟩ := h; exact ⟨h0, h1⟩)
theorem RU65 : ReadsU Try.prog 65 (List Api_PinOp) (fun x => [(E69.ro x)]) (fun x => (x.length ≤ 1048576 ∧ ∀ y ∈ x, (OkU_Api_PinOp y))) := readsU_list E69 Try.underlying65 RU69 rfl cells69 (by decide) bytes69 (by decide)
theorem RU4 : ReadsU Try.prog 4 Bool (fun x => [.raw (.bool x)]) (fun x => True) := readsU_bool Try.underlying4
theorem RU75 : ReadsU Try.prog 75 Api_Pin (fun x => [.raw (.int .i64 x.Core), .raw (.int .i64 x.Vec), .raw (.bool x.Level), .raw (.bool x.Masked), .raw (.bool x.Up), .raw (.bool x.Kept), .raw (.bool x.Sent)]) (fun x => (OkU_Api_Pin x)) := (readsU_struct Try.underlying75 (readsFsU_cons RU3 rfl cells3 rfl (readsFsU_cons RU3 rfl cells3 rfl (readsFsU_cons RU4 rfl cells4 rfl (readsFsU_cons RU4 rfl cells4 rfl (readsFsU_cons RU4 rfl cells4 rfl (readsFsU_cons RU4 rfl cells4 rfl (readsFsU_cons RU4 rfl cells4 rfl readsFsU_nil))))))) (by kernel_rfl)).map (fun x => ⟨x.1, x.2.1, x.2.2.1, x.2.2.2.1, x.2.2.2.2.1, x.2.2.2.2.2.1, x.2.2.2.2.2.2.1⟩) _ _ (fun _ => rfl) (fun _ h => by obtain ⟨h0, h1, h2, h3, h4, h5, h6, -⟩ := h; exact ⟨h0, h1, h2, h3, h4, h5, h6⟩)
theorem RU64 : ReadsU Try.prog 64 (List Api_Pin) (fun x => [(E75.ro x)]) (fun x => (x.length ≤ 1048576 ∧ ∀ y ∈ x, (OkU_Api_Pin y))) := readsU_list E75 Try.underlying64 RU75 rfl cells75 (by decide) bytes75 (by decide)
end Go.Proofs.Ytdfgmloipigmfaa
