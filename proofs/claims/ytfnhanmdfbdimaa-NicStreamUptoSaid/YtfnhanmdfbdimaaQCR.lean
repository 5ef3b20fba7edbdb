/- What is read of the arguments: printed by program. -/
import Derived.Test.YtfnhanmdfbdimaaQCW0
import Derived.Test.YtfnhanmdfbdimaaAbUa
import Derived.Test.YtfnhanmdfbdimaaAbZu
import Derived.ProofKit
set_option linter.unusedSimpArgs false
set_option linter.unusedVariables false
namespace Go.Proofs.Ytfnhanmdfbdimaa
open Go Go.Ab
open Go.ChangeShapes Go.WideShapes Go.ChangeAt Go.RowKit
theorem own : ownKnob Try.prog.godebug = none := by kernel_rfl
theorem laidOut : laidOutB Try.prog = true := by kernel_rfl
theorem cells3 : Try.prog.cellsOf 3 = 1 := by kernel_rfl
theorem cells35 : Try.prog.cellsOf 35 = 2 := by kernel_rfl
theorem bytes35 : Try.prog.bytesOf 35 = 16 := by kernel_rfl
theorem RU3 : ReadsU Try.prog 3 Int (fun x => [.raw (.int .i64 x)]) (fun x => (-9223372036854775808 ≤ x ∧ x ≤ 9223372036854775807)) := readsU_i64 Try.underlying3
theorem RU35 : ReadsU Try.prog 35 Api_NicOp (fun x => [.raw (.int .i64 x.Kind), .raw (.int .i64 x.N)]) (fun x => (OkU_Api_NicOp x)) := (readsU_struct Try.underlying35 (readsFsU_cons RU3 rfl cells3 rfl (readsFsU_cons RU3 rfl cells3 rfl readsFsU_nil)) (by kernel_rfl)).map (fun x => ⟨x.1, x.2.1⟩) _ _ (fun _ => rfl) (fun _ h => ⟨h.1, h.2.1⟩)
theorem RU22 : ReadsU Try.prog 22 (List Api_NicOp) (fun x => [(E35.ro x)]) (fun x => (x.length ≤ 1048576 ∧ ∀ y ∈ x, (OkU_Api_NicOp y))) := readsU_list E35 Try.underlying22 RU35 rfl cells35 (by decide) bytes35 (by decide)
end Go.Proofs.Ytfnhanmdfbdimaa
