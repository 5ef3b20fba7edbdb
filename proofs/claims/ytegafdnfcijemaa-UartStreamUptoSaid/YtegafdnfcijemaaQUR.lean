/- What is read of the arguments: printed by program. -/
import Derived.Test.YtegafdnfcijemaaQUW0
import Derived.Test.YtegafdnfcijemaaAbUa
import Derived.Test.YtegafdnfcijemaaAbZu
import Derived.ProofKit
set_option linter.unusedSimpArgs false
set_option linter.unusedVariables false
namespace Go.Proofs.Ytegafdnfcijemaa
open Go Go.Ab
open Go.ChangeShapes Go.WideShapes Go.ChangeAt Go.RowKit
theorem own : ownKnob Try.prog.godebug = none := by kernel_rfl
theorem laidOut : laidOutB Try.prog = true := by kernel_rfl
theorem cells5 : Try.prog.cellsOf 5 = 1 := by kernel_rfl
theorem cells3 : Try.prog.cellsOf 3 = 1 := by kernel_rfl
theorem cells46 : Try.prog.cellsOf 46 = 2 := by kernel_rfl
theorem bytes46 : Try.prog.bytesOf 46 = 16 := by kernel_rfl
theorem RU5 : ReadsU Try.prog 5 Int (fun x => [.raw (.int .u8 x)]) (fun x => (0 ≤ x ∧ x ≤ 255)) := readsU_u8 Try.underlying5
theorem RU3 : ReadsU Try.prog 3 Int (fun x => [.raw (.int .i64 x)]) (fun x => (-9223372036854775808 ≤ x ∧ x ≤ 9223372036854775807)) := readsU_i64 Try.underlying3
theorem RU46 : ReadsU Try.prog 46 Api_UartOp (fun x => [.raw (.int .i64 x.Kind), .raw (.int .u8 x.Byte)]) (fun x => (OkU_Api_UartOp x)) := (readsU_struct Try.underlying46 (readsFsU_cons RU3 rfl cells3 rfl (readsFsU_cons RU5 rfl cells5 rfl readsFsU_nil)) (by kernel_rfl)).map (fun x => ⟨x.1, x.2.1⟩) _ _ (fun _ => rfl) (fun _ h => by obtain ⟨h0, h1, -⟩ := h; exact ⟨h0, h1⟩)
theorem RU60 : ReadsU Try.prog 60 (List Api_UartOp) (fun x => [(E46.ro x)]) (fun x => (x.length ≤ 1048576 ∧ ∀ y ∈ x, (OkU_Api_UartOp y))) := readsU_list E46 Try.underlying60 RU46 rfl cells46 (by decide) bytes46 (by decide)
end Go.Proofs.Ytegafdnfcijemaa
