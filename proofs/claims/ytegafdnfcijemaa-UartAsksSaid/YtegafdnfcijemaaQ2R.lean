/- What is read of the arguments: printed by program. -/
import Derived.Test.YtegafdnfcijemaaQ2W0
import Derived.Test.YtegafdnfcijemaaAbZ
import Derived.ProofKit
set_option linter.unusedSimpArgs false
set_option linter.unusedVariables false
namespace Go.Proofs.Ytegafdnfcijemaa
open Go Go.Ab
open Go.ChangeShapes Go.WideShapes Go.ChangeAt Go.RowKit
theorem own : ownKnob Try.prog.godebug = none := by kernel_rfl
theorem laidOut : laidOutB Try.prog = true := by kernel_rfl
theorem R5 : Reads Try.prog 5 Int (fun x => [.raw (.int .u8 x)]) (fun x => (0 ≤ x ∧ x ≤ 255)) := reads_u8 Try.underlying5
theorem cells5 : Try.prog.cellsOf 5 = 1 := by kernel_rfl
theorem R3 : Reads Try.prog 3 Int (fun x => [.raw (.int .i64 x)]) (fun x => (-9223372036854775808 ≤ x ∧ x ≤ 9223372036854775807)) := reads_i64 Try.underlying3
theorem cells3 : Try.prog.cellsOf 3 = 1 := by kernel_rfl
theorem R46 : Reads Try.prog 46 Api_UartOp (fun x => [.raw (.int .i64 x.Kind), .raw (.int .u8 x.Byte)]) (fun x => (Ok_Api_UartOp x)) := (reads_struct Try.underlying46 (readsFs_cons R3 rfl cells3 rfl (readsFs_cons R5 rfl cells5 rfl readsFs_nil)) (by kernel_rfl)).map (fun x => ⟨x.1, x.2.1⟩) _ _ (fun _ => rfl) (fun _ h => ⟨h.1, h.2.1⟩)
theorem R4 : Reads Try.prog 4 Bool (fun x => [.raw (.bool x)]) (fun x => True) := reads_bool Try.underlying4
theorem cells4 : Try.prog.cellsOf 4 = 1 := by kernel_rfl
theorem bytes5 : Try.prog.bytesOf 5 = 1 := by kernel_rfl
theorem R42 : Reads Try.prog 42 (List Int) (fun x => [(E5.ro x)]) (fun x => (x.length * 1 ≤ 140737488351232 ∧ ∀ y ∈ x, (0 ≤ y ∧ y ≤ 255))) := reads_list E5 Try.underlying42 R5 rfl cells5 (by decide) bytes5 (by decide)
theorem cells42 : Try.prog.cellsOf 42 = 1 := by kernel_rfl
theorem R44 : Reads Try.prog 44 Api_Uart (fun x => [(E5.ro x.In), (E5.ro x.Out), .raw (.int .i64 x.Lost), .raw (.bool x.Asks)]) (fun x => (Ok_Api_Uart x)) := (reads_struct Try.underlying44 (readsFs_cons R42 rfl cells42 rfl (readsFs_cons R42 rfl cells42 rfl (readsFs_cons R3 rfl cells3 rfl (readsFs_cons R4 rfl cells4 rfl readsFs_nil)))) (by kernel_rfl)).map (fun x => ⟨x.1, x.2.1, x.2.2.1, x.2.2.2.1⟩) _ _ (fun _ => rfl) (fun _ h => ⟨h.1, h.2.1, h.2.2.1, h.2.2.2.1⟩)
end Go.Proofs.Ytegafdnfcijemaa
