/- What is read of the arguments: printed by program. -/
import Derived.Test.YtegafdnfcijemaaQ1W1
import Derived.Test.YtegafdnfcijemaaAbZ
import Derived.ProofKit
set_option linter.unusedSimpArgs false
set_option linter.unusedVariables false
namespace Go.Proofs.Ytegafdnfcijemaa
open Go Go.Ab
open Go.ChangeShapes Go.WideShapes Go.ChangeAt Go.RowKit
theorem own : ownKnob Try.prog.godebug = none := by kernel_rfl
theorem laidOut : laidOutB Try.prog = true := by kernel_rfl
theorem R4 : Reads Try.prog 4 Bool (fun x => [.raw (.bool x)]) (fun x => True) := reads_bool Try.underlying4
theorem cells4 : Try.prog.cellsOf 4 = 1 := by kernel_rfl
theorem R67 : Reads Try.prog 67 Api_Frame (fun x => [.raw (.bool x.On), .raw (.bool x.Irq)]) (fun x => (Ok_Api_Frame x)) := (reads_struct Try.underlying67 (readsFs_cons R4 rfl cells4 rfl (readsFs_cons R4 rfl cells4 rfl readsFs_nil)) (by kernel_rfl)).map (fun x => ⟨x.1, x.2.1⟩) _ _ (fun _ => rfl) (fun _ h => ⟨h.1, h.2.1⟩)
theorem cells67 : Try.prog.cellsOf 67 = 2 := by kernel_rfl
theorem bytes67 : Try.prog.bytesOf 67 = 2 := by kernel_rfl
theorem R22 : Reads Try.prog 22 (List Api_Frame) (fun x => [(E67.ro x)]) (fun x => (x.length * 2 ≤ 140737488351232 ∧ ∀ y ∈ x, (Ok_Api_Frame y))) := reads_list E67 Try.underlying22 R67 rfl cells67 (by decide) bytes67 (by decide)
theorem cells22 : Try.prog.cellsOf 22 = 1 := by kernel_rfl
theorem R24 : Reads Try.prog 24 Api_Core (fun x => [.raw (.bool x.On), (E67.ro x.Kept)]) (fun x => (Ok_Api_Core x)) := (reads_struct Try.underlying24 (readsFs_cons R4 rfl cells4 rfl (readsFs_cons R22 rfl cells22 rfl readsFs_nil)) (by kernel_rfl)).map (fun x => ⟨x.1, x.2.1⟩) _ _ (fun _ => rfl) (fun _ h => ⟨h.1, h.2.1⟩)
theorem R3 : Reads Try.prog 3 Int (fun x => [.raw (.int .i64 x)]) (fun x => (-9223372036854775808 ≤ x ∧ x ≤ 9223372036854775807)) := reads_i64 Try.underlying3
theorem cells3 : Try.prog.cellsOf 3 = 1 := by kernel_rfl
theorem bytes3 : Try.prog.bytesOf 3 = 8 := by kernel_rfl
theorem R33 : Reads Try.prog 33 (List Int) (fun x => [(E3.ro x)]) (fun x => (x.length * 8 ≤ 140737488351232 ∧ ∀ y ∈ x, (-9223372036854775808 ≤ y ∧ y ≤ 9223372036854775807))) := reads_list E3 Try.underlying33 R3 rfl cells3 (by decide) bytes3 (by decide)
theorem R53 : Reads Try.prog 53 Api_Rate (fun x => [.raw (.int .i64 x.Num), .raw (.int .i64 x.Den)]) (fun x => (Ok_Api_Rate x)) := (reads_struct Try.underlying53 (readsFs_cons R3 rfl cells3 rfl (readsFs_cons R3 rfl cells3 rfl readsFs_nil)) (by kernel_rfl)).map (fun x => ⟨x.1, x.2.1⟩) _ _ (fun _ => rfl) (fun _ h => ⟨h.1, h.2.1⟩)
end Go.Proofs.Ytegafdnfcijemaa
