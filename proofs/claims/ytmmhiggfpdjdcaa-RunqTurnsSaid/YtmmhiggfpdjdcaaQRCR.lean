/- What is read of the arguments: printed by program. -/
import Derived.Test.YtmmhiggfpdjdcaaQRCW8
import Derived.Test.YtmmhiggfpdjdcaaAbUa
import Derived.Test.YtmmhiggfpdjdcaaAbZ
import Derived.ProofKit
set_option linter.unusedSimpArgs false
set_option linter.unusedVariables false
namespace Go.Proofs.Ytmmhiggfpdjdcaa
open Go Go.Ab
open Go.ChangeShapes Go.WideShapes Go.ChangeAt Go.RowKit
theorem own : ownKnob Try.prog.godebug = none := by kernel_rfl
theorem laidOut : laidOutB Try.prog = true := by kernel_rfl
theorem cells3 : Try.prog.cellsOf 3 = 1 := by kernel_rfl
theorem bytes3 : Try.prog.bytesOf 3 = 8 := by kernel_rfl
theorem cells31 : Try.prog.cellsOf 31 = 3 := by kernel_rfl
theorem bytes31 : Try.prog.bytesOf 31 = 24 := by kernel_rfl
theorem R3 : Reads Try.prog 3 Int (fun x => [.raw (.int .i64 x)]) (fun x => (-9223372036854775808 ≤ x ∧ x ≤ 9223372036854775807)) := reads_i64 Try.underlying3
theorem R25 : Reads Try.prog 25 (List Int) (fun x => [(E3.ro x)]) (fun x => (x.length * 8 ≤ 140737488351232 ∧ ∀ y ∈ x, (-9223372036854775808 ≤ y ∧ y ≤ 9223372036854775807))) := reads_list E3 Try.underlying25 R3 rfl cells3 (by decide) bytes3 (by decide)
theorem R31 : Reads Try.prog 31 Api_RunOp (fun x => [.raw (.int .i64 x.Kind), .raw (.int .i64 x.Id), .raw (.int .i64 x.Level)]) (fun x => (Ok_Api_RunOp x)) := (reads_struct Try.underlying31 (readsFs_cons R3 rfl cells3 rfl (readsFs_cons R3 rfl cells3 rfl (readsFs_cons R3 rfl cells3 rfl readsFs_nil))) (by kernel_rfl)).map (fun x => ⟨x.1, x.2.1, x.2.2.1⟩) _ _ (fun _ => rfl) (fun _ h => by obtain ⟨h0, h1, h2, -⟩ := h; exact ⟨h0, h1, h2⟩)
theorem R22 : Reads Try.prog 22 (List Api_RunOp) (fun x => [(E31.ro x)]) (fun x => (x.length * 24 ≤ 140737488351232 ∧ ∀ y ∈ x, (Ok_Api_RunOp y))) := reads_list E31 Try.underlying22 R31 rfl cells31 (by decide) bytes31 (by decide)
end Go.Proofs.Ytmmhiggfpdjdcaa
