/- What is read of the arguments: printed by program. -/
import Derived.Test.YtfmjgicgbdbpoaaQKW1
import Derived.Test.YtfmjgicgbdbpoaaAbUa
import Derived.Test.YtfmjgicgbdbpoaaAbZ
import Derived.ProofKit
set_option linter.unusedSimpArgs false
set_option linter.unusedVariables false
namespace Go.Proofs.Ytfmjgicgbdbpoaa
open Go Go.Ab
open Go.ChangeShapes Go.WideShapes Go.ChangeAt Go.RowKit
theorem own : ownKnob Try.prog.godebug = none := by kernel_rfl
theorem laidOut : laidOutB Try.prog = true := by kernel_rfl
theorem cells3 : Try.prog.cellsOf 3 = 1 := by kernel_rfl
theorem cells34 : Try.prog.cellsOf 34 = 3 := by kernel_rfl
theorem bytes34 : Try.prog.bytesOf 34 = 24 := by kernel_rfl
theorem bytes3 : Try.prog.bytesOf 3 = 8 := by kernel_rfl
theorem R3 : Reads Try.prog 3 Int (fun x => [.raw (.int .i64 x)]) (fun x => (-9223372036854775808 ≤ x ∧ x ≤ 9223372036854775807)) := reads_i64 Try.underlying3
theorem R34 : Reads Try.prog 34 Api_RankOp (fun x => [.raw (.int .i64 x.Kind), .raw (.int .i64 x.Thread), .raw (.int .i64 x.Lock)]) (fun x => (Ok_Api_RankOp x)) := (reads_struct Try.underlying34 (readsFs_cons R3 rfl cells3 rfl (readsFs_cons R3 rfl cells3 rfl (readsFs_cons R3 rfl cells3 rfl readsFs_nil))) (by kernel_rfl)).map (fun x => ⟨x.1, x.2.1, x.2.2.1⟩) _ _ (fun _ => rfl) (fun _ h => by obtain ⟨h0, h1, h2, -⟩ := h; exact ⟨h0, h1, h2⟩)
theorem R22 : Reads Try.prog 22 (List Api_RankOp) (fun x => [(E34.ro x)]) (fun x => (x.length * 24 ≤ 140737488351232 ∧ ∀ y ∈ x, (Ok_Api_RankOp y))) := reads_list E34 Try.underlying22 R34 rfl cells34 (by decide) bytes34 (by decide)
theorem R25 : Reads Try.prog 25 (List Int) (fun x => [(E3.ro x)]) (fun x => (x.length * 8 ≤ 140737488351232 ∧ ∀ y ∈ x, (-9223372036854775808 ≤ y ∧ y ≤ 9223372036854775807))) := reads_list E3 Try.underlying25 R3 rfl cells3 (by decide) bytes3 (by decide)
theorem R4 : Reads Try.prog 4 Bool (fun x => [.raw (.bool x)]) (fun x => True) := reads_bool Try.underlying4
end Go.Proofs.Ytfmjgicgbdbpoaa
