/- What is read of the arguments: printed by program. -/
import Derived.Test.YtcbknmjbhjbifaaQ5W1
import Derived.Test.YtcbknmjbhjbifaaAbUa
import Derived.Test.YtcbknmjbhjbifaaAbZu
import Derived.ProofKit
set_option linter.unusedSimpArgs false
set_option linter.unusedVariables false
namespace Go.Proofs.Ytcbknmjbhjbifaa
open Go Go.Ab
open Go.ChangeShapes Go.WideShapes Go.ChangeAt Go.RowKit
theorem own : ownKnob Try.prog.godebug = none := by kernel_rfl
theorem laidOut : laidOutB Try.prog = true := by kernel_rfl
theorem cells3 : Try.prog.cellsOf 3 = 1 := by kernel_rfl
theorem bytes3 : Try.prog.bytesOf 3 = 8 := by kernel_rfl
theorem cells30 : Try.prog.cellsOf 30 = 3 := by kernel_rfl
theorem bytes30 : Try.prog.bytesOf 30 = 24 := by kernel_rfl
theorem cells41 : Try.prog.cellsOf 41 = 2 := by kernel_rfl
theorem bytes41 : Try.prog.bytesOf 41 = 16 := by kernel_rfl
theorem R3 : Reads Try.prog 3 Int (fun x => [.raw (.int .i64 x)]) (fun x => (-9223372036854775808 ≤ x ∧ x ≤ 9223372036854775807)) := reads_i64 Try.underlying3
theorem R30 : Reads Try.prog 30 Api_GraceOp (fun x => [.raw (.int .i64 x.Kind), .raw (.int .i64 x.Core), .raw (.int .i64 x.Thing)]) (fun x => (Ok_Api_GraceOp x)) := (reads_struct Try.underlying30 (readsFs_cons R3 rfl cells3 rfl (readsFs_cons R3 rfl cells3 rfl (readsFs_cons R3 rfl cells3 rfl readsFs_nil))) (by kernel_rfl)).map (fun x => ⟨x.1, x.2.1, x.2.2.1⟩) _ _ (fun _ => rfl) (fun _ h => ⟨h.1, h.2.1, h.2.2.1⟩)
theorem R22 : Reads Try.prog 22 (List Api_GraceOp) (fun x => [(E30.ro x)]) (fun x => (x.length * 24 ≤ 140737488351232 ∧ ∀ y ∈ x, (Ok_Api_GraceOp y))) := reads_list E30 Try.underlying22 R30 rfl cells30 (by decide) bytes30 (by decide)
theorem R41 : Reads Try.prog 41 Api_Raise (fun x => [.raw (.int .i64 x.When), .raw (.int .i64 x.Soft)]) (fun x => (Ok_Api_Raise x)) := (reads_struct Try.underlying41 (readsFs_cons R3 rfl cells3 rfl (readsFs_cons R3 rfl cells3 rfl readsFs_nil)) (by kernel_rfl)).map (fun x => ⟨x.1, x.2.1⟩) _ _ (fun _ => rfl) (fun _ h => ⟨h.1, h.2.1⟩)
theorem R36 : Reads Try.prog 36 (List Api_Raise) (fun x => [(E41.ro x)]) (fun x => (x.length * 16 ≤ 140737488351232 ∧ ∀ y ∈ x, (Ok_Api_Raise y))) := reads_list E41 Try.underlying36 R41 rfl cells41 (by decide) bytes41 (by decide)
theorem R25 : Reads Try.prog 25 (List Int) (fun x => [(E3.ro x)]) (fun x => (x.length * 8 ≤ 140737488351232 ∧ ∀ y ∈ x, (-9223372036854775808 ≤ y ∧ y ≤ 9223372036854775807))) := reads_list E3 Try.underlying25 R3 rfl cells3 (by decide) bytes3 (by decide)
theorem RU3 : ReadsU Try.prog 3 Int (fun x => [.raw (.int .i64 x)]) (fun x => (-9223372036854775808 ≤ x ∧ x ≤ 9223372036854775807)) := readsU_i64 Try.underlying3
theorem RU25 : ReadsU Try.prog 25 (List Int) (fun x => [(E3.ro x)]) (fun x => (x.length ≤ 1048576 ∧ ∀ y ∈ x, (-9223372036854775808 ≤ y ∧ y ≤ 9223372036854775807))) := readsU_list E3 Try.underlying25 RU3 rfl cells3 (by decide) bytes3 (by decide)
end Go.Proofs.Ytcbknmjbhjbifaa
