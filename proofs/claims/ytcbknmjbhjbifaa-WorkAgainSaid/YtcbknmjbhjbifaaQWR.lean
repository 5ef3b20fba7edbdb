/- What is read of the arguments: printed by program. -/
import Derived.Test.YtcbknmjbhjbifaaQWW0
import Derived.Test.YtcbknmjbhjbifaaAbUa
import Derived.Test.YtcbknmjbhjbifaaAbZ
import Derived.ProofKit
set_option linter.unusedSimpArgs false
set_option linter.unusedVariables false
namespace Go.Proofs.Ytcbknmjbhjbifaa
open Go Go.Ab
open Go.ChangeShapes Go.WideShapes Go.ChangeAt Go.RowKit
theorem own : ownKnob Try.prog.godebug = none := by kernel_rfl
theorem laidOut : laidOutB Try.prog = true := by kernel_rfl
theorem cells3 : Try.prog.cellsOf 3 = 1 := by kernel_rfl
theorem cells52 : Try.prog.cellsOf 52 = 2 := by kernel_rfl
theorem bytes52 : Try.prog.bytesOf 52 = 16 := by kernel_rfl
theorem R3 : Reads Try.prog 3 Int (fun x => [.raw (.int .i64 x)]) (fun x => (-9223372036854775808 ≤ x ∧ x ≤ 9223372036854775807)) := reads_i64 Try.underlying3
theorem R52 : Reads Try.prog 52 Api_WorkOp (fun x => [.raw (.int .i64 x.Kind), .raw (.int .i64 x.Item)]) (fun x => (Ok_Api_WorkOp x)) := (reads_struct Try.underlying52 (readsFs_cons R3 rfl cells3 rfl (readsFs_cons R3 rfl cells3 rfl readsFs_nil)) (by kernel_rfl)).map (fun x => ⟨x.1, x.2.1⟩) _ _ (fun _ => rfl) (fun _ h => by obtain ⟨h0, h1, -⟩ := h; exact ⟨h0, h1⟩)
theorem R48 : Reads Try.prog 48 (List Api_WorkOp) (fun x => [(E52.ro x)]) (fun x => (x.length * 16 ≤ 140737488351232 ∧ ∀ y ∈ x, (Ok_Api_WorkOp y))) := reads_list E52 Try.underlying48 R52 rfl cells52 (by decide) bytes52 (by decide)
end Go.Proofs.Ytcbknmjbhjbifaa
