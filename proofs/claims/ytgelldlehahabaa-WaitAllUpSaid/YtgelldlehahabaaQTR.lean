/- What is read of the arguments: printed by program. -/
import Derived.Test.YtgelldlehahabaaQTW1
import Derived.Test.YtgelldlehahabaaAbUa
import Derived.Test.YtgelldlehahabaaAbZ
import Derived.ProofKit
set_option linter.unusedSimpArgs false
set_option linter.unusedVariables false
namespace Go.Proofs.Ytgelldlehahabaa
open Go Go.Ab
open Go.ChangeShapes Go.WideShapes Go.ChangeAt Go.RowKit
theorem own : ownKnob Try.prog.godebug = none := by kernel_rfl
theorem laidOut : laidOutB Try.prog = true := by kernel_rfl
theorem cells3 : Try.prog.cellsOf 3 = 1 := by kernel_rfl
theorem cells65 : Try.prog.cellsOf 65 = 2 := by kernel_rfl
theorem bytes65 : Try.prog.bytesOf 65 = 16 := by kernel_rfl
theorem bytes3 : Try.prog.bytesOf 3 = 8 := by kernel_rfl
theorem R3 : Reads Try.prog 3 Int (fun x => [.raw (.int .i64 x)]) (fun x => (-9223372036854775808 ≤ x ∧ x ≤ 9223372036854775807)) := reads_i64 Try.underlying3
theorem R65 : Reads Try.prog 65 Api_WaitOp (fun x => [.raw (.int .i64 x.Kind), .raw (.int .i64 x.Thread)]) (fun x => (Ok_Api_WaitOp x)) := (reads_struct Try.underlying65 (readsFs_cons R3 rfl cells3 rfl (readsFs_cons R3 rfl cells3 rfl readsFs_nil)) (by kernel_rfl)).map (fun x => ⟨x.1, x.2.1⟩) _ _ (fun _ => rfl) (fun _ h => by obtain ⟨h0, h1, -⟩ := h; exact ⟨h0, h1⟩)
theorem R59 : Reads Try.prog 59 (List Api_WaitOp) (fun x => [(E65.ro x)]) (fun x => (x.length * 16 ≤ 140737488351232 ∧ ∀ y ∈ x, (Ok_Api_WaitOp y))) := reads_list E65 Try.underlying59 R65 rfl cells65 (by decide) bytes65 (by decide)
theorem R25 : Reads Try.prog 25 (List Int) (fun x => [(E3.ro x)]) (fun x => (x.length * 8 ≤ 140737488351232 ∧ ∀ y ∈ x, (-9223372036854775808 ≤ y ∧ y ≤ 9223372036854775807))) := reads_list E3 Try.underlying25 R3 rfl cells3 (by decide) bytes3 (by decide)
end Go.Proofs.Ytgelldlehahabaa
