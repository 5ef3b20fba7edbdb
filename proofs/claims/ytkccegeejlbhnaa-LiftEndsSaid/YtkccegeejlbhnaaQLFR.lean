/- What is read of the arguments: printed by program. -/
import Derived.Test.YtkccegeejlbhnaaQLFW1
import Derived.Test.YtkccegeejlbhnaaAbUa
import Derived.Test.YtkccegeejlbhnaaAbZ
import Derived.ProofKit
set_option linter.unusedSimpArgs false
set_option linter.unusedVariables false
namespace Go.Proofs.Ytkccegeejlbhnaa
open Go Go.Ab
open Go.ChangeShapes Go.WideShapes Go.ChangeAt Go.RowKit
theorem own : ownKnob Try.prog.godebug = none := by kernel_rfl
theorem laidOut : laidOutB Try.prog = true := by kernel_rfl
theorem cells3 : Try.prog.cellsOf 3 = 1 := by kernel_rfl
theorem bytes3 : Try.prog.bytesOf 3 = 8 := by kernel_rfl
theorem cells38 : Try.prog.cellsOf 38 = 2 := by kernel_rfl
theorem bytes38 : Try.prog.bytesOf 38 = 16 := by kernel_rfl
theorem R3 : Reads Try.prog 3 Int (fun x => [.raw (.int .i64 x)]) (fun x => (-9223372036854775808 ≤ x ∧ x ≤ 9223372036854775807)) := reads_i64 Try.underlying3
theorem R22 : Reads Try.prog 22 (List Int) (fun x => [(E3.ro x)]) (fun x => (x.length * 8 ≤ 140737488351232 ∧ ∀ y ∈ x, (-9223372036854775808 ≤ y ∧ y ≤ 9223372036854775807))) := reads_list E3 Try.underlying22 R3 rfl cells3 (by decide) bytes3 (by decide)
theorem R38 : Reads Try.prog 38 Api_Span (fun x => [.raw (.int .i64 x.From), .raw (.int .i64 x.To)]) (fun x => (Ok_Api_Span x)) := (reads_struct Try.underlying38 (readsFs_cons R3 rfl cells3 rfl (readsFs_cons R3 rfl cells3 rfl readsFs_nil)) (by kernel_rfl)).map (fun x => ⟨x.1, x.2.1⟩) _ _ (fun _ => rfl) (fun _ h => by obtain ⟨h0, h1, -⟩ := h; exact ⟨h0, h1⟩)
theorem R33 : Reads Try.prog 33 (List Api_Span) (fun x => [(E38.ro x)]) (fun x => (x.length * 16 ≤ 140737488351232 ∧ ∀ y ∈ x, (Ok_Api_Span y))) := reads_list E38 Try.underlying33 R38 rfl cells38 (by decide) bytes38 (by decide)
end Go.Proofs.Ytkccegeejlbhnaa
