/- What is read of the arguments: printed by program. -/
import Derived.Test.YtaadkjlooehhnaaQSW1
import Derived.Test.YtaadkjlooehhnaaAbUa
import Derived.Test.YtaadkjlooehhnaaAbZ
import Derived.ProofKit
set_option linter.unusedSimpArgs false
set_option linter.unusedVariables false
namespace Go.Proofs.Ytaadkjlooehhnaa
open Go Go.Ab
open Go.ChangeShapes Go.WideShapes Go.ChangeAt Go.RowKit
theorem own : ownKnob Try.prog.godebug = none := by kernel_rfl
theorem laidOut : laidOutB Try.prog = true := by kernel_rfl
theorem cells46 : Try.prog.cellsOf 46 = 8 := by kernel_rfl
theorem cells4 : Try.prog.cellsOf 4 = 1 := by kernel_rfl
theorem cells45 : Try.prog.cellsOf 45 = 8 := by kernel_rfl
theorem cells3 : Try.prog.cellsOf 3 = 1 := by kernel_rfl
theorem R3 : Reads Try.prog 3 Int (fun x => [.raw (.int .i64 x)]) (fun x => (-9223372036854775808 ≤ x ∧ x ≤ 9223372036854775807)) := reads_i64 Try.underlying3
theorem R4 : Reads Try.prog 4 Bool (fun x => [.raw (.bool x)]) (fun x => True) := reads_bool Try.underlying4
theorem R46 : Reads Try.prog 46 (Nat → Bool) (fun x => [.raw (.bool (x 0)), .raw (.bool (x 1)), .raw (.bool (x 2)), .raw (.bool (x 3)), .raw (.bool (x 4)), .raw (.bool (x 5)), .raw (.bool (x 6)), .raw (.bool (x 7))]) (fun x => (∀ i, i < 8 → True)) := (reads_array Try.underlying46 R4 cells4 cells46).map (fun x => x) _ _ (fun _ => rfl) (fun _ h => h)
theorem R45 : Reads Try.prog 45 (Nat → Int) (fun x => [.raw (.int .i64 (x 0)), .raw (.int .i64 (x 1)), .raw (.int .i64 (x 2)), .raw (.int .i64 (x 3)), .raw (.int .i64 (x 4)), .raw (.int .i64 (x 5)), .raw (.int .i64 (x 6)), .raw (.int .i64 (x 7))]) (fun x => (∀ i, i < 8 → (-9223372036854775808 ≤ (x i) ∧ (x i) ≤ 9223372036854775807))) := (reads_array Try.underlying45 R3 cells3 cells45).map (fun x => x) _ _ (fun _ => rfl) (fun _ h => h)
theorem R48 : Reads Try.prog 48 Api_Lock (fun x => [.raw (.int .i64 x.Next), .raw (.int .i64 x.Now), .raw (.int .i64 (x.Mine 0)), .raw (.int .i64 (x.Mine 1)), .raw (.int .i64 (x.Mine 2)), .raw (.int .i64 (x.Mine 3)), .raw (.int .i64 (x.Mine 4)), .raw (.int .i64 (x.Mine 5)), .raw (.int .i64 (x.Mine 6)), .raw (.int .i64 (x.Mine 7)), .raw (.bool (x.In 0)), .raw (.bool (x.In 1)), .raw (.bool (x.In 2)), .raw (.bool (x.In 3)), .raw (.bool (x.In 4)), .raw (.bool (x.In 5)), .raw (.bool (x.In 6)), .raw (.bool (x.In 7))]) (fun x => (Ok_Api_Lock x)) := (reads_struct Try.underlying48 (readsFs_cons R3 rfl cells3 rfl (readsFs_cons R3 rfl cells3 rfl (readsFs_cons R45 rfl cells45 rfl (readsFs_cons R46 rfl cells46 rfl readsFs_nil)))) (by kernel_rfl)).map (fun x => ⟨x.1, x.2.1, x.2.2.1, x.2.2.2.1⟩) _ _ (fun _ => rfl) (fun _ h => by obtain ⟨h0, h1, h2, h3, -⟩ := h; exact ⟨h0, h1, h2, h3⟩)
end Go.Proofs.Ytaadkjlooehhnaa
