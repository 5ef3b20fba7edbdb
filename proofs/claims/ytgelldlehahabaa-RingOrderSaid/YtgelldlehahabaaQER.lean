/- What is read of the arguments: printed by program. -/
import Derived.Test.YtgelldlehahabaaQEW0
import Derived.Test.YtgelldlehahabaaAbUa
import Derived.Test.YtgelldlehahabaaAbZ
import Derived.ProofKit
set_option linter.unusedSimpArgs false
set_option linter.unusedVariables false
namespace Go.Proofs.Ytgelldlehahabaa
open Go Go.Ab
open Go.ChangeShapes Go.WideShapes Go.ChangeAt Go.RowKit
theorem own : ownKnob Try.prog.godebug = none := by kernel_rfl
theorem laidOut : laidOutB Try.prog = true := by kernel_rfl
theorem cells3 : Try.prog.cellsOf 3 = 1 := by kernel_rfl
theorem cells4 : Try.prog.cellsOf 4 = 1 := by kernel_rfl
theorem cells41 : Try.prog.cellsOf 41 = 2 := by kernel_rfl
theorem bytes41 : Try.prog.bytesOf 41 = 16 := by kernel_rfl
theorem cells26 : Try.prog.cellsOf 26 = 1 := by kernel_rfl
theorem cells33 : Try.prog.cellsOf 33 = 2 := by kernel_rfl
theorem bytes33 : Try.prog.bytesOf 33 = 16 := by kernel_rfl
theorem R3 : Reads Try.prog 3 Int (fun x => [.raw (.int .i64 x)]) (fun x => (-9223372036854775808 ≤ x ∧ x ≤ 9223372036854775807)) := reads_i64 Try.underlying3
theorem R33 : Reads Try.prog 33 Api_RingOp (fun x => [.raw (.int .i64 x.Kind), .raw (.int .i64 x.Data)]) (fun x => (Ok_Api_RingOp x)) := (reads_struct Try.underlying33 (readsFs_cons R3 rfl cells3 rfl (readsFs_cons R3 rfl cells3 rfl readsFs_nil)) (by kernel_rfl)).map (fun x => ⟨x.1, x.2.1⟩) _ _ (fun _ => rfl) (fun _ h => by obtain ⟨h0, h1, -⟩ := h; exact ⟨h0, h1⟩)
theorem R4 : Reads Try.prog 4 Bool (fun x => [.raw (.bool x)]) (fun x => True) := reads_bool Try.underlying4
theorem R41 : Reads Try.prog 41 Api_Cell (fun x => [.raw (.bool x.Device), .raw (.int .i64 x.Data)]) (fun x => (Ok_Api_Cell x)) := (reads_struct Try.underlying41 (readsFs_cons R4 rfl cells4 rfl (readsFs_cons R3 rfl cells3 rfl readsFs_nil)) (by kernel_rfl)).map (fun x => ⟨x.1, x.2.1⟩) _ _ (fun _ => rfl) (fun _ h => by obtain ⟨h0, h1, -⟩ := h; exact ⟨h0, h1⟩)
theorem R26 : Reads Try.prog 26 (List Api_Cell) (fun x => [(E41.ro x)]) (fun x => (x.length * 16 ≤ 140737488351232 ∧ ∀ y ∈ x, (Ok_Api_Cell y))) := reads_list E41 Try.underlying26 R41 rfl cells41 (by decide) bytes41 (by decide)
theorem R28 : Reads Try.prog 28 Api_Ring (fun x => [(E41.ro x.Cells), .raw (.int .i64 x.Give), .raw (.int .i64 x.Take), .raw (.int .i64 x.Work)]) (fun x => (Ok_Api_Ring x)) := (reads_struct Try.underlying28 (readsFs_cons R26 rfl cells26 rfl (readsFs_cons R3 rfl cells3 rfl (readsFs_cons R3 rfl cells3 rfl (readsFs_cons R3 rfl cells3 rfl readsFs_nil)))) (by kernel_rfl)).map (fun x => ⟨x.1, x.2.1, x.2.2.1, x.2.2.2.1⟩) _ _ (fun _ => rfl) (fun _ h => by obtain ⟨h0, h1, h2, h3, -⟩ := h; exact ⟨h0, h1, h2, h3⟩)
theorem R22 : Reads Try.prog 22 (List Api_RingOp) (fun x => [(E33.ro x)]) (fun x => (x.length * 16 ≤ 140737488351232 ∧ ∀ y ∈ x, (Ok_Api_RingOp y))) := reads_list E33 Try.underlying22 R33 rfl cells33 (by decide) bytes33 (by decide)
end Go.Proofs.Ytgelldlehahabaa
