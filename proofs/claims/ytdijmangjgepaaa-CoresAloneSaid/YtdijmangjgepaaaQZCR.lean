/- What is read of the arguments: printed by program. -/
import Derived.Test.YtdijmangjgepaaaQZCW0
import Derived.Test.YtdijmangjgepaaaAbUa
import Derived.Test.YtdijmangjgepaaaAbZ
import Derived.ProofKit
set_option linter.unusedSimpArgs false
set_option linter.unusedVariables false
namespace Go.Proofs.Ytdijmangjgepaaa
open Go Go.Ab
open Go.ChangeShapes Go.WideShapes Go.ChangeAt Go.RowKit
theorem own : ownKnob Try.prog.godebug = none := by kernel_rfl
theorem laidOut : laidOutB Try.prog = true := by kernel_rfl
theorem cells3 : Try.prog.cellsOf 3 = 1 := by kernel_rfl
theorem cells25 : Try.prog.cellsOf 25 = 3 := by kernel_rfl
theorem bytes25 : Try.prog.bytesOf 25 = 24 := by kernel_rfl
theorem R3 : Reads Try.prog 3 Int (fun x => [.raw (.int .i64 x)]) (fun x => (-9223372036854775808 ≤ x ∧ x ≤ 9223372036854775807)) := reads_i64 Try.underlying3
theorem R25 : Reads Try.prog 25 Api_Thread (fun x => [.raw (.int .i64 x.Come), .raw (.int .i64 x.Level), .raw (.int .i64 x.Work)]) (fun x => (Ok_Api_Thread x)) := (reads_struct Try.underlying25 (readsFs_cons R3 rfl cells3 rfl (readsFs_cons R3 rfl cells3 rfl (readsFs_cons R3 rfl cells3 rfl readsFs_nil))) (by kernel_rfl)).map (fun x => ⟨x.1, x.2.1, x.2.2.1⟩) _ _ (fun _ => rfl) (fun _ h => by obtain ⟨h0, h1, h2, -⟩ := h; exact ⟨h0, h1, h2⟩)
theorem R22 : Reads Try.prog 22 (List Api_Thread) (fun x => [(E25.ro x)]) (fun x => (x.length * 24 ≤ 140737488351232 ∧ ∀ y ∈ x, (Ok_Api_Thread y))) := reads_list E25 Try.underlying22 R25 rfl cells25 (by decide) bytes25 (by decide)
end Go.Proofs.Ytdijmangjgepaaa
