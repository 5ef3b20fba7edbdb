import Derived.Test.YtfnmmlcmjmepjaaQUBW0
import Derived.Test.YtfnmmlcmjmepjaaAbUa
import Derived.Test.YtfnmmlcmjmepjaaAbZ
import Derived.ProofKit
set_option linter.unusedSimpArgs false
set_option linter.unusedVariables false
namespace Go.Proofs.Ytfnmmlcmjmepjaa
open Go Go.Ab
open Go.ChangeShapes Go.WideShapes Go.ChangeAt Go.RowKit
theorem own : ownKnob Try.prog.godebug = none := by kernel_rfl
theorem laidOut : laidOutB Try.prog = true := by kernel_rfl
theorem cells5 : Try.prog.cellsOf 5 = 1 := by kernel_rfl
theorem bytes5 : Try.prog.bytesOf 5 = 1 := by kernel_rfl
theorem cells43 : Try.prog.cellsOf 43 = 1 := by kernel_rfl
theorem cells3 : Try.prog.cellsOf 3 = 1 := by kernel_rfl
theorem cells51 : Try.prog.cellsOf 51 = 3 := by kernel_rfl
theorem bytes51 : Try.prog.bytesOf 51 = 40 := by kernel_rfl
theorem R3 : Reads Try.prog 3 Int (fun x => [.raw (.int .i64 x)]) (fun x => (-9223372036854775808 ≤ x ∧ x ≤ 9223372036854775807)) := reads_i64 Try.underlying3
theorem R5 : Reads Try.prog 5 Int (fun x => [.raw (.int .u8 x)]) (fun x => (0 ≤ x ∧ x ≤ 255)) := reads_u8 Try.underlying5
theorem R43 : Reads Try.prog 43 (List Int) (fun x => [(E5.ro x)]) (fun x => (x.length * 1 ≤ 140737488351232 ∧ ∀ y ∈ x, (0 ≤ y ∧ y ≤ 255))) := reads_list E5 Try.underlying43 R5 rfl cells5 (by decide) bytes5 (by decide)
theorem R51 : Reads Try.prog 51 Api_PipeOp (fun x => [.raw (.int .i64 x.Kind), .raw (.int .i64 x.Most), (E5.ro x.Data)]) (fun x => (Ok_Api_PipeOp x)) := (reads_struct Try.underlying51 (readsFs_cons R3 rfl cells3 rfl (readsFs_cons R3 rfl cells3 rfl (readsFs_cons R43 rfl cells43 rfl readsFs_nil))) (by kernel_rfl)).map (fun x => ⟨x.1, x.2.1, x.2.2.1⟩) _ _ (fun _ => rfl) (fun _ h => by obtain ⟨h0, h1, h2, -⟩ := h; exact ⟨h0, h1, h2⟩)
theorem R41 : Reads Try.prog 41 (List Api_PipeOp) (fun x => [(E51.ro x)]) (fun x => (x.length * 40 ≤ 140737488351232 ∧ ∀ y ∈ x, (Ok_Api_PipeOp y))) := reads_list E51 Try.underlying41 R51 rfl cells51 (by decide) bytes51 (by decide)
end Go.Proofs.Ytfnmmlcmjmepjaa

