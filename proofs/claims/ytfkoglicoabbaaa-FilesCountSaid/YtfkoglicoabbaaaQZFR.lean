import Derived.Test.YtfkoglicoabbaaaQZFW2
import Derived.Test.YtfkoglicoabbaaaAbUa
import Derived.Test.YtfkoglicoabbaaaAbZ
import Derived.ProofKit
set_option linter.unusedSimpArgs false
set_option linter.unusedVariables false
namespace Go.Proofs.Ytfkoglicoabbaaa
open Go Go.Ab
open Go.ChangeShapes Go.WideShapes Go.ChangeAt Go.RowKit
theorem own : ownKnob Try.prog.godebug = none := by kernel_rfl
theorem laidOut : laidOutB Try.prog = true := by kernel_rfl
theorem cells3 : Try.prog.cellsOf 3 = 1 := by kernel_rfl
theorem cells24 : Try.prog.cellsOf 24 = 7 := by kernel_rfl
theorem bytes24 : Try.prog.bytesOf 24 = 56 := by kernel_rfl
theorem R3 : Reads Try.prog 3 Int (fun x => [.raw (.int .i64 x)]) (fun x => (-9223372036854775808 ≤ x ∧ x ≤ 9223372036854775807)) := reads_i64 Try.underlying3
theorem R24 : Reads Try.prog 24 Api_FileOp (fun x => [.raw (.int .i64 x.Kind), .raw (.int .i64 x.Proc), .raw (.int .i64 x.Name), .raw (.int .i64 x.Size), .raw (.int .i64 x.Fd), .raw (.int .i64 x.To), .raw (.int .i64 x.Most)]) (fun x => (Ok_Api_FileOp x)) := (reads_struct Try.underlying24 (readsFs_cons R3 rfl cells3 rfl (readsFs_cons R3 rfl cells3 rfl (readsFs_cons R3 rfl cells3 rfl (readsFs_cons R3 rfl cells3 rfl (readsFs_cons R3 rfl cells3 rfl (readsFs_cons R3 rfl cells3 rfl (readsFs_cons R3 rfl cells3 rfl readsFs_nil))))))) (by kernel_rfl)).map (fun x => ⟨x.1, x.2.1, x.2.2.1, x.2.2.2.1, x.2.2.2.2.1, x.2.2.2.2.2.1, x.2.2.2.2.2.2.1⟩) _ _ (fun _ => rfl) (fun _ h => by obtain ⟨h0, h1, h2, h3, h4, h5, h6, -⟩ := h; exact ⟨h0, h1, h2, h3, h4, h5, h6⟩)
theorem R22 : Reads Try.prog 22 (List Api_FileOp) (fun x => [(E24.ro x)]) (fun x => (x.length * 56 ≤ 140737488351232 ∧ ∀ y ∈ x, (Ok_Api_FileOp y))) := reads_list E24 Try.underlying22 R24 rfl cells24 (by decide) bytes24 (by decide)
end Go.Proofs.Ytfkoglicoabbaaa

