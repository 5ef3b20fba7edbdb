/- What is read of the arguments: printed by program. -/
import Derived.Test.YtjfadbefmhokeaaQJW2
import Derived.Test.YtjfadbefmhokeaaAbUa
import Derived.Test.YtjfadbefmhokeaaAbZ
import Derived.ProofKit
set_option linter.unusedSimpArgs false
set_option linter.unusedVariables false
namespace Go.Proofs.Ytjfadbefmhokeaa
open Go Go.Ab
open Go.ChangeShapes Go.WideShapes Go.ChangeAt Go.RowKit
theorem own : ownKnob Try.prog.godebug = none := by kernel_rfl
theorem laidOut : laidOutB Try.prog = true := by kernel_rfl
theorem cells3 : Try.prog.cellsOf 3 = 1 := by kernel_rfl
theorem cells31 : Try.prog.cellsOf 31 = 3 := by kernel_rfl
theorem bytes31 : Try.prog.bytesOf 31 = 24 := by kernel_rfl
theorem R3 : Reads Try.prog 3 Int (fun x => [.raw (.int .i64 x)]) (fun x => (-9223372036854775808 ≤ x ∧ x ≤ 9223372036854775807)) := reads_i64 Try.underlying3
theorem R31 : Reads Try.prog 31 Api_TimerOp (fun x => [.raw (.int .i64 x.Kind), .raw (.int .i64 x.Id), .raw (.int .i64 x.Ticks)]) (fun x => (Ok_Api_TimerOp x)) := (reads_struct Try.underlying31 (readsFs_cons R3 rfl cells3 rfl (readsFs_cons R3 rfl cells3 rfl (readsFs_cons R3 rfl cells3 rfl readsFs_nil))) (by kernel_rfl)).map (fun x => ⟨x.1, x.2.1, x.2.2.1⟩) _ _ (fun _ => rfl) (fun _ h => by obtain ⟨h0, h1, h2, -⟩ := h; exact ⟨h0, h1, h2⟩)
theorem R22 : Reads Try.prog 22 (List Api_TimerOp) (fun x => [(E31.ro x)]) (fun x => (x.length * 24 ≤ 140737488351232 ∧ ∀ y ∈ x, (Ok_Api_TimerOp y))) := reads_list E31 Try.underlying22 R31 rfl cells31 (by decide) bytes31 (by decide)
end Go.Proofs.Ytjfadbefmhokeaa
