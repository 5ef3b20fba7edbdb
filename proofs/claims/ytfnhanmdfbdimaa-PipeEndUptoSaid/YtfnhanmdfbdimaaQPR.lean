/- What is read of the arguments: printed by program. -/
import Derived.Test.YtfnhanmdfbdimaaQPW1
import Derived.Test.YtfnhanmdfbdimaaAbUa
import Derived.Test.YtfnhanmdfbdimaaAbZu
import Derived.ProofKit
set_option linter.unusedSimpArgs false
set_option linter.unusedVariables false
namespace Go.Proofs.Ytfnhanmdfbdimaa
open Go Go.Ab
open Go.ChangeShapes Go.WideShapes Go.ChangeAt Go.RowKit
theorem own : ownKnob Try.prog.godebug = none := by kernel_rfl
theorem laidOut : laidOutB Try.prog = true := by kernel_rfl
theorem cells5 : Try.prog.cellsOf 5 = 1 := by kernel_rfl
theorem bytes5 : Try.prog.bytesOf 5 = 1 := by kernel_rfl
theorem cells3 : Try.prog.cellsOf 3 = 1 := by kernel_rfl
theorem cells42 : Try.prog.cellsOf 42 = 1 := by kernel_rfl
theorem cells48 : Try.prog.cellsOf 48 = 3 := by kernel_rfl
theorem bytes48 : Try.prog.bytesOf 48 = 40 := by kernel_rfl
theorem R5 : Reads Try.prog 5 Int (fun x => [.raw (.int .u8 x)]) (fun x => (0 ≤ x ∧ x ≤ 255)) := reads_u8 Try.underlying5
theorem R42 : Reads Try.prog 42 (List Int) (fun x => [(E5.ro x)]) (fun x => (x.length * 1 ≤ 140737488351232 ∧ ∀ y ∈ x, (0 ≤ y ∧ y ≤ 255))) := reads_list E5 Try.underlying42 R5 rfl cells5 (by decide) bytes5 (by decide)
theorem R3 : Reads Try.prog 3 Int (fun x => [.raw (.int .i64 x)]) (fun x => (-9223372036854775808 ≤ x ∧ x ≤ 9223372036854775807)) := reads_i64 Try.underlying3
theorem R44 : Reads Try.prog 44 Api_Pipe (fun x => [(E5.ro x.Has), .raw (.int .i64 x.Writers), .raw (.int .i64 x.Readers)]) (fun x => (Ok_Api_Pipe x)) := (reads_struct Try.underlying44 (readsFs_cons R42 rfl cells42 rfl (readsFs_cons R3 rfl cells3 rfl (readsFs_cons R3 rfl cells3 rfl readsFs_nil))) (by kernel_rfl)).map (fun x => ⟨x.1, x.2.1, x.2.2.1⟩) _ _ (fun _ => rfl) (fun _ h => by obtain ⟨h0, h1, h2, -⟩ := h; exact ⟨h0, h1, h2⟩)
theorem R48 : Reads Try.prog 48 Api_PipeOp (fun x => [.raw (.int .i64 x.Kind), .raw (.int .i64 x.Most), (E5.ro x.Data)]) (fun x => (Ok_Api_PipeOp x)) := (reads_struct Try.underlying48 (readsFs_cons R3 rfl cells3 rfl (readsFs_cons R3 rfl cells3 rfl (readsFs_cons R42 rfl cells42 rfl readsFs_nil))) (by kernel_rfl)).map (fun x => ⟨x.1, x.2.1, x.2.2.1⟩) _ _ (fun _ => rfl) (fun _ h => by obtain ⟨h0, h1, h2, -⟩ := h; exact ⟨h0, h1, h2⟩)
theorem R52 : Reads Try.prog 52 (List Api_PipeOp) (fun x => [(E48.ro x)]) (fun x => (x.length * 40 ≤ 140737488351232 ∧ ∀ y ∈ x, (Ok_Api_PipeOp y))) := reads_list E48 Try.underlying52 R48 rfl cells48 (by decide) bytes48 (by decide)
theorem RU3 : ReadsU Try.prog 3 Int (fun x => [.raw (.int .i64 x)]) (fun x => (-9223372036854775808 ≤ x ∧ x ≤ 9223372036854775807)) := readsU_i64 Try.underlying3
theorem RU5 : ReadsU Try.prog 5 Int (fun x => [.raw (.int .u8 x)]) (fun x => (0 ≤ x ∧ x ≤ 255)) := readsU_u8 Try.underlying5
theorem RU42 : ReadsU Try.prog 42 (List Int) (fun x => [(E5.ro x)]) (fun x => (x.length ≤ 1048576 ∧ ∀ y ∈ x, (0 ≤ y ∧ y ≤ 255))) := readsU_list E5 Try.underlying42 RU5 rfl cells5 (by decide) bytes5 (by decide)
theorem RU48 : ReadsU Try.prog 48 Api_PipeOp (fun x => [.raw (.int .i64 x.Kind), .raw (.int .i64 x.Most), (E5.ro x.Data)]) (fun x => (OkU_Api_PipeOp x)) := (readsU_struct Try.underlying48 (readsFsU_cons RU3 rfl cells3 rfl (readsFsU_cons RU3 rfl cells3 rfl (readsFsU_cons RU42 rfl cells42 rfl readsFsU_nil))) (by kernel_rfl)).map (fun x => ⟨x.1, x.2.1, x.2.2.1⟩) _ _ (fun _ => rfl) (fun _ h => by obtain ⟨h0, h1, h2, -⟩ := h; exact ⟨h0, h1, h2⟩)
theorem RU52 : ReadsU Try.prog 52 (List Api_PipeOp) (fun x => [(E48.ro x)]) (fun x => (x.length ≤ 1048576 ∧ ∀ y ∈ x, (OkU_Api_PipeOp y))) := readsU_list E48 Try.underlying52 RU48 rfl cells48 (by decide) bytes48 (by decide)
end Go.Proofs.Ytfnhanmdfbdimaa
