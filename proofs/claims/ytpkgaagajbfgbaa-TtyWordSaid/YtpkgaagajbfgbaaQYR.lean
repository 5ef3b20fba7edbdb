/- What is read of the arguments: printed by program. -/
import Derived.Test.YtpkgaagajbfgbaaQYW1
import Derived.Test.YtpkgaagajbfgbaaAbUa
import Derived.Test.YtpkgaagajbfgbaaAbZu
import Derived.ProofKit
set_option linter.unusedSimpArgs false
set_option linter.unusedVariables false
namespace Go.Proofs.Ytpkgaagajbfgbaa
open Go Go.Ab
open Go.ChangeShapes Go.WideShapes Go.ChangeAt Go.RowKit
theorem own : ownKnob Try.prog.godebug = none := by kernel_rfl
theorem laidOut : laidOutB Try.prog = true := by kernel_rfl
theorem cells5 : Try.prog.cellsOf 5 = 1 := by kernel_rfl
theorem bytes5 : Try.prog.bytesOf 5 = 1 := by kernel_rfl
theorem cells24 : Try.prog.cellsOf 24 = 1 := by kernel_rfl
theorem bytes24 : Try.prog.bytesOf 24 = 24 := by kernel_rfl
theorem cells22 : Try.prog.cellsOf 22 = 1 := by kernel_rfl
theorem R3 : Reads Try.prog 3 Int (fun x => [.raw (.int .i64 x)]) (fun x => (-9223372036854775808 ≤ x ∧ x ≤ 9223372036854775807)) := reads_i64 Try.underlying3
theorem R5 : Reads Try.prog 5 Int (fun x => [.raw (.int .u8 x)]) (fun x => (0 ≤ x ∧ x ≤ 255)) := reads_u8 Try.underlying5
theorem R24 : Reads Try.prog 24 (List Int) (fun x => [(E5.ro x)]) (fun x => (x.length * 1 ≤ 140737488351232 ∧ ∀ y ∈ x, (0 ≤ y ∧ y ≤ 255))) := reads_list E5 Try.underlying24 R5 rfl cells5 (by decide) bytes5 (by decide)
theorem R22 : Reads Try.prog 22 (List (List Int)) (fun x => [(E24.ro x)]) (fun x => (x.length * 24 ≤ 140737488351232 ∧ ∀ y ∈ x, (y.length * 1 ≤ 140737488351232 ∧ ∀ z ∈ y, (0 ≤ z ∧ z ≤ 255)))) := reads_list E24 Try.underlying22 R24 rfl cells24 (by decide) bytes24 (by decide)
theorem R28 : Reads Try.prog 28 Api_Tty (fun x => [(E24.ro x.Lines), (E5.ro x.Edit)]) (fun x => (Ok_Api_Tty x)) := (reads_struct Try.underlying28 (readsFs_cons R22 rfl cells22 rfl (readsFs_cons R24 rfl cells24 rfl readsFs_nil)) (by kernel_rfl)).map (fun x => ⟨x.1, x.2.1⟩) _ _ (fun _ => rfl) (fun _ h => by obtain ⟨h0, h1, -⟩ := h; exact ⟨h0, h1⟩)
theorem RU5 : ReadsU Try.prog 5 Int (fun x => [.raw (.int .u8 x)]) (fun x => (0 ≤ x ∧ x ≤ 255)) := readsU_u8 Try.underlying5
theorem RU24 : ReadsU Try.prog 24 (List Int) (fun x => [(E5.ro x)]) (fun x => (x.length ≤ 1048576 ∧ ∀ y ∈ x, (0 ≤ y ∧ y ≤ 255))) := readsU_list E5 Try.underlying24 RU5 rfl cells5 (by decide) bytes5 (by decide)
end Go.Proofs.Ytpkgaagajbfgbaa
