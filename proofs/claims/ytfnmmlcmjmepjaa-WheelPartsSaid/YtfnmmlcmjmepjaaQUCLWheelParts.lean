import Derived.Test.YtfnmmlcmjmepjaaQUCR
import Derived.Test.YtfnmmlcmjmepjaaQUCPwheel
import Derived.Test.YtfnmmlcmjmepjaaRows
import Derived.ProofKit
set_option linter.unusedSimpArgs false
set_option linter.unusedVariables false
namespace Go.Proofs.Ytfnmmlcmjmepjaa
open Go Go.Ab
open Go.ChangeShapes Go.WideShapes Go.ChangeAt Go.RowKit
set_option maxRecDepth 100000 in
theorem wheelParts_lifted (os : Os) (started : os.Started) (H : Type) (enc : TypeId × Value → H) :
  ReturnsInHanded {} Try.checked os 6 .any (Rows.wheelPartsSpec.pre6 enc Try.prog Try.f6 Rows.wheelPartsRow.domain false) (Rows.wheelPartsSpec.post enc Try.prog Try.f6 false true false false) := by
 refine returnsInHanded_of_change_sized (C := Try.checked) own started (by kernel_rfl) Try.func6
  (ChangeSpec.witness6 (enc := enc) (C := Try.checked) false ⟨#[], #[.slice none 0 0], []⟩ 8 (by kernel_rfl) (by kernel_rfl) (by kernel_rfl) (by kernel_rfl)) ?_
 intro W base args ds gs before hval hW _ hsm _
 refine law_calls (al := true) (α := (List Api_TimerOp) × Unit) (ok := fun x => (x.1.length * 24 ≤ 140737488351232 ∧ ∀ y ∈ x.1, (Ok_Api_TimerOp y)) ∧ True) (t := 4) (by rw [Try.params6]; exact (readsL_one R63 (.inr (.inr (.inr ⟨_, Try.underlying63⟩))) readsL_nil)) (fun x h => keep_WheelParts_ok x.1 true (WheelParts_true x.1 h.1)) laidOut (by rw [Try.params6]; decide +kernel) rfl rfl Try.underlying4 ?_ W base args ds gs before hval hW hsm (gok_nil (by kernel_rfl))
 intro ds hl
 have hl : ds.length = 1 := hl
 match ds, hl with
 | [d0], _ => rfl
theorem wheelParts_proved : Rows.WheelPartsSaid :=
 OpenClaim.holds_of_wide 6 Try.f6 rfl rfl rfl rfl rfl rfl rfl ⟨rfl, rfl, rfl, rfl, rfl⟩ rfl rfl rfl rfl rfl (by kernel_rfl) Try.func6 (by kernel_rfl)
  (of_decide_eq_true (by kernel_rfl)) (by unfold Func.isWrapper; first | (rw [if_pos (by decide +kernel)]; kernel_rfl) | (rw [if_neg (by decide +kernel)]; exact ⟨rfl, rfl⟩))
  (fun os started H enc _ => wheelParts_lifted os started H enc)
end Go.Proofs.Ytfnmmlcmjmepjaa

