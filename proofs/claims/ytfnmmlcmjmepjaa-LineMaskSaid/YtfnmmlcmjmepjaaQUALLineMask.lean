import Derived.Test.YtfnmmlcmjmepjaaQUAR
import Derived.Test.YtfnmmlcmjmepjaaQUAPline
import Derived.Test.YtfnmmlcmjmepjaaRows
import Derived.ProofKit
set_option linter.unusedSimpArgs false
set_option linter.unusedVariables false
namespace Go.Proofs.Ytfnmmlcmjmepjaa
open Go Go.Ab
open Go.ChangeShapes Go.WideShapes Go.ChangeAt Go.RowKit
set_option maxRecDepth 100000 in
theorem lineMask_lifted (os : Os) (started : os.Started) (H : Type) (enc : TypeId × Value → H) :
  ReturnsInHanded {} Try.checked os 3 .any (Rows.lineMaskSpec.pre6 enc Try.prog Try.f3 Rows.lineMaskRow.domain false) (Rows.lineMaskSpec.post enc Try.prog Try.f3 false true false false) := by
 refine returnsInHanded_of_change_sized (C := Try.checked) own started (by kernel_rfl) Try.func3
  (ChangeSpec.witness6 (enc := enc) (C := Try.checked) false ⟨#[], #[.slice none 0 0, .slice none 0 0, .int .i64 0, .int .i64 0], []⟩ 8 (by kernel_rfl) (by kernel_rfl) (by kernel_rfl) (by kernel_rfl)) ?_
 intro W base args ds gs before hval hW _ hsm _
 refine law_calls (al := true) (α := (List Api_Pin) × (List Api_PinOp) × Int × Int × Unit) (ok := fun x => (x.1.length * 24 ≤ 140737488351232 ∧ ∀ y ∈ x.1, (Ok_Api_Pin y)) ∧ (x.2.1.length * 16 ≤ 140737488351232 ∧ ∀ y ∈ x.2.1, (Ok_Api_PinOp y)) ∧ (-9223372036854775808 ≤ x.2.2.1 ∧ x.2.2.1 ≤ 9223372036854775807) ∧ (-9223372036854775808 ≤ x.2.2.2.1 ∧ x.2.2.2.1 ≤ 9223372036854775807) ∧ True) (t := 4) (by rw [Try.params3]; exact (readsL_one R22 (.inr (.inr (.inr ⟨_, Try.underlying22⟩))) (readsL_one R23 (.inr (.inr (.inr ⟨_, Try.underlying23⟩))) (readsL_one R3 (.inl ⟨_, Try.underlying3⟩) (readsL_one R3 (.inl ⟨_, Try.underlying3⟩) readsL_nil))))) (fun x h => keep_LineMask_ok x.1 x.2.1 x.2.2.1 x.2.2.2.1 true (LineMask_true x.1 x.2.1 x.2.2.1 x.2.2.2.1 h.1 h.2.1 h.2.2.1 h.2.2.2.1)) laidOut (by rw [Try.params3]; decide +kernel) rfl rfl Try.underlying4 ?_ W base args ds gs before hval hW hsm (gok_nil (by kernel_rfl))
 intro ds hl
 have hl : ds.length = 4 := hl
 match ds, hl with
 | [d0, d1, d2, d3], _ => rfl
theorem lineMask_proved : Rows.LineMaskSaid :=
 OpenClaim.holds_of_wide 3 Try.f3 rfl rfl rfl rfl rfl rfl rfl ⟨rfl, rfl, rfl, rfl, rfl⟩ rfl rfl rfl rfl rfl (by kernel_rfl) Try.func3 (by kernel_rfl)
  (of_decide_eq_true (by kernel_rfl)) (by unfold Func.isWrapper; first | (rw [if_pos (by decide +kernel)]; kernel_rfl) | (rw [if_neg (by decide +kernel)]; exact ⟨rfl, rfl⟩))
  (fun os started H enc _ => lineMask_lifted os started H enc)
end Go.Proofs.Ytfnmmlcmjmepjaa

