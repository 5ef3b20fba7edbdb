import Derived.Test.YtfnmmlcmjmepjaaQUBR
import Derived.Test.YtfnmmlcmjmepjaaQUBPpipe
import Derived.Test.YtfnmmlcmjmepjaaRows
import Derived.ProofKit
set_option linter.unusedSimpArgs false
set_option linter.unusedVariables false
namespace Go.Proofs.Ytfnmmlcmjmepjaa
open Go Go.Ab
open Go.ChangeShapes Go.WideShapes Go.ChangeAt Go.RowKit
set_option maxRecDepth 100000 in
theorem pipeEnd_lifted (os : Os) (started : os.Started) (H : Type) (enc : TypeId × Value → H) :
  ReturnsInHanded {} Try.checked os 4 .any (Rows.pipeEndSpec.pre6 enc Try.prog Try.f4 Rows.pipeEndRow.domain false) (Rows.pipeEndSpec.post enc Try.prog Try.f4 false true false false) := by
 refine returnsInHanded_of_change_sized (C := Try.checked) own started (by kernel_rfl) Try.func4
  (ChangeSpec.witness6 (enc := enc) (C := Try.checked) false ⟨#[], #[.slice none 0 0, .int .i64 0], []⟩ 8 (by kernel_rfl) (by kernel_rfl) (by kernel_rfl) (by kernel_rfl)) ?_
 intro W base args ds gs before hval hW _ hsm _
 refine law_calls (al := true) (α := (List Api_PipeOp) × Int × Unit) (ok := fun x => (x.1.length * 40 ≤ 140737488351232 ∧ ∀ y ∈ x.1, (Ok_Api_PipeOp y)) ∧ (-9223372036854775808 ≤ x.2.1 ∧ x.2.1 ≤ 9223372036854775807) ∧ True) (t := 4) (by rw [Try.params4]; exact (readsL_one R41 (.inr (.inr (.inr ⟨_, Try.underlying41⟩))) (readsL_one R3 (.inl ⟨_, Try.underlying3⟩) readsL_nil))) (fun x h => keep_PipeEnd_ok x.1 x.2.1 true (PipeEnd_true x.1 x.2.1 h.1 h.2.1)) laidOut (by rw [Try.params4]; decide +kernel) rfl rfl Try.underlying4 ?_ W base args ds gs before hval hW hsm (gok_nil (by kernel_rfl))
 intro ds hl
 have hl : ds.length = 2 := hl
 match ds, hl with
 | [d0, d1], _ => rfl
theorem pipeEnd_proved : Rows.PipeEndSaid :=
 OpenClaim.holds_of_wide 4 Try.f4 rfl rfl rfl rfl rfl rfl rfl ⟨rfl, rfl, rfl, rfl, rfl⟩ rfl rfl rfl rfl rfl (by kernel_rfl) Try.func4 (by kernel_rfl)
  (of_decide_eq_true (by kernel_rfl)) (by unfold Func.isWrapper; first | (rw [if_pos (by decide +kernel)]; kernel_rfl) | (rw [if_neg (by decide +kernel)]; exact ⟨rfl, rfl⟩))
  (fun os started H enc _ => pipeEnd_lifted os started H enc)
end Go.Proofs.Ytfnmmlcmjmepjaa

