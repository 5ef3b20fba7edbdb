/- The law SoftPart: for all arguments the call returns true. No condition. -/
import Derived.Test.YtcbknmjbhjbifaaQ5R
import Derived.Test.YtcbknmjbhjbifaaQ5Psoft
import Derived.Test.YtcbknmjbhjbifaaRows
import Derived.ProofKit
set_option linter.unusedSimpArgs false
set_option linter.unusedVariables false
namespace Go.Proofs.Ytcbknmjbhjbifaa
open Go Go.Ab
open Go.ChangeShapes Go.WideShapes Go.ChangeAt Go.RowKit
set_option maxRecDepth 100000 in
theorem softPart_lifted (os : Os) (started : os.Started) (H : Type) (enc : TypeId × Value → H) :
    ReturnsInHanded {} Try.checked os 8 .any (Rows.softPartSpec.pre6 enc Try.prog Try.f8 Rows.softPartRow.domain false) (Rows.softPartSpec.post enc Try.prog Try.f8 false true false false) := by
  refine returnsInHanded_of_change_sized (C := Try.checked) own started (by kernel_rfl) Try.func8
    (ChangeSpec.witness6 (enc := enc) (C := Try.checked) false ⟨#[], #[.slice none 0 0, .slice none 0 0, .agg #[.int .i64 0, .int .i64 0]], []⟩ 8 (by kernel_rfl) (by kernel_rfl) (by kernel_rfl) (by kernel_rfl)) ?_
  intro W base args ds gs before hval hW _ hsm _
  refine law_calls (al := true) (α := (List Int) × (List Api_Raise) × Api_Raise × Unit) (ok := fun x => (x.1.length * 8 ≤ 140737488351232 ∧ ∀ y ∈ x.1, (-9223372036854775808 ≤ y ∧ y ≤ 9223372036854775807)) ∧ (x.2.1.length * 16 ≤ 140737488351232 ∧ ∀ y ∈ x.2.1, (Ok_Api_Raise y)) ∧ (Ok_Api_Raise x.2.2.1) ∧ True) (t := 4) (by rw [Try.params8]; exact (readsL_one R25 (.inr (.inr (.inr ⟨_, Try.underlying25⟩))) (readsL_one R36 (.inr (.inr (.inr ⟨_, Try.underlying36⟩))) (readsL_agg R41 (.inl ⟨_, Try.underlying41⟩) readsL_nil)))) (fun x h => keep_SoftPart_ok x.1 x.2.1 x.2.2.1 true (SoftPart_true x.1 x.2.1 x.2.2.1 h.1 h.2.1 h.2.2.1)) laidOut (by rw [Try.params8]; decide +kernel) rfl rfl Try.underlying4 ?_ W base args ds gs before hval hW hsm
  intro ds hl
  have hl : ds.length = 3 := hl
  match ds, hl with
  | [d0, d1, d2], _ => rfl
theorem softPart_proved : Rows.SoftPartSaid :=
  OpenClaim.holds_of_wide 8 Try.f8 rfl rfl rfl rfl rfl rfl rfl ⟨rfl, rfl, rfl, rfl, rfl⟩ rfl rfl rfl rfl rfl (by kernel_rfl) Try.func8 (by kernel_rfl)
    (of_decide_eq_true (by kernel_rfl)) (by unfold Func.isWrapper; first | (rw [if_pos (by decide +kernel)]; kernel_rfl) | (rw [if_neg (by decide +kernel)]; exact ⟨rfl, rfl⟩))
    (fun os started H enc _ => softPart_lifted os started H enc)

end Go.Proofs.Ytcbknmjbhjbifaa
