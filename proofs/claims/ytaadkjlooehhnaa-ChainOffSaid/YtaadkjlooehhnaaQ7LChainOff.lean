/- The law ChainOff: for all arguments the call returns true. No condition. -/
import Derived.Test.YtaadkjlooehhnaaQ7R
import Derived.Test.YtaadkjlooehhnaaQ7Pchain
import Derived.Test.YtaadkjlooehhnaaRows
import Derived.ProofKit
set_option linter.unusedSimpArgs false
set_option linter.unusedVariables false
namespace Go.Proofs.Ytaadkjlooehhnaa
open Go Go.Ab
open Go.ChangeShapes Go.WideShapes Go.ChangeAt Go.RowKit
set_option maxRecDepth 100000 in
theorem chainOff_lifted (os : Os) (started : os.Started) (H : Type) (enc : TypeId × Value → H) :
    ReturnsInHanded {} Try.checked os 6 .any (Rows.chainOffSpec.pre6 enc Try.prog Try.f6 Rows.chainOffRow.domain false) (Rows.chainOffSpec.post enc Try.prog Try.f6 false true false false) := by
  refine returnsInHanded_of_change_sized (C := Try.checked) own started (by kernel_rfl) Try.func6
    (ChangeSpec.witness6 (enc := enc) (C := Try.checked) false ⟨#[], #[.slice none 0 0, .int .i64 0], []⟩ 8 (by kernel_rfl) (by kernel_rfl) (by kernel_rfl) (by kernel_rfl)) ?_
  intro W base args ds gs before hval hW _ hsm _
  refine law_calls (al := true) (α := (List Api_Handler) × Int × Unit) (ok := fun x => (x.1.length * 16 ≤ 140737488351232 ∧ ∀ y ∈ x.1, (Ok_Api_Handler y)) ∧ (-9223372036854775808 ≤ x.2.1 ∧ x.2.1 ≤ 9223372036854775807) ∧ True) (t := 4) (by rw [Try.params6]; exact (readsL_one R37 (.inr (.inr (.inr ⟨_, Try.underlying37⟩))) (readsL_one R3 (.inl ⟨_, Try.underlying3⟩) readsL_nil))) (fun x h => keep_ChainOff_ok x.1 x.2.1 true (ChainOff_true x.1 x.2.1 h.1 h.2.1)) laidOut (by rw [Try.params6]; decide +kernel) rfl rfl Try.underlying4 ?_ W base args ds gs before hval hW hsm
  intro ds hl
  have hl : ds.length = 2 := hl
  match ds, hl with
  | [d0, d1], _ => rfl
theorem chainOff_proved : Rows.ChainOffSaid :=
  OpenClaim.holds_of_wide 6 Try.f6 rfl rfl rfl rfl rfl rfl rfl ⟨rfl, rfl, rfl, rfl, rfl⟩ rfl rfl rfl rfl rfl (by kernel_rfl) Try.func6 (by kernel_rfl)
    (of_decide_eq_true (by kernel_rfl)) (by unfold Func.isWrapper; first | (rw [if_pos (by decide +kernel)]; kernel_rfl) | (rw [if_neg (by decide +kernel)]; exact ⟨rfl, rfl⟩))
    (fun os started H enc _ => chainOff_lifted os started H enc)

end Go.Proofs.Ytaadkjlooehhnaa
