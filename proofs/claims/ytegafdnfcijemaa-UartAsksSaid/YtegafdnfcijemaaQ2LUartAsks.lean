/- The law UartAsks: for all arguments the call returns true. No condition. -/
import Derived.Test.YtegafdnfcijemaaQ2R
import Derived.Test.YtegafdnfcijemaaQ2Puart
import Derived.Test.YtegafdnfcijemaaRows
import Derived.ProofKit
set_option linter.unusedSimpArgs false
set_option linter.unusedVariables false
namespace Go.Proofs.Ytegafdnfcijemaa
open Go Go.Ab
open Go.ChangeShapes Go.WideShapes Go.ChangeAt Go.RowKit
set_option maxRecDepth 100000 in
theorem uartAsks_lifted (os : Os) (started : os.Started) (H : Type) (enc : TypeId × Value → H) :
    ReturnsInHanded {} Try.checked os 9 .any (Rows.uartAsksSpec.pre6 enc Try.prog Try.f9 Rows.uartAsksRow.domain false) (Rows.uartAsksSpec.post enc Try.prog Try.f9 false true false false) := by
  refine returnsInHanded_of_change_sized (C := Try.checked) own started (by kernel_rfl) Try.func9
    (ChangeSpec.witness6 (enc := enc) (C := Try.checked) false ⟨#[], #[.agg #[.slice none 0 0, .slice none 0 0, .int .i64 0, .bool false]], []⟩ 8 (by kernel_rfl) (by kernel_rfl) (by kernel_rfl) (by kernel_rfl)) ?_
  intro W base args ds gs before hval hW _ hsm _
  refine law_calls (al := true) (α := Api_Uart × Unit) (ok := fun x => (Ok_Api_Uart x.1) ∧ True) (t := 4) (by rw [Try.params9]; exact (readsL_agg R44 (.inl ⟨_, Try.underlying44⟩) readsL_nil)) (fun x h => keep_UartAsks_ok x.1 true (UartAsks_true x.1 h.1)) laidOut (by rw [Try.params9]; decide +kernel) rfl rfl Try.underlying4 ?_ W base args ds gs before hval hW hsm
  intro ds hl
  have hl : ds.length = 1 := hl
  match ds, hl with
  | [d0], _ => rfl
theorem uartAsks_proved : Rows.UartAsksSaid :=
  OpenClaim.holds_of_wide 9 Try.f9 rfl rfl rfl rfl rfl rfl rfl ⟨rfl, rfl, rfl, rfl, rfl⟩ rfl rfl rfl rfl rfl (by kernel_rfl) Try.func9 (by kernel_rfl)
    (of_decide_eq_true (by kernel_rfl)) (by unfold Func.isWrapper; first | (rw [if_pos (by decide +kernel)]; kernel_rfl) | (rw [if_neg (by decide +kernel)]; exact ⟨rfl, rfl⟩))
    (fun os started H enc _ => uartAsks_lifted os started H enc)

end Go.Proofs.Ytegafdnfcijemaa
