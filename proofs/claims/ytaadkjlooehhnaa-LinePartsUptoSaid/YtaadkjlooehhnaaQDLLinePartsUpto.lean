/- The law LineParts: for all arguments the call returns true. No condition. -/
import Derived.Test.YtaadkjlooehhnaaQDR
import Derived.Test.YtaadkjlooehhnaaQDPline
import Derived.Test.YtaadkjlooehhnaaRows
import Derived.ProofKit
set_option linter.unusedSimpArgs false
set_option linter.unusedVariables false
namespace Go.Proofs.Ytaadkjlooehhnaa
open Go Go.Ab
open Go.ChangeShapes Go.WideShapes Go.ChangeAt Go.RowKit
theorem linePartsU_one {H : Type} (d : DataW H) : 1 ≤ Rows.uptoBulk d := by
  cases d with
  | lit l => cases l <;> simp [Rows.uptoBulk]
  | _ => simp [Rows.uptoBulk]
def linePartsU_bulks (H : Type) : Bulks H := ⟨Rows.uptoBulk, Rows.uptoBulkAll, rfl, fun _ _ => rfl, fun _ => rfl, fun _ _ => rfl, fun _ => rfl, linePartsU_one⟩
set_option maxRecDepth 100000 in
theorem linePartsU_lifted (os : Os) (started : os.Started) (H : Type) (enc : TypeId × Value → H) (F : Stop.Interp) :
    ReturnsInHanded {} Try.checked os 13 .any ((Rows.OpenSpec.upto Rows.linePartsSpec).pre6 enc Try.prog Try.f13 Rows.linePartsUptoRow.domain false) (((Rows.OpenSpec.upto Rows.linePartsSpec).at F).post enc Try.prog Try.f13 false true false false) := by
  refine returnsInHanded_of_cond (C := Try.checked) (s := Rows.OpenSpec.upto Rows.linePartsSpec) (k := Rows.uptoSmall) rfl own started (by kernel_rfl) Try.func13
    (OpenSpec.witness (enc := enc) (C := Try.checked) (s := Rows.OpenSpec.upto Rows.linePartsSpec) (k := Rows.uptoSmall) rfl false ⟨#[], #[.slice none 0 0, .slice none 0 0, .slice none 0 0], []⟩ 8 (by kernel_rfl) (by kernel_rfl) (by kernel_rfl)
      (x := ([.nil, .nil, .nil], [], [])) (by kernel_rfl) rfl (by kernel_rfl)) ?_
  intro W base args ds gs before hval hW _ hk _
  refine law_callsU (s := Rows.linePartsSpec) (linePartsU_bulks H) (al := true) (α := (List Api_Pin) × (List Api_PinOp) × (List Api_PinOp) × Unit) (ok := fun x => (x.1.length ≤ 1048576 ∧ ∀ y ∈ x.1, (OkU_Api_Pin y)) ∧ (x.2.1.length ≤ 1048576 ∧ ∀ y ∈ x.2.1, (OkU_Api_PinOp y)) ∧ (x.2.2.1.length ≤ 1048576 ∧ ∀ y ∈ x.2.2.1, (OkU_Api_PinOp y)) ∧ True) (t := 4) (by rw [Try.params13]; exact (readsLU_one RU22 (.inr (.inr (.inr ⟨_, Try.underlying22⟩))) (readsLU_one RU34 (.inr (.inr (.inr ⟨_, Try.underlying34⟩))) (readsLU_one RU34 (.inr (.inr (.inr ⟨_, Try.underlying34⟩))) readsLU_nil)))) (fun x h => keep_LineParts_ok x.1 x.2.1 x.2.2.1 true (LineParts_trueU x.1 x.2.1 x.2.2.1 h.1 h.2.1 h.2.2.1)) laidOut (by rw [Try.params13]; decide +kernel) rfl rfl Try.underlying4 ?_ W base args ds gs before hval hW (of_decide_eq_true hk)
  intro ds hl
  have hl : ds.length = 3 := hl
  match ds, hl with
  | [d0, d1, d2], _ => rfl
theorem linePartsUpto_proved : Rows.LinePartsUptoSaid :=
  OpenClaim.holds_of_cond 13 Try.f13 rfl rfl rfl rfl rfl rfl rfl ⟨rfl, rfl, rfl, rfl, rfl⟩ rfl rfl rfl rfl rfl (by kernel_rfl) Try.func13 (by kernel_rfl)
    (of_decide_eq_true (by kernel_rfl)) (by unfold Func.isWrapper; first | (rw [if_pos (by decide +kernel)]; kernel_rfl) | (rw [if_neg (by decide +kernel)]; exact ⟨rfl, rfl⟩))
    (fun os started H enc _ F => linePartsU_lifted os started H enc F)

end Go.Proofs.Ytaadkjlooehhnaa
