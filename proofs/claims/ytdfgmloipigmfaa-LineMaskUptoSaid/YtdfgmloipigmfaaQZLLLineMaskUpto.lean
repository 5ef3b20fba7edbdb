/- The law LineMask: for all arguments the call returns true. No condition. -/
import Derived.Test.YtdfgmloipigmfaaQZLR
import Derived.Test.YtdfgmloipigmfaaQZLPline
import Derived.Test.YtdfgmloipigmfaaRows
import Derived.ProofKit
set_option linter.unusedSimpArgs false
set_option linter.unusedVariables false
namespace Go.Proofs.Ytdfgmloipigmfaa
open Go Go.Ab
open Go.ChangeShapes Go.WideShapes Go.ChangeAt Go.RowKit
theorem lineMaskU_one {H : Type} (d : DataW H) : 1 ≤ Rows.uptoBulk d := by
  cases d with
  | lit l => cases l <;> simp [Rows.uptoBulk]
  | _ => simp [Rows.uptoBulk]
def lineMaskU_bulks (H : Type) : Bulks H := ⟨Rows.uptoBulk, Rows.uptoBulkAll, rfl, fun _ _ => rfl, fun _ => rfl, fun _ _ => rfl, fun _ => rfl, lineMaskU_one⟩
set_option maxRecDepth 100000 in
theorem lineMaskU_lifted (os : Os) (started : os.Started) (H : Type) (enc : TypeId × Value → H) (F : Stop.Interp) :
    ReturnsInHanded {} Try.checked os 8 .any ((Rows.OpenSpec.upto Rows.lineMaskSpec).pre6 enc Try.prog Try.f8 Rows.lineMaskUptoRow.domain false) (((Rows.OpenSpec.upto Rows.lineMaskSpec).at F).post enc Try.prog Try.f8 false true false false) := by
  refine returnsInHanded_of_cond (C := Try.checked) (s := Rows.OpenSpec.upto Rows.lineMaskSpec) (k := Rows.uptoSmall) rfl own started (by kernel_rfl) Try.func8
    (OpenSpec.witness (enc := enc) (C := Try.checked) (s := Rows.OpenSpec.upto Rows.lineMaskSpec) (k := Rows.uptoSmall) rfl false ⟨#[], #[.slice none 0 0, .slice none 0 0, .int .i64 0, .int .i64 0], []⟩ 8 (by kernel_rfl) (by kernel_rfl) (by kernel_rfl)
      (x := ([.nil, .nil, .lit (.int .i64 0), .lit (.int .i64 0)], [], [])) (by kernel_rfl) rfl (by kernel_rfl)) ?_
  intro W base args ds gs before hval hW _ hk _
  refine law_callsU (s := Rows.lineMaskSpec) (lineMaskU_bulks H) (al := true) (α := (List Api_Pin) × (List Api_PinOp) × Int × Int × Unit) (ok := fun x => (x.1.length ≤ 1048576 ∧ ∀ y ∈ x.1, (OkU_Api_Pin y)) ∧ (x.2.1.length ≤ 1048576 ∧ ∀ y ∈ x.2.1, (OkU_Api_PinOp y)) ∧ (-9223372036854775808 ≤ x.2.2.1 ∧ x.2.2.1 ≤ 9223372036854775807) ∧ (-9223372036854775808 ≤ x.2.2.2.1 ∧ x.2.2.2.1 ≤ 9223372036854775807) ∧ True) (t := 4) (by rw [Try.params8]; exact (readsLU_one RU64 (.inr (.inr (.inr ⟨_, Try.underlying64⟩))) (readsLU_one RU65 (.inr (.inr (.inr ⟨_, Try.underlying65⟩))) (readsLU_one RU3 (.inl ⟨_, Try.underlying3⟩) (readsLU_one RU3 (.inl ⟨_, Try.underlying3⟩) readsLU_nil))))) (fun x h => keep_LineMask_ok x.1 x.2.1 x.2.2.1 x.2.2.2.1 true (LineMask_trueU x.1 x.2.1 x.2.2.1 x.2.2.2.1 h.1 h.2.1 h.2.2.1 h.2.2.2.1)) laidOut (by rw [Try.params8]; decide +kernel) rfl rfl Try.underlying4 ?_ W base args ds gs before hval hW (of_decide_eq_true hk) (gok_nil (by kernel_rfl))
  intro ds hl
  have hl : ds.length = 4 := hl
  match ds, hl with
  | [d0, d1, d2, d3], _ => rfl
theorem lineMaskUpto_proved : Rows.LineMaskUptoSaid :=
  OpenClaim.holds_of_cond 8 Try.f8 rfl rfl rfl rfl rfl rfl rfl ⟨rfl, rfl, rfl, rfl, rfl⟩ rfl rfl rfl rfl rfl (by kernel_rfl) Try.func8 (by kernel_rfl)
    (of_decide_eq_true (by kernel_rfl)) (by unfold Func.isWrapper; first | (rw [if_pos (by decide +kernel)]; kernel_rfl) | (rw [if_neg (by decide +kernel)]; exact ⟨rfl, rfl⟩))
    (fun os started H enc _ F => lineMaskU_lifted os started H enc F)

end Go.Proofs.Ytdfgmloipigmfaa
