/- The law PipeEnd: for all arguments the call returns true. No condition. -/
import Derived.Test.YtfnhanmdfbdimaaQPR
import Derived.Test.YtfnhanmdfbdimaaQPPpipe
import Derived.Test.YtfnhanmdfbdimaaRows
import Derived.ProofKit
set_option linter.unusedSimpArgs false
set_option linter.unusedVariables false
namespace Go.Proofs.Ytfnhanmdfbdimaa
open Go Go.Ab
open Go.ChangeShapes Go.WideShapes Go.ChangeAt Go.RowKit
theorem pipeEndU_one {H : Type} (d : DataW H) : 1 ≤ Rows.uptoBulk d := by
  cases d with
  | lit l => cases l <;> simp [Rows.uptoBulk]
  | _ => simp [Rows.uptoBulk]
def pipeEndU_bulks (H : Type) : Bulks H := ⟨Rows.uptoBulk, Rows.uptoBulkAll, rfl, fun _ _ => rfl, fun _ => rfl, fun _ _ => rfl, fun _ => rfl, pipeEndU_one⟩
set_option maxRecDepth 100000 in
theorem pipeEndU_lifted (os : Os) (started : os.Started) (H : Type) (enc : TypeId × Value → H) (F : Stop.Interp) :
    ReturnsInHanded {} Try.checked os 8 .any ((Rows.OpenSpec.upto Rows.pipeEndSpec).pre6 enc Try.prog Try.f8 Rows.pipeEndUptoRow.domain false) (((Rows.OpenSpec.upto Rows.pipeEndSpec).at F).post enc Try.prog Try.f8 false true false false) := by
  refine returnsInHanded_of_cond (C := Try.checked) (s := Rows.OpenSpec.upto Rows.pipeEndSpec) (k := Rows.uptoSmall) rfl own started (by kernel_rfl) Try.func8
    (OpenSpec.witness (enc := enc) (C := Try.checked) (s := Rows.OpenSpec.upto Rows.pipeEndSpec) (k := Rows.uptoSmall) rfl false ⟨#[], #[.slice none 0 0, .int .i64 0], []⟩ 8 (by kernel_rfl) (by kernel_rfl) (by kernel_rfl)
      (x := ([.nil, .lit (.int .i64 0)], [], [])) (by kernel_rfl) rfl (by kernel_rfl)) ?_
  intro W base args ds gs before hval hW _ hk _
  refine law_callsU (s := Rows.pipeEndSpec) (pipeEndU_bulks H) (al := true) (α := (List Api_PipeOp) × Int × Unit) (ok := fun x => (x.1.length ≤ 1048576 ∧ ∀ y ∈ x.1, (OkU_Api_PipeOp y)) ∧ (-9223372036854775808 ≤ x.2.1 ∧ x.2.1 ≤ 9223372036854775807) ∧ True) (t := 4) (by rw [Try.params8]; exact (readsLU_one RU52 (.inr (.inr (.inr ⟨_, Try.underlying52⟩))) (readsLU_one RU3 (.inl ⟨_, Try.underlying3⟩) readsLU_nil))) (fun x h => keep_PipeEnd_ok x.1 x.2.1 true (PipeEnd_trueU x.1 x.2.1 h.1 h.2.1)) laidOut (by rw [Try.params8]; decide +kernel) rfl rfl Try.underlying4 ?_ W base args ds gs before hval hW (of_decide_eq_true hk) (gok_nil (by kernel_rfl))
  intro ds hl
  have hl : ds.length = 2 := hl
  match ds, hl with
  | [d0, d1], _ => rfl
theorem pipeEndUpto_proved : Rows.PipeEndUptoSaid :=
  OpenClaim.holds_of_cond 8 Try.f8 rfl rfl rfl rfl rfl rfl rfl ⟨rfl, rfl, rfl, rfl, rfl⟩ rfl rfl rfl rfl rfl (by kernel_rfl) Try.func8 (by kernel_rfl)
    (of_decide_eq_true (by kernel_rfl)) (by unfold Func.isWrapper; first | (rw [if_pos (by decide +kernel)]; kernel_rfl) | (rw [if_neg (by decide +kernel)]; exact ⟨rfl, rfl⟩))
    (fun os started H enc _ F => pipeEndU_lifted os started H enc F)

end Go.Proofs.Ytfnhanmdfbdimaa
