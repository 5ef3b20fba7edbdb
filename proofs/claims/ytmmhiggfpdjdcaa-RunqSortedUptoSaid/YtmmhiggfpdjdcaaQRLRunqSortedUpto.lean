/- The law RunqSorted: for all arguments the call returns true. No condition. -/
import Derived.Test.YtmmhiggfpdjdcaaQRR
import Derived.Test.YtmmhiggfpdjdcaaQRPrunq
import Derived.Test.YtmmhiggfpdjdcaaRows
import Derived.ProofKit
set_option linter.unusedSimpArgs false
set_option linter.unusedVariables false
namespace Go.Proofs.Ytmmhiggfpdjdcaa
open Go Go.Ab
open Go.ChangeShapes Go.WideShapes Go.ChangeAt Go.RowKit
theorem runqSortedU_one {H : Type} (d : DataW H) : 1 ≤ Rows.uptoBulk d := by
  cases d with
  | lit l => cases l <;> simp [Rows.uptoBulk]
  | _ => simp [Rows.uptoBulk]
def runqSortedU_bulks (H : Type) : Bulks H := ⟨Rows.uptoBulk, Rows.uptoBulkAll, rfl, fun _ _ => rfl, fun _ => rfl, fun _ _ => rfl, fun _ => rfl, runqSortedU_one⟩
set_option maxRecDepth 100000 in
theorem runqSortedU_lifted (os : Os) (started : os.Started) (H : Type) (enc : TypeId × Value → H) (F : Stop.Interp) :
    ReturnsInHanded {} Try.checked os 5 .any ((Rows.OpenSpec.upto Rows.runqSortedSpec).pre6 enc Try.prog Try.f5 Rows.runqSortedUptoRow.domain false) (((Rows.OpenSpec.upto Rows.runqSortedSpec).at F).post enc Try.prog Try.f5 false true false false) := by
  refine returnsInHanded_of_cond (C := Try.checked) (s := Rows.OpenSpec.upto Rows.runqSortedSpec) (k := Rows.uptoSmall) rfl own started (by kernel_rfl) Try.func5
    (OpenSpec.witness (enc := enc) (C := Try.checked) (s := Rows.OpenSpec.upto Rows.runqSortedSpec) (k := Rows.uptoSmall) rfl false ⟨#[], #[.slice none 0 0], []⟩ 8 (by kernel_rfl) (by kernel_rfl) (by kernel_rfl)
      (x := ([.nil], [], [])) (by kernel_rfl) rfl (by kernel_rfl)) ?_
  intro W base args ds gs before hval hW _ hk _
  refine law_callsU (s := Rows.runqSortedSpec) (runqSortedU_bulks H) (al := true) (α := (List Api_RunOp) × Unit) (ok := fun x => (x.1.length ≤ 1048576 ∧ ∀ y ∈ x.1, (OkU_Api_RunOp y)) ∧ True) (t := 4) (by rw [Try.params5]; exact (readsLU_one RU22 (.inr (.inr (.inr ⟨_, Try.underlying22⟩))) readsLU_nil)) (fun x h => keep_RunqSorted_ok x.1 true (RunqSorted_trueU x.1 h.1)) laidOut (by rw [Try.params5]; decide +kernel) rfl rfl Try.underlying4 ?_ W base args ds gs before hval hW (of_decide_eq_true hk) (gok_nil (by kernel_rfl))
  intro ds hl
  have hl : ds.length = 1 := hl
  match ds, hl with
  | [d0], _ => rfl
theorem runqSortedUpto_proved : Rows.RunqSortedUptoSaid :=
  OpenClaim.holds_of_cond 5 Try.f5 rfl rfl rfl rfl rfl rfl rfl ⟨rfl, rfl, rfl, rfl, rfl⟩ rfl rfl rfl rfl rfl (by kernel_rfl) Try.func5 (by kernel_rfl)
    (of_decide_eq_true (by kernel_rfl)) (by unfold Func.isWrapper; first | (rw [if_pos (by decide +kernel)]; kernel_rfl) | (rw [if_neg (by decide +kernel)]; exact ⟨rfl, rfl⟩))
    (fun os started H enc _ F => runqSortedU_lifted os started H enc F)

end Go.Proofs.Ytmmhiggfpdjdcaa
