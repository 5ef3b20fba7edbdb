/- The law NicStream: for all arguments the call returns true. No condition. -/
import Derived.Test.YtfnhanmdfbdimaaQCR
import Derived.Test.YtfnhanmdfbdimaaQCPnic
import Derived.Test.YtfnhanmdfbdimaaRows
import Derived.ProofKit
set_option linter.unusedSimpArgs false
set_option linter.unusedVariables false
namespace Go.Proofs.Ytfnhanmdfbdimaa
open Go Go.Ab
open Go.ChangeShapes Go.WideShapes Go.ChangeAt Go.RowKit
theorem nicStreamU_one {H : Type} (d : DataW H) : 1 ≤ Rows.uptoBulk d := by
  cases d with
  | lit l => cases l <;> simp [Rows.uptoBulk]
  | _ => simp [Rows.uptoBulk]
def nicStreamU_bulks (H : Type) : Bulks H := ⟨Rows.uptoBulk, Rows.uptoBulkAll, rfl, fun _ _ => rfl, fun _ => rfl, fun _ _ => rfl, fun _ => rfl, nicStreamU_one⟩
set_option maxRecDepth 100000 in
theorem nicStreamU_lifted (os : Os) (started : os.Started) (H : Type) (enc : TypeId × Value → H) (F : Stop.Interp) :
    ReturnsInHanded {} Try.checked os 6 .any ((Rows.OpenSpec.upto Rows.nicStreamSpec).pre6 enc Try.prog Try.f6 Rows.nicStreamUptoRow.domain false) (((Rows.OpenSpec.upto Rows.nicStreamSpec).at F).post enc Try.prog Try.f6 false true false false) := by
  refine returnsInHanded_of_cond (C := Try.checked) (s := Rows.OpenSpec.upto Rows.nicStreamSpec) (k := Rows.uptoSmall) rfl own started (by kernel_rfl) Try.func6
    (OpenSpec.witness (enc := enc) (C := Try.checked) (s := Rows.OpenSpec.upto Rows.nicStreamSpec) (k := Rows.uptoSmall) rfl false ⟨#[], #[.int .i64 0, .slice none 0 0], []⟩ 8 (by kernel_rfl) (by kernel_rfl) (by kernel_rfl)
      (x := ([.lit (.int .i64 0), .nil], [], [])) (by kernel_rfl) rfl (by kernel_rfl)) ?_
  intro W base args ds gs before hval hW _ hk _
  refine law_callsU (s := Rows.nicStreamSpec) (nicStreamU_bulks H) (al := true) (α := Int × (List Api_NicOp) × Unit) (ok := fun x => (-9223372036854775808 ≤ x.1 ∧ x.1 ≤ 9223372036854775807) ∧ (x.2.1.length ≤ 1048576 ∧ ∀ y ∈ x.2.1, (OkU_Api_NicOp y)) ∧ True) (t := 4) (by rw [Try.params6]; exact (readsLU_one RU3 (.inl ⟨_, Try.underlying3⟩) (readsLU_one RU22 (.inr (.inr (.inr ⟨_, Try.underlying22⟩))) readsLU_nil))) (fun x h => keep_NicStream_ok x.1 x.2.1 true (NicStream_trueU x.1 x.2.1 h.1 h.2.1)) laidOut (by rw [Try.params6]; decide +kernel) rfl rfl Try.underlying4 ?_ W base args ds gs before hval hW (of_decide_eq_true hk)
  intro ds hl
  have hl : ds.length = 2 := hl
  match ds, hl with
  | [d0, d1], _ => rfl
theorem nicStreamUpto_proved : Rows.NicStreamUptoSaid :=
  OpenClaim.holds_of_cond 6 Try.f6 rfl rfl rfl rfl rfl rfl rfl ⟨rfl, rfl, rfl, rfl, rfl⟩ rfl rfl rfl rfl rfl (by kernel_rfl) Try.func6 (by kernel_rfl)
    (of_decide_eq_true (by kernel_rfl)) (by unfold Func.isWrapper; first | (rw [if_pos (by decide +kernel)]; kernel_rfl) | (rw [if_neg (by decide +kernel)]; exact ⟨rfl, rfl⟩))
    (fun os started H enc _ F => nicStreamU_lifted os started H enc F)

end Go.Proofs.Ytfnhanmdfbdimaa
