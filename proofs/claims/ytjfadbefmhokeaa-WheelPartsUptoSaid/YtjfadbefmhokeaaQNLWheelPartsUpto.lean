/- The law WheelParts: for all arguments the call returns true. No condition. -/
import Derived.Test.YtjfadbefmhokeaaQNR
import Derived.Test.YtjfadbefmhokeaaQNPwheel
import Derived.Test.YtjfadbefmhokeaaRows
import Derived.ProofKit
set_option linter.unusedSimpArgs false
set_option linter.unusedVariables false
namespace Go.Proofs.Ytjfadbefmhokeaa
open Go Go.Ab
open Go.ChangeShapes Go.WideShapes Go.ChangeAt Go.RowKit
theorem wheelPartsU_one {H : Type} (d : DataW H) : 1 ≤ Rows.uptoBulk d := by
  cases d with
  | lit l => cases l <;> simp [Rows.uptoBulk]
  | _ => simp [Rows.uptoBulk]
def wheelPartsU_bulks (H : Type) : Bulks H := ⟨Rows.uptoBulk, Rows.uptoBulkAll, rfl, fun _ _ => rfl, fun _ => rfl, fun _ _ => rfl, fun _ => rfl, wheelPartsU_one⟩
set_option maxRecDepth 100000 in
theorem wheelPartsU_lifted (os : Os) (started : os.Started) (H : Type) (enc : TypeId × Value → H) (F : Stop.Interp) :
    ReturnsInHanded {} Try.checked os 4 .any ((Rows.OpenSpec.upto Rows.wheelPartsSpec).pre6 enc Try.prog Try.f4 Rows.wheelPartsUptoRow.domain false) (((Rows.OpenSpec.upto Rows.wheelPartsSpec).at F).post enc Try.prog Try.f4 false true false false) := by
  refine returnsInHanded_of_cond (C := Try.checked) (s := Rows.OpenSpec.upto Rows.wheelPartsSpec) (k := Rows.uptoSmall) rfl own started (by kernel_rfl) Try.func4
    (OpenSpec.witness (enc := enc) (C := Try.checked) (s := Rows.OpenSpec.upto Rows.wheelPartsSpec) (k := Rows.uptoSmall) rfl false ⟨#[], #[.slice none 0 0], []⟩ 8 (by kernel_rfl) (by kernel_rfl) (by kernel_rfl)
      (x := ([.nil], [], [])) (by kernel_rfl) rfl (by kernel_rfl)) ?_
  intro W base args ds gs before hval hW _ hk _
  refine law_callsU (s := Rows.wheelPartsSpec) (wheelPartsU_bulks H) (al := true) (α := (List Api_TimerOp) × Unit) (ok := fun x => (x.1.length ≤ 1048576 ∧ ∀ y ∈ x.1, (OkU_Api_TimerOp y)) ∧ True) (t := 4) (by rw [Try.params4]; exact (readsLU_one RU22 (.inr (.inr (.inr ⟨_, Try.underlying22⟩))) readsLU_nil)) (fun x h => keep_WheelParts_ok x.1 true (WheelParts_trueU x.1 h.1)) laidOut (by rw [Try.params4]; decide +kernel) rfl rfl Try.underlying4 ?_ W base args ds gs before hval hW (of_decide_eq_true hk) (gok_nil (by kernel_rfl))
  intro ds hl
  have hl : ds.length = 1 := hl
  match ds, hl with
  | [d0], _ => rfl
theorem wheelPartsUpto_proved : Rows.WheelPartsUptoSaid :=
  OpenClaim.holds_of_cond 4 Try.f4 rfl rfl rfl rfl rfl rfl rfl ⟨rfl, rfl, rfl, rfl, rfl⟩ rfl rfl rfl rfl rfl (by kernel_rfl) Try.func4 (by kernel_rfl)
    (of_decide_eq_true (by kernel_rfl)) (by unfold Func.isWrapper; first | (rw [if_pos (by decide +kernel)]; kernel_rfl) | (rw [if_neg (by decide +kernel)]; exact ⟨rfl, rfl⟩))
    (fun os started H enc _ F => wheelPartsU_lifted os started H enc F)

end Go.Proofs.Ytjfadbefmhokeaa
