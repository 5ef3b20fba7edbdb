/- The law TicketStill: for all arguments the call returns true. No condition. -/
import Derived.Test.YtaadkjlooehhnaaQSR
import Derived.Test.YtaadkjlooehhnaaQSPticket
import Derived.Test.YtaadkjlooehhnaaRows
import Derived.ProofKit
set_option linter.unusedSimpArgs false
set_option linter.unusedVariables false
namespace Go.Proofs.Ytaadkjlooehhnaa
open Go Go.Ab
open Go.ChangeShapes Go.WideShapes Go.ChangeAt Go.RowKit
set_option maxRecDepth 100000 in
theorem ticketStill_lifted (os : Os) (started : os.Started) (H : Type) (enc : TypeId × Value → H) :
    ReturnsInHanded {} Try.checked os 10 .any (Rows.ticketStillSpec.pre6 enc Try.prog Try.f10 Rows.ticketStillRow.domain false) (Rows.ticketStillSpec.post enc Try.prog Try.f10 false true false false) := by
  refine returnsInHanded_of_change_sized (C := Try.checked) own started (by kernel_rfl) Try.func10
    (ChangeSpec.witness6 (enc := enc) (C := Try.checked) false ⟨#[], #[.agg #[.int .i64 0, .int .i64 0, .int .i64 0, .int .i64 0, .int .i64 0, .int .i64 0, .int .i64 0, .int .i64 0, .int .i64 0, .int .i64 0, .bool false, .bool false, .bool false, .bool false, .bool false, .bool false, .bool false, .bool false], .int .i64 0], []⟩ 8 (by kernel_rfl) (by kernel_rfl) (by kernel_rfl) (by kernel_rfl)) ?_
  intro W base args ds gs before hval hW _ hsm _
  refine law_calls (al := true) (α := Api_Lock × Int × Unit) (ok := fun x => (Ok_Api_Lock x.1) ∧ (-9223372036854775808 ≤ x.2.1 ∧ x.2.1 ≤ 9223372036854775807) ∧ True) (t := 4) (by rw [Try.params10]; exact (readsL_agg R48 (.inl ⟨_, Try.underlying48⟩) (readsL_one R3 (.inl ⟨_, Try.underlying3⟩) readsL_nil))) (fun x h => keep_TicketStill_ok x.1 x.2.1 true (TicketStill_true x.1 x.2.1 h.1 h.2.1)) laidOut (by rw [Try.params10]; decide +kernel) rfl rfl Try.underlying4 ?_ W base args ds gs before hval hW hsm (gok_nil (by kernel_rfl))
  intro ds hl
  have hl : ds.length = 2 := hl
  match ds, hl with
  | [d0, d1], _ => rfl
theorem ticketStill_proved : Rows.TicketStillSaid :=
  OpenClaim.holds_of_wide 10 Try.f10 rfl rfl rfl rfl rfl rfl rfl ⟨rfl, rfl, rfl, rfl, rfl⟩ rfl rfl rfl rfl rfl (by kernel_rfl) Try.func10 (by kernel_rfl)
    (of_decide_eq_true (by kernel_rfl)) (by unfold Func.isWrapper; first | (rw [if_pos (by decide +kernel)]; kernel_rfl) | (rw [if_neg (by decide +kernel)]; exact ⟨rfl, rfl⟩))
    (fun os started H enc _ => ticketStill_lifted os started H enc)

end Go.Proofs.Ytaadkjlooehhnaa
