/- The law TicketOne: for all arguments the call returns true. No condition. -/
import Derived.Test.YtaadkjlooehhnaaQ8R
import Derived.Test.YtaadkjlooehhnaaQ8Pticket
import Derived.Test.YtaadkjlooehhnaaRows
import Derived.ProofKit
set_option linter.unusedSimpArgs false
set_option linter.unusedVariables false
namespace Go.Proofs.Ytaadkjlooehhnaa
open Go Go.Ab
open Go.ChangeShapes Go.WideShapes Go.ChangeAt Go.RowKit
set_option maxRecDepth 100000 in
theorem ticketOne_lifted (os : Os) (started : os.Started) (H : Type) (enc : TypeId × Value → H) :
    ReturnsInHanded {} Try.checked os 7 .any (Rows.ticketOneSpec.pre6 enc Try.prog Try.f7 Rows.ticketOneRow.domain false) (Rows.ticketOneSpec.post enc Try.prog Try.f7 false true false false) := by
  refine returnsInHanded_of_change_sized (C := Try.checked) own started (by kernel_rfl) Try.func7
    (ChangeSpec.witness6 (enc := enc) (C := Try.checked) false ⟨#[], #[.agg #[.int .i64 0, .int .i64 0, .int .i64 0, .int .i64 0, .int .i64 0, .int .i64 0, .int .i64 0, .int .i64 0, .int .i64 0, .int .i64 0, .bool false, .bool false, .bool false, .bool false, .bool false, .bool false, .bool false, .bool false], .agg #[.int .i64 0, .int .i64 0]], []⟩ 8 (by kernel_rfl) (by kernel_rfl) (by kernel_rfl) (by kernel_rfl)) ?_
  intro W base args ds gs before hval hW _ hsm _
  refine law_calls (al := true) (α := Api_Lock × Api_LockOp × Unit) (ok := fun x => (Ok_Api_Lock x.1) ∧ (Ok_Api_LockOp x.2.1) ∧ True) (t := 4) (by rw [Try.params7]; exact (readsL_agg R48 (.inl ⟨_, Try.underlying48⟩) (readsL_agg R50 (.inl ⟨_, Try.underlying50⟩) readsL_nil))) (fun x h => keep_TicketOne_ok x.1 x.2.1 true (TicketOne_true x.1 x.2.1 h.1 h.2.1)) laidOut (by rw [Try.params7]; decide +kernel) rfl rfl Try.underlying4 ?_ W base args ds gs before hval hW hsm
  intro ds hl
  have hl : ds.length = 2 := hl
  match ds, hl with
  | [d0, d1], _ => rfl
theorem ticketOne_proved : Rows.TicketOneSaid :=
  OpenClaim.holds_of_wide 7 Try.f7 rfl rfl rfl rfl rfl rfl rfl ⟨rfl, rfl, rfl, rfl, rfl⟩ rfl rfl rfl rfl rfl (by kernel_rfl) Try.func7 (by kernel_rfl)
    (of_decide_eq_true (by kernel_rfl)) (by unfold Func.isWrapper; first | (rw [if_pos (by decide +kernel)]; kernel_rfl) | (rw [if_neg (by decide +kernel)]; exact ⟨rfl, rfl⟩))
    (fun os started H enc _ => ticketOne_lifted os started H enc)

end Go.Proofs.Ytaadkjlooehhnaa
