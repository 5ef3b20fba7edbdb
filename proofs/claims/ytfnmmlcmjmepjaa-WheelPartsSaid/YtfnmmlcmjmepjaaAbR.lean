import Derived.Test.YtfnmmlcmjmepjaaAbQ
set_option linter.unusedVariables false
namespace Go.Ab
theorem tabRow {P : Program} {t : TypeId} {d : TypeDesc} {z : Value} {s b : Nat} (h1 : P.underlying t = some d) (h2 : (P.info? t).map (fun i => (i.zero, i.size, i.bytes)) = some (some z, s, b)) :
  P.underlying t = some (TI.mk d s b z false).under ∧ ∃ info, P.info? t = some info ∧ info.size = (TI.mk d s b z false).size ∧ info.bytes = (TI.mk d s b z false).bytes ∧ info.zero = some (TI.mk d s b z false).zero ∧ ((TI.mk d s b z false).cmp = true → P.stoodInHeld t = false ∧ P.eqGuardType P.depth t = false) := by
 refine ⟨h1, ?_⟩
 cases hi : P.info? t with
 | none => rw [hi] at h2; cases h2
 | some info =>
  rw [hi] at h2
  simp only [Option.map_some, Option.some.injEq, Prod.mk.injEq] at h2
  exact ⟨info, rfl, h2.2.1, h2.2.2, h2.1, fun h => (by cases h)⟩
theorem tabRowC {P : Program} {t : TypeId} {d : TypeDesc} {z : Value} {s b : Nat} (h1 : P.underlying t = some d) (h2 : (P.info? t).map (fun i => (i.zero, i.size, i.bytes)) = some (some z, s, b)) (h3 : P.stoodInHeld t = false ∧ P.eqGuardType P.depth t = false) :
  P.underlying t = some (TI.mk d s b z true).under ∧ ∃ info, P.info? t = some info ∧ info.size = (TI.mk d s b z true).size ∧ info.bytes = (TI.mk d s b z true).bytes ∧ info.zero = some (TI.mk d s b z true).zero ∧ ((TI.mk d s b z true).cmp = true → P.stoodInHeld t = false ∧ P.eqGuardType P.depth t = false) := by
 obtain ⟨a, info, b, c, d, e, _⟩ := tabRow h1 h2
 exact ⟨a, info, b, c, d, e, fun _ => h3⟩
end Go.Ab

