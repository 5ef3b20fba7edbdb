import Derived.Test.YtaminiganaagiaaDoorAbV
import Derived.Test.YtaminiganaagiaaDoorAbY
set_option linter.unusedVariables false
set_option linter.unusedSimpArgs false
namespace Go.Ab
open Go.RowKit Go.ChangeShapes Go.WideShapes Go.ChangeAt
theorem okWide_cells {P : Program} {w : World} {base : Nat} {t : TypeId} {v : Value} (h : Value.okWide P w .any base t v) (hu : (∃ k, P.underlying t = some (.int k)) ∨ P.underlying t = some .bool ∨ P.underlying t = some .string ∨ ∃ e, P.underlying t = some (.slice e)) : v.cells = #[v] := by
 cases v with
 | agg cs =>
  exfalso
  unfold Value.okWide at h
  rcases hu with ⟨k, hu⟩ | hu | hu | ⟨e, hu⟩ <;> (rw [hu] at h; simp [Cell.okWide, hu, Cell.ok] at h)
 | _ => rfl
end Go.Ab

