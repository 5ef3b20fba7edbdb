import Derived.Test.YtfkoglicoabbaaaAbYh
import Derived.Sort.OwnSorted
set_option linter.unusedVariables false
set_option linter.unusedSimpArgs false
namespace Go.Ab
open Go.RowKit
variable {P : Program}
def cl2 (xs : List (Int × Int)) : List Value := xs.flatMap fun x => [.int .i64 x.1, .int .i64 x.2]
theorem cl2_get : ∀ (l : List (Int × Int)) (i : Nat), i < l.length → (cl2 l)[i * 2]? = some (.int .i64 (l.getD i (0, 0)).1) ∧ (cl2 l)[i * 2 + 1]? = some (.int .i64 (l.getD i (0, 0)).2)
 | x :: l, 0, _ => by simp [cl2]
 | x :: l, i + 1, h => by
  have e : cl2 (x :: l) = .int .i64 x.1 :: .int .i64 x.2 :: cl2 l := rfl
  have ih := cl2_get l i (by simpa using h)
  rw [e, show (i + 1) * 2 = i * 2 + 1 + 1 by omega, show i * 2 + 1 + 1 + 1 = (i * 2 + 1) + 1 + 1 by omega]
  simp only [List.getElem?_cons_succ, List.getD_cons_succ]
  exact ih
theorem cl2_length (l : List (Int × Int)) : (cl2 l).length = l.length * 2 := by
 induction l with
 | nil => rfl
 | cons x l ih =>
  have e : cl2 (x :: l) = .int .i64 x.1 :: .int .i64 x.2 :: cl2 l := rfl
  rw [e]; simp [ih]; omega
theorem cl2_one (l : List (Int × Int)) : ∀ u ∈ cl2 l, u.oneCell' = true := by
 intro u hu
 unfold cl2 at hu
 obtain ⟨x, _, hu⟩ := List.mem_flatMap.1 hu
 simp at hu
 rcases hu with rfl | rfl <;> rfl
end Go.Ab

