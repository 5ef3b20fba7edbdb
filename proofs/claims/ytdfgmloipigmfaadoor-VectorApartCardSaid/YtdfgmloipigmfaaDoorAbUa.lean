/- What arrays read as. -/
import Derived.Test.YtdfgmloipigmfaaDoorAbZ
import Derived.OpenShut
set_option linter.unusedVariables false
set_option linter.unusedSimpArgs false
namespace Go.Ab
open Go.RowKit

theorem reads_array {P : Program} {t e : TypeId} {m : Nat} {α : Type} [Inhabited α] {pv : α → List PV} {ok : α → Prop} {s : Nat} (h : P.underlying t = some (.array m e)) (he : Reads P e α pv ok) (hs : P.cellsOf e = s) (hc : P.cellsOf t = m * s) :
    Reads P t (Nat → α) (fun x => (List.range m).flatMap fun i => pv (x i)) (fun x => ∀ i, i < m → ok (x i)) := by
  intro H enc w fuel cs d ps ht hsm
  obtain ⟨xs, n, rfl, hx, hl, hxl, hel⟩ := DataW.trod_array h ht
  simp only [Prod.mk.injEq] at hx
  obtain ⟨rfl, _⟩ := hx
  have key : ∀ i, i < m → ∃ x : α, RelPs (fun k => k < w.heap.size) w (pv x) ((cs.drop (i * s)).take s) ∧ ok x := by
    intro i hi
    have h1 := hel i hi
    rw [hs] at h1
    have hi' : i < xs.length := by omega
    rw [List.getElem?_eq_getElem hi'] at h1
    refine he H enc w n _ xs[i].1 xs[i].2 h1 fun q hq => hsm q ?_
    simp only [DataW.weights, h]
    exact weightsAll_mem (List.mem_map.2 ⟨xs[i], List.getElem_mem hi', rfl⟩) q hq
  let X : Nat → α := fun i => if hi : i < m then Classical.choose (key i hi) else default
  have hX : ∀ i, i < m → RelPs (fun k => k < w.heap.size) w (pv (X i)) ((cs.drop (i * s)).take s) ∧ ok (X i) := by
    intro i hi
    show RelPs _ w (pv (if hi : i < m then Classical.choose (key i hi) else default)) _ ∧ ok (if hi : i < m then Classical.choose (key i hi) else default)
    rw [dif_pos hi]
    exact Classical.choose_spec (key i hi)
  refine ⟨X, ?_, fun i hi => (hX i hi).2⟩
  have all : ∀ k, k ≤ m → RelPs (fun k => k < w.heap.size) w ((List.range k).flatMap fun i => pv (X i)) (cs.take (k * s)) := by
    intro k
    induction k with
    | zero => intro _; simp [RelPs]
    | succ k ih =>
      intro hk
      rw [List.range_succ, List.flatMap_append]
      simp only [List.flatMap_cons, List.flatMap_nil, List.append_nil]
      have e1 : cs.take ((k + 1) * s) = cs.take (k * s) ++ (cs.drop (k * s)).take s := by
        rw [Nat.add_mul, Nat.one_mul, List.take_add]
      rw [e1]
      exact (ih (by omega)).append (hX k (by omega)).1
  have := all m (Nat.le_refl _)
  rw [← hc, ← hl, List.take_length] at this
  exact this

end Go.Ab
