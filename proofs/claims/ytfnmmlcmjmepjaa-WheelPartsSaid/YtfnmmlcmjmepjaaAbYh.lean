import Derived.Test.YtfnmmlcmjmepjaaAbYg
import Derived.Deep.Upon
import Derived.Deep.Draws
set_option linter.unusedVariables false
set_option linter.unusedSimpArgs false
namespace Go.Ab
open Go.RowKit
variable {P : Program} {T : Tab} {α : Type}
theorem setCells_block (b : Nat) : ∀ (vs : List Value) (o : Nat) (w : World) (cur : Array Value) (e : TypeId) (fr : Nat × Nat), w.heap[b]? = some (.cells cur e fr) → o + vs.length ≤ cur.size →
  ∃ (h : Array Obj) (cur' : Array Value), w.setCells b o vs = { w with heap := h } ∧ h.size = w.heap.size ∧ (∀ k, k ≠ b → h[k]? = w.heap[k]?) ∧ h[b]? = some (.cells cur' e fr) ∧ cur'.size = cur.size ∧
   (∀ j, j < vs.length → cur'[o + j]? = vs[j]?) ∧ (∀ j, j < o → cur'[j]? = cur[j]?)
 | [], o, w, cur, e, fr, hb, _ => ⟨w.heap, cur, rfl, rfl, fun _ _ => rfl, hb, rfl, fun j hj => by simp at hj, fun _ _ => rfl⟩
 | v :: r, o, w, cur, e, fr, hb, hl => by
  simp only [List.length_cons] at hl
  have hblt : b < w.heap.size := (Array.getElem?_eq_some_iff.1 hb).1
  have hbv : w.heap[b] = .cells cur e fr := (Array.getElem?_eq_some_iff.1 hb).2
  have h1 : (w.setCell ⟨b, o, none⟩ v).heap[b]? = some (.cells (cur.setIfInBounds o v) e fr) := by
   unfold World.setCell
   rw [Array.getElem?_eq_getElem (by simpa using hblt), Array.getElem_modify]
   simp [hbv]
  have h2 : ∀ k, k ≠ b → (w.setCell ⟨b, o, none⟩ v).heap[k]? = w.heap[k]? := by
   intro k hk
   unfold World.setCell
   simp only [Array.getElem?_modify]
   rw [if_neg (Ne.symm hk)]
  obtain ⟨h, cur', e1, e2, e3, e4, e5, e6, e7⟩ := setCells_block b r (o + 1) (w.setCell ⟨b, o, none⟩ v) (cur.setIfInBounds o v) e fr h1 (by simp; omega)
  refine ⟨h, cur', ?_, ?_, ?_, e4, by rw [e5]; simp, ?_, ?_⟩
  ·rw [World.setCells, e1]; rfl
  ·rw [e2]; simp [World.setCell]
  ·intro k hk; rw [e3 k hk, h2 k hk]
  ·intro j hj
   cases j with
   | zero =>
    rw [Nat.add_zero, e7 o (by omega), Array.getElem?_eq_getElem (by simp; omega)]
    simp
   | succ j =>
    have := e6 j (by simpa using hj)
    rw [show o + 1 + j = o + (j + 1) by omega] at this
    simpa using this
  ·intro j hj
   rw [e7 j (by omega)]
   simp [Array.getElem?_setIfInBounds]
   omega
end Go.Ab

