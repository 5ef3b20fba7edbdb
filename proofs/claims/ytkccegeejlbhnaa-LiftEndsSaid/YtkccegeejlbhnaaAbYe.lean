/- A slice built of slices that are parts of others: told as what they hold. -/
import Derived.Test.YtkccegeejlbhnaaAbYm
set_option linter.unusedVariables false
set_option linter.unusedSimpArgs false
namespace Go.Ab
open Go.RowKit
variable {P : Program} {T : Tab} {α : Type}

/-- Cells told anew: a part of a slice as the list that it holds. -/
def SubEq : List AV → List AV → Prop
  | [], [] => True
  | x :: xs, y :: ys => (x = y ∨ (∃ s n n' c c', x = .pv (.ro s n c) ∧ y = .pv (.ro s n' c') ∧ n = n' ∧ ∀ i, i < n → ∀ j, j < s → c i j = c' i j)) ∧ SubEq xs ys
  | _, _ => False
theorem SubEq.get {ρ : Nat → Option Nat} {D F : Nat → Prop} {H : Heap} {p : PV} : ∀ {cs ds : List AV} {k : Nat}, SubEq cs ds → ds[k]? = some (.pv p) → ∃ x, cs[k]? = some x ∧ Wk ρ D F H x (.pv p)
  | [], [], k, _, h => by simp at h
  | [], _ :: _, _, hn, _ => hn.elim
  | _ :: _, [], _, hn, _ => hn.elim
  | x :: xs, y :: ys, 0, hn, h => by
    simp only [List.getElem?_cons_zero, Option.some.injEq] at h
    subst h
    refine ⟨x, rfl, ?_⟩
    rcases hn.1 with rfl | ⟨s, n, n', c, c', rfl, hy, rfl, hcc⟩
    · exact .pv _
    · rw [hy]
      exact .roro s n c c' fun i hi j hj => by rw [hcc i hi j hj]; exact .pv _
  | x :: xs, y :: ys, k + 1, hn, h => by
    simp only [List.getElem?_cons_succ] at h ⊢
    exact hn.2.get h

theorem bsS_ok {Q : Exit → AS → Prop} {l : Lf} {d e s n : Nat} {cs ds : List AV} (E : Elem α) (xs : List α) (hv : bsV T l = some (d, e, s, n, cs)) (hE : E.s = s) (hn : n = xs.length) (hd : E.cR xs = ds) (hc : SubEq cs ds) (hf : l.σ.seen (fid (some d) 0) = false)
    (hk : VS P T Q l.rest .normal (l.σ.frz (some d) (.pv (E.ro xs)) [(fid (some d) 0, .row e s cs)] [])) : V P T Q l := by
  subst hE hd
  unfold bsV at hv
  split at hv
  · rename_i d' o hh
    split at hv
    · rename_i t len parts hop
      split at hv
      · rename_i e' _ _ _ _ ht
        split at hv
        · rename_i ti hti
          simp only at hv
          revert hv
          cases hb : Nat.blt 0 ti.size && Nat.ble (len * ti.size) 16777216 && Nat.beq ti.zero.cells.size ti.size && fillB (fun i => some (i * ti.size, ti.size)) ((repCells (ti.zero.cells.toList) 0 (len * ti.size)).map AV.raw) (parts.toList.map fun p => (p.1, l.σ.bev p.2)) && (fillAV (fun i => some (i * ti.size, ti.size)) ((repCells (ti.zero.cells.toList) 0 (len * ti.size)).map AV.raw) (parts.toList.map fun p => (p.1, l.σ.bev p.2))).2.all AV.one with
          | false => intro hv; cases hv
          | true =>
            intro hv
            simp only [cond_true, Option.some.injEq, Prod.mk.injEq] at hv
            obtain ⟨rfl, rfl, hs, hl, hcs⟩ := hv
            simp only [Bool.and_eq_true] at hb
            obtain ⟨⟨⟨⟨h1, h2⟩, h3⟩, h4⟩, h5⟩ := hb
            refine hardFu_ok (T := T) hh (by rw [hop]; rfl) (e := _) rfl (.pv (E.ro xs)) ?_ ?_ ?_ ?_
            all_goals (unfold effOf; simp only [hop, ht, hti])
            · exact ⟨Nat.le_of_ble_eq_true h1, Nat.le_of_ble_eq_true h2, beq_t h3, fillB_ok h4, h5⟩
            · rw [hcs, hs, hl, hn]
              have hg := fun i j (hi : i < xs.length) (hj : j < E.s) => hc.get (ρ := fun _ => none) (D := fun _ => False) (F := fun _ => True) (H := setH (fun _ => none) [(fid (some d') 0, .row e' E.s cs)]) (E.cR_get xs hi hj)
              refine Wk.row _ e' E.s 0 xs.length cs _ (fun i j => (cs[(0 + i) * E.s + j]?).getD .junk) trivial (by simp [setH, upd]) (fun i hi j hj => ?_) (fun i hi j hj => ?_)
              · obtain ⟨x, hx, _⟩ := hg i j hi hj
                rw [Nat.zero_add, hx]; rfl
              · obtain ⟨x, hx, hw⟩ := hg i j hi hj
                rw [Nat.zero_add, hx]; exact hw
            · exact ⟨hf, trivial⟩
            · rw [hcs, hs]; exact hk
        · cases hv
      · cases hv
    · cases hv
  · cases hv

end Go.Ab
