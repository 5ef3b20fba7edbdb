import Derived.Test.YtaminiganaagiaaDoorAbS
import Derived.WalkKit
import Derived.ProofKit
import Derived.OpenShut
import Derived.JoinedCond
import Derived.SizedLaws
import Derived.DataReads
set_option linter.unusedVariables false
set_option linter.unusedSimpArgs false
namespace Go.Ab
open Go.RowKit
def RelPs (R : Nat → Prop) (w : World) : List PV → List Value → Prop
 | [], [] => True
 | p :: ps, v :: vs => (RelP R w p v ∧ v.oneCell' = true) ∧ RelPs R w ps vs
 | _, _ => False
theorem RelPs.get {R : Nat → Prop} {w : World} : ∀ {ps : List PV} {vs : List Value}, RelPs R w ps vs → ps.length = vs.length ∧ ∀ (j : Nat) (p : PV), ps[j]? = some p → ∃ v, vs[j]? = some v ∧ RelP R w p v ∧ v.oneCell' = true
 | [], [], _ => ⟨rfl, by simp⟩
 | p :: ps, v :: vs, h => by
  obtain ⟨h1, h2⟩ := RelPs.get h.2
  refine ⟨by simp [h1], fun j q hj => ?_⟩
  cases j with
  | zero => simp at hj; subst hj; exact ⟨v, rfl, h.1⟩
  | succ j => exact h2 j q (by simpa using hj)
 | [], _ :: _, h => h.elim
 | _ :: _, [], h => h.elim
theorem RelPs.append {R : Nat → Prop} {w : World} : ∀ {ps qs : List PV} {vs us : List Value}, RelPs R w ps vs → RelPs R w qs us → RelPs R w (ps ++ qs) (vs ++ us)
 | [], _, [], _, _, h => h
 | p :: ps, _, v :: vs, _, h, h' => ⟨h.1, RelPs.append h.2 h'⟩
 | [], _, _ :: _, _, h, _ => h.elim
 | _ :: _, _, [], _, h, _ => h.elim
def Small (l : List Nat) : Prop := ∀ n ∈ l, n ≤ reachBytes
def Reads (P : Program) (t : TypeId) (α : Type) (pv : α → List PV) (ok : α → Prop) : Prop :=
 ∀ (H : Type) (enc : TypeId × Value → H) (w : World) (fuel : Nat) (cs : List Value) (d : DataW H) (ps : List MemPlace), DataW.trod enc P w 0 (fun _ => true) true fuel t cs = some (d, ps) → Small (d.weights P t) →
  ∃ x, RelPs (fun k => k < w.heap.size) w (pv x) cs ∧ ok x
theorem cell_lt {w : World} {a : Addr} {v : Value} (h : w.cell? a = some v) : a.block < w.heap.size ∧ a.spot = none := by
 unfold World.cell? at h
 split at h
 ·rename_i hb
  refine ⟨(Array.getElem?_eq_some_iff.1 hb).1, ?_⟩
  cases hs : a.spot with
  | none => rfl
  | some _ => rw [hs] at h; simp at h
 ·cases h
theorem cells_get {w : World} {a : Addr} {s : Nat} {cs : List Value} (h : w.cells? 0 a s = some cs) : cs.length = s ∧ ∀ j, j < s → w.cell? (a.add j) = cs[j]? := by
 unfold World.cells? at h
 rw [if_pos (Nat.zero_le _)] at h
 have hl := mapM_some_length h
 rw [List.length_range] at hl
 exact ⟨hl, fun j hj => mapM_some_get h j j (by simp [hj])⟩
theorem add_add {g o k j : Nat} : (Addr.add (Addr.add ⟨g, o, none⟩ k) j) = ⟨g, o + k + j, none⟩ := by
 unfold Addr.add
 split <;> split <;> simp_all
theorem Reads.map {P : Program} {t : TypeId} {α β : Type} {pv : α → List PV} {ok : α → Prop} (h : Reads P t α pv ok) (g : α → β) (pv' : β → List PV) (ok' : β → Prop) (h1 : ∀ x, pv' (g x) = pv x) (h2 : ∀ x, ok x → ok' (g x)) : Reads P t β pv' ok' := by
 intro H enc w fuel cs d ps ht hs
 obtain ⟨x, hx, ho⟩ := h H enc w fuel cs d ps ht hs
 exact ⟨g x, by rw [h1]; exact hx, h2 x ho⟩
theorem rel_one {ι : Emb} {R : Nat → Prop} {w : World} {p : PV} {v : Value} (hv : v.cells = #[v]) (h : RelPs R w [p] v.cells.toList) : RelA ι R w (.pv p) v := by
 rw [hv] at h
 simp only [RelA]
 exact h.1.1
end Go.Ab

