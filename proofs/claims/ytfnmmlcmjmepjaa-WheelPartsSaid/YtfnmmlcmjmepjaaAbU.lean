import Derived.Test.YtfnmmlcmjmepjaaAbS
import Derived.WalkKit
import Derived.ProofKit
import Derived.OpenShut
import Derived.JoinedCond
import Derived.SizedLaws
import Derived.DataReads
set_option linter.unusedVariables false
set_option linter.unusedSimpArgs false
namespace Go.Ab
open Go.RowKit
def RelPs (R : Nat → Prop) (w : World) : List PV → List Value → Prop
 | [], [] => True
 | p :: ps, v :: vs => (RelP R w p v ∧ v.oneCell' = true) ∧ RelPs R w ps vs
 | _, _ => False
theorem RelPs.get {R : Nat → Prop} {w : World} : ∀ {ps : List PV} {vs : List Value}, RelPs R w ps vs → ps.length = vs.length ∧ ∀ (j : Nat) (p : PV), ps[j]? = some p → ∃ v, vs[j]? = some v ∧ RelP R w p v ∧ v.oneCell' = true
 | [], [], _ => ⟨rfl, by simp⟩
 | p :: ps, v :: vs, h => by
  obtain ⟨h1, h2⟩ := RelPs.get h.2
  refine ⟨by simp [h1], fun j q hj => ?_⟩
  cases j with
  | zero => simp at hj; subst hj; exact ⟨v, rfl, h.1⟩
  | succ j => exact h2 j q (by simpa using hj)
 | [], _ :: _, h => h.elim
 | _ :: _, [], h => h.elim
theorem RelPs.append {R : Nat → Prop} {w : World} : ∀ {ps qs : List PV} {vs us : List Value}, RelPs R w ps vs → RelPs R w qs us → RelPs R w (ps ++ qs) (vs ++ us)
 | [], _, [], _, _, h => h
 | p :: ps, _, v :: vs, _, h, h' => ⟨h.1, RelPs.append h.2 h'⟩
 | [], _, _ :: _, _, h, _ => h.elim
 | _ :: _, _, [], _, h, _ => h.elim
def Small (l : List Nat) : Prop := ∀ n ∈ l, n ≤ reachBytes
def Reads (P : Program) (t : TypeId) (α : Type) (pv : α → List PV) (ok : α → Prop) : Prop :=
 ∀ (H : Type) (enc : TypeId × Value → H) (w : World) (fuel : Nat) (cs : List Value) (d : DataW H) (ps : List MemPlace), DataW.trod enc P w 0 (fun _ => true) true fuel t cs = some (d, ps) → Small (d.weights P t) →
  ∃ x, RelPs (fun k => k < w.heap.size) w (pv x) cs ∧ ok x
theorem reads_int {P : Program} {t : TypeId} {k : IntKind} (h : P.underlying t = some (.int k)) : Reads P t Int (fun n => [.raw (.int k n)]) (fun n => (Lit.int k n).wf = true) := by
 intro H enc w fuel cs d ps ht _
 obtain ⟨n, rfl, _, hw⟩ := DataW.trod_int h ht
 exact ⟨n, ⟨⟨rfl, rfl⟩, trivial⟩, hw⟩
theorem weightsAll_mem {H : Type} {P : Program} {e : TypeId} : ∀ {l : List (DataW H)} {d : DataW H}, d ∈ l → ∀ n ∈ d.weights P e, n ∈ DataW.weightsAll P e l
 | x :: l, d, hd, n, hn => by
  simp only [DataW.weightsAll, List.mem_append]
  rcases List.mem_cons.1 hd with rfl | hd
  ·exact .inl hn
  ·exact .inr (weightsAll_mem hd n hn)
theorem cell_lt {w : World} {a : Addr} {v : Value} (h : w.cell? a = some v) : a.block < w.heap.size ∧ a.spot = none := by
 unfold World.cell? at h
 split at h
 ·rename_i hb
  refine ⟨(Array.getElem?_eq_some_iff.1 hb).1, ?_⟩
  cases hs : a.spot with
  | none => rfl
  | some _ => rw [hs] at h; simp at h
 ·cases h
theorem cells_get {w : World} {a : Addr} {s : Nat} {cs : List Value} (h : w.cells? 0 a s = some cs) : cs.length = s ∧ ∀ j, j < s → w.cell? (a.add j) = cs[j]? := by
 unfold World.cells? at h
 rw [if_pos (Nat.zero_le _)] at h
 have hl := mapM_some_length h
 rw [List.length_range] at hl
 exact ⟨hl, fun j hj => mapM_some_get h j j (by simp [hj])⟩
theorem add_add {g o k j : Nat} : (Addr.add (Addr.add ⟨g, o, none⟩ k) j) = ⟨g, o + k + j, none⟩ := by
 unfold Addr.add
 split <;> split <;> simp_all
theorem reads_slice {P : Program} {t e : TypeId} {α : Type} [Inhabited α] {pv : α → List PV} {ok : α → Prop} {s b : Nat} (c : List α → Nat → Nat → PV) (h : P.underlying t = some (.slice e)) (he : Reads P e α pv ok) (hs : P.cellsOf e = s) (hs0 : 0 < s)
  (hb : P.bytesOf e = b) (hb0 : 0 < b) (hc : ∀ xs i, i < xs.length → ∀ j, j < s → (pv (xs.getD i default))[j]? = some (c xs i j)) :
  Reads P t (List α) (fun xs => [.ro s xs.length (c xs)]) (fun xs => xs.length * b ≤ reachBytes ∧ ∀ x ∈ xs, ok x) := by
 intro H enc w fuel cs d ps ht hsm
 rcases DataW.trod_slice h ht with ⟨rfl, _⟩ | ⟨a, len, cap, elems, rest, n, rfl, rfl, hx, _, hl, hm, hlen, hel, _, _⟩
 ·exact ⟨[], ⟨⟨⟨none, 0, rfl, Nat.le_refl _, by simp, fun h => absurd h (by simp)⟩, rfl⟩, trivial⟩, by simp, by simp⟩
 ·simp only [Prod.mk.injEq] at hx
  obtain ⟨rfl, _⟩ := hx
  rw [hs] at hel
  have key : ∀ i, ∃ x, i < len → ok x ∧ ∃ cs', w.cells? 0 (a.add (i * s)) s = some cs' ∧ RelPs (fun k => k < w.heap.size) w (pv x) cs' := by
   intro i
   by_cases hi : i < len
   ·have h1 := hel i hi
    rw [List.getElem?_eq_getElem (by omega)] at h1
    cases hcs : w.cells? 0 (a.add (i * s)) s with
    | none => rw [hcs] at h1; cases h1
    | some cs' =>
     rw [hcs] at h1
     obtain ⟨x, hx1, hx2⟩ := he H enc w n cs' _ _ h1 (fun m hm => hsm m (by
      simp only [DataW.weights, h, List.mem_cons, List.mem_append]
      exact .inr (.inl (weightsAll_mem (List.mem_map.2 ⟨elems[i], List.getElem_mem _, rfl⟩) m hm))))
     exact ⟨x, fun _ => ⟨hx2, cs', rfl, hx1⟩⟩
   ·exact ⟨default, fun h => absurd h hi⟩
  let X : Nat → α := fun i => Classical.choose (key i)
  have hX : ∀ i, i < len → ok (X i) ∧ ∃ cs', w.cells? 0 (a.add (i * s)) s = some cs' ∧ RelPs (fun k => k < w.heap.size) w (pv (X i)) cs' := fun i => Classical.choose_spec (key i)
  have hlb : len * b ≤ reachBytes := by
   have := hsm ((elems.length + rest.length) * b) (by simp [DataW.weights, h, hb])
   rw [hlen] at this
   exact Nat.le_trans (Nat.mul_le_mul_right _ (by omega)) this
  have hlen' : ((List.range len).map X).length = len := by simp
  refine ⟨(List.range len).map X, ⟨⟨⟨some a, cap, by rw [hlen'], by rw [hlen']; exact hl, ?_, ?_⟩, rfl⟩, trivial⟩, by rw [hlen']; exact hlb, ?_⟩
  ·rw [hlen']
   have h1 : len ≤ len * b := Nat.le_mul_of_pos_right _ hb0
   have h2 : reachBytes ≤ 140737488355328 := by decide
   omega
  ·rw [hlen']
   intro h0
   obtain ⟨_, cs0, hc0, hr0⟩ := hX 0 h0
   obtain ⟨l0, g0⟩ := cells_get hc0
   have hg := g0 0 hs0
   rw [List.getElem?_eq_getElem (by omega), Nat.zero_mul] at hg
   have ha : (a.add 0).add 0 = a := by simp [Addr.add]
   rw [ha] at hg
   obtain ⟨hlt, hsp⟩ := cell_lt hg
   obtain ⟨g, o, sp⟩ := a
   simp only at hsp
   subst hsp
   refine ⟨g, o, rfl, hlt, fun i hi j hj => ?_⟩
   obtain ⟨_, ci, hci, hri⟩ := hX i hi
   obtain ⟨li, gi⟩ := cells_get hci
   have hpx := hc ((List.range len).map X) i (by simpa using hi) j hj
   have hgd : ((List.range len).map X).getD i default = X i := by simp [List.getD_eq_getElem?_getD, hi]
   rw [hgd] at hpx
   obtain ⟨v, hv1, hv2, hv3⟩ := hri.get.2 j _ hpx
   refine ⟨v, ?_, hv3, hv2⟩
   have := gi j hj
   rw [add_add, hv1] at this
   exact this
  ·intro x hx
   obtain ⟨i, hi, rfl⟩ := List.mem_map.1 hx
   exact (hX i (by simpa using hi)).1
def ReadsFs (P : Program) (fs : List Field) (off : Nat) (α : Type) (pv : α → List PV) (ok : α → Prop) : Prop :=
 ∀ (H : Type) (enc : TypeId × Value → H) (w : World) (n : Nat) (cs : List Value) (xs : List (DataW H × List MemPlace)), cs.length = off + (fs.map fun f => P.cellsOf f.type).sum →
  (∀ (i : Nat) (f : Field), fs[i]? = some f → DataW.trod enc P w 0 (fun _ => true) true n f.type ((cs.drop f.offset).take (P.cellsOf f.type)) = xs[i]?) → xs.length = fs.length →
  Small (DataW.weightsEach P (fs.map (·.type)) (xs.map (·.1))) → ∃ x, RelPs (fun k => k < w.heap.size) w (pv x) (cs.drop off) ∧ ok x
theorem readsFs_nil {P : Program} {off : Nat} : ReadsFs P [] off Unit (fun _ => []) (fun _ => True) := by
 intro H enc w n cs xs hl _ _ _
 have : cs.drop off = [] := List.drop_eq_nil_of_le (by simpa using Nat.le_of_eq hl)
 rw [this]
 exact ⟨(), trivial, trivial⟩
theorem readsFs_cons {P : Program} {f : Field} {fs : List Field} {off off' s : Nat} {α β : Type} {pv : α → List PV} {ok : α → Prop} {pv' : β → List PV} {ok' : β → Prop} (hf : Reads P f.type α pv ok) (ho : f.offset = off) (hs : P.cellsOf f.type = s) (ho' : off' = off + s)
  (hfs : ReadsFs P fs off' β pv' ok') : ReadsFs P (f :: fs) off (α × β) (fun x => pv x.1 ++ pv' x.2) (fun x => ok x.1 ∧ ok' x.2) := by
 intro H enc w n cs xs hl hx hxl hsm
 match xs, hxl with
 | x :: xs, hxl =>
  subst ho'
  simp only [List.map_cons, List.sum_cons, hs] at hl
  have h0 := hx 0 f rfl
  rw [ho, hs] at h0
  simp only [List.map_cons, DataW.weightsEach] at hsm
  obtain ⟨a, ha, hoka⟩ := hf H enc w n _ x.1 x.2 h0 (fun m hm => hsm m (List.mem_append.2 (.inl hm)))
  obtain ⟨b, hb, hokb⟩ := hfs H enc w n cs xs (by omega) (fun i g hg => hx (i + 1) g (by simpa using hg)) (by simpa using hxl) (fun m hm => hsm m (List.mem_append.2 (.inr hm)))
  refine ⟨(a, b), ?_, hoka, hokb⟩
  have := ha.append hb
  rw [← List.drop_drop, List.take_append_drop] at this
  exact this
theorem reads_struct {P : Program} {t : TypeId} {fs : Array Field} {α : Type} {pv : α → List PV} {ok : α → Prop} (h : P.underlying t = some (.struct fs)) (hfs : ReadsFs P fs.toList 0 α pv ok) (hc : P.cellsOf t = (fs.toList.map fun f => P.cellsOf f.type).sum) : Reads P t α pv ok := by
 intro H enc w fuel cs d ps ht hs
 obtain ⟨xs, n, rfl, hx, hl, hxl, hel⟩ := DataW.trod_struct h ht
 simp only [Prod.mk.injEq] at hx
 obtain ⟨rfl, _⟩ := hx
 have := hfs H enc w n cs xs (by omega) (fun i f hf => hel i f (by simpa using hf)) (by simpa using hxl) (fun m hm => hs m (by simp only [DataW.weights, h]; exact hm))
 simpa using this
theorem Reads.map {P : Program} {t : TypeId} {α β : Type} {pv : α → List PV} {ok : α → Prop} (h : Reads P t α pv ok) (g : α → β) (pv' : β → List PV) (ok' : β → Prop) (h1 : ∀ x, pv' (g x) = pv x) (h2 : ∀ x, ok x → ok' (g x)) : Reads P t β pv' ok' := by
 intro H enc w fuel cs d ps ht hs
 obtain ⟨x, hx, ho⟩ := h H enc w fuel cs d ps ht hs
 exact ⟨g x, by rw [h1]; exact hx, h2 x ho⟩
theorem rel_one {ι : Emb} {R : Nat → Prop} {w : World} {p : PV} {v : Value} (hv : v.cells = #[v]) (h : RelPs R w [p] v.cells.toList) : RelA ι R w (.pv p) v := by
 rw [hv] at h
 simp only [RelA]
 exact h.1.1
end Go.Ab

