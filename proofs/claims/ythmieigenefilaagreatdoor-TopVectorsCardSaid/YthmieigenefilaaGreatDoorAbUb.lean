import Derived.Test.YthmieigenefilaaGreatDoorAbW
import Derived.WalkKit
import Derived.ProofKit
import Derived.OpenShut
import Derived.JoinedCond
import Derived.SizedLaws
import Derived.DataReads
import Derived.ChangeSame
import Derived.Carry
import Derived.WideKeyArgs
import Derived.RowKitTokens
import Derived.Test.YthmieigenefilaaGreatDoorAbYk
import Derived.LaidMore
import Derived.ChangeArms
import Derived.FnData
import Derived.MakeChecks
import Derived.Lib.LaidTab
set_option linter.unusedVariables false
set_option linter.unusedSimpArgs false
namespace Go.Ab
open Go.RowKit
def RelPs (R : Nat → Prop) (w : World) : List PV → List Value → Prop
 | [], [] => True
 | p :: ps, v :: vs => (RelP R w p v ∧ v.oneCell' = true) ∧ RelPs R w ps vs
 | _, _ => False
theorem RelPs.get {R : Nat → Prop} {w : World} : ∀ {ps : List PV} {vs : List Value}, RelPs R w ps vs → ps.length = vs.length ∧ ∀ (j : Nat) (p : PV), ps[j]? = some p → ∃ v, vs[j]? = some v ∧ RelP R w p v ∧ v.oneCell' = true
 | [], [], _ => ⟨rfl, by simp⟩
 | p :: ps, v :: vs, h => by
  obtain ⟨h1, h2⟩ := RelPs.get h.2
  refine ⟨by simp [h1], fun j q hj => ?_⟩
  cases j with
  | zero => simp at hj; subst hj; exact ⟨v, rfl, h.1⟩
  | succ j => exact h2 j q (by simpa using hj)
 | [], _ :: _, h => h.elim
 | _ :: _, [], h => h.elim
theorem RelPs.append {R : Nat → Prop} {w : World} : ∀ {ps qs : List PV} {vs us : List Value}, RelPs R w ps vs → RelPs R w qs us → RelPs R w (ps ++ qs) (vs ++ us)
 | [], _, [], _, _, h => h
 | p :: ps, _, v :: vs, _, h, h' => ⟨h.1, RelPs.append h.2 h'⟩
 | [], _, _ :: _, _, h, _ => h.elim
 | _ :: _, _, [], _, h, _ => h.elim
def Small (l : List Nat) : Prop := ∀ n ∈ l, n ≤ reachBytes
def Reads (P : Program) (t : TypeId) (α : Type) (pv : α → List PV) (ok : α → Prop) : Prop :=
 ∀ (H : Type) (enc : TypeId × Value → H) (w : World) (fuel : Nat) (cs : List Value) (d : DataW H) (ps : List MemPlace), DataW.trod enc P w 0 (fun _ => true) true fuel t cs = some (d, ps) → Small (d.weights P t) →
  ∃ x, RelPs (fun k => k < w.heap.size) w (pv x) cs ∧ ok x
theorem reads_bool {P : Program} {t : TypeId} (h : P.underlying t = some .bool) : Reads P t Bool (fun b => [.raw (.bool b)]) (fun _ => True) := by
 intro H enc w fuel cs d ps ht _
 cases fuel with
 | zero => simp [DataW.trod] at ht
 | succ n =>
  unfold DataW.trod at ht
  rw [h] at ht
  split at ht
  case h_1 b hq => exact ⟨_, ⟨⟨rfl, rfl⟩, trivial⟩, trivial⟩
  all_goals first | (cases ht; done) | (rename_i hq; cases hq; done) | (rename_i hq _; cases hq; done) | (rename_i hq _ _; cases hq; done)
theorem reads_int {P : Program} {t : TypeId} {k : IntKind} (h : P.underlying t = some (.int k)) : Reads P t Int (fun n => [.raw (.int k n)]) (fun n => (Lit.int k n).wf = true) := by
 intro H enc w fuel cs d ps ht _
 obtain ⟨n, rfl, _, hw⟩ := DataW.trod_int h ht
 exact ⟨n, ⟨⟨rfl, rfl⟩, trivial⟩, hw⟩
theorem weightsAll_mem {H : Type} {P : Program} {e : TypeId} : ∀ {l : List (DataW H)} {d : DataW H}, d ∈ l → ∀ n ∈ d.weights P e, n ∈ DataW.weightsAll P e l
 | x :: l, d, hd, n, hn => by
  simp only [DataW.weightsAll, List.mem_append]
  rcases List.mem_cons.1 hd with rfl | hd
  ·exact .inl hn
  ·exact .inr (weightsAll_mem hd n hn)
theorem cell_lt {w : World} {a : Addr} {v : Value} (h : w.cell? a = some v) : a.block < w.heap.size ∧ a.spot = none := by
 unfold World.cell? at h
 split at h
 ·rename_i hb
  refine ⟨(Array.getElem?_eq_some_iff.1 hb).1, ?_⟩
  cases hs : a.spot with
  | none => rfl
  | some _ => rw [hs] at h; simp at h
 ·cases h
theorem cells_get {w : World} {a : Addr} {s : Nat} {cs : List Value} (h : w.cells? 0 a s = some cs) : cs.length = s ∧ ∀ j, j < s → w.cell? (a.add j) = cs[j]? := by
 unfold World.cells? at h
 rw [if_pos (Nat.zero_le _)] at h
 have hl := mapM_some_length h
 rw [List.length_range] at hl
 exact ⟨hl, fun j hj => mapM_some_get h j j (by simp [hj])⟩
theorem add_add {g o k j : Nat} : (Addr.add (Addr.add ⟨g, o, none⟩ k) j) = ⟨g, o + k + j, none⟩ := by
 unfold Addr.add
 split <;> split <;> simp_all
theorem reads_slice {P : Program} {t e : TypeId} {α : Type} [Inhabited α] {pv : α → List PV} {ok : α → Prop} {s b : Nat} (c : List α → Nat → Nat → PV) (h : P.underlying t = some (.slice e)) (he : Reads P e α pv ok) (hs : P.cellsOf e = s) (hs0 : 0 < s)
  (hb : P.bytesOf e = b) (hb0 : 0 < b) (hc : ∀ xs i, i < xs.length → ∀ j, j < s → (pv (xs.getD i default))[j]? = some (c xs i j)) :
  Reads P t (List α) (fun xs => [.ro s xs.length (c xs)]) (fun xs => xs.length * b ≤ reachBytes ∧ ∀ x ∈ xs, ok x) := by
 intro H enc w fuel cs d ps ht hsm
 rcases DataW.trod_slice h ht with ⟨rfl, _⟩ | ⟨a, len, cap, elems, rest, n, rfl, rfl, hx, _, hl, hm, hlen, hel, _, _⟩
 ·exact ⟨[], ⟨⟨⟨none, 0, rfl, Nat.le_refl _, by simp, fun h => absurd h (by simp)⟩, rfl⟩, trivial⟩, by simp, by simp⟩
 ·simp only [Prod.mk.injEq] at hx
  obtain ⟨rfl, _⟩ := hx
  rw [hs] at hel
  have key : ∀ i, ∃ x, i < len → ok x ∧ ∃ cs', w.cells? 0 (a.add (i * s)) s = some cs' ∧ RelPs (fun k => k < w.heap.size) w (pv x) cs' := by
   intro i
   by_cases hi : i < len
   ·have h1 := hel i hi
    rw [List.getElem?_eq_getElem (by omega)] at h1
    cases hcs : w.cells? 0 (a.add (i * s)) s with
    | none => rw [hcs] at h1; cases h1
    | some cs' =>
     rw [hcs] at h1
     obtain ⟨x, hx1, hx2⟩ := he H enc w n cs' _ _ h1 (fun m hm => hsm m (by
      simp only [DataW.weights, h, List.mem_cons, List.mem_append]
      exact .inr (.inl (weightsAll_mem (List.mem_map.2 ⟨elems[i], List.getElem_mem _, rfl⟩) m hm))))
     exact ⟨x, fun _ => ⟨hx2, cs', rfl, hx1⟩⟩
   ·exact ⟨default, fun h => absurd h hi⟩
  let X : Nat → α := fun i => Classical.choose (key i)
  have hX : ∀ i, i < len → ok (X i) ∧ ∃ cs', w.cells? 0 (a.add (i * s)) s = some cs' ∧ RelPs (fun k => k < w.heap.size) w (pv (X i)) cs' := fun i => Classical.choose_spec (key i)
  have hlb : len * b ≤ reachBytes := by
   have := hsm ((elems.length + rest.length) * b) (by simp [DataW.weights, h, hb])
   rw [hlen] at this
   exact Nat.le_trans (Nat.mul_le_mul_right _ (by omega)) this
  have hlen' : ((List.range len).map X).length = len := by simp
  refine ⟨(List.range len).map X, ⟨⟨⟨some a, cap, by rw [hlen'], by rw [hlen']; exact hl, ?_, ?_⟩, rfl⟩, trivial⟩, by rw [hlen']; exact hlb, ?_⟩
  ·rw [hlen']
   have h1 : len ≤ len * b := Nat.le_mul_of_pos_right _ hb0
   have h2 : reachBytes ≤ 140737488355328 := by decide
   omega
  ·rw [hlen']
   intro h0
   obtain ⟨_, cs0, hc0, hr0⟩ := hX 0 h0
   obtain ⟨l0, g0⟩ := cells_get hc0
   have hg := g0 0 hs0
   rw [List.getElem?_eq_getElem (by omega), Nat.zero_mul] at hg
   have ha : (a.add 0).add 0 = a := by simp [Addr.add]
   rw [ha] at hg
   obtain ⟨hlt, hsp⟩ := cell_lt hg
   obtain ⟨g, o, sp⟩ := a
   simp only at hsp
   subst hsp
   refine ⟨g, o, rfl, hlt, fun i hi j hj => ?_⟩
   obtain ⟨_, ci, hci, hri⟩ := hX i hi
   obtain ⟨li, gi⟩ := cells_get hci
   have hpx := hc ((List.range len).map X) i (by simpa using hi) j hj
   have hgd : ((List.range len).map X).getD i default = X i := by simp [List.getD_eq_getElem?_getD, hi]
   rw [hgd] at hpx
   obtain ⟨v, hv1, hv2, hv3⟩ := hri.get.2 j _ hpx
   refine ⟨v, ?_, hv3, hv2⟩
   have := gi j hj
   rw [add_add, hv1] at this
   exact this
  ·intro x hx
   obtain ⟨i, hi, rfl⟩ := List.mem_map.1 hx
   exact (hX i (by simpa using hi)).1
def ReadsFs (P : Program) (fs : List Field) (off : Nat) (α : Type) (pv : α → List PV) (ok : α → Prop) : Prop :=
 ∀ (H : Type) (enc : TypeId × Value → H) (w : World) (n : Nat) (cs : List Value) (xs : List (DataW H × List MemPlace)), cs.length = off + (fs.map fun f => P.cellsOf f.type).sum →
  (∀ (i : Nat) (f : Field), fs[i]? = some f → DataW.trod enc P w 0 (fun _ => true) true n f.type ((cs.drop f.offset).take (P.cellsOf f.type)) = xs[i]?) → xs.length = fs.length →
  Small (DataW.weightsEach P (fs.map (·.type)) (xs.map (·.1))) → ∃ x, RelPs (fun k => k < w.heap.size) w (pv x) (cs.drop off) ∧ ok x
theorem readsFs_nil {P : Program} {off : Nat} : ReadsFs P [] off Unit (fun _ => []) (fun _ => True) := by
 intro H enc w n cs xs hl _ _ _
 have : cs.drop off = [] := List.drop_eq_nil_of_le (by simpa using Nat.le_of_eq hl)
 rw [this]
 exact ⟨(), trivial, trivial⟩
theorem readsFs_cons {P : Program} {f : Field} {fs : List Field} {off off' s : Nat} {α β : Type} {pv : α → List PV} {ok : α → Prop} {pv' : β → List PV} {ok' : β → Prop} (hf : Reads P f.type α pv ok) (ho : f.offset = off) (hs : P.cellsOf f.type = s) (ho' : off' = off + s)
  (hfs : ReadsFs P fs off' β pv' ok') : ReadsFs P (f :: fs) off (α × β) (fun x => pv x.1 ++ pv' x.2) (fun x => ok x.1 ∧ ok' x.2) := by
 intro H enc w n cs xs hl hx hxl hsm
 match xs, hxl with
 | x :: xs, hxl =>
  subst ho'
  simp only [List.map_cons, List.sum_cons, hs] at hl
  have h0 := hx 0 f rfl
  rw [ho, hs] at h0
  simp only [List.map_cons, DataW.weightsEach] at hsm
  obtain ⟨a, ha, hoka⟩ := hf H enc w n _ x.1 x.2 h0 (fun m hm => hsm m (List.mem_append.2 (.inl hm)))
  obtain ⟨b, hb, hokb⟩ := hfs H enc w n cs xs (by omega) (fun i g hg => hx (i + 1) g (by simpa using hg)) (by simpa using hxl) (fun m hm => hsm m (List.mem_append.2 (.inr hm)))
  refine ⟨(a, b), ?_, hoka, hokb⟩
  have := ha.append hb
  rw [← List.drop_drop, List.take_append_drop] at this
  exact this
theorem reads_struct {P : Program} {t : TypeId} {fs : Array Field} {α : Type} {pv : α → List PV} {ok : α → Prop} (h : P.underlying t = some (.struct fs)) (hfs : ReadsFs P fs.toList 0 α pv ok) (hc : P.cellsOf t = (fs.toList.map fun f => P.cellsOf f.type).sum) : Reads P t α pv ok := by
 intro H enc w fuel cs d ps ht hs
 obtain ⟨xs, n, rfl, hx, hl, hxl, hel⟩ := DataW.trod_struct h ht
 simp only [Prod.mk.injEq] at hx
 obtain ⟨rfl, _⟩ := hx
 have := hfs H enc w n cs xs (by omega) (fun i f hf => hel i f (by simpa using hf)) (by simpa using hxl) (fun m hm => hs m (by simp only [DataW.weights, h]; exact hm))
 simpa using this
theorem Reads.map {P : Program} {t : TypeId} {α β : Type} {pv : α → List PV} {ok : α → Prop} (h : Reads P t α pv ok) (g : α → β) (pv' : β → List PV) (ok' : β → Prop) (h1 : ∀ x, pv' (g x) = pv x) (h2 : ∀ x, ok x → ok' (g x)) : Reads P t β pv' ok' := by
 intro H enc w fuel cs d ps ht hs
 obtain ⟨x, hx, ho⟩ := h H enc w fuel cs d ps ht hs
 exact ⟨g x, by rw [h1]; exact hx, h2 x ho⟩
theorem rel_one {ι : Emb} {R : Nat → Prop} {w : World} {p : PV} {v : Value} (hv : v.cells = #[v]) (h : RelPs R w [p] v.cells.toList) : RelA ι R w (.pv p) v := by
 rw [hv] at h
 simp only [RelA]
 exact h.1.1
end Go.Ab
set_option linter.unusedVariables false
set_option linter.unusedSimpArgs false
namespace Go.Ab
open Go.RowKit Go.ChangeShapes Go.WideShapes Go.ChangeAt
theorem trodAll_stays {H : Type} {enc : TypeId × Value → H} {P : Program} (hl : laidOutB P = true) {W W' : World} (hb : Below W.heap.size W W') {sp : Nat → Bool} : ∀ {ts : List TypeId} {vs : List Value} {ds : List (DataW H)} {p : List MemPlace},
  (∀ t ∈ ts, P.readableRec t = true ∧ t < P.types.size) → DataW.TrodAll enc P W 0 (fun _ => true) true ts vs ds p → (∀ x ∈ p, x.block < W.heap.size) → (∀ x ∈ p, sp x.block = true) → DataW.TrodAll enc P W' 0 sp true ts vs ds p
 | [], [], [], p, _, h, _, _ => h
 | t :: ts, v :: vs, d :: ds, p, ht, h, hlt, hsp => by
  obtain ⟨p, q, h1, h2, rfl⟩ := h
  refine ⟨p, q, WideElems.Trod_stays hl (ht t (by simp)).1 (ht t (by simp)).2 h1 (fun x hx => hb.same (hlt x (by simp [hx]))) (fun x hx => hsp x (by simp [hx])), ?_, rfl⟩
  exact trodAll_stays hl hb (fun u hu => ht u (by simp [hu])) h2 (fun x hx => hlt x (by simp [hx])) (fun x hx => hsp x (by simp [hx]))
 | [], _ :: _, _, _, _, h, _, _ => by simp [DataW.TrodAll] at h
 | [], [], _ :: _, _, _, h, _, _ => by simp [DataW.TrodAll] at h
 | _ :: _, [], _, _, _, h, _, _ => by simp [DataW.TrodAll] at h
 | _ :: _, _ :: _, [], _, _, h, _, _ => by simp [DataW.TrodAll] at h
theorem post_below {H : Type} {enc : TypeId × Value → H} {P : Program} {f : Func} {s : ChangeSpec} {apart fresh handsOn again : Bool} {W W' : World} {args : Array Value} {v : Value} {ds gs : List (DataW H)} {before pa pv : List MemPlace}
  (hW : DataW.Whole enc P f.params.toList s.vars apart W args.toList ds gs before)
  (hres : ∀ (b : Nat) (sp : Nat → Bool) (hd : Bool), DataW.TrodAll enc P W' b sp hd f.resultTypes.toList (v.resultList f.resultTypes.size) (s.fn H (ds ++ gs)).results [])
  (hargs : ∀ sp : Nat → Bool, (∀ p ∈ before, sp p.block = true) → DataW.TrodAll enc P W' 0 sp true f.params.toList args.toList (s.fn H (ds ++ gs)).args pa)
  (hvars : ∀ sp : Nat → Bool, (∀ p ∈ before, sp p.block = true) → DataW.TrodVars enc P W' sp s.vars (s.fn H (ds ++ gs)).vars pv)
  (hps : before = pa ++ pv) (hb : Below W.heap.size W W')
  (hok : ∀ (j : Nat) (t : TypeId) (r : Value), f.resultTypes[j]? = some t → (v.resultList f.resultTypes.size)[j]? = some r → Value.okWide P W' .any 0 t r) :
  s.post enc P f apart fresh handsOn again W args v W' := by
 have hlt := hW.lt
 have hold : ∀ p ∈ before, (fun b => decide (b < W.heap.size)) p.block = true := fun p hp => by simpa using hW.lt p hp
 refine ⟨ds, gs, before, [], pa, pv, hW, hres _ _ _, hargs _ hold, hvars _ hold, World.keptBut_mono (fun p hp => ⟨hp, ?_⟩) (hb.frame (· ∈ before)), fun _ => ?_⟩
 ·rw [hps, List.mem_append] at hp
  exact Or.inr hp
 ·obtain ⟨_, _, _, _, _, hz, hn⟩ := hW
  refine ⟨hok, _, _, ([] ++ pa) ++ pv, ⟨[] ++ pa, pv, trodAll_append (hargs _ (fun _ _ => rfl)) (hres _ _ _), hvars _ (fun _ _ => rfl), rfl, ?_, ?_⟩, ?_⟩
  ·intro b off hp
   have hp' : MemPlace.cell b off ∈ before := by rw [hps]; simpa using hp
   rw [hb.frozen (p := ⟨b, off, none⟩) (hlt _ hp')]
   exact hz b off hp'
  ·intro ha
   have := hn ha
   rw [hps] at this
   simpa using this
  ·intro p hp _
   rw [hps]
   simpa using hp
theorem post_true {H : Type} {enc : TypeId × Value → H} {P : Program} {f : Func} {s : ChangeSpec} {apart fresh handsOn again : Bool} {W W' : World} {args : Array Value} {ds gs : List (DataW H)} {before : List MemPlace} {t : TypeId}
  (hl : laidOutB P = true) (hts : ∀ t ∈ f.params.toList, P.readableRec t = true ∧ t < P.types.size) (hvars : s.vars = []) (hr : f.resultTypes = #[t]) (hu : P.underlying t = some .bool)
  (hfn : s.fn H ds = { results := [.lit (.bool true)], args := ds })
  (hW : DataW.Whole enc P f.params.toList s.vars apart W args.toList ds gs before) (hb : Below W.heap.size W W') : s.post enc P f apart fresh handsOn again W args (.bool true) W' := by
 have hlt := hW.lt
 have hW' := hW
 obtain ⟨p, q, hA, hV, rfl, hfz, hnd⟩ := hW
 rw [hvars] at hV
 obtain ⟨rfl, rfl⟩ := trodVars_none hV
 simp only [List.append_nil] at hW' hlt
 have hfn' : s.fn H (ds ++ []) = { results := [.lit (.bool true)], args := ds } := by rw [List.append_nil]; exact hfn
 refine post_below (pa := p) (pv := []) hW' (fun b sp hd => ?_) (fun sp hsp => ?_) (fun sp hsp => ?_) (by simp) hb ?_
 ·rw [hfn', hr]
  exact trodAll_cons_mk (shut_bool hu _) trodAll_mk0
 ·rw [hfn']
  exact trodAll_stays hl hb hts hA hlt hsp
 ·rw [hfn', hvars]
  rfl
 ·exact ok_one hr rfl (okWide_bool_mk hu _)
end Go.Ab
set_option linter.unusedVariables false
set_option linter.unusedSimpArgs false
namespace Go.Ab
open Go.RowKit Go.ChangeShapes Go.WideShapes Go.ChangeAt
theorem reads_i64 {P : Program} {t : TypeId} (h : P.underlying t = some (.int .i64)) : Reads P t Int (fun n => [.raw (.int .i64 n)]) (fun n => -9223372036854775808 ≤ n ∧ n ≤ 9223372036854775807) :=
 (reads_int h).map id _ _ (fun _ => rfl) (fun n hn => by simpa [Lit.wf, IntKind.min, IntKind.max, IntKind.signed, IntKind.bits] using hn)
theorem reads_list {P : Program} {t e : TypeId} {α : Type} {ok : α → Prop} (E : Elem α) {s b : Nat} (h : P.underlying t = some (.slice e)) (he : Reads P e α (fun x => (List.range E.s).map (E.cf x)) ok) (hE : E.s = s) (hs : P.cellsOf e = s) (hs0 : 0 < s)
  (hb : P.bytesOf e = b) (hb0 : 0 < b) : Reads P t (List α) (fun xs => [E.ro xs]) (fun xs => xs.length * b ≤ 140737488351232 ∧ ∀ x ∈ xs, ok x) := by
 letI : Inhabited α := ⟨E.z⟩
 subst hE
 have := reads_slice (P := P) (t := t) (fun (xs : List α) i j => E.cf (xs.getD i E.z) j) h he hs hs0 hb hb0 (fun xs i hi j hj => by simp [hj]; rfl)
 exact this
def ReadsL (P : Program) (ts : List TypeId) (α : Type) (avs : α → List AV) (ok : α → Prop) : Prop :=
 ∀ (H : Type) (enc : TypeId × Value → H) (w : World) (base : Nat) (vs : List Value) (ds : List (DataW H)) (p : List MemPlace), DataW.TrodAll enc P w 0 (fun _ => true) true ts vs ds p →
  (∀ (j : Nat) t v, ts[j]? = some t → vs[j]? = some v → Value.okWide P w .any base t v) → Small (DataW.weightsEach P ts ds) → ∃ x, RelL (fun _ => none) (fun k => k < w.heap.size) w (avs x) vs ∧ ok x
theorem readsL_nil {P : Program} : ReadsL P [] Unit (fun _ => []) (fun _ => True) := by
 intro H enc w base vs ds p h _ _
 obtain ⟨rfl, rfl, rfl⟩ := trodAll_nil h
 exact ⟨(), by simp only [RelL], trivial⟩
theorem okWide_cells {P : Program} {w : World} {base : Nat} {t : TypeId} {v : Value} (h : Value.okWide P w .any base t v) (hu : (∃ k, P.underlying t = some (.int k)) ∨ P.underlying t = some .bool ∨ P.underlying t = some .string ∨ ∃ e, P.underlying t = some (.slice e)) : v.cells = #[v] := by
 cases v with
 | agg cs =>
  exfalso
  unfold Value.okWide at h
  rcases hu with ⟨k, hu⟩ | hu | hu | ⟨e, hu⟩ <;> (rw [hu] at h; simp [Cell.okWide, hu, Cell.ok] at h)
 | _ => rfl
theorem readsL_one {P : Program} {t : TypeId} {ts : List TypeId} {α β : Type} {pv : α → PV} {ok : α → Prop} {avs : β → List AV} {ok' : β → Prop} (hr : Reads P t α (fun x => [pv x]) ok)
  (hu : (∃ k, P.underlying t = some (.int k)) ∨ P.underlying t = some .bool ∨ P.underlying t = some .string ∨ ∃ e, P.underlying t = some (.slice e))
  (hl : ReadsL P ts β avs ok') : ReadsL P (t :: ts) (α × β) (fun x => .pv (pv x.1) :: avs x.2) (fun x => ok x.1 ∧ ok' x.2) := by
 intro H enc w base vs ds p h hval hsm
 obtain ⟨v0, vs0, d0, ds0, p0, q0, rfl, rfl, rfl, ⟨fuel, h0⟩, r0⟩ := trodAll_cons h
 have hc := okWide_cells (hval 0 t v0 rfl rfl) hu
 simp only [DataW.weightsEach] at hsm
 obtain ⟨x, hx, hox⟩ := hr H enc w fuel _ d0 p0 h0 (fun m hm => hsm m (List.mem_append.2 (.inl hm)))
 obtain ⟨y, hy, hoy⟩ := hl H enc w base vs0 ds0 q0 r0 (fun j t v h1 h2 => hval (j + 1) t v (by simpa using h1) (by simpa using h2)) (fun m hm => hsm m (List.mem_append.2 (.inr hm)))
 refine ⟨(x, y), ?_, hox, hoy⟩
 simp only [RelL]
 exact ⟨rel_one hc hx, hy⟩
theorem law_calls {H : Type} {enc : TypeId × Value → H} {P : Program} {f : FuncId} {fn : Func} {s : ChangeSpec} {apart fresh handsOn again : Bool} {al : Bool} {t : TypeId} {α : Type} {avs : α → List AV} {ok : α → Prop}
  (hr : ReadsL P fn.params.toList α avs ok) (hlaw : ∀ x, ok x → PCalls P f (avs x) al (.bool true) [])
  (hl : laidOutB P = true) (hts : ∀ t ∈ fn.params.toList, P.readableRec t = true ∧ t < P.types.size) (hvars : s.vars = []) (hrt : fn.resultTypes = #[t]) (hu : P.underlying t = some .bool)
  (hfn : ∀ ds : List (DataW H), ds.length = fn.params.size → s.fn H ds = { results := [.lit (.bool true)], args := ds })
  (W : World) (base : Nat) (args : Array Value) (ds gs : List (DataW H)) (before : List MemPlace)
  (hval : ∀ (j : Nat) t v, fn.params[j]? = some t → args[j]? = some v → Value.okWide P W .any base t v)
  (hW : DataW.Whole enc P fn.params.toList s.vars apart W args.toList ds gs before)
  (hsm : (DataW.weightsEach P (fn.params.toList ++ s.plain.varTypes P) (ds ++ gs)).all (· ≤ reachBytes) = true) (hgo : GOk P W) :
  Calls P f args W fun e W' => ∃ v, e = .returned v ∧ s.post enc P fn apart fresh handsOn again W args v W' := by
 have hW' := hW
 obtain ⟨p, q, hA, hV, rfl, hfz, hnd⟩ := hW
 have hlen : ds.length = fn.params.toList.length := by
  clear hW' hval hsm hfz hnd hr hts hV
  revert hA
  generalize fn.params.toList = ts
  generalize args.toList = vs
  intro hA
  induction ts generalizing vs ds p with
  | nil => obtain ⟨rfl, rfl, rfl⟩ := trodAll_nil hA; rfl
  | cons t ts ih =>
   obtain ⟨v0, vs0, d0, ds0, p0, q0, rfl, rfl, rfl, h0, r0⟩ := trodAll_cons hA
   simp [ih _ _ _ r0]
 have hw : ∀ (ts us : List TypeId) (ds gs : List (DataW H)), ds.length = ts.length → ∀ m ∈ DataW.weightsEach P ts ds, m ∈ DataW.weightsEach P (ts ++ us) (ds ++ gs) := by
  intro ts
  induction ts with
  | nil => intro us ds gs hl m hm; cases ds <;> simp_all [DataW.weightsEach]
  | cons t ts ih =>
   intro us ds gs hl m hm
   cases ds with
   | nil => simp at hl
   | cons d ds =>
    simp only [DataW.weightsEach, List.cons_append, List.mem_append] at hm ⊢
    rcases hm with hm | hm
    ·exact .inl hm
    ·exact .inr (ih us ds gs (by simpa using hl) m hm)
 have hs : Small (DataW.weightsEach P fn.params.toList ds) := by
  intro n hn
  have := List.all_eq_true.1 hsm n (hw _ _ _ _ hlen n hn)
  simpa using this
 obtain ⟨x, hx, hox⟩ := hr H enc W base args.toList ds p hA (fun j t v h1 h2 => hval j t v (by simpa using h1) (by simpa using h2)) hs
 have hc := (hlaw x hox).2 (fun k => k < W.heap.size) W args.toList hx (fun _ h => h) hgo
 refine Calls.mono hc ?_
 rintro e W' ⟨v, ι', rfl, hb, _, hv, _⟩
 simp only [RelA, RelP] at hv
 subst hv
 exact ⟨_, rfl, post_true hl hts hvars hrt hu (hfn ds (by simpa using hlen)) hW' hb⟩
end Go.Ab
set_option linter.unusedVariables false
set_option linter.unusedSimpArgs false
namespace Go.Ab
open Go.RowKit
def LaidAt (P : Program) (W : World) (n : String) (d : DataW Unit) : Prop :=
 ∃ g t cs fuel p, P.globalNamed n = some g ∧ (P.globals[g]?).map (·.type) = some t ∧ W.var? P n = some cs ∧ DataW.trod (fun _ => ()) P W 0 (fun _ => true) false fuel t cs.toList = some (d, p)
theorem laid_each {P : Program} {W : World} : ∀ {l : List (String × DataW Unit)} {ps : List MemPlace}, DataW.LaidVars P W l ps → ∀ (i : Nat) (n : String) (d : DataW Unit), l[i]? = some (n, d) → LaidAt P W n d
 | [], _, _, i, n, d, h => by simp at h
 | (n0, d0) :: r, ps, h, i, n, d, hi => by
  obtain ⟨g, t, cs, f, p, q, h1, h2, h3, h4, h5, _⟩ := h
  cases i with
  | zero =>
   simp only [List.getElem?_cons_zero, Option.some.injEq, Prod.mk.injEq] at hi
   obtain ⟨rfl, rfl⟩ := hi
   exact ⟨g, t, cs, f, p, h1, h2, h3, h4⟩
  | succ i => exact laid_each h5 i n d (by simpa using hi)
theorem laid_each' {P : Program} {W : World} {l : List (String × DataW Unit)} (h : laidMetH P l W) (hf : (l.filter fun x => x.2.handleName?.isSome) = []) (i : Nat) {n : String} {d : DataW Unit} (hi : l[i]? = some (n, d)) : LaidAt P W n d := by
 unfold laidMetH at h
 rw [hf] at h
 obtain ⟨ps, h, _, _⟩ := h
 exact laid_each h i n d hi
theorem glob_var {P : Program} {W : World} {n : String} {g : Nat} {cs : Array Value} {Q : List Value → Prop} (hg : P.globalNamed n = some g) (hv : W.var? P n = some cs) (hq : Q cs.toList) : GlobAt (g, Q) W := by
 simp only [World.var?, hg, Option.bind_some] at hv
 split at hv
 ·rename_i c t fr hh
  cases hv
  exact ⟨_, _, _, hh, hq⟩
 ·cases hv
theorem glob_tab {P : Program} {W : World} {n : String} {g t e m : Nat} {k : IntKind} {zs : List Int} {D : DataW Unit} {Q : List Value → Prop} (h : LaidAt P W n D) (hD : D = Lib.tabData k zs) (hg : P.globalNamed n = some g) (hty : (P.globals[g]?).map (·.type) = some t)
  (ht : P.underlying t = some (.array m e)) (he : P.underlying e = some (.int k)) (hce : P.cellsOf e = 1) (hct : P.cellsOf t = m) (hq : Q (zs.map fun z => Value.int k z)) : GlobAt (g, Q) W := by
 subst hD
 obtain ⟨g0, t0, cs, f, p, h1, h2, h3, h4⟩ := h
 obtain rfl := Option.some.inj (hg.symm.trans h1)
 obtain rfl := Option.some.inj (hty.symm.trans h2)
 refine glob_var hg h3 ?_
 rw [Lib.cells_of_tab ht he hce hct h4]
 exact hq
theorem glob_err {P : Program} {W : World} {n : String} {g t : Nat} {D : DataW Unit} {x : DataW Unit} {nm : String} {ms : Array (String × TypeId)} (h : LaidAt P W n D) (hD : D = .iface nm x) (hg : P.globalNamed n = some g) (hty : (P.globals[g]?).map (·.type) = some t)
  (ht : P.underlying t = some (.interface ms)) : GlobAt (g, errIs) W := by
 subst hD
 obtain ⟨g0, t0, cs, f, p, h1, h2, h3, h4⟩ := h
 obtain rfl := Option.some.inj (hg.symm.trans h1)
 obtain rfl := Option.some.inj (hty.symm.trans h2)
 refine glob_var hg h3 ?_
 cases f with
 | zero => simp [DataW.trod] at h4
 | succ f =>
  unfold DataW.trod at h4
  rw [ht] at h4
  split at h4 <;> first | (rename_i e1 e2; exact ⟨_, _, e2⟩) | (rename_i e1 e2; simp at h4; done) | (rename_i e1; cases e1; done) | (rename_i e1 _; cases e1; done) | cases h4
theorem bruijn_is : bruijnIs (((Lib.deBruijn64tab.map fun n : Nat => (n : Int))).map fun z => Value.int .u8 z) := by
 intro j hj
 simp [List.getD_eq_getElem?_getD, hj]
theorem pow_is : powIs (Lib.pow10Tab.map fun z => Value.int .u64 z) := rfl
end Go.Ab
