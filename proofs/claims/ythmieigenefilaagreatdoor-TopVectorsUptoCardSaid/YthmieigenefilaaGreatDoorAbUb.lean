import Derived.Test.YthmieigenefilaaGreatDoorAbW
import Derived.WalkKit
import Derived.ProofKit
import Derived.OpenShut
import Derived.JoinedCond
import Derived.SizedLaws
import Derived.DataReads
import Derived.ChangeSame
import Derived.Carry
import Derived.WideKeyArgs
import Derived.RowKitTokens
import Derived.Test.YthmieigenefilaaGreatDoorAbYk
import Derived.LaidMore
import Derived.ChangeArms
import Derived.FnData
import Derived.MakeChecks
import Derived.Lib.LaidTab
set_option linter.unusedVariables false
set_option linter.unusedSimpArgs false
namespace Go.Ab
open Go.RowKit
def RelPs (R : Nat → Prop) (w : World) : List PV → List Value → Prop
 | [], [] => True
 | p :: ps, v :: vs => (RelP R w p v ∧ v.oneCell' = true) ∧ RelPs R w ps vs
 | _, _ => False
theorem RelPs.get {R : Nat → Prop} {w : World} : ∀ {ps : List PV} {vs : List Value}, RelPs R w ps vs → ps.length = vs.length ∧ ∀ (j : Nat) (p : PV), ps[j]? = some p → ∃ v, vs[j]? = some v ∧ RelP R w p v ∧ v.oneCell' = true
 | [], [], _ => ⟨rfl, by simp⟩
 | p :: ps, v :: vs, h => by
  obtain ⟨h1, h2⟩ := RelPs.get h.2
  refine ⟨by simp [h1], fun j q hj => ?_⟩
  cases j with
  | zero => simp at hj; subst hj; exact ⟨v, rfl, h.1⟩
  | succ j => exact h2 j q (by simpa using hj)
 | [], _ :: _, h => h.elim
 | _ :: _, [], h => h.elim
theorem RelPs.append {R : Nat → Prop} {w : World} : ∀ {ps qs : List PV} {vs us : List Value}, RelPs R w ps vs → RelPs R w qs us → RelPs R w (ps ++ qs) (vs ++ us)
 | [], _, [], _, _, h => h
 | p :: ps, _, v :: vs, _, h, h' => ⟨h.1, RelPs.append h.2 h'⟩
 | [], _, _ :: _, _, h, _ => h.elim
 | _ :: _, _, [], _, h, _ => h.elim
def Small (l : List Nat) : Prop := ∀ n ∈ l, n ≤ reachBytes
def Reads (P : Program) (t : TypeId) (α : Type) (pv : α → List PV) (ok : α → Prop) : Prop :=
 ∀ (H : Type) (enc : TypeId × Value → H) (w : World) (fuel : Nat) (cs : List Value) (d : DataW H) (ps : List MemPlace), DataW.trod enc P w 0 (fun _ => true) true fuel t cs = some (d, ps) → Small (d.weights P t) →
  ∃ x, RelPs (fun k => k < w.heap.size) w (pv x) cs ∧ ok x
theorem cell_lt {w : World} {a : Addr} {v : Value} (h : w.cell? a = some v) : a.block < w.heap.size ∧ a.spot = none := by
 unfold World.cell? at h
 split at h
 ·rename_i hb
  refine ⟨(Array.getElem?_eq_some_iff.1 hb).1, ?_⟩
  cases hs : a.spot with
  | none => rfl
  | some _ => rw [hs] at h; simp at h
 ·cases h
theorem cells_get {w : World} {a : Addr} {s : Nat} {cs : List Value} (h : w.cells? 0 a s = some cs) : cs.length = s ∧ ∀ j, j < s → w.cell? (a.add j) = cs[j]? := by
 unfold World.cells? at h
 rw [if_pos (Nat.zero_le _)] at h
 have hl := mapM_some_length h
 rw [List.length_range] at hl
 exact ⟨hl, fun j hj => mapM_some_get h j j (by simp [hj])⟩
theorem add_add {g o k j : Nat} : (Addr.add (Addr.add ⟨g, o, none⟩ k) j) = ⟨g, o + k + j, none⟩ := by
 unfold Addr.add
 split <;> split <;> simp_all
theorem Reads.map {P : Program} {t : TypeId} {α β : Type} {pv : α → List PV} {ok : α → Prop} (h : Reads P t α pv ok) (g : α → β) (pv' : β → List PV) (ok' : β → Prop) (h1 : ∀ x, pv' (g x) = pv x) (h2 : ∀ x, ok x → ok' (g x)) : Reads P t β pv' ok' := by
 intro H enc w fuel cs d ps ht hs
 obtain ⟨x, hx, ho⟩ := h H enc w fuel cs d ps ht hs
 exact ⟨g x, by rw [h1]; exact hx, h2 x ho⟩
theorem rel_one {ι : Emb} {R : Nat → Prop} {w : World} {p : PV} {v : Value} (hv : v.cells = #[v]) (h : RelPs R w [p] v.cells.toList) : RelA ι R w (.pv p) v := by
 rw [hv] at h
 simp only [RelA]
 exact h.1.1
end Go.Ab
set_option linter.unusedVariables false
set_option linter.unusedSimpArgs false
namespace Go.Ab
open Go.RowKit Go.ChangeShapes Go.WideShapes Go.ChangeAt
theorem trodAll_stays {H : Type} {enc : TypeId × Value → H} {P : Program} (hl : laidOutB P = true) {W W' : World} (hb : Below W.heap.size W W') {sp : Nat → Bool} : ∀ {ts : List TypeId} {vs : List Value} {ds : List (DataW H)} {p : List MemPlace},
  (∀ t ∈ ts, P.readableRec t = true ∧ t < P.types.size) → DataW.TrodAll enc P W 0 (fun _ => true) true ts vs ds p → (∀ x ∈ p, x.block < W.heap.size) → (∀ x ∈ p, sp x.block = true) → DataW.TrodAll enc P W' 0 sp true ts vs ds p
 | [], [], [], p, _, h, _, _ => h
 | t :: ts, v :: vs, d :: ds, p, ht, h, hlt, hsp => by
  obtain ⟨p, q, h1, h2, rfl⟩ := h
  refine ⟨p, q, WideElems.Trod_stays hl (ht t (by simp)).1 (ht t (by simp)).2 h1 (fun x hx => hb.same (hlt x (by simp [hx]))) (fun x hx => hsp x (by simp [hx])), ?_, rfl⟩
  exact trodAll_stays hl hb (fun u hu => ht u (by simp [hu])) h2 (fun x hx => hlt x (by simp [hx])) (fun x hx => hsp x (by simp [hx]))
 | [], _ :: _, _, _, _, h, _, _ => by simp [DataW.TrodAll] at h
 | [], [], _ :: _, _, _, h, _, _ => by simp [DataW.TrodAll] at h
 | _ :: _, [], _, _, _, h, _, _ => by simp [DataW.TrodAll] at h
 | _ :: _, _ :: _, [], _, _, h, _, _ => by simp [DataW.TrodAll] at h
theorem post_below {H : Type} {enc : TypeId × Value → H} {P : Program} {f : Func} {s : ChangeSpec} {apart fresh handsOn again : Bool} {W W' : World} {args : Array Value} {v : Value} {ds gs : List (DataW H)} {before pa pv : List MemPlace}
  (hW : DataW.Whole enc P f.params.toList s.vars apart W args.toList ds gs before)
  (hres : ∀ (b : Nat) (sp : Nat → Bool) (hd : Bool), DataW.TrodAll enc P W' b sp hd f.resultTypes.toList (v.resultList f.resultTypes.size) (s.fn H (ds ++ gs)).results [])
  (hargs : ∀ sp : Nat → Bool, (∀ p ∈ before, sp p.block = true) → DataW.TrodAll enc P W' 0 sp true f.params.toList args.toList (s.fn H (ds ++ gs)).args pa)
  (hvars : ∀ sp : Nat → Bool, (∀ p ∈ before, sp p.block = true) → DataW.TrodVars enc P W' sp s.vars (s.fn H (ds ++ gs)).vars pv)
  (hps : before = pa ++ pv) (hb : Below W.heap.size W W')
  (hok : ∀ (j : Nat) (t : TypeId) (r : Value), f.resultTypes[j]? = some t → (v.resultList f.resultTypes.size)[j]? = some r → Value.okWide P W' .any 0 t r) :
  s.post enc P f apart fresh handsOn again W args v W' := by
 have hlt := hW.lt
 have hold : ∀ p ∈ before, (fun b => decide (b < W.heap.size)) p.block = true := fun p hp => by simpa using hW.lt p hp
 refine ⟨ds, gs, before, [], pa, pv, hW, hres _ _ _, hargs _ hold, hvars _ hold, World.keptBut_mono (fun p hp => ⟨hp, ?_⟩) (hb.frame (· ∈ before)), fun _ => ?_⟩
 ·rw [hps, List.mem_append] at hp
  exact Or.inr hp
 ·obtain ⟨_, _, _, _, _, hz, hn⟩ := hW
  refine ⟨hok, _, _, ([] ++ pa) ++ pv, ⟨[] ++ pa, pv, trodAll_append (hargs _ (fun _ _ => rfl)) (hres _ _ _), hvars _ (fun _ _ => rfl), rfl, ?_, ?_⟩, ?_⟩
  ·intro b off hp
   have hp' : MemPlace.cell b off ∈ before := by rw [hps]; simpa using hp
   rw [hb.frozen (p := ⟨b, off, none⟩) (hlt _ hp')]
   exact hz b off hp'
  ·intro ha
   have := hn ha
   rw [hps] at this
   simpa using this
  ·intro p hp _
   rw [hps]
   simpa using hp
theorem post_true {H : Type} {enc : TypeId × Value → H} {P : Program} {f : Func} {s : ChangeSpec} {apart fresh handsOn again : Bool} {W W' : World} {args : Array Value} {ds gs : List (DataW H)} {before : List MemPlace} {t : TypeId}
  (hl : laidOutB P = true) (hts : ∀ t ∈ f.params.toList, P.readableRec t = true ∧ t < P.types.size) (hvars : s.vars = []) (hr : f.resultTypes = #[t]) (hu : P.underlying t = some .bool)
  (hfn : s.fn H ds = { results := [.lit (.bool true)], args := ds })
  (hW : DataW.Whole enc P f.params.toList s.vars apart W args.toList ds gs before) (hb : Below W.heap.size W W') : s.post enc P f apart fresh handsOn again W args (.bool true) W' := by
 have hlt := hW.lt
 have hW' := hW
 obtain ⟨p, q, hA, hV, rfl, hfz, hnd⟩ := hW
 rw [hvars] at hV
 obtain ⟨rfl, rfl⟩ := trodVars_none hV
 simp only [List.append_nil] at hW' hlt
 have hfn' : s.fn H (ds ++ []) = { results := [.lit (.bool true)], args := ds } := by rw [List.append_nil]; exact hfn
 refine post_below (pa := p) (pv := []) hW' (fun b sp hd => ?_) (fun sp hsp => ?_) (fun sp hsp => ?_) (by simp) hb ?_
 ·rw [hfn', hr]
  exact trodAll_cons_mk (shut_bool hu _) trodAll_mk0
 ·rw [hfn']
  exact trodAll_stays hl hb hts hA hlt hsp
 ·rw [hfn', hvars]
  rfl
 ·exact ok_one hr rfl (okWide_bool_mk hu _)
end Go.Ab
set_option linter.unusedVariables false
set_option linter.unusedSimpArgs false
namespace Go.Ab
open Go.RowKit Go.ChangeShapes Go.WideShapes Go.ChangeAt
theorem okWide_cells {P : Program} {w : World} {base : Nat} {t : TypeId} {v : Value} (h : Value.okWide P w .any base t v) (hu : (∃ k, P.underlying t = some (.int k)) ∨ P.underlying t = some .bool ∨ P.underlying t = some .string ∨ ∃ e, P.underlying t = some (.slice e)) : v.cells = #[v] := by
 cases v with
 | agg cs =>
  exfalso
  unfold Value.okWide at h
  rcases hu with ⟨k, hu⟩ | hu | hu | ⟨e, hu⟩ <;> (rw [hu] at h; simp [Cell.okWide, hu, Cell.ok] at h)
 | _ => rfl
end Go.Ab
set_option linter.unusedVariables false
set_option linter.unusedSimpArgs false
namespace Go.Ab
open Go.RowKit
def LaidAt (P : Program) (W : World) (n : String) (d : DataW Unit) : Prop :=
 ∃ g t cs fuel p, P.globalNamed n = some g ∧ (P.globals[g]?).map (·.type) = some t ∧ W.var? P n = some cs ∧ DataW.trod (fun _ => ()) P W 0 (fun _ => true) false fuel t cs.toList = some (d, p)
theorem laid_each {P : Program} {W : World} : ∀ {l : List (String × DataW Unit)} {ps : List MemPlace}, DataW.LaidVars P W l ps → ∀ (i : Nat) (n : String) (d : DataW Unit), l[i]? = some (n, d) → LaidAt P W n d
 | [], _, _, i, n, d, h => by simp at h
 | (n0, d0) :: r, ps, h, i, n, d, hi => by
  obtain ⟨g, t, cs, f, p, q, h1, h2, h3, h4, h5, _⟩ := h
  cases i with
  | zero =>
   simp only [List.getElem?_cons_zero, Option.some.injEq, Prod.mk.injEq] at hi
   obtain ⟨rfl, rfl⟩ := hi
   exact ⟨g, t, cs, f, p, h1, h2, h3, h4⟩
  | succ i => exact laid_each h5 i n d (by simpa using hi)
theorem laid_each' {P : Program} {W : World} {l : List (String × DataW Unit)} (h : laidMetH P l W) (hf : (l.filter fun x => x.2.handleName?.isSome) = []) (i : Nat) {n : String} {d : DataW Unit} (hi : l[i]? = some (n, d)) : LaidAt P W n d := by
 unfold laidMetH at h
 rw [hf] at h
 obtain ⟨ps, h, _, _⟩ := h
 exact laid_each h i n d hi
theorem glob_var {P : Program} {W : World} {n : String} {g : Nat} {cs : Array Value} {Q : List Value → Prop} (hg : P.globalNamed n = some g) (hv : W.var? P n = some cs) (hq : Q cs.toList) : GlobAt (g, Q) W := by
 simp only [World.var?, hg, Option.bind_some] at hv
 split at hv
 ·rename_i c t fr hh
  cases hv
  exact ⟨_, _, _, hh, hq⟩
 ·cases hv
theorem glob_tab {P : Program} {W : World} {n : String} {g t e m : Nat} {k : IntKind} {zs : List Int} {D : DataW Unit} {Q : List Value → Prop} (h : LaidAt P W n D) (hD : D = Lib.tabData k zs) (hg : P.globalNamed n = some g) (hty : (P.globals[g]?).map (·.type) = some t)
  (ht : P.underlying t = some (.array m e)) (he : P.underlying e = some (.int k)) (hce : P.cellsOf e = 1) (hct : P.cellsOf t = m) (hq : Q (zs.map fun z => Value.int k z)) : GlobAt (g, Q) W := by
 subst hD
 obtain ⟨g0, t0, cs, f, p, h1, h2, h3, h4⟩ := h
 obtain rfl := Option.some.inj (hg.symm.trans h1)
 obtain rfl := Option.some.inj (hty.symm.trans h2)
 refine glob_var hg h3 ?_
 rw [Lib.cells_of_tab ht he hce hct h4]
 exact hq
theorem glob_err {P : Program} {W : World} {n : String} {g t : Nat} {D : DataW Unit} {x : DataW Unit} {nm : String} {ms : Array (String × TypeId)} (h : LaidAt P W n D) (hD : D = .iface nm x) (hg : P.globalNamed n = some g) (hty : (P.globals[g]?).map (·.type) = some t)
  (ht : P.underlying t = some (.interface ms)) : GlobAt (g, errIs) W := by
 subst hD
 obtain ⟨g0, t0, cs, f, p, h1, h2, h3, h4⟩ := h
 obtain rfl := Option.some.inj (hg.symm.trans h1)
 obtain rfl := Option.some.inj (hty.symm.trans h2)
 refine glob_var hg h3 ?_
 cases f with
 | zero => simp [DataW.trod] at h4
 | succ f =>
  unfold DataW.trod at h4
  rw [ht] at h4
  split at h4 <;> first | (rename_i e1 e2; exact ⟨_, _, e2⟩) | (rename_i e1 e2; simp at h4; done) | (rename_i e1; cases e1; done) | (rename_i e1 _; cases e1; done) | cases h4
theorem bruijn_is : bruijnIs (((Lib.deBruijn64tab.map fun n : Nat => (n : Int))).map fun z => Value.int .u8 z) := by
 intro j hj
 simp [List.getD_eq_getElem?_getD, hj]
theorem pow_is : powIs (Lib.pow10Tab.map fun z => Value.int .u64 z) := rfl
end Go.Ab
