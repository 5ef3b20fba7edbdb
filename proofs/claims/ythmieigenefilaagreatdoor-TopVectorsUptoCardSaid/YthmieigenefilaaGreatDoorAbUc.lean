import Derived.Test.YthmieigenefilaaGreatDoorAbUb
import Derived.OpenShut
import Derived.JoinedCond
import Derived.LaidLaws
set_option linter.unusedVariables false
set_option linter.unusedSimpArgs false
namespace Go.Ab
open Go.RowKit
end Go.Ab
set_option linter.unusedVariables false
set_option linter.unusedSimpArgs false
namespace Go.Ab
open Go.RowKit Go.ChangeShapes Go.WideShapes Go.ChangeAt
structure Bulks (H : Type) where
 f : DataW H → Nat
 fs : List (DataW H) → Nat
 nil : fs [] = 0
 cons : ∀ d r, fs (d :: r) = f d + fs r
 str : ∀ b, f (.lit (.string b)) = b.length + 1
 slice : ∀ a b, f (.slice a b) = fs a + fs b + 1
 agg : ∀ a, f (.agg a) = fs a + 1
 one : ∀ d, 1 ≤ f d
theorem Bulks.part {H : Type} (B : Bulks H) : ∀ {l : List (DataW H)} {d : DataW H}, d ∈ l → B.f d ≤ B.fs l
 | x :: r, d, h => by
  rw [B.cons]
  rcases List.mem_cons.1 h with rfl | h
  ·omega
  ·have := B.part h; omega
theorem Bulks.len {H : Type} (B : Bulks H) : ∀ (l : List (DataW H)), l.length ≤ B.fs l
 | [] => by rw [B.nil]; simp
 | x :: r => by rw [B.cons, List.length_cons]; have := B.len r; have := B.one x; omega
theorem Bulks.app {H : Type} (B : Bulks H) : ∀ (l r : List (DataW H)), B.fs (l ++ r) = B.fs l + B.fs r
 | [], r => by rw [B.nil]; simp
 | x :: l, r => by rw [List.cons_append, B.cons, B.cons, B.app l r]; omega
def ReadsU (P : Program) (t : TypeId) (α : Type) (pv : α → List PV) (ok : α → Prop) : Prop :=
 ∀ (H : Type) (B : Bulks H) (enc : TypeId × Value → H) (w : World) (fuel : Nat) (cs : List Value) (d : DataW H) (ps : List MemPlace), DataW.trod enc P w 0 (fun _ => true) true fuel t cs = some (d, ps) → B.f d ≤ 1048576 →
  ∃ x, RelPs (fun k => k < w.heap.size) w (pv x) cs ∧ ok x
theorem readsU_bool {P : Program} {t : TypeId} (h : P.underlying t = some .bool) : ReadsU P t Bool (fun b => [.raw (.bool b)]) (fun _ => True) := by
 intro H B enc w fuel cs d ps ht _
 cases fuel with
 | zero => simp [DataW.trod] at ht
 | succ n =>
  unfold DataW.trod at ht
  rw [h] at ht
  split at ht
  case h_1 b hq => exact ⟨_, ⟨⟨rfl, rfl⟩, trivial⟩, trivial⟩
  all_goals first | (cases ht; done) | (rename_i hq; cases hq; done) | (rename_i hq _; cases hq; done) | (rename_i hq _ _; cases hq; done)
theorem readsU_int {P : Program} {t : TypeId} {k : IntKind} (h : P.underlying t = some (.int k)) : ReadsU P t Int (fun n => [.raw (.int k n)]) (fun n => (Lit.int k n).wf = true) := by
 intro H B enc w fuel cs d ps ht _
 obtain ⟨n, rfl, _, hw⟩ := DataW.trod_int h ht
 exact ⟨n, ⟨⟨rfl, rfl⟩, trivial⟩, hw⟩
theorem readsU_slice {P : Program} {t e : TypeId} {α : Type} [Inhabited α] {pv : α → List PV} {ok : α → Prop} {s b : Nat} (c : List α → Nat → Nat → PV) (h : P.underlying t = some (.slice e)) (he : ReadsU P e α pv ok) (hs : P.cellsOf e = s) (hs0 : 0 < s)
  (hb : P.bytesOf e = b) (hb0 : 0 < b) (hc : ∀ xs i, i < xs.length → ∀ j, j < s → (pv (xs.getD i default))[j]? = some (c xs i j)) :
  ReadsU P t (List α) (fun xs => [.ro s xs.length (c xs)]) (fun xs => xs.length ≤ 1048576 ∧ ∀ x ∈ xs, ok x) := by
 intro H B enc w fuel cs d ps ht hsm
 rcases DataW.trod_slice h ht with ⟨rfl, _⟩ | ⟨a, len, cap, elems, rest, n, rfl, rfl, hx, _, hl, hm, hlen, hel, _, _⟩
 ·exact ⟨[], ⟨⟨⟨none, 0, rfl, Nat.le_refl _, by simp, fun h => absurd h (by simp)⟩, rfl⟩, trivial⟩, by simp, by simp⟩
 ·simp only [Prod.mk.injEq] at hx
  obtain ⟨rfl, _⟩ := hx
  rw [hs] at hel
  have key : ∀ i, ∃ x, i < len → ok x ∧ ∃ cs', w.cells? 0 (a.add (i * s)) s = some cs' ∧ RelPs (fun k => k < w.heap.size) w (pv x) cs' := by
   intro i
   by_cases hi : i < len
   ·have h1 := hel i hi
    rw [List.getElem?_eq_getElem (by omega)] at h1
    cases hcs : w.cells? 0 (a.add (i * s)) s with
    | none => rw [hcs] at h1; cases h1
    | some cs' =>
     rw [hcs] at h1
     obtain ⟨x, hx1, hx2⟩ := he H B enc w n cs' _ _ h1 (by
      rw [B.slice] at hsm
      have := B.part (l := elems.map (·.1)) (d := (elems[i]'(by omega)).1) (List.mem_map.2 ⟨elems[i]'(by omega), List.getElem_mem _, rfl⟩)
      refine Nat.le_trans (Nat.le_trans this ?_) hsm
      omega)
     exact ⟨x, fun _ => ⟨hx2, cs', rfl, hx1⟩⟩
   ·exact ⟨default, fun h => absurd h hi⟩
  let X : Nat → α := fun i => Classical.choose (key i)
  have hX : ∀ i, i < len → ok (X i) ∧ ∃ cs', w.cells? 0 (a.add (i * s)) s = some cs' ∧ RelPs (fun k => k < w.heap.size) w (pv (X i)) cs' := fun i => Classical.choose_spec (key i)
  have hlb : len ≤ 1048576 := by
   rw [B.slice] at hsm
   have h1 := B.len (elems.map (·.1))
   rw [List.length_map] at h1
   omega
  have hlen' : ((List.range len).map X).length = len := by simp
  refine ⟨(List.range len).map X, ⟨⟨⟨some a, cap, by rw [hlen'], by rw [hlen']; exact hl, ?_, ?_⟩, rfl⟩, trivial⟩, by rw [hlen']; exact hlb, ?_⟩
  ·rw [hlen']
   omega
  ·rw [hlen']
   intro h0
   obtain ⟨_, cs0, hc0, hr0⟩ := hX 0 h0
   obtain ⟨l0, g0⟩ := cells_get hc0
   have hg := g0 0 hs0
   rw [List.getElem?_eq_getElem (by omega), Nat.zero_mul] at hg
   have ha : (a.add 0).add 0 = a := by simp [Addr.add]
   rw [ha] at hg
   obtain ⟨hlt, hsp⟩ := cell_lt hg
   obtain ⟨g, o, sp⟩ := a
   simp only at hsp
   subst hsp
   refine ⟨g, o, rfl, hlt, fun i hi j hj => ?_⟩
   obtain ⟨_, ci, hci, hri⟩ := hX i hi
   obtain ⟨li, gi⟩ := cells_get hci
   have hpx := hc ((List.range len).map X) i (by simpa using hi) j hj
   have hgd : ((List.range len).map X).getD i default = X i := by simp [List.getD_eq_getElem?_getD, hi]
   rw [hgd] at hpx
   obtain ⟨v, hv1, hv2, hv3⟩ := hri.get.2 j _ hpx
   refine ⟨v, ?_, hv3, hv2⟩
   have := gi j hj
   rw [add_add, hv1] at this
   exact this
  ·intro x hx
   obtain ⟨i, hi, rfl⟩ := List.mem_map.1 hx
   exact (hX i (by simpa using hi)).1
def ReadsFsU (P : Program) (fs : List Field) (off : Nat) (α : Type) (pv : α → List PV) (ok : α → Prop) : Prop :=
 ∀ (H : Type) (B : Bulks H) (enc : TypeId × Value → H) (w : World) (n : Nat) (cs : List Value) (xs : List (DataW H × List MemPlace)), cs.length = off + (fs.map fun f => P.cellsOf f.type).sum →
  (∀ (i : Nat) (f : Field), fs[i]? = some f → DataW.trod enc P w 0 (fun _ => true) true n f.type ((cs.drop f.offset).take (P.cellsOf f.type)) = xs[i]?) → xs.length = fs.length →
  B.fs (xs.map (·.1)) ≤ 1048576 → ∃ x, RelPs (fun k => k < w.heap.size) w (pv x) (cs.drop off) ∧ ok x
theorem readsFsU_nil {P : Program} {off : Nat} : ReadsFsU P [] off Unit (fun _ => []) (fun _ => True) := by
 intro H B enc w n cs xs hl _ _ _
 have : cs.drop off = [] := List.drop_eq_nil_of_le (by simpa using Nat.le_of_eq hl)
 rw [this]
 exact ⟨(), trivial, trivial⟩
theorem readsFsU_cons {P : Program} {f : Field} {fs : List Field} {off off' s : Nat} {α β : Type} {pv : α → List PV} {ok : α → Prop} {pv' : β → List PV} {ok' : β → Prop} (hf : ReadsU P f.type α pv ok) (ho : f.offset = off) (hs : P.cellsOf f.type = s) (ho' : off' = off + s)
  (hfs : ReadsFsU P fs off' β pv' ok') : ReadsFsU P (f :: fs) off (α × β) (fun x => pv x.1 ++ pv' x.2) (fun x => ok x.1 ∧ ok' x.2) := by
 intro H B enc w n cs xs hl hx hxl hsm
 match xs, hxl with
 | x :: xs, hxl =>
  subst ho'
  simp only [List.map_cons, List.sum_cons, hs] at hl
  have h0 := hx 0 f rfl
  rw [ho, hs] at h0
  rw [List.map_cons, B.cons] at hsm
  obtain ⟨a, ha, hoka⟩ := hf H B enc w n _ x.1 x.2 h0 (by omega)
  obtain ⟨b, hb, hokb⟩ := hfs H B enc w n cs xs (by omega) (fun i g hg => hx (i + 1) g (by simpa using hg)) (by simpa using hxl) (by omega)
  refine ⟨(a, b), ?_, hoka, hokb⟩
  have := ha.append hb
  rw [← List.drop_drop, List.take_append_drop] at this
  exact this
theorem readsU_struct {P : Program} {t : TypeId} {fs : Array Field} {α : Type} {pv : α → List PV} {ok : α → Prop} (h : P.underlying t = some (.struct fs)) (hfs : ReadsFsU P fs.toList 0 α pv ok) (hc : P.cellsOf t = (fs.toList.map fun f => P.cellsOf f.type).sum) : ReadsU P t α pv ok := by
 intro H B enc w fuel cs d ps ht hs
 obtain ⟨xs, n, rfl, hx, hl, hxl, hel⟩ := DataW.trod_struct h ht
 simp only [Prod.mk.injEq] at hx
 obtain ⟨rfl, _⟩ := hx
 have := hfs H B enc w n cs xs (by omega) (fun i f hf => hel i f (by simpa using hf)) (by simpa using hxl) (by rw [B.agg] at hs; omega)
 simpa using this
theorem ReadsU.map {P : Program} {t : TypeId} {α β : Type} {pv : α → List PV} {ok : α → Prop} (h : ReadsU P t α pv ok) (g : α → β) (pv' : β → List PV) (ok' : β → Prop) (h1 : ∀ x, pv' (g x) = pv x) (h2 : ∀ x, ok x → ok' (g x)) : ReadsU P t β pv' ok' := by
 intro H B enc w fuel cs d ps ht hs
 obtain ⟨x, hx, ho⟩ := h H B enc w fuel cs d ps ht hs
 exact ⟨g x, by rw [h1]; exact hx, h2 x ho⟩
theorem readsU_i64 {P : Program} {t : TypeId} (h : P.underlying t = some (.int .i64)) : ReadsU P t Int (fun n => [.raw (.int .i64 n)]) (fun n => -9223372036854775808 ≤ n ∧ n ≤ 9223372036854775807) :=
 (readsU_int h).map id _ _ (fun _ => rfl) (fun n hn => by simpa [Lit.wf, IntKind.min, IntKind.max, IntKind.signed, IntKind.bits] using hn)
theorem readsU_list {P : Program} {t e : TypeId} {α : Type} {ok : α → Prop} (E : Elem α) {s b : Nat} (h : P.underlying t = some (.slice e)) (he : ReadsU P e α (fun x => (List.range E.s).map (E.cf x)) ok) (hE : E.s = s) (hs : P.cellsOf e = s) (hs0 : 0 < s)
  (hb : P.bytesOf e = b) (hb0 : 0 < b) : ReadsU P t (List α) (fun xs => [E.ro xs]) (fun xs => xs.length ≤ 1048576 ∧ ∀ x ∈ xs, ok x) := by
 letI : Inhabited α := ⟨E.z⟩
 subst hE
 have := readsU_slice (P := P) (t := t) (fun (xs : List α) i j => E.cf (xs.getD i E.z) j) h he hs hs0 hb hb0 (fun xs i hi j hj => by simp [hj]; rfl)
 exact this
def ReadsLU (P : Program) (ts : List TypeId) (α : Type) (avs : α → List AV) (ok : α → Prop) : Prop :=
 ∀ (H : Type) (B : Bulks H) (enc : TypeId × Value → H) (w : World) (base : Nat) (vs : List Value) (ds : List (DataW H)) (p : List MemPlace), DataW.TrodAll enc P w 0 (fun _ => true) true ts vs ds p →
  (∀ (j : Nat) t v, ts[j]? = some t → vs[j]? = some v → Value.okWide P w .any base t v) → B.fs ds ≤ 1048576 → ∃ x, RelL (fun _ => none) (fun k => k < w.heap.size) w (avs x) vs ∧ ok x
theorem readsLU_nil {P : Program} : ReadsLU P [] Unit (fun _ => []) (fun _ => True) := by
 intro H B enc w base vs ds p h _ _
 obtain ⟨rfl, rfl, rfl⟩ := trodAll_nil h
 exact ⟨(), by simp only [RelL], trivial⟩
theorem readsLU_one {P : Program} {t : TypeId} {ts : List TypeId} {α β : Type} {pv : α → PV} {ok : α → Prop} {avs : β → List AV} {ok' : β → Prop} (hr : ReadsU P t α (fun x => [pv x]) ok)
  (hu : (∃ k, P.underlying t = some (.int k)) ∨ P.underlying t = some .bool ∨ P.underlying t = some .string ∨ ∃ e, P.underlying t = some (.slice e))
  (hl : ReadsLU P ts β avs ok') : ReadsLU P (t :: ts) (α × β) (fun x => .pv (pv x.1) :: avs x.2) (fun x => ok x.1 ∧ ok' x.2) := by
 intro H B enc w base vs ds p h hval hsm
 obtain ⟨v0, vs0, d0, ds0, p0, q0, rfl, rfl, rfl, ⟨fuel, h0⟩, r0⟩ := trodAll_cons h
 have hc := okWide_cells (hval 0 t v0 rfl rfl) hu
 rw [B.cons] at hsm
 obtain ⟨x, hx, hox⟩ := hr H B enc w fuel _ d0 p0 h0 (by omega)
 obtain ⟨y, hy, hoy⟩ := hl H B enc w base vs0 ds0 q0 r0 (fun j t v h1 h2 => hval (j + 1) t v (by simpa using h1) (by simpa using h2)) (by omega)
 refine ⟨(x, y), ?_, hox, hoy⟩
 simp only [RelL]
 exact ⟨rel_one hc hx, hy⟩
theorem law_callsU {H : Type} (B : Bulks H) {enc : TypeId × Value → H} {P : Program} {f : FuncId} {fn : Func} {s : ChangeSpec} {apart fresh handsOn again : Bool} {al : Bool} {t : TypeId} {α : Type} {avs : α → List AV} {ok : α → Prop}
  (hr : ReadsLU P fn.params.toList α avs ok) (hlaw : ∀ x, ok x → PCalls P f (avs x) al (.bool true) [])
  (hl : laidOutB P = true) (hts : ∀ t ∈ fn.params.toList, P.readableRec t = true ∧ t < P.types.size) (hvars : s.vars = []) (hrt : fn.resultTypes = #[t]) (hu : P.underlying t = some .bool)
  (hfn : ∀ ds : List (DataW H), ds.length = fn.params.size → s.fn H ds = { results := [.lit (.bool true)], args := ds })
  (W : World) (base : Nat) (args : Array Value) (ds gs : List (DataW H)) (before : List MemPlace)
  (hval : ∀ (j : Nat) t v, fn.params[j]? = some t → args[j]? = some v → Value.okWide P W .any base t v)
  (hW : DataW.Whole enc P fn.params.toList s.vars apart W args.toList ds gs before)
  (hk : B.fs (ds ++ gs) ≤ 1048576) (hgo : GOk P W) :
  Calls P f args W fun e W' => ∃ v, e = .returned v ∧ s.post enc P fn apart fresh handsOn again W args v W' := by
 have hW' := hW
 obtain ⟨p, q, hA, hV, rfl, hfz, hnd⟩ := hW
 have hlen : ds.length = fn.params.toList.length := by
  clear hW' hval hk hfz hnd hr hts hV
  revert hA
  generalize fn.params.toList = ts
  generalize args.toList = vs
  intro hA
  induction ts generalizing vs ds p with
  | nil => obtain ⟨rfl, rfl, rfl⟩ := trodAll_nil hA; rfl
  | cons t ts ih =>
   obtain ⟨v0, vs0, d0, ds0, p0, q0, rfl, rfl, rfl, h0, r0⟩ := trodAll_cons hA
   simp [ih _ _ _ r0]
 rw [B.app] at hk
 obtain ⟨x, hx, hox⟩ := hr H B enc W base args.toList ds p hA (fun j t v h1 h2 => hval j t v (by simpa using h1) (by simpa using h2)) (by omega)
 have hc := (hlaw x hox).2 (fun k => k < W.heap.size) W args.toList hx (fun _ h => h) hgo
 refine Calls.mono hc ?_
 rintro e W' ⟨v, ι', rfl, hb, _, hv, _⟩
 simp only [RelA, RelP] at hv
 subst hv
 exact ⟨_, rfl, post_true hl hts hvars hrt hu (hfn ds (by simpa using hlen)) hW' hb⟩
end Go.Ab
set_option linter.unusedVariables false
set_option linter.unusedSimpArgs false
namespace Go.Ab
open Go.RowKit Go.ChangeShapes Go.WideShapes Go.ChangeAt
theorem returnsInHanded_of_cond_and {H : Type} {enc : TypeId × Value → H} {a : Assume} {C : Checked} {os : Os} {f : FuncId} {fn : Func} {s : OpenSpec} {k : (H : Type) → List (DataW H) → Bool} (hk : s.cond = some k) {F : Stop.Interp} {conds : List PathCond} {apart fresh handsOn again : Bool} {X : World → Array Value → Prop}
  (hX : ∀ (w w' : World) (args : Array Value), w.heap = w'.heap → X w args → X w' args)
  (own : ownKnob C.prog.godebug = none) (started : os.Started) (noInit : C.prog.inits.idxOf? f = none) (hfn : C.prog.funcs[f]? = some fn)
  (witness : ∃ (w : World) (tape : Tape) (i : Input), w.os = os ∧ (w.forCall tape i).Shaped C.prog ∧ i.vars = [] ∧ Input.okWide C.prog (w.forCall tape i) .any w.heap.size f i ∧
   ((s.pre enc C.prog fn conds apart (w.forCall tape i).memory i.args ∧ X (w.forCall tape i).memory i.args) ∧ sizedMet enc C.prog fn s apart (w.forCall tape i).memory i.args) ∧ a.holds C.prog (lone (Frame.enter C.prog f i.args .normal) [] (w.forCall tape i)))
  (contract : ∀ (W : World) (base : Nat) (args : Array Value) (ds gs : List (DataW H)) (before : List MemPlace),
   (∀ (j : Nat) t v, fn.params[j]? = some t → args[j]? = some v → Value.okWide C.prog W .any base t v) →
   DataW.Whole enc C.prog fn.params.toList s.vars apart W args.toList ds gs before →
   conds.all (PathCond.test C.prog ⟨fn.params.toList, ds, s.bare.plain.varTypes C.prog, gs⟩) = true → k H (ds ++ gs) = true → X W args →
   a.holds C.prog (lone (Frame.enter C.prog f args .normal) [] W) →
   Calls C.prog f args W fun e W' => ∃ v, e = .returned v ∧ (s.at F).post enc C.prog fn apart fresh handsOn again W args v W') :
  ReturnsInHanded a C os f .any (fun w args => (s.pre enc C.prog fn conds apart w args ∧ X w args) ∧ sizedMet enc C.prog fn s apart w args) ((s.at F).post enc C.prog fn apart fresh handsOn again) := by
 refine returnsInHanded_of_calls own started noInit witness ?_
 intro w tape i _ _ _ hok hpre hholds
 obtain ⟨_, _, _, fn', hfn', _, _, _, _, hval⟩ := hok
 have e : fn' = fn := Option.some.inj (hfn'.symm.trans hfn)
 subst e
 obtain ⟨ds, gs, before, hw, hc, hkk⟩ := (OpenSpec.pre_some hk conds apart _ _).1 hpre.1.1
 have hw' := DataW.Whole.of_heap (w' := w.forCall tape i) (by rfl) hw
 refine (contract (w.forCall tape i) w.heap.size i.args ds gs before hval hw' hc hkk (hX _ _ _ (by rfl) hpre.1.2) hholds).mono fun e W' ⟨v, he, hp⟩ => ?_
 subst he
 exact ChangeSpec.post_blind hp
theorem cond_witness_shaped {H : Type} {enc : TypeId × Value → H} {C : Checked} {os : Os} {f : FuncId} {fn : Func} {s : OpenSpec} {k : (H : Type) → List (DataW H) → Bool} (hk : s.cond = some k) {conds : List PathCond} {apart : Bool} {X : World → Array Value → Prop} (modest : Bool) (w0 : World) (args : Array Value) (fuel : Nat) (hos : w0.os = os)
  (hsh : (w0.forCall (fun _ _ => 0) ⟨#[], args, []⟩).Shaped C.prog)
  (hok : Input.okWideB C.prog (w0.forCall (fun _ _ => 0) ⟨#[], args, []⟩) f ⟨#[], args, []⟩ = true)
  {x : List (DataW H) × List (DataW H) × List MemPlace} (hx0 : DataW.whole enc C.prog (w0.forCall (fun _ _ => 0) ⟨#[], args, []⟩).memory fn.params.toList s.vars apart args.toList fuel = some x)
  (hconds : conds.all (PathCond.test C.prog ⟨fn.params.toList, x.1, s.bare.plain.varTypes C.prog, x.2.1⟩) = true) (hkk : k H (x.1 ++ x.2.1) = true)
  (hx : X (w0.forCall (fun _ _ => 0) ⟨#[], args, []⟩).memory args)
  (hsz : s.bare.sizedB enc C.prog fn apart (w0.forCall (fun _ _ => 0) ⟨#[], args, []⟩).memory args fuel = true) :
  ∃ (w : World) (tape : Tape) (i : Input), w.os = os ∧ (w.forCall tape i).Shaped C.prog ∧ i.vars = [] ∧ Input.okWide C.prog (w.forCall tape i) .any w.heap.size f i ∧
   ((s.pre enc C.prog fn conds apart (w.forCall tape i).memory i.args ∧ X (w.forCall tape i).memory i.args) ∧ sizedMet enc C.prog fn s apart (w.forCall tape i).memory i.args) ∧ ({ modest := modest } : Assume).holds C.prog (lone (Frame.enter C.prog f i.args .normal) [] (w.forCall tape i)) :=
 ⟨w0, fun _ _ => 0, ⟨#[], args, []⟩, hos, hsh, (Input.okWide_of_okWideB (base := 0) hok).1, (Input.okWide_of_okWideB hok).2,
  ⟨⟨(OpenSpec.pre_some hk conds apart _ _).2 ⟨x.1, x.2.1, x.2.2, DataW.Whole_of_whole hx0, hconds, hkk⟩, hx⟩, sizedMet_of_sizedB hsz⟩, by
  simp only [Assume.holds]
  exact ⟨by simp, by simp, fun _ => Modest.zero, by simp, by simp⟩⟩
end Go.Ab
