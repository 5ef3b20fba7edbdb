import Derived.Test.YthmieigenefilaaGreatDoorAbUb
import Derived.OpenShut
import Derived.JoinedCond
import Derived.LaidLaws
set_option linter.unusedVariables false
set_option linter.unusedSimpArgs false
namespace Go.Ab
open Go.RowKit
end Go.Ab
set_option linter.unusedVariables false
set_option linter.unusedSimpArgs false
namespace Go.Ab
open Go.RowKit Go.ChangeShapes Go.WideShapes Go.ChangeAt
structure Bulks (H : Type) where
 f : DataW H → Nat
 fs : List (DataW H) → Nat
 nil : fs [] = 0
 cons : ∀ d r, fs (d :: r) = f d + fs r
 str : ∀ b, f (.lit (.string b)) = b.length + 1
 slice : ∀ a b, f (.slice a b) = fs a + fs b + 1
 agg : ∀ a, f (.agg a) = fs a + 1
 one : ∀ d, 1 ≤ f d
theorem Bulks.part {H : Type} (B : Bulks H) : ∀ {l : List (DataW H)} {d : DataW H}, d ∈ l → B.f d ≤ B.fs l
 | x :: r, d, h => by
  rw [B.cons]
  rcases List.mem_cons.1 h with rfl | h
  ·omega
  ·have := B.part h; omega
theorem Bulks.len {H : Type} (B : Bulks H) : ∀ (l : List (DataW H)), l.length ≤ B.fs l
 | [] => by rw [B.nil]; simp
 | x :: r => by rw [B.cons, List.length_cons]; have := B.len r; have := B.one x; omega
theorem Bulks.app {H : Type} (B : Bulks H) : ∀ (l r : List (DataW H)), B.fs (l ++ r) = B.fs l + B.fs r
 | [], r => by rw [B.nil]; simp
 | x :: l, r => by rw [List.cons_append, B.cons, B.cons, B.app l r]; omega
def ReadsU (P : Program) (t : TypeId) (α : Type) (pv : α → List PV) (ok : α → Prop) : Prop :=
 ∀ (H : Type) (B : Bulks H) (enc : TypeId × Value → H) (w : World) (fuel : Nat) (cs : List Value) (d : DataW H) (ps : List MemPlace), DataW.trod enc P w 0 (fun _ => true) true fuel t cs = some (d, ps) → B.f d ≤ 1048576 →
  ∃ x, RelPs (fun k => k < w.heap.size) w (pv x) cs ∧ ok x
theorem readsU_str {P : Program} {t : TypeId} (h : P.underlying t = some .string) : ReadsU P t ByteArray (fun s => [.raw (.string s)]) (fun s => s.size ≤ 1048576) := by
 intro H B enc w fuel cs d ps ht hs
 obtain ⟨s, rfl, hx, hw⟩ := DataW.trod_string h ht
 simp only [Prod.mk.injEq] at hx
 obtain ⟨rfl, _⟩ := hx
 refine ⟨s, ⟨⟨rfl, rfl⟩, trivial⟩, ?_⟩
 rw [B.str, Array.length_toList] at hs
 show s.data.size ≤ _
 omega
theorem ReadsU.map {P : Program} {t : TypeId} {α β : Type} {pv : α → List PV} {ok : α → Prop} (h : ReadsU P t α pv ok) (g : α → β) (pv' : β → List PV) (ok' : β → Prop) (h1 : ∀ x, pv' (g x) = pv x) (h2 : ∀ x, ok x → ok' (g x)) : ReadsU P t β pv' ok' := by
 intro H B enc w fuel cs d ps ht hs
 obtain ⟨x, hx, ho⟩ := h H B enc w fuel cs d ps ht hs
 exact ⟨g x, by rw [h1]; exact hx, h2 x ho⟩
def ReadsLU (P : Program) (ts : List TypeId) (α : Type) (avs : α → List AV) (ok : α → Prop) : Prop :=
 ∀ (H : Type) (B : Bulks H) (enc : TypeId × Value → H) (w : World) (base : Nat) (vs : List Value) (ds : List (DataW H)) (p : List MemPlace), DataW.TrodAll enc P w 0 (fun _ => true) true ts vs ds p →
  (∀ (j : Nat) t v, ts[j]? = some t → vs[j]? = some v → Value.okWide P w .any base t v) → B.fs ds ≤ 1048576 → ∃ x, RelL (fun _ => none) (fun k => k < w.heap.size) w (avs x) vs ∧ ok x
theorem readsLU_nil {P : Program} : ReadsLU P [] Unit (fun _ => []) (fun _ => True) := by
 intro H B enc w base vs ds p h _ _
 obtain ⟨rfl, rfl, rfl⟩ := trodAll_nil h
 exact ⟨(), by simp only [RelL], trivial⟩
theorem readsLU_one {P : Program} {t : TypeId} {ts : List TypeId} {α β : Type} {pv : α → PV} {ok : α → Prop} {avs : β → List AV} {ok' : β → Prop} (hr : ReadsU P t α (fun x => [pv x]) ok)
  (hu : (∃ k, P.underlying t = some (.int k)) ∨ P.underlying t = some .bool ∨ P.underlying t = some .string ∨ ∃ e, P.underlying t = some (.slice e))
  (hl : ReadsLU P ts β avs ok') : ReadsLU P (t :: ts) (α × β) (fun x => .pv (pv x.1) :: avs x.2) (fun x => ok x.1 ∧ ok' x.2) := by
 intro H B enc w base vs ds p h hval hsm
 obtain ⟨v0, vs0, d0, ds0, p0, q0, rfl, rfl, rfl, ⟨fuel, h0⟩, r0⟩ := trodAll_cons h
 have hc := okWide_cells (hval 0 t v0 rfl rfl) hu
 rw [B.cons] at hsm
 obtain ⟨x, hx, hox⟩ := hr H B enc w fuel _ d0 p0 h0 (by omega)
 obtain ⟨y, hy, hoy⟩ := hl H B enc w base vs0 ds0 q0 r0 (fun j t v h1 h2 => hval (j + 1) t v (by simpa using h1) (by simpa using h2)) (by omega)
 refine ⟨(x, y), ?_, hox, hoy⟩
 simp only [RelL]
 exact ⟨rel_one hc hx, hy⟩
theorem law_callsU {H : Type} (B : Bulks H) {enc : TypeId × Value → H} {P : Program} {f : FuncId} {fn : Func} {s : ChangeSpec} {apart fresh handsOn again : Bool} {al : Bool} {t : TypeId} {α : Type} {avs : α → List AV} {ok : α → Prop}
  (hr : ReadsLU P fn.params.toList α avs ok) (hlaw : ∀ x, ok x → PCalls P f (avs x) al (.bool true) [])
  (hl : laidOutB P = true) (hts : ∀ t ∈ fn.params.toList, P.readableRec t = true ∧ t < P.types.size) (hvars : s.vars = []) (hrt : fn.resultTypes = #[t]) (hu : P.underlying t = some .bool)
  (hfn : ∀ ds : List (DataW H), ds.length = fn.params.size → s.fn H ds = { results := [.lit (.bool true)], args := ds })
  (W : World) (base : Nat) (args : Array Value) (ds gs : List (DataW H)) (before : List MemPlace)
  (hval : ∀ (j : Nat) t v, fn.params[j]? = some t → args[j]? = some v → Value.okWide P W .any base t v)
  (hW : DataW.Whole enc P fn.params.toList s.vars apart W args.toList ds gs before)
  (hk : B.fs (ds ++ gs) ≤ 1048576) (hgo : GOk P W) :
  Calls P f args W fun e W' => ∃ v, e = .returned v ∧ s.post enc P fn apart fresh handsOn again W args v W' := by
 have hW' := hW
 obtain ⟨p, q, hA, hV, rfl, hfz, hnd⟩ := hW
 have hlen : ds.length = fn.params.toList.length := by
  clear hW' hval hk hfz hnd hr hts hV
  revert hA
  generalize fn.params.toList = ts
  generalize args.toList = vs
  intro hA
  induction ts generalizing vs ds p with
  | nil => obtain ⟨rfl, rfl, rfl⟩ := trodAll_nil hA; rfl
  | cons t ts ih =>
   obtain ⟨v0, vs0, d0, ds0, p0, q0, rfl, rfl, rfl, h0, r0⟩ := trodAll_cons hA
   simp [ih _ _ _ r0]
 rw [B.app] at hk
 obtain ⟨x, hx, hox⟩ := hr H B enc W base args.toList ds p hA (fun j t v h1 h2 => hval j t v (by simpa using h1) (by simpa using h2)) (by omega)
 have hc := (hlaw x hox).2 (fun k => k < W.heap.size) W args.toList hx (fun _ h => h) hgo
 refine Calls.mono hc ?_
 rintro e W' ⟨v, ι', rfl, hb, _, hv, _⟩
 simp only [RelA, RelP] at hv
 subst hv
 exact ⟨_, rfl, post_true hl hts hvars hrt hu (hfn ds (by simpa using hlen)) hW' hb⟩
end Go.Ab
set_option linter.unusedVariables false
set_option linter.unusedSimpArgs false
namespace Go.Ab
open Go.RowKit Go.ChangeShapes Go.WideShapes Go.ChangeAt
theorem returnsInHanded_of_cond_and {H : Type} {enc : TypeId × Value → H} {a : Assume} {C : Checked} {os : Os} {f : FuncId} {fn : Func} {s : OpenSpec} {k : (H : Type) → List (DataW H) → Bool} (hk : s.cond = some k) {F : Stop.Interp} {conds : List PathCond} {apart fresh handsOn again : Bool} {X : World → Array Value → Prop}
  (hX : ∀ (w w' : World) (args : Array Value), w.heap = w'.heap → X w args → X w' args)
  (own : ownKnob C.prog.godebug = none) (started : os.Started) (noInit : C.prog.inits.idxOf? f = none) (hfn : C.prog.funcs[f]? = some fn)
  (witness : ∃ (w : World) (tape : Tape) (i : Input), w.os = os ∧ (w.forCall tape i).Shaped C.prog ∧ i.vars = [] ∧ Input.okWide C.prog (w.forCall tape i) .any w.heap.size f i ∧
   ((s.pre enc C.prog fn conds apart (w.forCall tape i).memory i.args ∧ X (w.forCall tape i).memory i.args) ∧ sizedMet enc C.prog fn s apart (w.forCall tape i).memory i.args) ∧ a.holds C.prog (lone (Frame.enter C.prog f i.args .normal) [] (w.forCall tape i)))
  (contract : ∀ (W : World) (base : Nat) (args : Array Value) (ds gs : List (DataW H)) (before : List MemPlace),
   (∀ (j : Nat) t v, fn.params[j]? = some t → args[j]? = some v → Value.okWide C.prog W .any base t v) →
   DataW.Whole enc C.prog fn.params.toList s.vars apart W args.toList ds gs before →
   conds.all (PathCond.test C.prog ⟨fn.params.toList, ds, s.bare.plain.varTypes C.prog, gs⟩) = true → k H (ds ++ gs) = true → X W args →
   a.holds C.prog (lone (Frame.enter C.prog f args .normal) [] W) →
   Calls C.prog f args W fun e W' => ∃ v, e = .returned v ∧ (s.at F).post enc C.prog fn apart fresh handsOn again W args v W') :
  ReturnsInHanded a C os f .any (fun w args => (s.pre enc C.prog fn conds apart w args ∧ X w args) ∧ sizedMet enc C.prog fn s apart w args) ((s.at F).post enc C.prog fn apart fresh handsOn again) := by
 refine returnsInHanded_of_calls own started noInit witness ?_
 intro w tape i _ _ _ hok hpre hholds
 obtain ⟨_, _, _, fn', hfn', _, _, _, _, hval⟩ := hok
 have e : fn' = fn := Option.some.inj (hfn'.symm.trans hfn)
 subst e
 obtain ⟨ds, gs, before, hw, hc, hkk⟩ := (OpenSpec.pre_some hk conds apart _ _).1 hpre.1.1
 have hw' := DataW.Whole.of_heap (w' := w.forCall tape i) (by rfl) hw
 refine (contract (w.forCall tape i) w.heap.size i.args ds gs before hval hw' hc hkk (hX _ _ _ (by rfl) hpre.1.2) hholds).mono fun e W' ⟨v, he, hp⟩ => ?_
 subst he
 exact ChangeSpec.post_blind hp
theorem cond_witness_shaped {H : Type} {enc : TypeId × Value → H} {C : Checked} {os : Os} {f : FuncId} {fn : Func} {s : OpenSpec} {k : (H : Type) → List (DataW H) → Bool} (hk : s.cond = some k) {conds : List PathCond} {apart : Bool} {X : World → Array Value → Prop} (modest : Bool) (w0 : World) (args : Array Value) (fuel : Nat) (hos : w0.os = os)
  (hsh : (w0.forCall (fun _ _ => 0) ⟨#[], args, []⟩).Shaped C.prog)
  (hok : Input.okWideB C.prog (w0.forCall (fun _ _ => 0) ⟨#[], args, []⟩) f ⟨#[], args, []⟩ = true)
  {x : List (DataW H) × List (DataW H) × List MemPlace} (hx0 : DataW.whole enc C.prog (w0.forCall (fun _ _ => 0) ⟨#[], args, []⟩).memory fn.params.toList s.vars apart args.toList fuel = some x)
  (hconds : conds.all (PathCond.test C.prog ⟨fn.params.toList, x.1, s.bare.plain.varTypes C.prog, x.2.1⟩) = true) (hkk : k H (x.1 ++ x.2.1) = true)
  (hx : X (w0.forCall (fun _ _ => 0) ⟨#[], args, []⟩).memory args)
  (hsz : s.bare.sizedB enc C.prog fn apart (w0.forCall (fun _ _ => 0) ⟨#[], args, []⟩).memory args fuel = true) :
  ∃ (w : World) (tape : Tape) (i : Input), w.os = os ∧ (w.forCall tape i).Shaped C.prog ∧ i.vars = [] ∧ Input.okWide C.prog (w.forCall tape i) .any w.heap.size f i ∧
   ((s.pre enc C.prog fn conds apart (w.forCall tape i).memory i.args ∧ X (w.forCall tape i).memory i.args) ∧ sizedMet enc C.prog fn s apart (w.forCall tape i).memory i.args) ∧ ({ modest := modest } : Assume).holds C.prog (lone (Frame.enter C.prog f i.args .normal) [] (w.forCall tape i)) :=
 ⟨w0, fun _ _ => 0, ⟨#[], args, []⟩, hos, hsh, (Input.okWide_of_okWideB (base := 0) hok).1, (Input.okWide_of_okWideB hok).2,
  ⟨⟨(OpenSpec.pre_some hk conds apart _ _).2 ⟨x.1, x.2.1, x.2.2, DataW.Whole_of_whole hx0, hconds, hkk⟩, hx⟩, sizedMet_of_sizedB hsz⟩, by
  simp only [Assume.holds]
  exact ⟨by simp, by simp, fun _ => Modest.zero, by simp, by simp⟩⟩
end Go.Ab
