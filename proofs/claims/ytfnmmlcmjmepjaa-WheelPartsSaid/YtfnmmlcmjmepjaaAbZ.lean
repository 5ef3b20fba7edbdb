import Derived.Test.YtfnmmlcmjmepjaaAbV
import Derived.Test.YtfnmmlcmjmepjaaAbY
set_option linter.unusedVariables false
set_option linter.unusedSimpArgs false
namespace Go.Ab
open Go.RowKit Go.ChangeShapes Go.WideShapes Go.ChangeAt
theorem reads_i64 {P : Program} {t : TypeId} (h : P.underlying t = some (.int .i64)) : Reads P t Int (fun n => [.raw (.int .i64 n)]) (fun n => -9223372036854775808 ≤ n ∧ n ≤ 9223372036854775807) :=
 (reads_int h).map id _ _ (fun _ => rfl) (fun n hn => by simpa [Lit.wf, IntKind.min, IntKind.max, IntKind.signed, IntKind.bits] using hn)
theorem reads_list {P : Program} {t e : TypeId} {α : Type} {ok : α → Prop} (E : Elem α) {s b : Nat} (h : P.underlying t = some (.slice e)) (he : Reads P e α (fun x => (List.range E.s).map (E.cf x)) ok) (hE : E.s = s) (hs : P.cellsOf e = s) (hs0 : 0 < s)
  (hb : P.bytesOf e = b) (hb0 : 0 < b) : Reads P t (List α) (fun xs => [E.ro xs]) (fun xs => xs.length * b ≤ 140737488351232 ∧ ∀ x ∈ xs, ok x) := by
 letI : Inhabited α := ⟨E.z⟩
 subst hE
 have := reads_slice (P := P) (t := t) (fun (xs : List α) i j => E.cf (xs.getD i E.z) j) h he hs hs0 hb hb0 (fun xs i hi j hj => by simp [hj]; rfl)
 exact this
def ReadsL (P : Program) (ts : List TypeId) (α : Type) (avs : α → List AV) (ok : α → Prop) : Prop :=
 ∀ (H : Type) (enc : TypeId × Value → H) (w : World) (base : Nat) (vs : List Value) (ds : List (DataW H)) (p : List MemPlace), DataW.TrodAll enc P w 0 (fun _ => true) true ts vs ds p →
  (∀ (j : Nat) t v, ts[j]? = some t → vs[j]? = some v → Value.okWide P w .any base t v) → Small (DataW.weightsEach P ts ds) → ∃ x, RelL (fun _ => none) (fun k => k < w.heap.size) w (avs x) vs ∧ ok x
theorem readsL_nil {P : Program} : ReadsL P [] Unit (fun _ => []) (fun _ => True) := by
 intro H enc w base vs ds p h _ _
 obtain ⟨rfl, rfl, rfl⟩ := trodAll_nil h
 exact ⟨(), by simp only [RelL], trivial⟩
theorem okWide_cells {P : Program} {w : World} {base : Nat} {t : TypeId} {v : Value} (h : Value.okWide P w .any base t v) (hu : (∃ k, P.underlying t = some (.int k)) ∨ P.underlying t = some .bool ∨ P.underlying t = some .string ∨ ∃ e, P.underlying t = some (.slice e)) : v.cells = #[v] := by
 cases v with
 | agg cs =>
  exfalso
  unfold Value.okWide at h
  rcases hu with ⟨k, hu⟩ | hu | hu | ⟨e, hu⟩ <;> (rw [hu] at h; simp [Cell.okWide, hu, Cell.ok] at h)
 | _ => rfl
theorem readsL_one {P : Program} {t : TypeId} {ts : List TypeId} {α β : Type} {pv : α → PV} {ok : α → Prop} {avs : β → List AV} {ok' : β → Prop} (hr : Reads P t α (fun x => [pv x]) ok)
  (hu : (∃ k, P.underlying t = some (.int k)) ∨ P.underlying t = some .bool ∨ P.underlying t = some .string ∨ ∃ e, P.underlying t = some (.slice e))
  (hl : ReadsL P ts β avs ok') : ReadsL P (t :: ts) (α × β) (fun x => .pv (pv x.1) :: avs x.2) (fun x => ok x.1 ∧ ok' x.2) := by
 intro H enc w base vs ds p h hval hsm
 obtain ⟨v0, vs0, d0, ds0, p0, q0, rfl, rfl, rfl, ⟨fuel, h0⟩, r0⟩ := trodAll_cons h
 have hc := okWide_cells (hval 0 t v0 rfl rfl) hu
 simp only [DataW.weightsEach] at hsm
 obtain ⟨x, hx, hox⟩ := hr H enc w fuel _ d0 p0 h0 (fun m hm => hsm m (List.mem_append.2 (.inl hm)))
 obtain ⟨y, hy, hoy⟩ := hl H enc w base vs0 ds0 q0 r0 (fun j t v h1 h2 => hval (j + 1) t v (by simpa using h1) (by simpa using h2)) (fun m hm => hsm m (List.mem_append.2 (.inr hm)))
 refine ⟨(x, y), ?_, hox, hoy⟩
 simp only [RelL]
 exact ⟨rel_one hc hx, hy⟩
theorem gok_nil {P : Program} {W : World} (h : tabsOf P = []) : GOk P W := by
 intro x hx
 rw [h] at hx
 cases hx
theorem law_calls {H : Type} {enc : TypeId × Value → H} {P : Program} {f : FuncId} {fn : Func} {s : ChangeSpec} {apart fresh handsOn again : Bool} {al : Bool} {t : TypeId} {α : Type} {avs : α → List AV} {ok : α → Prop}
  (hr : ReadsL P fn.params.toList α avs ok) (hlaw : ∀ x, ok x → PCalls P f (avs x) al (.bool true) [])
  (hl : laidOutB P = true) (hts : ∀ t ∈ fn.params.toList, P.readableRec t = true ∧ t < P.types.size) (hvars : s.vars = []) (hrt : fn.resultTypes = #[t]) (hu : P.underlying t = some .bool)
  (hfn : ∀ ds : List (DataW H), ds.length = fn.params.size → s.fn H ds = { results := [.lit (.bool true)], args := ds })
  (W : World) (base : Nat) (args : Array Value) (ds gs : List (DataW H)) (before : List MemPlace)
  (hval : ∀ (j : Nat) t v, fn.params[j]? = some t → args[j]? = some v → Value.okWide P W .any base t v)
  (hW : DataW.Whole enc P fn.params.toList s.vars apart W args.toList ds gs before)
  (hsm : (DataW.weightsEach P (fn.params.toList ++ s.plain.varTypes P) (ds ++ gs)).all (· ≤ reachBytes) = true) (hgo : GOk P W) :
  Calls P f args W fun e W' => ∃ v, e = .returned v ∧ s.post enc P fn apart fresh handsOn again W args v W' := by
 have hW' := hW
 obtain ⟨p, q, hA, hV, rfl, hfz, hnd⟩ := hW
 have hlen : ds.length = fn.params.toList.length := by
  clear hW' hval hsm hfz hnd hr hts hV
  revert hA
  generalize fn.params.toList = ts
  generalize args.toList = vs
  intro hA
  induction ts generalizing vs ds p with
  | nil => obtain ⟨rfl, rfl, rfl⟩ := trodAll_nil hA; rfl
  | cons t ts ih =>
   obtain ⟨v0, vs0, d0, ds0, p0, q0, rfl, rfl, rfl, h0, r0⟩ := trodAll_cons hA
   simp [ih _ _ _ r0]
 have hw : ∀ (ts us : List TypeId) (ds gs : List (DataW H)), ds.length = ts.length → ∀ m ∈ DataW.weightsEach P ts ds, m ∈ DataW.weightsEach P (ts ++ us) (ds ++ gs) := by
  intro ts
  induction ts with
  | nil => intro us ds gs hl m hm; cases ds <;> simp_all [DataW.weightsEach]
  | cons t ts ih =>
   intro us ds gs hl m hm
   cases ds with
   | nil => simp at hl
   | cons d ds =>
    simp only [DataW.weightsEach, List.cons_append, List.mem_append] at hm ⊢
    rcases hm with hm | hm
    ·exact .inl hm
    ·exact .inr (ih us ds gs (by simpa using hl) m hm)
 have hs : Small (DataW.weightsEach P fn.params.toList ds) := by
  intro n hn
  have := List.all_eq_true.1 hsm n (hw _ _ _ _ hlen n hn)
  simpa using this
 obtain ⟨x, hx, hox⟩ := hr H enc W base args.toList ds p hA (fun j t v h1 h2 => hval j t v (by simpa using h1) (by simpa using h2)) hs
 have hc := (hlaw x hox).2 (fun k => k < W.heap.size) W args.toList hx (fun _ h => h) hgo
 refine Calls.mono hc ?_
 rintro e W' ⟨v, ι', rfl, hb, _, hv, _⟩
 simp only [RelA, RelP] at hv
 subst hv
 exact ⟨_, rfl, post_true hl hts hvars hrt hu (hfn ds (by simpa using hlen)) hW' hb⟩
end Go.Ab

