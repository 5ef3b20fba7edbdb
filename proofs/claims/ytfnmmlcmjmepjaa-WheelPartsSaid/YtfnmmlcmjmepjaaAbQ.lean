import Derived.Test.YtfnmmlcmjmepjaaAbP
set_option linter.unusedVariables false
set_option linter.unusedSimpArgs false
namespace Go.Ab
open Go.RowKit
variable {A : Env} {P : Program} {T : Tab}
def Sub (σ τ : AS) : Prop := ∃ ρ F, SubC ρ F σ τ
theorem awp_weaken {c : Code} {Q : Exit → AS → Prop} {σ τ : AS} (hs : Sub σ τ) (h : AWp P c Q τ) : AWp P c Q σ := by
 intro A _ W a w ⟨ι, R, hst⟩
 obtain ⟨ρ, F, hs⟩ := hs
 obtain ⟨ι2, R2, h2, _⟩ := hs.sound hst
 exact h A W a w ⟨ι2, R2, h2⟩
theorem awp_mono {c : Code} {Q Q' : Exit → AS → Prop} {σ : AS} (h : AWp P c Q σ) (hq : ∀ e σ', Q e σ' → Q' e σ') : AWp P c Q' σ := by
 intro A _ W a w hst
 exact wp_mono (h A W a w hst) fun e a w ⟨σ', h1, h2⟩ => ⟨σ', h1, hq e σ' h2⟩
def loopQ {X : Type} (C : X → Prop) (μ : X → Nat) (τ : X → AS) (n : Nat) (Q : Exit → AS → Prop) : Exit → AS → Prop
 | .normal, σ' => ∃ x', C x' ∧ μ x' < n ∧ Sub σ' (τ x')
 | e, σ' => Q e σ'
theorem awp_loop {X : Type} (C : X → Prop) (μ : X → Nat) (τ : X → AS) {body : Code} {Q : Exit → AS → Prop} {σ : AS} (x0 : X) (h0 : C x0) (hs : Sub σ (τ x0))
  (round : ∀ x, C x → AWp P body (loopQ C μ τ (μ x) Q) (τ x)) : AWp P (.loop body) Q σ := by
 refine awp_weaken hs ?_
 intro A _ W a w hst
 refine wp_loop_ghost (fun n a w => ∃ x, C x ∧ μ x = n ∧ St A W w a (τ x)) (μ x0) ⟨x0, h0, rfl, hst⟩ ?_
 rintro n a w ⟨x, hc, rfl, hst⟩
 refine wp_mono (round x hc A W a w hst) ?_
 rintro e a' w' ⟨σ', hst', hq⟩
 cases e with
 | normal =>
  obtain ⟨x', hc', hlt, ρ, F, hsub⟩ := hq
  obtain ⟨ι, R, hst'⟩ := hst'
  obtain ⟨ι2, R2, h2, _⟩ := hsub.sound hst'
  exact ⟨μ x', hlt, x', hc', rfl, ι2, R2, h2⟩
 | _ => exact ⟨σ', hst', hq⟩
def resOne (T : Tab) (σ : AS) : ResultVar → Out
 | .tmp t => ((σ.slots t).when = true, (σ.slots t).bare)
 | .cell a t => ((σ.slots a).when = true ∧ (loadAV T σ.heap t (σ.slots a).bare).1, (loadAV T σ.heap t (σ.slots a).bare).2)
def resAll (T : Tab) (σ : AS) : List ResultVar → Prop × List AV
 | [] => (True, [])
 | r :: rs => ((resOne T σ r).1 ∧ (resAll T σ rs).1, (resOne T σ r).2 :: (resAll T σ rs).2)
def asTup : List AV → AV
 | [x] => x
 | xs => .tup xs
def resSem (a : Act) : ResultVar → Sem Value
 | .tmp t => pure (a.tmps.getD t undef)
 | .cell b t => do loadVar t (← asAddr (a.tmps.getD b undef))
theorem resOne_sound (hT : TabOk P T) {W w : World} {a : Act} {σ : AS} {ι : Emb} {R : Nat → Prop} (h : St.Of A W w a σ ι R) (r : ResultVar) (hok : (resOne T σ r).1) :
  ∃ u, (resSem a r).run P w = .ok u w ∧ RelA ι R w (resOne T σ r).2 u := by
 cases r with
 | tmp t => exact ⟨_, rfl, (h.slots t).bare hok⟩
 | cell b t =>
  simp only [resOne] at hok ⊢
  have hb := (h.slots b).bare hok.1
  obtain ⟨u, h1, h2⟩ := load_sound hT h.heap t hb hok.2
  refine ⟨u, ?_, h2⟩
  generalize hv : a.tmps.getD b undef = v at h1 ⊢
  unfold Instr.loadAt at h1
  cases v with
  | pointer p =>
   cases p with
   | none => simp [Instr.sureAddr] at h1
   | some ad => simpa [Instr.sureAddr, asAddr, resSem, hv] using h1
  | _ => simp [Instr.sureAddr] at h1
theorem resAll_sound (hT : TabOk P T) {W w : World} {a : Act} {σ : AS} {ι : Emb} {R : Nat → Prop} (h : St.Of A W w a σ ι R) : ∀ (rs : List ResultVar), (resAll T σ rs).1 →
  ∃ us, (rs.mapM (resSem a)).run P w = .ok us w ∧ RelL ι R w (resAll T σ rs).2 us
 | [], _ => ⟨[], by simp, by simp [resAll, RelL]⟩
 | r :: rs, hok => by
  obtain ⟨u, h1, h2⟩ := resOne_sound hT h r hok.1
  obtain ⟨us, h3, h4⟩ := resAll_sound hT h rs hok.2
  refine ⟨u :: us, ?_, by simp only [resAll, RelL]; exact ⟨h2, h4⟩⟩
  simp only [List.mapM_cons, Sem.run_bind]
  rw [h1]
  simp only [Result.andThen_ok, h3, Sem.run_pure]
theorem results_sound (hT : TabOk P T) {W w : World} {a : Act} {σ : AS} {ι : Emb} {R : Nat → Prop} (h : St.Of A W w a σ ι R) (fn : Func) (hok : (resAll T σ fn.results.toList).1) :
  ∃ v, (results fn a.tmps).run P w = .ok v w ∧ RelA ι R w (asTup (resAll T σ fn.results.toList).2) v := by
 obtain ⟨us, h1, h2⟩ := resAll_sound hT h fn.results.toList hok
 refine ⟨if h : us.toArray.size = 1 then us.toArray[0] else .tuple us.toArray, ?_, ?_⟩
 ·have e : results fn a.tmps = (do let vs ← fn.results.mapM (resSem a); pure (if h : vs.size = 1 then vs[0] else .tuple vs)) := by
   unfold results
   congr 1
  rw [e, Array.mapM_eq_mapM_toList]
  simp only [Sem.run_bind, Sem.run_map]
  rw [h1]
  rfl
 ·have hl := h2.length
  generalize (resAll T σ fn.results.toList).2 = xs at h2 hl
  match xs, us, h2 with
  | [], [], _ => simp only [asTup, RelA]; exact ⟨#[], rfl, by simp [RelL]⟩
  | [x], [u], h2 => simp only [RelL] at h2; exact h2.1
  | x :: y :: xs, u :: v :: us, h2 =>
   simp only [asTup, RelA]
   refine ⟨(u :: v :: us).toArray, ?_, h2⟩
   simp
  | [], _ :: _, h2 => simp [RelL] at h2
  | _ :: _, [], h2 => simp [RelL] at h2
  | [_], _ :: _ :: _, h2 => simp [RelL] at h2
  | _ :: _ :: _, [_], h2 => simp [RelL] at h2
mutual
def AV.bald : AV → Bool
 | .pv (.raw _) => true
 | .pv (.ro _ _ _) => false
 | .ptr _ _ => true
 | .pix _ _ => true
 | .row _ _ _ _ => true
 | .map _ => true
 | .roat _ _ => false
 | .agg xs => AV.baldL xs
 | .tup xs => AV.baldL xs
 | .fn _ xs => AV.baldL xs
 | .gd _ x => AV.bald x
 | .junk => true
def AV.baldL : List AV → Bool
 | [] => true
 | x :: xs => AV.bald x && AV.baldL xs
end
mutual
theorem RelA.anyR {ι : Emb} {R R' : Nat → Prop} {w : World} : ∀ (x : AV) (u : Value), x.bald = true → RelA ι R w x u → RelA ι R' w x u
 | .pv (.raw v), u, _, h => by simp only [RelA, RelP] at h ⊢; exact h
 | .pv (.ro _ _ _), u, hb, h => by simp [AV.bald] at hb
 | .ptr id off, u, _, h => by simp only [RelA] at h ⊢; exact h
 | .pix id off, u, _, h => by simp only [RelA] at h ⊢; exact h
 | .row id s off len, u, _, h => by simp only [RelA] at h ⊢; exact h
 | .map id, u, _, h => by simp only [RelA] at h ⊢; exact h
 | .roat _ _, u, hb, h => by simp [AV.bald] at hb
 | .agg xs, u, hb, h => by
  simp only [RelA, AV.bald] at h hb ⊢
  obtain ⟨us, rfl, h⟩ := h
  exact ⟨us, rfl, RelL.anyR xs _ hb h⟩
 | .tup xs, u, hb, h => by
  simp only [RelA, AV.bald] at h hb ⊢
  obtain ⟨us, rfl, h⟩ := h
  exact ⟨us, rfl, RelL.anyR xs _ hb h⟩
 | .fn f xs, u, hb, h => by
  simp only [RelA, AV.bald] at h hb ⊢
  obtain ⟨us, rfl, h⟩ := h
  exact ⟨us, rfl, RelL.anyR xs _ hb h⟩
 | .gd g x, u, hb, h => by
  simp only [RelA, AV.bald] at h hb ⊢
  exact ⟨fun hg => RelA.anyR x u hb (h.1 hg), h.2⟩
 | .junk, u, _, h => by simp only [RelA]
theorem RelL.anyR {ι : Emb} {R R' : Nat → Prop} {w : World} : ∀ (xs : List AV) (us : List Value), AV.baldL xs = true → RelL ι R w xs us → RelL ι R' w xs us
 | [], us, _, h => relL_nil h
 | x :: xs, u :: us, hb, h => by
  simp only [RelL, AV.baldL, Bool.and_eq_true] at h hb ⊢
  exact ⟨RelA.anyR x u hb.1 h.1, RelL.anyR xs us hb.2 h.2⟩
 | _ :: _, [], _, h => by simp [RelL] at h
end
def argsAt : List AV → Nat → AV
 | [], _ => .junk
 | x :: _, 0 => x
 | _ :: xs, n + 1 => argsAt xs n
def entry (n : Nat) (args : List AV) : AS := { n := n, slots := argsAt args, heap := fun _ => none, seen := fun _ => false }
theorem argsAt_rel {ι : Emb} {R : Nat → Prop} {w : World} : ∀ {args : List AV} {vs : List Value}, RelL ι R w args vs → ∀ (t : Nat) (r : List Value), RelA ι R w (argsAt args t) ((vs ++ r).getD t undef)
 | [], vs, h, t, r => by simp only [argsAt, RelA]
 | x :: args, v :: vs, h, 0, r => by simp only [RelL, argsAt] at h ⊢; simpa using h.1
 | x :: args, v :: vs, h, t + 1, r => by simp only [RelL, argsAt] at h ⊢; simpa using argsAt_rel h.2 t r
 | _ :: _, [], h, _, _ => by simp [RelL] at h
def retQ (T : Tab) (fn : Func) (al : Bool) (res : AV) (hb : List Blk) : Exit → AS → Prop := fun e σ =>
 match e with
 | .normal | .ret => (resAll T σ fn.results.toList).1 ∧ (al = false → res.bald = true ∧ ∀ b ∈ hb, AV.baldL b.all = true) ∧ ∃ ρ F,
   Wk ρ (fun id => hbHeap hb id ≠ none) F σ.heap (asTup (resAll T σ fn.results.toList).2) res ∧
   SubC ρ F σ { n := σ.n, slots := fun _ => .junk, heap := hbHeap hb, seen := fun _ => true }
 | _ => False
theorem pcalls_intro (hT : TabOk P T) {f : FuncId} {fn : Func} {c : Code} {args : List AV} {al : Bool} {res : AV} {hb : List Blk} (hf : P.funcs[f]? = some fn) (hb' : fn.body = some c) (hn : (fn.name == "runtime.NumGoroutine") = false) {m : Nat}
  (hm : fn.ntmps = m) (hle : args.length ≤ m) (h : AWp P c (retQ T fn al res hb) (entry m args)) : PCalls P f args al res hb := by
 refine ⟨⟨fn, hf, hn, by rw [hb']; rfl⟩, ?_⟩
 intro R w vs hr hlt hgok
 have hl := hr.length
 have hst : St ⟨R, fun _ => False, fun _ => none, tabsOf P⟩ w w { tmps := vs.toArray ++ Array.replicate (fn.ntmps - vs.toArray.size) undef, defers := [] } (entry m args) := by
  refine ⟨fun _ => none, R, BelowB.refl _ _ _, by simp [entry]; omega, rfl, fun id x hx => (by cases hx), fun t => ?_, fun id b hb => (by cases hb), fun i j b b' g c c' h1 => (by cases h1), fun id b g c h1 => (by cases h1), hlt, fun id b g c h1 => (by cases h1), fun k hk _ => .inl hk, fun i x hi => absurd hi (Nat.not_lt_zero _), fun x hx => ⟨hgok x hx, id⟩⟩
  have := argsAt_rel hr t (List.replicate (fn.ntmps - vs.length) undef)
  have e : (vs.toArray ++ Array.replicate (fn.ntmps - vs.toArray.size) undef).getD t undef = (vs ++ List.replicate (fn.ntmps - vs.length) undef).getD t undef := by
   rw [Array.getD_eq_getD_getElem?, List.getD_eq_getElem?_getD, ← Array.getElem?_toList]
   simp
  show RelA _ _ _ (argsAt args t) ((vs.toArray ++ Array.replicate (fn.ntmps - vs.toArray.size) undef).getD t undef)
  rw [e]
  exact this
 refine calls_of_wp hf hb' (wp_mono (h _ w _ w hst) ?_)
 rintro e a' w' ⟨σ', ⟨ι, R', hst'⟩, hq⟩
 have key : (resAll T σ' fn.results.toList).1 ∧ (al = false → res.bald = true ∧ ∀ b ∈ hb, AV.baldL b.all = true) ∧ (∃ ρ F,
   Wk ρ (fun id => hbHeap hb id ≠ none) F σ'.heap (asTup (resAll T σ' fn.results.toList).2) res ∧
   SubC ρ F σ' { n := σ'.n, slots := fun _ => .junk, heap := hbHeap hb, seen := fun _ => true }) →
   a'.defers = [] ∧ ∃ v, (results fn a'.tmps).run P w' = .ok v w' ∧ (∃ v' ι', Ending.returned v = Ending.returned v' ∧ Below w.heap.size w w' ∧
   (∀ i b, hb[i]? = some b → RelB ι' (fun k => (al = true ∧ R k) ∨ (w.heap.size ≤ k ∧ k < w'.heap.size ∧ ∀ i b c, hb[i]? = some b → ι' i ≠ some (some (k, c)))) w' i b) ∧
   RelA ι' (fun k => (al = true ∧ R k) ∨ (w.heap.size ≤ k ∧ k < w'.heap.size ∧ ∀ i b c, hb[i]? = some b → ι' i ≠ some (some (k, c)))) w' res v' ∧
   (∀ i b g c, hb[i]? = some b → ι' i = some (some (g, c)) → w.heap.size ≤ g) ∧
   (∀ i j b b' g c c', hb[i]? = some b → hb[j]? = some b' → ι' i = some (some (g, c)) → ι' j = some (some (g, c')) → i = j) ∧
   (∀ i x, ι' i = some x → i < hb.length)) := by
  rintro ⟨hok, hbald, ρ, F, hw, hsub⟩
  obtain ⟨v, hrun, hrel⟩ := results_sound hT hst' fn hok
  obtain ⟨ι2, R2, h2, wk, hdom, _, _, _, _⟩ := hsub.sound hst'
  have hres := wk _ _ v hw hrel
  refine ⟨hst'.defers, v, hrun, v, ι2, rfl, hst'.below.to (fun _ _ h => h), ?_, ?_, ?_, ?_, ?_⟩
  ·intro i b hib
   have hb2 := h2.heap i b hib
   cases al with
   | true =>
    refine hb2.mono (fun _ _ e => e) (fun k hk => ?_) (fun _ _ => rfl) (fun _ _ _ => rfl)
    by_cases hkW : k < w.heap.size
    ·exact .inl ⟨rfl, (h2.arg k hk hkW).elim id False.elim⟩
    ·exact .inr ⟨by omega, h2.lt k hk, fun j b c hjb hj => h2.out j b k c hjb hj hk⟩
   | false =>
    have hbl := (hbald rfl).2 b (List.mem_of_getElem? hib)
    cases b with
    | box cs =>
     obtain ⟨g, c, cur, e, hi, hg, hr, h1⟩ := hb2
     exact ⟨g, c, cur, e, hi, hg, RelL.anyR _ _ hbl hr, h1⟩
    | row e s cs =>
     obtain ⟨n, hl, hs0, hn, hb2⟩ := hb2
     refine ⟨n, hl, hs0, hn, ?_⟩
     rcases hb2 with hb2 | ⟨g, cap, base0, cur, hi, hg, hz, hc, hcm, hr, h1⟩
     ·exact .inl hb2
     ·exact .inr ⟨g, cap, base0, cur, hi, hg, hz, hc, hcm, RelL.anyR _ _ hbl hr, h1⟩
    | map ks xs =>
     obtain ⟨g, c, es, ck, hi, hg, hk, hr, h1⟩ := hb2
     exact ⟨g, c, es, ck, hi, hg, hk, RelL.anyR _ _ hbl hr, h1⟩
  ·cases al with
   | true =>
    refine RelA.mono (fun _ _ e => e) (fun k hk => ?_) (fun _ _ => rfl) _ _ hres
    by_cases hkW : k < w.heap.size
    ·exact .inl ⟨rfl, (h2.arg k hk hkW).elim id False.elim⟩
    ·exact .inr ⟨by omega, h2.lt k hk, fun j b c hjb hj => h2.out j b k c hjb hj hk⟩
   | false => exact RelA.anyR _ _ (hbald rfl).1 hres
  ·intro i b g c hib hi
   exact (h2.new i b g c hib hi).elim id False.elim
  ·intro i j b b' g c c' e1 e2 e3 e4
   exact h2.inj i j b b' g c c' e1 e2 e3 e4
  ·intro i x hx
   have := hdom i x hx
   simp only [hbHeap] at this
   rcases Nat.lt_or_ge i hb.length with hlt | hge
   ·exact hlt
   ·exact absurd (List.getElem?_eq_none hge) this
 cases e with
 | normal => exact key hq
 | ret => exact key hq
 | exit id => exact hq.elim
 | goto l => exact hq.elim
 | panic ch => exact hq.elim
 | outgrown => exact hq.elim
def retM0 (T : Tab) (fn : Func) (nk : Nat) (al : Bool) (res : AV) (hout : List Blk) : Exit → AS → Prop := fun e σ =>
 match e with
 | .normal | .ret => (resAll T σ fn.results.toList).1 ∧ (al = false → res.bald = true ∧ ∀ b ∈ hout, AV.baldL b.all = true) ∧ ∃ ρ F,
   Wk ρ (fun id => hbHeap hout id ≠ none) F σ.heap (asTup (resAll T σ fn.results.toList).2) res ∧
   SubC ρ F σ { n := σ.n, slots := fun _ => .junk, heap := hbHeap hout, seen := fun _ => true, pins := nk }
 | _ => False
def retM (T : Tab) (fn : Func) (nk : Nat) (al : Bool) (res : AV) (hout : List Blk) : Exit → AS → Prop := fun e σ =>
 ∃ τ, (∀ A W w a, St A W w a σ → St A W w a τ) ∧ retM0 T fn nk al res hout e τ
theorem mcalls_intro (hT : TabOk P T) {f : FuncId} {fn : Func} {c : Code} {args : List AV} {hin : List Blk} {nk : Nat} {fz : List Nat} {al : Bool} {res : AV} {hout : List Blk} (hf : P.funcs[f]? = some fn) (hb' : fn.body = some c) (hn : (fn.name == "runtime.NumGoroutine") = false) {m : Nat}
  (hm : fn.ntmps = m) (hle : args.length ≤ m) (hl16 : hin.length ≤ 16384) {ent : AS} (hent : ent.n = m ∧ ent.slots = argsAt args ∧ (∀ i, ent.heap i = hin[i]?) ∧ (∀ i, i < 16384 → ent.seen i = true) ∧ ent.pins = nk)
  (h : AWp P c (retM T fn nk al res hout) ent) : MCalls P f args hin nk al res hout := by
 obtain ⟨e1, e2, e3, e4, e5⟩ := hent
 refine ⟨⟨fn, hf, hn, by rw [hb']; rfl⟩, ?_⟩
 intro ι R w vs hr hlt hblk hinj hout' hdom hgok hgn
 have hl := hr.length
 have hst : St ⟨R, inBlk ι hin, ι, tabsOf P⟩ w w { tmps := vs.toArray ++ Array.replicate (fn.ntmps - vs.toArray.size) undef, defers := [] } ent := by
  refine ⟨ι, R, BelowB.refl _ _ _, by rw [e1]; simp; omega, rfl, fun id x hx => ?_, fun t => ?_, fun id b hb => ?_, fun i j b b' g c c' h1 h2 => ?_, fun id b g c h1 h2 => ?_, hlt, fun id b g c h1 => ?_, fun k hk _ => .inl hk, fun i x hi hx => hx, fun x hx => ⟨hgok x hx, hgn x hx⟩⟩
  ·have := hdom id x hx
   exact e4 id (by omega)
  ·have := argsAt_rel hr t (List.replicate (fn.ntmps - vs.length) undef)
   have e : (vs.toArray ++ Array.replicate (fn.ntmps - vs.toArray.size) undef).getD t undef = (vs ++ List.replicate (fn.ntmps - vs.length) undef).getD t undef := by
    rw [Array.getD_eq_getD_getElem?, List.getD_eq_getElem?_getD, ← Array.getElem?_toList]
    simp
   rw [e2]
   show RelA _ _ _ (argsAt args t) ((vs.toArray ++ Array.replicate (fn.ntmps - vs.toArray.size) undef).getD t undef)
   rw [e]
   exact this
  ·rw [e3] at hb; exact hblk id b hb
  ·rw [e3] at h1 h2; exact hinj i j b b' g c c' h1 h2
  ·rw [e3] at h1; exact .inr ⟨id, b, c, h1, h2⟩
  ·rw [e3] at h1; exact hout' id b g c h1
 refine calls_of_wp hf hb' (wp_mono (h _ w _ w hst) ?_)
 rintro e a' w' ⟨σ0, hst0, σ', hτ, hq⟩
 obtain ⟨ι', R', hst'⟩ := hτ _ _ _ _ hst0
 have key : (resAll T σ' fn.results.toList).1 ∧ (al = false → res.bald = true ∧ ∀ b ∈ hout, AV.baldL b.all = true) ∧ (∃ ρ F,
   Wk ρ (fun id => hbHeap hout id ≠ none) F σ'.heap (asTup (resAll T σ' fn.results.toList).2) res ∧
   SubC ρ F σ' { n := σ'.n, slots := fun _ => .junk, heap := hbHeap hout, seen := fun _ => true, pins := nk }) →
   a'.defers = [] ∧ ∃ v, (results fn a'.tmps).run P w' = .ok v w' ∧ (∃ v' ι', Ending.returned v = Ending.returned v' ∧ BelowB (inBlk ι hin) w.heap.size w w' ∧
   (∀ i b, hout[i]? = some b → RelB ι' (outR al R ι hin w.heap.size w'.heap.size ι' hout) w' i b) ∧
   RelA ι' (outR al R ι hin w.heap.size w'.heap.size ι' hout) w' res v' ∧
   (∀ i b g c, hout[i]? = some b → ι' i = some (some (g, c)) → w.heap.size ≤ g ∨ inBlk ι hin g) ∧
   (∀ i j b b' g c c', hout[i]? = some b → hout[j]? = some b' → ι' i = some (some (g, c)) → ι' j = some (some (g, c')) → i = j) ∧
   (∀ i x, ι' i = some x → i < hout.length) ∧ (∀ i x, i < nk → ι i = some x → ι' i = some x)) := by
  rintro ⟨hok, hbald, ρ, F, hw, hsub⟩
  obtain ⟨v, hrun, hrel⟩ := results_sound hT hst' fn hok
  obtain ⟨ι2, R2, h2, wk, hdom, _, _, _, _⟩ := hsub.sound hst'
  have hres := wk _ _ v hw hrel
  have hRR : al = true → ∀ k, R2 k → outR al R ι hin w.heap.size w'.heap.size ι2 hout k := by
   intro hal k hk
   refine ⟨?_, fun j b c hjb hj => h2.out j b k c hjb hj hk⟩
   by_cases hkW : k < w.heap.size
   ·exact .inl ⟨hal, h2.arg k hk hkW⟩
   ·exact .inr ⟨by omega, h2.lt k hk⟩
  refine ⟨hst'.defers, v, hrun, v, ι2, rfl, hst'.below, ?_, ?_, ?_, ?_, ?_, ?_⟩
  ·intro i b hib
   have hb2 := h2.heap i b hib
   cases al with
   | true => exact hb2.mono (fun _ _ e => e) (hRR rfl) (fun _ _ => rfl) (fun _ _ _ => rfl)
   | false =>
    have hbl := (hbald rfl).2 b (List.mem_of_getElem? hib)
    cases b with
    | box cs =>
     obtain ⟨g, c, cur, e, hi, hg, hr, h1⟩ := hb2
     exact ⟨g, c, cur, e, hi, hg, RelL.anyR _ _ hbl hr, h1⟩
    | row e s cs =>
     obtain ⟨n, hl, hs0, hn, hb2⟩ := hb2
     refine ⟨n, hl, hs0, hn, ?_⟩
     rcases hb2 with hb2 | ⟨g, cap, base0, cur, hi, hg, hz, hc, hcm, hr, h1⟩
     ·exact .inl hb2
     ·exact .inr ⟨g, cap, base0, cur, hi, hg, hz, hc, hcm, RelL.anyR _ _ hbl hr, h1⟩
    | map ks xs =>
     obtain ⟨g, c, es, ck, hi, hg, hk, hr, h1⟩ := hb2
     exact ⟨g, c, es, ck, hi, hg, hk, RelL.anyR _ _ hbl hr, h1⟩
  ·cases al with
   | true => exact RelA.mono (fun _ _ e => e) (hRR rfl) (fun _ _ => rfl) _ _ hres
   | false => exact RelA.anyR _ _ (hbald rfl).1 hres
  ·intro i b g c hib hi
   exact h2.new i b g c hib hi
  ·intro i j b b' g c c' e1 e2 e3 e4
   exact h2.inj i j b b' g c c' e1 e2 e3 e4
  ·intro i x hx
   have := hdom i x hx
   simp only [hbHeap] at this
   rcases Nat.lt_or_ge i hout.length with hlt | hge
   ·exact hlt
   ·exact absurd (List.getElem?_eq_none hge) this
  ·intro i x hi hx
   exact h2.pin i x hi hx
 cases e with
 | normal => exact key hq
 | ret => exact key hq
 | exit id => exact hq.elim
 | goto l => exact hq.elim
 | panic ch => exact hq.elim
 | outgrown => exact hq.elim
end Go.Ab

