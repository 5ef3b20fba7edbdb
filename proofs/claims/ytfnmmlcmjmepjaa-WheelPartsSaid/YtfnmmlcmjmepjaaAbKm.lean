import Derived.Test.YtfnmmlcmjmepjaaAbK
set_option linter.unusedVariables false
set_option linter.unusedSectionVars false
set_option linter.unusedSimpArgs false
namespace Go.Ab
open Go.RowKit
variable {A : Env}
variable {P : Program} {T : Tab} [OfP A P]
theorem SubC.sound {ρ : Nat → Option Nat} {F : Nat → Prop} {W w : World} {a : Act} {σ τ : AS} {ι : Emb} {R : Nat → Prop} (h : St.Of A W w a σ ι R) (hs : SubC ρ F σ τ) :
  ∃ ι2 R2, St.Of A W w a τ ι2 R2 ∧ (∀ x y u, Wk ρ (fun id => τ.heap id ≠ none) F σ.heap x y → RelA ι R w x u → RelA ι2 R2 w y u) ∧ (∀ id x, ι2 id = some x → τ.heap id ≠ none) ∧ (∀ k, R k → R2 k) ∧ (∀ k, R2 k → R k ∨ ∃ id b c, F id ∧ σ.heap id = some b ∧ ι id = some (some (k, c))) ∧ (∀ id id', τ.heap id ≠ none → ρ id = some id' → ι2 id = ι id') ∧ (∀ id, τ.heap id ≠ none → ρ id = none → ι2 id = some none) := by
 let ι2 : Emb := fun id => match τ.heap id with | none => none | some _ => match ρ id with | some id' => ι id' | none => some none
 let R2 : Nat → Prop := fun k => R k ∨ ∃ id b c, F id ∧ σ.heap id = some b ∧ ι id = some (some (k, c))
 have hdom : ∀ id x, ι2 id = some x → τ.heap id ≠ none := by
  intro id x hx hn
  have : ι2 id = none := by show (match τ.heap id with | none => none | some _ => _) = none; rw [hn]
  rw [this] at hx; cases hx
 have hat : ∀ id id', τ.heap id ≠ none → ρ id = some id' → ι2 id = ι id' := by
  intro id id' hn hρ
  show (match τ.heap id with | none => none | some _ => match ρ id with | some id' => ι id' | none => some none) = ι id'
  cases hh : τ.heap id with
  | none => exact absurd hh hn
  | some b => simp only [hρ]
 have hnil : ∀ id, τ.heap id ≠ none → ρ id = none → ι2 id = some none := by
  intro id hn hρ
  show (match τ.heap id with | none => none | some _ => match ρ id with | some id' => ι id' | none => some none) = some none
  cases hh : τ.heap id with
  | none => exact absurd hh hn
  | some b => simp only [hρ]
 have wk : ∀ x y u, Wk ρ (fun id => τ.heap id ≠ none) F σ.heap x y → RelA ι R w x u → RelA ι2 R2 w y u := by
  intro x y u hw hr
  exact wk_sound h.heap (fun k hk => .inl hk) (fun id id' x hD hρ hx => (hat id id' hD hρ).trans hx) hnil (fun id b g c hF hb hi => .inr ⟨id, b, c, hF, hb, hi⟩) hw u hr
 have wkL : ∀ cs' cs us, Wk ρ (fun id => τ.heap id ≠ none) F σ.heap (.agg cs') (.agg cs) → RelL ι R w cs' us → RelL ι2 R2 w cs us := by
  intro cs' cs us hw hr
  have := wk _ _ (.agg us.toArray) hw (by simp only [RelA]; exact ⟨_, rfl, hr⟩)
  simp only [RelA] at this
  obtain ⟨us', he, hr'⟩ := this
  cases he
  exact hr'
 have hback : ∀ id b g c, τ.heap id = some b → ι2 id = some (some (g, c)) → ∃ id' b', ρ id = some id' ∧ σ.heap id' = some b' ∧ ¬ F id' ∧ ι id' = some (some (g, c)) := by
  intro id b g c hb hi
  have hsub := (hs.heap id b hb).2
  unfold SubB at hsub
  cases hρ : ρ id with
  | none => rw [hnil id (by rw [hb]; simp) hρ] at hi; cases hi
  | some id' =>
   rw [hρ] at hsub
   simp only at hsub
   rw [hat id id' (by rw [hb]; simp) hρ] at hi
   cases hh : σ.heap id' with
   | none => rw [hh] at hsub; cases b <;> exact hsub.2.elim
   | some b' => exact ⟨id', b', rfl, hh, hsub.1, hi⟩
 refine ⟨ι2, R2, ⟨h.below, h.size.trans hs.n.symm, h.defers, ?_, ?_, ?_, ?_, ?_, ?_, ?_, ?_, ?_, h.glob⟩, wk, hdom, fun k hk => .inl hk, fun k hk => hk, hat, hnil⟩
 ·intro id x hx
  cases hh : τ.heap id with
  | none => exact absurd hh (hdom id x hx)
  | some b => exact (hs.heap id b hh).1
 ·intro t
  rcases hs.slots t with hj | ⟨hw, hk⟩
  ·rw [hj]; simp only [RelA]
  ·exact wk _ _ _ hk ((h.slots t).bare hw)
 ·intro id b hb
  have hne : τ.heap id ≠ none := by rw [hb]; simp
  have hsub := (hs.heap id b hb).2
  unfold SubB at hsub
  cases hρ : ρ id with
  | none =>
   rw [hρ] at hsub
   cases b with
   | box cs => exact hsub.elim
   | row e s cs =>
    cases cs with
    | nil => exact ⟨0, by simp, hsub, by omega, .inl ⟨hnil id hne hρ, rfl⟩⟩
    | cons c cs => exact hsub.elim
   | map ks xs => exact hsub.elim
  | some id' =>
   rw [hρ] at hsub
   simp only at hsub
   obtain ⟨hF, hsub⟩ := hsub
   cases hh : σ.heap id' with
   | none => rw [hh] at hsub; cases b <;> exact hsub.elim
   | some b' =>
    rw [hh] at hsub
    have hb' := h.heap id' b' hh
    cases b with
    | box cs =>
     cases b' with
     | row e s cs' => exact hsub.elim
     | map ks xs => exact hsub.elim
     | box cs' =>
      obtain ⟨g, c, cur, e, hi, hg, hr, h1⟩ := hb'
      exact ⟨g, c, cur, e, (hat id id' hne hρ).trans hi, hg, wkL _ _ _ hsub hr, h1⟩
    | row e s cs =>
     cases b' with
     | box cs' => exact hsub.elim
     | map ks xs => exact hsub.elim
     | row e' s' cs' =>
      obtain ⟨rfl, rfl, hsub⟩ := hsub
      obtain ⟨n, hl, hs0, hn, hb'⟩ := hb'
      have hlen : cs.length = cs'.length := by
       have key : ∀ (xs ys : List AV), Wk ρ (fun id => τ.heap id ≠ none) F σ.heap (.agg xs) (.agg ys) → ys.length = xs.length := by
        intro xs
        induction xs with
        | nil => intro ys hw; cases hw; rfl
        | cons x xs ih => intro ys hw; cases hw with | agg _ y _ ys h t => simp [ih ys t]
       exact key _ _ hsub
      refine ⟨n, hlen.trans hl, hs0, hn, ?_⟩
      rcases hb' with ⟨hi, hz⟩ | ⟨g, cap, base, cur, hi, hg, hz, hc, hcm, hr, h1⟩
      ·exact .inl ⟨(hat id id' hne hρ).trans hi, hz⟩
      ·exact .inr ⟨g, cap, base, cur, (hat id id' hne hρ).trans hi, hg, hz, hc, hcm, wkL _ _ _ hsub hr, h1⟩
    | map ks xs =>
     cases b' with
     | box cs' => exact hsub.elim
     | row e' s' cs' => exact hsub.elim
     | map ks' xs' =>
      obtain ⟨rfl, hsub⟩ := hsub
      obtain ⟨g, c, es, ck, hi, hg, hk, hr, h1⟩ := hb'
      exact ⟨g, c, es, ck, (hat id id' hne hρ).trans hi, hg, hk, wkL _ _ _ hsub hr, h1⟩
 ·intro i j b b' g c c' h1 h2 h3 h4
  obtain ⟨i', bi, r1, s1, _, e1⟩ := hback i b g c h1 h3
  obtain ⟨j', bj, r2, s2, _, e2⟩ := hback j b' g c' h2 h4
  have := h.inj i' j' bi bj g c c' s1 s2 e1 e2
  subst this
  exact hs.inj i j b b' i' h1 h2 r1 r2
 ·intro id b g c hb hi
  obtain ⟨i', bi, r1, s1, _, e1⟩ := hback id b g c hb hi
  exact h.new i' bi g c s1 e1
 ·intro k hk
  rcases hk with hk | ⟨id, b, c, _, hb, hi⟩
  ·exact h.lt k hk
  ·exact (h.heap id b hb).lt hi
 ·intro id b g c hb hi hr
  obtain ⟨i', bi, r1, s1, hF, e1⟩ := hback id b g c hb hi
  rcases hr with hr | ⟨i2, b2, c2, hF2, hb2, hi2⟩
  ·exact h.out i' bi g c s1 e1 hr
  ·have := h.inj i2 i' b2 bi g c2 c hb2 s1 hi2 e1
   subst this
   exact hF hF2
 ·intro k hk hkW
  rcases hk with hk | ⟨id, b, c, _, hb, hi⟩
  ·exact h.arg k hk hkW
  ·rcases h.new id b k c hb hi with h' | h'
   ·omega
   ·exact .inr h'
 ·intro i x hi hx
  obtain ⟨h1, h2, h3⟩ := hs.pins i hi
  rw [hat i i h3 h2]
  exact h.pin i x h1 hx
mutual
theorem RelA.ren {ι ι' : Emb} {R R' : Nat → Prop} {w : World} {k : Nat → Nat} (hι : ∀ i x, ι i = some x → ι' (k i) = some x) (hR : ∀ g, R g → R' g) :
  ∀ (x : AV) (u : Value), RelA ι R w x u → RelA ι' R' w (x.ren k) u
 | .pv p, u, h => by simp only [AV.ren, RelA] at h ⊢; exact RelP.mono hR (fun _ _ => rfl) p u h
 | .ptr id off, u, h => by
  simp only [AV.ren, RelA] at h ⊢
  obtain ⟨g, c, hi, rfl⟩ := h
  exact ⟨g, c, hι _ _ hi, rfl⟩
 | .pix id off, u, h => by
  simp only [AV.ren, RelA] at h ⊢
  obtain ⟨g, c, hi, rfl⟩ := h
  exact ⟨g, c, hι _ _ hi, rfl⟩
 | .row id s off len, u, h => by
  simp only [AV.ren, RelA] at h ⊢
  rcases h with ⟨hi, h⟩ | ⟨g, c, a, hi, h⟩
  ·exact .inl ⟨hι _ _ hi, h⟩
  ·exact .inr ⟨g, c, a, hι _ _ hi, h⟩
 | .roat n cell, u, h => by
  simp only [AV.ren, RelA] at h ⊢
  obtain ⟨g, o, rfl, hg, h⟩ := h
  exact ⟨g, o, rfl, hR _ hg, fun j hj => by obtain ⟨x, h1, h2, h3⟩ := h j hj; exact ⟨x, h1, h2, RelP.mono hR (fun _ _ => rfl) _ _ h3⟩⟩
 | .agg xs, u, h => by
  simp only [AV.ren, RelA] at h ⊢
  obtain ⟨us, rfl, h⟩ := h
  exact ⟨us, rfl, RelL.ren hι hR xs _ h⟩
 | .tup xs, u, h => by
  simp only [AV.ren, RelA] at h ⊢
  obtain ⟨us, rfl, h⟩ := h
  exact ⟨us, rfl, RelL.ren hι hR xs _ h⟩
 | .fn f xs, u, h => by
  simp only [AV.ren, RelA] at h ⊢
  obtain ⟨us, rfl, h⟩ := h
  exact ⟨us, rfl, RelL.ren hι hR xs _ h⟩
 | .map id, u, h => by
  simp only [AV.ren, RelA] at h ⊢
  obtain ⟨g, c, hi, rfl⟩ := h
  exact ⟨g, c, hι _ _ hi, rfl⟩
 | .gd g x, u, h => by
  simp only [AV.ren, RelA] at h ⊢
  exact ⟨fun hg => RelA.ren hι hR x u (h.1 hg), h.2⟩
 | .junk, u, h => by simp only [AV.ren, RelA]
theorem RelL.ren {ι ι' : Emb} {R R' : Nat → Prop} {w : World} {k : Nat → Nat} (hι : ∀ i x, ι i = some x → ι' (k i) = some x) (hR : ∀ g, R g → R' g) :
  ∀ (xs : List AV) (us : List Value), RelL ι R w xs us → RelL ι' R' w (AV.renL k xs) us
 | [], us, h => by simp only [AV.renL]; exact relL_nil h
 | x :: xs, u :: us, h => by
  simp only [AV.renL, RelL] at h ⊢
  exact ⟨RelA.ren hι hR x u h.1, RelL.ren hι hR xs us h.2⟩
 | _ :: _, [], h => by simp [RelL] at h
end
theorem renL_length (k : Nat → Nat) : ∀ xs : List AV, (AV.renL k xs).length = xs.length
 | [] => rfl
 | x :: xs => by simp [AV.renL, renL_length k xs]
theorem RelB.ren {ι ι' : Emb} {R R' : Nat → Prop} {w : World} {k : Nat → Nat} {i : Nat} {b : Blk} (hι : ∀ i x, ι i = some x → ι' (k i) = some x) (hR : ∀ g, R g → R' g) (h : RelB ι R w i b) : RelB ι' R' w (k i) (b.ren k) := by
 cases b with
 | box cells =>
  obtain ⟨g, c, cur, e, hi, hh, hr, h1⟩ := h
  exact ⟨g, c, cur, e, hι _ _ hi, hh, RelL.ren hι hR _ _ hr, h1⟩
 | row e s cells =>
  obtain ⟨n, hl, hs, hn, h⟩ := h
  refine ⟨n, by rw [renL_length]; exact hl, hs, hn, ?_⟩
  rcases h with ⟨hi, h⟩ | ⟨g, cap, base, cur, hi, hh, hz, hc, hcm, hr, h1⟩
  ·exact .inl ⟨hι _ _ hi, h⟩
  ·exact .inr ⟨g, cap, base, cur, hι _ _ hi, hh, hz, hc, hcm, RelL.ren hι hR _ _ hr, h1⟩
 | map ks xs =>
  obtain ⟨g, c, es, ck, hi, hh, hk, hr, h1⟩ := h
  exact ⟨g, c, es, ck, hι _ _ hi, hh, hk, RelL.ren hι hR _ _ hr, h1⟩
theorem isMC_none {fz : List Nat} {op : Op} (h : callOf op = none) : isMC fz op = false := by
 unfold isMC
 split
 ·simp [callOf] at h
 ·simp [callOf] at h
 ·rfl
theorem mem_mset {f : Nat → Nat} : ∀ {k : Nat} {bs : List Blk} {id : Nat} {b : Blk}, (id, b) ∈ mset f k bs → ∃ i b0, bs[i]? = some b0 ∧ b = b0.ren f ∧ id = f (k + i)
 | k, [], id, b, h => by simp [mset] at h
 | k, c :: bs, id, b, h => by
  simp only [mset, List.mem_cons, Prod.mk.injEq] at h
  rcases h with ⟨rfl, rfl⟩ | h
  ·exact ⟨0, c, by simp, rfl, rfl⟩
  ·obtain ⟨i, b0, h1, h2, h3⟩ := mem_mset h
   exact ⟨i + 1, b0, by simpa using h1, h2, by rw [h3, show k + 1 + i = k + (i + 1) by omega]⟩
theorem mset_mem {f : Nat → Nat} : ∀ {k : Nat} {bs : List Blk} {i : Nat} {b : Blk}, bs[i]? = some b → (f (k + i), b.ren f) ∈ mset f k bs
 | k, [], i, b, h => by simp at h
 | k, c :: bs, 0, b, h => by simp at h; subst h; simp [mset]
 | k, c :: bs, i + 1, b, h => by
  simp only [mset, List.mem_cons]
  right
  have := mset_mem (f := f) (k := k + 1) (bs := bs) (i := i) (b := b) (by simpa using h)
  rw [show k + (i + 1) = k + 1 + i by omega]
  exact this
theorem mem_mdel {ρ : Nat → Option Nat} {nk n : Nat} {id : Nat} : id ∈ mdel ρ nk n ↔ ∃ i, i < n ∧ nk ≤ i ∧ ρ i = some id := by
 unfold mdel
 simp [List.mem_filterMap, List.mem_filter, List.mem_range, and_assoc]
theorem delH_in {id : Nat} : ∀ {H : Heap} {del : List Nat}, id ∈ del → delH H del id = none
 | H, [], h => by simp at h
 | H, k :: r, h => by
  by_cases hr : id ∈ r
  ·exact delH_in (H := upd H k none) hr
  ·rcases List.mem_cons.1 h with rfl | h
   ·have : ∀ {H : Heap} {del : List Nat}, (∀ d ∈ del, d ≠ id) → delH H del id = H id := by
     intro H del
     induction del generalizing H with
     | nil => intro _; rfl
     | cons k r ih =>
      intro h
      rw [delH, ih fun d hd => h d (by simp [hd])]
      simp only [upd]
      rw [if_neg fun e => h k (by simp) e.symm]
    rw [delH, this (fun d hd e => hr (e ▸ hd))]
    simp [upd]
   ·exact absurd h hr
theorem delH_sub' {H : Heap} : ∀ {del : List Nat} {id : Nat} {b : Blk}, delH H del id = some b → H id = some b
 | [], id, b, h => h
 | k :: r, id, b, h => by
  have := delH_sub' (del := r) h
  simp only [upd] at this
  split at this
  ·cases this
  ·exact this
theorem run_callFunc {f : FuncId} (h : FnOk P f) (args : Array Value) (w : World) : (callFunc f args).run P w = .ok (.enter f args) w := by
 obtain ⟨fn, h1, h2, h3⟩ := h
 simp only [callFunc, Sem.run_bind, run_program, Result.andThen_ok, h1]
 simp [h2, h3]
theorem mcall_sound {W w : World} {a : Act} {σ : AS} {ι : Emb} {R : Nat → Prop} (h : St.Of A W w a σ ι R) {o : Oper} {K : Act → World → Prop} {Q : Exit → Act → World → Prop}
  (hw : ∀ x ∈ o.op.operands.toList, (σ.ev x).when = true) {f : Operand} {xs : List Operand} (hcall : callOf o.op = some (f, xs))
  {fn : FuncId} {caps args : List AV} {hin : List Blk} {nk : Nat} {al : Bool} {res : AV} {hout : List Blk} {ρ : Nat → Option Nat} {F : Nat → Prop} (hf : σ.bev f = .fn fn caps)
  (hargs : Wk ρ (fun id => hbHeap hin id ≠ none) F σ.heap (.agg (xs.map σ.bev ++ caps)) (.agg args)) (hsub : SubC ρ F σ { n := σ.n, slots := fun _ => .junk, heap := hbHeap hin, seen := fun _ => true })
  (hal : al = true → ∀ id, ¬ F id) (hkept : ∀ i, i < nk → ∃ id, ρ i = some id) (hnk : nk ≤ hin.length) (hnk' : nk ≤ hout.length) (hp : MCalls P fn args hin nk al res hout)
  (hfr : ∀ i, nk ≤ i → i < hout.length → σ.seen (fid o.dst 0 + i) = false) (hd : ∀ d, o.dst = some d → d < σ.n)
  (hK : ∀ a' w', St A W w' a' (σ.after o (res.ren (mren ρ nk (fid o.dst 0))) (mset (mren ρ nk (fid o.dst 0)) 0 hout) (mdel ρ nk hin.length)) → K a' w') : o.wp P a w K Q := by
 obtain ⟨hfn, hp⟩ := hp
 obtain ⟨argsA, ts, hop, hxs⟩ : ∃ argsA ts, o.op = .call { callee := .value f, args := argsA, argTypes := ts } ∧ xs = argsA.toList := by
  unfold callOf at hcall
  split at hcall
  ·rename_i f' args' ts' hop
   cases hcall
   exact ⟨_, _, hop, rfl⟩
  ·cases hcall
 have hmem : ∀ x, x ∈ o.op.operands.toList ↔ x = f ∨ x ∈ xs := by
  intro x
  rw [hop, hxs]
  simp [Op.operands, Call.operands]
 have hev : ∀ x ∈ o.op.operands.toList, RelA ι R w (σ.bev x) (a.eval x) := fun x hx => (h.ev x).bare (hw x hx)
 have hfv := hev f ((hmem f).2 (.inl rfl))
 rw [hf] at hfv
 simp only [RelA] at hfv
 obtain ⟨cs, hfe, hcs⟩ := hfv
 have hxr : RelL ι R w (xs.map σ.bev) (xs.map a.eval) := RelL.map xs fun x hx => hev x ((hmem x).2 (.inr hx))
 have hall := hxr.append hcs
 obtain ⟨ι2, R2, h2, wk, hdom2, hRR2, hR2, hat, hnil⟩ := hsub.sound h
 have hrel : RelL ι2 R2 w args (xs.map a.eval ++ cs.toList) := by
  have := wk _ _ (.agg (xs.map a.eval ++ cs.toList).toArray) hargs (by simp only [RelA]; exact ⟨_, rfl, hall⟩)
  simp only [RelA] at this
  obtain ⟨us, he, hr⟩ := this
  cases he
  exact hr
 have hrun : (execOp a.eval o).run P w = .ok (.enter fn (xs.map a.eval ++ cs.toList).toArray) w := by
  have e : execOp a.eval o = callFunc fn ((#[] ++ argsA.map a.eval) ++ cs) := by
   simp only [execOp, hop, resolve, hfe, Deferred.ofValue, pure_bind, invoke]
  rw [e, run_callFunc hfn]
  congr 2
  apply Array.ext'
  simp [hxs]
 have hinne : ∀ i b, hin[i]? = some b → hbHeap hin i ≠ none := fun i b hb e => by unfold hbHeap at e; rw [hb] at e; cases e
 have hback : ∀ i b g c, hin[i]? = some b → ι2 i = some (some (g, c)) → ∃ id b', ρ i = some id ∧ σ.heap id = some b' ∧ ι id = some (some (g, c)) := by
  intro i b g c hb hi
  have hsb := (hsub.heap i b hb).2
  unfold SubB at hsb
  cases hρ : ρ i with
  | none => rw [hnil i (hinne i b hb) hρ] at hi; cases hi
  | some id =>
   rw [hρ] at hsb
   simp only at hsb
   rw [hat i id (hinne i b hb) hρ] at hi
   cases hh : σ.heap id with
   | none => rw [hh] at hsb; cases b <;> exact hsb.2.elim
   | some b' => exact ⟨id, b', rfl, hh, hi⟩
 have hsome : ∀ i id, i < hin.length → ρ i = some id → ∃ b', σ.heap id = some b' := by
  intro i id hi hρ
  have hsb := (hsub.heap i (hin[i]) (by show hin[i]? = _; simp [hi])).2
  unfold SubB at hsb
  rw [hρ] at hsb
  simp only at hsb
  cases hh : σ.heap id with
  | none => rw [hh] at hsb; revert hsb; cases hin[i] <;> exact fun hsb => hsb.2.elim
  | some b' => exact ⟨b', rfl⟩
 have hρinj : ∀ i j id, i < hin.length → j < hin.length → ρ i = some id → ρ j = some id → i = j := by
  intro i j id hi hj h1 h2
  exact hsub.inj i j (hin[i]) (hin[j]) id (by show hin[i]? = _; simp [hi]) (by show hin[j]? = _; simp [hj]) h1 h2
 unfold Oper.wp
 rw [hrun, Oper.upon_enter]
 have hgn : ∀ x ∈ tabsOf P, ¬ inBlk ι2 hin x.1 := by
  intro x hx ⟨i, b, c, e1, e2⟩
  obtain ⟨h3', h4⟩ := h2.glob x (by rw [OfP.tabs (A := A) (P := P)]; exact hx)
  have h3 := h3'.lt
  rcases h2.new i b x.1 c e1 e2 with h5 | h5
  ·omega
  ·exact h4 h5
 refine (hp ι2 R2 w _ hrel h2.lt h2.heap h2.inj h2.out (fun i x hi => ?_) h2.gok hgn).mono ?_
 ·have := hdom2 i x hi
  rcases Nat.lt_or_ge i hin.length with hlt | hge
  ·exact hlt
  ·exact absurd (List.getElem?_eq_none hge) this
 rintro e w' ⟨v, ι'', rfl, hbel, hblk, hres, hnew, hinj, hdom, hpin⟩
 simp only
 let base := fid o.dst 0
 let f := mren ρ nk base
 let ι' : Emb := fun id => if base + nk ≤ id ∧ id < base + hout.length then ι'' (id - base) else ι id
 let R' : Nat → Prop := fun k => R k ∨ outR al R2 ι2 hin w.heap.size w'.heap.size ι'' hout k
 have hlo : ∀ i, i < nk → ∃ id, ρ i = some id ∧ f i = id := by
  intro i hi
  obtain ⟨id, hid⟩ := hkept i hi
  refine ⟨id, hid, ?_⟩
  show mren ρ nk base i = id
  unfold mren
  rw [if_pos hi, hid]
  rfl
 have hhi : ∀ i, nk ≤ i → f i = base + i := by
  intro i hi
  show mren ρ nk base i = _
  unfold mren
  rw [if_neg (by omega)]
 have hnone : ∀ i, nk ≤ i → i < hout.length → ι (base + i) = none := by
  intro i hi hi'
  cases e' : ι (base + i) with
  | none => rfl
  | some y =>
   have h1 := h.seen _ y e'
   have h2 := hfr i hi hi'
   rw [h1] at h2; cases h2
 have hιold : ∀ id x, ι id = some x → ι' id = some x := by
  intro id x hx
  show (if base + nk ≤ id ∧ id < base + hout.length then ι'' (id - base) else ι id) = some x
  split
  ·rename_i hc
   have := hnone (id - base) (by omega) (by omega)
   rw [show base + (id - base) = id by omega, hx] at this
   cases this
  ·exact hx
 have hin2 : ∀ i, i < nk → ∃ x id, ι2 i = some x ∧ ρ i = some id ∧ ι id = some x := by
  intro i hi
  have hil : i < hin.length := by omega
  have hib : hin[i]? = some hin[i] := by simp [hil]
  obtain ⟨id, hid⟩ := hkept i hi
  have e := hat i id (hinne i _ hib) hid
  have hb := h2.heap i _ hib
  cases hx : ι2 i with
  | none =>
   exfalso
   revert hb
   cases hin[i] with
   | box cs => rintro ⟨g, c, cur, e', hi', _⟩; rw [hx] at hi'; cases hi'
   | row e' s cs => rintro ⟨n, _, _, _, ⟨hi', _⟩ | ⟨g, cap, base0, cur, hi', _⟩⟩ <;> (rw [hx] at hi'; cases hi')
   | map ks xs => rintro ⟨g, c, es, ck, hi', _⟩; rw [hx] at hi'; cases hi'
  | some x => exact ⟨x, id, rfl, hid, by rw [← e, hx]⟩
 have hι1 : ∀ i x, ι'' i = some x → ι' (f i) = some x := by
  intro i x hx
  by_cases hi : i < nk
  ·obtain ⟨y, id, h1, h3, h4⟩ := hin2 i hi
   have h5 := hpin i y hi h1
   rw [hx] at h5
   cases h5
   obtain ⟨id', h6, h7⟩ := hlo i hi
   rw [h3] at h6
   cases h6
   rw [h7]
   exact hιold _ _ h4
  ·have := hdom i x hx
   rw [hhi i (by omega)]
   show (if base + nk ≤ base + i ∧ base + i < base + hout.length then ι'' (base + i - base) else ι (base + i)) = some x
   rw [if_pos ⟨by omega, by omega⟩, show base + i - base = i by omega]
   exact hx
 have hι1' : ∀ i x, i < hout.length → ι' (f i) = some x → ι'' i = some x ∨ (i < nk ∧ ∃ y, ι2 i = some y ∧ ι'' i = some y ∧ x = y) := by
  intro i x hil hx
  by_cases hi : i < nk
  ·obtain ⟨y, id, h1, h3, h4⟩ := hin2 i hi
   have h5 := hpin i y hi h1
   have := hι1 i y h5
   rw [hx] at this
   cases this
   exact .inl h5
  ·rw [hhi i (by omega)] at hx
   have hx' : (if base + nk ≤ base + i ∧ base + i < base + hout.length then ι'' (base + i - base) else ι (base + i)) = some x := hx
   rw [if_pos ⟨by omega, by omega⟩, show base + i - base = i by omega] at hx'
   exact .inl hx'
 have hι3 : ∀ i x, i < hout.length → ι' (f i) = some x → ι'' i = some x := by
  intro i x hil hx
  rcases hι1' i x hil hx with h' | ⟨_, y, _, h', rfl⟩ <;> exact h'
 have hinB : ∀ k, inBlk ι2 hin k → ∃ id b' c, σ.heap id = some b' ∧ ι id = some (some (k, c)) ∧ ∃ i, i < hin.length ∧ ρ i = some id := by
  rintro k ⟨i, b, c, hb, hi⟩
  obtain ⟨id, b', h1, h3, h4⟩ := hback i b k c hb hi
  exact ⟨id, b', c, h3, h4, i, (List.getElem?_eq_some_iff.1 hb).1, h1⟩
 have hRB : ∀ k, R k → ¬ inBlk ι2 hin k := by
  rintro k hk hb
  obtain ⟨id, b', c, h1, h3, _⟩ := hinB k hb
  exact h.out id b' k c h1 h3 hk
 have hRsame : ∀ k, R k → w'.heap[k]? = w.heap[k]? := fun k hk => hbel.block k (h.lt k hk) (hRB k hk)
 have hRo : ∀ g, outR al R2 ι2 hin w.heap.size w'.heap.size ι'' hout g → R' g := fun g hg => .inr hg
 have hheap : ∀ id b, setH (delH σ.heap (mdel ρ nk hin.length)) (mset f 0 hout) id = some b → (∃ i b0, hout[i]? = some b0 ∧ b = b0.ren f ∧ id = f i) ∨ (σ.heap id = some b ∧ ∀ i, i < hin.length → ρ i ≠ some id) := by
  intro id b hb
  rcases setH_some hb with hm | ⟨hm, hne⟩
  ·obtain ⟨i, b0, h1, h3, h4⟩ := mem_mset hm
   rw [Nat.zero_add] at h4
   exact .inl ⟨i, b0, h1, h3, h4⟩
  ·refine .inr ⟨delH_sub' hm, fun i hi hρ => ?_⟩
   by_cases hik : i < nk
   ·obtain ⟨id', h1, h3⟩ := hlo i hik
    rw [hρ] at h1
    cases h1
    have hio : i < hout.length := by omega
    exact hne _ (mset_mem (f := f) (k := 0) (i := i) (b := hout[i]) (by simp [hio])) (by rw [Nat.zero_add]; exact h3)
   ·rw [delH_in (mem_mdel.2 ⟨i, hi, by omega, hρ⟩)] at hm
    cases hm
 have hold : ∀ id b g c, σ.heap id = some b → (∀ i, i < hin.length → ρ i ≠ some id) → ι id = some (some (g, c)) → ¬ inBlk ι2 hin g ∧ g < w.heap.size := by
  intro id b g c hb hne hi
  refine ⟨fun hg => ?_, (h.heap id b hb).lt hi⟩
  obtain ⟨id', b', c', h1, h3, i, hil, hρ⟩ := hinB g hg
  have := h.inj id id' b b' g c c' hb h1 hi h3
  subst this
  exact hne i hil hρ
 have hιold' : ∀ id b g c, σ.heap id = some b → ι' id = some (some (g, c)) → ι id = some (some (g, c)) := by
  intro id b g c hb hi
  have hs : ∃ x, ι id = some x := by
   have hbr := h.heap id b hb
   cases b with
   | box cells => obtain ⟨g, k, cur, e, hi, _⟩ := hbr; exact ⟨_, hi⟩
   | row e s cells =>
    obtain ⟨n, _, _, _, hbr⟩ := hbr
    rcases hbr with ⟨hi, _⟩ | ⟨g, cap, base0, cur, hi, _⟩ <;> exact ⟨_, hi⟩
   | map ks xs => obtain ⟨g, c, es, ck, hi, _⟩ := hbr; exact ⟨_, hi⟩
  obtain ⟨x, hx⟩ := hs
  rw [hιold id x hx] at hi
  rw [hx, hi]
 have hst : St.Of A W w' a { σ with heap := setH (delH σ.heap (mdel ρ nk hin.length)) (mset f 0 hout), seen := seenS σ.seen (mset f 0 hout) } ι' R' := by
  refine ⟨?_, h.size, h.defers, ?_, fun t => RelA.mono hιold (fun _ hk => .inl hk) hRsame _ _ (h.slots t), ?_, ?_, ?_, ?_, ?_, ?_, fun i x hi hx => hιold _ _ (h.pin i x hi hx), h.glob⟩
  ·refine h.below.trans (hbel.mono h.below.size fun k hk hb => ?_)
   obtain ⟨id, b', c, h1, h3, _⟩ := hinB k hb
   rcases h.new id b' k c h1 h3 with h' | h'
   ·omega
   ·exact h'
  ·intro id x hx
   refine seenS_true ?_
   have hx' : (if base + nk ≤ id ∧ id < base + hout.length then ι'' (id - base) else ι id) = some x := hx
   split at hx'
   ·rename_i hc
    refine .inr ⟨(f (0 + (id - base)), (hout[id - base]).ren f), mset_mem (f := f) (k := 0) (i := id - base) (by simp [show id - base < hout.length by omega]), ?_⟩
    rw [Nat.zero_add]
    show f (id - base) = id
    rw [hhi _ (by omega)]
    omega
   ·exact .inl (h.seen id x hx')
  ·intro id b hb
   rcases hheap id b hb with ⟨i, b0, h1, rfl, rfl⟩ | ⟨h1, hne⟩
   ·exact RelB.ren hι1 hRo (hblk i b0 h1)
   ·refine (h.heap id b h1).mono hιold (fun _ hk => .inl hk) hRsame fun g c hi => ?_
    obtain ⟨h3, h4⟩ := hold id b g c h1 hne hi
    exact hbel.block g h4 h3
  ·intro id id' b b' g c c' hb hb' hi hi'
   rcases hheap id b hb with ⟨i, b0, h1, rfl, rfl⟩ | ⟨h1, hne⟩ <;> rcases hheap id' b' hb' with ⟨j, b1, h3, rfl, rfl⟩ | ⟨h3, hne'⟩
   ·have e1 := hι3 i _ (List.getElem?_eq_some_iff.1 h1).1 hi
    have e2 := hι3 j _ (List.getElem?_eq_some_iff.1 h3).1 hi'
    rw [hinj i j b0 b1 g c c' h1 h3 e1 e2]
   ·exfalso
    have e1 := hι3 i _ (List.getElem?_eq_some_iff.1 h1).1 hi
    obtain ⟨h4, h5⟩ := hold id' b' g c' h3 hne' (hιold' id' b' g c' h3 hi')
    rcases hnew i b0 g c h1 e1 with h' | h'
    ·omega
    ·exact h4 h'
   ·exfalso
    have e1 := hι3 j _ (List.getElem?_eq_some_iff.1 h3).1 hi'
    obtain ⟨h4, h5⟩ := hold id b g c h1 hne (hιold' id b g c h1 hi)
    rcases hnew j b1 g c' h3 e1 with h' | h'
    ·omega
    ·exact h4 h'
   ·exact h.inj id id' b b' g c c' h1 h3 (hιold' id b g c h1 hi) (hιold' id' b' g c' h3 hi')
  ·intro id b g c hb hi
   rcases hheap id b hb with ⟨i, b0, h1, rfl, rfl⟩ | ⟨h1, hne⟩
   ·have e1 := hι3 i _ (List.getElem?_eq_some_iff.1 h1).1 hi
    rcases hnew i b0 g c h1 e1 with h' | h'
    ·have := h.below.size; exact .inl (by omega)
    ·obtain ⟨id, b', c', h3, h4, _⟩ := hinB g h'
     exact h.new id b' g c' h3 h4
   ·exact h.new id b g c h1 (hιold' id b g c h1 hi)
  ·intro k hk
   have hs := hbel.size
   rcases hk with hk | ⟨⟨_, hk | hk⟩ | hk, _⟩
   ·have := h.lt k hk; omega
   ·have := h2.lt k hk; omega
   ·obtain ⟨id, b', c, h1, h3, _⟩ := hinB k hk
    have := (h.heap id b' h1).lt h3; omega
   ·exact hk.2
  ·intro id b g c hb hi hr
   rcases hheap id b hb with ⟨i, b0, h1, rfl, rfl⟩ | ⟨h1, hne⟩
   ·have e1 := hι3 i _ (List.getElem?_eq_some_iff.1 h1).1 hi
    rcases hr with hr | hr
    ·rcases hnew i b0 g c h1 e1 with h' | h'
     ·have := h.lt g hr; omega
     ·exact hRB g hr h'
    ·exact hr.2 i b0 c h1 e1
   ·have e1 := hιold' id b g c h1 hi
    obtain ⟨h4, h5⟩ := hold id b g c h1 hne e1
    rcases hr with hr | ⟨⟨hal', hr | hr⟩ | hr, _⟩
    ·exact h.out id b g c h1 e1 hr
    ·rcases hR2 g hr with hr | ⟨id', _, _, hF, _, _⟩
     ·exact h.out id b g c h1 e1 hr
     ·exact hal hal' _ hF
    ·exact h4 hr
    ·omega
  ·intro k hk hkW
   have hs := h.below.size
   rcases hk with hk | ⟨⟨hal', hk | hk⟩ | hk, _⟩
   ·exact h.arg k hk hkW
   ·rcases hR2 k hk with hk | ⟨id', _, _, hF, _, _⟩
    ·exact h.arg k hk hkW
    ·exact absurd hF (hal hal' _)
   ·obtain ⟨id, b', c, h1, h3, _⟩ := hinB k hk
    rcases h.new id b' k c h1 h3 with h' | h'
    ·omega
    ·exact .inr h'
   ·omega
 exact hK _ _ ⟨ι', R', hst.put (dst := o.dst) hd ((RelA.ren hι1 hRo _ _ hres).guarded o.guard.isNone)⟩
end Go.Ab

