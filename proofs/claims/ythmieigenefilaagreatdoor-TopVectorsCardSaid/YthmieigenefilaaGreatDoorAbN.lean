import Derived.Test.YthmieigenefilaaGreatDoorAbK
set_option linter.unusedVariables false
set_option linter.unusedSectionVars false
set_option linter.unusedSimpArgs false
namespace Go.Ab
open Go.RowKit
variable {A : Env}
variable {P : Program} {T : Tab} [OfP A P]
theorem SubC.sound {ρ : Nat → Option Nat} {F : Nat → Prop} {W w : World} {a : Act} {σ τ : AS} {ι : Emb} {R : Nat → Prop} (h : St.Of A W w a σ ι R) (hs : SubC ρ F σ τ) :
  ∃ ι2 R2, St.Of A W w a τ ι2 R2 ∧ (∀ x y u, Wk ρ (fun id => τ.heap id ≠ none) F σ.heap x y → RelA ι R w x u → RelA ι2 R2 w y u) ∧ (∀ id x, ι2 id = some x → τ.heap id ≠ none) ∧ (∀ k, R k → R2 k) ∧ (∀ k, R2 k → R k ∨ ∃ id b c, F id ∧ σ.heap id = some b ∧ ι id = some (some (k, c))) ∧ (∀ id id', τ.heap id ≠ none → ρ id = some id' → ι2 id = ι id') ∧ (∀ id, τ.heap id ≠ none → ρ id = none → ι2 id = some none) := by
 let ι2 : Emb := fun id => match τ.heap id with | none => none | some _ => match ρ id with | some id' => ι id' | none => some none
 let R2 : Nat → Prop := fun k => R k ∨ ∃ id b c, F id ∧ σ.heap id = some b ∧ ι id = some (some (k, c))
 have hdom : ∀ id x, ι2 id = some x → τ.heap id ≠ none := by
  intro id x hx hn
  have : ι2 id = none := by show (match τ.heap id with | none => none | some _ => _) = none; rw [hn]
  rw [this] at hx; cases hx
 have hat : ∀ id id', τ.heap id ≠ none → ρ id = some id' → ι2 id = ι id' := by
  intro id id' hn hρ
  show (match τ.heap id with | none => none | some _ => match ρ id with | some id' => ι id' | none => some none) = ι id'
  cases hh : τ.heap id with
  | none => exact absurd hh hn
  | some b => simp only [hρ]
 have hnil : ∀ id, τ.heap id ≠ none → ρ id = none → ι2 id = some none := by
  intro id hn hρ
  show (match τ.heap id with | none => none | some _ => match ρ id with | some id' => ι id' | none => some none) = some none
  cases hh : τ.heap id with
  | none => exact absurd hh hn
  | some b => simp only [hρ]
 have wk : ∀ x y u, Wk ρ (fun id => τ.heap id ≠ none) F σ.heap x y → RelA ι R w x u → RelA ι2 R2 w y u := by
  intro x y u hw hr
  exact wk_sound h.heap (fun k hk => .inl hk) (fun id id' x hD hρ hx => (hat id id' hD hρ).trans hx) hnil (fun id b g c hF hb hi => .inr ⟨id, b, c, hF, hb, hi⟩) hw u hr
 have wkL : ∀ cs' cs us, Wk ρ (fun id => τ.heap id ≠ none) F σ.heap (.agg cs') (.agg cs) → RelL ι R w cs' us → RelL ι2 R2 w cs us := by
  intro cs' cs us hw hr
  have := wk _ _ (.agg us.toArray) hw (by simp only [RelA]; exact ⟨_, rfl, hr⟩)
  simp only [RelA] at this
  obtain ⟨us', he, hr'⟩ := this
  cases he
  exact hr'
 have hback : ∀ id b g c, τ.heap id = some b → ι2 id = some (some (g, c)) → ∃ id' b', ρ id = some id' ∧ σ.heap id' = some b' ∧ ¬ F id' ∧ ι id' = some (some (g, c)) := by
  intro id b g c hb hi
  have hsub := (hs.heap id b hb).2
  unfold SubB at hsub
  cases hρ : ρ id with
  | none => rw [hnil id (by rw [hb]; simp) hρ] at hi; cases hi
  | some id' =>
   rw [hρ] at hsub
   simp only at hsub
   rw [hat id id' (by rw [hb]; simp) hρ] at hi
   cases hh : σ.heap id' with
   | none => rw [hh] at hsub; cases b <;> exact hsub.2.elim
   | some b' => exact ⟨id', b', rfl, hh, hsub.1, hi⟩
 refine ⟨ι2, R2, ⟨h.below, h.size.trans hs.n.symm, h.defers, ?_, ?_, ?_, ?_, ?_, ?_, ?_, ?_, ?_, h.glob⟩, wk, hdom, fun k hk => .inl hk, fun k hk => hk, hat, hnil⟩
 ·intro id x hx
  cases hh : τ.heap id with
  | none => exact absurd hh (hdom id x hx)
  | some b => exact (hs.heap id b hh).1
 ·intro t
  rcases hs.slots t with hj | ⟨hw, hk⟩
  ·rw [hj]; simp only [RelA]
  ·exact wk _ _ _ hk ((h.slots t).bare hw)
 ·intro id b hb
  have hne : τ.heap id ≠ none := by rw [hb]; simp
  have hsub := (hs.heap id b hb).2
  unfold SubB at hsub
  cases hρ : ρ id with
  | none =>
   rw [hρ] at hsub
   cases b with
   | box cs => exact hsub.elim
   | row e s cs =>
    cases cs with
    | nil => exact ⟨0, by simp, hsub, by omega, .inl ⟨hnil id hne hρ, rfl⟩⟩
    | cons c cs => exact hsub.elim
   | map ks xs => exact hsub.elim
  | some id' =>
   rw [hρ] at hsub
   simp only at hsub
   obtain ⟨hF, hsub⟩ := hsub
   cases hh : σ.heap id' with
   | none => rw [hh] at hsub; cases b <;> exact hsub.elim
   | some b' =>
    rw [hh] at hsub
    have hb' := h.heap id' b' hh
    cases b with
    | box cs =>
     cases b' with
     | row e s cs' => exact hsub.elim
     | map ks xs => exact hsub.elim
     | box cs' =>
      obtain ⟨g, c, cur, e, hi, hg, hr, h1⟩ := hb'
      exact ⟨g, c, cur, e, (hat id id' hne hρ).trans hi, hg, wkL _ _ _ hsub hr, h1⟩
    | row e s cs =>
     cases b' with
     | box cs' => exact hsub.elim
     | map ks xs => exact hsub.elim
     | row e' s' cs' =>
      obtain ⟨rfl, rfl, hsub⟩ := hsub
      obtain ⟨n, hl, hs0, hn, hb'⟩ := hb'
      have hlen : cs.length = cs'.length := by
       have key : ∀ (xs ys : List AV), Wk ρ (fun id => τ.heap id ≠ none) F σ.heap (.agg xs) (.agg ys) → ys.length = xs.length := by
        intro xs
        induction xs with
        | nil => intro ys hw; cases hw; rfl
        | cons x xs ih => intro ys hw; cases hw with | agg _ y _ ys h t => simp [ih ys t]
       exact key _ _ hsub
      refine ⟨n, hlen.trans hl, hs0, hn, ?_⟩
      rcases hb' with ⟨hi, hz⟩ | ⟨g, cap, base, cur, hi, hg, hz, hc, hcm, hr, h1⟩
      ·exact .inl ⟨(hat id id' hne hρ).trans hi, hz⟩
      ·exact .inr ⟨g, cap, base, cur, (hat id id' hne hρ).trans hi, hg, hz, hc, hcm, wkL _ _ _ hsub hr, h1⟩
    | map ks xs =>
     cases b' with
     | box cs' => exact hsub.elim
     | row e' s' cs' => exact hsub.elim
     | map ks' xs' =>
      obtain ⟨rfl, hsub⟩ := hsub
      obtain ⟨g, c, es, ck, hi, hg, hk, hr, h1⟩ := hb'
      exact ⟨g, c, es, ck, (hat id id' hne hρ).trans hi, hg, hk, wkL _ _ _ hsub hr, h1⟩
 ·intro i j b b' g c c' h1 h2 h3 h4
  obtain ⟨i', bi, r1, s1, _, e1⟩ := hback i b g c h1 h3
  obtain ⟨j', bj, r2, s2, _, e2⟩ := hback j b' g c' h2 h4
  have := h.inj i' j' bi bj g c c' s1 s2 e1 e2
  subst this
  exact hs.inj i j b b' i' h1 h2 r1 r2
 ·intro id b g c hb hi
  obtain ⟨i', bi, r1, s1, _, e1⟩ := hback id b g c hb hi
  exact h.new i' bi g c s1 e1
 ·intro k hk
  rcases hk with hk | ⟨id, b, c, _, hb, hi⟩
  ·exact h.lt k hk
  ·exact (h.heap id b hb).lt hi
 ·intro id b g c hb hi hr
  obtain ⟨i', bi, r1, s1, hF, e1⟩ := hback id b g c hb hi
  rcases hr with hr | ⟨i2, b2, c2, hF2, hb2, hi2⟩
  ·exact h.out i' bi g c s1 e1 hr
  ·have := h.inj i2 i' b2 bi g c2 c hb2 s1 hi2 e1
   subst this
   exact hF hF2
 ·intro k hk hkW
  rcases hk with hk | ⟨id, b, c, _, hb, hi⟩
  ·exact h.arg k hk hkW
  ·rcases h.new id b k c hb hi with h' | h'
   ·omega
   ·exact .inr h'
 ·intro i x hi hx
  obtain ⟨h1, h2, h3⟩ := hs.pins i hi
  rw [hat i i h3 h2]
  exact h.pin i x h1 hx
mutual
theorem RelA.ren {ι ι' : Emb} {R R' : Nat → Prop} {w : World} {k : Nat → Nat} (hι : ∀ i x, ι i = some x → ι' (k i) = some x) (hR : ∀ g, R g → R' g) :
  ∀ (x : AV) (u : Value), RelA ι R w x u → RelA ι' R' w (x.ren k) u
 | .pv p, u, h => by simp only [AV.ren, RelA] at h ⊢; exact RelP.mono hR (fun _ _ => rfl) p u h
 | .ptr id off, u, h => by
  simp only [AV.ren, RelA] at h ⊢
  obtain ⟨g, c, hi, rfl⟩ := h
  exact ⟨g, c, hι _ _ hi, rfl⟩
 | .pix id off, u, h => by
  simp only [AV.ren, RelA] at h ⊢
  obtain ⟨g, c, hi, rfl⟩ := h
  exact ⟨g, c, hι _ _ hi, rfl⟩
 | .row id s off len, u, h => by
  simp only [AV.ren, RelA] at h ⊢
  rcases h with ⟨hi, h⟩ | ⟨g, c, a, hi, h⟩
  ·exact .inl ⟨hι _ _ hi, h⟩
  ·exact .inr ⟨g, c, a, hι _ _ hi, h⟩
 | .roat n cell, u, h => by
  simp only [AV.ren, RelA] at h ⊢
  obtain ⟨g, o, rfl, hg, h⟩ := h
  exact ⟨g, o, rfl, hR _ hg, fun j hj => by obtain ⟨x, h1, h2, h3⟩ := h j hj; exact ⟨x, h1, h2, RelP.mono hR (fun _ _ => rfl) _ _ h3⟩⟩
 | .agg xs, u, h => by
  simp only [AV.ren, RelA] at h ⊢
  obtain ⟨us, rfl, h⟩ := h
  exact ⟨us, rfl, RelL.ren hι hR xs _ h⟩
 | .tup xs, u, h => by
  simp only [AV.ren, RelA] at h ⊢
  obtain ⟨us, rfl, h⟩ := h
  exact ⟨us, rfl, RelL.ren hι hR xs _ h⟩
 | .fn f xs, u, h => by
  simp only [AV.ren, RelA] at h ⊢
  obtain ⟨us, rfl, h⟩ := h
  exact ⟨us, rfl, RelL.ren hι hR xs _ h⟩
 | .map id, u, h => by
  simp only [AV.ren, RelA] at h ⊢
  obtain ⟨g, c, hi, rfl⟩ := h
  exact ⟨g, c, hι _ _ hi, rfl⟩
 | .gd g x, u, h => by
  simp only [AV.ren, RelA] at h ⊢
  exact ⟨fun hg => RelA.ren hι hR x u (h.1 hg), h.2⟩
 | .junk, u, h => by simp only [AV.ren, RelA]
theorem RelL.ren {ι ι' : Emb} {R R' : Nat → Prop} {w : World} {k : Nat → Nat} (hι : ∀ i x, ι i = some x → ι' (k i) = some x) (hR : ∀ g, R g → R' g) :
  ∀ (xs : List AV) (us : List Value), RelL ι R w xs us → RelL ι' R' w (AV.renL k xs) us
 | [], us, h => by simp only [AV.renL]; exact relL_nil h
 | x :: xs, u :: us, h => by
  simp only [AV.renL, RelL] at h ⊢
  exact ⟨RelA.ren hι hR x u h.1, RelL.ren hι hR xs us h.2⟩
 | _ :: _, [], h => by simp [RelL] at h
end
theorem renL_length (k : Nat → Nat) : ∀ xs : List AV, (AV.renL k xs).length = xs.length
 | [] => rfl
 | x :: xs => by simp [AV.renL, renL_length k xs]
theorem RelB.ren {ι ι' : Emb} {R R' : Nat → Prop} {w : World} {k : Nat → Nat} {i : Nat} {b : Blk} (hι : ∀ i x, ι i = some x → ι' (k i) = some x) (hR : ∀ g, R g → R' g) (h : RelB ι R w i b) : RelB ι' R' w (k i) (b.ren k) := by
 cases b with
 | box cells =>
  obtain ⟨g, c, cur, e, hi, hh, hr, h1⟩ := h
  exact ⟨g, c, cur, e, hι _ _ hi, hh, RelL.ren hι hR _ _ hr, h1⟩
 | row e s cells =>
  obtain ⟨n, hl, hs, hn, h⟩ := h
  refine ⟨n, by rw [renL_length]; exact hl, hs, hn, ?_⟩
  rcases h with ⟨hi, h⟩ | ⟨g, cap, base, cur, hi, hh, hz, hc, hcm, hr, h1⟩
  ·exact .inl ⟨hι _ _ hi, h⟩
  ·exact .inr ⟨g, cap, base, cur, hι _ _ hi, hh, hz, hc, hcm, RelL.ren hι hR _ _ hr, h1⟩
 | map ks xs =>
  obtain ⟨g, c, es, ck, hi, hh, hk, hr, h1⟩ := h
  exact ⟨g, c, es, ck, hι _ _ hi, hh, hk, RelL.ren hι hR _ _ hr, h1⟩
theorem isMC_none {fz : List Nat} {op : Op} (h : callOf op = none) : isMC fz op = false := by
 unfold isMC
 split
 ·simp [callOf] at h
 ·simp [callOf] at h
 ·rfl
theorem mem_mset {f : Nat → Nat} : ∀ {k : Nat} {bs : List Blk} {id : Nat} {b : Blk}, (id, b) ∈ mset f k bs → ∃ i b0, bs[i]? = some b0 ∧ b = b0.ren f ∧ id = f (k + i)
 | k, [], id, b, h => by simp [mset] at h
 | k, c :: bs, id, b, h => by
  simp only [mset, List.mem_cons, Prod.mk.injEq] at h
  rcases h with ⟨rfl, rfl⟩ | h
  ·exact ⟨0, c, by simp, rfl, rfl⟩
  ·obtain ⟨i, b0, h1, h2, h3⟩ := mem_mset h
   exact ⟨i + 1, b0, by simpa using h1, h2, by rw [h3, show k + 1 + i = k + (i + 1) by omega]⟩
theorem mset_mem {f : Nat → Nat} : ∀ {k : Nat} {bs : List Blk} {i : Nat} {b : Blk}, bs[i]? = some b → (f (k + i), b.ren f) ∈ mset f k bs
 | k, [], i, b, h => by simp at h
 | k, c :: bs, 0, b, h => by simp at h; subst h; simp [mset]
 | k, c :: bs, i + 1, b, h => by
  simp only [mset, List.mem_cons]
  right
  have := mset_mem (f := f) (k := k + 1) (bs := bs) (i := i) (b := b) (by simpa using h)
  rw [show k + (i + 1) = k + 1 + i by omega]
  exact this
theorem mem_mdel {ρ : Nat → Option Nat} {nk n : Nat} {id : Nat} : id ∈ mdel ρ nk n ↔ ∃ i, i < n ∧ nk ≤ i ∧ ρ i = some id := by
 unfold mdel
 simp [List.mem_filterMap, List.mem_filter, List.mem_range, and_assoc]
theorem delH_in {id : Nat} : ∀ {H : Heap} {del : List Nat}, id ∈ del → delH H del id = none
 | H, [], h => by simp at h
 | H, k :: r, h => by
  by_cases hr : id ∈ r
  ·exact delH_in (H := upd H k none) hr
  ·rcases List.mem_cons.1 h with rfl | h
   ·have : ∀ {H : Heap} {del : List Nat}, (∀ d ∈ del, d ≠ id) → delH H del id = H id := by
     intro H del
     induction del generalizing H with
     | nil => intro _; rfl
     | cons k r ih =>
      intro h
      rw [delH, ih fun d hd => h d (by simp [hd])]
      simp only [upd]
      rw [if_neg fun e => h k (by simp) e.symm]
    rw [delH, this (fun d hd e => hr (e ▸ hd))]
    simp [upd]
   ·exact absurd h hr
theorem delH_sub' {H : Heap} : ∀ {del : List Nat} {id : Nat} {b : Blk}, delH H del id = some b → H id = some b
 | [], id, b, h => h
 | k :: r, id, b, h => by
  have := delH_sub' (del := r) h
  simp only [upd] at this
  split at this
  ·cases this
  ·exact this
theorem run_callFunc {f : FuncId} (h : FnOk P f) (args : Array Value) (w : World) : (callFunc f args).run P w = .ok (.enter f args) w := by
 obtain ⟨fn, h1, h2, h3⟩ := h
 simp only [callFunc, Sem.run_bind, run_program, Result.andThen_ok, h1]
 simp [h2, h3]
theorem mcall_sound {W w : World} {a : Act} {σ : AS} {ι : Emb} {R : Nat → Prop} (h : St.Of A W w a σ ι R) {o : Oper} {K : Act → World → Prop} {Q : Exit → Act → World → Prop}
  (hw : ∀ x ∈ o.op.operands.toList, (σ.ev x).when = true) {f : Operand} {xs : List Operand} (hcall : callOf o.op = some (f, xs))
  {fn : FuncId} {caps args : List AV} {hin : List Blk} {nk : Nat} {al : Bool} {res : AV} {hout : List Blk} {ρ : Nat → Option Nat} {F : Nat → Prop} (hf : σ.bev f = .fn fn caps)
  (hargs : Wk ρ (fun id => hbHeap hin id ≠ none) F σ.heap (.agg (xs.map σ.bev ++ caps)) (.agg args)) (hsub : SubC ρ F σ { n := σ.n, slots := fun _ => .junk, heap := hbHeap hin, seen := fun _ => true })
  (hal : al = true → ∀ id, ¬ F id) (hkept : ∀ i, i < nk → ∃ id, ρ i = some id) (hnk : nk ≤ hin.length) (hnk' : nk ≤ hout.length) (hp : MCalls P fn args hin nk al res hout)
  (hfr : ∀ i, nk ≤ i → i < hout.length → σ.seen (fid o.dst 0 + i) = false) (hd : ∀ d, o.dst = some d → d < σ.n)
  (hK : ∀ a' w', St A W w' a' (σ.after o (res.ren (mren ρ nk (fid o.dst 0))) (mset (mren ρ nk (fid o.dst 0)) 0 hout) (mdel ρ nk hin.length)) → K a' w') : o.wp P a w K Q := by
 obtain ⟨hfn, hp⟩ := hp
 obtain ⟨argsA, ts, hop, hxs⟩ : ∃ argsA ts, o.op = .call { callee := .value f, args := argsA, argTypes := ts } ∧ xs = argsA.toList := by
  unfold callOf at hcall
  split at hcall
  ·rename_i f' args' ts' hop
   cases hcall
   exact ⟨_, _, hop, rfl⟩
  ·cases hcall
 have hmem : ∀ x, x ∈ o.op.operands.toList ↔ x = f ∨ x ∈ xs := by
  intro x
  rw [hop, hxs]
  simp [Op.operands, Call.operands]
 have hev : ∀ x ∈ o.op.operands.toList, RelA ι R w (σ.bev x) (a.eval x) := fun x hx => (h.ev x).bare (hw x hx)
 have hfv := hev f ((hmem f).2 (.inl rfl))
 rw [hf] at hfv
 simp only [RelA] at hfv
 obtain ⟨cs, hfe, hcs⟩ := hfv
 have hxr : RelL ι R w (xs.map σ.bev) (xs.map a.eval) := RelL.map xs fun x hx => hev x ((hmem x).2 (.inr hx))
 have hall := hxr.append hcs
 obtain ⟨ι2, R2, h2, wk, hdom2, hRR2, hR2, hat, hnil⟩ := hsub.sound h
 have hrel : RelL ι2 R2 w args (xs.map a.eval ++ cs.toList) := by
  have := wk _ _ (.agg (xs.map a.eval ++ cs.toList).toArray) hargs (by simp only [RelA]; exact ⟨_, rfl, hall⟩)
  simp only [RelA] at this
  obtain ⟨us, he, hr⟩ := this
  cases he
  exact hr
 have hrun : (execOp a.eval o).run P w = .ok (.enter fn (xs.map a.eval ++ cs.toList).toArray) w := by
  have e : execOp a.eval o = callFunc fn ((#[] ++ argsA.map a.eval) ++ cs) := by
   simp only [execOp, hop, resolve, hfe, Deferred.ofValue, pure_bind, invoke]
  rw [e, run_callFunc hfn]
  congr 2
  apply Array.ext'
  simp [hxs]
 have hinne : ∀ i b, hin[i]? = some b → hbHeap hin i ≠ none := fun i b hb e => by unfold hbHeap at e; rw [hb] at e; cases e
 have hback : ∀ i b g c, hin[i]? = some b → ι2 i = some (some (g, c)) → ∃ id b', ρ i = some id ∧ σ.heap id = some b' ∧ ι id = some (some (g, c)) := by
  intro i b g c hb hi
  have hsb := (hsub.heap i b hb).2
  unfold SubB at hsb
  cases hρ : ρ i with
  | none => rw [hnil i (hinne i b hb) hρ] at hi; cases hi
  | some id =>
   rw [hρ] at hsb
   simp only at hsb
   rw [hat i id (hinne i b hb) hρ] at hi
   cases hh : σ.heap id with
   | none => rw [hh] at hsb; cases b <;> exact hsb.2.elim
   | some b' => exact ⟨id, b', rfl, hh, hi⟩
 have hsome : ∀ i id, i < hin.length → ρ i = some id → ∃ b', σ.heap id = some b' := by
  intro i id hi hρ
  have hsb := (hsub.heap i (hin[i]) (by show hin[i]? = _; simp [hi])).2
  unfold SubB at hsb
  rw [hρ] at hsb
  simp only at hsb
  cases hh : σ.heap id with
  | none => rw [hh] at hsb; revert hsb; cases hin[i] <;> exact fun hsb => hsb.2.elim
  | some b' => exact ⟨b', rfl⟩
 have hρinj : ∀ i j id, i < hin.length → j < hin.length → ρ i = some id → ρ j = some id → i = j := by
  intro i j id hi hj h1 h2
  exact hsub.inj i j (hin[i]) (hin[j]) id (by show hin[i]? = _; simp [hi]) (by show hin[j]? = _; simp [hj]) h1 h2
 unfold Oper.wp
 rw [hrun, Oper.upon_enter]
 have hgn : ∀ x ∈ tabsOf P, ¬ inBlk ι2 hin x.1 := by
  intro x hx ⟨i, b, c, e1, e2⟩
  obtain ⟨h3', h4⟩ := h2.glob x (by rw [OfP.tabs (A := A) (P := P)]; exact hx)
  have h3 := h3'.lt
  rcases h2.new i b x.1 c e1 e2 with h5 | h5
  ·omega
  ·exact h4 h5
 refine (hp ι2 R2 w _ hrel h2.lt h2.heap h2.inj h2.out (fun i x hi => ?_) h2.gok hgn).mono ?_
 ·have := hdom2 i x hi
  rcases Nat.lt_or_ge i hin.length with hlt | hge
  ·exact hlt
  ·exact absurd (List.getElem?_eq_none hge) this
 rintro e w' ⟨v, ι'', rfl, hbel, hblk, hres, hnew, hinj, hdom, hpin⟩
 simp only
 let base := fid o.dst 0
 let f := mren ρ nk base
 let ι' : Emb := fun id => if base + nk ≤ id ∧ id < base + hout.length then ι'' (id - base) else ι id
 let R' : Nat → Prop := fun k => R k ∨ outR al R2 ι2 hin w.heap.size w'.heap.size ι'' hout k
 have hlo : ∀ i, i < nk → ∃ id, ρ i = some id ∧ f i = id := by
  intro i hi
  obtain ⟨id, hid⟩ := hkept i hi
  refine ⟨id, hid, ?_⟩
  show mren ρ nk base i = id
  unfold mren
  rw [if_pos hi, hid]
  rfl
 have hhi : ∀ i, nk ≤ i → f i = base + i := by
  intro i hi
  show mren ρ nk base i = _
  unfold mren
  rw [if_neg (by omega)]
 have hnone : ∀ i, nk ≤ i → i < hout.length → ι (base + i) = none := by
  intro i hi hi'
  cases e' : ι (base + i) with
  | none => rfl
  | some y =>
   have h1 := h.seen _ y e'
   have h2 := hfr i hi hi'
   rw [h1] at h2; cases h2
 have hιold : ∀ id x, ι id = some x → ι' id = some x := by
  intro id x hx
  show (if base + nk ≤ id ∧ id < base + hout.length then ι'' (id - base) else ι id) = some x
  split
  ·rename_i hc
   have := hnone (id - base) (by omega) (by omega)
   rw [show base + (id - base) = id by omega, hx] at this
   cases this
  ·exact hx
 have hin2 : ∀ i, i < nk → ∃ x id, ι2 i = some x ∧ ρ i = some id ∧ ι id = some x := by
  intro i hi
  have hil : i < hin.length := by omega
  have hib : hin[i]? = some hin[i] := by simp [hil]
  obtain ⟨id, hid⟩ := hkept i hi
  have e := hat i id (hinne i _ hib) hid
  have hb := h2.heap i _ hib
  cases hx : ι2 i with
  | none =>
   exfalso
   revert hb
   cases hin[i] with
   | box cs => rintro ⟨g, c, cur, e', hi', _⟩; rw [hx] at hi'; cases hi'
   | row e' s cs => rintro ⟨n, _, _, _, ⟨hi', _⟩ | ⟨g, cap, base0, cur, hi', _⟩⟩ <;> (rw [hx] at hi'; cases hi')
   | map ks xs => rintro ⟨g, c, es, ck, hi', _⟩; rw [hx] at hi'; cases hi'
  | some x => exact ⟨x, id, rfl, hid, by rw [← e, hx]⟩
 have hι1 : ∀ i x, ι'' i = some x → ι' (f i) = some x := by
  intro i x hx
  by_cases hi : i < nk
  ·obtain ⟨y, id, h1, h3, h4⟩ := hin2 i hi
   have h5 := hpin i y hi h1
   rw [hx] at h5
   cases h5
   obtain ⟨id', h6, h7⟩ := hlo i hi
   rw [h3] at h6
   cases h6
   rw [h7]
   exact hιold _ _ h4
  ·have := hdom i x hx
   rw [hhi i (by omega)]
   show (if base + nk ≤ base + i ∧ base + i < base + hout.length then ι'' (base + i - base) else ι (base + i)) = some x
   rw [if_pos ⟨by omega, by omega⟩, show base + i - base = i by omega]
   exact hx
 have hι1' : ∀ i x, i < hout.length → ι' (f i) = some x → ι'' i = some x ∨ (i < nk ∧ ∃ y, ι2 i = some y ∧ ι'' i = some y ∧ x = y) := by
  intro i x hil hx
  by_cases hi : i < nk
  ·obtain ⟨y, id, h1, h3, h4⟩ := hin2 i hi
   have h5 := hpin i y hi h1
   have := hι1 i y h5
   rw [hx] at this
   cases this
   exact .inl h5
  ·rw [hhi i (by omega)] at hx
   have hx' : (if base + nk ≤ base + i ∧ base + i < base + hout.length then ι'' (base + i - base) else ι (base + i)) = some x := hx
   rw [if_pos ⟨by omega, by omega⟩, show base + i - base = i by omega] at hx'
   exact .inl hx'
 have hι3 : ∀ i x, i < hout.length → ι' (f i) = some x → ι'' i = some x := by
  intro i x hil hx
  rcases hι1' i x hil hx with h' | ⟨_, y, _, h', rfl⟩ <;> exact h'
 have hinB : ∀ k, inBlk ι2 hin k → ∃ id b' c, σ.heap id = some b' ∧ ι id = some (some (k, c)) ∧ ∃ i, i < hin.length ∧ ρ i = some id := by
  rintro k ⟨i, b, c, hb, hi⟩
  obtain ⟨id, b', h1, h3, h4⟩ := hback i b k c hb hi
  exact ⟨id, b', c, h3, h4, i, (List.getElem?_eq_some_iff.1 hb).1, h1⟩
 have hRB : ∀ k, R k → ¬ inBlk ι2 hin k := by
  rintro k hk hb
  obtain ⟨id, b', c, h1, h3, _⟩ := hinB k hb
  exact h.out id b' k c h1 h3 hk
 have hRsame : ∀ k, R k → w'.heap[k]? = w.heap[k]? := fun k hk => hbel.block k (h.lt k hk) (hRB k hk)
 have hRo : ∀ g, outR al R2 ι2 hin w.heap.size w'.heap.size ι'' hout g → R' g := fun g hg => .inr hg
 have hheap : ∀ id b, setH (delH σ.heap (mdel ρ nk hin.length)) (mset f 0 hout) id = some b → (∃ i b0, hout[i]? = some b0 ∧ b = b0.ren f ∧ id = f i) ∨ (σ.heap id = some b ∧ ∀ i, i < hin.length → ρ i ≠ some id) := by
  intro id b hb
  rcases setH_some hb with hm | ⟨hm, hne⟩
  ·obtain ⟨i, b0, h1, h3, h4⟩ := mem_mset hm
   rw [Nat.zero_add] at h4
   exact .inl ⟨i, b0, h1, h3, h4⟩
  ·refine .inr ⟨delH_sub' hm, fun i hi hρ => ?_⟩
   by_cases hik : i < nk
   ·obtain ⟨id', h1, h3⟩ := hlo i hik
    rw [hρ] at h1
    cases h1
    have hio : i < hout.length := by omega
    exact hne _ (mset_mem (f := f) (k := 0) (i := i) (b := hout[i]) (by simp [hio])) (by rw [Nat.zero_add]; exact h3)
   ·rw [delH_in (mem_mdel.2 ⟨i, hi, by omega, hρ⟩)] at hm
    cases hm
 have hold : ∀ id b g c, σ.heap id = some b → (∀ i, i < hin.length → ρ i ≠ some id) → ι id = some (some (g, c)) → ¬ inBlk ι2 hin g ∧ g < w.heap.size := by
  intro id b g c hb hne hi
  refine ⟨fun hg => ?_, (h.heap id b hb).lt hi⟩
  obtain ⟨id', b', c', h1, h3, i, hil, hρ⟩ := hinB g hg
  have := h.inj id id' b b' g c c' hb h1 hi h3
  subst this
  exact hne i hil hρ
 have hιold' : ∀ id b g c, σ.heap id = some b → ι' id = some (some (g, c)) → ι id = some (some (g, c)) := by
  intro id b g c hb hi
  have hs : ∃ x, ι id = some x := by
   have hbr := h.heap id b hb
   cases b with
   | box cells => obtain ⟨g, k, cur, e, hi, _⟩ := hbr; exact ⟨_, hi⟩
   | row e s cells =>
    obtain ⟨n, _, _, _, hbr⟩ := hbr
    rcases hbr with ⟨hi, _⟩ | ⟨g, cap, base0, cur, hi, _⟩ <;> exact ⟨_, hi⟩
   | map ks xs => obtain ⟨g, c, es, ck, hi, _⟩ := hbr; exact ⟨_, hi⟩
  obtain ⟨x, hx⟩ := hs
  rw [hιold id x hx] at hi
  rw [hx, hi]
 have hst : St.Of A W w' a { σ with heap := setH (delH σ.heap (mdel ρ nk hin.length)) (mset f 0 hout), seen := seenS σ.seen (mset f 0 hout) } ι' R' := by
  refine ⟨?_, h.size, h.defers, ?_, fun t => RelA.mono hιold (fun _ hk => .inl hk) hRsame _ _ (h.slots t), ?_, ?_, ?_, ?_, ?_, ?_, fun i x hi hx => hιold _ _ (h.pin i x hi hx), h.glob⟩
  ·refine h.below.trans (hbel.mono h.below.size fun k hk hb => ?_)
   obtain ⟨id, b', c, h1, h3, _⟩ := hinB k hb
   rcases h.new id b' k c h1 h3 with h' | h'
   ·omega
   ·exact h'
  ·intro id x hx
   refine seenS_true ?_
   have hx' : (if base + nk ≤ id ∧ id < base + hout.length then ι'' (id - base) else ι id) = some x := hx
   split at hx'
   ·rename_i hc
    refine .inr ⟨(f (0 + (id - base)), (hout[id - base]).ren f), mset_mem (f := f) (k := 0) (i := id - base) (by simp [show id - base < hout.length by omega]), ?_⟩
    rw [Nat.zero_add]
    show f (id - base) = id
    rw [hhi _ (by omega)]
    omega
   ·exact .inl (h.seen id x hx')
  ·intro id b hb
   rcases hheap id b hb with ⟨i, b0, h1, rfl, rfl⟩ | ⟨h1, hne⟩
   ·exact RelB.ren hι1 hRo (hblk i b0 h1)
   ·refine (h.heap id b h1).mono hιold (fun _ hk => .inl hk) hRsame fun g c hi => ?_
    obtain ⟨h3, h4⟩ := hold id b g c h1 hne hi
    exact hbel.block g h4 h3
  ·intro id id' b b' g c c' hb hb' hi hi'
   rcases hheap id b hb with ⟨i, b0, h1, rfl, rfl⟩ | ⟨h1, hne⟩ <;> rcases hheap id' b' hb' with ⟨j, b1, h3, rfl, rfl⟩ | ⟨h3, hne'⟩
   ·have e1 := hι3 i _ (List.getElem?_eq_some_iff.1 h1).1 hi
    have e2 := hι3 j _ (List.getElem?_eq_some_iff.1 h3).1 hi'
    rw [hinj i j b0 b1 g c c' h1 h3 e1 e2]
   ·exfalso
    have e1 := hι3 i _ (List.getElem?_eq_some_iff.1 h1).1 hi
    obtain ⟨h4, h5⟩ := hold id' b' g c' h3 hne' (hιold' id' b' g c' h3 hi')
    rcases hnew i b0 g c h1 e1 with h' | h'
    ·omega
    ·exact h4 h'
   ·exfalso
    have e1 := hι3 j _ (List.getElem?_eq_some_iff.1 h3).1 hi'
    obtain ⟨h4, h5⟩ := hold id b g c h1 hne (hιold' id b g c h1 hi)
    rcases hnew j b1 g c' h3 e1 with h' | h'
    ·omega
    ·exact h4 h'
   ·exact h.inj id id' b b' g c c' h1 h3 (hιold' id b g c h1 hi) (hιold' id' b' g c' h3 hi')
  ·intro id b g c hb hi
   rcases hheap id b hb with ⟨i, b0, h1, rfl, rfl⟩ | ⟨h1, hne⟩
   ·have e1 := hι3 i _ (List.getElem?_eq_some_iff.1 h1).1 hi
    rcases hnew i b0 g c h1 e1 with h' | h'
    ·have := h.below.size; exact .inl (by omega)
    ·obtain ⟨id, b', c', h3, h4, _⟩ := hinB g h'
     exact h.new id b' g c' h3 h4
   ·exact h.new id b g c h1 (hιold' id b g c h1 hi)
  ·intro k hk
   have hs := hbel.size
   rcases hk with hk | ⟨⟨_, hk | hk⟩ | hk, _⟩
   ·have := h.lt k hk; omega
   ·have := h2.lt k hk; omega
   ·obtain ⟨id, b', c, h1, h3, _⟩ := hinB k hk
    have := (h.heap id b' h1).lt h3; omega
   ·exact hk.2
  ·intro id b g c hb hi hr
   rcases hheap id b hb with ⟨i, b0, h1, rfl, rfl⟩ | ⟨h1, hne⟩
   ·have e1 := hι3 i _ (List.getElem?_eq_some_iff.1 h1).1 hi
    rcases hr with hr | hr
    ·rcases hnew i b0 g c h1 e1 with h' | h'
     ·have := h.lt g hr; omega
     ·exact hRB g hr h'
    ·exact hr.2 i b0 c h1 e1
   ·have e1 := hιold' id b g c h1 hi
    obtain ⟨h4, h5⟩ := hold id b g c h1 hne e1
    rcases hr with hr | ⟨⟨hal', hr | hr⟩ | hr, _⟩
    ·exact h.out id b g c h1 e1 hr
    ·rcases hR2 g hr with hr | ⟨id', _, _, hF, _, _⟩
     ·exact h.out id b g c h1 e1 hr
     ·exact hal hal' _ hF
    ·exact h4 hr
    ·omega
  ·intro k hk hkW
   have hs := h.below.size
   rcases hk with hk | ⟨⟨hal', hk | hk⟩ | hk, _⟩
   ·exact h.arg k hk hkW
   ·rcases hR2 k hk with hk | ⟨id', _, _, hF, _, _⟩
    ·exact h.arg k hk hkW
    ·exact absurd hF (hal hal' _)
   ·obtain ⟨id, b', c, h1, h3, _⟩ := hinB k hk
    rcases h.new id b' k c h1 h3 with h' | h'
    ·omega
    ·exact .inr h'
   ·omega
 exact hK _ _ ⟨ι', R', hst.put (dst := o.dst) hd ((RelA.ren hι1 hRo _ _ hres).guarded o.guard.isNone)⟩
end Go.Ab
set_option linter.unusedVariables false
set_option linter.unusedSectionVars false
set_option linter.unusedSimpArgs false
namespace Go.Ab
open Go.RowKit
variable {A : Env}
variable {P : Program} {T : Tab} [OfP A P]
mutual
theorem RelA.up {ι ι' : Emb} {R R' : Nat → Prop} {w : World} {k : Nat} (hι : ∀ i x, ι i = some x → ι' (k + i) = some x) (hR : ∀ g, R g → R' g) :
  ∀ (x : AV) (u : Value), RelA ι R w x u → RelA ι' R' w (x.up k) u
 | .pv p, u, h => by simp only [AV.up, RelA] at h ⊢; exact RelP.mono hR (fun _ _ => rfl) p u h
 | .ptr id off, u, h => by
  simp only [AV.up, RelA] at h ⊢
  obtain ⟨g, c, hi, rfl⟩ := h
  exact ⟨g, c, hι _ _ hi, rfl⟩
 | .pix id off, u, h => by
  simp only [AV.up, RelA] at h ⊢
  obtain ⟨g, c, hi, rfl⟩ := h
  exact ⟨g, c, hι _ _ hi, rfl⟩
 | .row id s off len, u, h => by
  simp only [AV.up, RelA] at h ⊢
  rcases h with ⟨hi, h⟩ | ⟨g, c, a, hi, h⟩
  ·exact .inl ⟨hι _ _ hi, h⟩
  ·exact .inr ⟨g, c, a, hι _ _ hi, h⟩
 | .roat n cell, u, h => by
  simp only [AV.up, RelA] at h ⊢
  obtain ⟨g, o, rfl, hg, h⟩ := h
  exact ⟨g, o, rfl, hR _ hg, fun j hj => by obtain ⟨x, h1, h2, h3⟩ := h j hj; exact ⟨x, h1, h2, RelP.mono hR (fun _ _ => rfl) _ _ h3⟩⟩
 | .agg xs, u, h => by
  simp only [AV.up, RelA] at h ⊢
  obtain ⟨us, rfl, h⟩ := h
  exact ⟨us, rfl, RelL.up hι hR xs _ h⟩
 | .tup xs, u, h => by
  simp only [AV.up, RelA] at h ⊢
  obtain ⟨us, rfl, h⟩ := h
  exact ⟨us, rfl, RelL.up hι hR xs _ h⟩
 | .fn f xs, u, h => by
  simp only [AV.up, RelA] at h ⊢
  obtain ⟨us, rfl, h⟩ := h
  exact ⟨us, rfl, RelL.up hι hR xs _ h⟩
 | .map id, u, h => by
  simp only [AV.up, RelA] at h ⊢
  obtain ⟨g, c, hi, rfl⟩ := h
  exact ⟨g, c, hι _ _ hi, rfl⟩
 | .gd g x, u, h => by
  simp only [AV.up, RelA] at h ⊢
  exact ⟨fun hg => RelA.up hι hR x u (h.1 hg), h.2⟩
 | .junk, u, h => by simp only [AV.up, RelA]
theorem RelL.up {ι ι' : Emb} {R R' : Nat → Prop} {w : World} {k : Nat} (hι : ∀ i x, ι i = some x → ι' (k + i) = some x) (hR : ∀ g, R g → R' g) :
  ∀ (xs : List AV) (us : List Value), RelL ι R w xs us → RelL ι' R' w (AV.upL k xs) us
 | [], us, h => by simp only [AV.upL]; exact relL_nil h
 | x :: xs, u :: us, h => by
  simp only [AV.upL, RelL] at h ⊢
  exact ⟨RelA.up hι hR x u h.1, RelL.up hι hR xs us h.2⟩
 | _ :: _, [], h => by simp [RelL] at h
end
theorem upL_length (k : Nat) : ∀ xs : List AV, (AV.upL k xs).length = xs.length
 | [] => rfl
 | x :: xs => by simp [AV.upL, upL_length k xs]
theorem RelB.up {ι ι' : Emb} {R R' : Nat → Prop} {w : World} {k i : Nat} {b : Blk} (hι : ∀ i x, ι i = some x → ι' (k + i) = some x) (hR : ∀ g, R g → R' g) (h : RelB ι R w i b) : RelB ι' R' w (k + i) (b.up k) := by
 cases b with
 | box cells =>
  obtain ⟨g, c, cur, e, hi, hh, hr, h1⟩ := h
  exact ⟨g, c, cur, e, hι _ _ hi, hh, RelL.up hι hR _ _ hr, h1⟩
 | row e s cells =>
  obtain ⟨n, hl, hs, hn, h⟩ := h
  refine ⟨n, by rw [upL_length]; exact hl, hs, hn, ?_⟩
  rcases h with ⟨hi, h⟩ | ⟨g, cap, base, cur, hi, hh, hz, hc, hcm, hr, h1⟩
  ·exact .inl ⟨hι _ _ hi, h⟩
  ·exact .inr ⟨g, cap, base, cur, hι _ _ hi, hh, hz, hc, hcm, RelL.up hι hR _ _ hr, h1⟩
 | map ks xs =>
  obtain ⟨g, c, es, ck, hi, hh, hk, hr, h1⟩ := h
  exact ⟨g, c, es, ck, hι _ _ hi, hh, hk, RelL.up hι hR _ _ hr, h1⟩
theorem mem_numbered : ∀ {k : Nat} {bs : List Blk} {id : Nat} {b : Blk}, (id, b) ∈ numbered k bs → ∃ i, bs[i]? = some b ∧ id = k + i
 | k, [], id, b, h => by simp [numbered] at h
 | k, c :: bs, id, b, h => by
  simp only [numbered, List.mem_cons, Prod.mk.injEq] at h
  rcases h with ⟨rfl, rfl⟩ | h
  ·exact ⟨0, by simp, rfl⟩
  ·obtain ⟨i, h1, h2⟩ := mem_numbered h
   exact ⟨i + 1, by simpa using h1, by omega⟩
theorem numbered_mem : ∀ {k : Nat} {bs : List Blk} {i : Nat} {b : Blk}, bs[i]? = some b → (k + i, b) ∈ numbered k bs
 | k, [], i, b, h => by simp at h
 | k, c :: bs, 0, b, h => by simp at h; subst h; simp [numbered]
 | k, c :: bs, i + 1, b, h => by
  simp only [numbered, List.mem_cons]
  right
  have := numbered_mem (k := k + 1) (bs := bs) (i := i) (b := b) (by simpa using h)
  rw [show k + (i + 1) = k + 1 + i by omega]
  exact this
theorem Wk.plain {ρ : Nat → Option Nat} {D F : Nat → Prop} {H : Heap} {x y : AV} (h : Wk ρ D F H x y) : Plain x → Wk ρ D F (fun _ => none) x y := by
 induction h with
 | pv p => intro _; exact .pv p
 | roro s n c c' h ih => intro _; exact .roro s n c c' fun i hi j hj => ih i hi j hj trivial
 | roats n n' c c' hn h ih => intro _; exact .roats n n' c c' hn fun j hj => ih j hj trivial
 | nil s c => intro _; exact .nil s c
 | agg0 => intro _; exact .agg0
 | agg x y xs ys h t ih1 ih2 =>
  intro hp
  refine .agg x y xs ys (ih1 ?_) (ih2 ?_)
  ·obtain ⟨p, rfl⟩ := hp x (by simp); trivial
  ·exact fun z hz => hp z (by simp [hz])
 | junk x => intro _; exact .junk x
 | nilrow id s hρ hD => intro _; exact .nilrow id s hρ hD
 | _ => intro hp; exact hp.elim
theorem wkArgs_sound {ι : Emb} {R Rc : Nat → Prop} {w : World} {H : Heap} (hH : ∀ id b, H id = some b → RelB ι R w id b) (hR : ∀ k, R k → Rc k)
  (h3 : ∀ id b g c, H id = some b → ι id = some (some (g, c)) → Rc g) : ∀ {xs ys : List AV} {us : List Value}, WkArgs H xs ys → RelL ι R w xs us → RelL (fun _ => none) Rc w ys us
 | [], [], us, _, h => relL_nil h
 | x :: xs, y :: ys, [], _, h => by simp [RelL] at h
 | x :: xs, y :: ys, u :: us, hw, h => by
  simp only [WkArgs, RelL] at hw h ⊢
  exact ⟨wk_sound hH hR (fun _ _ _ hd => hd.elim) (fun _ hd => hd.elim) (fun id b g c _ hb hi => h3 id b g c hb hi) hw.1 u h.1, wkArgs_sound hH hR h3 hw.2 h.2⟩
 | [], _ :: _, _, hw, _ => hw.elim
 | _ :: _, [], _, hw, _ => hw.elim
theorem wkArgs_plain {H : Heap} : ∀ {xs ys : List AV}, WkArgs H xs ys → (∀ x ∈ xs, Plain x) → WkArgs (fun _ => none) xs ys
 | [], [], _, _ => trivial
 | x :: xs, y :: ys, hw, hp => ⟨hw.1.plain (hp x (by simp)), wkArgs_plain hw.2 fun z hz => hp z (by simp [hz])⟩
 | [], _ :: _, hw, _ => hw.elim
 | _ :: _, [], hw, _ => hw.elim
theorem call_sound {W w : World} {a : Act} {σ : AS} {ι : Emb} {R : Nat → Prop} (h : St.Of A W w a σ ι R) {o : Oper} {K : Act → World → Prop} {Q : Exit → Act → World → Prop}
  (hw : ∀ x ∈ o.op.operands.toList, (σ.ev x).when = true) {f : Operand} {xs : List Operand} (hcall : callOf o.op = some (f, xs))
  {fn : FuncId} {caps args : List AV} {al : Bool} {res : AV} {hb : List Blk} (hf : σ.bev f = .fn fn caps) (hargs : WkArgs σ.heap (xs.map σ.bev ++ caps) args) (hal : al = true → ∀ x ∈ xs.map σ.bev ++ caps, Plain x)
  (hp : PCalls P fn args al res hb) (hl : hb.length ≤ 64)
  (hfr : ∀ x ∈ numbered (fid o.dst 0) (hb.map (Blk.up (fid o.dst 0))), σ.seen x.1 = false) (hd : ∀ d, o.dst = some d → d < σ.n)
  (hK : ∀ a' w', St A W w' a' (σ.after o (res.up (fid o.dst 0)) (numbered (fid o.dst 0) (hb.map (Blk.up (fid o.dst 0)))) []) → K a' w') : o.wp P a w K Q := by
 obtain ⟨hfn, hp⟩ := hp
 obtain ⟨argsA, ts, hop, hxs⟩ : ∃ argsA ts, o.op = .call { callee := .value f, args := argsA, argTypes := ts } ∧ xs = argsA.toList := by
  unfold callOf at hcall
  split at hcall
  ·rename_i f' args' ts' hop
   cases hcall
   exact ⟨_, _, hop, rfl⟩
  ·cases hcall
 have hmem : ∀ x, x ∈ o.op.operands.toList ↔ x = f ∨ x ∈ xs := by
  intro x
  rw [hop, hxs]
  simp [Op.operands, Call.operands]
 have hev : ∀ x ∈ o.op.operands.toList, RelA ι R w (σ.bev x) (a.eval x) := fun x hx => (h.ev x).bare (hw x hx)
 have hfv := hev f ((hmem f).2 (.inl rfl))
 rw [hf] at hfv
 simp only [RelA] at hfv
 obtain ⟨cs, hfe, hcs⟩ := hfv
 have hxr : RelL ι R w (xs.map σ.bev) (xs.map a.eval) := RelL.map xs fun x hx => hev x ((hmem x).2 (.inr hx))
 have hall := hxr.append hcs
 let Rc : Nat → Prop := fun k => R k ∨ (al = false ∧ ∃ id b c, σ.heap id = some b ∧ ι id = some (some (k, c)))
 have hrel : RelL (fun _ => none) Rc w args (xs.map a.eval ++ cs.toList) := by
  cases al with
  | true =>
   exact wkArgs_sound (H := fun _ => none) (fun _ _ e => by cases e) (fun k hk => Or.inl hk) (fun _ _ _ _ e => by cases e) (wkArgs_plain hargs (hal rfl)) hall
  | false => exact wkArgs_sound h.heap (fun k hk => Or.inl hk) (fun id b g c e1 e2 => Or.inr ⟨rfl, id, b, c, e1, e2⟩) hargs hall
 have hlt : ∀ k, Rc k → k < w.heap.size := by
  intro k hk
  rcases hk with hk | ⟨_, id, b, c, e1, e2⟩
  ·exact h.lt k hk
  ·exact (h.heap id b e1).lt e2
 have hrun : (execOp a.eval o).run P w = .ok (.enter fn (xs.map a.eval ++ cs.toList).toArray) w := by
  have e : execOp a.eval o = callFunc fn ((#[] ++ argsA.map a.eval) ++ cs) := by
   simp only [execOp, hop, resolve, hfe, Deferred.ofValue, pure_bind, invoke]
  rw [e, run_callFunc hfn]
  congr 2
  apply Array.ext'
  simp [hxs]
 unfold Oper.wp
 rw [hrun, Oper.upon_enter]
 refine (hp Rc w _ hrel hlt h.gok).mono ?_
 rintro e w' ⟨v, ι'', rfl, hbel, hblk, hres, hnew, hinj, hdom⟩
 simp only
 let base := fid o.dst 0
 let ι' : Emb := fun id => if base ≤ id ∧ id < base + hb.length then ι'' (id - base) else ι id
 let R' : Nat → Prop := fun k => R k ∨ (w.heap.size ≤ k ∧ k < w'.heap.size ∧ ∀ i b c, hb[i]? = some b → ι'' i ≠ some (some (k, c)))
 have hset : ∀ id b, (id, b) ∈ numbered base (hb.map (Blk.up base)) → ∃ i b0, hb[i]? = some b0 ∧ b = b0.up base ∧ id = base + i ∧ i < hb.length := by
  intro id b hm
  obtain ⟨i, h1, h2⟩ := mem_numbered hm
  rw [List.getElem?_map] at h1
  cases hi : hb[i]? with
  | none => simp [hi] at h1
  | some b0 => simp [hi] at h1; exact ⟨i, b0, hi, h1.symm, h2, (List.getElem?_eq_some_iff.1 hi).1⟩
 have hnone : ∀ i, i < hb.length → ι (base + i) = none := by
  intro i hi
  cases e' : ι (base + i) with
  | none => rfl
  | some y =>
   have h1 := h.seen _ y e'
   have h2 := hfr (base + i, hb[i].up base) (numbered_mem (by simp [hi]; rfl))
   rw [h1] at h2; cases h2
 have hι1 : ∀ i x, ι'' i = some x → ι' (base + i) = some x := by
  intro i x hx
  have := hdom i x hx
  show (if base ≤ base + i ∧ base + i < base + hb.length then ι'' (base + i - base) else ι (base + i)) = some x
  rw [if_pos ⟨by omega, by omega⟩, show base + i - base = i by omega]
  exact hx
 have hι2 : ∀ id x, ι id = some x → ι' id = some x := by
  intro id x hx
  show (if base ≤ id ∧ id < base + hb.length then ι'' (id - base) else ι id) = some x
  split
  ·rename_i hc
   have := hnone (id - base) (by omega)
   rw [show base + (id - base) = id by omega, hx] at this
   cases this
  ·exact hx
 have hRR : ∀ g, ((al = true ∧ Rc g) ∨ (w.heap.size ≤ g ∧ g < w'.heap.size ∧ ∀ i b c, hb[i]? = some b → ι'' i ≠ some (some (g, c)))) → R' g := by
  intro g hg
  rcases hg with ⟨rfl, hg⟩ | hg
  ·rcases hg with hg | ⟨hg, _⟩
   ·exact .inl hg
   ·cases hg
  ·exact .inr hg
 have hst : St.Of A W w' a { σ with heap := setH (delH σ.heap []) (numbered base (hb.map (Blk.up base))), seen := seenS σ.seen (numbered base (hb.map (Blk.up base))) } ι' R' := by
  refine h.grow hbel _ hfr hι2 ?_ (fun k hk => .inl hk) (fun k hk => hk.imp id fun hk => ⟨hk.1, hk.2.1⟩) ?_ ?_ ?_
  ·intro id x hx
   have hx' : (if base ≤ id ∧ id < base + hb.length then ι'' (id - base) else ι id) = some x := hx
   split at hx'
   ·rename_i hc
    exact .inr ⟨(base + (id - base), hb[id - base].up base), numbered_mem (by simp [show id - base < hb.length by omega]), by simp; omega⟩
   ·exact .inl hx'
  ·intro id b hm
   obtain ⟨i, b0, h1, rfl, rfl, _⟩ := hset id b hm
   exact RelB.up hι1 hRR (hblk i b0 h1)
  ·intro id b g c hm hi
   obtain ⟨i, b0, h1, rfl, rfl, hil⟩ := hset id b hm
   have hi' : (if base ≤ base + i ∧ base + i < base + hb.length then ι'' (base + i - base) else ι (base + i)) = some (some (g, c)) := hi
   rw [if_pos ⟨by omega, by omega⟩, show base + i - base = i by omega] at hi'
   refine ⟨hnew i b0 g c h1 hi', fun hg => ?_⟩
   rcases hg with hg | ⟨_, _, hg⟩
   ·have := h.lt g hg; have := hnew i b0 g c h1 hi'; omega
   ·exact hg i b0 c h1 hi'
  ·intro id id' b b' g c c' hm hm' hi hj
   obtain ⟨i, b0, h1, rfl, rfl, hil⟩ := hset id b hm
   obtain ⟨j, b1, h2, rfl, rfl, hjl⟩ := hset id' b' hm'
   have hi' : (if base ≤ base + i ∧ base + i < base + hb.length then ι'' (base + i - base) else ι (base + i)) = some (some (g, c)) := hi
   rw [if_pos ⟨by omega, by omega⟩, show base + i - base = i by omega] at hi'
   have hj' : (if base ≤ base + j ∧ base + j < base + hb.length then ι'' (base + j - base) else ι (base + j)) = some (some (g, c')) := hj
   rw [if_pos ⟨by omega, by omega⟩, show base + j - base = j by omega] at hj'
   rw [hinj i j b0 b1 g c c' h1 h2 hi' hj']
 exact hK _ _ ⟨ι', R', hst.put (dst := o.dst) hd ((RelA.up hι1 hRR _ _ hres).guarded o.guard.isNone)⟩
theorem pick_sound {W w : World} {a : Act} {σ : AS} {ι : Emb} {R : Nat → Prop} (h : St.Of A W w a σ ι R) {c x y : Operand} {t : Bool} (hcw : (σ.ev c).when = true) (hc : (σ.ev c).bare = .bool t) (hok : (pickAV (σ.ev c).bare (σ.ev x) (σ.ev y)).1) :
  ∃ u, (do pure (.value (if ← asBool (a.eval c) then a.eval x else a.eval y)) : Sem Next).run P w = .ok (.value u) w ∧ RelA ι R w (pickAV (σ.ev c).bare (σ.ev x) (σ.ev y)).2 u := by
 have hcv := (h.ev c).bare hcw
 rw [hc] at hcv
 have hce := raw_inv hcv
 refine ⟨if t then a.eval x else a.eval y, by rw [hce]; simp [asBool], ?_⟩
 have hx := h.ev x
 have hy := h.ev y
 rw [hc] at hok ⊢
 unfold pickAV at hok ⊢
 split at hok
 ·rename_i t' p q h1 h2 h3
  cases h1
  rw [h2] at hx; rw [h3] at hy
  rw [raw_inv hx, raw_inv hy]
  simp only [RelA, RelP]
  cases t <;> rfl
 ·rename_i t' p q r h1 h2 h3
  cases h1
  rw [h2] at hx; rw [h3] at hy
  rw [raw_inv hy]
  simp only [RelA, RelP] at hx ⊢
  cases t
  ·rfl
  ·exact hx.1 (hok rfl)
 ·rename_i t' p q r h1 h2 h3
  cases h1
  rw [h2] at hx; rw [h3] at hy
  rw [raw_inv hx]
  simp only [RelA, RelP] at hy ⊢
  cases t
  ·exact hy.1 (hok rfl)
  ·rfl
 ·rename_i t' p q r s h1 h2 h3
  cases h1
  rw [h2] at hx; rw [h3] at hy
  simp only [RelA, RelP] at hx hy ⊢
  cases t
  ·exact hy.1 (hok.2 rfl)
  ·exact hx.1 (hok.1 rfl)
 ·exact hok.elim
theorem guard_sound {W w : World} {a : Act} {σ : AS} {ι : Emb} {R : Nat → Prop} (h : St.Of A W w a σ ι R) {ops : Array Oper} {o : Oper} {g : Bool} (hg : GRel σ ops o g) : Region.wanted o (yielded ops a.tmps) = g := by
 unfold GRel at hg
 unfold Region.wanted
 split at hg
 ·rename_i hn; rw [hn]; exact hg.symm
 ·rename_i j want hj
  rw [hj]
  simp only
  split at hg
  ·exact hg.elim
  ·rename_i d hd
   have hs := h.slots d
   have hy : ∀ u, a.tmps.getD d undef = u → yielded ops a.tmps j = (match u with | .bool b => some b | _ => none) := by
    intro u hu
    unfold yielded
    rw [hd]
    simp only [Option.bind_some]
    cases hq : a.tmps[d]? with
    | none =>
     have : u = undef := by rw [← hu]; simp [Array.getD_eq_getD_getElem?, hq]
     rw [this]; rfl
    | some v =>
     have : u = v := by rw [← hu]; simp [Array.getD_eq_getD_getElem?, hq]
     rw [this]
     cases v <;> rfl
   split at hg
   ·rename_i b hsl
    rw [hsl] at hs
    rw [hy _ (raw_inv hs), hg]
    cases b <;> cases want <;> rfl
   ·rename_i p b hsl
    rw [hsl] at hs
    simp only [RelA, RelP] at hs
    cases p with
    | true => rw [hy _ (hs.1 rfl), hg]; cases b <;> cases want <;> rfl
    | false => rw [hy _ (hs.2 rfl), hg]; cases want <;> rfl
   ·exact hg.elim
theorem setH_out {H : Heap} : ∀ {set : List (Nat × Blk)} {id : Nat}, (∀ x ∈ set, x.1 ≠ id) → setH H set id = H id
 | [], id, _ => rfl
 | (k, b) :: r, id, h => by
  rw [setH, setH_out fun x hx => h x (by simp [hx])]
  simp only [upd]
  rw [if_neg (fun e => h (k, b) (by simp) e.symm)]
theorem setH_in {H H' : Heap} : ∀ {set : List (Nat × Blk)} {id : Nat}, (∃ x ∈ set, x.1 = id) → setH H set id = setH H' set id
 | [], id, h => by obtain ⟨x, hx, _⟩ := h; simp at hx
 | (k, b) :: r, id, h => by
  simp only [setH]
  by_cases hr : ∃ x ∈ r, x.1 = id
  ·exact setH_in hr
  ·have hr' : ∀ x ∈ r, x.1 ≠ id := fun x hx e => hr ⟨x, hx, e⟩
   rw [setH_out hr', setH_out hr']
   obtain ⟨x, hx, rfl⟩ := h
   rcases List.mem_cons.1 hx with rfl | hx
   ·simp [upd]
   ·exact absurd rfl (hr' x hx)
theorem seenS_up {f : Nat → Bool} : ∀ {set : List (Nat × Blk)} {id : Nat}, f id = true → seenS f set id = true
 | [], _, h => h
 | (k, b) :: r, id, h => by
  rw [seenS]
  refine seenS_up ?_
  simp only [upd]
  split
  ·rfl
  ·exact h
theorem delH_sub {H : Heap} : ∀ {del : List Nat} {id : Nat} {b : Blk}, delH H del id = some b → H id = some b
 | [], id, b, h => h
 | k :: r, id, b, h => by
  have := delH_sub (del := r) h
  simp only [upd] at this
  split at this
  ·cases this
  ·exact this
theorem St.freeze {W w : World} {a : Act} {σ : AS} {o : Oper} {v0 v : AV} {set : List (Nat × Blk)} {del : List Nat} (hdom : ∀ id b, σ.heap id = some b → σ.seen id = true)
  (hfr : ∀ x ∈ set, σ.seen x.1 = false) (hw : Wk (fun _ => none) (fun _ => False) (fun _ => True) (setH (fun _ => none) set) v0 v) (h : St A W w a (σ.after o v0 set del)) :
  St A W w a { σ with slots := putS σ.slots o.dst (if o.guard.isNone then v else .gd true v), heap := setH (delH σ.heap del) [], seen := seenS σ.seen set } := by
 obtain ⟨ι, R, h⟩ := h
 have hin : ∀ id b, setH (fun _ => none) set id = some b → (∃ x ∈ set, x.1 = id) ∧ setH (delH σ.heap del) set id = some b := by
  intro id b hb
  by_cases hx : ∃ x ∈ set, x.1 = id
  ·exact ⟨hx, by rw [setH_in (H' := fun _ => none) hx]; exact hb⟩
  ·rw [setH_out (fun x hm e => hx ⟨x, hm, e⟩)] at hb; cases hb
 have hold : ∀ id b, delH σ.heap del id = some b → setH (delH σ.heap del) set id = some b := by
  intro id b hb
  rw [setH_out]
  ·exact hb
  ·intro x hx e
   have h1 := hfr x hx
   rw [e, hdom id b (delH_sub hb)] at h1
   cases h1
 let R' : Nat → Prop := fun k => R k ∨ ∃ id b c, setH (fun _ => none) set id = some b ∧ ι id = some (some (k, c))
 have hRR : ∀ k, R k → R' k := fun k hk => .inl hk
 have hv : ∀ u, RelA ι R w v0 u → RelA ι R' w v u := fun u hu =>
  wk_sound (ι2 := ι) (R2 := R') (fun id b hb => h.heap id b (hin id b hb).2) hRR (fun _ _ _ hd => hd.elim) (fun _ hd => hd.elim) (fun id b g c _ hb hi => .inr ⟨id, b, c, hb, hi⟩) hw u hu
 refine ⟨ι, R', h.below, h.size, h.defers, h.seen, fun t => ?_, fun id b hb => ?_, fun id id' b b' g c c' hb hb' => ?_, fun id b g c hb => ?_, fun k hk => ?_, fun id b g c hb hi hk => ?_, fun k hk hkW => ?_, h.pin, h.glob⟩
 ·have ht := h.slots t
  simp only [AS.after] at ht
  show RelA ι R' w (putS σ.slots o.dst (if o.guard.isNone then v else .gd true v) t) _
  cases hd : o.dst with
  | none => rw [hd] at ht; exact RelA.mono (fun _ _ e => e) hRR (fun _ _ => rfl) _ _ ht
  | some d =>
   rw [hd] at ht
   simp only [putS, upd] at ht ⊢
   by_cases htd : t = d
   ·rw [if_pos htd] at ht ⊢
    cases hg : o.guard.isNone with
    | true => rw [hg] at ht; exact hv _ ht
    | false =>
     rw [hg] at ht
     simp only [Bool.false_eq_true, if_false, RelA] at ht ⊢
     exact ⟨fun _ => hv _ (ht.1 trivial), fun e => by first | cases e | trivial | exact absurd trivial e⟩
   ·rw [if_neg htd] at ht ⊢
    exact RelA.mono (fun _ _ e => e) hRR (fun _ _ => rfl) _ _ ht
 ·exact (h.heap id b (hold id b hb)).mono (fun _ _ e => e) hRR (fun _ _ => rfl) (fun _ _ _ => rfl)
 ·exact h.inj id id' b b' g c c' (hold id b hb) (hold id' b' hb')
 ·exact h.new id b g c (hold id b hb)
 ·rcases hk with hk | ⟨id, b, c, hb, hi⟩
  ·exact h.lt k hk
  ·exact (h.heap id b (hin id b hb).2).lt hi
 ·rcases hk with hk | ⟨id', b', c', hb', hi'⟩
  ·exact h.out id b g c (hold id b hb) hi hk
  ·have e := h.inj id id' b b' g c c' (hold id b hb) (hin id' b' hb').2 hi hi'
   obtain ⟨⟨x, hx, hxe⟩, _⟩ := hin id' b' hb'
   have h1 := hfr x hx
   rw [hxe, ← e, hdom id b (delH_sub hb)] at h1
   cases h1
 ·rcases hk with hk | ⟨id', b', c', hb', hi'⟩
  ·exact h.arg k hk hkW
  ·rcases h.new id' b' k c' (hin id' b' hb').2 hi' with h' | h'
   ·omega
   ·exact .inr h'
theorem step_sound (hT : TabOk P T) {W w : World} {a : Act} {σ σ' : AS} (h : St A W w a σ) {ops : Array Oper} {i : Nat} {o : Oper} (ho : ops[i]? = some o) (hs : AStep P T ops o σ σ')
  {K : Act → World → Prop} {Q : Exit → Act → World → Prop} (hK : ∀ a' w', St A W w' a' σ' → K a' w') : wpOp P ops Q i K a w := by
 obtain ⟨ι, R, h⟩ := h
 obtain ⟨g, v, set, set0, del, hg, h1, hfr, h2, hd, rfl⟩ := hs
 unfold wpOp
 rw [ho]
 simp only
 have hwt := guard_sound h hg
 rw [hwt]
 cases g with
 | false =>
  obtain ⟨rfl, rfl, _⟩ := h2 rfl
  simp only [Bool.false_eq_true, if_false]
  refine hK _ _ ⟨ι, R, ?_⟩
  have hgn : o.guard.isNone = false := by
   cases hq : o.guard with
   | none => unfold GRel at hg; rw [hq] at hg; cases hg
   | some _ => rfl
  have h' : St.Of A W w a { σ with heap := setH (delH σ.heap []) [], seen := seenS σ.seen set0 } ι R :=
   ⟨h.below, h.size, h.defers, fun id x hx => seenS_up (h.seen id x hx), h.slots, h.heap, h.inj, h.new, h.lt, h.out, h.arg, h.pin, h.glob⟩
  refine h'.put (dst := o.dst) hd ?_
  rw [hgn]
  show RelA ι R w (.gd false v) undef
  simp only [RelA]
  exact ⟨fun h => (by cases h), fun _ => trivial⟩
 | true =>
  simp only [if_true]
  refine .inl ?_
  obtain ⟨v0, hdo, hv⟩ := h1 rfl
  have hK : ∀ a' w', St A W w' a' (σ.after o v0 set0 del) → K a' w' := by
   rcases hv with ⟨rfl, rfl⟩ | ⟨hns, hnm, rfl, hwk⟩
   ·exact hK
   ·refine fun a' w' hst => hK a' w' (hst.freeze (fun id b hb => ?_) (hfr hns hnm) hwk)
    have hbr := h.heap id b hb
    cases b with
    | box cells => obtain ⟨g, k, cur, e, hi, _⟩ := hbr; exact h.seen _ _ hi
    | row e s cells =>
     obtain ⟨n, _, _, _, hbr⟩ := hbr
     rcases hbr with ⟨hi, _⟩ | ⟨g, cap, base0, cur, hi, _⟩ <;> exact h.seen _ _ hi
    | map ks xs => obtain ⟨g, c, es, ck, hi, _⟩ := hbr; exact h.seen _ _ hi
  clear hv
  unfold Does at hdo
  split at hdo
  ·rename_i c x y hop
   obtain ⟨⟨hcw, t, hc⟩, hok, rfl, rfl, rfl⟩ := hdo
   obtain ⟨u, hrun, hr⟩ := pick_sound (P := P) h hcw hc hok
   exact wp_value hd hK (by simp only [execOp, hop]; exact hrun) (by exact h) hr
  ·obtain ⟨hw, hdo⟩ := hdo
   split at hdo
   ·rename_i f xs hcall
    have hns : isStore o.op = false := by
     unfold callOf at hcall
     split at hcall
     ·rename_i hop; rw [hop]; rfl
     ·cases hcall
    split at hdo
    ·rename_i hmc
     obtain ⟨fn, caps, args, al, res, hb, hf, hargs, hal, hp, hl, rfl, rfl, rfl⟩ := hdo
     exact call_sound h hw hcall hf hargs hal hp hl (hfr hns hmc) hd hK
    ·obtain ⟨fn, caps, args, hin, nk, al, res, hout, ρ, F, hf, hargs, hsub, hal, hkept, hnk, hnk', hbk, hp, hf2, rfl, rfl, rfl⟩ := hdo
     exact mcall_sound h hw hcall hf hargs hsub hal hkept hnk hnk' hp hf2 hd hK
   ·obtain ⟨hok, rfl, rfl, rfl⟩ := hdo
    exact exec_sound hT h hw hok (fun hs => hfr hs (isMC_none (by assumption))) hd hK
end Go.Ab
set_option linter.unusedVariables false
set_option linter.unusedSectionVars false
set_option linter.unusedSimpArgs false
namespace Go.Ab
open Go.RowKit
variable {A : Env}
variable {P : Program} {T : Tab} [OfP A P]
mutual
def IdsIn (S : Nat → Prop) : AV → Prop
  | .ptr id _ => S id
  | .pix id _ => S id
  | .row id _ _ _ => S id
  | .map id => S id
  | .agg xs => IdsInL S xs
  | .tup xs => IdsInL S xs
  | .fn _ xs => IdsInL S xs
  | .gd g x => g = true → IdsIn S x
  | .pv _ => True
  | .roat _ _ => True
  | .junk => True
def IdsInL (S : Nat → Prop) : List AV → Prop
  | [] => True
  | x :: xs => IdsIn S x ∧ IdsInL S xs
end
mutual
theorem RelA.ids {ι : Emb} {R : Nat → Prop} {w : World} {S : Nat → Prop} (hS : ∀ id x, ι id = some x → S id) : ∀ (x : AV) (u : Value), RelA ι R w x u → IdsIn S x
  | .pv p, u, h => by simp only [IdsIn]
  | .ptr id off, u, h => by
    simp only [RelA, IdsIn] at h ⊢
    obtain ⟨g, c, hi, _⟩ := h
    exact hS _ _ hi
  | .pix id off, u, h => by
    simp only [RelA, IdsIn] at h ⊢
    obtain ⟨g, c, hi, _⟩ := h
    exact hS _ _ hi
  | .row id s off len, u, h => by
    simp only [RelA, IdsIn] at h ⊢
    rcases h with ⟨hi, _⟩ | ⟨g, c, a, hi, _⟩ <;> exact hS _ _ hi
  | .roat n c, u, h => by simp only [IdsIn]
  | .map id, u, h => by
    simp only [RelA, IdsIn] at h ⊢
    obtain ⟨g, c, hi, _⟩ := h
    exact hS _ _ hi
  | .agg xs, u, h => by
    simp only [RelA, IdsIn] at h ⊢
    obtain ⟨us, _, h⟩ := h
    exact RelL.ids hS xs _ h
  | .tup xs, u, h => by
    simp only [RelA, IdsIn] at h ⊢
    obtain ⟨us, _, h⟩ := h
    exact RelL.ids hS xs _ h
  | .fn f xs, u, h => by
    simp only [RelA, IdsIn] at h ⊢
    obtain ⟨us, _, h⟩ := h
    exact RelL.ids hS xs _ h
  | .gd g x, u, h => by
    simp only [RelA, IdsIn] at h ⊢
    exact fun hg => RelA.ids hS x u (h.1 hg)
  | .junk, u, h => by simp only [IdsIn]
theorem RelL.ids {ι : Emb} {R : Nat → Prop} {w : World} {S : Nat → Prop} (hS : ∀ id x, ι id = some x → S id) : ∀ (xs : List AV) (us : List Value), RelL ι R w xs us → IdsInL S xs
  | [], us, h => by simp only [IdsInL]
  | x :: xs, u :: us, h => by
    simp only [RelL, IdsInL] at h ⊢
    exact ⟨RelA.ids hS x u h.1, RelL.ids hS xs us h.2⟩
  | x :: xs, [], h => by simp [RelL] at h
end
theorem IdsIn.unpix {S : Nat → Prop} {x : AV} (h : IdsIn S x) : IdsIn S x.unpix := by
  cases x <;> first | exact h | (simp only [IdsIn, AV.unpix] at h ⊢; exact h)
theorem IdsInL.mem {S : Nat → Prop} : ∀ {xs : List AV}, IdsInL S xs → ∀ x ∈ xs, IdsIn S x
  | [], _, x, hx => by simp at hx
  | y :: xs, h, x, hx => by
    simp only [IdsInL] at h
    rcases List.mem_cons.1 hx with rfl | hx
    · exact h.1
    · exact h.2.mem x hx
structure Hyg (σ : AS) : Prop where
  slots : ∀ t, IdsIn (fun id => σ.seen id = true) (σ.slots t)
  heap : ∀ id b, σ.heap id = some b → ∀ c ∈ b.all, IdsIn (fun id => σ.seen id = true) c
  dom : ∀ id b, σ.heap id = some b → σ.seen id = true
theorem St.hyg {W w : World} {a : Act} {σ : AS} (h : St A W w a σ) : Hyg σ := by
  obtain ⟨ι, R, h⟩ := h
  refine ⟨fun t => RelA.ids h.seen _ _ (h.slots t), fun id b hb c hc => ?_, fun id b hb => ?_⟩
  case refine_2 =>
    have hbr := h.heap id b hb
    cases b with
    | box cells => obtain ⟨g, k, cur, e, hi, _⟩ := hbr; exact h.seen _ _ hi
    | row e s cells =>
      obtain ⟨n, _, _, _, hbr⟩ := hbr
      rcases hbr with ⟨hi, _⟩ | ⟨g, cap, base0, cur, hi, _⟩ <;> exact h.seen _ _ hi
    | map ks xs => obtain ⟨g, c, es, ck, hi, _⟩ := hbr; exact h.seen _ _ hi
  have hbr := h.heap id b hb
  cases b with
  | box cells =>
    obtain ⟨g, k, cur, e, hi, hh, hr, h1⟩ := hbr
    exact (RelL.ids h.seen _ _ hr).mem c hc
  | row e s cells =>
    obtain ⟨n, hl, hs, hn, hbr⟩ := hbr
    rcases hbr with ⟨hi, rfl⟩ | ⟨g, cap, base0, cur, hi, hh, hz, hcc, hcm, hr, h1⟩
    · have : cells = [] := List.eq_nil_of_length_eq_zero (by simpa using hl)
      subst this
      simp [Blk.all] at hc
    · exact (RelL.ids h.seen _ _ hr).mem c hc
  | map ks xs =>
    obtain ⟨g, c', es, ck, hi, hh, hk, hr, h1⟩ := hbr
    exact (RelL.ids h.seen _ _ hr).mem c hc
def mutOp : Op → Bool
  | .store .. => true
  | .call { callee := .builtin .append, .. } => true
  | .call { callee := .builtin .copy, .. } => true
  | .mapUpdate .. => true
  | .insert .. => true
  | .call { callee := .builtin .delete, .. } => true
  | .call { callee := .builtin .clear, .. } => true
  | .convert s d _ => Nat.beq s d
  | _ => false
def mutF (fz : List Nat) (op : Op) : Bool := mutOp op || isMC fz op
def indep (T : Tab) (fz : List Nat) (ops : Array Oper) (x y : Oper) : Bool :=
  Oper.apart ops x y && (pureOp T x.op || pureOp T y.op || (!mutF fz x.op && !mutF fz y.op))
theorem effOf_pure {ev : Operand → AV} {H H' : Heap} {dst : Option Nat} {op : Op} (h : pureOp T op = true) : effOf T ev H dst op = effOf T ev H' dst op := by
  unfold pureOp at h
  split at h <;> first
    | rfl
    | (rename_i s d x; have hsd : Nat.beq s d = false := by (simpa using h)
       simp only [effOf, hsd]; done)
    | (rename_i ts; have hsd : isMapT T ts = false := by (simpa using h)
       simp only [effOf, hsd]; done)
    | (rename_i ts _; have hsd : isMapT T ts = false := by (simpa using h)
       simp only [effOf, hsd]; done)
    | (cases h; done)
theorem effOf_pure_set {ev : Operand → AV} {H : Heap} {dst : Option Nat} {op : Op} (h : pureOp T op = true) : (effOf T ev H dst op).set = [] ∧ (effOf T ev H dst op).del = [] := by
  have key : ∀ o : Option Out, (match o with | some out => Eff.of out | none => Eff.bad).set = [] ∧ (match o with | some out => Eff.of out | none => Eff.bad).del = [] := by
    intro o; cases o <;> exact ⟨rfl, rfl⟩
  unfold pureOp at h
  split at h <;> first
    | exact key _
    | exact ⟨rfl, rfl⟩
    | (rename_i s d x; have hsd : Nat.beq s d = false := by (simpa using h)
       simp only [effOf, hsd]; exact ⟨trivial, trivial⟩)
    | (rename_i ts; have hsd : isMapT T ts = false := by (simpa using h)
       simp only [effOf, hsd]; exact key _)
    | (rename_i ts _; have hsd : isMapT T ts = false := by (simpa using h)
       simp only [effOf, hsd]; exact key _)
    | (cases h; done)
theorem effOf_del {ev : Operand → AV} {H : Heap} {dst : Option Nat} {op : Op} (h : mutOp op = false) : (effOf T ev H dst op).del = [] := by
  have key : ∀ o : Option Out, (match o with | some out => Eff.of out | none => Eff.bad).del = [] := by
    intro o; cases o <;> rfl
  unfold effOf
  split <;> first
    | rfl
    | (simp [mutOp] at h; done)
    | (have hsd : Nat.beq _ _ = false := h; simp only [hsd]; done)
    | (split <;> first | rfl | (split <;> first | rfl | (split <;> first | rfl | (split <;> first | rfl | (split <;> rfl)))))
theorem effOf_congr {ev ev' : Operand → AV} {H : Heap} {dst : Option Nat} {op : Op} (h : ∀ x ∈ op.operands.toList, ev x = ev' x) : effOf T ev H dst op = effOf T ev' H dst op := by
  have parts : ∀ ps : Array (Nat × Operand), (∀ x ∈ (ps.toList.map (·.2)), ev x = ev' x) → (ps.toList.map fun p => (p.1, ev p.2)) = ps.toList.map fun p => (p.1, ev' p.2) := by
    intro ps hp
    apply List.map_congr_left
    intro p hm
    rw [hp p.2 (List.mem_map.2 ⟨p, hm, rfl⟩)]
  have opt : ∀ o : Option Operand, (∀ x, o = some x → ev x = ev' x) → o.map ev = o.map ev' := by
    intro o ho; cases o with
    | none => rfl
    | some x => simp [ho x rfl]
  cases op with
  | build t ps => simp only [effOf, pureOut]; rw [parts ps (by simpa [Op.operands] using h)]
  | buildSlice t n ps => simp only [effOf]; rw [parts ps (by simpa [Op.operands] using h)]
  | slice t x lo hi mx =>
    simp only [effOf, pureOut]
    rw [h x (by simp [Op.operands]), opt lo (fun y hy => h y (by simp [Op.operands, hy])), opt hi (fun y hy => h y (by simp [Op.operands, hy])), opt mx (fun y hy => h y (by simp [Op.operands, hy]))]
  | makeMap t r => cases r <;> rfl
  | makeFunc fn first caps =>
    cases fn <;> simp only [effOf, pureOut]
    have : caps.toList.map ev = caps.toList.map ev' := List.map_congr_left fun x hx => h x (by simp [Op.operands]; exact .inr (by simpa using hx))
    rw [this]
  | call c =>
    obtain ⟨callee, args, ts⟩ := c
    cases callee with
    | value f => rfl
    | invoke r m => rfl
    | builtin b =>
      have ha : ∀ x ∈ args.toList, ev x = ev' x := fun x hx => h x (by simp only [Op.operands, Call.operands]; simpa using hx)
      obtain ⟨l⟩ := args
      match l, ha with
      | [], ha => cases b <;> rfl
      | [x], ha =>
        have hx : ev x = ev' x := ha x (by simp)
        obtain ⟨tl⟩ := ts
        rcases tl with _ | ⟨t, _ | ⟨t', _ | ⟨t3, tl⟩⟩⟩ <;> cases b <;> first | rfl | (simp only [effOf, pureOut, hx])
      | [x, y], ha =>
        have hx : ev x = ev' x := ha x (by simp)
        have hy : ev y = ev' y := ha y (by simp)
        obtain ⟨tl⟩ := ts
        rcases tl with _ | ⟨t, _ | ⟨t', _ | ⟨t3, tl⟩⟩⟩ <;> cases b <;> first | rfl | (simp only [effOf, pureOut, hx, hy])
      | [x, y, z], ha =>
        have hx : ev x = ev' x := ha x (by simp)
        have hy : ev y = ev' y := ha y (by simp)
        have hz : ev z = ev' z := ha z (by simp)
        cases b <;> first | rfl | (simp only [effOf, pureOut, hx, hy, hz])
      | x :: y :: z :: u :: r, ha => cases b <;> rfl
  | _ =>
    simp only [Op.operands] at h
    first
      | rfl
      | (simp only [effOf, pureOut]; rw [h _ (by simp)]; done)
      | (simp only [effOf, pureOut]; rw [h _ (List.mem_cons_self ..), h _ (List.mem_cons_of_mem _ (List.mem_cons_self ..))]; done)
      | (simp only [effOf]; rw [h _ (List.mem_cons_self ..), h _ (List.mem_cons_of_mem _ (List.mem_cons_self ..)), h _ (List.mem_cons_of_mem _ (List.mem_cons_of_mem _ (List.mem_cons_self ..)))]; done)
end Go.Ab
set_option linter.unusedVariables false
set_option linter.unusedSectionVars false
set_option linter.unusedSimpArgs false
namespace Go.Ab
open Go.RowKit
variable {A : Env}
variable {P : Program} {T : Tab} [OfP A P]
theorem Wk.heap {ρ : Nat → Option Nat} {D F : Nat → Prop} {H H' : Heap} {x y : AV} (hH : ∀ id b, H id = some b → H' id = some b) (h : Wk ρ D F H x y) : Wk ρ D F H' x y := by
  induction h with
  | pv p => exact .pv p
  | roro s n c c' h ih => exact .roro s n c c' ih
  | roats n n' c c' hn h ih => exact .roats n n' c c' hn ih
  | ptro id off n b cell x hF hHi hx h ih => exact .ptro id off n b cell x hF (hH _ _ hHi) hx ih
  | nil s c => exact .nil s c
  | row id e s off len cells c x hF hHi hx h ih => exact .row id e s off len cells c x hF (hH _ _ hHi) hx ih
  | ptr id id' off hρ hD => exact .ptr id id' off hρ hD
  | pixs id id' off hρ hD => exact .pixs id id' off hρ hD
  | rows id id' s off len hρ hD => exact .rows id id' s off len hρ hD
  | nilrow id s hρ hD => exact .nilrow id s hρ hD
  | agg0 => exact .agg0
  | agg x y xs ys h t ih1 ih2 => exact .agg x y xs ys ih1 ih2
  | tup0 => exact .tup0
  | tup x y xs ys h t ih1 ih2 => exact .tup x y xs ys ih1 ih2
  | fn0 f => exact .fn0 f
  | fn f x y xs ys h t ih1 ih2 => exact .fn f x y xs ys ih1 ih2
  | maps id id' hρ hD => exact .maps id id' hρ hD
  | junk x => exact .junk x
theorem Blk.cells_all (b : Blk) : ∀ c ∈ b.cells, c ∈ b.all := by
  intro c hc
  cases b with
  | map ks xs => simp [Blk.cells] at hc
  | _ => exact hc
theorem Wk.restrict {ρ : Nat → Option Nat} {D F S : Nat → Prop} {H H1 : Heap} {x y : AV} (hH : ∀ id, S id → H1 id = H id) (hc : ∀ id b, H id = some b → ∀ c ∈ b.all, IdsIn S c) (h : Wk ρ D F H1 x y) : IdsIn S x → Wk ρ D F H x y := by
  induction h with
  | pv p => intro _; exact .pv p
  | roro s n c c' h ih => intro _; exact .roro s n c c' fun i hi j hj => ih i hi j hj (by simp only [IdsIn])
  | roats n n' c c' hn h ih => intro _; exact .roats n n' c c' hn fun j hj => ih j hj (by simp only [IdsIn])
  | ptro id off n b cell x hF hHi hx h ih =>
    intro hS
    simp only [IdsIn] at hS
    rw [hH id hS] at hHi
    exact .ptro id off n b cell x hF hHi hx fun j hj => ih j hj (hc id _ hHi _ (b.cells_all _ (List.mem_of_getElem? (hx j hj))))
  | nil s c => intro _; exact .nil s c
  | row id e s off len cells c x hF hHi hx h ih =>
    intro hS
    simp only [IdsIn] at hS
    rw [hH id hS] at hHi
    exact .row id e s off len cells c x hF hHi hx fun i hi j hj => ih i hi j hj (hc id _ hHi _ (List.mem_of_getElem? (hx i hi j hj)))
  | ptr id id' off hρ hD => intro _; exact .ptr id id' off hρ hD
  | pixs id id' off hρ hD => intro _; exact .pixs id id' off hρ hD
  | rows id id' s off len hρ hD => intro _; exact .rows id id' s off len hρ hD
  | nilrow id s hρ hD => intro _; exact .nilrow id s hρ hD
  | agg0 => intro _; exact .agg0
  | agg x y xs ys h t ih1 ih2 => intro hS; simp only [IdsIn, IdsInL] at hS ih2; exact .agg x y xs ys (ih1 hS.1) (ih2 hS.2)
  | tup0 => intro _; exact .tup0
  | tup x y xs ys h t ih1 ih2 => intro hS; simp only [IdsIn, IdsInL] at hS ih2; exact .tup x y xs ys (ih1 hS.1) (ih2 hS.2)
  | fn0 f => intro _; exact .fn0 f
  | fn f x y xs ys h t ih1 ih2 => intro hS; simp only [IdsIn, IdsInL] at hS ih2; exact .fn f x y xs ys (ih1 hS.1) (ih2 hS.2)
  | maps id id' hρ hD => intro _; exact .maps id id' hρ hD
  | junk x => intro _; exact .junk x
theorem WkArgs.heap {H H' : Heap} (hH : ∀ id b, H id = some b → H' id = some b) : ∀ {xs ys : List AV}, WkArgs H xs ys → WkArgs H' xs ys
  | [], [], _ => trivial
  | x :: xs, y :: ys, h => ⟨h.1.heap hH, WkArgs.heap hH h.2⟩
  | [], _ :: _, h => h.elim
  | _ :: _, [], h => h.elim
theorem WkArgs.restrict {S : Nat → Prop} {H H1 : Heap} (hH : ∀ id, S id → H1 id = H id) (hc : ∀ id b, H id = some b → ∀ c ∈ b.all, IdsIn S c) : ∀ {xs ys : List AV}, WkArgs H1 xs ys → (∀ x ∈ xs, IdsIn S x) → WkArgs H xs ys
  | [], [], _, _ => trivial
  | x :: xs, y :: ys, h, hs => ⟨h.1.restrict hH hc (hs x (by simp)), WkArgs.restrict hH hc h.2 fun z hz => hs z (by simp [hz])⟩
  | [], _ :: _, h, _ => h.elim
  | _ :: _, [], h, _ => h.elim
theorem effOf_heap {ev : Operand → AV} {H H' : Heap} {dst : Option Nat} {op : Op} (hm : mutOp op = false) (h : ∀ id, (∃ x ∈ op.operands.toList, (∃ off, (ev x).unpix = .ptr id off) ∨ ev x = .map id) → ∀ b, H id = some b → H' id = some b) (hok : (effOf T ev H dst op).ok) :
    effOf T ev H' dst op = effOf T ev H dst op := by
  cases op with
  | load t x =>
    simp only [effOf] at hok ⊢
    unfold loadAV at hok ⊢
    cases hT : T t with
    | none => rfl
    | some ti =>
      simp only [hT] at hok ⊢
      cases hx : (ev x).unpix with
      | ptr id off =>
        simp only [hx] at hok ⊢
        cases hh : H id with
        | none => simp only [hh] at hok
        | some b => rw [h id ⟨x, by simp [Op.operands], .inl ⟨off, hx⟩⟩ b hh]
      | _ => rfl
  | lookup t m k ck =>
    simp only [effOf] at hok ⊢
    cases hT : T t with
    | none => rfl
    | some ti =>
      obtain ⟨un, sz, by_, ze, cm⟩ := ti
      cases un with
      | map kt et =>
        simp only [hT] at hok ⊢
        split at hok
        · cases hm' : ev m with
          | map id =>
            simp only [hm'] at hok ⊢
            cases hk : ev k with
            | pv p =>
              cases p with
              | raw kv =>
                simp only [hk] at hok ⊢
                cases hh : H id with
                | none => simp only [hh] at hok
                | some b => rw [h id ⟨m, by simp [Op.operands], .inr hm'⟩ b hh]
              | ro s n c => rfl
            | _ => rfl
          | _ => rfl
        · cases hm' : ev m with
          | map id =>
            simp only [hm'] at hok ⊢
            cases hk : ev k with
            | agg cs =>
              simp only [hk] at hok ⊢
              cases hr : rawsOf cs with
              | none => rfl
              | some vs =>
                simp only [hr] at hok ⊢
                cases hh : H id with
                | none => simp only [hh] at hok
                | some b => rw [h id ⟨m, by simp [Op.operands], .inr hm'⟩ b hh]
            | _ => rfl
          | _ => rfl
        · rfl
      | _ => rfl
  | makeMap t r => cases r <;> rfl
  | mapUpdate t m k x => simp [mutOp] at hm
  | insert t m k x => simp [mutOp] at hm
  | convert s d x =>
    have hsd : Nat.beq s d = false := hm
    simp only [effOf, hsd]
  | store t a x => simp [mutOp] at hm
  | call c =>
    obtain ⟨callee, args, ts⟩ := c
    cases callee with
    | builtin b =>
      cases b <;> first
        | rfl
        | (simp [mutOp] at hm; done)
        | (simp only [effOf] at hok ⊢
           cases hmt : isMapT T ts with
           | false => rfl
           | true =>
             obtain ⟨l⟩ := args
             simp only [hmt] at hok ⊢
             cases l with
             | nil => rfl
             | cons m r =>
               cases r with
               | cons _ _ => rfl
               | nil =>
                 cases hm' : ev m with
                 | map id =>
                   simp only [hm'] at hok ⊢
                   cases hh : H id with
                   | none => simp only [hh] at hok
                   | some b => rw [h id ⟨m, by simp [Op.operands, Call.operands], .inr hm'⟩ b hh]
                 | _ => simp only [hm'])
    | _ => rfl
  | _ => rfl
theorem setH_comm {H : Heap} {s1 s2 : List (Nat × Blk)} (h : ∀ x ∈ s1, ∀ y ∈ s2, x.1 ≠ y.1) : setH (setH H s1) s2 = setH (setH H s2) s1 := by
  funext id
  by_cases h1 : ∃ x ∈ s1, x.1 = id <;> by_cases h2 : ∃ x ∈ s2, x.1 = id
  · obtain ⟨x, hx, rfl⟩ := h1
    obtain ⟨y, hy, he⟩ := h2
    exact absurd he.symm (h x hx y hy)
  · have h2' : ∀ x ∈ s2, x.1 ≠ id := fun x hx e => h2 ⟨x, hx, e⟩
    rw [setH_out h2']
    exact setH_in h1
  · have h1' : ∀ x ∈ s1, x.1 ≠ id := fun x hx e => h1 ⟨x, hx, e⟩
    rw [setH_out (set := s1) h1']
    exact setH_in h2
  · have h1' : ∀ x ∈ s1, x.1 ≠ id := fun x hx e => h1 ⟨x, hx, e⟩
    have h2' : ∀ x ∈ s2, x.1 ≠ id := fun x hx e => h2 ⟨x, hx, e⟩
    rw [setH_out h2', setH_out h1', setH_out h1', setH_out h2']
theorem seenS_false {f : Nat → Bool} : ∀ {set : List (Nat × Blk)} {id : Nat}, seenS f set id = false ↔ f id = false ∧ ∀ x ∈ set, x.1 ≠ id
  | [], id => by simp [seenS]
  | (k, b) :: r, id => by
    rw [seenS, seenS_false]
    simp only [upd, List.mem_cons]
    constructor
    · rintro ⟨h1, h2⟩
      split at h1
      · cases h1
      · rename_i hne
        exact ⟨h1, fun x hx => by rcases hx with rfl | hx; exact fun e => hne e.symm; exact h2 x hx⟩
    · rintro ⟨h1, h2⟩
      exact ⟨by rw [if_neg (fun e => h2 (k, b) (.inl rfl) e.symm)]; exact h1, fun x hx => h2 x (.inr hx)⟩
theorem seenS_comm {f : Nat → Bool} {s1 s2 : List (Nat × Blk)} : seenS (seenS f s1) s2 = seenS (seenS f s2) s1 := by
  funext id
  rw [Bool.eq_iff_iff, ← Bool.not_eq_false, ← Bool.not_eq_false, seenS_false, seenS_false, seenS_false, seenS_false]
  constructor <;> (intro h h'; exact h ⟨⟨h'.1.1, h'.2⟩, h'.1.2⟩)
theorem putS_comm {f : Nat → AV} {d e : Option Nat} {v u : AV} (h : ∀ k, d = some k → e ≠ some k) : putS (putS f d v) e u = putS (putS f e u) d v := by
  cases d with
  | none => rfl
  | some k =>
    cases e with
    | none => rfl
    | some l =>
      have hne : k ≠ l := fun e => h k rfl (by rw [e])
      funext t
      simp only [putS, upd]
      by_cases h1 : t = l
      · rw [if_pos h1]
        rw [if_neg (fun e => hne (e.symm.trans h1))]
        try rw [if_pos h1]
      · rw [if_neg h1]
        by_cases h2 : t = k
        · rw [if_pos h2, if_pos h2]
        · rw [if_neg h2, if_neg h2, if_neg h1]
theorem putS_out {f : Nat → AV} {d : Option Nat} {v : AV} {t : Nat} (h : ∀ k, d = some k → k ≠ t) : putS f d v t = f t := by
  cases d with
  | none => rfl
  | some k => simp only [putS, upd]; rw [if_neg (fun e => h k rfl e.symm)]
def Alike (ops : Array Oper) (o : Oper) (σ σ' : AS) : Prop := ∀ t ∈ o.looksAt ops, σ.slots t = σ'.slots t
theorem Alike.ev {ops : Array Oper} {o : Oper} {σ σ' : AS} (h : Alike ops o σ σ') : ∀ x ∈ o.op.operands.toList, σ.ev x = σ'.ev x := by
  intro x hx
  cases x with
  | tmp t =>
    refine h t ?_
    unfold Oper.looksAt
    refine List.mem_append.2 (.inl ?_)
    exact List.mem_filterMap.2 ⟨.tmp t, hx, rfl⟩
  | _ => rfl
theorem Alike.guard {ops : Array Oper} {o : Oper} {σ σ' : AS} (h : Alike ops o σ σ') {g : Bool} (hg : GRel σ ops o g) : GRel σ' ops o g := by
  unfold GRel at hg ⊢
  cases hgd : o.guard with
  | none => rw [hgd] at hg; exact hg
  | some q =>
    obtain ⟨j, want⟩ := q
    rw [hgd] at hg
    simp only at hg ⊢
    cases hd : (ops[j]?).bind (·.dst) with
    | none => rw [hd] at hg; exact hg
    | some d =>
      rw [hd] at hg
      simp only at hg ⊢
      rw [← h d (by unfold Oper.looksAt; rw [hgd]; simp [hd])]
      exact hg
theorem mutF_mut {fz : List Nat} {op : Op} (h : mutF fz op = false) : mutOp op = false := by
  unfold mutF at h
  rw [Bool.or_eq_false_iff] at h
  exact h.1
theorem mutF_mc {fz : List Nat} {op : Op} (h : mutF fz op = false) : isMC fz op = false := by
  unfold mutF at h
  rw [Bool.or_eq_false_iff] at h
  exact h.2
theorem isMC_npure {fz : List Nat} {op : Op} (h : isMC fz op = true) : pureOp T op = false := by
  unfold isMC at h
  split at h
  · rfl
  · rfl
  · cases h
theorem Does.move {ops : Array Oper} {o : Oper} {σ σ' : AS} (hal : Alike ops o σ σ') {v : AV} {set : List (Nat × Blk)} {del : List Nat} (h : Does P T o σ v set del)
    (hfz : σ'.fz = σ.fz) (hseen : isMC σ.fz o.op = true → ∀ id, σ'.seen id = true → σ.seen id = true) (hn : σ'.n = σ.n) (hcase : σ.heap = σ'.heap ∨ pureOp T o.op = true ∨ (mutF σ.fz o.op = false ∧ ((∀ id b, σ.heap id = some b → σ'.heap id = some b) ∨ (Hyg σ' ∧ ∀ id, σ'.seen id = true → σ.heap id = σ'.heap id)))) : Does P T o σ' v set del := by
  have hev := hal.ev
  have hbev : ∀ x ∈ o.op.operands.toList, σ.bev x = σ'.bev x := fun x hx => by unfold AS.bev; rw [hev x hx]
  have hyg : ∀ x ∈ o.op.operands.toList, (σ.ev x).when = true → Hyg σ' → IdsIn (fun id => σ'.seen id = true) (σ.bev x) := by
    intro x hx hw hg
    rw [hev x hx] at hw
    rw [hbev x hx]
    cases x with
    | tmp t =>
      have hs := hg.slots t
      unfold AS.bev
      show IdsIn _ (σ'.slots t).bare
      simp only [AS.ev] at hw
      generalize σ'.slots t = y at hs hw
      cases y <;> first
        | exact hs
        | (simp only [AV.when] at hw; simp only [IdsIn] at hs; exact hs hw)
    | _ => simp [AS.bev, AS.ev, AV.bare, IdsIn, IdsInL]
  unfold Does at h ⊢
  split at h
  · rename_i c a b hop
    have hc := hev c (by simp [hop, Op.operands])
    have ha := hev a (by simp [hop, Op.operands])
    have hb := hev b (by simp [hop, Op.operands])
    rw [hc, ha, hb] at h
    exact h
  · rename_i hnp
    obtain ⟨hw, h⟩ := h
    have hw' : ∀ x ∈ o.op.operands.toList, (σ'.ev x).when = true := fun x hx => by rw [← hev x hx]; exact hw x hx
    refine ⟨hw', ?_⟩
    split at h
    · rename_i f xs hcall
      have hmem : ∀ x, x ∈ o.op.operands.toList ↔ x = f ∨ x ∈ xs := by
        intro x
        unfold callOf at hcall
        split at hcall
        · rename_i hop
          cases hcall
          rw [hop]
          simp [Op.operands, Call.operands]
        · cases hcall
      have hnpure : pureOp T o.op = false := by
        unfold callOf at hcall
        split at hcall
        · rename_i hop; rw [hop]; rfl
        · cases hcall
      have hxs : xs.map σ.bev = xs.map σ'.bev := List.map_congr_left fun x hx => hbev x ((hmem x).2 (.inr hx))
      rw [hfz]
      split at h
      case h_2 hmc =>
        have hheap : σ.heap = σ'.heap := by
          rcases hcase with hc | hc | ⟨hm, _⟩
          · exact hc
          · rw [hnpure] at hc; cases hc
          · unfold mutF at hm; rw [hmc] at hm; simp at hm
        obtain ⟨fn, caps, args, hin, nk, al, res, hout, ρ, F, hf, hargs, hsub, hal, hkept, hnk, hnk', hbk, hp, hf2, he⟩ := h
        refine ⟨fn, caps, args, hin, nk, al, res, hout, ρ, F, by rw [← hbev f ((hmem f).2 (.inl rfl))]; exact hf, by rw [← hxs, ← hheap]; exact hargs, ?_, hal, hkept, hnk, hnk', hbk, hp, ?_, he⟩
        · refine ⟨rfl, fun t => .inl rfl, fun i b hb => ⟨rfl, ?_⟩, fun i hi => absurd hi (Nat.not_lt_zero _), hsub.inj⟩
          have := (hsub.heap i b hb).2
          unfold SubB at this ⊢
          rw [← hheap]
          exact this
        · intro i h1 h2
          have := hf2 i h1 h2
          cases hs : σ'.seen (fid o.dst 0 + i) with
          | false => rfl
          | true => rw [hseen hmc _ hs] at this; cases this
      rename_i hmc
      obtain ⟨fn, caps, args, al, res, hb, hf, hargs, hal', hp, hl, he⟩ := h
      refine ⟨fn, caps, args, al, res, hb, by rw [← hbev f ((hmem f).2 (.inl rfl))]; exact hf, ?_, by rw [← hxs]; exact hal', hp, hl, he⟩
      rw [← hxs]
      rcases hcase with hc | hc | ⟨hm, hc | ⟨hg, hc⟩⟩
      · rw [← hc]; exact hargs
      · rw [hnpure] at hc; cases hc
      · exact hargs.heap hc
      · refine hargs.restrict (S := fun id => σ'.seen id = true) (fun id hs => hc id hs) hg.heap ?_
        intro x hx
        rcases List.mem_append.1 hx with hx | hx
        · obtain ⟨y, hy, rfl⟩ := List.mem_map.1 hx
          exact hyg y ((hmem y).2 (.inr hy)) (hw y ((hmem y).2 (.inr hy))) hg
        · have := hyg f ((hmem f).2 (.inl rfl)) (hw f ((hmem f).2 (.inl rfl))) hg
          rw [hf] at this
          simp only [IdsIn] at this
          exact this.mem x hx
    · have e1 : effOf T σ.bev σ.heap o.dst o.op = effOf T σ'.bev σ.heap o.dst o.op := effOf_congr hbev
      have e2 : effOf T σ'.bev σ.heap o.dst o.op = effOf T σ'.bev σ'.heap o.dst o.op := by
        rcases hcase with hc | hc | ⟨hm, hc | ⟨hg, hc⟩⟩
        · rw [hc]
        · exact effOf_pure hc
        · exact (effOf_heap (mutF_mut hm) (fun id _ b hb => hc id b hb) (by rw [← e1]; exact h.1)).symm
        · refine (effOf_heap (mutF_mut hm) (fun id ⟨x, hx, he⟩ b hb => ?_) (by rw [← e1]; exact h.1)).symm
          rcases he with ⟨off, he⟩ | he
          · have := (hyg x hx (hw x hx) hg).unpix
            rw [hbev x hx, he] at this
            simp only [IdsIn] at this
            rw [← hc id this]; exact hb
          · have := hyg x hx (hw x hx) hg
            rw [hbev x hx, he] at this
            simp only [IdsIn] at this
            rw [← hc id this]; exact hb
      rw [← e2, ← e1]
      exact h
theorem Does.pure_set {o : Oper} {σ : AS} {v : AV} {set : List (Nat × Blk)} {del : List Nat} (hp : pureOp T o.op = true) (h : Does P T o σ v set del) : set = [] ∧ del = [] := by
  unfold Does at h
  split at h
  · exact ⟨h.2.2.2.1, h.2.2.2.2⟩
  · obtain ⟨_, h⟩ := h
    split at h
    · rename_i hcall
      unfold callOf at hcall
      split at hcall
      · rename_i hop; rw [hop] at hp; simp [pureOp] at hp
      · cases hcall
    · have := effOf_pure_set (T := T) (ev := σ.bev) (H := σ.heap) (dst := o.dst) hp
      rw [h.2.2.1, h.2.2.2]; exact this
theorem Does.del {o : Oper} {σ : AS} {v : AV} {set : List (Nat × Blk)} {del : List Nat} (hm : mutF σ.fz o.op = false) (h : Does P T o σ v set del) : del = [] := by
  unfold Does at h
  split at h
  · exact h.2.2.2.2
  · obtain ⟨_, h⟩ := h
    split at h
    · rw [mutF_mc hm] at h
      obtain ⟨_, _, _, _, _, _, _, _, _, _, _, _, _, h⟩ := h; exact h
    · rw [h.2.2.2]; exact effOf_del (mutF_mut hm)
theorem mut_store {op : Op} (h : mutOp op = false) : isStore op = false := by
  unfold isStore
  split <;> first
    | rfl
    | (simp [mutOp] at h; done)
theorem Born.move {ops : Array Oper} {o : Oper} {σ σ' : AS} (hal : Alike ops o σ σ') {v : AV} {set set0 : List (Nat × Blk)} {del : List Nat} (h : Born P T o σ v set set0 del)
    (hfz : σ'.fz = σ.fz) (hseen : isMC σ.fz o.op = true → ∀ id, σ'.seen id = true → σ.seen id = true) (hn : σ'.n = σ.n) (hcase : σ.heap = σ'.heap ∨ pureOp T o.op = true ∨ (mutF σ.fz o.op = false ∧ ((∀ id b, σ.heap id = some b → σ'.heap id = some b) ∨ (Hyg σ' ∧ ∀ id, σ'.seen id = true → σ.heap id = σ'.heap id)))) : Born P T o σ' v set set0 del := by
  obtain ⟨v0, h1, h2⟩ := h
  exact ⟨v0, h1.move hal hfz hseen hn hcase, by rw [hfz]; exact h2⟩
theorem Born.sub {o : Oper} {σ : AS} {v : AV} {set set0 : List (Nat × Blk)} {del : List Nat} (h : Born P T o σ v set set0 del) : ∀ x ∈ set, x ∈ set0 := by
  obtain ⟨v0, h1, ⟨_, rfl⟩ | ⟨_, _, rfl, _⟩⟩ := h
  · exact fun _ h => h
  · simp
theorem Born.pure_set {o : Oper} {σ : AS} {v : AV} {set set0 : List (Nat × Blk)} {del : List Nat} (hp : pureOp T o.op = true) (h : Born P T o σ v set set0 del) : set = [] ∧ set0 = [] ∧ del = [] := by
  obtain ⟨v0, h1, h2⟩ := h
  obtain ⟨e1, e2⟩ := h1.pure_set hp
  refine ⟨?_, e1, e2⟩
  rcases h2 with ⟨_, rfl⟩ | ⟨_, _, rfl, _⟩
  · exact e1
  · rfl
theorem Born.del {o : Oper} {σ : AS} {v : AV} {set set0 : List (Nat × Blk)} {del : List Nat} (hm : mutF σ.fz o.op = false) (h : Born P T o σ v set set0 del) : del = [] := by
  obtain ⟨v0, h1, h2⟩ := h
  exact h1.del hm
theorem commute {σ σ1 σ2 : AS} (hyg : Hyg σ) {ops : Array Oper} {o1 o2 : Oper} (hi : indep T σ.fz ops o1 o2 = true) (h1 : AStep P T ops o1 σ σ1) (h2 : AStep P T ops o2 σ1 σ2) :
    ∃ σ1', AStep P T ops o2 σ σ1' ∧ AStep P T ops o1 σ1' σ2 := by
  obtain ⟨g1, v1, set1, sn1, del1, G1, D1, F1, N1, L1, rfl⟩ := h1
  obtain ⟨g2, v2, set2, sn2, del2, G2, D2, F2, N2, L2, rfl⟩ := h2
  unfold indep at hi
  rw [Bool.and_eq_true] at hi
  obtain ⟨hap, hcl⟩ := hi
  obtain ⟨a1, a2, a3⟩ := Oper.apart_spec hap
  have hal2 : Alike ops o2 { σ with slots := putS σ.slots o1.dst (if o1.guard.isNone then v1 else .gd g1 v1), heap := setH (delH σ.heap del1) set1, seen := seenS σ.seen sn1 } σ := by
    intro t ht
    exact putS_out fun k hk e => a1 k hk (e ▸ ht)
  have hput : putS (putS σ.slots o1.dst (if o1.guard.isNone then v1 else .gd g1 v1)) o2.dst (if o2.guard.isNone then v2 else .gd g2 v2) = putS (putS σ.slots o2.dst (if o2.guard.isNone then v2 else .gd g2 v2)) o1.dst (if o1.guard.isNone then v1 else .gd g1 v1) :=
    putS_comm fun k hk => a2 k hk
  have hal1 : ∀ (H : Heap) (s : Nat → Bool), Alike ops o1 σ { σ with slots := putS σ.slots o2.dst (if o2.guard.isNone then v2 else .gd g2 v2), heap := H, seen := s } := by
    intro H s t ht
    exact (putS_out fun k hk e => a3 k hk (e ▸ ht)).symm
  by_cases hp1 : pureOp T o1.op = true
  · have e1 : set1 = [] ∧ sn1 = [] ∧ del1 = [] := by
      cases g1 with
      | true => exact (D1 rfl).pure_set hp1
      | false => exact ⟨(N1 rfl).1, (N1 rfl).2.2 hp1, (N1 rfl).2.1⟩
    obtain ⟨rfl, rfl, rfl⟩ := e1
    refine ⟨_, ⟨g2, v2, set2, sn2, del2, hal2.guard G2, fun hg => (D2 hg).move hal2 rfl (fun _ _ h => h) rfl (.inl rfl), F2, N2, L2, rfl⟩, ⟨g1, v1, [], [], [], (hal1 _ _).guard G1, fun hg => (D1 hg).move (hal1 _ _) rfl (fun h => by rw [isMC_npure h] at hp1; cases hp1) rfl (.inr (.inl hp1)), by simp, fun _ => ⟨rfl, rfl, fun _ => rfl⟩, L1, ?_⟩⟩
    simp only [setH, delH, seenS, hput]
  · by_cases hp2 : pureOp T o2.op = true
    · have e2 : set2 = [] ∧ sn2 = [] ∧ del2 = [] := by
        cases g2 with
        | true => exact (D2 rfl).pure_set hp2
        | false => exact ⟨(N2 rfl).1, (N2 rfl).2.2 hp2, (N2 rfl).2.1⟩
      obtain ⟨rfl, rfl, rfl⟩ := e2
      refine ⟨_, ⟨g2, v2, [], [], [], hal2.guard G2, fun hg => (D2 hg).move hal2 rfl (fun h => by rw [isMC_npure h] at hp2; cases hp2) rfl (.inr (.inl hp2)), by simp, fun _ => ⟨rfl, rfl, fun _ => rfl⟩, L2, rfl⟩, ⟨g1, v1, set1, sn1, del1, (hal1 _ _).guard G1, fun hg => (D1 hg).move (hal1 _ _) rfl (fun _ _ h => h) rfl (.inl rfl), F1, N1, L1, ?_⟩⟩
      simp only [setH, delH, seenS, hput]
    · have hm : mutF σ.fz o1.op = false ∧ mutF σ.fz o2.op = false := by
        simp only [Bool.or_eq_true, Bool.and_eq_true, Bool.not_eq_true'] at hcl
        rcases hcl with (h | h) | h
        · exact absurd h hp1
        · exact absurd h hp2
        · exact h
      have d1 : del1 = [] := by
        cases g1 with
        | true => exact (D1 rfl).del hm.1
        | false => exact (N1 rfl).2.1
      have d2 : del2 = [] := by
        cases g2 with
        | true => refine Born.del ?_ (D2 rfl); exact hm.2
        | false => exact (N2 rfl).2.1
      subst d1; subst d2
      have f1 := F1 (mut_store (mutF_mut hm.1)) (mutF_mc hm.1)
      have f2 : ∀ x ∈ sn2, seenS σ.seen sn1 x.1 = false := F2 (mut_store (mutF_mut hm.2)) (mutF_mc hm.2)
      have hdis0 : ∀ x ∈ sn1, ∀ y ∈ sn2, x.1 ≠ y.1 := fun x hx y hy => ((seenS_false.1 (f2 y hy)).2 x hx)
      have s1 : ∀ x ∈ set1, x ∈ sn1 := by
        cases g1 with
        | true => exact (D1 rfl).sub
        | false => rw [(N1 rfl).1]; simp
      have s2 : ∀ x ∈ set2, x ∈ sn2 := by
        cases g2 with
        | true => exact (D2 rfl).sub
        | false => rw [(N2 rfl).1]; simp
      have hdis : ∀ x ∈ set1, ∀ y ∈ set2, x.1 ≠ y.1 := fun x hx y hy => hdis0 x (s1 x hx) y (s2 y hy)
      refine ⟨_, ⟨g2, v2, set2, sn2, [], hal2.guard G2, fun hg => (D2 hg).move hal2 rfl (fun h => by rw [mutF_mc hm.2] at h; cases h) rfl (.inr (.inr ⟨hm.2, .inr ⟨hyg, fun id hs => ?_⟩⟩)), fun _ _ x hx => (seenS_false.1 (f2 x hx)).1, fun hg => ⟨(N2 hg).1, rfl, (N2 hg).2.2⟩, L2, rfl⟩,
        ⟨g1, v1, set1, sn1, [], (hal1 _ _).guard G1, fun hg => (D1 hg).move (hal1 _ _) rfl (fun h => by rw [mutF_mc hm.1] at h; cases h) rfl (.inr (.inr ⟨hm.1, .inl fun id b hb => ?_⟩)), fun _ _ x hx => seenS_false.2 ⟨f1 x hx, fun y hy => (hdis0 x hx y hy).symm⟩, fun hg => ⟨(N1 hg).1, rfl, (N1 hg).2.2⟩, L1, ?_⟩⟩
      · show setH σ.heap set1 id = σ.heap id
        exact setH_out fun x hx e => by have := f1 x (s1 x hx); rw [e, hs] at this; cases this
      · show setH σ.heap set2 id = some b
        rw [setH_out]
        · exact hb
        · intro x hx e
          have h0 := (seenS_false.1 (f2 x (s2 x hx))).1
          have hs : σ.seen id = true := hyg.dom id b hb
          rw [e, hs] at h0; cases h0
      · simp only [delH, hput, setH_comm hdis, seenS_comm (f := σ.seen) (s1 := sn1)]
end Go.Ab
