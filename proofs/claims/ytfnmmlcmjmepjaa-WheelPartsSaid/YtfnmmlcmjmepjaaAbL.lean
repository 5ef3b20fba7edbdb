import Derived.Test.YtfnmmlcmjmepjaaAbKm
set_option linter.unusedVariables false
set_option linter.unusedSectionVars false
set_option linter.unusedSimpArgs false
namespace Go.Ab
open Go.RowKit
variable {A : Env}
variable {P : Program} {T : Tab} [OfP A P]
mutual
theorem RelA.up {ι ι' : Emb} {R R' : Nat → Prop} {w : World} {k : Nat} (hι : ∀ i x, ι i = some x → ι' (k + i) = some x) (hR : ∀ g, R g → R' g) :
  ∀ (x : AV) (u : Value), RelA ι R w x u → RelA ι' R' w (x.up k) u
 | .pv p, u, h => by simp only [AV.up, RelA] at h ⊢; exact RelP.mono hR (fun _ _ => rfl) p u h
 | .ptr id off, u, h => by
  simp only [AV.up, RelA] at h ⊢
  obtain ⟨g, c, hi, rfl⟩ := h
  exact ⟨g, c, hι _ _ hi, rfl⟩
 | .pix id off, u, h => by
  simp only [AV.up, RelA] at h ⊢
  obtain ⟨g, c, hi, rfl⟩ := h
  exact ⟨g, c, hι _ _ hi, rfl⟩
 | .row id s off len, u, h => by
  simp only [AV.up, RelA] at h ⊢
  rcases h with ⟨hi, h⟩ | ⟨g, c, a, hi, h⟩
  ·exact .inl ⟨hι _ _ hi, h⟩
  ·exact .inr ⟨g, c, a, hι _ _ hi, h⟩
 | .roat n cell, u, h => by
  simp only [AV.up, RelA] at h ⊢
  obtain ⟨g, o, rfl, hg, h⟩ := h
  exact ⟨g, o, rfl, hR _ hg, fun j hj => by obtain ⟨x, h1, h2, h3⟩ := h j hj; exact ⟨x, h1, h2, RelP.mono hR (fun _ _ => rfl) _ _ h3⟩⟩
 | .agg xs, u, h => by
  simp only [AV.up, RelA] at h ⊢
  obtain ⟨us, rfl, h⟩ := h
  exact ⟨us, rfl, RelL.up hι hR xs _ h⟩
 | .tup xs, u, h => by
  simp only [AV.up, RelA] at h ⊢
  obtain ⟨us, rfl, h⟩ := h
  exact ⟨us, rfl, RelL.up hι hR xs _ h⟩
 | .fn f xs, u, h => by
  simp only [AV.up, RelA] at h ⊢
  obtain ⟨us, rfl, h⟩ := h
  exact ⟨us, rfl, RelL.up hι hR xs _ h⟩
 | .map id, u, h => by
  simp only [AV.up, RelA] at h ⊢
  obtain ⟨g, c, hi, rfl⟩ := h
  exact ⟨g, c, hι _ _ hi, rfl⟩
 | .gd g x, u, h => by
  simp only [AV.up, RelA] at h ⊢
  exact ⟨fun hg => RelA.up hι hR x u (h.1 hg), h.2⟩
 | .junk, u, h => by simp only [AV.up, RelA]
theorem RelL.up {ι ι' : Emb} {R R' : Nat → Prop} {w : World} {k : Nat} (hι : ∀ i x, ι i = some x → ι' (k + i) = some x) (hR : ∀ g, R g → R' g) :
  ∀ (xs : List AV) (us : List Value), RelL ι R w xs us → RelL ι' R' w (AV.upL k xs) us
 | [], us, h => by simp only [AV.upL]; exact relL_nil h
 | x :: xs, u :: us, h => by
  simp only [AV.upL, RelL] at h ⊢
  exact ⟨RelA.up hι hR x u h.1, RelL.up hι hR xs us h.2⟩
 | _ :: _, [], h => by simp [RelL] at h
end
theorem upL_length (k : Nat) : ∀ xs : List AV, (AV.upL k xs).length = xs.length
 | [] => rfl
 | x :: xs => by simp [AV.upL, upL_length k xs]
theorem RelB.up {ι ι' : Emb} {R R' : Nat → Prop} {w : World} {k i : Nat} {b : Blk} (hι : ∀ i x, ι i = some x → ι' (k + i) = some x) (hR : ∀ g, R g → R' g) (h : RelB ι R w i b) : RelB ι' R' w (k + i) (b.up k) := by
 cases b with
 | box cells =>
  obtain ⟨g, c, cur, e, hi, hh, hr, h1⟩ := h
  exact ⟨g, c, cur, e, hι _ _ hi, hh, RelL.up hι hR _ _ hr, h1⟩
 | row e s cells =>
  obtain ⟨n, hl, hs, hn, h⟩ := h
  refine ⟨n, by rw [upL_length]; exact hl, hs, hn, ?_⟩
  rcases h with ⟨hi, h⟩ | ⟨g, cap, base, cur, hi, hh, hz, hc, hcm, hr, h1⟩
  ·exact .inl ⟨hι _ _ hi, h⟩
  ·exact .inr ⟨g, cap, base, cur, hι _ _ hi, hh, hz, hc, hcm, RelL.up hι hR _ _ hr, h1⟩
 | map ks xs =>
  obtain ⟨g, c, es, ck, hi, hh, hk, hr, h1⟩ := h
  exact ⟨g, c, es, ck, hι _ _ hi, hh, hk, RelL.up hι hR _ _ hr, h1⟩
theorem mem_numbered : ∀ {k : Nat} {bs : List Blk} {id : Nat} {b : Blk}, (id, b) ∈ numbered k bs → ∃ i, bs[i]? = some b ∧ id = k + i
 | k, [], id, b, h => by simp [numbered] at h
 | k, c :: bs, id, b, h => by
  simp only [numbered, List.mem_cons, Prod.mk.injEq] at h
  rcases h with ⟨rfl, rfl⟩ | h
  ·exact ⟨0, by simp, rfl⟩
  ·obtain ⟨i, h1, h2⟩ := mem_numbered h
   exact ⟨i + 1, by simpa using h1, by omega⟩
theorem numbered_mem : ∀ {k : Nat} {bs : List Blk} {i : Nat} {b : Blk}, bs[i]? = some b → (k + i, b) ∈ numbered k bs
 | k, [], i, b, h => by simp at h
 | k, c :: bs, 0, b, h => by simp at h; subst h; simp [numbered]
 | k, c :: bs, i + 1, b, h => by
  simp only [numbered, List.mem_cons]
  right
  have := numbered_mem (k := k + 1) (bs := bs) (i := i) (b := b) (by simpa using h)
  rw [show k + (i + 1) = k + 1 + i by omega]
  exact this
theorem Wk.plain {ρ : Nat → Option Nat} {D F : Nat → Prop} {H : Heap} {x y : AV} (h : Wk ρ D F H x y) : Plain x → Wk ρ D F (fun _ => none) x y := by
 induction h with
 | pv p => intro _; exact .pv p
 | roro s n c c' h ih => intro _; exact .roro s n c c' fun i hi j hj => ih i hi j hj trivial
 | roats n n' c c' hn h ih => intro _; exact .roats n n' c c' hn fun j hj => ih j hj trivial
 | nil s c => intro _; exact .nil s c
 | agg0 => intro _; exact .agg0
 | agg x y xs ys h t ih1 ih2 =>
  intro hp
  refine .agg x y xs ys (ih1 ?_) (ih2 ?_)
  ·obtain ⟨p, rfl⟩ := hp x (by simp); trivial
  ·exact fun z hz => hp z (by simp [hz])
 | junk x => intro _; exact .junk x
 | nilrow id s hρ hD => intro _; exact .nilrow id s hρ hD
 | _ => intro hp; exact hp.elim
theorem wkArgs_sound {ι : Emb} {R Rc : Nat → Prop} {w : World} {H : Heap} (hH : ∀ id b, H id = some b → RelB ι R w id b) (hR : ∀ k, R k → Rc k)
  (h3 : ∀ id b g c, H id = some b → ι id = some (some (g, c)) → Rc g) : ∀ {xs ys : List AV} {us : List Value}, WkArgs H xs ys → RelL ι R w xs us → RelL (fun _ => none) Rc w ys us
 | [], [], us, _, h => relL_nil h
 | x :: xs, y :: ys, [], _, h => by simp [RelL] at h
 | x :: xs, y :: ys, u :: us, hw, h => by
  simp only [WkArgs, RelL] at hw h ⊢
  exact ⟨wk_sound hH hR (fun _ _ _ hd => hd.elim) (fun _ hd => hd.elim) (fun id b g c _ hb hi => h3 id b g c hb hi) hw.1 u h.1, wkArgs_sound hH hR h3 hw.2 h.2⟩
 | [], _ :: _, _, hw, _ => hw.elim
 | _ :: _, [], _, hw, _ => hw.elim
theorem wkArgs_plain {H : Heap} : ∀ {xs ys : List AV}, WkArgs H xs ys → (∀ x ∈ xs, Plain x) → WkArgs (fun _ => none) xs ys
 | [], [], _, _ => trivial
 | x :: xs, y :: ys, hw, hp => ⟨hw.1.plain (hp x (by simp)), wkArgs_plain hw.2 fun z hz => hp z (by simp [hz])⟩
 | [], _ :: _, hw, _ => hw.elim
 | _ :: _, [], hw, _ => hw.elim
theorem call_sound {W w : World} {a : Act} {σ : AS} {ι : Emb} {R : Nat → Prop} (h : St.Of A W w a σ ι R) {o : Oper} {K : Act → World → Prop} {Q : Exit → Act → World → Prop}
  (hw : ∀ x ∈ o.op.operands.toList, (σ.ev x).when = true) {f : Operand} {xs : List Operand} (hcall : callOf o.op = some (f, xs))
  {fn : FuncId} {caps args : List AV} {al : Bool} {res : AV} {hb : List Blk} (hf : σ.bev f = .fn fn caps) (hargs : WkArgs σ.heap (xs.map σ.bev ++ caps) args) (hal : al = true → ∀ x ∈ xs.map σ.bev ++ caps, Plain x)
  (hp : PCalls P fn args al res hb) (hl : hb.length ≤ 64)
  (hfr : ∀ x ∈ numbered (fid o.dst 0) (hb.map (Blk.up (fid o.dst 0))), σ.seen x.1 = false) (hd : ∀ d, o.dst = some d → d < σ.n)
  (hK : ∀ a' w', St A W w' a' (σ.after o (res.up (fid o.dst 0)) (numbered (fid o.dst 0) (hb.map (Blk.up (fid o.dst 0)))) []) → K a' w') : o.wp P a w K Q := by
 obtain ⟨hfn, hp⟩ := hp
 obtain ⟨argsA, ts, hop, hxs⟩ : ∃ argsA ts, o.op = .call { callee := .value f, args := argsA, argTypes := ts } ∧ xs = argsA.toList := by
  unfold callOf at hcall
  split at hcall
  ·rename_i f' args' ts' hop
   cases hcall
   exact ⟨_, _, hop, rfl⟩
  ·cases hcall
 have hmem : ∀ x, x ∈ o.op.operands.toList ↔ x = f ∨ x ∈ xs := by
  intro x
  rw [hop, hxs]
  simp [Op.operands, Call.operands]
 have hev : ∀ x ∈ o.op.operands.toList, RelA ι R w (σ.bev x) (a.eval x) := fun x hx => (h.ev x).bare (hw x hx)
 have hfv := hev f ((hmem f).2 (.inl rfl))
 rw [hf] at hfv
 simp only [RelA] at hfv
 obtain ⟨cs, hfe, hcs⟩ := hfv
 have hxr : RelL ι R w (xs.map σ.bev) (xs.map a.eval) := RelL.map xs fun x hx => hev x ((hmem x).2 (.inr hx))
 have hall := hxr.append hcs
 let Rc : Nat → Prop := fun k => R k ∨ (al = false ∧ ∃ id b c, σ.heap id = some b ∧ ι id = some (some (k, c)))
 have hrel : RelL (fun _ => none) Rc w args (xs.map a.eval ++ cs.toList) := by
  cases al with
  | true =>
   exact wkArgs_sound (H := fun _ => none) (fun _ _ e => by cases e) (fun k hk => Or.inl hk) (fun _ _ _ _ e => by cases e) (wkArgs_plain hargs (hal rfl)) hall
  | false => exact wkArgs_sound h.heap (fun k hk => Or.inl hk) (fun id b g c e1 e2 => Or.inr ⟨rfl, id, b, c, e1, e2⟩) hargs hall
 have hlt : ∀ k, Rc k → k < w.heap.size := by
  intro k hk
  rcases hk with hk | ⟨_, id, b, c, e1, e2⟩
  ·exact h.lt k hk
  ·exact (h.heap id b e1).lt e2
 have hrun : (execOp a.eval o).run P w = .ok (.enter fn (xs.map a.eval ++ cs.toList).toArray) w := by
  have e : execOp a.eval o = callFunc fn ((#[] ++ argsA.map a.eval) ++ cs) := by
   simp only [execOp, hop, resolve, hfe, Deferred.ofValue, pure_bind, invoke]
  rw [e, run_callFunc hfn]
  congr 2
  apply Array.ext'
  simp [hxs]
 unfold Oper.wp
 rw [hrun, Oper.upon_enter]
 refine (hp Rc w _ hrel hlt h.gok).mono ?_
 rintro e w' ⟨v, ι'', rfl, hbel, hblk, hres, hnew, hinj, hdom⟩
 simp only
 let base := fid o.dst 0
 let ι' : Emb := fun id => if base ≤ id ∧ id < base + hb.length then ι'' (id - base) else ι id
 let R' : Nat → Prop := fun k => R k ∨ (w.heap.size ≤ k ∧ k < w'.heap.size ∧ ∀ i b c, hb[i]? = some b → ι'' i ≠ some (some (k, c)))
 have hset : ∀ id b, (id, b) ∈ numbered base (hb.map (Blk.up base)) → ∃ i b0, hb[i]? = some b0 ∧ b = b0.up base ∧ id = base + i ∧ i < hb.length := by
  intro id b hm
  obtain ⟨i, h1, h2⟩ := mem_numbered hm
  rw [List.getElem?_map] at h1
  cases hi : hb[i]? with
  | none => simp [hi] at h1
  | some b0 => simp [hi] at h1; exact ⟨i, b0, hi, h1.symm, h2, (List.getElem?_eq_some_iff.1 hi).1⟩
 have hnone : ∀ i, i < hb.length → ι (base + i) = none := by
  intro i hi
  cases e' : ι (base + i) with
  | none => rfl
  | some y =>
   have h1 := h.seen _ y e'
   have h2 := hfr (base + i, hb[i].up base) (numbered_mem (by simp [hi]; rfl))
   rw [h1] at h2; cases h2
 have hι1 : ∀ i x, ι'' i = some x → ι' (base + i) = some x := by
  intro i x hx
  have := hdom i x hx
  show (if base ≤ base + i ∧ base + i < base + hb.length then ι'' (base + i - base) else ι (base + i)) = some x
  rw [if_pos ⟨by omega, by omega⟩, show base + i - base = i by omega]
  exact hx
 have hι2 : ∀ id x, ι id = some x → ι' id = some x := by
  intro id x hx
  show (if base ≤ id ∧ id < base + hb.length then ι'' (id - base) else ι id) = some x
  split
  ·rename_i hc
   have := hnone (id - base) (by omega)
   rw [show base + (id - base) = id by omega, hx] at this
   cases this
  ·exact hx
 have hRR : ∀ g, ((al = true ∧ Rc g) ∨ (w.heap.size ≤ g ∧ g < w'.heap.size ∧ ∀ i b c, hb[i]? = some b → ι'' i ≠ some (some (g, c)))) → R' g := by
  intro g hg
  rcases hg with ⟨rfl, hg⟩ | hg
  ·rcases hg with hg | ⟨hg, _⟩
   ·exact .inl hg
   ·cases hg
  ·exact .inr hg
 have hst : St.Of A W w' a { σ with heap := setH (delH σ.heap []) (numbered base (hb.map (Blk.up base))), seen := seenS σ.seen (numbered base (hb.map (Blk.up base))) } ι' R' := by
  refine h.grow hbel _ hfr hι2 ?_ (fun k hk => .inl hk) (fun k hk => hk.imp id fun hk => ⟨hk.1, hk.2.1⟩) ?_ ?_ ?_
  ·intro id x hx
   have hx' : (if base ≤ id ∧ id < base + hb.length then ι'' (id - base) else ι id) = some x := hx
   split at hx'
   ·rename_i hc
    exact .inr ⟨(base + (id - base), hb[id - base].up base), numbered_mem (by simp [show id - base < hb.length by omega]), by simp; omega⟩
   ·exact .inl hx'
  ·intro id b hm
   obtain ⟨i, b0, h1, rfl, rfl, _⟩ := hset id b hm
   exact RelB.up hι1 hRR (hblk i b0 h1)
  ·intro id b g c hm hi
   obtain ⟨i, b0, h1, rfl, rfl, hil⟩ := hset id b hm
   have hi' : (if base ≤ base + i ∧ base + i < base + hb.length then ι'' (base + i - base) else ι (base + i)) = some (some (g, c)) := hi
   rw [if_pos ⟨by omega, by omega⟩, show base + i - base = i by omega] at hi'
   refine ⟨hnew i b0 g c h1 hi', fun hg => ?_⟩
   rcases hg with hg | ⟨_, _, hg⟩
   ·have := h.lt g hg; have := hnew i b0 g c h1 hi'; omega
   ·exact hg i b0 c h1 hi'
  ·intro id id' b b' g c c' hm hm' hi hj
   obtain ⟨i, b0, h1, rfl, rfl, hil⟩ := hset id b hm
   obtain ⟨j, b1, h2, rfl, rfl, hjl⟩ := hset id' b' hm'
   have hi' : (if base ≤ base + i ∧ base + i < base + hb.length then ι'' (base + i - base) else ι (base + i)) = some (some (g, c)) := hi
   rw [if_pos ⟨by omega, by omega⟩, show base + i - base = i by omega] at hi'
   have hj' : (if base ≤ base + j ∧ base + j < base + hb.length then ι'' (base + j - base) else ι (base + j)) = some (some (g, c')) := hj
   rw [if_pos ⟨by omega, by omega⟩, show base + j - base = j by omega] at hj'
   rw [hinj i j b0 b1 g c c' h1 h2 hi' hj']
 exact hK _ _ ⟨ι', R', hst.put (dst := o.dst) hd ((RelA.up hι1 hRR _ _ hres).guarded o.guard.isNone)⟩
theorem pick_sound {W w : World} {a : Act} {σ : AS} {ι : Emb} {R : Nat → Prop} (h : St.Of A W w a σ ι R) {c x y : Operand} {t : Bool} (hcw : (σ.ev c).when = true) (hc : (σ.ev c).bare = .bool t) (hok : (pickAV (σ.ev c).bare (σ.ev x) (σ.ev y)).1) :
  ∃ u, (do pure (.value (if ← asBool (a.eval c) then a.eval x else a.eval y)) : Sem Next).run P w = .ok (.value u) w ∧ RelA ι R w (pickAV (σ.ev c).bare (σ.ev x) (σ.ev y)).2 u := by
 have hcv := (h.ev c).bare hcw
 rw [hc] at hcv
 have hce := raw_inv hcv
 refine ⟨if t then a.eval x else a.eval y, by rw [hce]; simp [asBool], ?_⟩
 have hx := h.ev x
 have hy := h.ev y
 rw [hc] at hok ⊢
 unfold pickAV at hok ⊢
 split at hok
 ·rename_i t' p q h1 h2 h3
  cases h1
  rw [h2] at hx; rw [h3] at hy
  rw [raw_inv hx, raw_inv hy]
  simp only [RelA, RelP]
  cases t <;> rfl
 ·rename_i t' p q r h1 h2 h3
  cases h1
  rw [h2] at hx; rw [h3] at hy
  rw [raw_inv hy]
  simp only [RelA, RelP] at hx ⊢
  cases t
  ·rfl
  ·exact hx.1 (hok rfl)
 ·rename_i t' p q r h1 h2 h3
  cases h1
  rw [h2] at hx; rw [h3] at hy
  rw [raw_inv hx]
  simp only [RelA, RelP] at hy ⊢
  cases t
  ·exact hy.1 (hok rfl)
  ·rfl
 ·rename_i t' p q r s h1 h2 h3
  cases h1
  rw [h2] at hx; rw [h3] at hy
  simp only [RelA, RelP] at hx hy ⊢
  cases t
  ·exact hy.1 (hok.2 rfl)
  ·exact hx.1 (hok.1 rfl)
 ·exact hok.elim
theorem guard_sound {W w : World} {a : Act} {σ : AS} {ι : Emb} {R : Nat → Prop} (h : St.Of A W w a σ ι R) {ops : Array Oper} {o : Oper} {g : Bool} (hg : GRel σ ops o g) : Region.wanted o (yielded ops a.tmps) = g := by
 unfold GRel at hg
 unfold Region.wanted
 split at hg
 ·rename_i hn; rw [hn]; exact hg.symm
 ·rename_i j want hj
  rw [hj]
  simp only
  split at hg
  ·exact hg.elim
  ·rename_i d hd
   have hs := h.slots d
   have hy : ∀ u, a.tmps.getD d undef = u → yielded ops a.tmps j = (match u with | .bool b => some b | _ => none) := by
    intro u hu
    unfold yielded
    rw [hd]
    simp only [Option.bind_some]
    cases hq : a.tmps[d]? with
    | none =>
     have : u = undef := by rw [← hu]; simp [Array.getD_eq_getD_getElem?, hq]
     rw [this]; rfl
    | some v =>
     have : u = v := by rw [← hu]; simp [Array.getD_eq_getD_getElem?, hq]
     rw [this]
     cases v <;> rfl
   split at hg
   ·rename_i b hsl
    rw [hsl] at hs
    rw [hy _ (raw_inv hs), hg]
    cases b <;> cases want <;> rfl
   ·rename_i p b hsl
    rw [hsl] at hs
    simp only [RelA, RelP] at hs
    cases p with
    | true => rw [hy _ (hs.1 rfl), hg]; cases b <;> cases want <;> rfl
    | false => rw [hy _ (hs.2 rfl), hg]; cases want <;> rfl
   ·exact hg.elim
theorem setH_out {H : Heap} : ∀ {set : List (Nat × Blk)} {id : Nat}, (∀ x ∈ set, x.1 ≠ id) → setH H set id = H id
 | [], id, _ => rfl
 | (k, b) :: r, id, h => by
  rw [setH, setH_out fun x hx => h x (by simp [hx])]
  simp only [upd]
  rw [if_neg (fun e => h (k, b) (by simp) e.symm)]
theorem setH_in {H H' : Heap} : ∀ {set : List (Nat × Blk)} {id : Nat}, (∃ x ∈ set, x.1 = id) → setH H set id = setH H' set id
 | [], id, h => by obtain ⟨x, hx, _⟩ := h; simp at hx
 | (k, b) :: r, id, h => by
  simp only [setH]
  by_cases hr : ∃ x ∈ r, x.1 = id
  ·exact setH_in hr
  ·have hr' : ∀ x ∈ r, x.1 ≠ id := fun x hx e => hr ⟨x, hx, e⟩
   rw [setH_out hr', setH_out hr']
   obtain ⟨x, hx, rfl⟩ := h
   rcases List.mem_cons.1 hx with rfl | hx
   ·simp [upd]
   ·exact absurd rfl (hr' x hx)
theorem seenS_up {f : Nat → Bool} : ∀ {set : List (Nat × Blk)} {id : Nat}, f id = true → seenS f set id = true
 | [], _, h => h
 | (k, b) :: r, id, h => by
  rw [seenS]
  refine seenS_up ?_
  simp only [upd]
  split
  ·rfl
  ·exact h
theorem delH_sub {H : Heap} : ∀ {del : List Nat} {id : Nat} {b : Blk}, delH H del id = some b → H id = some b
 | [], id, b, h => h
 | k :: r, id, b, h => by
  have := delH_sub (del := r) h
  simp only [upd] at this
  split at this
  ·cases this
  ·exact this
theorem St.freeze {W w : World} {a : Act} {σ : AS} {o : Oper} {v0 v : AV} {set : List (Nat × Blk)} {del : List Nat} (hdom : ∀ id b, σ.heap id = some b → σ.seen id = true)
  (hfr : ∀ x ∈ set, σ.seen x.1 = false) (hw : Wk (fun _ => none) (fun _ => False) (fun _ => True) (setH (fun _ => none) set) v0 v) (h : St A W w a (σ.after o v0 set del)) :
  St A W w a { σ with slots := putS σ.slots o.dst (if o.guard.isNone then v else .gd true v), heap := setH (delH σ.heap del) [], seen := seenS σ.seen set } := by
 obtain ⟨ι, R, h⟩ := h
 have hin : ∀ id b, setH (fun _ => none) set id = some b → (∃ x ∈ set, x.1 = id) ∧ setH (delH σ.heap del) set id = some b := by
  intro id b hb
  by_cases hx : ∃ x ∈ set, x.1 = id
  ·exact ⟨hx, by rw [setH_in (H' := fun _ => none) hx]; exact hb⟩
  ·rw [setH_out (fun x hm e => hx ⟨x, hm, e⟩)] at hb; cases hb
 have hold : ∀ id b, delH σ.heap del id = some b → setH (delH σ.heap del) set id = some b := by
  intro id b hb
  rw [setH_out]
  ·exact hb
  ·intro x hx e
   have h1 := hfr x hx
   rw [e, hdom id b (delH_sub hb)] at h1
   cases h1
 let R' : Nat → Prop := fun k => R k ∨ ∃ id b c, setH (fun _ => none) set id = some b ∧ ι id = some (some (k, c))
 have hRR : ∀ k, R k → R' k := fun k hk => .inl hk
 have hv : ∀ u, RelA ι R w v0 u → RelA ι R' w v u := fun u hu =>
  wk_sound (ι2 := ι) (R2 := R') (fun id b hb => h.heap id b (hin id b hb).2) hRR (fun _ _ _ hd => hd.elim) (fun _ hd => hd.elim) (fun id b g c _ hb hi => .inr ⟨id, b, c, hb, hi⟩) hw u hu
 refine ⟨ι, R', h.below, h.size, h.defers, h.seen, fun t => ?_, fun id b hb => ?_, fun id id' b b' g c c' hb hb' => ?_, fun id b g c hb => ?_, fun k hk => ?_, fun id b g c hb hi hk => ?_, fun k hk hkW => ?_, h.pin, h.glob⟩
 ·have ht := h.slots t
  simp only [AS.after] at ht
  show RelA ι R' w (putS σ.slots o.dst (if o.guard.isNone then v else .gd true v) t) _
  cases hd : o.dst with
  | none => rw [hd] at ht; exact RelA.mono (fun _ _ e => e) hRR (fun _ _ => rfl) _ _ ht
  | some d =>
   rw [hd] at ht
   simp only [putS, upd] at ht ⊢
   by_cases htd : t = d
   ·rw [if_pos htd] at ht ⊢
    cases hg : o.guard.isNone with
    | true => rw [hg] at ht; exact hv _ ht
    | false =>
     rw [hg] at ht
     simp only [Bool.false_eq_true, if_false, RelA] at ht ⊢
     exact ⟨fun _ => hv _ (ht.1 trivial), fun e => by first | cases e | trivial | exact absurd trivial e⟩
   ·rw [if_neg htd] at ht ⊢
    exact RelA.mono (fun _ _ e => e) hRR (fun _ _ => rfl) _ _ ht
 ·exact (h.heap id b (hold id b hb)).mono (fun _ _ e => e) hRR (fun _ _ => rfl) (fun _ _ _ => rfl)
 ·exact h.inj id id' b b' g c c' (hold id b hb) (hold id' b' hb')
 ·exact h.new id b g c (hold id b hb)
 ·rcases hk with hk | ⟨id, b, c, hb, hi⟩
  ·exact h.lt k hk
  ·exact (h.heap id b (hin id b hb).2).lt hi
 ·rcases hk with hk | ⟨id', b', c', hb', hi'⟩
  ·exact h.out id b g c (hold id b hb) hi hk
  ·have e := h.inj id id' b b' g c c' (hold id b hb) (hin id' b' hb').2 hi hi'
   obtain ⟨⟨x, hx, hxe⟩, _⟩ := hin id' b' hb'
   have h1 := hfr x hx
   rw [hxe, ← e, hdom id b (delH_sub hb)] at h1
   cases h1
 ·rcases hk with hk | ⟨id', b', c', hb', hi'⟩
  ·exact h.arg k hk hkW
  ·rcases h.new id' b' k c' (hin id' b' hb').2 hi' with h' | h'
   ·omega
   ·exact .inr h'
theorem step_sound (hT : TabOk P T) {W w : World} {a : Act} {σ σ' : AS} (h : St A W w a σ) {ops : Array Oper} {i : Nat} {o : Oper} (ho : ops[i]? = some o) (hs : AStep P T ops o σ σ')
  {K : Act → World → Prop} {Q : Exit → Act → World → Prop} (hK : ∀ a' w', St A W w' a' σ' → K a' w') : wpOp P ops Q i K a w := by
 obtain ⟨ι, R, h⟩ := h
 obtain ⟨g, v, set, set0, del, hg, h1, hfr, h2, hd, rfl⟩ := hs
 unfold wpOp
 rw [ho]
 simp only
 have hwt := guard_sound h hg
 rw [hwt]
 cases g with
 | false =>
  obtain ⟨rfl, rfl, _⟩ := h2 rfl
  simp only [Bool.false_eq_true, if_false]
  refine hK _ _ ⟨ι, R, ?_⟩
  have hgn : o.guard.isNone = false := by
   cases hq : o.guard with
   | none => unfold GRel at hg; rw [hq] at hg; cases hg
   | some _ => rfl
  have h' : St.Of A W w a { σ with heap := setH (delH σ.heap []) [], seen := seenS σ.seen set0 } ι R :=
   ⟨h.below, h.size, h.defers, fun id x hx => seenS_up (h.seen id x hx), h.slots, h.heap, h.inj, h.new, h.lt, h.out, h.arg, h.pin, h.glob⟩
  refine h'.put (dst := o.dst) hd ?_
  rw [hgn]
  show RelA ι R w (.gd false v) undef
  simp only [RelA]
  exact ⟨fun h => (by cases h), fun _ => trivial⟩
 | true =>
  simp only [if_true]
  refine .inl ?_
  obtain ⟨v0, hdo, hv⟩ := h1 rfl
  have hK : ∀ a' w', St A W w' a' (σ.after o v0 set0 del) → K a' w' := by
   rcases hv with ⟨rfl, rfl⟩ | ⟨hns, hnm, rfl, hwk⟩
   ·exact hK
   ·refine fun a' w' hst => hK a' w' (hst.freeze (fun id b hb => ?_) (hfr hns hnm) hwk)
    have hbr := h.heap id b hb
    cases b with
    | box cells => obtain ⟨g, k, cur, e, hi, _⟩ := hbr; exact h.seen _ _ hi
    | row e s cells =>
     obtain ⟨n, _, _, _, hbr⟩ := hbr
     rcases hbr with ⟨hi, _⟩ | ⟨g, cap, base0, cur, hi, _⟩ <;> exact h.seen _ _ hi
    | map ks xs => obtain ⟨g, c, es, ck, hi, _⟩ := hbr; exact h.seen _ _ hi
  clear hv
  unfold Does at hdo
  split at hdo
  ·rename_i c x y hop
   obtain ⟨⟨hcw, t, hc⟩, hok, rfl, rfl, rfl⟩ := hdo
   obtain ⟨u, hrun, hr⟩ := pick_sound (P := P) h hcw hc hok
   exact wp_value hd hK (by simp only [execOp, hop]; exact hrun) (by exact h) hr
  ·obtain ⟨hw, hdo⟩ := hdo
   split at hdo
   ·rename_i f xs hcall
    have hns : isStore o.op = false := by
     unfold callOf at hcall
     split at hcall
     ·rename_i hop; rw [hop]; rfl
     ·cases hcall
    split at hdo
    ·rename_i hmc
     obtain ⟨fn, caps, args, al, res, hb, hf, hargs, hal, hp, hl, rfl, rfl, rfl⟩ := hdo
     exact call_sound h hw hcall hf hargs hal hp hl (hfr hns hmc) hd hK
    ·obtain ⟨fn, caps, args, hin, nk, al, res, hout, ρ, F, hf, hargs, hsub, hal, hkept, hnk, hnk', hbk, hp, hf2, rfl, rfl, rfl⟩ := hdo
     exact mcall_sound h hw hcall hf hargs hsub hal hkept hnk hnk' hp hf2 hd hK
   ·obtain ⟨hok, rfl, rfl, rfl⟩ := hdo
    exact exec_sound hT h hw hok (fun hs => hfr hs (isMC_none (by assumption))) hd hK
end Go.Ab

