import Derived.Test.YtfnmmlcmjmepjaaAbG
set_option linter.unusedVariables false
set_option linter.unusedSectionVars false
set_option linter.unusedSimpArgs false
namespace Go.Ab
open Go.RowKit
variable {A : Env}
theorem relL_nil {ι ι2 : Emb} {R R2 : Nat → Prop} {w w2 : World} {us : List Value} (h : RelL ι R w [] us) : RelL ι2 R2 w2 [] us := by
 cases us with
 | nil => simp [RelL]
 | cons u us => simp [RelL] at h
theorem wk_sound {ι ι2 : Emb} {R R2 : Nat → Prop} {w : World} {ρ : Nat → Option Nat} {D F : Nat → Prop} {H : Heap}
  (hH : ∀ id b, H id = some b → RelB ι R w id b) (hR : ∀ k, R k → R2 k)
  (h1 : ∀ id id' x, D id → ρ id = some id' → ι id' = some x → ι2 id = some x) (h2 : ∀ id, D id → ρ id = none → ι2 id = some none)
  (h3 : ∀ id b g c, F id → H id = some b → ι id = some (some (g, c)) → R2 g) {x y : AV} (hw : Wk ρ D F H x y) : ∀ u, RelA ι R w x u → RelA ι2 R2 w y u := by
 induction hw with
 | pv p =>
  intro u h
  simp only [RelA] at h ⊢
  exact RelP.mono hR (fun _ _ => rfl) p u h
 | roro s n c c' h ih =>
  intro u hu
  simp only [RelA, RelP] at hu ⊢
  obtain ⟨a, cap, rfl, hc, hn, hu⟩ := hu
  refine ⟨a, cap, rfl, hc, hn, fun h0 => ?_⟩
  obtain ⟨g, o, rfl, hg, hu⟩ := hu h0
  refine ⟨g, o, rfl, hR _ hg, fun i hi j hj => ?_⟩
  obtain ⟨x, hx, ho, hr⟩ := hu i hi j hj
  have := ih i hi j hj x (by simp only [RelA]; exact hr)
  simp only [RelA] at this
  exact ⟨x, hx, ho, this⟩
 | nil s c =>
  intro u hu
  obtain rfl := raw_inv hu
  simp only [RelA, RelP]
  exact ⟨none, 0, rfl, Nat.le_refl _, by omega, fun h => by omega⟩
 | row id e s off len cells c x hF hHi hx h ih =>
  intro u hu
  simp only [RelA, RelP] at hu ⊢
  rcases hu with ⟨_, _, rfl, rfl⟩ | ⟨g, cp, a, hi, rfl, hl, hl0⟩
  ·exact ⟨none, 0, rfl, Nat.le_refl _, by omega, fun h => by omega⟩
  ·have hb := hH id _ hHi
   obtain ⟨n, hcl, hs, hn, hb⟩ := hb
   by_cases hz : len = 0
   ·subst hz
    exact ⟨a, _, rfl, by omega, by omega, fun h => by omega⟩
   ·rcases hb with ⟨hin, _⟩ | ⟨g', cap', base', cur, hi', hh, hsz, hnc, hcm, hr, hone⟩
    ·rw [hi] at hin; cases hin
    rw [hi] at hi'
    obtain ⟨rfl, rfl⟩ : g = g' ∧ cp = ⟨cap', base'⟩ := by simpa using hi'
    have hl : off + len ≤ cap' := hl
    have hlast := hx (len - 1) (by omega) 0 hs
    have hlt : (off + (len - 1)) * s + 0 < cells.length := (List.getElem?_eq_some_iff.1 hlast).1
    rw [hcl] at hlt
    have hlt' : off + (len - 1) < n := Nat.lt_of_mul_lt_mul_right (a := s) (by omega)
    refine ⟨a, _, rfl, by omega, by omega, fun hp => ?_⟩
    obtain rfl := hl0 (by show off < cap'; omega)
    refine ⟨g, off * s + base', rfl, h3 id _ g _ hF hHi hi, fun i hi2 j hj => ?_⟩
    obtain ⟨v, hv, hrel⟩ := hr.get _ _ (hx i hi2 j hj)
    have hcell : w.cell? ⟨g, off * s + base' + i * s + j, none⟩ = some v := by
     rw [List.getElem?_take] at hv
     split at hv
     ·rw [List.getElem?_drop] at hv
      have hv' : cur[base' + ((off + i) * s + j)]? = some v := by simpa using hv
      simp only [World.cell?, hh]
      rw [show off * s + base' + i * s + j = base' + ((off + i) * s + j) by rw [Nat.add_mul]; omega]
      simp [hv']
     ·cases hv
    have := ih i hi2 j hj v hrel
    simp only [RelA] at this
    exact ⟨v, hcell, hone v (List.mem_of_getElem? hv), this⟩
 | ptr id id' off hρ hD =>
  intro u hu
  simp only [RelA] at hu ⊢
  obtain ⟨g, c, hi, rfl⟩ := hu
  exact ⟨g, c, h1 id id' _ hD hρ hi, rfl⟩
 | pixs id id' off hρ hD =>
  intro u hu
  simp only [RelA] at hu ⊢
  obtain ⟨g, c, hi, rfl⟩ := hu
  exact ⟨g, c, h1 id id' _ hD hρ hi, rfl⟩
 | rows id id' s off len hρ hD =>
  intro u hu
  simp only [RelA] at hu ⊢
  rcases hu with ⟨hi, hu⟩ | ⟨g, c, a, hi, hu⟩
  ·exact .inl ⟨h1 id id' _ hD hρ hi, hu⟩
  ·exact .inr ⟨g, c, a, h1 id id' _ hD hρ hi, hu⟩
 | nilrow id s hρ hD =>
  intro u hu
  obtain rfl := raw_inv hu
  simp only [RelA]
  exact .inl ⟨h2 id hD hρ, by simp, by simp, by simp⟩
 | ptro id off n b cell x hF hHi hx h ih =>
  intro u hu
  simp only [RelA] at hu ⊢
  obtain ⟨g, c, hi, rfl⟩ := hu
  refine ⟨g, off + c.base, rfl, h3 id b g c hF hHi hi, fun j hj => ?_⟩
  have hbc := hx j hj
  obtain ⟨g', c', hi', us, hr, hone, hc⟩ := (hH id b hHi).cells (by intro h0; rw [h0] at hbc; simp at hbc)
  rw [hi] at hi'
  obtain ⟨rfl, rfl⟩ : g = g' ∧ c = c' := by simpa using hi'
  obtain ⟨v, hv, hrel⟩ := hr.get _ _ hbc
  have := ih j hj v hrel
  simp only [RelA] at this
  exact ⟨v, by rw [Nat.add_right_comm]; exact hc _ _ hv, hone v (List.mem_of_getElem? hv), this⟩
 | roats n n' c c' hn h ih =>
  intro u hu
  simp only [RelA] at hu ⊢
  obtain ⟨g, o, rfl, hg, hu⟩ := hu
  refine ⟨g, o, rfl, hR _ hg, fun j hj => ?_⟩
  obtain ⟨x, hx, h1', hr⟩ := hu j (by omega)
  have := ih j hj x (by simp only [RelA]; exact hr)
  simp only [RelA] at this
  exact ⟨x, hx, h1', this⟩
 | agg0 =>
  intro u hu
  simp only [RelA] at hu ⊢
  obtain ⟨us, rfl, hu⟩ := hu
  exact ⟨us, rfl, relL_nil hu⟩
 | agg x y xs ys h t ih1 ih2 =>
  intro u hu
  simp only [RelA] at hu ⊢
  obtain ⟨us, rfl, hu⟩ := hu
  refine ⟨us, rfl, ?_⟩
  cases hus : us.toList with
  | nil => rw [hus] at hu; simp [RelL] at hu
  | cons v vs =>
   rw [hus] at hu
   simp only [RelL] at hu ⊢
   refine ⟨ih1 v hu.1, ?_⟩
   have := ih2 (.agg vs.toArray) (by simp only [RelA]; exact ⟨_, rfl, hu.2⟩)
   simp only [RelA] at this
   obtain ⟨us', he, hr⟩ := this
   cases he
   exact hr
 | tup0 =>
  intro u hu
  simp only [RelA] at hu ⊢
  obtain ⟨us, rfl, hu⟩ := hu
  exact ⟨us, rfl, relL_nil hu⟩
 | tup x y xs ys h t ih1 ih2 =>
  intro u hu
  simp only [RelA] at hu ⊢
  obtain ⟨us, rfl, hu⟩ := hu
  refine ⟨us, rfl, ?_⟩
  cases hus : us.toList with
  | nil => rw [hus] at hu; simp [RelL] at hu
  | cons v vs =>
   rw [hus] at hu
   simp only [RelL] at hu ⊢
   refine ⟨ih1 v hu.1, ?_⟩
   have := ih2 (.tuple vs.toArray) (by simp only [RelA]; exact ⟨_, rfl, hu.2⟩)
   simp only [RelA] at this
   obtain ⟨us', he, hr⟩ := this
   cases he
   exact hr
 | fn0 f =>
  intro u hu
  simp only [RelA] at hu ⊢
  obtain ⟨us, rfl, hu⟩ := hu
  exact ⟨us, rfl, relL_nil hu⟩
 | fn f x y xs ys h t ih1 ih2 =>
  intro u hu
  simp only [RelA] at hu ⊢
  obtain ⟨us, rfl, hu⟩ := hu
  refine ⟨us, rfl, ?_⟩
  cases hus : us.toList with
  | nil => rw [hus] at hu; simp [RelL] at hu
  | cons v vs =>
   rw [hus] at hu
   simp only [RelL] at hu ⊢
   refine ⟨ih1 v hu.1, ?_⟩
   have := ih2 (.func (.func f) #[] vs.toArray) (by simp only [RelA]; exact ⟨_, rfl, hu.2⟩)
   simp only [RelA] at this
   obtain ⟨us', he, hr⟩ := this
   cases he
   exact hr
 | maps id id' hρ hD =>
  intro u hu
  simp only [RelA] at hu ⊢
  obtain ⟨g, c, hi, rfl⟩ := hu
  exact ⟨g, c, h1 id id' _ hD hρ hi, rfl⟩
 | junk x => intro u _; simp only [RelA]
theorem St.Of.ev {W w : World} {a : Act} {σ : AS} {ι : Emb} {R : Nat → Prop} (h : St.Of A W w a σ ι R) (x : Operand) : RelA ι R w (σ.ev x) (a.eval x) := by
 cases x with
 | tmp t => exact h.slots t
 | const v => simp only [AS.ev, Act.eval, RelA, RelP]
 | global g => simp only [AS.ev, Act.eval, RelA, RelP]
 | func f => simp only [AS.ev, Act.eval, RelA]; exact ⟨#[], rfl, by simp [RelL]⟩
theorem RelA.bare {ι : Emb} {R : Nat → Prop} {w : World} {x : AV} {u : Value} (h : RelA ι R w x u) (hw : x.when = true) : RelA ι R w x.bare u := by
 cases x <;> first
  | exact h
  | (simp only [AV.when] at hw; subst hw; simp only [RelA] at h; exact h.1 trivial)
theorem St.Of.put {W w : World} {a : Act} {σ : AS} {ι : Emb} {R : Nat → Prop} (h : St.Of A W w a σ ι R) {dst : Option Nat} {v : AV} {u : Value} (hd : ∀ d, dst = some d → d < σ.n) (hr : RelA ι R w v u) :
  St.Of A W w (a.put dst u) { σ with slots := putS σ.slots dst v } ι R := by
 cases dst with
 | none => exact h
 | some d =>
  refine { h with size := by simp [Act.put, h.size], defers := h.defers, slots := fun t => ?_ }
  have hlt : d < a.tmps.size := by rw [h.size]; exact hd d rfl
  by_cases ht : t = d
  ·subst ht
   simp only [Act.put, putS, upd, if_true]
   simp [Array.getD_eq_getD_getElem?, Array.getElem?_setIfInBounds, hlt]
   exact hr
  ·simp only [Act.put, putS, upd, if_neg ht]
   have := h.slots t
   simp only [Array.getD_eq_getD_getElem?, Array.getElem?_setIfInBounds] at this ⊢
   rw [if_neg (fun e => ht e.symm)]
   exact this
theorem setH_some {H : Heap} : ∀ {set : List (Nat × Blk)} {id : Nat} {b : Blk}, setH H set id = some b → (id, b) ∈ set ∨ (H id = some b ∧ ∀ x ∈ set, x.1 ≠ id)
 | [], id, b, h => .inr ⟨h, by simp⟩
 | (k, c) :: r, id, b, h => by
  rcases setH_some (set := r) h with h | ⟨h, hn⟩
  ·exact .inl (by simp [h])
  ·simp only [upd] at h
   split at h
   ·rename_i he
    have h' := h
    subst he
    have := Option.some.inj h'
    subst this
    exact .inl (by simp)
   ·rename_i he
    exact .inr ⟨h, by intro x hx; rcases List.mem_cons.1 hx with rfl | hx; exact fun e => he e.symm; exact hn x hx⟩
theorem seenS_true {f : Nat → Bool} : ∀ {set : List (Nat × Blk)} {id : Nat}, (f id = true ∨ ∃ x ∈ set, x.1 = id) → seenS f set id = true
 | [], id, h => by rcases h with h | ⟨x, hx, _⟩; exact h; simp at hx
 | (k, c) :: r, id, h => by
  rw [seenS]
  refine seenS_true ?_
  rcases h with h | ⟨x, hx, rfl⟩
  ·left; simp only [upd]; split <;> simp [h]
  ·rcases List.mem_cons.1 hx with rfl | hx
   ·left; simp [upd]
   ·exact .inr ⟨x, hx, rfl⟩
theorem RelB.mono {ι ι' : Emb} {R R' : Nat → Prop} {w w' : World} {id : Nat} {b : Blk} (h : RelB ι R w id b) (hι : ∀ id x, ι id = some x → ι' id = some x) (hR : ∀ k, R k → R' k) (hw : ∀ k, R k → w'.heap[k]? = w.heap[k]?)
  (hg : ∀ g c, ι id = some (some (g, c)) → w'.heap[g]? = w.heap[g]?) : RelB ι' R' w' id b := by
 cases b with
 | box cells =>
  obtain ⟨g, c, cur, e, hi, hh, hr, h1⟩ := h
  exact ⟨g, c, cur, e, hι _ _ hi, (hg g _ hi).trans hh, RelL.mono hι hR hw _ _ hr, h1⟩
 | row e s cells =>
  obtain ⟨n, hl, hs, hn, h⟩ := h
  refine ⟨n, hl, hs, hn, ?_⟩
  rcases h with ⟨hi, h⟩ | ⟨g, cap, base, cur, hi, hh, hz, hc, hcm, hr, h1⟩
  ·exact .inl ⟨hι _ _ hi, h⟩
  ·exact .inr ⟨g, cap, base, cur, hι _ _ hi, (hg g _ hi).trans hh, hz, hc, hcm, RelL.mono hι hR hw _ _ hr, h1⟩
 | map ks xs =>
  obtain ⟨g, c, es, ck, hi, hh, hk, hr, h1⟩ := h
  exact ⟨g, c, es, ck, hι _ _ hi, (hg g _ hi).trans hh, hk, RelL.mono hι hR hw _ _ hr, h1⟩
theorem RelB.lt {ι : Emb} {R : Nat → Prop} {w : World} {id : Nat} {b : Blk} (h : RelB ι R w id b) {g : Nat} {c : Cp} (hi : ι id = some (some (g, c))) : g < w.heap.size := by
 have key : ∀ o, w.heap[g]? = some o → g < w.heap.size := fun o ho => (Array.getElem?_eq_some_iff.1 ho).1
 cases b with
 | box cells =>
  obtain ⟨g', c', cur, e, hi', hh, _⟩ := h
  rw [hi] at hi'
  obtain ⟨rfl, rfl⟩ : g = g' ∧ c = ⟨c', 0⟩ := by simpa using hi'
  exact key _ hh
 | row e s cells =>
  obtain ⟨n, hl, hs, hn, h⟩ := h
  rcases h with ⟨hin, _⟩ | ⟨g', cap, base, cur, hi', hh, _⟩
  ·rw [hi] at hin; cases hin
  ·rw [hi] at hi'
   obtain ⟨rfl, rfl⟩ : g = g' ∧ c = ⟨cap, base⟩ := by simpa using hi'
   exact key _ hh
 | map ks xs =>
  obtain ⟨g', c', es, ck, hi', hh, _⟩ := h
  rw [hi] at hi'
  obtain ⟨rfl, rfl⟩ : g = g' ∧ c = c' := by simpa using hi'
  exact key _ hh
theorem St.Of.grow {W w w' : World} {a : Act} {σ : AS} {ι ι' : Emb} {R R' : Nat → Prop} (h : St.Of A W w a σ ι R) (hb : Below w.heap.size w w') (set : List (Nat × Blk))
  (hfresh : ∀ x ∈ set, σ.seen x.1 = false)
  (hι : ∀ id x, ι id = some x → ι' id = some x) (hι' : ∀ id x, ι' id = some x → ι id = some x ∨ ∃ y ∈ set, y.1 = id)
  (hR : ∀ k, R k → R' k) (hR' : ∀ k, R' k → R k ∨ (w.heap.size ≤ k ∧ k < w'.heap.size))
  (hset : ∀ id b, (id, b) ∈ set → RelB ι' R' w' id b)
  (hnew : ∀ id b g c, (id, b) ∈ set → ι' id = some (some (g, c)) → w.heap.size ≤ g ∧ ¬ R' g)
  (hinj : ∀ id id' b b' g c c', (id, b) ∈ set → (id', b') ∈ set → ι' id = some (some (g, c)) → ι' id' = some (some (g, c')) → id = id') :
  St.Of A W w' a { σ with heap := setH σ.heap set, seen := seenS σ.seen set } ι' R' := by
 have hold : ∀ k, R k → w'.heap[k]? = w.heap[k]? := fun k hk => hb.block k (h.lt k hk)
 have hsame : ∀ id b, σ.heap id = some b → ∀ g c, ι id = some (some (g, c)) → w'.heap[g]? = w.heap[g]? := fun id b hbk g c hi => hb.block g ((h.heap id b hbk).lt hi)
 have hun : ∀ id b, σ.heap id = some b → ∀ g c, ι' id = some (some (g, c)) → (∀ x ∈ set, x.1 ≠ id) → ι id = some (some (g, c)) := by
  intro id b hbk g c hi hne
  rcases hι' id _ hi with h' | ⟨y, hy, he⟩
  ·exact h'
  ·exact absurd he (hne y hy)
 have hWw : W.heap.size ≤ w.heap.size := h.below.size
 refine ⟨h.below.trans (.of (hb.mono hWw)), h.size, h.defers, ?_, fun t => RelA.mono hι hR hold _ _ (h.slots t), ?_, ?_, ?_, ?_, ?_, fun k hk hkW => (hR' k hk).elim (fun hk' => h.arg k hk' hkW) (fun hk' => by omega), fun i x hi hx => hι _ _ (h.pin i x hi hx), h.glob⟩
 ·intro id x hx
  refine seenS_true ?_
  rcases hι' id x hx with h' | h'
  ·exact .inl (h.seen id x h')
  ·exact .inr h'
 ·intro id b hbk
  rcases setH_some hbk with h' | ⟨h', hne⟩
  ·exact hset id b h'
  ·exact (h.heap id b h').mono hι hR hold (hsame id b h')
 ·intro id id' b b' g c c' h1 h2 h3 h4
  rcases setH_some h1 with h1' | ⟨h1', n1⟩ <;> rcases setH_some h2 with h2' | ⟨h2', n2⟩
  ·exact hinj id id' b b' g c c' h1' h2' h3 h4
  ·have e := hun id' b' h2' g c' h4 n2
   have := (h.heap id' b' h2').lt e
   have := (hnew id b g c h1' h3).1
   omega
  ·have e := hun id b h1' g c h3 n1
   have := (h.heap id b h1').lt e
   have := (hnew id' b' g c' h2' h4).1
   omega
  ·exact h.inj id id' b b' g c c' h1' h2' (hun id b h1' g c h3 n1) (hun id' b' h2' g c' h4 n2)
 ·intro id b g c h1 h3
  rcases setH_some h1 with h1' | ⟨h1', n1⟩
  ·have := (hnew id b g c h1' h3).1; exact .inl (by omega)
  ·exact h.new id b g c h1' (hun id b h1' g c h3 n1)
 ·intro k hk
  rcases hR' k hk with h' | h'
  ·have := h.lt k h'; have := hb.size; omega
  ·exact h'.2
 ·intro id b g c h1 h3 hr
  rcases setH_some h1 with h1' | ⟨h1', n1⟩
  ·exact (hnew id b g c h1' h3).2 hr
  ·have e := hun id b h1' g c h3 n1
   rcases hR' g hr with h' | h'
   ·exact h.out id b g c h1' e h'
   ·have := (h.heap id b h1').lt e; omega
end Go.Ab

