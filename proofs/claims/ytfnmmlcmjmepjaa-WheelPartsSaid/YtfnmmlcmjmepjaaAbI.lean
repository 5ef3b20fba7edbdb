import Derived.Test.YtfnmmlcmjmepjaaAbH
set_option linter.unusedVariables false
set_option linter.unusedSectionVars false
set_option linter.unusedSimpArgs false
namespace Go.Ab
open Go.RowKit
variable {A : Env}
variable {P : Program} {T : Tab} [OfP A P]
theorem St.Of.write {W w w' : World} {a : Act} {σ : AS} {ι : Emb} {R : Nat → Prop} (h : St.Of A W w a σ ι R) {id g : Nat} {c : Cp} {b b' : Blk} (hb : σ.heap id = some b) (hi : ι id = some (some (g, c)))
  (hos : w'.os = w.os) (htp : w'.tape = w.tape) (hout : w'.output = w.output) (hsz : w'.heap.size = w.heap.size) (hoth : ∀ k, k ≠ g → w'.heap[k]? = w.heap[k]?)
  (hrel : RelB ι R w' id b') : St.Of A W w' a { σ with heap := upd σ.heap id (some b'), seen := upd σ.seen id true } ι R := by
 have hg := h.new id b g c hb hi
 have hR : ∀ k, R k → w'.heap[k]? = w.heap[k]? := fun k hk => hoth k (fun e => h.out id b g c hb hi (e ▸ hk))
 have hup : ∀ id' b'', upd σ.heap id (some b') id' = some b'' → ∃ b3, σ.heap id' = some b3 := by
  intro id' b'' h'
  simp only [upd] at h'
  split at h'
  ·rename_i he; exact ⟨b, he ▸ hb⟩
  ·exact ⟨_, h'⟩
 refine ⟨⟨hos.trans h.below.os, htp.trans h.below.tape, hout.trans h.below.output, by rw [hsz]; exact h.below.size, fun k hk hkB => (hoth k (fun e => by subst e; rcases hg with hg | hg; omega; exact hkB hg)).trans (h.below.block k hk hkB)⟩, h.size, h.defers, ?_,
  fun t => RelA.mono (fun _ _ e => e) (fun _ e => e) hR _ _ (h.slots t), ?_, ?_, ?_, ?_, ?_, h.arg, h.pin, h.glob⟩
 ·intro id' x hx
  simp only [upd]; split
  ·rfl
  ·exact h.seen id' x hx
 ·intro id' b'' h'
  simp only [upd] at h'
  split at h'
  ·rename_i he
   cases h'
   exact he ▸ hrel
  ·rename_i he
   refine (h.heap id' b'' h').mono (fun _ _ e => e) (fun _ e => e) hR ?_
   intro g' c' hi'
   exact hoth g' (fun e => he (h.inj id' id b'' b g c' c h' hb (e ▸ hi') hi))
 ·intro i1 i2 b1 b2 g' c1 c2 e1 e2 e3 e4
  obtain ⟨_, e1⟩ := hup _ _ e1
  obtain ⟨_, e2⟩ := hup _ _ e2
  exact h.inj i1 i2 _ _ g' c1 c2 e1 e2 e3 e4
 ·intro i1 b1 g' c1 e1 e2
  obtain ⟨_, e1⟩ := hup _ _ e1
  exact h.new i1 _ g' c1 e1 e2
 ·intro k hk
  rw [hsz]; exact h.lt k hk
 ·intro i1 b1 g' c1 e1 e2
  obtain ⟨_, e1⟩ := hup _ _ e1
  exact h.out i1 _ g' c1 e1 e2
theorem St.Of.rename {W w : World} {a : Act} {σ : AS} {ι : Emb} {R : Nat → Prop} (h : St.Of A W w a σ ι R) {id f : Nat} {b b' : Blk} {x y : Option (Nat × Cp)} (hb : σ.heap id = some b) (hi : ι id = some x) (hxy : ∀ g c, y = some (g, c) → ∃ c0, x = some (g, c0)) (hf : σ.seen f = false)
  (hrel : RelB (upd ι f (some y)) R w f b') : St.Of A W w a { σ with heap := upd (upd σ.heap id none) f (some b'), seen := upd σ.seen f true } (upd ι f (some y)) R := by
 have hfn : ι f = none := by
  cases e : ι f with
  | none => rfl
  | some y => have := h.seen f y e; rw [hf] at this; cases this
 have hι : ∀ id x', ι id = some x' → upd ι f (some y) id = some x' := by
  intro i z e
  simp only [upd]; split
  ·rename_i he; rw [he, hfn] at e; cases e
  ·exact e
 have hup : ∀ id' b'', upd (upd σ.heap id none) f (some b') id' = some b'' → (id' = f ∧ b'' = b') ∨ (id' ≠ f ∧ id' ≠ id ∧ σ.heap id' = some b'') := by
  intro id' b'' h'
  simp only [upd] at h'
  split at h'
  ·rename_i he; cases h'; exact .inl ⟨he, rfl⟩
  ·split at h'
   ·cases h'
   ·rename_i h1 h2; exact .inr ⟨h1, h2, h'⟩
 have hat : ∀ i, i ≠ f → upd ι f (some y) i = ι i := fun i hi => by simp [upd, hi]
 have hatf : upd ι f (some y) f = some y := by simp [upd]
 refine ⟨h.below, h.size, h.defers, ?_, fun t => RelA.mono hι (fun _ e => e) (fun _ _ => rfl) _ _ (h.slots t), ?_, ?_, ?_, h.lt, ?_, h.arg, fun i y hi hy => hι _ _ (h.pin i y hi hy), h.glob⟩
 ·intro i y hy
  simp only [upd] at hy ⊢
  split
  ·rfl
  ·rename_i hne; rw [if_neg hne] at hy; exact h.seen i y hy
 ·intro i b'' h'
  rcases hup i b'' h' with ⟨rfl, rfl⟩ | ⟨h1, h2, h3⟩
  ·exact hrel
  ·exact (h.heap i b'' h3).mono hι (fun _ e => e) (fun _ _ => rfl) (fun _ _ _ => rfl)
 ·intro i1 i2 b1 b2 g c1 c2 e1 e2 e3 e4
  rcases hup _ _ e1 with ⟨rfl, rfl⟩ | ⟨n1, m1, k1⟩ <;> rcases hup _ _ e2 with ⟨rfl, rfl⟩ | ⟨n2, m2, k2⟩
  ·rfl
  ·rw [hatf] at e3; rw [hat _ n2] at e4
   obtain ⟨c0, e0⟩ := hxy g c1 (Option.some.inj e3)
   subst e0
   exact absurd (h.inj i2 id _ _ g c2 c0 k2 hb e4 hi) m2
  ·rw [hatf] at e4; rw [hat _ n1] at e3
   obtain ⟨c0, e0⟩ := hxy g c2 (Option.some.inj e4)
   subst e0
   exact absurd (h.inj i1 id _ _ g c1 c0 k1 hb e3 hi) m1
  ·rw [hat _ n1] at e3; rw [hat _ n2] at e4
   exact h.inj i1 i2 _ _ g c1 c2 k1 k2 e3 e4
 ·intro i1 b1 g c1 e1 e2
  rcases hup _ _ e1 with ⟨rfl, rfl⟩ | ⟨n1, m1, k1⟩
  ·rw [hatf] at e2
   obtain ⟨c0, e0⟩ := hxy g c1 (Option.some.inj e2)
   subst e0
   exact h.new id b g c0 hb hi
  ·rw [hat _ n1] at e2
   exact h.new i1 _ g c1 k1 e2
 ·intro i1 b1 g c1 e1 e2
  rcases hup _ _ e1 with ⟨rfl, rfl⟩ | ⟨n1, m1, k1⟩
  ·rw [hatf] at e2
   obtain ⟨c0, e0⟩ := hxy g c1 (Option.some.inj e2)
   subst e0
   exact h.out id b g c0 hb hi
  ·rw [hat _ n1] at e2
   exact h.out i1 _ g c1 k1 e2
theorem St.Of.forget {W w : World} {a : Act} {σ : AS} {ι : Emb} {R : Nat → Prop} (h : St.Of A W w a σ ι R) (id : Nat) : St.Of A W w a { σ with heap := upd σ.heap id none } ι R := by
 have hup : ∀ id' b'', upd σ.heap id none id' = some b'' → σ.heap id' = some b'' := by
  intro id' b'' h'
  simp only [upd] at h'
  split at h'
  ·cases h'
  ·exact h'
 exact ⟨h.below, h.size, h.defers, h.seen, h.slots, fun i b e => h.heap i b (hup i b e), fun i1 i2 b1 b2 g c1 c2 e1 e2 => h.inj i1 i2 b1 b2 g c1 c2 (hup _ _ e1) (hup _ _ e2), fun i b g c e => h.new i b g c (hup _ _ e), h.lt, fun i b g c e => h.out i b g c (hup _ _ e), h.arg, h.pin, h.glob⟩
theorem ones_of {ι : Emb} {R : Nat → Prop} {w : World} : ∀ {xs : List AV} {us : List Value}, RelL ι R w xs us → xs.all AV.one = true → Ones us
 | [], [], _, _ => by intro u hu; simp at hu
 | x :: xs, u :: us, h, h1 => by
  simp only [RelL, List.all_cons, Bool.and_eq_true] at h h1
  intro v hv
  rcases List.mem_cons.1 hv with rfl | hv
  ·exact RelA.one h.1 h1.1
  ·exact ones_of h.2 h1.2 v hv
 | [], _ :: _, h, _ => by simp [RelL] at h
 | _ :: _, [], h, _ => by simp [RelL] at h
theorem setCells_get : ∀ (cs cells : List AV) (off j : Nat), off + cs.length ≤ cells.length → (setCells cells off cs)[j]? = if j < off then cells[j]? else if j < off + cs.length then cs[j - off]? else cells[j]?
 | [], cells, off, j, h => by
  simp only [setCells, List.length_nil, Nat.add_zero]
  split
  ·rfl
  ·rfl
 | c :: cs, cells, off, j, h => by
  rw [setCells, setCells_get cs (cells.set off c) (off + 1) j (by simp at h ⊢; omega)]
  simp only [List.length_cons, List.getElem?_set] at h ⊢
  by_cases h1 : j < off
  ·rw [if_pos (by omega), if_neg (by omega), if_pos h1]
  ·by_cases h2 : j = off
   ·subst h2
    rw [if_pos (by omega), if_pos rfl, if_pos (by omega), if_neg h1, if_pos (by omega)]
    simp
   ·rw [if_neg (by omega), if_neg h1]
    by_cases h3 : j < off + (cs.length + 1)
    ·rw [if_pos (by omega), if_pos h3]
     obtain ⟨k, hk⟩ : ∃ k, j - off = k + 1 := ⟨j - off - 1, by omega⟩
     rw [show j - (off + 1) = k by omega, hk]
     simp
    ·rw [if_neg (by omega), if_neg h3, if_neg (fun e => h2 e.symm)]
theorem RelL.seg {ι : Emb} {R : Nat → Prop} {w : World} {cs cells : List AV} {vs us : List Value} (off : Nat) (hc : RelL ι R w cs vs) (h : RelL ι R w cells us) (hl : off + cs.length ≤ cells.length) :
  RelL ι R w (setCells cells off cs) (us.take off ++ vs ++ us.drop (off + vs.length)) := by
 have l1 := hc.length
 have l2 := h.length
 refine RelL.of_get (by rw [setCells_length]; simp; omega) ?_
 intro i x u hx hu
 rw [setCells_get cs cells off i hl] at hx
 split at hx
 ·rename_i h1
  rw [List.append_assoc, List.getElem?_append_left (by simp; omega), List.getElem?_take, if_pos h1] at hu
  obtain ⟨u', hu', hr⟩ := h.get i x hx
  rw [hu] at hu'; cases hu'; exact hr
 ·split at hx
  ·rename_i h1 h2
   rw [List.append_assoc, List.getElem?_append_right (by simp; omega), List.getElem?_append_left (by simp; omega)] at hu
   obtain ⟨u', hu', hr⟩ := hc.get _ x hx
   have : i - (us.take off).length = i - off := by simp; omega
   rw [this] at hu
   rw [hu] at hu'; cases hu'; exact hr
  ·rename_i h1 h2
   rw [List.getElem?_append_right (by simp; omega), List.getElem?_drop] at hu
   have : off + vs.length + (i - (us.take off ++ vs).length) = i := by simp; omega
   rw [this] at hu
   obtain ⟨u', hu', hr⟩ := h.get i x hx
   rw [hu] at hu'; cases hu'; exact hr
end Go.Ab

