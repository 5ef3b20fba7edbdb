import Derived.Test.YtfnmmlcmjmepjaaAbJ
import Derived.MapKept
set_option linter.unusedVariables false
set_option linter.unusedSectionVars false
set_option linter.unusedSimpArgs false
namespace Go.Ab
open Go.RowKit
variable {A : Env}
variable {P : Program} {T : Tab} [OfP A P]
theorem RelA.guarded {ι : Emb} {R : Nat → Prop} {w : World} {v : AV} {u : Value} (h : RelA ι R w v u) (b : Bool) : RelA ι R w (if b then v else .gd true v) u := by
 cases b
 ·show RelA ι R w (.gd true v) u
  simp only [RelA]
  exact ⟨fun _ => h, fun h => by cases h⟩
 ·exact h
def AS.after (σ : AS) (o : Oper) (v : AV) (set : List (Nat × Blk)) (del : List Nat) : AS :=
 { σ with slots := putS σ.slots o.dst (if o.guard.isNone then v else .gd true v), heap := setH (delH σ.heap del) set, seen := seenS σ.seen set }
theorem wp_value {W w w' : World} {a : Act} {σ : AS} {o : Oper} {K : Act → World → Prop} {Q : Exit → Act → World → Prop} {v : AV} {u : Value} {set : List (Nat × Blk)} {del : List Nat}
  (hd : ∀ d, o.dst = some d → d < σ.n) (hK : ∀ a' w', St A W w' a' (σ.after o v set del) → K a' w')
  (hrun : (execOp a.eval o).run P w = .ok (.value u) w') {ι : Emb} {R : Nat → Prop}
  (hst : St.Of A W w' a { σ with heap := setH (delH σ.heap del) set, seen := seenS σ.seen set } ι R) (hr : RelA ι R w' v u) : o.wp P a w K Q := by
 unfold Oper.wp
 rw [hrun, Oper.upon_value]
 exact hK _ _ ⟨ι, R, hst.put (dst := o.dst) hd (hr.guarded o.guard.isNone)⟩
theorem wp_skip' {W w w' : World} {a : Act} {σ : AS} {o : Oper} {K : Act → World → Prop} {Q : Exit → Act → World → Prop} {set : List (Nat × Blk)} {del : List Nat}
  (hd : ∀ d, o.dst = some d → d < σ.n) (hK : ∀ a' w', St A W w' a' (σ.after o (.raw undef) set del) → K a' w')
  (hrun : (execOp a.eval o).run P w = .ok .skip w') {ι : Emb} {R : Nat → Prop}
  (hst : St.Of A W w' a { σ with heap := setH (delH σ.heap del) set, seen := seenS σ.seen set } ι R) : o.wp P a w K Q := by
 unfold Oper.wp
 rw [hrun, Oper.upon_skip]
 exact hK _ _ ⟨ι, R, hst.put (dst := o.dst) hd (RelA.guarded (v := .raw undef) (u := undef) (by simp only [RelA, RelP]) o.guard.isNone)⟩
theorem St.Of.newObj {W w : World} {a : Act} {σ : AS} {ι : Emb} {R : Nat → Prop} (h : St.Of A W w a σ ι R) {f : Nat} (hf : σ.seen f = false) (ob : Obj) (b : Blk) (c : Cp)
  (hb : ∀ (ι' : Emb) (w' : World), (∀ id x, ι id = some x → ι' id = some x) → (∀ k, R k → w'.heap[k]? = w.heap[k]?) → ι' f = some (some (w.heap.size, c)) → w'.heap[w.heap.size]? = some ob → RelB ι' R w' f b) :
  ∃ ι', ι' f = some (some (w.heap.size, c)) ∧ St.Of A W (w.alloc ob) a { σ with heap := setH (delH σ.heap []) [(f, b)], seen := seenS σ.seen [(f, b)] } ι' R := by
 have hf0 : ι f = none := by
  cases e' : ι f with
  | none => rfl
  | some y => have := h.seen f y e'; rw [hf] at this; cases this
 have hbel : Below w.heap.size w (w.alloc ob) := (Below.refl _ _).alloc (Nat.le_refl _) _
 have hup : ∀ id' x', ι id' = some x' → upd ι f (some (some (w.heap.size, c))) id' = some x' := by
  intro i y' e'
  simp only [upd]; split
  ·rename_i he'; rw [he', hf0] at e'; cases e'
  ·exact e'
 refine ⟨upd ι f (some (some (w.heap.size, c))), by simp [upd], ?_⟩
 exact h.grow hbel [(f, b)] (by intro y hy; simp at hy; subst hy; exact hf) hup (by
   intro i y hy
   simp only [upd] at hy
   split at hy
   ·rename_i he'; exact .inr ⟨(f, _), List.mem_singleton.2 rfl, he'.symm⟩
   ·exact .inl hy) (fun _ hk => hk) (fun _ hk => .inl hk) (by
   intro i b' hib
   simp at hib
   obtain ⟨rfl, rfl⟩ := hib
   exact hb _ _ hup (fun k hk => hbel.block k (h.lt k hk)) (by simp [upd]) (heap_alloc_new w _)) (by
   intro i b' g c' hib hi'
   simp at hib
   obtain ⟨rfl, rfl⟩ := hib
   simp only [upd, if_true] at hi'
   cases hi'
   exact ⟨Nat.le_refl _, fun hk => by have := h.lt _ hk; omega⟩) (by
   intro i i' b' b'' g c' c'' h1 h2 _ _
   simp at h1 h2
   rw [h1.1, h2.1])
theorem St.Of.newBlock {W w : World} {a : Act} {σ : AS} {ι : Emb} {R : Nat → Prop} (h : St.Of A W w a σ ι R) {f : Nat} (hf : σ.seen f = false) (cur : Array Value) (e : TypeId) (b : Blk) (c : Cp)
  (hb : ∀ (ι' : Emb) (w' : World), (∀ id x, ι id = some x → ι' id = some x) → (∀ k, R k → w'.heap[k]? = w.heap[k]?) → ι' f = some (some (w.heap.size, c)) → w'.heap[w.heap.size]? = some (.cells cur e (0, 0)) → RelB ι' R w' f b) :
  ∃ ι', ι' f = some (some (w.heap.size, c)) ∧ St.Of A W (w.alloc (.cells cur e)) a { σ with heap := setH (delH σ.heap []) [(f, b)], seen := seenS σ.seen [(f, b)] } ι' R := by
 have hf0 : ι f = none := by
  cases e' : ι f with
  | none => rfl
  | some y => have := h.seen f y e'; rw [hf] at this; cases this
 have hbel : Below w.heap.size w (w.alloc (.cells cur e)) := (Below.refl _ _).alloc (Nat.le_refl _) _
 have hup : ∀ id' x', ι id' = some x' → upd ι f (some (some (w.heap.size, c))) id' = some x' := by
  intro i y' e'
  simp only [upd]; split
  ·rename_i he'; rw [he', hf0] at e'; cases e'
  ·exact e'
 refine ⟨upd ι f (some (some (w.heap.size, c))), by simp [upd], ?_⟩
 exact h.grow hbel [(f, b)] (by intro y hy; simp at hy; subst hy; exact hf) hup (by
   intro i y hy
   simp only [upd] at hy
   split at hy
   ·rename_i he'; exact .inr ⟨(f, _), List.mem_singleton.2 rfl, he'.symm⟩
   ·exact .inl hy) (fun _ hk => hk) (fun _ hk => .inl hk) (by
   intro i b' hib
   simp at hib
   obtain ⟨rfl, rfl⟩ := hib
   exact hb _ _ hup (fun k hk => hbel.block k (h.lt k hk)) (by simp [upd]) (heap_alloc_new w _)) (by
   intro i b' g c' hib hi'
   simp at hib
   obtain ⟨rfl, rfl⟩ := hib
   simp only [upd, if_true] at hi'
   cases hi'
   exact ⟨Nat.le_refl _, fun hk => by have := h.lt _ hk; omega⟩) (by
   intro i i' b' b'' g c' c'' h1 h2 _ _
   simp at h1 h2
   rw [h1.1, h2.1])
theorem repCells_eq (z : Array Value) : ∀ (n s : Nat), 0 < z.size → repCells z.toList s n = (List.range' s n).map (fun k => z[k % z.size]!)
 | 0, s, _ => rfl
 | n + 1, s, h => by
  rw [repCells, repCells_eq z n (s + 1) h, List.range'_succ]
  simp only [List.map_cons, Array.length_toList]
  congr 1
  have : s % z.size < z.size := Nat.mod_lt _ h
  simp [List.getD, this]
theorem window (L vs : List Value) (base n off : Nat) (h1 : base + n ≤ L.length) (h2 : off + vs.length ≤ n) :
  ((L.take (off + base) ++ vs ++ L.drop (off + base + vs.length)).drop base).take n = ((L.drop base).take n).take off ++ vs ++ ((L.drop base).take n).drop (off + vs.length) := by
 apply List.ext_getElem?
 intro j
 simp only [List.getElem?_take, List.getElem?_append, List.length_append, List.length_take, List.getElem?_drop, List.length_drop, List.append_assoc]
 have e1 : min (off + base) L.length = off + base := by omega
 have e2 : min off (min n (L.length - base)) = off := by omega
 simp only [e1, e2]
 by_cases hj : j < n
 ·rw [if_pos hj]
  by_cases hj1 : j < off
  ·rw [if_pos (show base + j < off + base by omega), if_pos hj1, if_pos (show base + j < off + base by omega), if_pos hj1, if_pos hj]
  ·rw [if_neg (show ¬ base + j < off + base by omega), if_neg hj1]
   rw [show base + j - (off + base) = j - off by omega]
   by_cases hj2 : j - off < vs.length
   ·rw [if_pos hj2, if_pos hj2]
   ·rw [if_neg hj2, if_neg hj2, if_pos (by omega)]
    congr 1; omega
 ·rw [if_neg hj, if_neg (by omega), if_neg (by omega), if_neg (by omega)]
theorem St.Of.writeRow {W w : World} {a : Act} {σ : AS} {ι : Emb} {R : Nat → Prop} (h : St.Of A W w a σ ι R) {id e s g : Nat} {c : Cp} {cs cells : List AV} {vs : List Value} (hid : σ.heap id = some (.row e s cs)) (hi : ι id = some (some (g, c)))
  (hc : RelL ι R w cells vs) (ho : Ones vs) (off : Nat) (hle : off + vs.length ≤ cs.length) :
  ∃ w', (storeCells ⟨g, off + c.base, none⟩ vs).run P w = .ok () w' ∧ St.Of A W w' a { σ with heap := upd σ.heap id (some (.row e s (setCells cs off cells))), seen := upd σ.seen id true } ι R := by
 obtain ⟨n, hln, hs, hn, hb⟩ := h.heap id _ hid
 rcases hb with ⟨hin, _⟩ | ⟨g', cap, base, cur, hi', hh, hsz, hnc, hcm, hr, hon⟩
 ·rw [hi] at hin; cases hin
 rw [hi] at hi'
 obtain ⟨rfl, rfl⟩ : g = g' ∧ c = ⟨cap, base⟩ := by simpa using hi'
 have hll := hr.length
 have hnm : base + n * s ≤ cur.toList.length := by rw [Array.length_toList, hsz]; exact Nat.add_le_add_left (Nat.mul_le_mul_right _ hnc) _
 have hlc := hc.length
 have hrun := run_storeCells_at P g (off + base) e vs 0 cur w hh (by rw [Array.length_toList] at hnm; omega) ho
 simp only [Nat.add_zero] at hrun
 have htk := window cur.toList vs base (n * s) off hnm (by omega)
 generalize hcur' : (cur.toList.take (off + base) ++ vs ++ cur.toList.drop (off + base + vs.length)) = cl' at hrun htk
 have hcz : cl'.toArray.size = cur.size := by
  rw [← hcur']; simp at hnm ⊢; omega
 refine ⟨_, hrun, h.write (w' := w.setRow g cl'.toArray) hid hi rfl rfl rfl (by simp [World.setRow]) (fun k hk => setRow_other w g k _ hk) ?_⟩
 have hR : ∀ k, R k → (w.setRow g cl'.toArray).heap[k]? = w.heap[k]? := fun k hk => setRow_other w g k _ (fun e' => h.out id _ g _ hid hi (e' ▸ hk))
 have hh' := setRow_heap w g cur cl'.toArray e _ hh
 refine ⟨n, by rw [setCells_length]; exact hln, hs, hn, .inr ⟨g, cap, base, _, hi, hh', by rw [hcz]; exact hsz, hnc, hcm, ?_, ?_⟩⟩
 ·rw [List.toList_toArray, htk]
  exact RelL.mono (fun _ _ e => e) (fun _ e => e) hR _ _ (RelL.seg off hc hr (by omega))
 ·rw [List.toList_toArray, htk]
  intro u hu
  rcases List.mem_append.1 hu with hu | hu
  ·rcases List.mem_append.1 hu with hu | hu
   ·exact hon u (List.mem_of_mem_take hu)
   ·exact ho u hu
  ·exact hon u (List.mem_of_mem_drop hu)
theorem heap_set_at {w : World} {r : Nat} {o o' : Obj} (hb : w.heap[r]? = some o) : (w.heap.setIfInBounds r o')[r]? = some o' ∧ ∀ r', r' ≠ r → (w.heap.setIfInBounds r o')[r']? = w.heap[r']? := by
 have hlt : r < w.heap.size := (Array.getElem?_eq_some_iff.1 hb).1
 exact ⟨by simp [hlt], fun r' hne => by simp [Ne.symm hne]⟩
theorem map_erase {β γ : Type} (f : β → γ) : ∀ (l : List β) (i : Nat), (l.eraseIdx i).map f = (l.map f).eraseIdx i
 | [], i => by simp
 | x :: l, 0 => by simp
 | x :: l, i + 1 => by simp only [List.eraseIdx_cons_succ, List.map_cons, map_erase f l i]
theorem map_find {u : TypeDesc} {k : Value} : ∀ (es : List MapEntry) (ks : List Value) (xs : List AV) (i : Nat), es.map (·.key) = ks → xs.length = es.length → (∀ e ∈ ks, Instr.sameNow u k e = some (keyEq k e)) →
  (Instr.findNow u k es i = some none ∧ mapGet k ks xs = none ∧ (∀ x, mapPut k x ks xs = (ks ++ [k], xs ++ [x])) ∧ mapDel k ks xs = (ks, xs)) ∨
  (∃ j e y, Instr.findNow u k es i = some (some (i + j, e.val)) ∧ es[j]? = some e ∧ xs[j]? = some y ∧ mapGet k ks xs = some y ∧ (∀ x, mapPut k x ks xs = (ks, xs.set j x)) ∧ mapDel k ks xs = (ks.eraseIdx j, xs.eraseIdx j) ∧ keyEq k e.key = true)
 | [], ks, xs, i, hk, hl, _ => by
  obtain rfl : ks = [] := by simpa using hk.symm
  obtain rfl : xs = [] := List.eq_nil_of_length_eq_zero (by simpa using hl)
  exact .inl ⟨rfl, rfl, fun _ => rfl, rfl⟩
 | e :: es, ks, xs, i, hk, hl, hs => by
  cases xs with
  | nil => simp at hl
  | cons x xs =>
   subst hk
   simp only [List.map_cons]
   have h0 := hs e.key (by simp)
   have ih := map_find es (es.map (·.key)) xs (i + 1) rfl (by simpa using hl) (fun y hy => hs y (by simp only [List.map_cons, List.mem_cons]; exact .inr hy))
   cases hq : keyEq k e.key with
   | true =>
    rw [hq] at h0
    refine .inr ⟨0, e, x, by simp [Instr.findNow, h0], rfl, rfl, by simp [mapGet, hq], fun y => by simp [mapPut, hq], by simp [mapDel, hq], hq⟩
   | false =>
    rw [hq] at h0
    rcases ih with ⟨a1, a2, a3, a4⟩ | ⟨j, e', y, a1, a2, a3, a4, a5, a6, a7⟩
    ·exact .inl ⟨by simp [Instr.findNow, h0, a1], by simp [mapGet, hq, a2], fun y => by simp [mapPut, hq, a3], by simp [mapDel, hq, a4]⟩
    ·exact .inr ⟨j + 1, e', y, by simp [Instr.findNow, h0, a1]; omega, by simpa using a2, by simpa using a3, by simp [mapGet, hq, a4], fun z => by simp [mapPut, hq, a5], by simp [mapDel, hq, a6], a7⟩
theorem run_checkKey_int {w : World} {kt : TypeId} {ik : IntKind} {k : Value} (hd : P.underlying kt = some (.int ik)) (hk : isIntV k = true) (e : Bool) : (Instr.checkKey e 10000 kt k).run P w = .ok () w := by
 show (Instr.checkKey e (9999 + 1) kt k).run P w = .ok () w
 unfold Instr.checkKey
 simp only [Sem.run_bind, run_underlying hd, Result.andThen]
 cases k <;> simp_all [isIntV]
theorem run_keyThatStays_int {w : World} {k k' : Value} (hk : isIntV k = true) (h : k' = k) : (Instr.keyThatStays k' k).run P w = .ok k w := by
 subst h
 cases k' <;> simp [isIntV] at hk
 simp [Instr.keyThatStays, Instr.sameBits]
theorem raws_inv {ι : Emb} {R : Nat → Prop} {w : World} : ∀ {cs : List AV} {us vs : List Value}, RelL ι R w cs us → rawsOf cs = some vs → us = vs
 | [], [], vs, _, h => by simp only [rawsOf, Option.some.injEq] at h; exact h
 | [], _ :: _, _, h, _ => by simp [RelL] at h
 | .pv (.raw v) :: cs, [], _, h, _ => by simp [RelL] at h
 | .pv (.raw v) :: cs, u :: us, vs, h, hr => by
  simp only [RelL] at h
  simp only [rawsOf, Option.map_eq_some_iff] at hr
  obtain ⟨r, hr, rfl⟩ := hr
  rw [raw_inv h.1, raws_inv h.2 hr]
 | .pv (.ro _ _ _) :: cs, _, _, _, h => by simp [rawsOf] at h
 | .ptr _ _ :: cs, _, _, _, h => by simp [rawsOf] at h
 | .pix _ _ :: cs, _, _, _, h => by simp [rawsOf] at h
 | .row _ _ _ _ :: cs, _, _, _, h => by simp [rawsOf] at h
 | .roat _ _ :: cs, _, _, _, h => by simp [rawsOf] at h
 | .agg _ :: cs, _, _, _, h => by simp [rawsOf] at h
 | .tup _ :: cs, _, _, _, h => by simp [rawsOf] at h
 | .fn _ _ :: cs, _, _, _, h => by simp [rawsOf] at h
 | .map _ :: cs, _, _, _, h => by simp [rawsOf] at h
 | .gd _ _ :: cs, _, _, _, h => by simp [rawsOf] at h
 | .junk :: cs, _, _, _, h => by simp [rawsOf] at h
theorem allI_cons {v : Value} {r : List Value} (h : allI (v :: r) = true) : ∃ n, v = .int .i64 n ∧ allI r = true := by
 unfold allI at h
 split at h
 ·rename_i e; cases e
 ·rename_i n r' e; cases e; exact ⟨_, rfl, h⟩
 ·cases h
theorem intsEq_iff : ∀ {a b : List Value}, allI a = true → allI b = true → (intsEq a b = true ↔ b = a)
 | [], [], _, _ => by simp [intsEq]
 | [], v :: b, _, _ => by simp [intsEq]
 | v :: a, [], h, _ => by
  obtain ⟨n, rfl, _⟩ := allI_cons h
  simp [intsEq]
 | v :: a, u :: b, h, h' => by
  obtain ⟨n, rfl, k⟩ := allI_cons h
  obtain ⟨m, rfl, k'⟩ := allI_cons h'
  simp only [intsEq, Bool.and_eq_true, beq_iff_eq, List.cons.injEq, Value.int.injEq, true_and]
  exact ⟨fun ⟨x, y⟩ => ⟨x.symm, (intsEq_iff k k').1 y⟩, fun ⟨x, y⟩ => ⟨x.symm, (intsEq_iff k k').2 y⟩⟩
theorem drop_allI : ∀ (i : Nat) {a : List Value}, allI a = true → allI (a.drop i) = true
 | 0, a, h => h
 | i + 1, [], h => h
 | i + 1, v :: a, h => by
  obtain ⟨n, rfl, h⟩ := allI_cons h
  exact drop_allI i h
theorem eqFs_flat : ∀ (fs : List Field) (i : Nat) (a b : List Value), flatI T fs i = true → a.length = i + fs.length → b.length = i + fs.length → allI a = true → allI b = true →
  (eqFs T (eqC T 5) (a.map .raw) (b.map .raw) fs).1 ∧ (eqFs T (eqC T 5) (a.map .raw) (b.map .raw) fs).2 = intsEq (a.drop i) (b.drop i)
 | [], i, a, b, _, ha, hb, _, _ => by
  simp only [List.length_nil, Nat.add_zero] at ha hb
  refine ⟨trivial, ?_⟩
  rw [List.drop_of_length_le (by omega), List.drop_of_length_le (by omega)]
  rfl
 | f :: fs, i, a, b, h, ha, hb, ka, kb => by
  unfold flatI at h
  simp only [Bool.and_eq_true, decide_eq_true_eq] at h
  obtain ⟨⟨⟨hn, ho⟩, ht⟩, hr⟩ := h
  have ho : f.offset = i := Nat.eq_of_beq_eq_true ho
  simp only [List.length_cons] at ha hb
  obtain ⟨i1, i2⟩ := eqFs_flat fs (i + 1) a b hr (by omega) (by omega) ka kb
  split at ht
  ·rename_i by_ z cm hT
   have ea : a.drop i = a[i]'(by omega) :: a.drop (i + 1) := List.drop_eq_getElem_cons (by omega)
   have eb : b.drop i = b[i]'(by omega) :: b.drop (i + 1) := List.drop_eq_getElem_cons (by omega)
   have k1 := drop_allI i ka; rw [ea] at k1
   have k2 := drop_allI i kb; rw [eb] at k2
   obtain ⟨n, en, _⟩ := allI_cons k1
   obtain ⟨m, em, _⟩ := allI_cons k2
   have e1 : ((a.map AV.raw).drop i).take 1 = [.pv (.raw (.int .i64 n))] := by rw [← List.map_drop, ea, en]; rfl
   have e2 : ((b.map AV.raw).drop i).take 1 = [.pv (.raw (.int .i64 m))] := by rw [← List.map_drop, eb, em]; rfl
   have ec : eqC T 5 f.type [.pv (.raw (.int .i64 n))] [.pv (.raw (.int .i64 m))] = (IntKind.i64 = IntKind.i64, n == m) := by
    unfold eqC; simp only [hT]
   unfold eqFs
   simp only [hT, ho, e1, e2, ec, List.length_map]
   refine ⟨⟨hn, ⟨by omega, by omega⟩, trivial, i1⟩, ?_⟩
   rw [i2, ea, eb, en, em]
   rfl
  ·cases ht
theorem aggI_inv {n : Nat} {v : Value} (h : aggI n v = true) : ∃ cs : Array Value, v = .agg cs ∧ cs.size = n ∧ allI cs.toList = true := by
 unfold aggI at h
 split at h
 ·rename_i cs
  simp only [Bool.and_eq_true] at h
  exact ⟨cs, rfl, Nat.eq_of_beq_eq_true h.1, h.2⟩
 ·cases h
structure KeyRuns (P : Program) (kt : TypeId) (k : Value) (ks : List Value) : Prop where
 check : ∀ (w : World) (e : Bool), (Instr.checkKey e 10000 kt k).run P w = .ok () w
 find : ∀ (w : World) (es : List MapEntry) (xs : List AV), es.map (·.key) = ks → xs.length = es.length →
  ((Instr.findKey kt k es).run P w = .ok none w ∧ mapGet k ks xs = none ∧ (∀ x, mapPut k x ks xs = (ks ++ [k], xs ++ [x]))) ∨
  (∃ j e y, (Instr.findKey kt k es).run P w = .ok (some (j, e.val)) w ∧ es[j]? = some e ∧ xs[j]? = some y ∧ mapGet k ks xs = some y ∧ (∀ x, mapPut k x ks xs = (ks, xs.set j x)) ∧ e.key = k)
 stays : ∀ (w : World), (Instr.keyThatStays k k).run P w = .ok k w
theorem allI_same (n : Nat) : ∀ {a : List Value}, allI a = true → ((a.zip a).all fun (x, y) => Instr.sameBits n x y) = true
 | [], _ => rfl
 | v :: a, h => by
  obtain ⟨m, rfl, k⟩ := allI_cons h
  rw [List.zip_cons_cons, List.all_cons, allI_same n k, Bool.and_true]
  cases n <;> simp [Instr.sameBits]
theorem checkFields {w : World} (hT : TabOk P T) (em : Bool) (n : Nat) (cs : Array Value) : ∀ (fs : List Field) (i : Nat), flatI T fs i = true → cs.size = i + fs.length → allI cs.toList = true →
  (forIn fs PUnit.unit fun f _ => (do
   if f.name ≠ "_" then Instr.checkKey em (n + 1) f.type (← part f.type cs f.offset)
   pure (ForInStep.yield PUnit.unit) : Sem (ForInStep PUnit))).run P w = .ok PUnit.unit w
 | [], _, _, _, _ => by simp
 | f :: fs, i, h, hs, ka => by
  unfold flatI at h
  simp only [Bool.and_eq_true, decide_eq_true_eq] at h
  obtain ⟨⟨⟨hn, ho⟩, ht⟩, hr⟩ := h
  have ho : f.offset = i := Nat.eq_of_beq_eq_true ho
  simp only [List.length_cons] at hs
  split at ht
  ·rename_i by_ z cm hT'
   have k1 := drop_allI i ka
   have el : cs.toList.drop i = cs.toList[i]'(by simp; omega) :: cs.toList.drop (i + 1) := List.drop_eq_getElem_cons (by simp; omega)
   rw [el] at k1
   obtain ⟨m, em', _⟩ := allI_cons k1
   have hp := run_part_cells (w := w) hT hT' (cs := cs) (off := f.offset) (by show f.offset + 1 ≤ _; omega) (.inr rfl)
   have hc : (Instr.checkKey em (n + 1) f.type (.int .i64 m)).run P w = .ok () w := by
    unfold Instr.checkKey
    simp only [Sem.run_bind, run_underlying (hT.under hT'), Result.andThen]
    rfl
   have hv : pval (.int .i64) ((cs.toList.drop f.offset).take 1) = .int .i64 m := by rw [ho, el, em']; rfl
   simp only [hv] at hp
   simp only [List.forIn_cons, Sem.run_bind, hn, ne_eq, not_false_eq_true, if_true, hp, Result.andThen_ok, hc, Sem.run_pure]
   exact checkFields hT em n cs fs (i + 1) hr (by omega) ka
  ·cases ht
theorem keyRunsS (hT : TabOk P T) {kt : TypeId} {fs : Array Field} {s b : Nat} {z : Value} (ht : T kt = some { under := .struct fs, size := s, bytes := b, zero := z, cmp := true }) {k : Value} {ks : List Value} (h : keysOkS T fs k ks) : KeyRuns P kt k ks := by
 obtain ⟨hf, hk, hks⟩ := h
 obtain ⟨cs, rfl, hsz, hal⟩ := aggI_inv hk
 have hu := hT.under ht
 have heq : ∀ (w : World) (e : Value), e ∈ ks → ∃ r, (Op.equal kt (.agg cs) e).run P w = .ok r w ∧ r = keyEq (.agg cs) e ∧ (r = true ↔ e = .agg cs) := by
  intro w e he
  obtain ⟨ds, rfl, hsz', hal'⟩ := aggI_inv (hks e he)
  obtain ⟨q1, q2⟩ := eqFs_flat (T := T) fs.toList 0 cs.toList ds.toList hf (by simp; exact hsz) (by simp; exact hsz') hal hal'
  have := equal_struct (w := w) (ι := fun _ => none) (R := fun _ => False) hT ht (us := cs) (vs := ds) (rawsRel _) (rawsRel _) q1
  refine ⟨_, this, ?_, ?_⟩
  ·exact q2
  ·show (eqFs T (eqC T 5) (cs.toList.map .raw) (ds.toList.map .raw) fs.toList).2 = true ↔ _
   rw [q2, List.drop_zero, List.drop_zero, intsEq_iff hal hal', Value.agg.injEq]
   exact ⟨fun e => Array.toList_inj.1 e, fun e => by rw [e]⟩
 refine ⟨?_, ?_, ?_⟩
 ·intro w em
  show (Instr.checkKey em (9999 + 1) kt (.agg cs)).run P w = _
  unfold Instr.checkKey
  simp only [Sem.run_bind, run_underlying hu, Result.andThen]
  rw [← Array.forIn_toList]
  have := checkFields (w := w) hT em 9998 cs fs.toList 0 hf (by simp; exact hsz) hal
  simp at this ⊢
  rw [this]
 ·intro w es xs hm hl
  have ask : ∀ (es : List MapEntry) (ks' : List Value) (xs : List AV) (i : Nat), (∀ e ∈ ks', e ∈ ks) → es.map (·.key) = ks' → xs.length = es.length →
    ((Instr.findAsking kt (.agg cs) es i).run P w = .ok none w ∧ mapGet (.agg cs) ks' xs = none ∧ (∀ x, mapPut (.agg cs) x ks' xs = (ks' ++ [.agg cs], xs ++ [x]))) ∨
    (∃ j e y, (Instr.findAsking kt (.agg cs) es i).run P w = .ok (some (i + j, e.val)) w ∧ es[j]? = some e ∧ xs[j]? = some y ∧ mapGet (.agg cs) ks' xs = some y ∧ (∀ x, mapPut (.agg cs) x ks' xs = (ks', xs.set j x)) ∧ e.key = .agg cs) := by
   intro es
   induction es with
   | nil =>
    intro ks' xs i _ hm hl
    obtain rfl : ks' = [] := by simpa using hm.symm
    obtain rfl : xs = [] := List.eq_nil_of_length_eq_zero (by simpa using hl)
    exact .inl ⟨by simp [Instr.findAsking], rfl, fun _ => rfl⟩
   | cons e es ih =>
    intro ks' xs i hin hm hl
    cases xs with
    | nil => simp at hl
    | cons x xs =>
     subst hm
     simp only [List.map_cons]
     obtain ⟨r, hr, hrk, hre⟩ := heq w e.key (hin _ (by simp))
     cases r with
     | true =>
      exact .inr ⟨0, e, x, by simp [Instr.findAsking, hr], rfl, rfl, by simp [mapGet, ← hrk], fun y => by simp [mapPut, ← hrk], hre.1 rfl⟩
     | false =>
      rcases ih (es.map (·.key)) xs (i + 1) (fun y hy => hin y (by simp only [List.map_cons, List.mem_cons]; exact .inr hy)) rfl (by simpa using hl) with ⟨a1, a2, a3⟩ | ⟨j, e', y, a1, a2, a3, a4, a5, a6⟩
      ·exact .inl ⟨by simp [Instr.findAsking, hr, a1], by simp [mapGet, ← hrk, a2], fun y => by simp [mapPut, ← hrk, a3]⟩
      ·exact .inr ⟨j + 1, e', y, by simp [Instr.findAsking, hr, a1]; omega, by simpa using a2, by simpa using a3, by simp [mapGet, ← hrk, a4], fun z => by simp [mapPut, ← hrk, a5], a6⟩
  cases es with
  | nil =>
   obtain rfl : ks = [] := by simpa using hm.symm
   obtain rfl : xs = [] := List.eq_nil_of_length_eq_zero (by simpa using hl)
   exact .inl ⟨by simp [Instr.findKey, run_underlying hu, Instr.findNow, Result.andThen], rfl, fun _ => rfl⟩
  | cons e es =>
   have hf0 : Instr.findNow (.struct fs) (.agg cs) (e :: es) 0 = none := by
    unfold Instr.findNow; simp [Instr.sameNow]
   have hfk : (Instr.findKey kt (.agg cs) (e :: es)).run P w = (Instr.findAsking kt (.agg cs) (e :: es) 0).run P w := by
    simp [Instr.findKey, run_underlying hu, hf0, Result.andThen]
   rw [hfk]
   have := ask (e :: es) ks xs 0 (fun _ h => h) hm hl
   simpa only [Nat.zero_add] using this
 ·intro w
  have : Instr.sameBits 10000 (.agg cs) (.agg cs) = true := by
   show (cs.size == cs.size && (cs.toList.zip cs.toList).all fun (x, y) => Instr.sameBits 9999 x y) = true
   rw [allI_same _ hal]; simp
  simp [Instr.keyThatStays, this]
theorem keyEq_eq {u : TypeDesc} {k e : Value} (h : Instr.sameNow u k e = some true) (hk : isIntV k = true) : e = k := by
 cases k <;> simp [isIntV] at hk
 cases u <;> cases e <;> simp [Instr.sameNow] at h
 ·obtain ⟨rfl, rfl⟩ := h; rfl
theorem keyRunsI (hT : TabOk P T) {kt : TypeId} {ik : IntKind} {s b : Nat} {z : Value} {cm : Bool} (ht : T kt = some { under := .int ik, size := s, bytes := b, zero := z, cmp := cm }) {k : Value} {ks : List Value} (h : keysOk (.int ik) k ks) : KeyRuns P kt k ks := by
 have hPk := hT.under ht
 refine ⟨fun w e => run_checkKey_int hPk h.1 e, fun w es xs hm hl => ?_, fun w => run_keyThatStays_int h.1 rfl⟩
 rcases map_find (u := .int ik) (k := k) es ks xs 0 hm hl h.2 with ⟨f1, f2, f3, _⟩ | ⟨j, e, y, f1, f2, f3, f4, f5, _, f7⟩
 ·exact .inl ⟨Go.MapKept.run_findKey hPk f1, f2, f3⟩
 ·rw [Nat.zero_add] at f1
  have hek : e.key = k := by
   have hmem : e.key ∈ ks := by rw [← hm]; exact List.mem_map.2 ⟨e, List.mem_of_getElem? f2, rfl⟩
   have := h.2 _ hmem
   rw [f7] at this
   exact keyEq_eq this h.1
  exact .inr ⟨j, e, y, Go.MapKept.run_findKey hPk f1, f2, f3, f4, f5, hek⟩
theorem Ones.set {us : List Value} {v : Value} (h : Ones us) (hv : v.oneCell' = true) (j : Nat) : Ones (us.set j v) := by
 intro u hu
 rcases List.mem_or_eq_of_mem_set hu with hu | rfl
 ·exact h u hu
 ·exact hv
theorem RelL.eraseIdx {ι : Emb} {R : Nat → Prop} {w : World} : ∀ {xs : List AV} {us : List Value} (j : Nat), RelL ι R w xs us → RelL ι R w (xs.eraseIdx j) (us.eraseIdx j)
 | [], [], _, h => by simpa using h
 | x :: xs, u :: us, 0, h => by simp only [RelL] at h; simpa using h.2
 | x :: xs, u :: us, j + 1, h => by
  simp only [RelL, List.eraseIdx_cons_succ] at h ⊢
  exact ⟨h.1, RelL.eraseIdx j h.2⟩
 | [], _ :: _, _, h => by simp [RelL] at h
 | _ :: _, [], _, h => by simp [RelL] at h
theorem map_modify_key (es : Array MapEntry) (j : Nat) (k v : Value) (e : MapEntry) (he : es[j]? = some e) (hk : e.key = k) : ((es.modify j fun e => { e with key := k, val := v }).toList.map (·.key)) = es.toList.map (·.key) ∧ ((es.modify j fun e => { e with key := k, val := v }).toList.map (·.val)) = (es.toList.map (·.val)).set j v := by
 constructor
 ·apply List.ext_getElem?
  intro i
  simp only [Array.toList_modify, List.getElem?_map, List.getElem?_modify]
  by_cases hij : j = i
  ·subst hij
   have : es.toList[j]? = some e := by simpa using he
   simp [this, hk]
  ·simp [hij]
 ·apply List.ext_getElem?
  intro i
  simp only [Array.toList_modify, List.getElem?_map, List.getElem?_modify, List.getElem?_set]
  by_cases hij : j = i
  ·subst hij
   have : es.toList[j]? = some e := by simpa using he
   have hlt : j < es.toList.length := (List.getElem?_eq_some_iff.1 this).1
   have hlt' : j < es.size := by simpa using hlt
   simp [this, hlt']
  ·simp [hij]
theorem BornOk.push {es : Array MapEntry} {ck : Nat} (h : BornOk es ck) (e : MapEntry) (he : e.born = ck) : BornOk (es.push e) (ck + 1) := by
 refine ⟨fun x hx => ?_, ?_⟩
 ·simp only [Array.toList_push, List.mem_append, List.mem_singleton] at hx
  rcases hx with hx | rfl
  ·exact Nat.lt_succ_of_lt (h.1 x hx)
  ·omega
 ·simp only [Array.toList_push, List.map_append, List.map_cons, List.map_nil]
  refine List.nodup_append.2 ⟨h.2, by simp, ?_⟩
  intro a ha b hb
  rw [List.mem_singleton.1 hb, he]
  obtain ⟨x, hx, rfl⟩ := List.mem_map.1 ha
  exact Nat.ne_of_lt (h.1 x hx)
theorem map_modify_born (es : Array MapEntry) (j : Nat) (f : MapEntry → MapEntry) (hf : ∀ e, (f e).born = e.born) : (es.modify j f).toList.map (·.born) = es.toList.map (·.born) := by
 apply List.ext_getElem?
 intro i
 simp only [List.getElem?_map, Array.getElem?_toList, Array.getElem?_modify]
 split
 ·cases es[i]? <;> simp [hf]
 ·rfl
theorem BornOk.of_born {es es' : Array MapEntry} {ck : Nat} (h : BornOk es ck) (he : (es'.toList.map (·.born)).Sublist (es.toList.map (·.born))) : BornOk es' ck := by
 refine ⟨fun x hx => ?_, he.nodup h.2⟩
 obtain ⟨y, hy, hxy⟩ := List.mem_map.1 (he.subset (List.mem_map.2 ⟨x, hx, rfl⟩))
 rw [← hxy]; exact h.1 y hy
theorem BornOk.modify {es : Array MapEntry} {ck : Nat} (h : BornOk es ck) (j : Nat) (f : MapEntry → MapEntry) (hf : ∀ e, (f e).born = e.born) : BornOk (es.modify j f) ck :=
 h.of_born (by rw [map_modify_born es j f hf]; exact List.Sublist.refl _)
theorem BornOk.erase {es : Array MapEntry} {ck : Nat} (h : BornOk es ck) {j : Nat} (hj : j < es.size) : BornOk (es.eraseIdxIfInBounds j) ck :=
 h.of_born (by
  have hel : (es.eraseIdxIfInBounds j).toList = es.toList.eraseIdx j := by simp [Array.eraseIdxIfInBounds, hj]
  rw [hel]; exact (List.eraseIdx_sublist _ _).map _)
theorem St.Of.writeMap {W w : World} {a : Act} {σ : AS} {ι : Emb} {R : Nat → Prop} (h : St.Of A W w a σ ι R) {id g : Nat} {c : Cp} {b : Blk} {es es' : Array MapEntry} {ck ck' : Nat} {ks' : List Value} {xs' : List AV}
  (hid : σ.heap id = some b) (hi : ι id = some (some (g, c))) (hh : w.heap[g]? = some (.map es ck))
  (hk : es'.toList.map (·.key) = ks') (hr : RelL ι R w xs' (es'.toList.map (·.val))) (ho : Ones (es'.toList.map (·.val))) (hbn : BornOk es' ck') :
  St.Of A W { w with heap := w.heap.setIfInBounds g (.map es' ck') } a { σ with heap := upd σ.heap id (some (.map ks' xs')), seen := upd σ.seen id true } ι R := by
 have hs := heap_set_at (o' := .map es' ck') hh
 refine h.write (w' := { w with heap := w.heap.setIfInBounds g (.map es' ck') }) hid hi rfl rfl rfl (by simp) hs.2 ?_
 exact ⟨g, c, es', ck', hi, hs.1, hk, RelL.mono (fun _ _ e => e) (fun _ e => e) (fun k hkR => hs.2 k (fun e => h.out id b g c hid hi (e ▸ hkR))) _ _ hr, ho, hbn⟩
theorem exec_sound (hT : TabOk P T) {W w : World} {a : Act} {σ : AS} {ι : Emb} {R : Nat → Prop} (h : St.Of A W w a σ ι R) {o : Oper} {K : Act → World → Prop} {Q : Exit → Act → World → Prop}
  (hw : ∀ x ∈ o.op.operands.toList, (σ.ev x).when = true) (hok : (effOf T σ.bev σ.heap o.dst o.op).ok)
  (hfr : isStore o.op = false → ∀ x ∈ (effOf T σ.bev σ.heap o.dst o.op).set, σ.seen x.1 = false) (hd : ∀ d, o.dst = some d → d < σ.n)
  (hK : ∀ a' w', St A W w' a' (σ.after o (effOf T σ.bev σ.heap o.dst o.op).v (effOf T σ.bev σ.heap o.dst o.op).set (effOf T σ.bev σ.heap o.dst o.op).del) → K a' w') : o.wp P a w K Q := by
 have hev : ∀ x ∈ o.op.operands.toList, RelA ι R w (σ.bev x) (a.eval x) := fun x hx => (h.ev x).bare (hw x hx)
 have fin : ∀ (s : Sem Value) (r : Value) (w' : World), s.run P w = .ok r w' → (do pure (Next.value (← s)) : Sem Next).run P w = .ok (.value r) w' := by
  intro s r w' hs; simp [hs]
 have finu : ∀ (s : Sem Unit) (w' : World), s.run P w = .ok () w' → (do s; pure Next.skip : Sem Next).run P w = .ok .skip w' := by
  intro s w' hs; simp [hs]
 have nothing : ∀ {v : AV} {u : Value}, (∀ a' w', St A W w' a' (σ.after o v [] []) → K a' w') → (execOp a.eval o).run P w = .ok (.value u) w → RelA ι R w v u → o.wp P a w K Q := by
  intro v u hK' hrun hr
  exact wp_value hd hK' hrun (by exact h) hr
 generalize heff : effOf T σ.bev σ.heap o.dst o.op = eff at hok hfr hK
 unfold effOf at heff
 split at heff
 ·rename_i t x hop
  subst heff
  obtain ⟨r, h1, h2⟩ := load_sound hT h.heap t (hev x (by simp [hop, Op.operands])) hok
  exact nothing hK (by simp only [execOp, hop]; exact fin _ _ _ h1) h2
 ·rename_i t x hop
  subst heff
  have hx := hev x (by simp [hop, Op.operands])
  have hc := RelL.cellsOf hx hok.2
  have ho := ones_of hc hok.1
  obtain ⟨ι', hi', hst⟩ := h.newBlock (f := fid o.dst 0) (hfr (by simp [hop, isStore]) _ (List.mem_singleton.2 rfl)) (a.eval x).cells t (.box (σ.bev x).cells) ⟨0, 0⟩ (by
   intro ι' w' hι hw' hi hh
   exact ⟨_, _, _, _, hi, hh, RelL.mono hι (fun _ e => e) hw' _ _ hc, ho⟩)
  exact wp_value hd hK (u := .pointer (some ⟨w.heap.size, 0, none⟩)) (by simp only [execOp, hop]; exact fin _ _ _ (by simp [Instr.box, newVar, newRow])) hst (by simp only [RelA]; exact ⟨_, _, hi', rfl⟩)
 ·rename_i t hop
  split at heff
  ·rename_i ti ht
   subst heff
   have hc : RelL ι R w (zeroAV ti.zero).cells ti.zero.cells.toList := by
    cases ti.zero <;> first
     | (simp only [zeroAV, AV.cells, Value.cells, RelL, RelA, RelP]; simp; done)
     | (simp only [zeroAV, AV.cells, Value.cells]; exact rawsRel _)
   have ho := ones_of hc hok
   obtain ⟨ι', hi', hst⟩ := h.newBlock (f := fid o.dst 0) (hfr (by simp [hop, isStore]) _ (List.mem_singleton.2 rfl)) ti.zero.cells t (.box (zeroAV ti.zero).cells) ⟨0, 0⟩ (by
    intro ι' w' hι hw' hi hh
    exact ⟨_, _, _, _, hi, hh, RelL.mono hι (fun _ e => e) hw' _ _ hc, ho⟩)
   exact wp_value hd hK (u := .pointer (some ⟨w.heap.size, 0, none⟩)) (by simp only [execOp, hop]; exact fin _ _ _ (by simp [Instr.alloc, hT.run_zero ht, newVar, newRow])) hst (by simp only [RelA]; exact ⟨_, _, hi', rfl⟩)
  ·subst heff; exact hok.elim
 ·rename_i t len parts hop
  split at heff
  ·rename_i e _ _ _ _ ht
   split at heff
   ·rename_i ti he
    subst heff
    obtain ⟨hs, hln, hz, hfl, hall⟩ := hok
    have hzpos : 0 < ti.zero.cells.size := by omega
    obtain ⟨r, hfill, hrel⟩ := fill_sound (ι := ι) (R := R) (w := w) (fun i => some (i * ti.size, ti.size)) (parts.toList.map fun p => (p.1, σ.bev p.2)) (parts.toList.map fun p => (p.1, a.eval p.2))
     ((repCells ti.zero.cells.toList 0 (len * ti.size)).map .raw) ((Array.range (len * ti.size)).map (ti.zero.cells[· % ti.zero.cells.size]!)) (by simp) (by
      intro i p u hp hu
      simp only [List.getElem?_map] at hp hu
      cases hi : parts.toList[i]? with
      | none => simp [hi] at hp
      | some q =>
       simp only [hi, Option.map_some, Option.some.injEq] at hp hu
       subst hp; subst hu
       exact hev q.2 (by
        have := List.mem_of_getElem? hi
        simp only [hop, Op.operands, List.mem_map]
        exact ⟨q, this, rfl⟩)) (by
      rw [repCells_eq _ _ _ hzpos]
      have : ((Array.range (len * ti.size)).map (ti.zero.cells[· % ti.zero.cells.size]!)).toList = (List.range' 0 (len * ti.size)).map (fun k => ti.zero.cells[k % ti.zero.cells.size]!) := by
       simp [List.range_eq_range']
      rw [this]
      exact rawsRel _) hfl
    have ho := ones_of hrel hall
    have hlen : r.size = len * ti.size := by
     have := hrel.length
     have h2 : ∀ (ps : List (Nat × AV)) (cs : List AV), (fillAV (fun i => some (i * ti.size, ti.size)) cs ps).2.length = cs.length := by
      intro ps
      induction ps with
      | nil => intro cs; rfl
      | cons p ps ih => intro cs; obtain ⟨i, v⟩ := p; simp only [fillAV]; rw [ih, setCells_length]
     rw [h2] at this
     rw [repCells_eq _ _ _ hzpos] at this
     simpa using this.symm
    obtain ⟨ι', hi', hst⟩ := h.newBlock (f := fid o.dst 0) (hfr (by simp [hop, isStore]) _ (List.mem_singleton.2 rfl)) r e (.row e ti.size (fillAV (fun i => some (i * ti.size, ti.size)) ((repCells ti.zero.cells.toList 0 (len * ti.size)).map .raw) (parts.toList.map fun p => (p.1, σ.bev p.2))).2) ⟨len, 0⟩ (by
     intro ι' w' hι hw' hi hh
     have hlc : (fillAV (fun i => some (i * ti.size, ti.size)) ((repCells ti.zero.cells.toList 0 (len * ti.size)).map .raw) (parts.toList.map fun p => (p.1, σ.bev p.2))).2.length = len * ti.size := by rw [hrel.length]; simpa using hlen
     have hlen2 : len ≤ 16777216 := Nat.le_trans (Nat.le_mul_of_pos_right _ hs) hln
     have ht : r.toList.take (len * ti.size) = r.toList := List.take_of_length_le (by simp; omega)
     refine ⟨len, hlc, hs, by omega, .inr ⟨_, len, 0, r, hi, hh, by rw [Nat.zero_add]; exact hlen, Nat.le_refl _, by unfold maxLen; omega, ?_, ?_⟩⟩
     ·rw [List.drop_zero, ht]; exact RelL.mono hι (fun _ e => e) hw' _ _ hrel
     ·rw [List.drop_zero, ht]; exact ho)
    refine wp_value hd hK (u := .slice (some ⟨w.heap.size, 0, none⟩) len len) ?_ hst (by simp only [RelA]; exact .inr ⟨_, _, some ⟨w.heap.size, 0, none⟩, hi', by simp, by show 0 + len ≤ len; omega, fun _ => by simp⟩)
    simp only [execOp, hop]
    refine fin _ _ _ ?_
    unfold Instr.buildSlice
    have hnb : ¬ (len * ti.size > 2 ^ 24) := by
     have : (2 : Nat) ^ 24 = 16777216 := by decide
     omega
    simp only [Sem.run_bind, hT.run_under ht, Result.andThen_ok, hT.run_size he, if_neg hnb, Sem.run_pure]
    have hpm : (parts.map fun (x : Nat × Operand) => (x.1, a.eval x.2)).toList = parts.toList.map fun p => (p.1, a.eval p.2) := by simp
    by_cases h0 : len * ti.size = 0
    ·simp only [h0, if_true, Sem.run_pure, Result.andThen_ok]
     simp only [h0] at hfill
     have e0 : ∀ f : Nat → Value, (Array.range 0).map f = #[] := fun f => by simp [Array.range]
     rw [e0] at hfill
     simp only [pure_bind, e0]
     simp [hfill, newRow]
    ·simp only [if_neg h0, Sem.run_bind, hT.run_zero he, Result.andThen_ok, Sem.run_pure]
     simp [hfill, newRow]
   ·subst heff; exact hok.elim
  ·subst heff; exact hok.elim
 ·rename_i t lo co hop
  split at heff
  ·rename_i e _ _ _ _ ht
   split at heff
   ·rename_i ti he
    split at heff
    ·rename_i kl n kc m hl hc
     subst heff
     obtain ⟨rfl, h0, hs, hz, hall, hb1, hb2⟩ := hok
     have hlv := hev lo (by simp [hop, Op.operands])
     have hcv := hev co (by simp [hop, Op.operands])
     rw [hl] at hlv
     rw [hc] at hcv
     have hle := raw_inv hlv
     have hce := raw_inv hcv
     have hPt : P.underlying t = some (.slice e) := hT.under ht
     obtain ⟨_, info, hPi, hi1, hi2, hi3, _⟩ := hT e ti he
     have hbb : (info.bytes : Int) * m ≤ 281474976710656 := by
      rw [hi2]
      have h1 : ((m.toNat * ti.bytes : Nat) : Int) ≤ 140737488355328 := by omega
      rw [Int.natCast_mul, Int.toNat_of_nonneg h0, Int.mul_comm] at h1
      omega
     have hrun := run_make (P := P) w t e info ti.zero hPt hPi hi3 kl kc m m h0 (Int.le_refl _) hbb (by omega)
     rw [hi1] at hrun
     have hmc : (madeCells ti.zero.cells (m.toNat * ti.size)).toList = repCells ti.zero.cells.toList 0 (m.toNat * ti.size) := by
      rw [repCells_eq _ _ _ (by omega)]
      simp [madeCells, List.range_eq_range']
     have hlen : (repCells ti.zero.cells.toList 0 (m.toNat * ti.size)).length = m.toNat * ti.size := by rw [← hmc]; simp [madeCells]
     obtain ⟨ι', hi', hst⟩ := h.newBlock (f := fid o.dst 0) (hfr (by simp [hop, isStore]) _ (List.mem_singleton.2 rfl)) (madeCells ti.zero.cells (m.toNat * ti.size)) e (.row e ti.size ((repCells ti.zero.cells.toList 0 (m.toNat * ti.size)).map .raw)) ⟨m.toNat, 0⟩ (by
      intro ι' w' hι hw' hi hh
      have ht : (madeCells ti.zero.cells (m.toNat * ti.size)).toList.take (m.toNat * ti.size) = repCells ti.zero.cells.toList 0 (m.toNat * ti.size) := by
       rw [hmc, List.take_of_length_le (by omega)]
      refine ⟨m.toNat, by rw [List.length_map, hlen], hs, hb2, .inr ⟨_, m.toNat, 0, _, hi, hh, by simp [madeCells], Nat.le_refl _, by unfold maxLen; omega, ?_, ?_⟩⟩
      ·rw [List.drop_zero, ht]; exact rawsRel _
      ·rw [List.drop_zero, ht, repCells_eq _ _ _ (by omega)]
       intro u hu
       obtain ⟨k, _, rfl⟩ := List.mem_map.1 hu
       have hk : k % ti.zero.cells.size < ti.zero.cells.size := Nat.mod_lt _ (by omega)
       have hone : Ones ti.zero.cells.toList := ones_of (ι := ι) (R := R) (w := w) (rawsRel _) hall
       exact hone _ (by simp [hk]))
     refine wp_value hd hK (u := .slice (some ⟨w.heap.size, 0, none⟩) m.toNat m.toNat) ?_ hst (by simp only [RelA]; exact .inr ⟨_, _, some ⟨w.heap.size, 0, none⟩, hi', by simp, by show 0 + m.toNat ≤ m.toNat; omega, fun _ => by simp⟩)
     simp only [execOp, hop]
     refine fin _ _ _ ?_
     rw [hle, hce]
     exact hrun
    ·subst heff; exact hok.elim
   ·subst heff; exact hok.elim
  ·subst heff; exact hok.elim
 ·rename_i t ad x hop
  split at heff
  ·rename_i ti ht
   split at heff
   ·rename_i id off hea
    have hra := hev ad (by simp [hop, Op.operands])
    have hrx := hev x (by simp [hop, Op.operands])
    replace hra := hra.unpix
    rw [hea] at hra
    simp only [RelA] at hra
    obtain ⟨g, c, hi, hau⟩ := hra
    have key : ∀ (cs : List AV) (b' : Blk) (cur : Array Value) (e : TypeId), w.heap[g]? = some (.cells cur e (0, 0)) → (σ.bev x).cells.all AV.one = true → ((σ.bev x).one || (σ.bev x).isAgg) = true → (σ.bev x).cells.length = ti.size → off + c.base + ti.size ≤ cur.size →
      (∀ cur' : Array Value, cur'.toList = cur.toList.take (off + c.base) ++ (a.eval x).cells.toList ++ cur.toList.drop (off + c.base + (a.eval x).cells.toList.length) → RelL ι R w (σ.bev x).cells (a.eval x).cells.toList → Ones (a.eval x).cells.toList →
       ∀ w', w'.heap[g]? = some (.cells cur' e (0, 0)) → (∀ k, R k → w'.heap[k]? = w.heap[k]?) → RelB ι R w' id b') → (∃ b, σ.heap id = some b) →
      (∀ a' w', St A W w' a' (σ.after o (.raw undef) [(id, b')] []) → K a' w') → o.wp P a w K Q := by
     intro cs b' cur e hh hone hag hlx hle hrelb ⟨b, hbk⟩ hK'
     have hc := RelL.cellsOf hrx hag
     have ho := ones_of hc hone
     have hl : (a.eval x).cells.size = ti.size := by have := hc.length; simp at this; omega
     have hrun := run_storeCells_at P g (off + c.base) e (a.eval x).cells.toList 0 cur w hh (by simp; omega) ho
     simp only [Nat.add_zero] at hrun
     have hst := h.write (w' := w.setRow g (cur.toList.take (off + c.base) ++ (a.eval x).cells.toList ++ cur.toList.drop (off + c.base + (a.eval x).cells.toList.length)).toArray) (b' := b') hbk hi rfl rfl rfl (by simp [World.setRow]) (fun k hk => setRow_other w g k _ hk)
      (hrelb _ (by simp) hc ho _ (setRow_heap w g cur _ e _ hh) (fun k hk => setRow_other w g k _ (fun e' => h.out id b g c hbk hi (e' ▸ hk))))
     refine wp_skip' (w' := w.setRow g (cur.toList.take (off + c.base) ++ (a.eval x).cells.toList ++ cur.toList.drop (off + c.base + (a.eval x).cells.toList.length)).toArray) hd hK' ?_ (by exact hst)
     simp only [execOp, hop]
     refine finu _ _ ?_
     simp only [Instr.storeAt, hau, Instr.sureAddr, Sem.run_bind, Sem.run_pure, Result.andThen_ok, storeVar, hT.run_size ht]
     simp only [ne_eq, hl, not_true_eq_false, if_false, Sem.run_pure, Result.andThen_ok]
     exact hrun
    split at heff
    ·rename_i cs hid
     subst heff
     obtain ⟨h1, h2, h3, h4⟩ := hok
     obtain ⟨g', c', cur, e, hi', hh, hr, hon⟩ := h.heap id _ hid
     rw [hi] at hi'
     obtain ⟨rfl, rfl⟩ : g = g' ∧ c = ⟨c', 0⟩ := by simpa using hi'
     have hll := hr.length
     refine key cs _ cur e hh h1 h2 h3 (by simp at hll ⊢; omega) ?_ ⟨_, hid⟩ hK
     intro cur' hc' hc ho w' hh' hR
     simp only [Nat.add_zero] at hc'
     refine ⟨g, _, cur', e, hi, hh', ?_, ?_⟩
     ·rw [hc']
      exact RelL.mono (fun _ _ e => e) (fun _ e => e) hR _ _ (RelL.seg off hc hr (by omega))
     ·rw [hc']
      intro u hu
      rcases List.mem_append.1 hu with hu | hu
      ·rcases List.mem_append.1 hu with hu | hu
       ·exact hon u (List.mem_of_mem_take hu)
       ·exact ho u hu
      ·exact hon u (List.mem_of_mem_drop hu)
    ·rename_i e s cs hid
     subst heff
     obtain ⟨h1, h2, h3, h4⟩ := hok
     obtain ⟨n, hln, hs, hn, hb⟩ := h.heap id _ hid
     rcases hb with ⟨hin, _⟩ | ⟨g', cap, base, cur, hi', hh, hsz, hnc, hcm, hr, hon⟩
     ·rw [hi] at hin; cases hin
     rw [hi] at hi'
     obtain ⟨rfl, rfl⟩ : g = g' ∧ c = ⟨cap, base⟩ := by simpa using hi'
     have hll := hr.length
     have hnm : base + n * s ≤ cur.size := by rw [hsz]; exact Nat.add_le_add_left (Nat.mul_le_mul_right _ hnc) _
     refine key cs _ cur e hh h1 h2 h3 (by show off + base + ti.size ≤ cur.size; omega) ?_ ⟨_, hid⟩ hK
     intro cur' hc' hc ho w' hh' hR
     have hlc := hc.length
     have hcz : cur'.size = cur.size := by
      have := congrArg List.length hc'
      simp at this
      simp at hlc
      omega
     have htk := window cur.toList (a.eval x).cells.toList base (n * s) off (by rw [Array.length_toList]; exact hnm) (by omega)
     rw [show cur.toList.take (off + base) ++ (a.eval x).cells.toList ++ cur.toList.drop (off + base + (a.eval x).cells.toList.length) = cur'.toList from hc'.symm] at htk
     refine ⟨n, by rw [setCells_length]; exact hln, hs, hn, .inr ⟨g, cap, base, cur', hi, hh', by omega, hnc, hcm, ?_, ?_⟩⟩
     ·rw [htk]
      exact RelL.mono (fun _ _ e => e) (fun _ e => e) hR _ _ (RelL.seg off hc hr (by omega))
     ·rw [htk]
      intro u hu
      rcases List.mem_append.1 hu with hu | hu
      ·rcases List.mem_append.1 hu with hu | hu
       ·exact hon u (List.mem_of_mem_take hu)
       ·exact ho u hu
      ·exact hon u (List.mem_of_mem_drop hu)
    ·subst heff; exact hok.elim
   ·subst heff; exact hok.elim
  ·subst heff; exact hok.elim
 ·rename_i t hop
  subst heff
  obtain ⟨ι', hi', hst⟩ := h.newObj (f := fid o.dst 0) (hfr (by simp [hop, isStore]) _ (List.mem_singleton.2 rfl)) (.map #[] 0) (.map [] []) ⟨0, 0⟩ (by
   intro ι' w' hι hw' hi hh
   exact ⟨_, _, #[], 0, hi, hh, by simp, by simp [RelL], by intro u hu; simp at hu, by simp [BornOk]⟩)
  exact wp_value hd hK (u := .map (some w.heap.size)) (by simp only [execOp, hop]; exact fin _ _ _ (by simp [Instr.makeMap])) hst (by simp only [RelA]; exact ⟨_, _, hi', rfl⟩)
 ·rename_i t m k ok hop
  split at heff
  ·rename_i kt et _ _ _ _ ht
   split at heff
   ·rename_i ik _ _ _ _ ti hkt het
    split at heff
    ·rename_i id kv hm hk
     split at heff
     ·rename_i ks xs hid
      subst heff
      have hko : keysOk (.int ik) kv ks := hok
      have hrm := hev m (by simp [hop, Op.operands])
      have hrk := hev k (by simp [hop, Op.operands])
      rw [hm] at hrm
      rw [hk] at hrk
      have hkv := raw_inv hrk
      simp only [RelA] at hrm
      obtain ⟨g, c, hi, hmu⟩ := hrm
      obtain ⟨g', c', es, ck, hi', hh, hks, hr, ho, hbn⟩ := h.heap id _ hid
      rw [hi] at hi'
      obtain ⟨rfl, rfl⟩ : g = g' ∧ c = c' := by simpa using hi'
      have hPt := hT.under ht
      have hPk := hT.under hkt
      have hxl : xs.length = es.toList.length := by have := hr.length; simpa using this
      have hf := map_find (u := .int ik) (k := kv) es.toList ks xs 0 hks hxl hko.2
      have hz : RelA ι R w (zeroAV ti.zero) ti.zero := by
       cases ti.zero <;> first
        | (simp only [zeroAV, RelA, RelP]; done)
        | (simp only [zeroAV, RelA]; exact ⟨_, rfl, rawsRel _⟩)
      have main : ∀ (v : Value) (b : Bool) (x : AV), (mapGet kv ks xs).isSome = b → (match mapGet kv ks xs with | some x => x | none => zeroAV ti.zero) = x → RelA ι R w x v →
        (Instr.lookup t (.map (some g)) kv ok).run P w = .ok (if ok then .tuple #[v, .bool b] else v) w → o.wp P a w K Q := by
       intro v b x hb hx hrx hrun
       have hK' : ∀ a' w', St A W w' a' (σ.after o (bif ok then .tup [x, .bool b] else x) [] []) → K a' w' := by
        intro a' w' hst
        refine hK a' w' ?_
        show St A W w' a' (σ.after o (bif ok then .tup [(match mapGet kv ks xs with | some x => x | none => zeroAV ti.zero), .bool (mapGet kv ks xs).isSome] else (match mapGet kv ks xs with | some x => x | none => zeroAV ti.zero)) [] [])
        rw [hx, hb]
        exact hst
       refine nothing hK' (u := if ok then .tuple #[v, .bool b] else v) ?_ ?_
       ·simp only [execOp, hop]
        refine fin _ _ _ ?_
        rw [hmu, hkv]
        exact hrun
       ·cases ok with
        | false => exact hrx
        | true =>
         simp only [cond_true, if_true, RelA]
         exact ⟨_, rfl, by simp only [RelL, RelA, RelP]; exact ⟨hrx, trivial, trivial⟩⟩
      rcases hf with ⟨f1, f2, _, _⟩ | ⟨j, e, y, f1, f2, f3, f4, _, _, _⟩
      ·refine main ti.zero false (zeroAV ti.zero) (by rw [f2]; rfl) (by rw [f2]) hz ?_
       simp [Instr.lookup, run_underlying hPt, Go.MapKept.run_getObj_map hh, run_checkKey_int hPk hko.1, Go.MapKept.run_findKey hPk f1, hT.run_zero het, Result.andThen]
      ·refine main e.val true y (by rw [f4]; rfl) (by rw [f4]) ?_ ?_
       ·obtain ⟨v, hv, hrv⟩ := hr.get j y f3
        rw [List.getElem?_map, f2] at hv
        cases hv
        exact hrv
       ·rw [Nat.zero_add] at f1
        simp [Instr.lookup, run_underlying hPt, Go.MapKept.run_getObj_map hh, run_checkKey_int hPk hko.1, Go.MapKept.run_findKey hPk f1, Result.andThen]
     ·subst heff; exact hok.elim
    ·subst heff; exact hok.elim
   ·rename_i fs s b z ti hkt het
    split at heff
    ·rename_i id cs hm hk
     split at heff
     ·rename_i vs ks xs hvs hid
      subst heff
      have hko : keysOkS T fs (.agg vs.toArray) ks := hok
      have hrm := hev m (by simp [hop, Op.operands])
      have hrk := hev k (by simp [hop, Op.operands])
      rw [hm] at hrm
      rw [hk] at hrk
      simp only [RelA] at hrk
      obtain ⟨us, hus, hrl⟩ := hrk
      have hkv : a.eval k = .agg vs.toArray := by rw [hus, ← raws_inv hrl hvs]
      simp only [RelA] at hrm
      obtain ⟨g, c, hi, hmu⟩ := hrm
      obtain ⟨g', c', es, ck, hi', hh, hks, hr, ho, hbn⟩ := h.heap id _ hid
      rw [hi] at hi'
      obtain ⟨rfl, rfl⟩ : g = g' ∧ c = c' := by simpa using hi'
      have hPt := hT.under ht
      have hQ := keyRunsS hT hkt hko
      have hxl : xs.length = es.toList.length := by have := hr.length; simpa using this
      have hf := hQ.find w es.toList xs hks hxl
      have hz : RelA ι R w (zeroAV ti.zero) ti.zero := by
       cases ti.zero <;> first
        | (simp only [zeroAV, RelA, RelP]; done)
        | (simp only [zeroAV, RelA]; exact ⟨_, rfl, rawsRel _⟩)
      have main : ∀ (v : Value) (b : Bool) (x : AV), (mapGet (.agg vs.toArray) ks xs).isSome = b → (match mapGet (.agg vs.toArray) ks xs with | some x => x | none => zeroAV ti.zero) = x → RelA ι R w x v →
        (Instr.lookup t (.map (some g)) (.agg vs.toArray) ok).run P w = .ok (if ok then .tuple #[v, .bool b] else v) w → o.wp P a w K Q := by
       intro v b x hb hx hrx hrun
       have hK' : ∀ a' w', St A W w' a' (σ.after o (bif ok then .tup [x, .bool b] else x) [] []) → K a' w' := by
        intro a' w' hst
        refine hK a' w' ?_
        show St A W w' a' (σ.after o (bif ok then .tup [(match mapGet (.agg vs.toArray) ks xs with | some x => x | none => zeroAV ti.zero), .bool (mapGet (.agg vs.toArray) ks xs).isSome] else (match mapGet (.agg vs.toArray) ks xs with | some x => x | none => zeroAV ti.zero)) [] [])
        rw [hx, hb]
        exact hst
       refine nothing hK' (u := if ok then .tuple #[v, .bool b] else v) ?_ ?_
       ·simp only [execOp, hop]
        refine fin _ _ _ ?_
        rw [hmu, hkv]
        exact hrun
       ·cases ok with
        | false => exact hrx
        | true =>
         simp only [cond_true, if_true, RelA]
         exact ⟨_, rfl, by simp only [RelL, RelA, RelP]; exact ⟨hrx, trivial, trivial⟩⟩
      rcases hf with ⟨f1, f2, _⟩ | ⟨j, e, y, f1, f2, f3, f4, _, _⟩
      ·refine main ti.zero false (zeroAV ti.zero) (by rw [f2]; rfl) (by rw [f2]) hz ?_
       simp [Instr.lookup, run_underlying hPt, Go.MapKept.run_getObj_map hh, hQ.check, f1, hT.run_zero het, Result.andThen]
      ·refine main e.val true y (by rw [f4]; rfl) (by rw [f4]) ?_ ?_
       ·obtain ⟨v, hv, hrv⟩ := hr.get j y f3
        rw [List.getElem?_map, f2] at hv
        cases hv
        exact hrv
       ·simp [Instr.lookup, run_underlying hPt, Go.MapKept.run_getObj_map hh, hQ.check, f1, Result.andThen]
     ·subst heff; exact hok.elim
    ·subst heff; exact hok.elim
   ·subst heff; exact hok.elim
  ·subst heff; exact hok.elim
 ·rename_i t m k x hop
  split at heff
  ·rename_i kt et _ _ _ _ ht
   split at heff
   ·rename_i ik _ _ _ _ hkt
    split at heff
    ·rename_i id kv hm hk
     split at heff
     ·rename_i ks xs hid
      subst heff
      obtain ⟨hko, hone⟩ := hok
      have hrm := hev m (by simp [hop, Op.operands])
      have hrk := hev k (by simp [hop, Op.operands])
      have hrx := hev x (by simp [hop, Op.operands])
      rw [hm] at hrm
      rw [hk] at hrk
      have hkv := raw_inv hrk
      simp only [RelA] at hrm
      obtain ⟨g, c, hi, hmu⟩ := hrm
      obtain ⟨g', c', es, ck, hi', hh, hks, hr, ho, hbn⟩ := h.heap id _ hid
      rw [hi] at hi'
      obtain ⟨rfl, rfl⟩ : g = g' ∧ c = c' := by simpa using hi'
      have hux : (a.eval x).oneCell' = true := RelA.one hrx hone
      have hPt := hT.under ht
      have hPk := hT.under hkt
      have hxl : xs.length = es.toList.length := by have := hr.length; simpa using this
      have hf := map_find (u := .int ik) (k := kv) es.toList ks xs 0 hks hxl hko.2
      have hrun : ∀ w', (Instr.mapUpdate t (.map (some g)) kv (a.eval x)).run P w = .ok () w' → St.Of A W w' a { σ with heap := setH (delH σ.heap []) [(id, .map (mapPut kv (σ.bev x) ks xs).1 (mapPut kv (σ.bev x) ks xs).2)], seen := seenS σ.seen [(id, .map (mapPut kv (σ.bev x) ks xs).1 (mapPut kv (σ.bev x) ks xs).2)] } ι R → o.wp P a w K Q := by
       intro w' hw' hst
       refine wp_skip' hd hK ?_ hst
       simp only [execOp, hop]
       refine finu _ _ ?_
       rw [hmu, hkv]
       exact hw'
      rcases hf with ⟨f1, _, f3, _⟩ | ⟨j, e, y, f1, f2, f3, f4, f5, f6, f7⟩
      ·refine hrun { w with heap := w.heap.setIfInBounds g (.map (es.push { key := kv, val := a.eval x, born := ck }) (ck + 1)) } ?_ ?_
       ·simp [Instr.mapUpdate, run_underlying hPt, Go.MapKept.run_getObj_map hh, run_checkKey_int hPk hko.1, Go.MapKept.run_findKey hPk f1, Go.MapKept.run_setObj_map _ hh, Result.andThen]
       ·rw [f3]
        have hst := h.writeMap (es' := es.push { key := kv, val := a.eval x, born := ck }) (ck' := ck + 1) (ks' := ks ++ [kv]) (xs' := xs ++ [σ.bev x]) hid hi hh (by simp [← hks]) (by simpa using hr.append (show RelL ι R w [σ.bev x] [a.eval x] by simp only [RelL]; exact ⟨hrx, trivial⟩)) (by
         intro u hu
         simp only [Array.toList_push, List.map_append, List.mem_append, List.map_cons, List.map_nil, List.mem_singleton] at hu
         rcases hu with hu | rfl
         ·exact ho u hu
         ·exact hux) (hbn.push _ rfl)
        exact hst
      ·have hj : es[j]? = some e := by simpa using f2
       have hek : e.key = kv := by
        have hmem : e.key ∈ ks := by rw [← hks]; exact List.mem_map.2 ⟨e, List.mem_of_getElem? f2, rfl⟩
        have := hko.2 _ hmem
        rw [f7] at this
        exact keyEq_eq this hko.1
       refine hrun { w with heap := w.heap.setIfInBounds g (.map (es.modify j fun e => { e with key := kv, val := a.eval x }) ck) } ?_ ?_
       ·rw [Nat.zero_add] at f1
        simp [Instr.mapUpdate, run_underlying hPt, Go.MapKept.run_getObj_map hh, run_checkKey_int hPk hko.1, Go.MapKept.run_findKey hPk f1, hj, run_keyThatStays_int hko.1 hek, Go.MapKept.run_setObj_map _ hh, Result.andThen]
       ·rw [f5]
        obtain ⟨m1, m2⟩ := map_modify_key es j kv (a.eval x) e hj hek
        have hst := h.writeMap (es' := es.modify j fun e => { e with key := kv, val := a.eval x }) (ck' := ck) (ks' := ks) (xs' := xs.set j (σ.bev x)) hid hi hh (m1.trans hks) (by rw [m2]; exact hr.set j hrx) (by rw [m2]; exact ho.set hux j) (hbn.modify j _ fun _ => rfl)
        exact hst
     ·subst heff; exact hok.elim
    ·subst heff; exact hok.elim
   ·rename_i fs s b z hkt
    split at heff
    ·rename_i id cs hm hk
     split at heff
     ·rename_i vs ks xs hvs hid
      subst heff
      obtain ⟨hko, hone⟩ := hok
      have hrm := hev m (by simp [hop, Op.operands])
      have hrk := hev k (by simp [hop, Op.operands])
      have hrx := hev x (by simp [hop, Op.operands])
      rw [hm] at hrm
      rw [hk] at hrk
      simp only [RelA] at hrk
      obtain ⟨us, hus, hrl⟩ := hrk
      have hkv : a.eval k = .agg vs.toArray := by rw [hus, ← raws_inv hrl hvs]
      simp only [RelA] at hrm
      obtain ⟨g, c, hi, hmu⟩ := hrm
      obtain ⟨g', c', es, ck, hi', hh, hks, hr, ho, hbn⟩ := h.heap id _ hid
      rw [hi] at hi'
      obtain ⟨rfl, rfl⟩ : g = g' ∧ c = c' := by simpa using hi'
      have hux : (a.eval x).oneCell' = true := RelA.one hrx hone
      have hPt := hT.under ht
      have hQ := keyRunsS hT hkt hko
      have hxl : xs.length = es.toList.length := by have := hr.length; simpa using this
      have hf := hQ.find w es.toList xs hks hxl
      have hrun : ∀ w', (Instr.mapUpdate t (.map (some g)) (.agg vs.toArray) (a.eval x)).run P w = .ok () w' → St.Of A W w' a { σ with heap := setH (delH σ.heap []) [(id, .map (mapPut (.agg vs.toArray) (σ.bev x) ks xs).1 (mapPut (.agg vs.toArray) (σ.bev x) ks xs).2)], seen := seenS σ.seen [(id, .map (mapPut (.agg vs.toArray) (σ.bev x) ks xs).1 (mapPut (.agg vs.toArray) (σ.bev x) ks xs).2)] } ι R → o.wp P a w K Q := by
       intro w' hw' hst
       refine wp_skip' hd hK ?_ hst
       simp only [execOp, hop]
       refine finu _ _ ?_
       rw [hmu, hkv]
       exact hw'
      rcases hf with ⟨f1, _, f3⟩ | ⟨j, e, y, f1, f2, f3, f4, f5, f6⟩
      ·refine hrun { w with heap := w.heap.setIfInBounds g (.map (es.push { key := .agg vs.toArray, val := a.eval x, born := ck }) (ck + 1)) } ?_ ?_
       ·simp [Instr.mapUpdate, run_underlying hPt, Go.MapKept.run_getObj_map hh, hQ.check, f1, Go.MapKept.run_setObj_map _ hh, Result.andThen]
       ·rw [f3]
        have hst := h.writeMap (es' := es.push { key := .agg vs.toArray, val := a.eval x, born := ck }) (ck' := ck + 1) (ks' := ks ++ [.agg vs.toArray]) (xs' := xs ++ [σ.bev x]) hid hi hh (by simp [← hks]) (by simpa using hr.append (show RelL ι R w [σ.bev x] [a.eval x] by simp only [RelL]; exact ⟨hrx, trivial⟩)) (by
         intro u hu
         simp only [Array.toList_push, List.map_append, List.mem_append, List.map_cons, List.map_nil, List.mem_singleton] at hu
         rcases hu with hu | rfl
         ·exact ho u hu
         ·exact hux) (hbn.push _ rfl)
        exact hst
      ·have hj : es[j]? = some e := by simpa using f2
       refine hrun { w with heap := w.heap.setIfInBounds g (.map (es.modify j fun e => { e with key := .agg vs.toArray, val := a.eval x }) ck) } ?_ ?_
       ·simp [Instr.mapUpdate, run_underlying hPt, Go.MapKept.run_getObj_map hh, hQ.check, f1, hj, f6, hQ.stays, Go.MapKept.run_setObj_map _ hh, Result.andThen]
       ·rw [f5]
        obtain ⟨m1, m2⟩ := map_modify_key es j (.agg vs.toArray) (a.eval x) e hj f6
        have hst := h.writeMap (es' := es.modify j fun e => { e with key := .agg vs.toArray, val := a.eval x }) (ck' := ck) (ks' := ks) (xs' := xs.set j (σ.bev x)) hid hi hh (m1.trans hks) (by rw [m2]; exact hr.set j hrx) (by rw [m2]; exact ho.set hux j) (hbn.modify j _ fun _ => rfl)
        exact hst
     ·subst heff; exact hok.elim
    ·subst heff; exact hok.elim
   ·subst heff; exact hok.elim
  ·subst heff; exact hok.elim
 ·rename_i t m k x hop
  split at heff
  ·rename_i kt et _ _ _ _ ht
   split at heff
   ·rename_i ik _ _ _ _ hkt
    split at heff
    ·rename_i id kv hm hk
     split at heff
     ·rename_i ks xs hid
      subst heff
      obtain ⟨hko, hone⟩ := hok
      have hrm := hev m (by simp [hop, Op.operands])
      have hrk := hev k (by simp [hop, Op.operands])
      have hrx := hev x (by simp [hop, Op.operands])
      rw [hm] at hrm
      rw [hk] at hrk
      have hkv := raw_inv hrk
      simp only [RelA] at hrm
      obtain ⟨g, c, hi, hmu⟩ := hrm
      obtain ⟨g', c', es, ck, hi', hh, hks, hr, ho, hbn⟩ := h.heap id _ hid
      rw [hi] at hi'
      obtain ⟨rfl, rfl⟩ : g = g' ∧ c = c' := by simpa using hi'
      have hux : (a.eval x).oneCell' = true := RelA.one hrx hone
      have hPt := hT.under ht
      have hPk := hT.under hkt
      have hxl : xs.length = es.toList.length := by have := hr.length; simpa using this
      have hf := map_find (u := .int ik) (k := kv) es.toList ks xs 0 hks hxl hko.2
      have hrun : ∀ w', (Instr.mapUpdate t (.map (some g)) kv (a.eval x)).run P w = .ok () w' → St.Of A W w' a { σ with heap := setH (delH σ.heap []) [(id, .map (mapPut kv (σ.bev x) ks xs).1 (mapPut kv (σ.bev x) ks xs).2)], seen := seenS σ.seen [(id, .map (mapPut kv (σ.bev x) ks xs).1 (mapPut kv (σ.bev x) ks xs).2)] } ι R → o.wp P a w K Q := by
       intro w' hw' hst
       refine wp_skip' hd hK ?_ hst
       simp only [execOp, hop]
       refine finu _ _ ?_
       rw [hmu, hkv]
       exact hw'
      rcases hf with ⟨f1, _, f3, _⟩ | ⟨j, e, y, f1, f2, f3, f4, f5, f6, f7⟩
      ·refine hrun { w with heap := w.heap.setIfInBounds g (.map (es.push { key := kv, val := a.eval x, born := ck }) (ck + 1)) } ?_ ?_
       ·simp [Instr.mapUpdate, run_underlying hPt, Go.MapKept.run_getObj_map hh, run_checkKey_int hPk hko.1, Go.MapKept.run_findKey hPk f1, Go.MapKept.run_setObj_map _ hh, Result.andThen]
       ·rw [f3]
        have hst := h.writeMap (es' := es.push { key := kv, val := a.eval x, born := ck }) (ck' := ck + 1) (ks' := ks ++ [kv]) (xs' := xs ++ [σ.bev x]) hid hi hh (by simp [← hks]) (by simpa using hr.append (show RelL ι R w [σ.bev x] [a.eval x] by simp only [RelL]; exact ⟨hrx, trivial⟩)) (by
         intro u hu
         simp only [Array.toList_push, List.map_append, List.mem_append, List.map_cons, List.map_nil, List.mem_singleton] at hu
         rcases hu with hu | rfl
         ·exact ho u hu
         ·exact hux) (hbn.push _ rfl)
        exact hst
      ·have hj : es[j]? = some e := by simpa using f2
       have hek : e.key = kv := by
        have hmem : e.key ∈ ks := by rw [← hks]; exact List.mem_map.2 ⟨e, List.mem_of_getElem? f2, rfl⟩
        have := hko.2 _ hmem
        rw [f7] at this
        exact keyEq_eq this hko.1
       refine hrun { w with heap := w.heap.setIfInBounds g (.map (es.modify j fun e => { e with key := kv, val := a.eval x }) ck) } ?_ ?_
       ·rw [Nat.zero_add] at f1
        simp [Instr.mapUpdate, run_underlying hPt, Go.MapKept.run_getObj_map hh, run_checkKey_int hPk hko.1, Go.MapKept.run_findKey hPk f1, hj, run_keyThatStays_int hko.1 hek, Go.MapKept.run_setObj_map _ hh, Result.andThen]
       ·rw [f5]
        obtain ⟨m1, m2⟩ := map_modify_key es j kv (a.eval x) e hj hek
        have hst := h.writeMap (es' := es.modify j fun e => { e with key := kv, val := a.eval x }) (ck' := ck) (ks' := ks) (xs' := xs.set j (σ.bev x)) hid hi hh (m1.trans hks) (by rw [m2]; exact hr.set j hrx) (by rw [m2]; exact ho.set hux j) (hbn.modify j _ fun _ => rfl)
        exact hst
     ·subst heff; exact hok.elim
    ·subst heff; exact hok.elim
   ·rename_i fs s b z hkt
    split at heff
    ·rename_i id cs hm hk
     split at heff
     ·rename_i vs ks xs hvs hid
      subst heff
      obtain ⟨hko, hone⟩ := hok
      have hrm := hev m (by simp [hop, Op.operands])
      have hrk := hev k (by simp [hop, Op.operands])
      have hrx := hev x (by simp [hop, Op.operands])
      rw [hm] at hrm
      rw [hk] at hrk
      simp only [RelA] at hrk
      obtain ⟨us, hus, hrl⟩ := hrk
      have hkv : a.eval k = .agg vs.toArray := by rw [hus, ← raws_inv hrl hvs]
      simp only [RelA] at hrm
      obtain ⟨g, c, hi, hmu⟩ := hrm
      obtain ⟨g', c', es, ck, hi', hh, hks, hr, ho, hbn⟩ := h.heap id _ hid
      rw [hi] at hi'
      obtain ⟨rfl, rfl⟩ : g = g' ∧ c = c' := by simpa using hi'
      have hux : (a.eval x).oneCell' = true := RelA.one hrx hone
      have hPt := hT.under ht
      have hQ := keyRunsS hT hkt hko
      have hxl : xs.length = es.toList.length := by have := hr.length; simpa using this
      have hf := hQ.find w es.toList xs hks hxl
      have hrun : ∀ w', (Instr.mapUpdate t (.map (some g)) (.agg vs.toArray) (a.eval x)).run P w = .ok () w' → St.Of A W w' a { σ with heap := setH (delH σ.heap []) [(id, .map (mapPut (.agg vs.toArray) (σ.bev x) ks xs).1 (mapPut (.agg vs.toArray) (σ.bev x) ks xs).2)], seen := seenS σ.seen [(id, .map (mapPut (.agg vs.toArray) (σ.bev x) ks xs).1 (mapPut (.agg vs.toArray) (σ.bev x) ks xs).2)] } ι R → o.wp P a w K Q := by
       intro w' hw' hst
       refine wp_skip' hd hK ?_ hst
       simp only [execOp, hop]
       refine finu _ _ ?_
       rw [hmu, hkv]
       exact hw'
      rcases hf with ⟨f1, _, f3⟩ | ⟨j, e, y, f1, f2, f3, f4, f5, f6⟩
      ·refine hrun { w with heap := w.heap.setIfInBounds g (.map (es.push { key := .agg vs.toArray, val := a.eval x, born := ck }) (ck + 1)) } ?_ ?_
       ·simp [Instr.mapUpdate, run_underlying hPt, Go.MapKept.run_getObj_map hh, hQ.check, f1, Go.MapKept.run_setObj_map _ hh, Result.andThen]
       ·rw [f3]
        have hst := h.writeMap (es' := es.push { key := .agg vs.toArray, val := a.eval x, born := ck }) (ck' := ck + 1) (ks' := ks ++ [.agg vs.toArray]) (xs' := xs ++ [σ.bev x]) hid hi hh (by simp [← hks]) (by simpa using hr.append (show RelL ι R w [σ.bev x] [a.eval x] by simp only [RelL]; exact ⟨hrx, trivial⟩)) (by
         intro u hu
         simp only [Array.toList_push, List.map_append, List.mem_append, List.map_cons, List.map_nil, List.mem_singleton] at hu
         rcases hu with hu | rfl
         ·exact ho u hu
         ·exact hux) (hbn.push _ rfl)
        exact hst
      ·have hj : es[j]? = some e := by simpa using f2
       refine hrun { w with heap := w.heap.setIfInBounds g (.map (es.modify j fun e => { e with key := .agg vs.toArray, val := a.eval x }) ck) } ?_ ?_
       ·simp [Instr.mapUpdate, run_underlying hPt, Go.MapKept.run_getObj_map hh, hQ.check, f1, hj, f6, hQ.stays, Go.MapKept.run_setObj_map _ hh, Result.andThen]
       ·rw [f5]
        obtain ⟨m1, m2⟩ := map_modify_key es j (.agg vs.toArray) (a.eval x) e hj f6
        have hst := h.writeMap (es' := es.modify j fun e => { e with key := .agg vs.toArray, val := a.eval x }) (ck' := ck) (ks' := ks) (xs' := xs.set j (σ.bev x)) hid hi hh (m1.trans hks) (by rw [m2]; exact hr.set j hrx) (by rw [m2]; exact ho.set hux j) (hbn.modify j _ fun _ => rfl)
        exact hst
     ·subst heff; exact hok.elim
    ·subst heff; exact hok.elim
   ·subst heff; exact hok.elim
  ·subst heff; exact hok.elim
 ·rename_i args ts hop
  split at heff
  ·rename_i m k t tr hargs hts
   obtain rfl : args = #[m, k] := by cases args; simp_all
   split at heff
   ·rename_i kt et _ _ _ _ ht
    split at heff
    ·rename_i ik _ _ _ _ hkt
     split at heff
     ·rename_i id kv hm hk
      split at heff
      ·rename_i ks xs hid
       subst heff
       have hko : keysOk (.int ik) kv ks := hok
       have hrm := hev m (by simp [hop, Op.operands, Call.operands])
       have hrk := hev k (by simp [hop, Op.operands, Call.operands])
       rw [hm] at hrm
       rw [hk] at hrk
       have hkv := raw_inv hrk
       simp only [RelA] at hrm
       obtain ⟨g, c, hi, hmu⟩ := hrm
       obtain ⟨g', c', es, ck, hi', hh, hks, hr, ho, hbn⟩ := h.heap id _ hid
       rw [hi] at hi'
       obtain ⟨rfl, rfl⟩ : g = g' ∧ c = c' := by simpa using hi'
       have hPt := hT.under ht
       have hPk := hT.under hkt
       have hxl : xs.length = es.toList.length := by have := hr.length; simpa using this
       have hf := map_find (u := .int ik) (k := kv) es.toList ks xs 0 hks hxl hko.2
       have hts0 : ts[0]? = some t := by rw [← Array.getElem?_toList, hts]; rfl
       have hex : execOp a.eval o = (do pure (Next.value (← Builtin.delete_ ts o.type #[a.eval m, a.eval k]))) := by
        simp only [execOp, hop, resolve, List.map_toArray, List.map_cons, List.map_nil]; rfl
       have hrun : ∀ w', (Builtin.delete_ ts o.type #[.map (some g), kv]).run P w = .ok (.tuple #[]) w' → St.Of A W w' a { σ with heap := setH (delH σ.heap []) [(id, .map (mapDel kv ks xs).1 (mapDel kv ks xs).2)], seen := seenS σ.seen [(id, .map (mapDel kv ks xs).1 (mapDel kv ks xs).2)] } ι R → o.wp P a w K Q := by
        intro w' hw' hst
        refine wp_value hd hK (u := .tuple #[]) ?_ hst (by simp only [RelA]; exact ⟨#[], rfl, by simp [RelL]⟩)
        rw [hex]
        refine fin _ _ _ ?_
        rw [hmu, hkv]
        exact hw'
       rcases hf with ⟨f1, _, _, f4⟩ | ⟨j, e, y, f1, f2, f3, _, _, f6, _⟩
       ·refine hrun { w with heap := w.heap.setIfInBounds g (.map es ck) } ?_ ?_
        ·simp [Builtin.delete_, hts0, run_underlying hPt, Go.MapKept.run_getObj_map hh, run_checkKey_int hPk hko.1, Go.MapKept.run_findKey hPk f1, Go.MapKept.run_setObj_map _ hh, Result.andThen]
        ·rw [f4]
         exact h.writeMap (es' := es) (ck' := ck) (ks' := ks) (xs' := xs) hid hi hh hks hr ho hbn
       ·have hj : es[j]? = some e := by simpa using f2
        have hjl : j < es.size := (Array.getElem?_eq_some_iff.1 hj).1
        have hel : (es.eraseIdxIfInBounds j).toList = es.toList.eraseIdx j := by simp [Array.eraseIdxIfInBounds, hjl]
        refine hrun { w with heap := w.heap.setIfInBounds g (.map (es.eraseIdxIfInBounds j) ck) } ?_ ?_
        ·rw [Nat.zero_add] at f1
         simp [Builtin.delete_, hts0, run_underlying hPt, Go.MapKept.run_getObj_map hh, run_checkKey_int hPk hko.1, Go.MapKept.run_findKey hPk f1, Go.MapKept.run_setObj_map _ hh, Result.andThen]
        ·rw [f6]
         refine h.writeMap (es' := es.eraseIdxIfInBounds j) (ck' := ck) (ks' := ks.eraseIdx j) (xs' := xs.eraseIdx j) hid hi hh ?_ ?_ ?_ (hbn.erase hjl)
         ·rw [hel, ← hks, map_erase]
         ·rw [hel, map_erase]; exact hr.eraseIdx j
         ·rw [hel, map_erase]; exact fun u hu => ho u ((List.eraseIdx_sublist _ _).subset hu)
      ·subst heff; exact hok.elim
     ·subst heff; exact hok.elim
    ·subst heff; exact hok.elim
   ·subst heff; exact hok.elim
  ·subst heff; exact hok.elim
 ·rename_i args ts hop
  split at heff
  ·rename_i s x t t' hargs hts
   obtain rfl : args = #[s, x] := by cases args; simp_all
   obtain rfl : ts = #[t, t'] := by cases ts; simp_all
   split at heff
   ·rename_i e _ _ _ _ e' _ _ _ _ ht ht'
    split at heff
    ·rename_i ti he
     have hrs := hev s (by simp [hop, Op.operands, Call.operands])
     have hrx := hev x (by simp [hop, Op.operands, Call.operands])
     have hex : execOp a.eval o = (do pure (Next.value (← Builtin.append_ #[t, t'] o.type #[a.eval s, a.eval x]))) := by
      simp only [execOp, hop, resolve, List.map_toArray, List.map_cons, List.map_nil]; rfl
     simp only at heff
     split at heff
     ·rename_i hes
      subst heff
      obtain ⟨rfl, hn, hs, hz, hb1, hb2⟩ := hok
      rw [hes] at hrs
      have hus := raw_inv hrs
      obtain ⟨r, w', ι', R', hrun, hst, hr⟩ := append_sound (ty := o.type) hT h ht rfl he hs hz (hfr (by simp [hop, isStore]) _ (List.mem_singleton.2 rfl)) hrx hn (id := fid o.dst 0) (off := 0) (len := 0) (cells := []) (.inl ⟨hus, rfl, rfl⟩) (by simpa using hb1) (by simpa using hb2)
      refine wp_value hd hK (u := r) (w' := w') (by rw [hex]; exact fin _ _ _ hrun) (ι := ι') (R := R') ?_ (by simpa using hr)
      have e1 : upd (upd σ.heap (fid o.dst 0) none) (fid o.dst 0) (some (Blk.row e ti.size ((([] : List AV).drop (0 * ti.size)).take (0 * ti.size) ++ (newsAV σ.heap ti.size (σ.bev x)).2.2))) = setH (delH σ.heap []) [(fid o.dst 0, Blk.row e ti.size (newsAV σ.heap ti.size (σ.bev x)).2.2)] := by
       funext k; simp only [setH, delH, upd, List.drop_nil, List.take_nil, List.nil_append]; split <;> rfl
      rw [e1] at hst
      exact hst
     ·rename_i id s' off len hes
      split at heff
      ·rename_i e'' s'' cells hid
       subst heff
       obtain ⟨rfl, hn, hs, hz, rfl, rfl, rfl, hcl, hb1, hb2⟩ := hok
       rw [hes] at hrs
       obtain ⟨r, w', ι', R', hrun, hst, hr⟩ := append_sound (ty := o.type) hT h ht rfl he hs hz (hfr (by simp [hop, isStore]) _ (List.mem_singleton.2 rfl)) hrx hn (id := id) (off := off) (len := len) (cells := cells) (.inr ⟨hid, hcl, hrs⟩) hb1 hb2
       exact wp_value hd hK (u := r) (w' := w') (by rw [hex]; exact fin _ _ _ hrun) (ι := ι') (R := R') hst hr
      ·subst heff; exact hok.elim
     ·subst heff; exact hok.elim
    ·subst heff; exact hok.elim
   ·subst heff; exact hok.elim
  ·subst heff; exact hok.elim
 ·rename_i args ts hop
  split at heff
  ·rename_i s x t t' hargs hts
   obtain rfl : args = #[s, x] := by cases args; simp_all
   obtain rfl : ts = #[t, t'] := by cases ts; simp_all
   split at heff
   ·rename_i e _ _ _ _ ht
    split at heff
    ·rename_i ti he
     have hrs := hev s (by simp [hop, Op.operands, Call.operands])
     have hrx := hev x (by simp [hop, Op.operands, Call.operands])
     have hex : execOp a.eval o = (do pure (Next.value (← Builtin.copy_ #[t, t'] o.type #[a.eval s, a.eval x]))) := by
      simp only [execOp, hop, resolve, List.map_toArray, List.map_cons, List.map_nil]; rfl
     simp only at heff
     split at heff
     ·rename_i id s' off len hes
      split at heff
      ·rename_i e'' s'' cells hid
       subst heff
       obtain ⟨hn, hs, rfl, rfl, hcl⟩ := hok
       rw [hes] at hrs
       obtain ⟨ax, cx, news, hax, hnr, hnl, hn1, hna⟩ := news_sound h.heap ti.size hs hrx hn
       generalize newsAV σ.heap ti.size (σ.bev x) = nw at *
       obtain ⟨nok, n, nc⟩ := nw
       simp only at hnr hnl hna hax hn hK ⊢
       have hPt : P.underlying t = some (.slice e) := by
        have := hT.under ht
        exact this
       have hsz := hT.run_size he (w := w)
       obtain ⟨du, dlen, dcap, hdu, hdl⟩ : ∃ du dlen dcap, a.eval s = .slice du dlen dcap ∧ dlen = len := by
        simp only [RelA] at hrs
        rcases hrs with ⟨_, _, rfl, e⟩ | ⟨g, c, b, _, e, _⟩
        ·exact ⟨_, _, _, e, rfl⟩
        ·exact ⟨_, _, _, e, rfl⟩
       subst hdl
       have hpre : (Builtin.copy_ #[t, t'] o.type #[a.eval s, a.eval x]).run P w = (do
         let cells ← Builtin.firstCells ti.size (min n dlen) (a.eval x)
         if let some b := du then storeCells b cells.toList
         pure (goInt ((min n dlen : Nat) : Int)) : Sem Value).run P w := by
        rw [hdu, hax]
        simp only [Builtin.copy_, List.getElem?_toArray, List.getElem?_cons_zero, List.getElem?_cons_succ, run_underlying hPt, Sem.run_bind, Result.andThen_ok, Builtin.lenOf, Sem.run_pure, hsz]
        rfl
       by_cases hm : min n dlen = 0
       ·have hsame : ({ σ with heap := setH (delH σ.heap []) [(id, Blk.row e'' ti.size (setCells cells (off * ti.size) (nc.take (min n dlen * ti.size))))], seen := seenS σ.seen [(id, Blk.row e'' ti.size (setCells cells (off * ti.size) (nc.take (min n dlen * ti.size))))] } : AS) = σ := by
         have hse : σ.seen id = true := by
          simp only [RelA] at hrs
          rcases hrs with ⟨e1, _⟩ | ⟨g, c, b, e1, _⟩
          ·exact h.seen _ _ e1
          ·exact h.seen _ _ e1
         rw [hm]
         simp only [Nat.zero_mul, List.take_zero, setCells, setH, delH, seenS]
         have e1 : upd σ.heap id (some (Blk.row e'' ti.size cells)) = σ.heap := by
          funext k; simp only [upd]; split
          ·rename_i hk; rw [hk, hid]
          ·rfl
         have e2 : upd σ.seen id true = σ.seen := by
          funext k; simp only [upd]; split
          ·rename_i hk; rw [hk, hse]
          ·rfl
         rw [e1, e2]
        refine wp_value hd hK (u := .int .i64 ((min n dlen : Nat) : Int)) (w' := w) (ι := ι) (R := R) ?_ (by rw [hsame]; exact h) (by simp only [RelA, RelP])
        rw [hex]
        refine fin _ _ _ ?_
        rw [hpre, hm, hax]
        have hf0 : (Builtin.firstCells ti.size 0 (.slice ax n cx)).run P w = .ok #[] w := by
         cases ax with
         | none => exact run_firstCells_none w _ _ _ _
         | some b => exact run_firstCells_some w ti.size 0 b n cx [] (by simp) (fun j v hv => by simp at hv)
        simp only [Sem.run_bind, hf0, Result.andThen_ok]
        cases du <;> simp [storeCells, goInt]
       ·have hd0 : 0 < dlen := by omega
        have hn0 : 0 < n := by omega
        simp only [RelA] at hrs
        rcases hrs with ⟨_, _, h0, _⟩ | ⟨g, c, b, hi, hub, hoc, hb⟩
        ·omega
        rw [hdu] at hub
        have hbe := hb (by omega)
        obtain rfl : du = b := by injection hub
        subst hbe
        obtain ⟨ad, rfl, hrd⟩ := hna hn0
        have hmn : min n dlen * ti.size ≤ news.length := by rw [hnl]; exact Nat.mul_le_mul_right _ (Nat.min_le_left _ _)
        have hvl : (news.take (min n dlen * ti.size)).length = min n dlen * ti.size := by rw [List.length_take]; omega
        have hroom : off * ti.size + (news.take (min n dlen * ti.size)).length ≤ cells.length := by
         rw [hvl]
         refine Nat.le_trans ?_ hcl
         rw [← Nat.add_mul]
         exact Nat.mul_le_mul_right _ (Nat.add_le_add_left (Nat.min_le_right _ _) _)
        obtain ⟨w', hrun, hst⟩ := St.Of.writeRow (P := P) h hid hi (hnr.take (min n dlen * ti.size)) (fun v hv => hn1 v (List.mem_of_mem_take hv)) (off * ti.size) hroom
        refine wp_value hd hK (u := .int .i64 ((min n dlen : Nat) : Int)) (w' := w') (ι := ι) (R := R) ?_ (by exact hst) (by simp only [RelA, RelP])
        rw [hex]
        refine fin _ _ _ ?_
        rw [hpre, hax]
        have hf1 : (Builtin.firstCells ti.size (min n dlen) (.slice (some ad) n cx)).run P w = .ok (news.take (min n dlen * ti.size)).toArray w :=
         run_firstCells_some w ti.size (min n dlen) ad n cx _ hvl (fun j v hv => hrd j v (by
          rw [List.getElem?_take] at hv
          split at hv
          ·exact hv
          ·cases hv))
        simp only [Sem.run_bind, hf1, Result.andThen_ok, hrun, Sem.run_pure]
        simp [goInt]
      ·subst heff; exact hok.elim
     ·subst heff; exact hok.elim
    ·subst heff; exact hok.elim
   ·subst heff; exact hok.elim
  ·subst heff; exact hok.elim
 ·rename_i args ts hop
  split at heff
  ·rename_i s t hargs hts
   obtain rfl : args = #[s] := by cases args; simp_all
   obtain rfl : ts = #[t] := by cases ts; simp_all
   split at heff
   ·rename_i e _ _ _ _ ht
    split at heff
    ·rename_i ti he
     have hrs := hev s (by simp [hop, Op.operands, Call.operands])
     have hex : execOp a.eval o = (do pure (Next.value (← Builtin.clear_ #[t] o.type #[a.eval s]))) := by
      simp only [execOp, hop, resolve, List.map_toArray, List.map_cons, List.map_nil]; rfl
     split at heff
     ·rename_i id s' off len hes
      split at heff
      ·rename_i e'' s'' cells hid
       subst heff
       obtain ⟨hs, rfl, rfl, hz, hall, hcl⟩ := hok
       rw [hes] at hrs
       have hPt : P.underlying t = some (.slice e) := hT.under ht
       have hzr := hT.run_zero he (w := w)
       have hlen : (repCells ti.zero.cells.toList 0 (len * ti.size)).length = len * ti.size := by
        rw [repCells_eq _ _ _ (by omega)]; simp
       have hzc : (Builtin.zeroCells ti.zero.cells len).toList = repCells ti.zero.cells.toList 0 (len * ti.size) := by
        rw [repCells_eq _ _ _ (by omega)]
        simp [Builtin.zeroCells, List.range_eq_range', hz]
       by_cases hm : len = 0
       ·have hsame : ({ σ with heap := setH (delH σ.heap []) [(id, Blk.row e'' ti.size (setCells cells (off * ti.size) ((repCells ti.zero.cells.toList 0 (len * ti.size)).map .raw)))], seen := seenS σ.seen [(id, Blk.row e'' ti.size (setCells cells (off * ti.size) ((repCells ti.zero.cells.toList 0 (len * ti.size)).map .raw)))] } : AS) = σ := by
         have hse : σ.seen id = true := by
          simp only [RelA] at hrs
          rcases hrs with ⟨e1, _⟩ | ⟨g, c, b, e1, _⟩
          ·exact h.seen _ _ e1
          ·exact h.seen _ _ e1
         rw [hm]
         simp only [Nat.zero_mul, repCells, List.map_nil, setCells, setH, delH, seenS]
         have e1 : upd σ.heap id (some (Blk.row e'' ti.size cells)) = σ.heap := by
          funext k; simp only [upd]; split
          ·rename_i hk; rw [hk, hid]
          ·rfl
         have e2 : upd σ.seen id true = σ.seen := by
          funext k; simp only [upd]; split
          ·rename_i hk; rw [hk, hse]
          ·rfl
         rw [e1, e2]
        refine wp_value hd hK (u := .tuple #[]) (w' := w) (ι := ι) (R := R) ?_ (by rw [hsame]; exact h) (by simp only [RelA]; exact ⟨#[], rfl, by simp [RelL]⟩)
        rw [hex]
        refine fin _ _ _ ?_
        obtain ⟨du, dcap, hdu⟩ : ∃ du dcap, a.eval s = .slice du 0 dcap := by
         simp only [RelA] at hrs
         rcases hrs with ⟨_, _, h0, e⟩ | ⟨g, c, b, _, e, _⟩
         ·exact ⟨_, _, e⟩
         ·exact ⟨_, _, by rw [e, hm]⟩
        rw [hdu]
        cases du <;> simp [Builtin.clear_, run_underlying hPt]
       ·simp only [RelA] at hrs
        rcases hrs with ⟨_, _, h0, _⟩ | ⟨g, c, b, hi, hub, hoc, hb⟩
        ·omega
        have hbe := hb (by omega)
        subst hbe
        have hroom : off * ti.size + (repCells ti.zero.cells.toList 0 (len * ti.size)).length ≤ cells.length := by
         rw [hlen, ← Nat.add_mul]; exact hcl
        obtain ⟨w', hrun, hst⟩ := St.Of.writeRow (P := P) h hid hi (rawsRel (repCells ti.zero.cells.toList 0 (len * ti.size))) (by
         rw [repCells_eq _ _ _ (by omega)]
         intro u hu
         obtain ⟨k, _, rfl⟩ := List.mem_map.1 hu
         have hk : k % ti.zero.cells.size < ti.zero.cells.size := Nat.mod_lt _ (by omega)
         have hone : Ones ti.zero.cells.toList := ones_of (ι := ι) (R := R) (w := w) (rawsRel _) hall
         exact hone _ (by simp [hk])) (off * ti.size) hroom
        refine wp_value hd hK (u := .tuple #[]) (w' := w') (ι := ι) (R := R) ?_ (by exact hst) (by simp only [RelA]; exact ⟨#[], rfl, by simp [RelL]⟩)
        rw [hex]
        refine fin _ _ _ ?_
        rw [hub]
        obtain ⟨len', rfl⟩ : ∃ l, len = l + 1 := ⟨len - 1, by omega⟩
        simp only [Builtin.clear_, List.getElem?_toArray, List.getElem?_cons_zero, run_underlying hPt, Sem.run_bind, Result.andThen_ok, hzr, hzc, hrun, Sem.run_pure]
      ·subst heff; exact hok.elim
     ·subst heff; exact hok.elim
    ·subst heff; exact hok.elim
   ·subst heff; exact hok.elim
  ·subst heff; exact hok.elim
 ·rename_i args ts hop
  split at heff
  ·rename_i hmt
   split at heff
   ·rename_i m hargs
    obtain rfl : args = #[m] := by cases args; simp_all
    split at heff
    ·rename_i id hm
     split at heff
     ·rename_i ks xs hid
      subst heff
      obtain ⟨t, kt, et, ht0, hPt⟩ : ∃ t kt et, ts[0]? = some t ∧ P.underlying t = some (.map kt et) := by
       unfold isMapT at hmt
       split at hmt
       ·rename_i t hts
        split at hmt
        ·rename_i _ _ _ _ _ _ ht
         exact ⟨t, _, _, by rw [← Array.getElem?_toList, hts]; rfl, hT.under ht⟩
        ·cases hmt
       ·cases hmt
      have hrm := hev m (by simp [hop, Op.operands, Call.operands])
      rw [hm] at hrm
      simp only [RelA] at hrm
      obtain ⟨g, c, hi, hmu⟩ := hrm
      obtain ⟨g', c', es, ck, hi', hh, hks, hr, ho, hbn⟩ := h.heap id _ hid
      rw [hi] at hi'
      obtain ⟨rfl, rfl⟩ : g = g' ∧ c = c' := by simpa using hi'
      have hex : execOp a.eval o = (do pure (Next.value (← Builtin.len_ ts o.type #[a.eval m]))) := by
       simp only [execOp, hop, resolve, List.map_toArray, List.map_cons, List.map_nil]; rfl
      refine nothing (u := .int .i64 ((es.size : Nat) : Int)) hK ?_ ?_
      ·rw [hex]
       refine fin _ _ _ ?_
       rw [hmu]
       simp [Builtin.len_, ht0, run_underlying hPt, Go.MapKept.run_getObj_map hh, Result.andThen, goInt]
      ·simp only [RelA, RelP]
       rw [← hks]; simp
     ·subst heff; exact hok.elim
    ·subst heff; exact hok.elim
   ·subst heff; exact hok.elim
  ·split at heff
   ·rename_i out hout
    subst heff
    rw [← hop] at hout
    obtain ⟨u, h1, h2⟩ := pure_sound hT o σ.bev a.eval out hout hok hev
    exact nothing hK h1 h2
   ·subst heff; exact hok.elim
 ·subst heff; exact hok.elim
 ·rename_i sT dT x hop
  have hrx := hev x (by simp [hop, Op.operands])
  have conv : ∀ {y : AV}, RelA ι R w y (a.eval x) → (convAV T sT dT y).1 → (∀ a' w', St A W w' a' (σ.after o (convAV T sT dT y).2 [] []) → K a' w') → o.wp P a w K Q := by
   intro y hy hok' hK'
   obtain ⟨u, h1, h2⟩ := conv_sound (w := w) hT sT dT hy hok'
   exact nothing hK' (by simp only [execOp, hop]; exact fin _ _ _ h1) h2
  split at heff
  ·rename_i hsd
   have hsd' := Nat.eq_of_beq_eq_true hsd
   subst hsd'
   split at heff
   ·rename_i id sz off len hx
    split at heff
    ·rename_i e0 _ _ _ _ hs1
     split at heff
     ·rename_i _ _ _ _ e1 s' cells he hid
      subst heff
      obtain ⟨rfl, rfl, hpos, hle, hpv⟩ := hok
      rw [hx] at hrx
      simp only [RelA] at hrx
      rcases hrx with ⟨_, _, h0, _⟩ | ⟨g, c, ad, hi, hu, hoc, had⟩
      ·omega
      have hadr := had (by omega)
      subst hadr
      obtain ⟨n, hln, _, hn47, hb⟩ := h.heap id _ hid
      rcases hb with ⟨hin, _⟩ | ⟨g', cap, base, cur, hi', hh, hsz, hnc, hcm, hr, hon⟩
      ·rw [hi] at hin; cases hin
      rw [hi] at hi'
      obtain ⟨rfl, rfl⟩ : g = g' ∧ c = ⟨cap, base⟩ := by simpa using hi'
      have hg := h.new id _ g _ hid hi
      have hPs := hT.under hs1
      have hPe := hT.under he
      let w' : World := w.freeze ⟨g, cur.size, none⟩ 1
      have hw'o : ∀ k, k ≠ g → w'.heap[k]? = w.heap[k]? := by
       intro k hk
       show (w.freeze ⟨g, cur.size, none⟩ 1).heap[k]? = _
       unfold World.freeze
       rw [if_neg (by decide)]
       simp only [Array.getElem?_modify]
       rw [if_neg (Ne.symm hk)]
      have hw'g : w'.heap[g]? = some (.cells cur e1 (cur.size, cur.size + 1)) := by
       show (w.freeze ⟨g, cur.size, none⟩ 1).heap[g]? = _
       unfold World.freeze
       rw [if_neg (by decide)]
       simp [Array.getElem?_modify, hh]
      have hgR : ∀ k, R k → k ≠ g := fun k hk e' => h.out id _ g _ hid hi (e' ▸ hk)
      have hst : St.Of A W w' a { σ with heap := upd σ.heap id none } ι (fun k => R k ∨ k = g) := by
       have hup : ∀ id' b'', upd σ.heap id none id' = some b'' → id' ≠ id ∧ σ.heap id' = some b'' := by
        intro id' b'' h'
        simp only [upd] at h'
        split at h'
        ·cases h'
        ·rename_i h1; exact ⟨h1, h'⟩
       have hsame : ∀ k, R k → w'.heap[k]? = w.heap[k]? := fun k hk => hw'o k (hgR k hk)
       have hszw : w'.heap.size = w.heap.size := by
        show (w.freeze ⟨g, cur.size, none⟩ 1).heap.size = _
        unfold World.freeze
        rw [if_neg (by decide)]; simp
       refine ⟨⟨h.below.os, h.below.tape, h.below.output, by rw [hszw]; exact h.below.size, fun k hk hkB => (hw'o k (fun e' => by subst e'; rcases hg with hg | hg; omega; exact hkB hg)).trans (h.below.block k hk hkB)⟩, h.size, h.defers, h.seen,
        fun t => RelA.mono (fun _ _ e => e) (fun _ hk => .inl hk) hsame _ _ (h.slots t), ?_, ?_, ?_, ?_, ?_, ?_, h.pin, h.glob⟩
       ·intro i b hb
        obtain ⟨h1, h2⟩ := hup i b hb
        exact (h.heap i b h2).mono (fun _ _ e => e) (fun _ hk => .inl hk) hsame (fun g' c' hi2 => hw'o g' (fun e' => h1 (h.inj i id _ _ g c' _ h2 hid (e' ▸ hi2) hi)))
       ·intro i j b b' g' c c' h1 h2 h3 h4
        exact h.inj i j b b' g' c c' (hup _ _ h1).2 (hup _ _ h2).2 h3 h4
       ·intro i b g' c h1 h3
        exact h.new i b g' c (hup _ _ h1).2 h3
       ·intro k hk
        rw [hszw]
        rcases hk with hk | rfl
        ·exact h.lt k hk
        ·exact (h.heap id _ hid).lt hi
       ·intro i b g' c h1 h3 hk
        obtain ⟨q1, q2⟩ := hup i b h1
        rcases hk with hk | rfl
        ·exact h.out i b g' c q2 h3 hk
        ·exact q1 (h.inj i id _ _ g' c _ q2 hid h3 hi)
       ·intro k hk hkW
        rcases hk with hk | rfl
        ·exact h.arg k hk hkW
        ·rcases hg with hg | hg
         ·omega
         ·exact .inr hg
      refine wp_value hd hK (w' := w') (u := a.eval x) ?_ (R := fun k => R k ∨ k = g) (by exact hst) ?_
      ·simp only [execOp, hop]
       refine fin _ _ _ ?_
       rw [hu]
       have hsh : w.shape? g = some (e1, cur.size) := by simp [World.shape?, hh]
       simp [convert, run_underlying hPs, run_underlying hPe, markStringish, hsh]
       rfl
      ·rw [hu]
       simp only [RelA, RelP]
       have hlen : cells.length = n := by rw [hln]; simp
       refine ⟨_, _, rfl, by show len ≤ cap - off; have : off + len ≤ cap := hoc; omega, by omega, fun _ => ⟨g, off * 1 + base, rfl, .inr rfl, fun i hi2 j hj => ?_⟩⟩
       obtain rfl : j = 0 := by omega
       obtain ⟨p, hp⟩ := hpv i hi2
       obtain ⟨v, hv, hrv⟩ := hr.get (off + i) _ hp
       rw [List.getElem?_take] at hv
       split at hv
       ·rw [List.getElem?_drop] at hv
        have hv' : cur[off * 1 + base + i * 1 + 0]? = some v := by
         rw [show off * 1 + base + i * 1 + 0 = base + (off + i) by omega]; simpa using hv
        refine ⟨v, by simp only [World.cell?, hw'g]; exact hv', hon v ?_, ?_⟩
        ·refine List.mem_of_getElem? (i := off + i) ?_
         rw [List.getElem?_take, if_pos (by assumption), List.getElem?_drop]
         exact hv
        ·simp only [RelA] at hrv
         rw [show pvAt cells (off + i) = p by simp only [pvAt, hp]]
         exact RelP.mono (fun _ hk => .inl hk) (fun k hk => hw'o k (hgR k hk)) _ _ hrv
       ·cases hv
     ·subst heff; exact hok.elim
    ·subst heff; exact hok.elim
   ·subst heff; exact conv hrx hok hK
  ·subst heff; exact conv hrx hok hK
 ·split at heff
  ·rename_i out hout
   subst heff
   obtain ⟨u, h1, h2⟩ := pure_sound hT o σ.bev a.eval out hout hok hev
   exact nothing hK h1 h2
  ·subst heff; exact hok.elim
end Go.Ab

