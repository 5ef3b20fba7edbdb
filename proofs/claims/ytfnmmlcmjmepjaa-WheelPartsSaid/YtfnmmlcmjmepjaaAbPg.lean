import Derived.Test.YtfnmmlcmjmepjaaAbPf
set_option linter.unusedVariables false
set_option linter.unusedSectionVars false
set_option linter.unusedSimpArgs false
namespace Go.Ab
open Go.RowKit
variable {A : Env} {P : Program} {T : Tab}
theorem mapGet_snoc {k : Value} (hk : keyEq k k = true) (x : AV) : ∀ {ks : List Value} {xs : List AV}, xs.length = ks.length → mapGet k ks xs = none → mapGet k (ks ++ [k]) (xs ++ [x]) = some x
 | [], [], _, _ => by simp [mapGet, hk]
 | [], _ :: _, h, _ => by simp at h
 | e :: ks, [], h, _ => by simp at h
 | e :: ks, y :: xs, h1, h => by
  unfold mapGet at h
  cases hke : keyEq k e with
  | true => rw [hke] at h; cases h
  | false =>
   rw [hke] at h
   have ih := mapGet_snoc hk x (ks := ks) (xs := xs) (by simpa using h1) h
   show mapGet k (e :: (ks ++ [k])) (y :: (xs ++ [x])) = some x
   unfold mapGet
   rw [hke]; exact ih
def marks (n : Nat) : List AV := (List.range n).map fun i => AV.ptr i 0
theorem marks_len (n : Nat) : (marks n).length = n := by simp [marks]
theorem marks_get {n j : Nat} {y : AV} (h : (marks n)[j]? = some y) : y = AV.ptr j 0 := by
 unfold marks at h
 rw [List.getElem?_map] at h
 cases hj : (List.range n)[j]? with
 | none => rw [hj] at h; cases h
 | some i =>
  rw [hj] at h
  have : i = j := by
   rw [List.getElem?_range] at hj
   ·exact (Option.some.inj hj).symm
   ·have := (List.getElem?_eq_some_iff.1 hj).1; simpa using this
  subst this
  exact (Option.some.inj h).symm
theorem KeyRuns.where_ {kt : TypeId} {k : Value} {ks : List Value} (h : KeyRuns P kt k ks) {es : List MapEntry} (hk : es.map (·.key) = ks) (w0 : World) :
  ((∀ w, (Instr.findKey kt k es).run P w = .ok none w) ∧ mapGet k ks (marks es.length) = none ∧ ∀ xs, xs.length = es.length → ∀ x, mapPut k x ks xs = (ks ++ [k], xs ++ [x])) ∨
  ∃ j e, es[j]? = some e ∧ e.key = k ∧ (∀ w, (Instr.findKey kt k es).run P w = .ok (some (j, e.val)) w) ∧ mapGet k ks (marks es.length) = some (AV.ptr j 0) ∧ ∀ xs, xs.length = es.length → ∀ x, mapPut k x ks xs = (ks, xs.set j x) := by
 cases hm : mapGet k ks (marks es.length) with
 | none =>
  have hw : ∀ w, (Instr.findKey kt k es).run P w = .ok none w := fun w => by
   rcases h.find w es (marks es.length) hk (marks_len _) with ⟨f1, _, _⟩ | ⟨j, e, y, _, _, _, f4, _, _⟩
   ·exact f1
   ·rw [hm] at f4; cases f4
  refine .inl ⟨hw, rfl, fun xs hx => ?_⟩
  rcases h.find w0 es xs hk hx with ⟨_, _, f3⟩ | ⟨j, e, y, f1, _⟩
  ·exact f3
  ·rw [hw w0] at f1; cases f1
 | some y =>
  have hw : ∀ w, ∃ j e, (Instr.findKey kt k es).run P w = .ok (some (j, e.val)) w ∧ es[j]? = some e ∧ y = AV.ptr j 0 ∧ e.key = k := fun w => by
   rcases h.find w es (marks es.length) hk (marks_len _) with ⟨_, f2, _⟩ | ⟨j, e, y', f1, f2, f3, f4, _, f6⟩
   ·rw [hm] at f2; cases f2
   ·rw [hm] at f4
    cases f4
    exact ⟨j, e, f1, f2, marks_get f3, f6⟩
  obtain ⟨j, e, f1, f2, f3, f4⟩ := hw w0
  refine .inr ⟨j, e, f2, f4, fun w => ?_, by rw [f3], fun xs hx => ?_⟩
  ·obtain ⟨j', e', g1, g2, g3, g4⟩ := hw w
   rw [f3] at g3
   obtain rfl : j = j' := by cases g3; rfl
   rw [f2] at g2
   cases g2
   exact g1
  ·rcases h.find w0 es xs hk hx with ⟨g1, _⟩ | ⟨j', e', y', g1, g2, g3, g4, g5, _⟩
   ·rw [f1] at g1; cases g1
   ·rw [f1] at g1
    have : j = j' := by
     have g1 := Result.ok.inj g1
     have g1 := Option.some.inj g1.1
     exact (Prod.mk.inj g1).1
    subst this
    exact g5
theorem inc_runs (hT : TabOk P T) {g : IncOps} {ops : Array Oper} (K : g.Ok ops) {n : Nat} {kt et : TypeId} {sz1 by1 sz3 by3 : Nat} {ze1 : Value} {cm1 cm3 : Bool} {zn : Int} {zk : IntKind} {ue : TypeDesc} (hTt : T g.t = some ⟨.map kt et, sz1, by1, ze1, cm1⟩) (hTe : T et = some ⟨ue, sz3, by3, .int zk zn, cm3⟩)
  {kv : Value} {ks : List Value} (hTk : KeyRuns P kt kv ks) (hTk1 : KeyRuns P kt kv (ks ++ [kv])) (hkk : keyEq kv kv = true) {gm : Nat} {es : Array MapEntry} {ck : Nat} {w : World} (hh : w.heap[gm]? = some (.map es ck)) (hks : es.toList.map (·.key) = ks) (hbn : BornOk es ck) :
  ∃ (z : Value) (ks1 : List Value) (es1 : Array MapEntry) (ck1 st j : Nat) (e1 : MapEntry) (z0 : Value),
   es1.toList.map (·.key) = ks1 ∧ BornOk es1 ck1 ∧ es1[j]? = some e1 ∧ e1.born = st ∧
   ((es1 = es ∧ ck1 = ck ∧ (∀ xs : List AV, xs.length = es.size → ∀ x, mapPut kv x ks xs = (ks1, xs.set j x))) ∨
    (es1.toList = es.toList ++ [e1] ∧ j = es.size ∧ e1.val = .int zk zn ∧ (∀ xs : List AV, xs.length = es.size → ∀ x, mapPut kv x ks xs = (ks1, xs ++ [x])))) ∧
   (∀ b : Act, b.eval (.tmp g.m) = .map (some gm) → b.eval (.tmp g.k) = kv → (execOp b.eval g.lk).run P w = .ok (.value z) w) ∧
   ∀ (y : Value) , (∀ (b : Act) (v : World), b.eval (.tmp g.dl) = z → (execOp b.eval g.ad).run P v = .ok (.value y) v) →
    IncRuns P g n (.map (some gm)) kv z y z0 st w { w with heap := w.heap.setIfInBounds gm (.map es1 ck1) } { w with heap := w.heap.setIfInBounds gm (.map (es1.modify j fun e => { e with val := y }) ck1) } := by
 have hPt := hT.under hTt
 have hlt := (Array.getElem?_eq_some_iff.1 hh).1
 have hsto : ∀ (es1 : Array MapEntry) (ck1 j : Nat) (e1 : MapEntry) (y : Value), BornOk es1 ck1 → es1[j]? = some e1 → ∀ b : Act, b.eval (.tmp g.m) = .map (some gm) → b.eval (.tmp g.d2) = goInt e1.born → b.eval (.tmp g.da) = y →
   (execOp b.eval g.s).run P { w with heap := w.heap.setIfInBounds gm (.map es1 ck1) } = .ok .skip { w with heap := w.heap.setIfInBounds gm (.map (es1.modify j fun e => { e with val := y }) ck1) } := by
  intro es1 ck1 j e1 y hb hj b hm hd hy
  have hf := findIdx_born' hb hj
  have h1 : ({ w with heap := w.heap.setIfInBounds gm (.map es1 ck1) } : World).heap[gm]? = some (.map es1 ck1) := by
   show (w.heap.setIfInBounds gm _)[gm]? = _
   rw [Array.getElem?_setIfInBounds, if_pos rfl, if_pos hlt]
  simp only [execOp, K.so]
  rw [Sem.run_bind, hm, hd, hy]
  have : (Instr.entryStore g.t (.map (some gm)) (goInt e1.born) y).run P { w with heap := w.heap.setIfInBounds gm (.map es1 ck1) } = .ok () { w with heap := w.heap.setIfInBounds gm (.map (es1.modify j fun e => { e with val := y }) ck1) } := by
   simp [Instr.entryStore, Go.MapKept.run_getObj_map h1, asInt, asIntOf, goInt, hf, Go.MapKept.run_setObj_map _ h1, Result.andThen]
  rw [this]; rfl
 have hat : ∀ (es1 : Array MapEntry) (ck1 : Nat), ({ w with heap := w.heap.setIfInBounds gm (.map es1 ck1) } : World).heap[gm]? = some (.map es1 ck1) := by
  intro es1 ck1
  show (w.heap.setIfInBounds gm _)[gm]? = _
  rw [Array.getElem?_setIfInBounds, if_pos rfl, if_pos hlt]
 rcases hTk.where_ hks w with ⟨f1, f2, f3⟩ | ⟨j, e, f1, f2, f3, f4, f5⟩
 ·
  have hks1 : (es.push { key := kv, val := .int zk zn, born := ck }).toList.map (·.key) = ks ++ [kv] := by simp [← hks]
  have hfind1 : ∀ w', (Instr.findKey kt kv (es.push { key := kv, val := .int zk zn, born := ck }).toList).run P w' = .ok (some (es.size, .int zk zn)) w' := by
   have hl1 : (es.push { key := kv, val := .int zk zn, born := ck }).toList.length = es.size + 1 := by simp
   have hmk : marks (es.size + 1) = marks es.size ++ [AV.ptr es.size 0] := by simp [marks, List.range_succ]
   have hmg : mapGet kv (ks ++ [kv]) (marks (es.size + 1)) = some (AV.ptr es.size 0) := by
    rw [hmk]
    refine mapGet_snoc hkk _ (by rw [marks_len, ← hks]; simp) ?_
    simpa using f2
   rcases hTk1.where_ (es := (es.push { key := kv, val := .int zk zn, born := ck }).toList) hks1 w with ⟨_, g2, _⟩ | ⟨j, e, g1, g2, g3, g4, _⟩
   ·rw [hl1, hmg] at g2; cases g2
   ·rw [hl1, hmg] at g4
    obtain rfl : es.size = j := by cases g4; rfl
    have : e = { key := kv, val := .int zk zn, born := ck } := by
     have : (es.push { key := kv, val := .int zk zn, born := ck }).toList[es.size]? = some { key := kv, val := .int zk zn, born := ck } := by simp
     rw [this] at g1
     exact (Option.some.inj g1).symm
    subst this
    exact g3
  have hlook : ∀ b : Act, b.eval (.tmp g.m) = .map (some gm) → b.eval (.tmp g.k) = kv → (execOp b.eval g.lk).run P w = .ok (.value (.int zk zn)) w := fun b hm hk => by
   simp only [execOp, K.lo]
   rw [Sem.run_bind, hm, hk]
   have : (Instr.lookup g.t (.map (some gm)) kv false).run P w = .ok (.int zk zn) w := by
    simp [Instr.lookup, run_underlying hPt, Go.MapKept.run_getObj_map hh, hTk.check, f1, hT.run_zero hTe, Result.andThen]
   rw [this]; rfl
  refine ⟨.int zk zn, ks ++ [kv], es.push { key := kv, val := .int zk zn, born := ck }, ck + 1, ck, es.size, { key := kv, val := .int zk zn, born := ck }, .int zk zn, hks1, hbn.push _ rfl, by simp, rfl, .inr ⟨by simp, rfl, rfl, fun xs hx => f3 xs (by simpa using hx)⟩, hlook, fun y hy => ⟨fun b hm hk => ⟨hlook b hm hk, ?_⟩, hy, fun b hm hk => ?_, fun b hm hd hy' => hsto (es.push { key := kv, val := .int zk zn, born := ck }) (ck + 1) es.size { key := kv, val := .int zk zn, born := ck } y (hbn.push _ rfl) (by simp) b hm hd hy'⟩⟩
  ·simp only [execOp, K.lo]
   rw [Sem.run_bind, hm, hk]
   have : (Instr.lookup g.t (.map (some gm)) kv false).run P { w with heap := w.heap.setIfInBounds gm (.map (es.push { key := kv, val := .int zk zn, born := ck }) (ck + 1)) } = .ok (.int zk zn) { w with heap := w.heap.setIfInBounds gm (.map (es.push { key := kv, val := .int zk zn, born := ck }) (ck + 1)) } := by
    have h1 := hfind1 { w with heap := w.heap.setIfInBounds gm (.map (es.push { key := kv, val := .int zk zn, born := ck }) (ck + 1)) }
    rw [Array.toList_push] at h1
    simp [Instr.lookup, run_underlying hPt, Go.MapKept.run_getObj_map (hat _ _), hTk.check, h1, Result.andThen]
   rw [this]; rfl
  ·simp only [execOp, K.eo]
   rw [Sem.run_bind, hm, hk]
   have : (Instr.mapEntry g.t (.map (some gm)) kv).run P w = .ok (.tuple #[.int zk zn, goInt ck]) { w with heap := w.heap.setIfInBounds gm (.map (es.push { key := kv, val := .int zk zn, born := ck }) (ck + 1)) } := by
    simp [Instr.mapEntry, run_underlying hPt, Go.MapKept.run_getObj_map hh, hTk.check, f1, hT.run_zero hTe, Go.MapKept.run_setObj_map _ hh, Result.andThen]
   rw [this]; rfl
 ·
  have hj : es[j]? = some e := by simpa using f1
  have hjl : j < es.size := (Array.getElem?_eq_some_iff.1 hj).1
  have hlook : ∀ b : Act, b.eval (.tmp g.m) = .map (some gm) → b.eval (.tmp g.k) = kv → (execOp b.eval g.lk).run P w = .ok (.value e.val) w := fun b hm hk => by
   simp only [execOp, K.lo]
   rw [Sem.run_bind, hm, hk]
   have : (Instr.lookup g.t (.map (some gm)) kv false).run P w = .ok e.val w := by
    simp [Instr.lookup, run_underlying hPt, Go.MapKept.run_getObj_map hh, hTk.check, f3, Result.andThen]
   rw [this]; rfl
  refine ⟨e.val, ks, es, ck, e.born, j, e, e.val, hks, hbn, hj, rfl, .inl ⟨rfl, rfl, fun xs hx => f5 xs (by simpa using hx)⟩, hlook, fun y hy => ⟨fun b hm hk => ⟨hlook b hm hk, ?_⟩, hy, fun b hm hk => ?_, fun b hm hd hy' => hsto _ _ _ _ _ hbn hj b hm hd hy'⟩⟩
  ·simp only [execOp, K.lo]
   rw [Sem.run_bind, hm, hk]
   have : (Instr.lookup g.t (.map (some gm)) kv false).run P { w with heap := w.heap.setIfInBounds gm (.map es ck) } = .ok e.val { w with heap := w.heap.setIfInBounds gm (.map es ck) } := by
    simp [Instr.lookup, run_underlying hPt, Go.MapKept.run_getObj_map (hat _ _), hTk.check, f3, Result.andThen]
   rw [this]; rfl
  ·simp only [execOp, K.eo]
   rw [Sem.run_bind, hm, hk]
   have : (Instr.mapEntry g.t (.map (some gm)) kv).run P w = .ok (.tuple #[e.val, goInt e.born]) { w with heap := w.heap.setIfInBounds gm (.map es ck) } := by
    simp [Instr.mapEntry, run_underlying hPt, Go.MapKept.run_getObj_map hh, hTk.check, f3, hj, f2, hTk.stays, modify_same kv hj f2, Go.MapKept.run_setObj_map _ hh, Result.andThen]
   rw [this]; rfl
theorem lookup_eff {ev : Operand → AV} {H : Heap} {dst : Option Nat} {t : TypeId} {m k : Operand} {ok : Bool} : (effOf T ev H dst (.lookup t m k ok)).set = [] ∧ (effOf T ev H dst (.lookup t m k ok)).del = [] := by
 unfold effOf
 simp only
 repeat' split
 all_goals exact ⟨rfl, rfl⟩
theorem sum_int {bt : TypeId} {kd : IntKind} {c : Int} {x : AV} (h : (binAV T .add bt x (.pv (.raw (.int kd c)))).1) : ∃ n, x = .pv (.raw (.int kd n)) := by
 cases x with
 | pv p =>
  cases p with
  | raw v =>
   cases v with
   | int k n =>
    simp only [binAV] at h
    rcases h.1 with h | h
    ·rcases h with h | h <;> cases h
    ·subst h; exact ⟨_, rfl⟩
   | _ => all_goals (exfalso; unfold binAV at h; split at h <;> first | (rename_i e _; cases e; done) | (rename_i e; cases e; done) | exact h)
  | ro s n c => exfalso; unfold binAV at h; split at h <;> first | (rename_i e _; cases e; done) | (rename_i e; cases e; done) | exact h
 | _ => all_goals (exfalso; unfold binAV at h; split at h <;> first | (rename_i e _; cases e; done) | (rename_i e; cases e; done) | exact h)
theorem St.runs (hT : TabOk P T) [OfP A P] {W w w' : World} {a : Act} {σ σ' : AS} (h : St A W w a σ) {ops : Array Oper} {o : Oper} {u : Value} (hg : o.guard = none) (hs : AStep P T ops o σ σ') (hr : (execOp a.eval o).run P w = .ok (.value u) w') : St A W w' (a.put o.dst u) σ' := by
 have h1 := step_sound hT h (ops := #[o]) (i := 0) rfl (hs.ops hg) (K := fun a' w' => St A W w' a' σ') (Q := fun _ _ _ => False) (fun _ _ h => h)
 unfold wpOp at h1
 simp only [show (#[o])[0]? = some o from rfl, Region.wanted, hg, if_true] at h1
 rcases h1 with h1 | ⟨_, h1⟩
 ·unfold Oper.wp at h1
  rw [hr, Oper.upon_value] at h1
  exact h1
 ·obtain ⟨_, _, h⟩ := h1; exact h.elim
theorem inc_five (hT : TabOk P T) [OfP A P] {g : IncOps} {ops : Array Oper} {W : World} {Q : Exit → Act → World → Prop} (C : IncChk P T g ops) {o0 : Array Oper} {σ1 σ2 σ3 σf : AS} (h1 : AStep P T o0 g.lk σ1 σ2) (h2 : AStep P T o0 g.ad σ2 σ3) (h3 : AStep P T o0 g.mu σ3 σf)
  {kt et : TypeId} {sz1 by1 sz2 by2 sz3 by3 : Nat} {ze1 ze2 : Value} {cm1 cm3 : Bool} {fs : Array Field} {zn : Int} {zk : IntKind} {ue : TypeDesc} (hTt : T g.t = some ⟨.map kt et, sz1, by1, ze1, cm1⟩) (hTkt : T kt = some ⟨.struct fs, sz2, by2, ze2, true⟩) (hTe : T et = some ⟨ue, sz3, by3, .int zk zn, cm3⟩)
  (j1 : σ1.slots g.d1 = .junk) (j2 : σ1.slots g.d2 = .junk) (l1 : g.d1 < σ1.n) (l2 : g.d2 < σ1.n) (hQ : ∀ a w, St A W w a σf → Q .normal a w) {listed : Array Bool} {a : Act} {w : World} (hst : St A W w a σ1)
  (hsz : listed.size = ops.size) (hcl : Closed ops listed) (hpre : ∀ i, i < g.pre.length → listed.getD i true = true) (f0 : listed.getD g.pre.length true = false) (f1 : listed.getD (g.pre.length + 1) true = false) (f2 : listed.getD (g.pre.length + 2) true = false) (f3 : listed.getD (g.pre.length + 3) true = false) (f4 : listed.getD (g.pre.length + 4) true = false) :
  wpAny P .any ops Q 5 listed a w := by
 have K := C.ok
 have hs1 := h1
 obtain ⟨g1, v1, set1, sn1, del1, G1, D1, F1, N1, L1, e2⟩ := h1
 obtain rfl : g1 = true := by unfold GRel at G1; rw [K.lg] at G1; exact G1
 obtain ⟨v0, hD1, hw1⟩ := D1 rfl
 rw [Does.plain (o := g.lk) (by rw [K.lo]; rfl) (fun _ _ _ h => by rw [K.lo] at h; cases h)] at hD1
 obtain ⟨_, _, _, hset1, hdel1⟩ := hD1
 rw [K.lo, lookup_eff.1] at hset1
 rw [K.lo, lookup_eff.2] at hdel1
 have hse1 : set1 = [] := by
  rcases hw1 with ⟨_, h⟩ | ⟨_, _, h, _⟩
  ·rw [h, hset1]
  ·exact h
 subst hset1 hdel1 hse1
 have e2' : σ2 = { σ1 with slots := putS σ1.slots (some g.dl) v1 } := by rw [e2, K.lg, K.ld]; rfl
 have hs2 := h2
 obtain ⟨g2, v2, set2, sn2, del2, G2, D2, F2, N2, L2, e3⟩ := h2
 obtain rfl : g2 = true := by unfold GRel at G2; rw [K.ag] at G2; exact G2
 obtain ⟨bt2, hao⟩ := K.ao
 have hpu : pureOp T g.ad.op = true := by rw [hao]; rfl
 obtain ⟨rfl, rfl, rfl⟩ := (D2 rfl).pure_set hpu
 have e3' : σ3 = { σ2 with slots := putS σ2.slots (some g.da) v2 } := by rw [e3, K.ag, K.ad']; rfl
 obtain ⟨v0', hD2, _⟩ := D2 rfl
 rw [Does.plain (o := g.ad) (by rw [hao]; rfl) (fun _ _ _ h => by rw [hao] at h; cases h)] at hD2
 obtain ⟨hwh2, hok2, _, _, _⟩ := hD2
 obtain ⟨g3, v3, set3, sn3, del3, G3, D3, F3, N3, L3, e4⟩ := h3
 obtain rfl : g3 = true := G3
 obtain ⟨v0'', hD3, hw3⟩ := D3 rfl
 have hw3 : v3 = v0'' ∧ set3 = sn3 := by
  rcases hw3 with hw | ⟨hs, _⟩
  ·exact hw
  ·cases hs
 obtain ⟨rfl, rfl⟩ := hw3
 rw [Does.plain (o := g.mu) rfl (fun _ _ _ h => by cases h)] at hD3
 obtain ⟨hwh3, hok3, _, hset3, hdel3⟩ := hD3
 simp only [IncOps.mu, effOf] at hok3 hset3 hdel3
 rw [hTt] at hok3 hset3 hdel3
 simp only [hTkt] at hok3 hset3 hdel3
 split at hok3
 rotate_left
 ·exact hok3.elim
 rename_i mid cs hsm hsk
 rw [hsm, hsk] at hset3 hdel3
 simp only at hset3 hdel3
 split at hok3
 rotate_left
 ·exact hok3.elim
 rename_i vs ks xs hvs hid
 rw [hvs, hid] at hset3 hdel3
 simp only at hset3 hdel3
 obtain ⟨hko, hone⟩ := hok3
 subst hset3 hdel3
 have hslot : ∀ t, t ≠ g.dl → t ≠ g.da → σ3.slots t = σ1.slots t := by
  intro t ht1 ht2
  rw [e3', e2']
  show putS (putS σ1.slots (some g.dl) v1) (some g.da) v2 t = σ1.slots t
  rw [putS_out (fun d hd e => ht2 (by cases hd; exact e.symm)), putS_out (fun d hd e => ht1 (by cases hd; exact e.symm))]
 have hheap : σ3.heap = σ1.heap := by rw [e3', e2']
 have hn3 : σ3.n = σ1.n := by rw [e3', e2']
 have hn2 : σ2.n = σ1.n := by rw [e2']
 have hm1 : σ1.bev (.tmp g.m) = .map mid := by rw [← hsm]; show (σ1.slots g.m).bare = (σ3.slots g.m).bare; rw [hslot _ K.n2.symm K.n4.symm]
 have hk1 : σ1.bev (.tmp g.k) = .agg cs := by rw [← hsk]; show (σ1.slots g.k).bare = (σ3.slots g.k).bare; rw [hslot _ K.n3.symm K.n5.symm]
 have hwm1 : (σ1.ev (.tmp g.m)).when = true := by rw [← hwh3 (.tmp g.m) (by simp [IncOps.mu, Op.operands])]; show (σ1.slots g.m).when = (σ3.slots g.m).when; rw [hslot _ K.n2.symm K.n4.symm]
 have hwk1 : (σ1.ev (.tmp g.k)).when = true := by rw [← hwh3 (.tmp g.k) (by simp [IncOps.mu, Op.operands])]; show (σ1.slots g.k).when = (σ3.slots g.k).when; rw [hslot _ K.n3.symm K.n5.symm]
 have hid1 : σ1.heap mid = some (.map ks xs) := by rw [← hheap]; exact hid
 obtain ⟨ι1, R1, hO1⟩ := id hst
 have hrm := (hO1.ev (.tmp g.m)).bare hwm1
 have hrk := (hO1.ev (.tmp g.k)).bare hwk1
 change RelA ι1 R1 w (σ1.bev (.tmp g.m)) _ at hrm
 change RelA ι1 R1 w (σ1.bev (.tmp g.k)) _ at hrk
 rw [hm1] at hrm
 rw [hk1] at hrk
 simp only [RelA] at hrm hrk
 obtain ⟨gm, c, hi1, hmu⟩ := hrm
 obtain ⟨us, hus, hrl⟩ := hrk
 have hkv : a.eval (.tmp g.k) = .agg vs.toArray := by rw [hus, ← raws_inv hrl hvs]
 obtain ⟨g', c', es, ck, hi1', hh, hks, hr1, ho1, hbn⟩ := hO1.heap mid _ hid1
 rw [hi1] at hi1'
 obtain ⟨rfl, rfl⟩ : gm = g' ∧ c = c' := by simpa using hi1'
 have hTk := keyRunsS hT hTkt hko
 have hTk1 : KeyRuns P kt (.agg vs.toArray) (ks ++ [.agg vs.toArray]) := keyRunsS hT hTkt ⟨hko.1, hko.2.1, fun e he => by
  rcases List.mem_append.1 he with h | h
  ·exact hko.2.2 e h
  ·rw [List.mem_singleton.1 h]; exact hko.2.1⟩
 have hkk : keyEq (.agg vs.toArray) (.agg vs.toArray) = true := by
  obtain ⟨cs', e, _, hal⟩ := aggI_inv hko.2.1
  rw [e]
  exact (intsEq_iff hal hal).2 rfl
 obtain ⟨z, ks1, es1, ck1, st, j, e1, z0, hks1, hbn1, hj1, hst1, hcase, hlook, hruns⟩ := inc_runs hT K (n := σ1.n) hTt hTe hTk hTk1 hkk hh hks hbn
 have hs1' := hst.runs hT K.lg hs1 (hlook a hmu hkv)
 rw [K.ld] at hs1'
 obtain ⟨nz, hnz⟩ : ∃ n, σ2.bev (.tmp g.dl) = .pv (.raw (.int g.kd n)) := by
  rw [hao] at hok2
  have hok2 : (binAV T .add g.bt (σ2.bev (.tmp g.dl)) (.pv (.raw (.int g.kd g.c)))).1 := hok2
  exact sum_int hok2
 have hz : z = .int g.kd nz := by
  obtain ⟨ι, R, h⟩ := hs1'
  have hw := hwh2 (.tmp g.dl) (by rw [hao]; simp [Op.operands])
  have := (h.ev (.tmp g.dl)).bare hw
  change RelA ι R w (σ2.bev (.tmp g.dl)) _ at this
  rw [hnz] at this
  have := raw_inv this
  rwa [put_get a z g.dl σ1.n hO1.size (L1 g.dl K.ld)] at this
 have hsum : ∀ (b : Act) (v : World), b.eval (.tmp g.dl) = z → (execOp b.eval g.ad).run P v = .ok (.value (intBin .add g.kd nz g.c).2) v := by
  intro b v hb
  simp only [execOp, hao]
  show Sem.run P (do pure (Next.value (← (do eqGuard .add g.bt (.tmp g.dl) (.const (.int g.kd g.c)) (b.eval (.tmp g.dl)) (b.eval (.const (.int g.kd g.c))); binOp .add g.bt (b.eval (.tmp g.dl)) (b.eval (.const (.int g.kd g.c)))))) ) v = _
  rw [hb, hz]
  have h1 := intBin_run (P := P) (w := v) .add g.bt g.kd g.kd nz g.c (.inr rfl) trivial
  have h2 : (eqGuard .add g.bt (.tmp g.dl) (.const (.int g.kd g.c)) (.int g.kd nz) (.int g.kd g.c)).run P v = .ok () v := rfl
  simp only [Sem.run_bind, Act.eval, h2, h1, Result.andThen_ok, Sem.run_pure]
 have hs2' := hs1'.runs hT K.ag hs2 (hsum _ w (put_get a z g.dl σ1.n hO1.size (L1 g.dl K.ld)))
 rw [K.ad'] at hs2'
 have RR := hruns _ hsum
 obtain ⟨y, hy⟩ : ∃ y, y = (intBin .add g.kd nz g.c).2 := ⟨_, rfl⟩
 rw [← hy] at hs2' RR
 obtain ⟨ι3, R3, hO3⟩ := hs2'
 have ha2m : ((a.put (some g.dl) z).put (some g.da) y).eval (.tmp g.m) = .map (some gm) := by rw [put_other _ _ _ _ K.n4.symm, put_other _ _ _ _ K.n2.symm]; exact hmu
 have hrm3 := (hO3.ev (.tmp g.m)).bare (hwh3 (.tmp g.m) (by simp [IncOps.mu, Op.operands]))
 change RelA ι3 R3 w (σ3.bev (.tmp g.m)) _ at hrm3
 rw [hsm, ha2m] at hrm3
 simp only [RelA] at hrm3
 obtain ⟨gm3, c3, hi3, hgm3⟩ := hrm3
 obtain rfl : gm = gm3 := by simpa using hgm3
 obtain ⟨g4, c4, es4, ck4, hi4, hh4, hks4, hr4, ho4, _⟩ := hO3.heap mid _ hid
 rw [hi3] at hi4
 obtain ⟨rfl, rfl⟩ : gm = g4 ∧ c3 = c4 := by simpa using hi4
 rw [hh] at hh4
 obtain ⟨rfl, rfl⟩ : es = es4 ∧ ck = ck4 := by simpa using hh4
 have hry : RelA ι3 R3 w (σ3.bev (.tmp g.da)) y := by
  have := (hO3.ev (.tmp g.da)).bare (hwh3 (.tmp g.da) (by simp [IncOps.mu, Op.operands]))
  change RelA ι3 R3 w (σ3.bev (.tmp g.da)) _ at this
  rwa [put_get _ y g.da σ1.n (by rw [put_size]; exact hO1.size) (by rw [← hn2]; exact L2 g.da K.ad')] at this
 have huy : y.oneCell' = true := RelA.one hry hone
 have hxl : xs.length = es.size := by have := hr4.length; simpa using this
 have hjl : j < es1.size := (Array.getElem?_eq_some_iff.1 hj1).1
 have hmod : (es1.modify j fun e => { e with val := y }).toList = es1.toList.set j { e1 with val := y } := by
  rw [Array.toList_modify]
  apply List.ext_getElem?
  intro k
  rw [List.getElem?_modify, List.getElem?_set]
  have hjl' : j < es1.toList.length := by simpa using hjl
  by_cases hk : j = k
  ·subst hk
   have : es1.toList[j]? = some e1 := by simpa using hj1
   rw [this, if_pos rfl, if_pos hjl']
   simp
  ·rw [if_neg hk]
   simp [hk]
 have hkeys : ((es1.modify j fun e => { e with val := y }).toList.map (·.key)) = ks1 := by
  rw [hmod, List.map_set]
  have : es1.toList[j]? = some e1 := by simpa using hj1
  rw [← hks1]
  apply List.ext_getElem?
  intro k
  rw [List.getElem?_set]
  by_cases hk : j = k
  ·subst hk
   rw [if_pos rfl, List.getElem?_map, this]
   simp
   omega
  ·rw [if_neg hk]
 have hvals : ((es1.modify j fun e => { e with val := y }).toList.map (·.val)) = (es1.toList.map (·.val)).set j y := by
  rw [hmod, List.map_set]
 obtain ⟨xs2, hput, hrel, hones⟩ : ∃ xs2, mapPut (.agg vs.toArray) (σ3.bev (.tmp g.da)) ks xs = (ks1, xs2) ∧ RelL ι3 R3 w xs2 ((es1.modify j fun e => { e with val := y }).toList.map (·.val)) ∧ Ones ((es1.modify j fun e => { e with val := y }).toList.map (·.val)) := by
  rcases hcase with ⟨q1, q2, q3⟩ | ⟨q1, q2, q3, q4⟩
  ·subst q1
   exact ⟨_, q3 xs hxl _, by rw [hvals]; exact hr4.set j hry, by rw [hvals]; exact ho4.set huy j⟩
  ·refine ⟨_, q4 xs hxl _, ?_, ?_⟩
   ·rw [hvals, q1, List.map_append, q2]
    have : (es.toList.map (·.val) ++ [e1].map (·.val)).set es.size y = es.toList.map (·.val) ++ [y] := by
     rw [List.set_append_right _ _ (by simp)]; simp
    rw [this]
    exact hr4.append (by simp only [RelL, and_true]; exact hry)
   ·rw [hvals, q1, List.map_append, q2]
    have : (es.toList.map (·.val) ++ [e1].map (·.val)).set es.size y = es.toList.map (·.val) ++ [y] := by
     rw [List.set_append_right _ _ (by simp)]; simp
    rw [this]
    intro u hu
    rcases List.mem_append.1 hu with hu | hu
    ·exact ho4 u hu
    ·rw [List.mem_singleton.1 hu]; exact huy
 have hw := hO3.writeMap (es' := es1.modify j fun e => { e with val := y }) (ck' := ck1) (ks' := ks1) (xs' := xs2) hid hi3 hh hkeys hrel hones (hbn1.modify j _ fun _ => rfl)
 have hw1 := hw.put_junk' (t := g.d1) (.tuple #[z0, goInt st]) (by show g.d1 < σ3.n; rw [hn3]; exact l1) (by show σ3.slots g.d1 = .junk; rw [hslot _ K.n7 K.n8]; exact j1)
 have hw2 := hw1.put_junk' (t := g.d2) (goInt st) (by show g.d2 < σ3.n; rw [hn3]; exact l2) (by show σ3.slots g.d2 = .junk; rw [hslot _ K.n9 K.n10]; exact j2)
 have hfin : σf = { σ3 with heap := upd σ3.heap mid (some (.map ks1 xs2)), seen := upd σ3.seen mid true } := by
  rw [e4, hput]; rfl
 refine inc_grid C (n := σ1.n) (a := a) (w := w) hO1.size (L1 g.dl K.ld) (by rw [← hn2]; exact L2 g.da K.ad') l1 l2 hmu hkv RR (hQ _ _ ⟨ι3, R3, ?_⟩) 5 0 0 listed (by omega) (by omega) rfl hsz hcl hpre (by rw [f0]; rfl) (by rw [f1]; rfl) (by rw [f2]; rfl) (by rw [f3]; rfl) f4
 rw [hfin]
 exact hw2
theorem inc_pre (hT : TabOk P T) [OfP A P] {fz B : List Nat} {D : DC} {g : IncOps} {ops : Array Oper} (hok : orderOkD T fz B D g.pre.toArray = true) {W : World} {Q : Exit → Act → World → Prop} {σ1 : AS} (C : IncChk P T g ops)
  (hG : ∀ (listed : Array Bool) (a : Act) (w : World), listed.size = ops.size → Closed ops listed → (∀ i, i < g.pre.length → listed.getD i true = true) → listed.getD g.pre.length true = false → listed.getD (g.pre.length + 1) true = false → listed.getD (g.pre.length + 2) true = false → listed.getD (g.pre.length + 3) true = false → listed.getD (g.pre.length + 4) true = false → St A W w a σ1 → wpAny P .any ops Q 5 listed a w) :
  ∀ (n : Nat) (listed : Array Bool) (a : Act) (w : World) (σ : AS), listed.size = ops.size → Closed ops listed → listed.getD g.pre.length true = false → listed.getD (g.pre.length + 1) true = false → listed.getD (g.pre.length + 2) true = false → listed.getD (g.pre.length + 3) true = false → listed.getD (g.pre.length + 4) true = false → (rest ops listed).length = n →
  σ.fz = fz → St A W w a σ → (∀ k ∈ B, BoxAt σ k) → PtrIs D σ → AChain P T g.pre.toArray (rest g.pre.toArray listed) σ σ1 → wpAny P .any ops Q n listed a w
 | 0, listed, a, w, σ, hsz, hcl, f0, f1, f2, f3, f4, hn, hz, hst, hB, hP, hch => by
  exfalso
  have hm : g.pre.length + 4 ∈ rest ops listed := mem_rest.2 ⟨by have := C.ok.size; omega, f4⟩
  rw [List.eq_nil_of_length_eq_zero hn] at hm
  cases hm
 | n + 1, listed, a, w, σ, hsz, hcl, f0, f1, f2, f3, f4, hn, hz, hst, hB, hP, hch => by
  have hs5 := C.ok.size
  have hps : g.pre.toArray.size = g.pre.length := by simp
  by_cases hr0 : rest g.pre.toArray listed = []
  ·rw [hr0] at hch
   cases hch
   have hall : ∀ i, i < g.pre.length → listed.getD i true = true := by
    intro i hi
    cases hl : listed.getD i true with
    | true => rfl
    | false =>
     have : i ∈ rest g.pre.toArray listed := mem_rest.2 ⟨by rw [hps]; exact hi, hl⟩
     rw [hr0] at this; cases this
   have hrl : rest ops listed = [g.pre.length, g.pre.length + 1, g.pre.length + 2, g.pre.length + 3, g.pre.length + 4] := by
    unfold rest
    rw [hs5]
    have e : List.range (g.pre.length + 5) = List.range g.pre.length ++ [g.pre.length, g.pre.length + 1, g.pre.length + 2, g.pre.length + 3, g.pre.length + 4] := by
     simp [List.range_succ]
    rw [e, List.filter_append, List.filter_eq_nil_iff.2 (fun i hi => by rw [hall i (List.mem_range.1 hi)]; decide), List.nil_append]
    simp only [List.filter, f0, f1, f2, f3, f4, Bool.not_false]
   rw [hrl] at hn
   obtain rfl : n = 4 := by simpa using hn.symm
   exact hG listed a w hsz hcl hall f0 f1 f2 f3 f4 hst
  ·have hex : rest ops listed ≠ [] := by intro e; rw [e] at hn; cases hn
   refine ⟨fun hr => absurd hr (ready_ne hsz C.ed hex), fun i hi => ?_⟩
   obtain ⟨h1, h2, h3⟩ := ready_mem hi
   have hn' := rest_set_len hsz hi hn
   have hcl' := closed_set hsz hi hcl
   have hgd : ∀ k, k ≠ i → ∀ d, (listed.setIfInBounds i true).getD k d = listed.getD k d := fun k hk d => by rw [set_listed (by omega), if_neg hk]
   have ht2f : ∀ k, k < listed.size → listed.getD k true = false → listed.getD k false = false := by
    intro k hk h
    simp only [Array.getD_eq_getD_getElem?] at h ⊢
    rw [Array.getElem?_eq_getElem hk] at h ⊢
    exact h
   obtain ⟨q, hq⟩ := List.exists_mem_of_ne_nil _ hr0
   obtain ⟨hq1, hq2⟩ := mem_rest.1 hq
   rw [hps] at hq1
   by_cases hlo : i < g.pre.length
   ·obtain ⟨o, ho⟩ : ∃ o, g.pre.toArray[i]? = some o := ⟨_, Array.getElem?_eq_getElem (by rw [hps]; exact hlo)⟩
    have ho' : ops[i]? = some o := by rw [C.ok.lo_ hlo]; exact ho
    have hpre := h3 o ho'
    have hclp : Closed g.pre.toArray listed := by
     intro k o hk
     have hkl : k < g.pre.length := by have := (Array.getElem?_eq_some_iff.1 hk).1; rw [hps] at this; exact this
     exact hcl k o (by rw [C.ok.lo_ hkl]; exact hk)
    have hmem : i ∈ rest g.pre.toArray listed := mem_rest.2 ⟨by rw [hps]; exact hlo, h2⟩
    have hsorted := rest_sorted g.pre.toArray listed
    obtain ⟨l1, l2, hL⟩ := List.append_of_mem hmem
    rw [hL] at hch hsorted
    have hbefore : ∀ j ∈ l1, j < i := fun j hj => (List.pairwise_append.1 hsorted).2.2 j hj i (by simp)
    obtain ⟨σ1', hs, hc1⟩ := AChain.pull hT (fun j oj hj => (orderOk_spec hok hj).1) ho l1 hz hst hB hP hch (by
     intro j hj oj hoj
     have hji := hbefore j hj
     rcases (orderOk_spec hok ho).2.2 j oj hji hoj with ⟨ht, hex⟩ | hind
     ·exfalso
      have hjl := listed_of_mask hok (by rw [hps]; omega) hclp i i j o (Nat.le_refl _) ho hji ht ⟨oj, .inr trivial⟩ hpre hex
      have hjr : j ∈ rest g.pre.toArray listed := by rw [hL]; simp [hj]
      have := (mem_rest.1 hjr).2
      rw [ht2f j (by omega) this] at hjl
      cases hjl
     ·exact hind)
    refine wpOp_ops ho ho' (C.gd i o ho) (step_sound hT hst ho hs fun a' w' hst' => ?_)
    have hrest : rest g.pre.toArray (listed.setIfInBounds i true) = l1 ++ l2 := by
     rw [rest_set (by omega), hL, List.filter_append, List.filter_cons]
     simp only [beq_self_eq_true, Bool.not_true, Bool.false_eq_true, if_false]
     rw [List.filter_eq_self.2, List.filter_eq_self.2]
     ·intro j hj
      have := (List.pairwise_cons.1 (List.pairwise_append.1 hsorted).2.1).1 j hj
      simp; omega
     ·intro j hj
      have := hbefore j hj
      simp; omega
    exact inc_pre hT hok C hG n _ _ _ σ1' (by simpa using hsz) hcl' (by rw [hgd _ (by omega)]; exact f0) (by rw [hgd _ (by omega)]; exact f1) (by rw [hgd _ (by omega)]; exact f2) (by rw [hgd _ (by omega)]; exact f3) (by rw [hgd _ (by omega)]; exact f4) hn' (hs.fz.trans hz) hst' (fun k hk => hs.boxAt hst.hyg ((orderOk_spec hok ho).1.1 k hk) (hB k hk)) (hs.ptrIs (orderOk_spec hok ho).1.2 hP) (by rw [hrest]; exact hc1)
   ·exfalso
    have hi5 : i = g.pre.length ∨ i = g.pre.length + 1 ∨ i = g.pre.length + 2 ∨ i = g.pre.length + 3 ∨ i = g.pre.length + 4 := by omega
    rcases hi5 with rfl | rfl | rfl | rfl | rfl
    ·have := reach_listed hsz hcl 6 (h3 g.lk (C.ok.at_ 0)) (C.cov q hq1).2
     rw [ht2f q (by omega) hq2] at this; cases this
    ·have := reach_listed hsz hcl 0 (h3 g.ad (C.ok.at_ 1)) C.al
     rw [ht2f _ (by omega) f0] at this; cases this
    ·have := reach_listed hsz hcl 6 (h3 g.e (C.ok.at_ 2)) (C.cov q hq1).1
     rw [ht2f q (by omega) hq2] at this; cases this
    ·have := reach_listed hsz hcl 0 (h3 g.x (C.ok.at_ 3)) C.xe
     rw [ht2f _ (by omega) f2] at this; cases this
    ·have := reach_listed hsz hcl 0 (h3 g.s (C.ok.at_ 4)) C.sx
     rw [ht2f _ (by omega) f3] at this; cases this
theorem AChain.split3 {ops : Array Oper} {i j k : Nat} {l : List Nat} {σ σ' : AS} (h : AChain P T ops (l ++ [i, j, k]) σ σ') : ∃ σ1 σ2 σ3 oi oj ok, AChain P T ops l σ σ1 ∧ ops[i]? = some oi ∧ AStep P T ops oi σ1 σ2 ∧ ops[j]? = some oj ∧ AStep P T ops oj σ2 σ3 ∧ ops[k]? = some ok ∧ AStep P T ops ok σ3 σ' := by
 have h : AChain P T ops (((l ++ [i]) ++ [j]) ++ [k]) σ σ' := by simpa using h
 obtain ⟨σ3, ok, h1, e1, s1⟩ := h.snoc
 obtain ⟨σ2, oj, h2, e2, s2⟩ := h1.snoc
 obtain ⟨σ1, oi, h3, e3, s3⟩ := h2.snoc
 exact ⟨σ1, σ2, σ3, oi, oj, ok, h3, e3, s3, e2, s2, e1, s1⟩
theorem awp_region_inc (hT : TabOk P T) (hm : P.follows .mixedOrders = true) {id : Nat} {ops ops' : Array Oper} {Q : Exit → AS → Prop} {σ : AS} (he : incAt T σ ops = some ops') (h : sxOps P T ops' ops'.toList (Q .normal) σ) : AWp P (.region id ops true) Q σ := by
 unfold incAt at he
 split at he
 ·cases he
 rename_i g hg
 have hk := incOps_ok hg
 obtain ⟨hb, rfl⟩ := cond_some he
 simp only [Bool.and_eq_true] at hb
 obtain ⟨j1, j2, l1, l2, hord, hgd, hcov, hal, hxe, hsx, hsa, edl, eda, ede, edx, eds, hty⟩ := hb
 have j1 := isJunk_eq j1; have j2 := isJunk_eq j2
 have l1 := Nat.le_of_ble_eq_true l1; have l2 := Nat.le_of_ble_eq_true l2
 obtain ⟨B, D, hok, hB, hP⟩ := orderAt_cases hord
 intro A _ W a w hst
 obtain ⟨σf, hc, hq⟩ := sxRegion h
 have hps : g.pre.toArray.size = g.pre.length := by simp
 have hsz : (((g.pre.toArray.push g.lk).push g.ad).push g.mu).size = g.pre.length + 3 := by simp
 have hget : ∀ i, (((g.pre.toArray.push g.lk).push g.ad).push g.mu)[i]? = if i = g.pre.length + 2 then some g.mu else if i = g.pre.length + 1 then some g.ad else if i = g.pre.length then some g.lk else g.pre.toArray[i]? := by
  intro i
  simp only [Array.getElem?_push, Array.size_push, hps]
 rw [hsz, show List.range (g.pre.length + 3) = List.range g.pre.length ++ [g.pre.length, g.pre.length + 1, g.pre.length + 2] by simp [List.range_succ]] at hc
 obtain ⟨σ1, σ2, σ3, oi, oj, ok, hc0, ei, s1, ej, s2, ek, s3⟩ := hc.split3
 rw [hget, if_neg (by omega), if_neg (by omega), if_pos rfl] at ei
 rw [hget, if_neg (by omega), if_pos rfl] at ej
 rw [hget, if_pos rfl] at ek
 cases ei; cases ej; cases ek
 have hlo : ∀ i, i < g.pre.length → (((g.pre.toArray.push g.lk).push g.ad).push g.mu)[i]? = g.pre.toArray[i]? := by
  intro i hi
  rw [hget, if_neg (by omega), if_neg (by omega), if_neg (by omega)]
 have hgdn : ∀ (i : Nat) (o : Oper), g.pre.toArray[i]? = some o → o.guard = none ∧ o.dst ≠ some g.d1 ∧ o.dst ≠ some g.d2 := by
  intro i o ho
  have hmem : o ∈ g.pre := by
   rw [← Array.getElem?_toList] at ho
   exact List.mem_of_getElem? (by simpa using ho)
  rw [List.all_eq_true] at hgd
  have := hgd o hmem
  rw [Bool.and_eq_true] at this
  refine ⟨by simpa using this.1, fun e => ?_, fun e => ?_⟩
  ·have h2 := this.2; rw [e] at h2; simp only [Bool.and_eq_true] at h2; exact ne_ok h2.1 rfl
  ·have h2 := this.2; rw [e] at h2; simp only [Bool.and_eq_true] at h2; exact ne_ok h2.2 rfl
 have hcp : AChain P T g.pre.toArray (List.range g.pre.length) σ σ1 := AChain.ops (fun i hi o ho => by
  rw [hlo i (by simpa using hi)] at ho
  exact ⟨ho, (hgdn i o ho).1⟩) hc0
 have hslots : ∀ k, (∀ (i : Nat) (o : Oper), g.pre.toArray[i]? = some o → o.dst ≠ some k) → ∀ {l σ1 σ2}, AChain P T g.pre.toArray l σ1 σ2 → σ1.slots k = σ2.slots k ∧ σ1.n = σ2.n := by
  intro k hk l σ1 σ2 hc
  induction hc with
  | nil => exact ⟨rfl, rfl⟩
  | cons i l o σ σ1 σ2 ho hs _ ih =>
   rw [← ih.1, ← ih.2]
   obtain ⟨g', v, set, set0, del, G, D, F, N, L, rfl⟩ := hs
   exact ⟨(putS_out fun d hd e => hk i o ho (by rw [hd, e])).symm, rfl⟩
 obtain ⟨q1, qn⟩ := hslots g.d1 (fun i o ho => (hgdn i o ho).2.1) hcp
 obtain ⟨q2, _⟩ := hslots g.d2 (fun i o ho => (hgdn i o ho).2.2) hcp
 have C : IncChk P T g ops := by
  have hgetz : ∀ (i : Nat) (o : Oper), g.pre.toArray[i]? = some o → (o, i) ∈ g.pre.zipIdx := by
   intro i o ho
   rw [← Array.getElem?_toList] at ho
   exact zipIdx_get (by simpa using ho)
  refine ⟨hk, fun i o ho => (hgdn i o ho).1, fun i hi => ?_, hal, hxe, hsx, hsa, fun i o ho e hee hbe => ?_⟩
  ·obtain ⟨o, ho⟩ : ∃ o, g.pre.toArray[i]? = some o := ⟨_, Array.getElem?_eq_getElem (by rw [hps]; exact hi)⟩
   rw [List.all_eq_true] at hcov
   have := hcov _ (hgetz i o ho)
   rw [Bool.and_eq_true] at this
   exact this
  ·have hlt := (Array.getElem?_eq_some_iff.1 ho).1
   rw [hk.size] at hlt
   have key : ∀ {l : List Edge} {n : Nat}, (l.all fun e => !Region.binds .any e || Nat.ble (e.on + 1) n) = true → e ∈ l → e.on < n := by
    intro l n hl hel
    rw [List.all_eq_true] at hl
    have := hl e hel
    rw [hbe] at this
    have := Nat.le_of_ble_eq_true (by simpa using this)
    omega
   by_cases hi : i < g.pre.length
   ·exact (orderOk_spec hok (by rw [← hk.lo_ hi]; exact ho)).2.1 e hee hbe
   ·have hcase : i = g.pre.length + 0 ∨ i = g.pre.length + 1 ∨ i = g.pre.length + 2 ∨ i = g.pre.length + 3 ∨ i = g.pre.length + 4 := by omega
    rcases hcase with rfl | rfl | rfl | rfl | rfl
    ·rw [hk.at_ 0] at ho; cases ho; exact key edl hee
    ·rw [hk.at_ 1] at ho; cases ho; exact key eda hee
    ·rw [hk.at_ 2] at ho; cases ho; exact key ede hee
    ·rw [hk.at_ 3] at ho; cases ho; exact key edx hee
    ·rw [hk.at_ 4] at ho; cases ho; exact key eds hee
 split at hty
 rotate_left
 ·cases hty
 rename_i kt et sz1 by1 ze1 cm1 hTt
 split at hty
 rotate_left
 ·cases hty
 rename_i fs sz2 by2 ze2 hTkt
 split at hty
 rotate_left
 ·cases hty
 rename_i ue sz3 by3 zk zn cm3 hTe
 refine wp_region_any hm ?_
 have hr : rest g.pre.toArray (Array.replicate ops.size false) = List.range g.pre.length := by
  unfold rest
  rw [hps, List.filter_eq_self]
  intro i hi
  have : i < g.pre.length := by simpa using hi
  have : i < ops.size := by rw [hk.size]; omega
  simp [Array.getD_eq_getD_getElem?, this]
 have hrl : (rest ops (Array.replicate ops.size false)).length = ops.size := by
  unfold rest
  rw [List.filter_eq_self.2]
  ·simp
  ·intro i hi
   have : i < ops.size := by simpa using hi
   simp [Array.getD_eq_getD_getElem?, this]
 have hst' : St A W { w with drawn := w.drawn + 1 } a σ := by
  obtain ⟨ι, R, h⟩ := hst
  refine ⟨ι, R, h.below.drew, h.size, h.defers, h.seen, fun t => RelA.mono (w := w) (w' := w.drew) (R := R) (fun _ _ e => e) (fun _ e => e) (fun _ _ => rfl) _ _ (h.slots t), fun id b hb => RelB.mono (w := w) (w' := w.drew) (h.heap id b hb) (fun _ _ e => e) (fun _ e => e) (fun _ _ => rfl) (fun _ _ _ => rfl), h.inj, h.new, h.lt, h.out, h.arg, h.pin, h.glob⟩
 have hsize := hk.size
 have hfalse : ∀ i, i < ops.size → (Array.replicate ops.size false).getD i true = false := by
  intro i hi
  simp [Array.getD_eq_getD_getElem?, hi]
 refine inc_pre hT hok C (fun listed a w hs hc hp f0 f1 f2 f3 f4 hst => inc_five hT C s1 s2 s3 hTt hTkt hTe (by rw [← q1]; exact j1) (by rw [← q2]; exact j2) (by rw [← qn]; omega) (by rw [← qn]; omega) (fun a w hs => ⟨_, hs, hq⟩) hst hs hc hp f0 f1 f2 f3 f4) ops.size _ _ _ σ (by simp) ?_ (hfalse _ (by omega)) (hfalse _ (by omega)) (hfalse _ (by omega)) (hfalse _ (by omega)) (hfalse _ (by omega)) hrl rfl hst' hB hP (by rw [hr]; exact hcp)
 intro k o hk' hl hks
 simp at hks
 simp [Array.getD_eq_getD_getElem?, hks] at hl
end Go.Ab

