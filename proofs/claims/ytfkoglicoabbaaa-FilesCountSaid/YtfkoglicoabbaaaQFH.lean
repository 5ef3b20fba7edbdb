import Derived.Test.YtfkoglicoabbaaaQFZ
import Derived.Laws.AppendOwn
set_option linter.unusedVariables false
set_option linter.unusedSimpArgs false
namespace Go.Proofs
open Go.RowKit Go.Fp
def zeros28 : Array Value := Array.replicate 64 (.int .i64 0)
theorem FR.keep2 {n0 sb : Nat} {ep eo : Nat → Nat} {st : St} {w w' : World} (h : FR n0 sb ep eo st w) (ho : ∀ k, FileBlk n0 w k → w'.heap[k]? = w.heap[k]?) : FR n0 sb ep eo st w' := by
  refine ⟨h.ns, ?_, ?_, ?_, h.ip, h.io⟩
  · obtain ⟨cs, h1, h2, h3⟩ := h.s; exact ⟨cs, (ho sb ⟨h.ns, cs, 46, h1, .inl rfl⟩).trans h1, h2, h3⟩
  · intro p t hp
    obtain ⟨h0, cs, h1, h2, h3⟩ := h.t p t hp
    exact ⟨h0, cs, (ho (ep p) ⟨h0, cs, 49, h1, .inr (.inl rfl)⟩).trans h1, h2, h3⟩
  · intro i o hi
    obtain ⟨h0, h1⟩ := h.o i o hi
    exact ⟨h0, (ho (eo i) ⟨h0, _, 52, h1, .inr (.inr rfl)⟩).trans h1⟩
theorem owns_only {w w' : World} {base n0 : Nat} {v : Value} {n : Nat} {xs : List Value} (h : w.ownsRow base 34 2 v n xs) (ho : Only (FileBlk n0 w) w w') : w'.ownsRow base 34 2 v n xs := by
  refine ⟨h.1, ?_⟩
  rcases h.2 with h | ⟨g, cap, cur, h1, h2, h3, h4⟩
  · exact .inl h
  · refine .inr ⟨g, cap, cur, h1, h2, ?_, h4⟩
    refine (ho.block g (Array.getElem?_eq_some_iff.1 h3).1 ?_).trans h3
    rintro ⟨_, cs, t, h5, h6⟩
    rw [h3] at h5
    simp only [Option.some.injEq, Obj.cells.injEq] at h5
    obtain ⟨_, rfl, _⟩ := h5
    rcases h6 with h | h | h <;> cases h
def ansL (l : List (Int × Int)) : List Value := l.flatMap fun a => [.int .i64 a.1, .int .i64 a.2]
def dOp : Fp.Op := ⟨0, 0, 0, 0, 0, 0, 0⟩
def opF (o : Fp.Op) : Nat → Int
  | 0 => o.kind
  | 1 => o.proc
  | 2 => o.name
  | 3 => o.size
  | 4 => o.fd
  | 5 => o.dst
  | _ => o.most
structure PlayRel (w : World) (xs : List Fp.Op) (k : Nat) (v : Value) (wr : World) : Prop where
  row : wr.ownsRow w.heap.size 34 2 v k (ansL (answers (xs.take k) s0))
  st : ∃ ep eo, FR w.heap.size (w.heap.size + 1) ep eo (run (xs.take k) s0) wr
  b0 : wr.heap[w.heap.size]? = some (.cells zeros28 28 (0, 0))
  below : Below w.heap.size w wr
  nil : v = .slice none 0 0 ↔ k = 0
theorem PlayRel.next {w : World} {xs : List Fp.Op} {k : Nat} {v v' : Value} {wr w0 w2 w3 : World} (h : PlayRel w xs k v wr) (hk : k < xs.length) {o : Fp.Op} (ho : o = xs.getD k dOp)
    (h0 : Only (fun _ => False) wr w0) {ep' eo' : Nat → Nat} (hF : FR w.heap.size (w.heap.size + 1) ep' eo' (doOp (run (xs.take k) s0) o).1 w2) (hO : Only (FileBlk w.heap.size w0) w0 w2)
    {e1 e2 : Int} (he : (doOp (run (xs.take k) s0) o).2 = (e1, e2)) {ob : Obj} (hown : w3.ownsRow w.heap.size 34 2 v' (k + 1) (ansL (answers (xs.take k) s0) ++ [.int .i64 e1, .int .i64 e2]))
    (hg : (w2.alloc ob).grownBy w3 v.ownBlock) (hnil : v' = .slice none 0 0 ↔ v = .slice none 0 0 ∧ 1 = 0) : PlayRel w xs (k + 1) v' w3 := by
  have htk : xs.take (k + 1) = xs.take k ++ [o] := by
    rw [List.take_succ_eq_append_getElem hk, ho]; simp [List.getD_eq_getElem?_getD, hk]
  have hs1 := h0.size
  have hs2 := hO.size
  have hr0 : w0.ownsRow w.heap.size 34 2 v k (ansL (answers (xs.take k) s0)) := owns_only (n0 := 0) h.row h0.up
  have hr2 : w2.ownsRow w.heap.size 34 2 v k (ansL (answers (xs.take k) s0)) := owns_only hr0 hO
  have hlb : w.heap.size < wr.heap.size := (Array.getElem?_eq_some_iff.1 h.b0).1
  have hkeep : ∀ {b : Nat} {cs : Array Value} {t : TypeId}, w2.heap[b]? = some (.cells cs t (0, 0)) → t ≠ 34 → w3.heap[b]? = some (.cells cs t (0, 0)) := by
    intro b cs t hb ht
    have hl := (Array.getElem?_eq_some_iff.1 hb).1
    rw [hg.block b (by simp; omega) (fun hx => ?_), Below.heap_alloc _ _ _ hl]
    · exact hb
    · rcases hr2.2 with ⟨rfl, _⟩ | ⟨g, cap, cur, rfl, _, h5, _⟩
      · cases hx
      · simp only [Value.ownBlock, Option.some.injEq] at hx
        subst hx
        rw [hb] at h5
        simp only [Option.some.injEq, Obj.cells.injEq] at h5
        exact ht h5.2.1
  refine ⟨?_, ⟨ep', eo', ?_⟩, ?_, ?_, ?_⟩
  · rw [htk, answers_append]
    have : answers [o] (run (xs.take k) s0) = [(e1, e2)] := by simp [answers, he]
    rw [this]
    simpa [ansL] using hown
  · have hr : run (xs.take (k + 1)) s0 = (doOp (run (xs.take k) s0) o).1 := by rw [htk, run_append]; rfl
    rw [hr]
    refine hF.keep2 fun b hb => ?_
    obtain ⟨_, cs, t, h5, h6⟩ := hb
    rw [h5]
    exact hkeep h5 (by rintro rfl; rcases h6 with h | h | h <;> cases h)
  · refine hkeep ?_ (by decide)
    refine (hO.block _ (by omega) ?_).trans ((h0.block _ hlb id).trans h.b0)
    rintro ⟨_, cs, t, h5, h6⟩
    rw [(h0.block _ hlb id).trans h.b0] at h5
    simp only [Option.some.injEq, Obj.cells.injEq] at h5
    obtain ⟨_, rfl, _⟩ := h5
    rcases h6 with h | h | h <;> cases h
  · have b1 : Below w.heap.size w w2 := by
      refine ⟨hO.os.trans (h0.os.trans h.below.os), hO.tape.trans (h0.tape.trans h.below.tape), hO.output.trans (h0.output.trans h.below.output), by omega, fun b hb => ?_⟩
      exact (hO.block b (by omega) (by rintro ⟨h5, _⟩; omega)).trans ((h0.block b (by omega) id).trans (h.below.block b hb))
    exact Below.grown (b1.alloc (by omega) _) hg (by simp; omega) (fun j hj => (hr2.lt _ hj).1)
  · constructor
    · intro hv; have := hnil.1 hv; omega
    · intro hv; omega
structure AllRel (W : World) (st : St) (m : Nat) (wr : World) : Prop where
  a : ∃ cs, wr.heap[W.heap.size]? = some (.cells cs 28 (0, 0)) ∧ cs.size = 64 ∧ ∀ i, i < 64 → cs[i]? = some (.int .i64 (if i < m then Fp.cell st (i / 16) (i % 16) else 0))
  o : Only (fun _ => False) W wr
theorem AllRel.drew {W : World} {st : St} {m : Nat} {wr : World} (h : AllRel W st m wr) (n : Nat) : AllRel W st m (wr.drewN n) := ⟨h.a, h.o.drew n⟩
theorem AllRel.at {W : World} {st : St} {m : Nat} {wr : World} (h : AllRel W st m wr) (hm : m < 64) : wr.cell? ⟨W.heap.size, m, none⟩ = some (.int .i64 0) ∧ wr.frozen? ⟨W.heap.size, m, none⟩ = false ∧ W.heap.size < wr.heap.size := by
  obtain ⟨cs, h1, h2, h3⟩ := h.a
  have := h3 m hm
  rw [if_neg (Nat.lt_irrefl _)] at this
  exact ⟨by simp [World.cell?, h1, this], by simp [World.frozen?, h1], (Array.getElem?_eq_some_iff.1 h1).1⟩
theorem AllRel.next {W : World} {st : St} {m : Nat} {wr wr' : World} (h : AllRel W st m wr) (hm : m < 64) {x : Int} (hx : Fp.cell st (m / 16) (m % 16) = x)
    (h1 : ∀ {cs : Array Value}, wr.heap[W.heap.size]? = some (.cells cs 28 (0, 0)) → wr'.heap[W.heap.size]? = some (.cells (cs.setIfInBounds m (.int .i64 x)) 28 (0, 0)))
    (ho : Only (fun b => b = W.heap.size) wr wr') : AllRel W st (m + 1) wr' := by
  obtain ⟨cs, g1, g2, g3⟩ := h.a
  refine ⟨⟨_, h1 g1, by simpa using g2, fun i hi => ?_⟩, ?_⟩
  · by_cases him : m = i
    · subst him
      rw [Array.getElem?_setIfInBounds, if_pos rfl, if_pos (by omega), if_pos (Nat.lt_succ_self _), hx]
    · rw [Array.getElem?_setIfInBounds, if_neg him, g3 i hi]
      by_cases hlt : i < m
      · rw [if_pos hlt, if_pos (by omega)]
      · rw [if_neg hlt, if_neg (by omega)]
  · exact ⟨ho.os.trans h.o.os, ho.tape.trans h.o.tape, ho.output.trans h.o.output, Nat.le_trans h.o.size ho.size, fun b hb _ => (ho.block b (by have := h.o.size; omega) (by omega)).trans (h.o.block b hb id)⟩
theorem Only.at (w : World) (b o : Nat) (u : Value) : Only (fun x => x = b) w (w.setCell ⟨b, o, none⟩ u) := Only.set (S := fun x => x = b) (p := ⟨b, o, none⟩) (Only.refl _ _) (.inl rfl) u
theorem Try.res9 (tmps : Array Value) (g : Nat) (u : Value) (ca : Array Value) (W : World) (h2 : tmps.getD 2 undef = u) (h3 : tmps.getD 3 undef = .pointer (some ⟨g, 0, none⟩)) (hrow : W.heap[g]? = some (.cells ca 28 (0, 0)))
    (hin : (Try.prog.info? 28).map (·.size) = some ca.size) : (results Try.f9 tmps).run Try.prog W = .ok (.tuple #[u, .agg ca]) W := by
  have hp2 : tmps[2]?.getD undef = u := by simpa using h2
  have hp3 : tmps[3]?.getD undef = .pointer (some ⟨g, 0, none⟩) := by simpa using h3
  simp [results, Try.results9, hp2, hp3, asAddr, run_loadVar_row _ g 28 28 ca (0, 0) _ hrow Try.underlying28 rfl hin]
theorem Try.index44 (cs : Array Value) (k : Nat) (hk : k < 4) (v : Value) (hv : cs[k]? = some v) (W : World) : (Instr.index 44 (.agg cs) (.int .i64 k)).run Try.prog W = .ok v W := by
  have h0 : (0 : Int) ≤ k := by omega
  have h1 : (k : Int) < 4 := by omega
  have hz : (sizeOf 43).run Try.prog W = .ok 1 W := Try.sizeOf43 W
  have ha : (isAgg 43).run Try.prog W = .ok false W := Try.isAgg43 W
  unfold Instr.index
  simp [Sem.run_bind, go_sem, asIntOf, run_underlying Try.underlying44, h0, h1, hz, part, ha, hv]
  intro h; omega
theorem AllRel.one {W : World} {st : St} {k j : Nat} {wr wr' : World} (h : AllRel W st (k * 16 + j) wr) (hk : k < 4) (hj : j < 16) {x : Int} (hx : Fp.cell st k j = x)
    (h1 : ∀ {cs : Array Value}, wr.heap[W.heap.size]? = some (.cells cs 28 (0, 0)) → wr'.heap[W.heap.size]? = some (.cells (cs.setIfInBounds (k * 16 + j) (.int .i64 x)) 28 (0, 0)))
    (ho : Only (fun b => b = W.heap.size) wr wr') : AllRel W st (k * 16 + (j + 1)) wr' :=
  h.next (by omega) (by rw [show (k * 16 + j) / 16 = k by omega, show (k * 16 + j) % 16 = j by omega]; exact hx) h1 ho
theorem below_setRow' {B g : Nat} {w0 w : World} (hb : Below B w0 w) (hBg : B ≤ g) (cs : Array Value) : Below B w0 (w.setRow g cs) :=
  ⟨hb.os, hb.tape, hb.output, by simpa using hb.size, fun k hk => (setRow_other _ _ _ _ (by omega)).trans (hb.block k hk)⟩
section
variable {P : Program} {md : Region.Mode} {ops : Array Oper} {Q : Exit → Act → World → Prop} {a : Act} {w w' : World} {K : Act → World → Prop} {listed : Array Bool} {n : Nat}
theorem any_step {l : List Nat} (hl : Region.ready md ops listed = l) (hne : l ≠ []) (h : ∀ i ∈ l, wpOp P ops Q i (wpAny P md ops Q n (listed.setIfInBounds i true)) a w) : wpAny P md ops Q (n + 1) listed a w :=
  ⟨fun h0 => absurd (hl.symm.trans h0) hne, fun i hi => h i (hl ▸ hi)⟩
theorem any_one {i : Nat} (hl : Region.ready md ops listed = [i]) (h : wpOp P ops Q i (wpAny P md ops Q n (listed.setIfInBounds i true)) a w) : wpAny P md ops Q (n + 1) listed a w :=
  any_step hl (by simp) fun j hj => by simp at hj; subst hj; exact h
theorem any_two {i j : Nat} (hl : Region.ready md ops listed = [i, j]) (h : wpOp P ops Q i (wpAny P md ops Q n (listed.setIfInBounds i true)) a w) (h' : wpOp P ops Q j (wpAny P md ops Q n (listed.setIfInBounds j true)) a w) : wpAny P md ops Q (n + 1) listed a w :=
  any_step hl (by simp) fun k hk => by simp at hk; rcases hk with rfl | rfl; exact h; exact h'
theorem any_end (hl : Region.ready md ops listed = []) (h : Q .normal a w) : wpAny P md ops Q 0 listed a w := ⟨hl, h⟩
theorem op_wp {i : Nat} {o : Oper} (ho : ops[i]? = some o) (hg : o.guard = none) (h : o.wp P a w K Q) : wpOp P ops Q i K a w := by
  unfold wpOp
  simp only [ho, Region.wanted, hg, if_true]
  exact .inl h
theorem val_wp {o : Oper} {u : Value} (hr : (execOp a.eval o).run P w = .ok (.value u) w') (hk : K (a.put o.dst u) w') : o.wp P a w K Q := by
  unfold Oper.wp
  rw [hr, Oper.upon_value]
  exact hk
end
def PlayPost (w : World) (xs : List Fp.Op) (x : Ending) (w' : World) : Prop :=
  ∃ (v : Value) (cs : Array Value), x = .returned (.tuple #[v, .agg cs]) ∧ w'.ownsRow w.heap.size 34 2 v xs.length (ansL (answers xs s0)) ∧ Below w.heap.size w w' ∧ (v = .slice none 0 0 ↔ xs.length = 0) ∧
    cs.size = 64 ∧ ∀ i, i < 64 → cs[i]? = some (.int .i64 (Fp.cell (run xs s0) (i / 16) (i % 16)))
theorem play_start (w : World) (xs : List Fp.Op) : PlayRel w xs 0 (.slice none 0 0) (((w.alloc (.cells zeros28 28 (0, 0))).alloc (.cells #[.pointer (some ⟨w.heap.size + 1 + 1, 0, none⟩), .pointer none, .pointer none, .pointer none] 46 (0, 0))).alloc
    (.cells #[.pointer none, .pointer none, .pointer none, .pointer none, .pointer none, .pointer none, .pointer none, .pointer none, .pointer none, .pointer none, .pointer none, .pointer none, .pointer none, .pointer none, .pointer none, .pointer none] 49 (0, 0))) := by
  refine ⟨World.ownsRow_nil _ _ _ _, ⟨fun _ => w.heap.size + 2, fun _ => 0, ?_⟩, ?_, ?_, ?_⟩
  · refine ⟨Nat.le_succ _, ⟨_, (Below.heap_alloc _ _ _ (by simp)).trans (new_at (by simp)), rfl, fun p hp => ?_⟩, ?_, ?_, ?_, ?_⟩
    · match p, hp with
      | 0, _ => rfl
      | 1, _ => rfl
      | 2, _ => rfl
      | 3, _ => rfl
      | p + 4, h => omega
    · intro p t hp
      match p, hp with
      | 0, hp =>
        have hp : some (some t0) = some (some t) := hp
        cases hp
        refine ⟨by omega, _, new_at (by simp), rfl, fun j hj => ?_⟩
        match j, hj with
        | 0, _ => rfl
        | 1, _ => rfl
        | 2, _ => rfl
        | 3, _ => rfl
        | 4, _ => rfl
        | 5, _ => rfl
        | 6, _ => rfl
        | 7, _ => rfl
        | 8, _ => rfl
        | 9, _ => rfl
        | 10, _ => rfl
        | 11, _ => rfl
        | 12, _ => rfl
        | 13, _ => rfl
        | 14, _ => rfl
        | 15, _ => rfl
        | j + 16, h => omega
      | 1, hp => cases hp
      | 2, hp => cases hp
      | 3, hp => cases hp
      | p + 4, hp => cases hp
    · intro i o hi; cases hi
    · intro p q t u hp hq _
      match p, q, hp, hq with
      | 0, 0, _, _ => rfl
      | 0, 1, _, hq => cases hq
      | 0, 2, _, hq => cases hq
      | 0, 3, _, hq => cases hq
      | 0, q + 4, _, hq => cases hq
      | 1, _, hp, _ => cases hp
      | 2, _, hp, _ => cases hp
      | 3, _, hp, _ => cases hp
      | p + 4, _, hp, _ => cases hp
    · intro a b ha; cases ha
  · refine (Below.heap_alloc _ _ _ (by simp; omega)).trans ((Below.heap_alloc _ _ _ (by simp)).trans (new_at rfl))
  · exact (((Below.refl _ _).alloc (Nat.le_refl _) _).alloc (by simp) _).alloc (by simp; omega) _
  · simp
theorem all_start (W : World) (st : St) : AllRel W st (0 * 16) (W.alloc (.cells zeros28 28 (0, 0))) := by
  refine ⟨⟨zeros28, new_at rfl, by simp [zeros28], fun i hi => ?_⟩, (Only.refl _ _).alloc _⟩
  simp [zeros28, hi]
theorem all_one {cs : Array Value} {f : Nat → Int} (hs : cs.size = 64) (h : ∀ i, i < 64 → cs[i]? = some (.int .i64 (f i))) : cs.all (·.oneCell') = true := by
  rw [Array.all_eq_true]
  intro i hi
  have := h i (by omega)
  rw [Array.getElem?_eq_getElem hi] at this
  simp only [Option.some.injEq] at this
  rw [this]; rfl
set_option maxRecDepth 100000 in
set_option maxHeartbeats 4000000 in
theorem Try.play (g off cap : Nat) (a : Option Addr) (xs : List Fp.Op) (w : World) (hn : xs.length ≤ 8796093022208) (ha : Hid (0 < xs.length → a = some ⟨g, off, none⟩)) (hg : Hid (0 < xs.length → g < w.heap.size))
    (hc : Hid (∀ i, i < xs.length → ∀ j, j < 7 → w.cell? ⟨g, off + i * 7 + j, none⟩ = some (.int .i64 (opF (xs.getD i dOp) j)))) (hm : Hid (∀ i, i < xs.length → (xs.getD i dOp).most ≤ 9223372036854775807)) :
    Calls Try.prog 9 #[.slice a xs.length cap] w (PlayPost w xs) := by
  obtain ⟨i0, hi0, hz0, hz1, hz2⟩ := info_parts (P := Try.prog) (e := 34) (z := .agg #[.int .i64 0, .int .i64 0]) (size := 2) (bytes := 16) (by kernel_rfl)
  go_enter Try.func9, Try.ntmps9
  go_wp2
  go_loopw [5, 22] (fun v i wr => ∃ k : Nat, k ≤ xs.length ∧ i = .int .i64 k ∧ Hid (PlayRel w xs k v wr)) (fun _ i _ => xs.length + 1 - (intOf i).toNat)
  case atStart => exact ⟨0, Nat.zero_le _, rfl, play_start w xs⟩
  case round =>
    obtain ⟨k, hk, rfl, hR⟩ := hrel
    by_cases hlt : k < xs.length
    · obtain rfl := ha.out (by omega)
      have hgl := hg.out (by omega)
      obtain ⟨o, ho⟩ : ∃ o, o = xs.getD k dOp := ⟨_, rfl⟩
      have hcell : Hid (∀ j, j < 7 → wr.cell? ⟨g, off + k * 7 + j, none⟩ = some (.int .i64 (opF o j))) := fun j hj => by
        rw [ho]; exact (hR.out.below.cell (p := ⟨g, off + k * 7 + j, none⟩) hgl).trans (hc.out k hlt j hj)
      have q0 : wr.cell? ⟨g, off + k * 7, none⟩ = some (.int .i64 o.kind) := hcell.out 0 (by omega)
      have q1 : wr.cell? ⟨g, off + k * 7 + 1, none⟩ = some (.int .i64 o.proc) := hcell.out 1 (by omega)
      have q2 : wr.cell? ⟨g, off + k * 7 + 2, none⟩ = some (.int .i64 o.name) := hcell.out 2 (by omega)
      have q3 : wr.cell? ⟨g, off + k * 7 + 3, none⟩ = some (.int .i64 o.size) := hcell.out 3 (by omega)
      have q4 : wr.cell? ⟨g, off + k * 7 + 4, none⟩ = some (.int .i64 o.fd) := hcell.out 4 (by omega)
      have q5 : wr.cell? ⟨g, off + k * 7 + 5, none⟩ = some (.int .i64 o.dst) := hcell.out 5 (by omega)
      have q6 : wr.cell? ⟨g, off + k * 7 + 6, none⟩ = some (.int .i64 o.most) := hcell.out 6 (by omega)
      obtain ⟨ep, eo, hF⟩ := hR.out.st
      have hF := Lib.hid hF
      have ho' := Lib.hid ho
      have hmo : Hid (o.most ≤ 9223372036854775807) := by rw [ho]; exact hm.out k hlt
      have k0 : (0 : Int) ≤ (k : Int) := by omega
      have k1 : (k : Int) < (xs.length : Int) := by omega
      have hlb : w.heap.size < wr.heap.size := (Array.getElem?_eq_some_iff.1 hR.out.b0).1
      clear ho
      have hbase : w.heap.size ≤ wr.heap.size := by omega
      have hinv : Hid (Inv (run (xs.take k) s0)) := inv_run _ inv_s0
      have hrow := Lib.hid hR.out.row
      obtain ⟨eo1, heo1⟩ : ∃ r, r = (doOp (run (xs.take k) s0) o).2 := ⟨_, rfl⟩
      obtain ⟨e1, e2⟩ := eo1
      have he := Lib.hid heo1.symm
      clear heo1
      go_wp2_with (fail)
      refine (Try.do_ok (o := o) (hF.out.keep ((Only.refl _ _).alloc _)) (by simp; omega) hinv.out hmo.out).mono ?_
      rintro e w2 ⟨rfl, ep', eo', hF', hO'⟩
      have hF2 := Lib.hid hF'
      have hO2 := Lib.hid hO'
      have hown2 : w2.ownsRow w.heap.size 34 2 u5 k (ansL (answers (xs.take k) s0)) := owns_only (owns_only (n0 := 0) hrow.out ((Only.refl (fun _ => False) wr).alloc (.cells #[.int .i64 o.kind, .int .i64 o.proc, .int .i64 o.name, .int .i64 o.size, .int .i64 o.fd, .int .i64 o.dst, .int .i64 o.most] 24 (0, 0))).up) hO'
      have hs2 : wr.heap.size + 1 ≤ w2.heap.size := by have := hO'.size; simpa using this
      clear hF' hO'
      rw [he.out]
      go_wp2_with (first
        | (at_builtin; refine wpList_append_own _ rfl _ _ 26 rfl w.heap.size 34 i0 (.agg #[.int .i64 0, .int .i64 0]) 2 16 Try.underlying26 hi0 hz0 hz1 hz2 rfl (by decide) _ _ _ rfl (hown2.alloc _) ⟨w2.heap.size, 0, none⟩ 1 1 [.int .i64 e1, .int .i64 e2] rfl rfl (cell_two_new _ _ _ _) (fun x hx => by simp at hx; rcases hx with rfl | rfl <;> rfl) (by unfold maxLen; omega) (by omega) (by simp; omega) ?_; intro v' w3 hown' hgrow3 hnil3
           have X : Hid (PlayRel w xs (k + 1) v' w3) := hR.out.next hlt ho'.out ((Only.refl _ _).alloc _) hF2.out hO2.out he.out hown' hgrow3 hnil3
           clear hown' hgrow3 hnil3))
      go_roundw
      case rel => exact ⟨k + 1, by omega, by go_num, X⟩
      case measure => simp [intOf]; omega
    · obtain rfl : k = xs.length := by omega
      obtain ⟨ep, eo, hF⟩ := hR.out.st
      obtain ⟨cS, s1, s2, s3⟩ := hF.s
      have hF := Lib.hid hF
      have s1' := Lib.hid s1
      have s2' := Lib.hid s2
      have s3' := Lib.hid s3
      have hsbl := hF.out.sb_lt
      clear s1 s2 s3
      go_wp2_with (refine wpList_load_row rfl 44 (.tmp 35) rfl (w.heap.size + 1) rfl 46 cS (0, 0) _ ((Below.heap_alloc _ _ _ hsbl).trans s1'.out) Try.underlying44 rfl (by rw [s2'.out]; kernel_rfl) ?_)
      obtain ⟨st, hst⟩ : ∃ st, st = run (xs.take xs.length) s0 := ⟨_, rfl⟩
      rw [← hst] at hF s3'
      have hinv : Hid (Inv st) := by rw [hst]; exact inv_run _ inv_s0
      rename World => W0
      have hlB : w.heap.size + 1 < W0.heap.size := hsbl
      go_loopw [37] (fun i w1 => ∃ k : Nat, k ≤ 4 ∧ i = .int .i64 k ∧ Hid (AllRel W0 st (k * 16) w1)) (fun i _ => 5 - (intOf i).toNat)
      case atStart => exact ⟨0, Nat.zero_le _, rfl, all_start W0 st⟩
      case round =>
        obtain ⟨k, hk4, rfl, hA⟩ := hrel
        by_cases hlt4 : k < 4
        · have k0 : (0 : Int) ≤ (k : Int) := by omega
          have k1 : (k : Int) < 4 := by omega
          have hck := s3'.out k hlt4
          cases hp : st.procs.getD k none with
          | none =>
            rw [hp] at hck
            unfold ptrP at hck
            have hp' := Lib.hid hp
            have hidx := Try.index44 cS k hlt4 _ hck
            clear hp hck
            go_wp2
            go_loopw [41] (fun i w1 => ∃ j : Nat, j ≤ 16 ∧ i = .int .i64 j ∧ Hid (AllRel W0 st (k * 16 + j) w1)) (fun i _ => 17 - (intOf i).toNat)
            case atStart => exact ⟨0, by omega, rfl, hA⟩
            case round =>
              obtain ⟨j, hj16, rfl, hA2⟩ := hrel
              by_cases hltj : j < 16
              · have j0 : (0 : Int) ≤ (j : Int) := by omega
                have j1 : (j : Int) < 16 := by omega
                obtain ⟨a0, a1, a2⟩ := hA2.out.at (by omega)
                go_wp2
                go_roundw
                case rel => exact ⟨j + 1, by omega, by go_num, hA2.out.one hlt4 hltj (x := -1) (by unfold Fp.cell; rw [hp'.out]) (fun h => heap_set h _ _) (Only.at _ _ _ _)⟩
                case measure => simp [intOf]; omega
              · obtain rfl : j = 16 := by omega
                go_wp2
                go_roundw
                case rel => exact ⟨k + 1, by omega, by go_num, by have := hA2.out; rwa [show k * 16 + 16 = (k + 1) * 16 by omega] at this⟩
                case measure => simp [intOf]; omega
          | some t =>
            rw [hp] at hck
            unfold ptrP at hck
            have hpk : Hid (st.procs[k]? = some (some t)) := by
              show st.procs[k]? = some (some t)
              rw [List.getD_eq_getElem?_getD] at hp
              cases h9 : st.procs[k]? with
              | none => rw [h9] at hp; cases hp
              | some x => rw [h9] at hp; simp at hp; rw [hp]
            have hp' := Lib.hid hp
            have hidx := Try.index44 cS k hlt4 _ hck
            have htl : Hid (t.length = 16) := hinv.out.tl k t hpk.out
            have htb : ep k < W0.heap.size := hF.out.tab_lt hpk.out
            have htab := Lib.hid (hF.out.tabc hpk.out)
            clear hp hck
            go_wp2
            go_loopw [41] (fun i w1 => ∃ j : Nat, j ≤ 16 ∧ i = .int .i64 j ∧ Hid (AllRel W0 st (k * 16 + j) w1)) (fun i _ => 17 - (intOf i).toNat)
            case atStart => exact ⟨0, by omega, rfl, hA⟩
            case round =>
              obtain ⟨j, hj16, rfl, hA2⟩ := hrel
              by_cases hltj : j < 16
              · have j0 : (0 : Int) ≤ (j : Int) := by omega
                have j1 : (j : Int) < 16 := by omega
                obtain ⟨a0, a1, a2⟩ := hA2.out.at (by omega)
                have hjc : wr.cell? ⟨ep k, j, none⟩ = some (ptrO eo (t.getD j none)) := (cell_old hA2.out.o htb j).trans (htab.out j hltj)
                have hne : ep k ≠ W0.heap.size := by omega
                cases he : t.getD j none with
                | none =>
                  rw [he] at hjc
                  unfold ptrO at hjc
                  have he' := Lib.hid he
                  clear he
                  go_wp2
                  go_roundw
                  case rel => exact ⟨j + 1, by omega, by go_num, (hA2.out.one hlt4 hltj (x := -1) (by unfold Fp.cell; rw [hp'.out]; simp only []; rw [he'.out]) (fun h => heap_set h _ _) (Only.at _ _ _ _))⟩
                  case measure => simp [intOf]; omega
                | some i =>
                  rw [he] at hjc
                  unfold ptrO at hjc
                  have he' := Lib.hid he
                  have hjl : j < t.length := by have := htl.out; omega
                  have hte : t[j]? = some (some i) := by
                    rw [List.getD_eq_getElem?_getD, List.getElem?_eq_getElem hjl] at he
                    rw [List.getElem?_eq_getElem hjl]; simpa using he
                  have hil := hinv.out.ent k t j i hpk.out hte
                  have hol := hF.out.opn_lt hil
                  have hnm : wr.cell? ⟨eo i, 0, none⟩ = some (.int .i64 (opn st.opens i).name) := by
                    rw [cell_old hA2.out.o hol]
                    simp [World.cell?, (hF.out.o' hil).2, opnV]
                  have hne2 : eo i ≠ W0.heap.size := by omega
                  have hx : Hid (Fp.cell st k j = max (opn st.opens i).name 0) := by
                    show Fp.cell st k j = _
                    unfold Fp.cell; rw [hp'.out]; simp only []; rw [he'.out]
                  clear he hte
                  generalize (opn st.opens i).name = nm at hnm hx
                  rcases Int.lt_or_le nm 0 with hneg | hneg
                  · have hneg2 : ¬ 0 ≤ nm := by omega
                    go_wp2
                    obtain ⟨w2, hw2⟩ : ∃ w2, w2 = wr.setCell ⟨W0.heap.size, k * 16 + j, none⟩ (.int .i64 (-1)) := ⟨_, rfl⟩
                    rw [← hw2]
                    have jc2 : w2.cell? ⟨ep k, j, none⟩ = some (.pointer (some ⟨eo i, 0, none⟩)) := by
                      rw [hw2]; exact (World.cell?_of_block (w := wr) (a := ⟨ep k, j, none⟩) (Below.heap_setCell _ _ _ _ hne)).trans hjc
                    have nm2 : w2.cell? ⟨eo i, 0, none⟩ = some (.int .i64 nm) := by
                      rw [hw2]; exact (World.cell?_of_block (w := wr) (a := ⟨eo i, 0, none⟩) (Below.heap_setCell _ _ _ _ hne2)).trans hnm
                    have b0 : w2.cell? ⟨W0.heap.size, k * 16 + j, none⟩ = some (.int .i64 (-1)) := by rw [hw2]; exact World.cell?_setCell_same wr _ _ a0
                    have b1 : w2.frozen? ⟨W0.heap.size, k * 16 + j, none⟩ = false := by
                      obtain ⟨cs, h1, h2, h3⟩ := hA2.out.a
                      have := heap_set h1 (k * 16 + j) (.int .i64 (-1))
                      rw [← hw2] at this
                      simp [World.frozen?, this]
                    have hw2' := Lib.hid hw2
                    clear hw2 hjc hnm a0 a1
                    go_still_tail 13, (by kernel_rfl)
                    change wpList _ _ _ _ _ (w2.drewN 1)
                    go_wp2
                    go_roundw
                    case rel =>
                      refine ⟨j + 1, by omega, by go_num, hA2.out.one hlt4 hltj (x := 0) (by rw [hx.out]; omega) ?_ ?_⟩
                      · intro cs h
                        have h5 := heap_set (heap_set h (k * 16 + j) (.int .i64 (-1))) (k * 16 + j) (.int .i64 0)
                        rw [setset, ← hw2'.out] at h5
                        exact h5
                      · have h6 : Only (fun b => b = W0.heap.size) wr w2 := by rw [hw2'.out]; exact Only.at _ _ _ _
                        exact Only.trans (h6.drew 1) (Only.at _ _ _ _)
                    case measure => simp [intOf]; omega
                  · have hneg2 : ¬ nm < 0 := by omega
                    go_wp2
                    obtain ⟨w2, hw2⟩ : ∃ w2, w2 = wr.setCell ⟨W0.heap.size, k * 16 + j, none⟩ (.int .i64 (-1)) := ⟨_, rfl⟩
                    rw [← hw2]
                    have jc2 : w2.cell? ⟨ep k, j, none⟩ = some (.pointer (some ⟨eo i, 0, none⟩)) := by
                      rw [hw2]; exact (World.cell?_of_block (w := wr) (a := ⟨ep k, j, none⟩) (Below.heap_setCell _ _ _ _ hne)).trans hjc
                    have nm2 : w2.cell? ⟨eo i, 0, none⟩ = some (.int .i64 nm) := by
                      rw [hw2]; exact (World.cell?_of_block (w := wr) (a := ⟨eo i, 0, none⟩) (Below.heap_setCell _ _ _ _ hne2)).trans hnm
                    have b0 : w2.cell? ⟨W0.heap.size, k * 16 + j, none⟩ = some (.int .i64 (-1)) := by rw [hw2]; exact World.cell?_setCell_same wr _ _ a0
                    have b1 : w2.frozen? ⟨W0.heap.size, k * 16 + j, none⟩ = false := by
                      obtain ⟨cs, h1, h2, h3⟩ := hA2.out.a
                      have := heap_set h1 (k * 16 + j) (.int .i64 (-1))
                      rw [← hw2] at this
                      simp [World.frozen?, this]
                    have hw2' := Lib.hid hw2
                    clear hw2 hjc hnm a0 a1
                    go_still_tail 13, (by kernel_rfl)
                    change wpList _ _ _ _ _ (w2.drewN 1)
                    go_wp2
                    go_roundw
                    case rel =>
                      refine ⟨j + 1, by omega, by go_num, hA2.out.one hlt4 hltj (x := nm) (by rw [hx.out]; omega) ?_ ?_⟩
                      · intro cs h
                        have h5 := heap_set (heap_set h (k * 16 + j) (.int .i64 (-1))) (k * 16 + j) (.int .i64 nm)
                        rw [setset, ← hw2'.out] at h5
                        exact h5
                      · have h6 : Only (fun b => b = W0.heap.size) wr w2 := by rw [hw2'.out]; exact Only.at _ _ _ _
                        exact Only.trans (h6.drew 1) (Only.at _ _ _ _)
                    case measure => simp [intOf]; omega
              · obtain rfl : j = 16 := by omega
                go_wp2
                go_roundw
                case rel => exact ⟨k + 1, by omega, by go_num, by have := hA2.out; rwa [show k * 16 + 16 = (k + 1) * 16 by omega] at this⟩
                case measure => simp [intOf]; omega
        · obtain rfl : k = 4 := by omega
          obtain ⟨ca, a1, a2, a3⟩ := hA.out.a
          have a1 := Lib.hid a1
          have a2 := Lib.hid a2
          have a3 := Lib.hid a3
          have hz : Hid (wr.heap[w.heap.size]? = some (.cells zeros28 28 (0, 0))) := (hA.out.o.block _ (by omega) id).trans hR.out.b0
          have hin : (Try.prog.info? 28).map (·.size) = some ca.size := by rw [a2.out]; kernel_rfl
          have hend : PlayPost w xs (.returned (.tuple #[u5, .agg ca])) ((wr.drewN 1).setRow w.heap.size ca) := by
            refine ⟨u5, ca, rfl, ?_, ?_, hR.out.nil, a2.out, fun i hi => ?_⟩
            · have h1 := hR.out.row
              rw [List.take_length] at h1
              have h2 := owns_only (n0 := 0) h1 hA.out.o.up
              refine ⟨h2.1, ?_⟩
              rcases h2.2 with h | ⟨g1, cap1, cur, e1, e2, e3, e4⟩
              · exact .inl h
              · refine .inr ⟨g1, cap1, cur, e1, e2, ?_, e4⟩
                rw [setRow_other _ _ _ _ (by rintro rfl; have := e3.symm.trans hz.out; simp at this)]
                exact e3
            · exact below_setRow' (below_drewN ⟨hA.out.o.os.trans hR.out.below.os, hA.out.o.tape.trans hR.out.below.tape, hA.out.o.output.trans hR.out.below.output, by have := hA.out.o.size; omega, fun b hb => (hA.out.o.block b (by omega) id).trans (hR.out.below.block b hb)⟩ 1) (Nat.le_refl _) _
            · rw [a3.out i hi, if_pos (by omega), hst, List.take_length]
          have hrow2 : ((wr.drewN 1).setRow w.heap.size ca).heap[w.heap.size]? = some (.cells ca 28 (0, 0)) := setRow_heap _ _ _ _ _ _ hz.out
          go_wp2_with (fail)
          refine wp_region_any (by kernel_rfl) ?_
          show wpAny _ _ _ _ 4 _ _ (wr.drewN 1)
          refine any_two (i := 0) (j := 1) (by kernel_rfl) (op_wp rfl rfl (val_wp (u := u5) rfl ?_)) (op_wp rfl rfl (wp_load_row 28 (.tmp 8) rfl W0.heap.size (by kernel_rfl) 28 ca (0, 0) _ a1.out Try.underlying28 rfl hin ?_))
          · refine any_two (i := 1) (j := 2) (by kernel_rfl) (op_wp rfl rfl (wp_load_row 28 (.tmp 8) rfl W0.heap.size (by kernel_rfl) 28 ca (0, 0) _ a1.out Try.underlying28 rfl hin ?_)) (op_wp rfl rfl (val_wp (u := u5) rfl ?_))
            · refine any_one (i := 2) (by kernel_rfl) (op_wp rfl rfl (val_wp (u := u5) rfl ?_))
              refine any_one (i := 3) (by kernel_rfl) (op_wp rfl rfl (wp_store_row 28 (.tmp 3) (.tmp 74) rfl w.heap.size ca (by kernel_rfl) (by kernel_rfl) 28 zeros28 hz.out hin (by rw [a2.out]; rfl) (all_one a2.out a3.out) ?_))
              refine any_end (by kernel_rfl) ?_
              go_wp2
              exact bodyPost_ret (v := .tuple #[u5, .agg ca]) (Try.res9 _ _ _ _ _ rfl rfl hrow2 hin) rfl hend
            · refine any_one (i := 1) (by kernel_rfl) (op_wp rfl rfl (wp_load_row 28 (.tmp 8) rfl W0.heap.size (by kernel_rfl) 28 ca (0, 0) _ a1.out Try.underlying28 rfl hin ?_))
              refine any_one (i := 3) (by kernel_rfl) (op_wp rfl rfl (wp_store_row 28 (.tmp 3) (.tmp 74) rfl w.heap.size ca (by kernel_rfl) (by kernel_rfl) 28 zeros28 hz.out hin (by rw [a2.out]; rfl) (all_one a2.out a3.out) ?_))
              refine any_end (by kernel_rfl) ?_
              go_wp2
              exact bodyPost_ret (v := .tuple #[u5, .agg ca]) (Try.res9 _ _ _ _ _ rfl rfl hrow2 hin) rfl hend
          · refine any_one (i := 0) (by kernel_rfl) (op_wp rfl rfl (val_wp (u := u5) rfl ?_))
            refine any_one (i := 2) (by kernel_rfl) (op_wp rfl rfl (val_wp (u := u5) rfl ?_))
            refine any_one (i := 3) (by kernel_rfl) (op_wp rfl rfl (wp_store_row 28 (.tmp 3) (.tmp 74) rfl w.heap.size ca (by kernel_rfl) (by kernel_rfl) 28 zeros28 hz.out hin (by rw [a2.out]; rfl) (all_one a2.out a3.out) ?_))
            refine any_end (by kernel_rfl) ?_
            go_wp2
            exact bodyPost_ret (v := .tuple #[u5, .agg ca]) (Try.res9 _ _ _ _ _ rfl rfl hrow2 hin) rfl hend
end Go.Proofs

