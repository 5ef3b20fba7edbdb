/- Cores: the walk of Run. -/
import Derived.Test.YtdijmangjgepaaaQCW
import Derived.Test.YtdijmangjgepaaaQCV
import Derived.Test.YtdijmangjgepaaaQZCS
import Derived.Laws.AppendOwn
import Derived.Deep.OwnRows
import Derived.Maps.AppendAt
set_option linter.unusedVariables false
set_option linter.unusedSimpArgs false
namespace Go.Proofs
open Go.RowKit Go.Cp Go.Sort

theorem Only.refl (S : Nat → Prop) (w : World) : Only S w w := ⟨rfl, rfl, rfl, Nat.le_refl _, fun _ _ _ => rfl⟩
/-- A step behind: what it turns was turned before, or is new. -/
theorem Only.step {S S' : Nat → Prop} {a b c : World} (h : Only S a b) (k : Only S' b c) (hs : ∀ x, S' x → x < a.heap.size → S x) : Only S a c :=
  ⟨k.os.trans h.os, k.tape.trans h.tape, k.output.trans h.output, Nat.le_trans h.size k.size, fun i hi hn => (k.block i (Nat.lt_of_lt_of_le hi h.size) (fun hsi => hn (hs i hsi hi))).trans (h.block i hi hn)⟩
theorem Only.drew {S : Nat → Prop} {a w : World} (h : Only S a w) (n : Nat) : Only S a (w.drewN n) := ⟨h.os, h.tape, h.output, h.size, h.block⟩
theorem Only.alloc {S : Nat → Prop} {a w : World} (h : Only S a w) (o : Obj) : Only S a (w.alloc o) :=
  ⟨h.os, h.tape, h.output, by simp only [World.size_alloc]; have := h.size; omega, fun i hi hs => (Below.heap_alloc w o i (Nat.lt_of_lt_of_le hi h.size)).trans (h.block i hi hs)⟩
theorem Only.set {S : Nat → Prop} {a w : World} (h : Only S a w) {p : Addr} (hp : S p.block ∨ a.heap.size ≤ p.block) (u : Value) : Only S a (w.setCell p u) :=
  ⟨h.os, h.tape, h.output, by have := h.size; simpa [World.setCell] using this, fun i hi hs => (Below.heap_setCell w p u i (by rintro rfl; rcases hp with hp | hp; exact hs hp; omega)).trans (h.block i hi hs)⟩
theorem Only.grown {S : Nat → Prop} {a b c : World} (h : Only S a b) {r : Option Nat} (hg : b.grownBy c r) (hr : ∀ x, r = some x → x < a.heap.size → S x) : Only S a c :=
  ⟨hg.os.trans h.os, hg.tape.trans h.tape, hg.output.trans h.output, Nat.le_trans h.size hg.size, fun i hi hn => (hg.block i (Nat.lt_of_lt_of_le hi h.size) (fun e => hn (hr i e.symm hi))).trans (h.block i hi hn)⟩
theorem Only.below {S : Nat → Prop} {w0 a b : World} (hb : Below w0.heap.size w0 a) (h : Only S a b) (hs : ∀ x, S x → w0.heap.size ≤ x) : Below w0.heap.size w0 b :=
  ⟨h.os.trans hb.os, h.tape.trans hb.tape, h.output.trans hb.output, Nat.le_trans hb.size h.size, fun k hk => (h.block k (Nat.lt_of_lt_of_le hk hb.size) (fun hx => by have := hs k hx; omega)).trans (hb.block k hk)⟩
theorem heap_set {w : World} {g : Nat} {cs : Array Value} {t : TypeId} {fz : Nat × Nat} (h : w.heap[g]? = some (.cells cs t fz)) (o : Nat) (u : Value) :
    (w.setCell ⟨g, o, none⟩ u).heap[g]? = some (.cells (cs.setIfInBounds o u) t fz) := by
  have hlt : g < w.heap.size := (Array.getElem?_eq_some_iff.1 h).1
  have h' : w.heap[g] = .cells cs t fz := (Array.getElem?_eq_some_iff.1 h).2
  show (w.heap.modify g _)[g]? = _
  rw [Array.getElem?_modify, if_pos rfl, Array.getElem?_eq_getElem hlt, h']; rfl
theorem new_at {w : World} {o : Obj} {b : Nat} (h : b = w.heap.size) : (w.alloc o).heap[b]? = some o := by subst h; exact heap_alloc_new w o

/-- Where the threads lie. -/
structure TR (n0 ba : Nat) (eo : Nat → Nat) (l : List Th) (w : World) : Prop where
  nb : n0 ≤ ba
  row : ∃ cs, w.heap[ba]? = some (.cells cs 45 (0, 0)) ∧ cs.size = l.length ∧ ∀ k, k < l.length → cs[k]? = some (.pointer (some ⟨eo k, 0, none⟩))
  box : ∀ k, k < l.length → n0 ≤ eo k ∧ w.heap[eo k]? = some (.cells (thV (th l k) k) 47 (0, 0))
  inj : ∀ j k, j < l.length → k < l.length → eo j = eo k → j = k

section
variable {n0 ba : Nat} {eo : Nat → Nat} {l : List Th} {w w' : World}
theorem TR.ba_lt (h : TR n0 ba eo l w) : ba < w.heap.size := by obtain ⟨cs, h1, _⟩ := h.row; exact (Array.getElem?_eq_some_iff.1 h1).1
theorem TR.eo_lt (h : TR n0 ba eo l w) {k : Nat} (hk : k < l.length) : eo k < w.heap.size := (Array.getElem?_eq_some_iff.1 (h.box k hk).2).1
theorem TR.cell (h : TR n0 ba eo l w) {k : Nat} (hk : k < l.length) : w.cell? ⟨ba, k, none⟩ = some (.pointer (some ⟨eo k, 0, none⟩)) := by
  obtain ⟨cs, h1, _, h3⟩ := h.row
  simp [World.cell?, h1, h3 k hk]
theorem TR.boxc (h : TR n0 ba eo l w) {k : Nat} (hk : k < l.length) (j : Nat) : w.cell? ⟨eo k, j, none⟩ = (thV (th l k) k)[j]? := by simp [World.cell?, (h.box k hk).2]
theorem TR.boxf (h : TR n0 ba eo l w) {k : Nat} (hk : k < l.length) (j : Nat) : w.frozen? ⟨eo k, j, none⟩ = false := by simp [World.frozen?, (h.box k hk).2]
theorem TR.keep (h : TR n0 ba eo l w) (hb : w'.heap[ba]? = w.heap[ba]?) (hk : ∀ k, k < l.length → w'.heap[eo k]? = w.heap[eo k]?) : TR n0 ba eo l w' :=
  ⟨h.nb, by obtain ⟨cs, h1, h2⟩ := h.row; exact ⟨cs, hb.trans h1, h2⟩, fun k hl => ⟨(h.box k hl).1, (hk k hl).trans (h.box k hl).2⟩, h.inj⟩
theorem TR.only (h : TR n0 ba eo l w) {S : Nat → Prop} (ho : Only S w w') (hb : ¬ S ba) (hk : ∀ k, k < l.length → ¬ S (eo k)) : TR n0 ba eo l w' :=
  h.keep (ho.block _ h.ba_lt hb) fun k hl => ho.block _ (h.eo_lt hl) (hk k hl)
theorem TR.ba_ne (h : TR n0 ba eo l w) {k : Nat} (hk : k < l.length) : ba ≠ eo k := by
  obtain ⟨cs, h1, _⟩ := h.row
  intro e
  rw [e, (h.box k hk).2] at h1
  simp at h1
theorem TR.put (h : TR n0 ba eo l w) {k : Nat} (hk : k < l.length) {f : Th → Th} (ho : Only (· = eo k) w w') (hx : w'.heap[eo k]? = some (.cells (thV (f (th l k)) k) 47 (0, 0))) : TR n0 ba eo (l.modify k f) w' := by
  refine ⟨h.nb, ?_, fun j hj => ?_, fun i j hi hj => h.inj i j (by simpa using hi) (by simpa using hj)⟩
  · obtain ⟨cs, h1, h2, h3⟩ := h.row
    exact ⟨cs, (ho.block _ h.ba_lt (h.ba_ne hk)).trans h1, by simpa using h2, fun j hj => h3 j (by simpa using hj)⟩
  · have hj' : j < l.length := by simpa using hj
    refine ⟨(h.box j hj').1, ?_⟩
    rw [th_modify]
    by_cases e : j = k
    · subst e; rw [if_pos ⟨rfl, hk⟩]; exact hx
    · rw [if_neg (by rintro ⟨e', _⟩; exact e e')]
      exact (ho.block _ (h.eo_lt hj') (fun e' => e (h.inj j k hj' hk e'))).trans (h.box j hj').2
end

theorem owns_keep {w w' : World} {base n sz : Nat} {e : TypeId} {v : Value} {xs : List Value} (h : w.ownsRow base e sz v n xs) (hk : ∀ g cs, v.ownBlock = some g → w.heap[g]? = some (.cells cs e (0, 0)) → w'.heap[g]? = w.heap[g]?) : w'.ownsRow base e sz v n xs := by
  refine ⟨h.1, ?_⟩
  rcases h.2 with h | ⟨g, cap, cur, rfl, h2, h3, h4⟩
  · exact .inl h
  · exact .inr ⟨g, cap, cur, rfl, h2, (hk g cur rfl h3).trans h3, h4⟩
theorem owns_up {w : World} {base base' n sz : Nat} {e : TypeId} {v : Value} {xs : List Value} (h : w.ownsRow base e sz v n xs) (hb : base' ≤ base) : w.ownsRow base' e sz v n xs := by
  refine ⟨h.1, ?_⟩
  rcases h.2 with h | ⟨g, cap, cur, e1, h2, h3⟩
  · exact .inl h
  · exact .inr ⟨g, cap, cur, e1, by omega, h3⟩

def intsV (r : List Nat) : List Value := r.map fun k : Nat => .int .i64 (k : Int)
def nilV : Value := .slice none 0 0
/-- The rows told so far. -/
def Rows (w : World) (n0 : Nat) (rows : List (List Nat)) (vs : List Value) : Prop := ∀ (i : Nat) (r : List Nat), rows[i]? = some r → ∃ u, vs[i]? = some u ∧ w.ownsRow n0 3 1 u r.length (intsV r)

/-- What the loop over the ticks keeps. -/
structure TickRel (ba : Nat) (eo : Nat → Nat) (W : World) (s : S) (rows : List (List Nat)) (v : Value) (w : World) : Prop where
  tr : TR W.heap.size ba eo s.ths w
  own : ∃ vs, w.ownsRow W.heap.size 30 1 v rows.length vs ∧ Rows w W.heap.size rows vs
  below : Below W.heap.size W w

def ptrV (eo : Nat → Nat) (k : Nat) : Value := .pointer (some ⟨eo k, 0, none⟩)
def SB (eo : Nat → Nat) (m : Nat) (b : Nat) : Prop := ∃ k, k < m ∧ b = eo k
/-- What the loop over those who come keeps: s is the state so far, r those who are ready so far. -/
structure ComeRel (e : TypeId) (f : Nat → Value) (n0 ba : Nat) (eo : Nat → Nat) (m : Nat) (wt : World) (l : List Th) (r : List Nat) (rv : Value) (w : World) : Prop where
  len : l.length = m
  tr : TR n0 ba eo l w
  own : w.ownsRow wt.heap.size e 1 rv r.length (r.map f)
  only : Only (SB eo m) wt w
  bt : ba < wt.heap.size ∧ ∀ k, k < m → eo k < wt.heap.size
  nil : rv = .slice none 0 0 ↔ r = []

section
variable {n0 ba m : Nat} {eo : Nat → Nat} {wt w : World} {l : List Th} {r : List Nat} {rv : Value} {e : TypeId} {f : Nat → Value}
theorem ComeRel.drew (h : ComeRel e f n0 ba eo m wt l r rv w) (n : Nat) : ComeRel e f n0 ba eo m wt l r rv (w.drewN n) :=
  ⟨h.len, h.tr.keep rfl fun _ _ => rfl, h.own, h.only.drew n, h.bt, h.nil⟩
theorem ComeRel.set (h : ComeRel e f n0 ba eo m wt l r rv w) {k : Nat} (hk : k < m) (he : e ≠ 47) {F : Th → Th} {j : Nat} {u : Value} (hf : thV (F (th l k)) k = (thV (th l k) k).setIfInBounds j u) : ComeRel e f n0 ba eo m wt (l.modify k F) r rv (w.setCell ⟨eo k, j, none⟩ u) := by
  have hk' : k < l.length := by rw [h.len]; exact hk
  have hb := (h.tr.box k hk').2
  refine ⟨by rw [List.length_modify]; exact h.len, h.tr.put hk' (Only.set (p := ⟨eo k, j, none⟩) (Only.refl (fun x => x = eo k) _) (.inl rfl) u) (by rw [hf]; exact heap_set hb j u), ?_, Only.set h.only (.inl ⟨k, hk, rfl⟩) u, h.bt, h.nil⟩
  refine owns_keep h.own fun g cs _ hg => Below.heap_setCell _ _ _ _ ?_
  rintro rfl
  rw [hb] at hg
  simp only [Option.some.injEq, Obj.cells.injEq] at hg
  exact he hg.2.1.symm
theorem ComeRel.put (h : ComeRel e f n0 ba eo m wt l r rv w) {k : Nat} (hk : k < m) (he : e ≠ 47) {F : Th → Th} {w' : World} (ho : Only (· = eo k) w w') (hx : w'.heap[eo k]? = some (.cells (thV (F (th l k)) k) 47 (0, 0))) : ComeRel e f n0 ba eo m wt (l.modify k F) r rv w' := by
  have hk' : k < l.length := by rw [h.len]; exact hk
  have hb := (h.tr.box k hk').2
  refine ⟨by rw [List.length_modify]; exact h.len, h.tr.put hk' ho hx, ?_, h.only.step ho (fun x hx _ => ⟨k, hk, hx⟩), h.bt, h.nil⟩
  refine owns_keep h.own fun g cs _ hg => ho.block g (Array.getElem?_eq_some_iff.1 hg).1 ?_
  rintro rfl
  rw [hb] at hg
  simp only [Option.some.injEq, Obj.cells.injEq] at hg
  exact he hg.2.1.symm
theorem ComeRel.start (htr : TR n0 ba eo l w) (hl : l.length = m) : ComeRel e f n0 ba eo m w l [] (.slice none 0 0) w :=
  ⟨hl, htr, World.ownsRow_nil _ _ _ _, Only.refl _ _, ⟨htr.ba_lt, fun k hk => htr.eo_lt (by rw [hl]; exact hk)⟩, by simp⟩
theorem ComeRel.app (h : ComeRel e f n0 ba eo m wt l r rv w) {o : Obj} {k : Nat} {v' : Value} {w' : World} (hown : w'.ownsRow wt.heap.size e 1 v' (r.length + 1) (r.map f ++ [f k])) (hg : (w.alloc o).grownBy w' rv.ownBlock) (hn : v' = .slice none 0 0 ↔ rv = .slice none 0 0 ∧ 1 = 0) :
    ComeRel e f n0 ba eo m wt l (r ++ [k]) v' w' := by
  have hlt := h.own.lt
  have hs := h.only.size
  refine ⟨h.len, ?_, by simpa using hown, (h.only.alloc o).grown hg fun x hx hx' => absurd (hlt x hx).1 (by omega), h.bt, ⟨fun x => by have := hn.1 x; omega, fun x => by simp at x⟩⟩
  refine h.tr.keep ?_ fun j hj => ?_
  · have hb := h.bt.1
    rw [hg.block ba (by simp; omega) (fun x => by have := (hlt ba x.symm).1; omega), Below.heap_alloc _ _ _ (by omega)]
  · have hb := h.bt.2 j (by rw [← h.len]; exact hj)
    rw [hg.block (eo j) (by simp; omega) (fun x => by have := (hlt (eo j) x.symm).1; omega), Below.heap_alloc _ _ _ (by omega)]
end

theorem cell_one_at (w : World) (x : Value) (t : TypeId) (b : Nat) (hb : b = w.heap.size) : ∀ j u, [x][j]? = some u → (w.alloc (.cells #[x] t)).cell? ((⟨b, 0, none⟩ : Addr).add j) = some u := by
  subst hb; exact cell_one_new w x t
theorem SB_ne {n0 ba m : Nat} {eo : Nat → Nat} {l : List Th} {w : World} (h : TR n0 ba eo l w) (hl : l.length = m) {g : Nat} {cs : Array Value} {t : TypeId} (hg : w.heap[g]? = some (.cells cs t (0, 0))) (ht : t ≠ 47) : ¬ SB eo m g := by
  rintro ⟨k, hk, rfl⟩
  rw [(h.box k (by omega)).2] at hg
  simp only [Option.some.injEq, Obj.cells.injEq] at hg
  exact ht hg.2.1.symm
theorem tick_own {n0 ba m : Nat} {eo : Nat → Nat} {l : List Th} {w w' : World} (h : TR n0 ba eo l w) (hl : l.length = m) (ho : Only (SB eo m) w w') {e : TypeId} (he : e ≠ 47) {base n sz : Nat} {v : Value} {xs : List Value} (hv : w.ownsRow base e sz v n xs) : w'.ownsRow base e sz v n xs :=
  owns_keep hv fun g cs _ hg => ho.block g (Array.getElem?_eq_some_iff.1 hg).1 (SB_ne h hl hg he)
/-- A tick's end: the numbers of who ran are told. -/
theorem TickRel.next {ba m : Nat} {eo : Nat → Nat} {W w2 w4 w5 : World} {S0 S' : S} {rows : List (List Nat)} {v v' iv : Value} {vs : List Value} {r : List Nat} {o : Obj} (h : TR W.heap.size ba eo S0.ths w2) (hl : S0.ths.length = m) (hvs : w2.ownsRow W.heap.size 30 1 v rows.length vs ∧ Rows w2 W.heap.size rows vs)
    (hb : Below W.heap.size W w2) (ho : Only (SB eo m) w2 w4) (hT : TR W.heap.size ba eo S'.ths w4) (hid : w4.ownsRow W.heap.size 3 1 iv r.length (intsV r)) (hown : w5.ownsRow W.heap.size 30 1 v' (rows.length + 1) (vs ++ [iv])) (hg : (w4.alloc o).grownBy w5 v.ownBlock) : TickRel ba eo W S' (rows ++ [r]) v' w5 := by
  have hv4 := tick_own h hl ho (by decide) hvs.1
  have hkeep : ∀ {g : Nat} {cs : Array Value} {t : TypeId}, w4.heap[g]? = some (.cells cs t (0, 0)) → t ≠ 30 → w5.heap[g]? = w4.heap[g]? := by
    intro g cs t hg4 ht
    have hlt := (Array.getElem?_eq_some_iff.1 hg4).1
    rw [hg.block g (by simp; omega) (fun e => ?_), Below.heap_alloc _ _ _ hlt]
    rcases hv4.2 with ⟨rfl, _⟩ | ⟨g', cap, cur, rfl, _, h5, _⟩
    · cases e
    · simp only [Value.ownBlock, Option.some.injEq] at e
      subst e
      rw [hg4] at h5
      simp only [Option.some.injEq, Obj.cells.injEq] at h5
      exact ht h5.2.1
  refine ⟨hT.keep ?_ fun k hk => ?_, ⟨vs ++ [iv], by simpa using hown, fun i q hi => ?_⟩, ?_⟩
  · obtain ⟨cs, h1, _⟩ := hT.row
    exact hkeep h1 (by decide)
  · exact hkeep (hT.box k hk).2 (by decide)
  · have hvl : vs.length = rows.length := by have := hvs.1.1; omega
    by_cases hlt : i < rows.length
    · rw [List.getElem?_append_left hlt] at hi
      obtain ⟨u, hu, hur⟩ := hvs.2 i q hi
      refine ⟨u, by rw [List.getElem?_append_left (by omega)]; exact hu, owns_keep (tick_own h hl ho (by decide) hur) fun g cs _ hg => hkeep hg (by decide)⟩
    · have hil : i < (rows ++ [r]).length := by
        rcases Nat.lt_or_ge i (rows ++ [r]).length with h | h
        · exact h
        · rw [List.getElem?_eq_none h] at hi; cases hi
      have hie : i = rows.length := by simp at hil; omega
      subst hie
      rw [List.getElem?_append_right (Nat.le_refl _), Nat.sub_self] at hi
      simp only [List.getElem?_cons_zero, Option.some.injEq] at hi
      subst hi
      refine ⟨iv, by rw [← hvl, List.getElem?_append_right (Nat.le_refl _), Nat.sub_self]; rfl, owns_keep hid fun g cs _ hg => hkeep hg (by decide)⟩
  · have h4 : Below W.heap.size W w4 := Only.below hb ho (fun x hx => by obtain ⟨k, hk, rfl⟩ := hx; exact (h.box k (by omega)).1)
    exact Below.grown (h4.alloc h4.size _) hg (by have := h4.size; simp; omega) (fun j hj => (hv4.lt _ hj).1)

theorem own_cells {w : World} {base n : Nat} {e : TypeId} {v : Value} {xs : List Value} (h : w.ownsRow base e 1 v n xs) (hn : 0 < n) : ∃ g cap, v = .slice (some ⟨g, 0, none⟩) n cap ∧ base ≤ g ∧ n ≤ cap ∧ cap ≤ maxLen ∧ (∃ cs, w.heap[g]? = some (.cells cs e (0, 0))) ∧ ∀ i u, xs[i]? = some u → w.cell? ⟨g, i, none⟩ = some u ∧ w.frozen? ⟨g, i, none⟩ = false := by
  rcases h.2 with ⟨_, h0⟩ | ⟨g, cap, cur, rfl, h2, h3, h4, h5, h6, h7⟩
  · omega
  · refine ⟨g, cap, rfl, h2, h4, h5, ⟨_, h3⟩, fun i u hu => ?_⟩
    rw [← h7, List.getElem?_take] at hu
    split at hu
    · rw [Array.getElem?_toList] at hu
      exact ⟨by simp [World.cell?, h3, hu], by simp [World.frozen?, h3]⟩
    · cases hu
theorem own_sorted {w : World} {base n g cap m : Nat} {e : TypeId} {xs : List Value} {ys : List Int} {os : Array Obj} (h : w.ownsRow base e 1 (.slice (some ⟨g, 0, none⟩) n cap) n xs) (hy : ys.length = n) : (grow (putRow (Value.int .i64) (Sort.ahead w m) g 0 ys.toArray) os).ownsRow base e 1 (.slice (some ⟨g, 0, none⟩) n cap) n (ys.map (Value.int .i64)) := by
  refine ⟨by simp [hy], .inr ?_⟩
  rcases h.2 with ⟨h0, _⟩ | ⟨g', cap', cur, e1, h2, h3, h4, h5, h6, h7⟩
  · cases h0
  · simp only [Value.slice.injEq, Option.some.injEq, Addr.mk.injEq] at e1
    obtain ⟨⟨rfl, _⟩, _, rfl⟩ := e1
    have hlt : g < w.heap.size := (Array.getElem?_eq_some_iff.1 h3).1
    refine ⟨g, cap, putCells (Value.int .i64) 0 ys.toArray cur, rfl, h2, ?_, h4, h5, by unfold putCells; simpa using h6, ?_⟩
    · rw [heap_grow_old _ _ (by rw [size_putRow]; exact hlt)]
      show (w.heap.modify g _)[g]? = _
      rw [Array.getElem?_modify, if_pos rfl, h3]; rfl
    · refine List.ext_getElem? fun i => ?_
      rw [List.getElem?_take, List.getElem?_map, Array.getElem?_toList]
      by_cases hi : i < n
      · rw [if_pos (by omega)]
        unfold putCells
        rw [Array.getElem?_mapIdx, Array.getElem?_eq_getElem (by omega)]
        simp only [Option.map_some]
        rw [if_pos (by simp; omega), List.getElem?_eq_getElem (by omega), getElem!_pos _ _ (by simp; omega)]
        simp
      · rw [if_neg (by omega), List.getElem?_eq_none (by omega)]; rfl
theorem take_min {α : Type} (l : List α) (n : Nat) : l.take (min n l.length) = l.take n := by
  rcases Nat.le_total n l.length with h | h
  · rw [Nat.min_eq_left h]
  · rw [Nat.min_eq_right h, List.take_length, List.take_of_length_le h]

def RunPost (w : World) (res : List (List Nat) × Int) (e : Ending) (w' : World) : Prop :=
  ∃ v, e = .returned (.tuple #[v, .int .i64 res.2]) ∧ (∃ vs, w'.ownsRow w.heap.size 30 1 v res.1.length vs ∧ Rows w' w.heap.size res.1 vs) ∧ Below w.heap.size w w'

/-- So many boxes are made. -/
structure MkRel (ba : Nat) (xs : List Tin) (W : World) (k : Nat) (w : World) : Prop where
  nb : W.heap.size ≤ ba
  m : ∃ eo : Nat → Nat, (∃ cs, w.heap[ba]? = some (.cells cs 45 (0, 0)) ∧ cs.size = xs.length ∧ ∀ i, i < xs.length → cs[i]? = some (if i < k then .pointer (some ⟨eo i, 0, none⟩) else .pointer none)) ∧
    (∀ i, i < k → ba < eo i ∧ w.heap[eo i]? = some (.cells (thV (th (startS xs).ths i) i) 47 (0, 0))) ∧ ∀ i j, i < k → j < k → eo i = eo j → i = j
  below : Below W.heap.size W w

theorem MkRel.tr {ba : Nat} {xs : List Tin} {W w : World} (h : MkRel ba xs W xs.length w) : ∃ eo, TR W.heap.size ba eo (startS xs).ths w := by
  obtain ⟨eo, ⟨cs, h1, h2, h3⟩, h4, h5⟩ := h.m
  refine ⟨eo, h.nb, ⟨cs, h1, by rw [start_len]; exact h2, fun k hk => ?_⟩, fun k hk => ?_, fun j k hj hk => ?_⟩
  · rw [start_len] at hk
    have := h3 k hk
    rwa [if_pos hk] at this
  · rw [start_len] at hk
    have := h4 k hk
    have := h.nb
    exact ⟨by omega, (h4 k hk).2⟩
  · rw [start_len] at hj hk
    exact h5 j k hj hk
theorem MkRel.start {xs : List Tin} {W w : World} {ba : Nat} (h : Below W.heap.size W w) (hb : ba = w.heap.size) : MkRel ba xs W 0 (w.alloc (.cells (madeCells #[.pointer none] xs.length) 45)) := by
  refine ⟨by have := h.size; omega, ⟨fun _ => 0, ⟨_, new_at hb, by simp [madeCells], fun i hi => ?_⟩, fun i hi => by omega, fun i j hi => by omega⟩, h.alloc h.size _⟩
  rw [if_neg (by omega)]
  simp [madeCells, hi, Nat.mod_one]
theorem MkRel.at_ {ba : Nat} {xs : List Tin} {W w : World} {k : Nat} (h : MkRel ba xs W k w) (hk : k < xs.length) : w.cell? ⟨ba, k, none⟩ = some (.pointer none) ∧ w.frozen? ⟨ba, k, none⟩ = false ∧ ba < w.heap.size := by
  obtain ⟨eo, ⟨cs, h1, h2, h3⟩, _⟩ := h.m
  have := h3 k hk
  rw [if_neg (Nat.lt_irrefl _)] at this
  exact ⟨by simp [World.cell?, h1, this], by simp [World.frozen?, h1], (Array.getElem?_eq_some_iff.1 h1).1⟩
theorem MkRel.next {ba : Nat} {xs : List Tin} {W w : World} {k : Nat} (h : MkRel ba xs W k w) (hk : k < xs.length) {x0 x1 x2 : Int} (hx : xs[k] = (x0, x1, x2)) (o : Obj) :
    MkRel ba xs W (k + 1) (((w.setCell ⟨ba, k, none⟩ (.pointer (some ⟨w.heap.size + 1, 0, none⟩))).alloc o).alloc (.cells #[.int .i64 x0, .int .i64 x1, .int .i64 x2, .int .i64 k, .int .i64 0, .int .i64 0] 47 (0, 0))) := by
  have hbl := (h.at_ hk).2.2
  obtain ⟨eo, ⟨cs, h1, h2, h3⟩, h4, h5⟩ := h.m
  have hlt : ∀ i, i < k → eo i < w.heap.size := fun i hi => (Array.getElem?_eq_some_iff.1 (h4 i hi).2).1
  obtain ⟨eo', g1, g2⟩ : ∃ eo' : Nat → Nat, eo' k = w.heap.size + 1 ∧ ∀ i, i ≠ k → eo' i = eo i := ⟨fun i => if i = k then w.heap.size + 1 else eo i, by simp, fun i hi => by simp [hi]⟩
  have hss : (w.setCell ⟨ba, k, none⟩ (.pointer (some ⟨w.heap.size + 1, 0, none⟩))).heap.size = w.heap.size := by simp [World.setCell]
  refine ⟨h.nb, ⟨eo', ?_, fun i hi => ?_, fun i j hi hj he => ?_⟩, ?_⟩
  · refine ⟨_, (Below.heap_alloc _ _ _ (by simp only [World.size_alloc, hss]; omega)).trans ((Below.heap_alloc _ _ _ (by omega)).trans (heap_set h1 _ _)), by simpa using h2, fun i hi => ?_⟩
    rw [Array.getElem?_setIfInBounds]
    by_cases e : k = i
    · subst e
      rw [if_pos rfl, if_pos (by omega), if_pos (by omega), g1]
    · rw [if_neg e, h3 i hi]
      by_cases hik : i < k
      · rw [if_pos hik, if_pos (by omega), g2 i (by omega)]
      · rw [if_neg hik, if_neg (by omega)]
  · by_cases e : i = k
    · subst e
      rw [g1]
      refine ⟨by omega, ?_⟩
      rw [new_at (by simp only [World.size_alloc, hss])]
      rw [start_th hk, hx]
      rfl
    · rw [g2 i e]
      have hi' : i < k := by omega
      refine ⟨(h4 i hi').1, ?_⟩
      have h9 := (h4 i hi').1
      have h8 := hlt i hi'
      rw [Below.heap_alloc _ _ _ (by simp only [World.size_alloc, hss]; omega), Below.heap_alloc _ _ _ (by omega), Below.heap_setCell _ _ _ _ (by simp; omega)]
      exact (h4 i hi').2
  · by_cases e : i = k
    · by_cases e' : j = k
      · omega
      · rw [e, g1, g2 j e'] at he
        have := hlt j (by omega)
        omega
    · by_cases e' : j = k
      · rw [e', g1, g2 i e] at he
        have := hlt i (by omega)
        omega
      · rw [g2 i e, g2 j e'] at he
        exact h5 i j (by omega) (by omega) he
  · have hs := h.below.size
    exact Only.below (S := fun x => x = ba) h.below (((Only.set (p := ⟨ba, k, none⟩) (Only.refl (fun x => x = ba) w) (.inl rfl) _).alloc _).alloc _) (fun x hx => by rw [hx]; exact h.nb)

set_option maxRecDepth 100000 in
set_option maxHeartbeats 4000000 in
theorem Try.run (g off cap : Nat) (a : Option Addr) (xs : List Tin) (c s t : Int) (w : World) (ha : Hid (0 < xs.length → a = some ⟨g, off, none⟩)) (hg : Hid (0 < xs.length → g < w.heap.size))
    (hc : Hid (∀ i, i < xs.length → ∀ j, j < 3 → w.cell? ⟨g, off + i * 3 + j, none⟩ = some (.int .i64 (tinF (xs.getD i dT) j)))) :
    Calls Try.prog 8 #[.int .i64 c, .int .i64 s, .slice a xs.length cap, .int .i64 t] w (RunPost w (runF c s xs t)) := by
  have hw := fun w' => Try.wrong g off cap a xs c s w'
  cases hwf : wrongF c s xs with
  | true =>
    have hres : runF c s xs t = ([], 2) := by unfold runF; rw [if_pos hwf]
    rw [hres]
    have hwr := Try.wrong g off cap a xs c s w ha hg hc
    rw [if_pos hwf] at hwr
    have hp : ∀ w', Below w.heap.size w w' → RunPost w ([], 2) (.returned (.tuple #[.slice none 0 0, .int .i64 2])) w' := fun w' hb => ⟨_, rfl, ⟨[], World.ownsRow_nil _ _ _ _, fun i r h => by simp at h⟩, hb⟩
    have hp := Lib.hid hp
    go_enter Try.func8, Try.ntmps8
    go_wp2_with (first | (refine hwr.mono ?_; rintro e w' ⟨rfl, hb⟩; replace hb := Lib.hid hb))
    go_ret2
    exact hp.out _ hb.out
  | false =>
    have hwr := Try.wrong g off cap a xs c s w ha hg hc
    rw [if_neg (by rw [hwf]; simp)] at hwr
    by_cases ht : t < 0 ∨ 2000 < t
    · have hres : runF c s xs t = ([], 2) := by unfold runF; rw [if_neg (by rw [hwf]; simp), if_pos ht]
      rw [hres]
      have hp : ∀ w' n, Below w.heap.size w w' → RunPost w ([], 2) (.returned (.tuple #[.slice none 0 0, .int .i64 2])) (w'.drewN n) := fun w' n hb => ⟨_, rfl, ⟨[], World.ownsRow_nil _ _ _ _, fun i r h => by simp at h⟩, below_drew' hb n⟩
      have hp := Lib.hid hp
      clear hres
      rcases ht with ht | ht
      · go_enter Try.func8, Try.ntmps8
        go_wp2_with (first | (refine hwr.mono ?_; rintro e w' ⟨rfl, hb⟩; replace hb := Lib.hid hb))
        go_ret2
        exact hp.out _ 0 hb.out
      · have h9 : ¬ t < 0 := by omega
        go_enter Try.func8, Try.ntmps8
        go_wp2_with (first | (refine hwr.mono ?_; rintro e w' ⟨rfl, hb⟩; replace hb := Lib.hid hb))
        go_ret2
        exact hp.out _ 0 hb.out
    · have hwo := wrong_ok hwf
      obtain ⟨n, rfl⟩ : ∃ n : Nat, t = n := ⟨t.toNat, by omega⟩
      have hres : runF c s xs n = (runs c.toNat s n 0 (startS xs), 0) := by
        unfold runF; rw [if_neg (by rw [hwf]; simp), if_neg ht]; simp
      rw [hres]
      have hn : n ≤ 2000 := by omega
      have hbd := fun k : Nat => after_bd hwf k
      clear hres ht hwf hw
      have hlen : xs.length ≤ 64 := hwo.2.2.2.2.1
      have hwo := Lib.hid hwo
      have t0 : (0 : Int) ≤ (n : Int) := by omega
      have t1 : (n : Int) ≤ 2000 := by omega
      have hmk := run_make_row' (P := Try.prog) 44 45 (.pointer none) 8 Try.underlying44 (by kernel_rfl) rfl .i64 .i64 xs.length (by omega) (by omega)
      go_enter Try.func8, Try.ntmps8
      go_wp2_with (first | (refine hwr.mono ?_; rintro e w1 ⟨rfl, hb⟩; replace hb := Lib.hid hb))
      clear hmk
      obtain ⟨ba, hba⟩ : ∃ ba, ba = w1.heap.size := ⟨_, rfl⟩
      rw [← hba]
      replace hba := Lib.hid hba
      go_loopw [42] (fun i wr => ∃ k : Nat, k ≤ xs.length ∧ i = .int .i64 k ∧ Hid (MkRel ba xs w k wr)) (fun i _ => xs.length + 1 - (intOf i).toNat)
      case atStart => exact ⟨0, Nat.zero_le _, rfl, MkRel.start hb.out hba.out⟩
      case round =>
        obtain ⟨k, hk, rfl, hM⟩ := hrel
        by_cases hlt : k < xs.length
        · obtain rfl := ha.out (by omega)
          have hgl := hg.out (by omega)
          obtain ⟨x0, x1, x2, hx⟩ : ∃ x0 x1 x2, xs[k] = (x0, x1, x2) := ⟨_, _, _, rfl⟩
          have hcell : Hid (∀ j, j < 3 → wr.cell? ⟨g, off + k * 3 + j, none⟩ = some (.int .i64 (tinF (x0, x1, x2) j))) := fun j hj => by
            have := (hM.out.below.cell (p := ⟨g, off + k * 3 + j, none⟩) hgl).trans (hc.out k hlt j hj)
            rwa [show xs.getD k dT = xs[k] by simp [List.getD_eq_getElem?_getD, hlt], hx] at this
          have q0 : wr.cell? ⟨g, off + k * 3, none⟩ = some (.int .i64 x0) := hcell.out 0 (by omega)
          have q1 : wr.cell? ⟨g, off + k * 3 + 1, none⟩ = some (.int .i64 x1) := hcell.out 1 (by omega)
          have q2 : wr.cell? ⟨g, off + k * 3 + 2, none⟩ = some (.int .i64 x2) := hcell.out 2 (by omega)
          have k0 : (0 : Int) ≤ (k : Int) := by omega
          have k1 : (k : Int) < (xs.length : Int) := by omega
          obtain ⟨m0, m1, m2⟩ := hM.out.at_ hlt
          replace hx := Lib.hid hx
          go_wp2
          go_roundw
          case rel => exact ⟨k + 1, by omega, by go_num, hM.out.next hlt hx.out _⟩
          case measure => simp [intOf]; omega
        · obtain rfl : k = xs.length := by omega
          obtain ⟨eo, hT⟩ := hM.out.tr
          have hbel := Lib.hid hM.out.below
          replace hT := Lib.hid hT
          clear hM
          go_wp2
          obtain ⟨cn, rfl⟩ : ∃ cn : Nat, c = cn := ⟨c.toNat, by have := hwo.out.1; omega⟩
          rw [Int.toNat_natCast]
          have hord := fun k : Nat => after_ord (n := cn) (slice := s) (start_ord (l := xs) fun t ht => (hwo.out.2.2.2.2.2 t ht).1) k
          replace hord := Lib.hid hord
          rw [Int.toNat_natCast] at hbd
          replace hbd := Lib.hid hbd
          obtain ⟨ip, hip, hzp, hsp, hbp⟩ := info_parts (P := Try.prog) (e := 45) (z := .pointer none) (size := 1) (bytes := 8) (by kernel_rfl)
          obtain ⟨ii, hii, hzi, hsi, hbi⟩ := info_parts (P := Try.prog) (e := 3) (z := .int .i64 0) (size := 1) (bytes := 8) (by kernel_rfl)
          obtain ⟨ir, hir, hzr, hsr, hbr⟩ := info_parts (P := Try.prog) (e := 30) (z := .slice none 0 0) (size := 1) (bytes := 24) (by kernel_rfl)
          go_loopw [14, 15, 56] (fun tv v i w2 => ∃ (k : Nat) (tn : Int), k ≤ n ∧ i = .int .i64 k ∧ tv = .int .i64 tn ∧ Hid (tn = (after cn s k 0 (startS xs)).turn) ∧ Hid (TickRel ba eo w (after cn s k 0 (startS xs)) (runs cn s k 0 (startS xs)) v w2)) (fun _ _ i _ => n + 1 - (intOf i).toNat)
          case atStart => exact ⟨0, 0, Nat.zero_le _, rfl, rfl, rfl, hT.out, ⟨[], World.ownsRow_nil _ _ _ _, fun i r h => by simp [runs] at h⟩, hbel.out⟩
          case round =>
            obtain ⟨k, tn, hk, rfl, rfl, htn, hR⟩ := hrel
            by_cases hlt : k < n
            · have k0 : (0 : Int) ≤ (k : Int) := by omega
              have k1 : (k : Int) < (n : Int) := by omega
              have k2 : (k : Int) ≤ 2000 := by omega
              obtain ⟨S0, hS0⟩ : ∃ S0, S0 = after cn s k 0 (startS xs) := ⟨_, rfl⟩
              have hlS : S0.ths.length = xs.length := by rw [hS0, after_len, start_len]
              have hB0 : Hid (Bd s S0 (72 * k)) := by rw [hS0]; exact hbd.out k
              have hO0 : Hid (Ord k S0) := by rw [hS0]; exact hord.out k
              obtain ⟨vs, hvs⟩ := hR.out.own
              have htr := hR.out.tr
              rw [← hS0] at htr
              rw [← hS0] at htn
              have hbw := Lib.hid hR.out.below
              replace htr := Lib.hid htr
              replace hvs := Lib.hid hvs
              replace hS0 := Lib.hid hS0
              replace hlS := Lib.hid hlS
              clear hR
              go_wp2_with (fail)
              rename World => w2
              go_loopw [14, 17, 61] (fun tv rv i w3 => ∃ (j : Nat) (tn : Int), j ≤ xs.length ∧ i = .int .i64 j ∧ tv = .int .i64 tn ∧ (0 ≤ tn ∧ tn ≤ 200000) ∧ Hid (tn = (comeTo k S0 j).turn) ∧ Hid (ComeRel 45 (ptrV eo) w.heap.size ba eo xs.length w2 (comeTo k S0 j).ths (readyTo k S0.ths j) rv w3)) (fun _ _ i _ => xs.length + 1 - (intOf i).toNat)
              case atStart =>
                refine ⟨0, tn, Nat.zero_le _, rfl, rfl, ?_, ?_, ?_⟩
                · have h1 := hB0.out.t0
                  have h2 := hB0.out.t1
                  rw [htn.out]; omega
                · show _ = _; rw [comeTo_zero]; exact htn.out
                · show ComeRel _ _ _ _ _ _ _ _ _ _ _; rw [comeTo_zero]; exact ComeRel.start htr.out hlS.out
              case round =>
                obtain ⟨j, tn, hj, rfl, rfl, ⟨u0, u1⟩, htn, hC⟩ := hrel
                by_cases hltj : j < xs.length
                · have hltj' : j < (comeTo k S0 j).ths.length := by rw [hC.out.len]; exact hltj
                  obtain ⟨T, hT0⟩ : ∃ T, T = th (comeTo k S0 j).ths j := ⟨_, rfl⟩
                  have c0 := hC.out.tr.cell hltj'
                  have d0 : wr.cell? ⟨eo j, 0, none⟩ = some (.int .i64 T.come) := by rw [hC.out.tr.boxc hltj', ← hT0]; rfl
                  have d2 : wr.cell? ⟨eo j, 2, none⟩ = some (.int .i64 T.work) := by rw [hC.out.tr.boxc hltj', ← hT0]; rfl
                  have d4 : wr.cell? ⟨eo j, 4, none⟩ = some (.int .i64 T.turn) := by rw [hC.out.tr.boxc hltj', ← hT0]; rfl
                  have f4 : wr.frozen? ⟨eo j, 4, none⟩ = false := hC.out.tr.boxf hltj' 4
                  have j0 : (0 : Int) ≤ (j : Int) := by omega
                  have j1 : (j : Int) < (xs.length : Int) := by omega
                  replace hT0 := Lib.hid hT0
                  obtain ⟨x0, hx0⟩ : ∃ x, x = T.come := ⟨_, rfl⟩
                  obtain ⟨x2, hx2⟩ : ∃ x, x = T.work := ⟨_, rfl⟩
                  rw [← hx0] at d0
                  rw [← hx2] at d2
                  replace hx0 := Lib.hid hx0
                  replace hx2 := Lib.hid hx2
                  have hS' : Hid (j < S0.ths.length) := by show j < S0.ths.length; rw [hlS.out]; exact hltj
                  by_cases hcome : x0 = k
                  · have hcy := comeTo_yes (now := (k : Int)) hS'.out (by rw [← hT0.out, ← hx0.out, hcome])
                    replace hcy := Lib.hid hcy
                    have hC1 : Hid (ComeRel 45 (ptrV eo) w.heap.size ba eo xs.length w2 (comeTo k S0 (j + 1)).ths (readyTo k S0.ths j) u17 (wr.setCell ⟨eo j, 4, none⟩ (.int .i64 (tn + 1)))) := by
                      show ComeRel _ _ _ _ _ _ _ _ _ _ _
                      rw [hcy.out]
                      exact hC.out.set hltj (by decide) (by rw [htn.out]; rfl)
                    have htn1 : Hid (tn + 1 = (comeTo k S0 (j + 1)).turn) := by show _ = _; rw [hcy.out, htn.out]
                    have htb : Hid ((comeTo k S0 (j + 1)).turn ≤ 200000) := by
                      have h1 := (hB0.out.comeTo_ k (j + 1) hS'.out).t1
                      show _ ≤ _
                      omega
                    clear hcy
                    subst hcome
                    by_cases hwork : 0 < x2
                    · have hry := readyTo_yes (now := (k : Int)) hS'.out (by rw [← hT0.out, ← hx0.out]; exact Int.le_refl _) (by rw [← hT0.out, ← hx2.out]; exact hwork)
                      replace hry := Lib.hid hry
                      have hown := hC1.out.own
                      replace hown := Lib.hid hown
                      go_wp2_with (first
                        | (at_builtin; refine wpList_append_own _ rfl _ _ 44 rfl w2.heap.size 45 ip (.pointer none) 1 8 Try.underlying44 hip hzp hsp hbp rfl (by decide) _ _ _ rfl (hown.out.alloc _) ⟨_, 0, none⟩ 1 1 [.pointer (some ⟨eo j, 0, none⟩)] rfl rfl (cell_one_at _ _ _ _ (by simp)) (fun x hx => by simp at hx; subst hx; rfl) (by have := readyTo_len (k : Int) S0.ths j; unfold maxLen; omega) (by have := readyTo_len (k : Int) S0.ths j; omega) (by have := hC1.out.only.size; simp at this ⊢; omega) ?_; intro v' w4 hown' hg' hn'
                           have X : Hid (ComeRel 45 (ptrV eo) w.heap.size ba eo xs.length w2 (comeTo k S0 (j + 1)).ths (readyTo k S0.ths (j + 1)) v' w4) := by show ComeRel _ _ _ _ _ _ _ _ _ _ _; rw [hry.out]; exact hC1.out.app hown' hg' hn'
                           clear hown' hg' hn'))
                      go_roundw
                      case rel => exact ⟨j + 1, tn + 1, by omega, by go_num, by go_num, ⟨by omega, by rw [htn1.out]; exact htb.out⟩, htn1, X⟩
                      case measure => simp [intOf]; omega
                    · have hry := readyTo_no (now := (k : Int)) hS'.out (by rw [← hT0.out, ← hx2.out]; exact fun h => hwork h.2)
                      replace hry := Lib.hid hry
                      go_wp2
                      go_roundw
                      case rel => exact ⟨j + 1, tn + 1, by omega, by go_num, by go_num, ⟨by omega, by rw [htn1.out]; exact htb.out⟩, htn1, by show ComeRel _ _ _ _ _ _ _ _ _ _ _; rw [hry.out]; exact hC1.out⟩
                      case measure => simp [intOf]; omega
                  · have hcy := comeTo_no (now := (k : Int)) hS'.out (by rw [← hT0.out, ← hx0.out]; exact hcome)
                    replace hcy := Lib.hid hcy
                    have hC1 : Hid (ComeRel 45 (ptrV eo) w.heap.size ba eo xs.length w2 (comeTo k S0 (j + 1)).ths (readyTo k S0.ths j) u17 wr) := by
                      show ComeRel _ _ _ _ _ _ _ _ _ _ _
                      rw [hcy.out]
                      exact hC.out
                    have htn1 : Hid (tn = (comeTo k S0 (j + 1)).turn) := by show _ = _; rw [hcy.out, htn.out]
                    clear hcy
                    rcases Int.lt_or_le (k : Int) x0 with hle | hle
                    · have hry := readyTo_no (now := (k : Int)) hS'.out (by rw [← hT0.out, ← hx0.out]; omega)
                      replace hry := Lib.hid hry
                      go_wp2
                      go_roundw
                      case rel => exact ⟨j + 1, tn, by omega, by go_num, rfl, ⟨u0, u1⟩, htn1, by show ComeRel _ _ _ _ _ _ _ _ _ _ _; rw [hry.out]; exact hC1.out⟩
                      case measure => simp [intOf]; omega
                    by_cases hwork : 0 < x2
                    · have hry := readyTo_yes (now := (k : Int)) hS'.out (by rw [← hT0.out, ← hx0.out]; exact hle) (by rw [← hT0.out, ← hx2.out]; exact hwork)
                      replace hry := Lib.hid hry
                      have hown := hC1.out.own
                      replace hown := Lib.hid hown
                      go_wp2_with (first
                        | (at_builtin; refine wpList_append_own _ rfl _ _ 44 rfl w2.heap.size 45 ip (.pointer none) 1 8 Try.underlying44 hip hzp hsp hbp rfl (by decide) _ _ _ rfl (hown.out.alloc _) ⟨_, 0, none⟩ 1 1 [.pointer (some ⟨eo j, 0, none⟩)] rfl rfl (cell_one_at _ _ _ _ (by simp)) (fun x hx => by simp at hx; subst hx; rfl) (by have := readyTo_len (k : Int) S0.ths j; unfold maxLen; omega) (by have := readyTo_len (k : Int) S0.ths j; omega) (by have := hC1.out.only.size; simp at this ⊢; omega) ?_; intro v' w4 hown' hg' hn'
                           have X : Hid (ComeRel 45 (ptrV eo) w.heap.size ba eo xs.length w2 (comeTo k S0 (j + 1)).ths (readyTo k S0.ths (j + 1)) v' w4) := by show ComeRel _ _ _ _ _ _ _ _ _ _ _; rw [hry.out]; exact hC1.out.app hown' hg' hn'
                           clear hown' hg' hn'))
                      go_roundw
                      case rel => exact ⟨j + 1, tn, by omega, by go_num, rfl, ⟨u0, u1⟩, htn1, X⟩
                      case measure => simp [intOf]; omega
                    · have hry := readyTo_no (now := (k : Int)) hS'.out (by rw [← hT0.out, ← hx2.out]; exact fun h => hwork h.2)
                      replace hry := Lib.hid hry
                      go_wp2
                      go_roundw
                      case rel => exact ⟨j + 1, tn, by omega, by go_num, rfl, ⟨u0, u1⟩, htn1, by show ComeRel _ _ _ _ _ _ _ _ _ _ _; rw [hry.out]; exact hC1.out⟩
                      case measure => simp [intOf]; omega
                · obtain rfl : j = xs.length := by omega
                  obtain ⟨S1, hS1⟩ : ∃ S1, S1 = come k S0 := ⟨_, rfl⟩
                  have hca : comeTo k S0 xs.length = S1 := by rw [← hlS.out, comeTo_all, hS1]
                  rw [hca] at hC htn
                  obtain ⟨rd, hrd⟩ : ∃ rd, rd = readyTo k S0.ths xs.length := ⟨_, rfl⟩
                  rw [← hrd] at hC
                  have hrdy : Hid (rd = readyOf k S1.ths) := by show _ = _; rw [hS1, ready_comeTo, hlS.out, hrd]
                  replace hS1 := Lib.hid hS1
                  replace hrd := Lib.hid hrd
                  replace hca := Lib.hid hca
                  clear hca
                  have hS2 : Hid (S1.ths.length = xs.length) := hC.out.len
                  have hCo := Lib.hid hC.out.only
                  have hnext : Hid (after cn s (k + 1) 0 (startS xs) = works s S1 ((queue k S1.ths).take cn)) := by
                    show _ = _
                    rw [after_snoc, Nat.zero_add, ← hS0.out, hS1.out]; rfl
                  have hrows : Hid (runs cn s (k + 1) 0 (startS xs) = runs cn s k 0 (startS xs) ++ [((queue k S1.ths).take cn).mergeSort fun a b => decide (a ≤ b)]) := by
                    show _ = _
                    rw [runs_snoc, Nat.zero_add, ← hS0.out, hS1.out]; rfl
                  have hrl : Hid ((runs cn s k 0 (startS xs)).length = k) := runs_length ..
                  by_cases hrn : rd = []
                  · obtain rfl := hC.out.nil.2 hrn
                    have hq : queue k S1.ths = [] := by
                      have := queue_perm k S1.ths
                      rw [← hrdy.out, hrn] at this
                      exact this.eq_nil
                    rw [hq, List.take_nil] at hnext hrows
                    rw [List.mergeSort_nil] at hrows
                    have hT1 := Lib.hid hC.out.tr
                    have hnx : Hid ((after cn s (k + 1) 0 (startS xs)) = S1) := hnext.out
                    replace hrn := Lib.hid hrn
                    replace hq := Lib.hid hq
                    have hown4 := Lib.hid (tick_own htr.out hlS.out hC.out.only (by decide) hvs.out.1)
                    have c1 : (1 : Int) ≤ (cn : Int) := hwo.out.1
                    go_wp2_with (first
                      | (refine (AnyF.slices_SortFunc_none { Try.laysF6 with } none 0 _ _).mono ?_; rintro e w' ⟨rfl, rfl⟩))
                    refine wp_loop_rounds 1 ?_
                    rw [rounds_succ]
                    go_wp2_with (first
                      | (refine (Try.slices_Sort_int_none none 0 _).mono ?_; rintro e w' ⟨rfl, rfl⟩)
                      | (at_builtin; refine wpList_append_own _ rfl _ _ 26 rfl w.heap.size 30 ir (.slice none 0 0) 1 24 Try.underlying26 hir hzr hsr hbr rfl (by decide) _ _ _ rfl (hown4.out.alloc _) ⟨_, 0, none⟩ 1 1 [.slice none 0 0] rfl rfl (cell_one_at _ _ _ _ (by simp)) (fun x hx => by simp at hx; subst hx; rfl) (by rw [hrl.out]; unfold maxLen; omega) (by rw [hrl.out]; omega) (by have h1 := hbw.out.size; have h2 := hCo.out.size; simp at h1 h2 ⊢; omega) ?_; intro v' w5 hown' hg' hn'
                         have X : Hid (TickRel ba eo w (after cn s (k + 1) 0 (startS xs)) (runs cn s (k + 1) 0 (startS xs)) v' w5) := by
                           show TickRel _ _ _ _ _ _ _
                           rw [hnx.out, hrows.out]
                           exact TickRel.next (iv := .slice none 0 0) (r := []) htr.out hlS.out hvs.out hbw.out hCo.out hT1.out (World.ownsRow_nil _ _ _ _) hown' hg'
                         clear hown' hg' hn'))
                    go_roundw
                    case rel => exact ⟨k + 1, tn, by omega, by go_num, rfl, by show _ = _; rw [hnx.out, htn.out], X⟩
                    case measure => simp [intOf]; omega
                  · have hrl0 : 0 < rd.length := List.length_pos_iff.2 hrn
                    obtain ⟨blk, rcap, rfl, b1, b2, b3, ⟨bcs, b4⟩, b5⟩ := own_cells hC.out.own hrl0
                    have hrdl : ∀ p ∈ rd, p < S1.ths.length := fun p hp => by rw [hrdy.out] at hp; exact (Go.Cp.mem_ready.1 hp).1
                    have hne : ∀ p, p < S1.ths.length → eo p ≠ blk := fun p hp => by have := hC.out.bt.2 p (by rw [← hS2.out]; exact hp); omega
                    have hlen64 : rd.length ≤ 64 := by have := readyTo_len (k : Int) S0.ths xs.length; rw [← hrd.out] at this; omega
                    have hsort := Try.sort_ready (l := S1.ths) (eo := eo) (blk := blk) (cap := rcap) (w := wr) (fun p hp => (hC.out.tr.box p hp).2) hne rd hrdl (by omega) (fun i hi => b5 i _ (by rw [List.getElem?_map, List.getElem?_eq_getElem hi]; rfl)) hrl0
                    have hO1 := hO0.out.come_ (now := (k : Int))
                    rw [← hS1.out] at hO1
                    have hC' := hC
                    replace b5 := Lib.hid b5
                    replace hne := Lib.hid hne
                    replace hO1 := Lib.hid hO1
                    replace hrdl := Lib.hid hrdl
                    have c1 : (1 : Int) ≤ (cn : Int) := hwo.out.1
                    obtain ⟨nr, hnr⟩ : ∃ nr, nr = min cn rd.length := ⟨_, rfl⟩
                    have hmin : min (cn : Int) (rd.length : Int) = (nr : Int) := by rw [hnr]; omega
                    have hnr1 : 1 ≤ nr := by omega
                    have hnr2 : nr ≤ rd.length := by omega
                    have hnr3 : (0 : Int) ≤ (nr : Int) := by omega
                    have hnr4 : (nr : Int) ≤ (rcap : Int) := by omega
                    replace hnr := Lib.hid hnr
                    clear hrn
                    go_wp2_with (first
                      | (refine hsort.mono ?_; rintro e w3 ⟨rfl, q, hqp, hqs, hqo, hqc, hq45⟩; replace hq45 := Lib.hid (hq45 bcs 45 b4); replace hqp := Lib.hid hqp; replace hqs := Lib.hid hqs; replace hqo := Lib.hid hqo; replace hqc := Lib.hid hqc; clear hsort))
                    have hqe : q = queue k S1.ths := queue_unique (now := (k : Int)) (s := S1) hO1.out (by rw [← hrdy.out]; exact hqp.out) hqs.out
                    have hql : q.length = rd.length := hqp.out.length_eq
                    have hqd : Hid q.Nodup := by rw [hqe]; exact queue_nodup _ _
                    have hqlt : Hid (∀ p ∈ q, p < S1.ths.length) := fun p hp => hrdl.out p (hqp.out.mem_iff.1 hp)
                    have hqw : Hid (∀ p ∈ q, 0 < (th S1.ths p).work) := fun p hp => by
                      have h1 := hqp.out.mem_iff.1 hp
                      rw [hrdy.out] at h1
                      exact (Go.Cp.mem_ready.1 h1).2.2
                    rw [← hqe] at hnext hrows
                    rw [show q.take cn = q.take nr by rw [hnr.out, ← hql, take_min]] at hnext hrows
                    replace hqe := Lib.hid hqe
                    have hB1 : Hid (∀ i, i ≤ q.length → Bd s (works s S1 (q.take i)) (72 * k + xs.length + i)) := by
                      have h1 := hB0.out.come_ (k : Int)
                      rw [← hS1.out, hlS.out] at h1
                      exact h1.works_ (by have := hwo.out.2.2.1; omega) hqd.out hqlt.out hqw.out
                    have hT3 : Hid (TR w.heap.size ba eo S1.ths w3) := hC.out.tr.only hqo.out (by have := hC.out.bt.1; omega) (fun p hp => hne.out p hp)
                    have hO3 : Hid (Only (SB eo xs.length) w2 w3) := hC.out.only.step hqo.out (fun x hx hx' => by omega)
                    have hbk : Hid (∃ cs, w3.heap[blk]? = some (.cells cs 45 (0, 0))) := hq45
                    clear hC
                    go_loopw [14, 21, 108] (fun tv iv i w4 => ∃ (j : Nat) (tn : Int), j ≤ nr ∧ i = .int .i64 j ∧ tv = .int .i64 tn ∧ (0 ≤ tn ∧ tn ≤ 200000) ∧ Hid (tn = (works s S1 (q.take j)).turn) ∧ Hid (ComeRel 3 (fun p => .int .i64 (p : Int)) w.heap.size ba eo xs.length w3 (works s S1 (q.take j)).ths (q.take j) iv w4)) (fun _ _ i _ => nr + 1 - (intOf i).toNat)
                    case atStart =>
                      have h1 := hB1.out 0 (Nat.zero_le _)
                      have h2 := h1.t0
                      have h3 := h1.t1
                      have h4 : (works s S1 (q.take 0)).turn = S1.turn := rfl
                      exact ⟨0, tn, Nat.zero_le _, rfl, rfl, by rw [htn.out]; omega, htn.out, ComeRel.start hT3.out hS2.out⟩
                    case round =>
                      obtain ⟨j, tn, hj, rfl, rfl, ⟨v0, v1⟩, htn2, hC⟩ := hrel
                      by_cases hltj : j < nr
                      · have hjq : j < q.length := by omega
                        obtain ⟨p, hp⟩ : ∃ p, p = q[j] := ⟨_, rfl⟩
                        have hpl : p < xs.length := by rw [hp, ← hS2.out]; exact hqlt.out _ (List.getElem_mem _)
                        have hpl' : p < (works s S1 (q.take j)).ths.length := by rw [hC.out.len]; exact hpl
                        obtain ⟨T, hT0⟩ : ∃ T, T = th (works s S1 (q.take j)).ths p := ⟨_, rfl⟩
                        have hTw : T.work = (th S1.ths p).work := by rw [hT0, hp]; exact works_next hjq hqd.out hqlt.out
                        have hTp : 0 < T.work := by rw [hTw, hp]; exact hqw.out _ (List.getElem_mem _)
                        have hTb := (hB1.out j (by omega)).b p hpl'
                        rw [← hT0] at hTb
                        have hTn := hB1.out j (by omega)
                        have c0 : wr.cell? ⟨blk, j, none⟩ = some (.pointer (some ⟨eo p, 0, none⟩)) := by
                          obtain ⟨cs, h1⟩ := hbk.out
                          have h2 := hC.out.only.block blk (Array.getElem?_eq_some_iff.1 h1).1 (SB_ne hT3.out hS2.out h1 (by decide))
                          rw [World.cell?_of_block (w := w3) (a := ⟨blk, j, none⟩) h2, hp]
                          exact hqc.out j hjq
                        have d3 : wr.cell? ⟨eo p, 3, none⟩ = some (.int .i64 p) := by rw [hC.out.tr.boxc hpl']; rfl
                        have j0 : (0 : Int) ≤ (j : Int) := by omega
                        have j1 : (j : Int) < (nr : Int) := by omega
                        have hjle : (q.take j).length ≤ 64 := by rw [List.length_take]; omega
                        have hown := Lib.hid hC.out.own
                        have htk : Hid (q.take (j + 1) = q.take j ++ [p]) := by show _ = _; rw [List.take_succ_eq_append_getElem hjq, hp]
                        have hst : Hid (works s S1 (q.take (j + 1)) = work1 s (works s S1 (q.take j)) p) := by show _ = _; rw [htk.out, works_snoc]
                        replace hp := Lib.hid hp
                        replace hT0 := Lib.hid hT0
                        replace hTb := Lib.hid hTb
                        replace hTn := Lib.hid hTn
                        replace hTp := Lib.hid hTp
                        replace hTw := Lib.hid hTw
                        obtain ⟨x2, hx2⟩ : ∃ x, x = T.work := ⟨_, rfl⟩
                        obtain ⟨x5, hx5⟩ : ∃ x, x = T.used := ⟨_, rfl⟩
                        have y2 : 0 < x2 := by rw [hx2]; exact hTp.out
                        have y2' : x2 ≤ 10000 := by rw [hx2]; exact hTb.out.2.1.2
                        have y5 : 0 ≤ x5 := by rw [hx5]; exact hTb.out.2.2.1
                        have y5' : x5 ≤ 100 := by rw [hx5]; have := hTb.out.2.2.2; have := hwo.out.2.2.2.1; omega
                        replace hx2 := Lib.hid hx2
                        replace hx5 := Lib.hid hx5
                        by_cases hfull : x5 + 1 = s
                        · go_wp2_with (first
                            | (at_builtin; refine wpList_append_own _ rfl _ _ 30 rfl w3.heap.size 3 ii (.int .i64 0) 1 8 Try.underlying30 hii hzi hsi hbi rfl (by decide) _ _ _ rfl (hown.out.alloc _) ⟨_, 0, none⟩ 1 1 [.int .i64 p] rfl rfl (cell_one_at _ _ _ _ (by simp)) (fun x hx => by simp at hx; subst hx; rfl) (by unfold maxLen; omega) (by omega) (by have := hC.out.only.size; simp at this ⊢; omega) ?_; intro v' w5 hown' hg' hn'
                               have X : Hid (ComeRel 3 (fun p => .int .i64 (p : Int)) w.heap.size ba eo xs.length w3 (works s S1 (q.take j)).ths (q.take (j + 1)) v' w5) := by show ComeRel _ _ _ _ _ _ _ _ _ _ _; rw [htk.out]; exact hC.out.app hown' hg' hn'
                               have e2 : w5.cell? ⟨eo p, 2, none⟩ = some (.int .i64 x2) := by rw [X.out.tr.boxc hpl', hx2.out, hT0.out]; rfl
                               have e5 : w5.cell? ⟨eo p, 5, none⟩ = some (.int .i64 x5) := by rw [X.out.tr.boxc hpl', hx5.out, hT0.out]; rfl
                               have e4 : w5.cell? ⟨eo p, 4, none⟩ = some (.int .i64 T.turn) := by rw [X.out.tr.boxc hpl', hT0.out]; rfl
                               have g2 : w5.frozen? ⟨eo p, 2, none⟩ = false := X.out.tr.boxf hpl' 2
                               have g4 : w5.frozen? ⟨eo p, 4, none⟩ = false := X.out.tr.boxf hpl' 4
                               have g5 : w5.frozen? ⟨eo p, 5, none⟩ = false := X.out.tr.boxf hpl' 5
                               clear hown' hg' hn'))
                          have hw1 : Hid (work1 s (works s S1 (q.take j)) p = ⟨(works s S1 (q.take j)).ths.modify p fun t => { t with work := t.work - 1, used := 0, turn := (works s S1 (q.take j)).turn + 1 }, (works s S1 (q.take j)).turn + 1⟩) := by
                            show _ = _
                            unfold work1
                            rw [if_pos (by rw [← hT0.out, ← hx5.out]; exact hfull)]
                          go_roundw
                          case rel =>
                            have h9 := (hB1.out (j + 1) (by omega)).t1
                            have h8 : tn + 1 = (works s S1 (q.take (j + 1))).turn := by rw [hst.out, hw1.out, htn2.out]
                            refine ⟨j + 1, tn + 1, by omega, by go_num, by go_num, ⟨by omega, by rw [h8]; push_cast at h9; omega⟩, h8, ?_⟩
                            show ComeRel _ _ _ _ _ _ _ _ _ _ _
                            rw [hst.out, hw1.out]
                            refine X.out.put hpl (by decide) (Only.set (p := ⟨eo p, 4, none⟩) (Only.set (p := ⟨eo p, 5, none⟩) (Only.set (p := ⟨eo p, 5, none⟩) (Only.set (p := ⟨eo p, 2, none⟩) (Only.refl (fun x => x = eo p) w5) (.inl rfl) _) (.inl rfl) _) (.inl rfl) _) (.inl rfl) _) ?_
                            have hb := (X.out.tr.box p hpl').2
                            rw [hx2.out, htn2.out]
                            rw [← hT0.out] at hb ⊢
                            exact heap_set (heap_set (heap_set (heap_set hb 2 _) 5 _) 5 _) 4 _
                          case measure => simp [intOf]; omega
                        · go_wp2_with (first
                            | (at_builtin; refine wpList_append_own _ rfl _ _ 30 rfl w3.heap.size 3 ii (.int .i64 0) 1 8 Try.underlying30 hii hzi hsi hbi rfl (by decide) _ _ _ rfl (hown.out.alloc _) ⟨_, 0, none⟩ 1 1 [.int .i64 p] rfl rfl (cell_one_at _ _ _ _ (by simp)) (fun x hx => by simp at hx; subst hx; rfl) (by unfold maxLen; omega) (by omega) (by have := hC.out.only.size; simp at this ⊢; omega) ?_; intro v' w5 hown' hg' hn'
                               have X : Hid (ComeRel 3 (fun p => .int .i64 (p : Int)) w.heap.size ba eo xs.length w3 (works s S1 (q.take j)).ths (q.take (j + 1)) v' w5) := by show ComeRel _ _ _ _ _ _ _ _ _ _ _; rw [htk.out]; exact hC.out.app hown' hg' hn'
                               have e2 : w5.cell? ⟨eo p, 2, none⟩ = some (.int .i64 x2) := by rw [X.out.tr.boxc hpl', hx2.out, hT0.out]; rfl
                               have e5 : w5.cell? ⟨eo p, 5, none⟩ = some (.int .i64 x5) := by rw [X.out.tr.boxc hpl', hx5.out, hT0.out]; rfl
                               have e4 : w5.cell? ⟨eo p, 4, none⟩ = some (.int .i64 T.turn) := by rw [X.out.tr.boxc hpl', hT0.out]; rfl
                               have g2 : w5.frozen? ⟨eo p, 2, none⟩ = false := X.out.tr.boxf hpl' 2
                               have g4 : w5.frozen? ⟨eo p, 4, none⟩ = false := X.out.tr.boxf hpl' 4
                               have g5 : w5.frozen? ⟨eo p, 5, none⟩ = false := X.out.tr.boxf hpl' 5
                               clear hown' hg' hn'))
                          have hw1 : Hid (work1 s (works s S1 (q.take j)) p = ⟨(works s S1 (q.take j)).ths.modify p fun t => { t with work := t.work - 1, used := t.used + 1 }, (works s S1 (q.take j)).turn⟩) := by
                            show _ = _
                            unfold work1
                            rw [if_neg (by rw [← hT0.out, ← hx5.out]; exact hfull)]
                          go_roundw
                          case rel =>
                            have h8 : tn = (works s S1 (q.take (j + 1))).turn := by rw [hst.out, hw1.out, htn2.out]
                            refine ⟨j + 1, tn, by omega, by go_num, rfl, ⟨v0, v1⟩, h8, ?_⟩
                            show ComeRel _ _ _ _ _ _ _ _ _ _ _
                            rw [hst.out, hw1.out]
                            refine X.out.put hpl (by decide) (Only.set (p := ⟨eo p, 5, none⟩) (Only.set (p := ⟨eo p, 2, none⟩) (Only.refl (fun x => x = eo p) w5) (.inl rfl) _) (.inl rfl) _) ?_
                            have hb := (X.out.tr.box p hpl').2
                            rw [hx2.out, hx5.out]
                            rw [← hT0.out] at hb ⊢
                            exact heap_set (heap_set hb 2 _) 5 _
                          case measure => simp [intOf]; omega
                      · obtain rfl : j = nr := by omega
                        obtain ⟨r0, hr0⟩ : ∃ r0, r0 = q.take j := ⟨_, rfl⟩
                        have hr0l : r0.length = j := by rw [hr0, List.length_take]; omega
                        rw [← hr0] at hnext hrows hC
                        obtain ⟨gi, icap, rfl, i1, i2, i3, ⟨ics, i4⟩, i5⟩ := own_cells hC.out.own (by omega)
                        obtain ⟨zs, hzs⟩ : ∃ zs : List Int, zs = r0.map fun p : Nat => (p : Int) := ⟨_, rfl⟩
                        have hzl : zs.length = r0.length := by rw [hzs, List.length_map]
                        have hsi := Try.slices_Sort_int gi 0 icap zs wr (fun i hi => by
                          have hi' : i < zs.length := by simpa using hi
                          have h1 := i5 i (.int .i64 (zs[i])) (by rw [List.getElem?_map, List.getElem?_eq_getElem (by omega)]; simp [hzs])
                          rw [Nat.zero_add]
                          refine ⟨?_, h1.2⟩
                          rw [h1.1, getElem!_pos _ i hi]; simp) (Array.getElem?_eq_some_iff.1 i4).1 (by omega)
                        rw [hzl] at hsi
                        obtain ⟨srt, hsrt⟩ : ∃ srt, srt = r0.mergeSort fun a b => decide (a ≤ b) := ⟨_, rfl⟩
                        have hsm : (zs.mergeSort fun x y => decide (x ≤ y)) = srt.map fun p : Nat => (p : Int) := by rw [hzs, hsrt, sort_map]
                        rw [hsm] at hsi
                        have hsl : srt.length = r0.length := by rw [hsrt]; exact List.length_mergeSort _
                        have hPost : ∀ w6, (∃ n os, w6 = grow (putRow (Value.int .i64) (Sort.ahead wr n) gi 0 (srt.map fun p : Nat => (p : Int)).toArray) os) → Only (SB eo xs.length) w2 w6 ∧ TR w.heap.size ba eo (works s S1 r0).ths w6 ∧ w6.ownsRow w.heap.size 3 1 (.slice (some ⟨gi, 0, none⟩) srt.length icap) srt.length (intsV srt) := by
                          rintro w6 ⟨n', os, rfl⟩
                          have ho := sortWorld_only (Value.int .i64) wr gi 0 n' (srt.map fun p : Nat => (p : Int)).toArray os
                          have h3s := hO3.out.size
                          have hnq : ∀ p, p < xs.length → eo p ≠ gi := fun p hp => by have := hC.out.bt.2 p hp; omega
                          refine ⟨(hO3.out.step hC.out.only (fun x hx _ => hx)).step ho (fun x hx hx' => by omega), hC.out.tr.only ho (by have := hC.out.bt.1; omega) (fun p hp => hnq p (by rw [← hC.out.len]; exact hp)), ?_⟩
                          have h7 := own_sorted (m := n') (os := os) hC.out.own (ys := srt.map fun p : Nat => (p : Int)) (by rw [List.length_map, hsl])
                          rw [List.map_map] at h7
                          rw [hsl]
                          have hw0 := hbw.out.size
                          exact owns_up h7 (by omega)
                        rw [← hsrt] at hrows
                        rw [← hsl] at hsi ⊢
                        replace hPost := Lib.hid hPost
                        replace hsm := Lib.hid hsm
                        replace hsl := Lib.hid hsl
                        replace hzs := Lib.hid hzs
                        replace hsrt := Lib.hid hsrt
                        replace hr0 := Lib.hid hr0
                        replace i5 := Lib.hid i5
                        clear hzl
                        go_wp2_with (first
                          | (refine hsi.mono ?_; rintro e w6 ⟨rfl, hw6⟩; replace hw6 := Lib.hid (hPost.out w6 hw6)
                             have hown4 := Lib.hid (tick_own htr.out hlS.out hw6.out.1 (by decide) hvs.out.1); clear hsi)
                          | (at_builtin; refine wpList_append_own _ rfl _ _ 26 rfl w.heap.size 30 ir (.slice none 0 0) 1 24 Try.underlying26 hir hzr hsr hbr rfl (by decide) _ _ _ rfl (hown4.out.alloc _) ⟨_, 0, none⟩ 1 1 [.slice (some ⟨gi, 0, none⟩) srt.length icap] rfl rfl (cell_one_at _ _ _ _ (by simp)) (fun x hx => by simp at hx; subst hx; rfl) (by rw [hrl.out]; unfold maxLen; omega) (by rw [hrl.out]; omega) (by have h1 := hbw.out.size; have h2 := hw6.out.1.size; simp at h1 h2 ⊢; omega) ?_; intro v' w7 hown' hg' hn'
                             have X : Hid (TickRel ba eo w (after cn s (k + 1) 0 (startS xs)) (runs cn s (k + 1) 0 (startS xs)) v' w7) := by
                               show TickRel _ _ _ _ _ _ _
                               rw [hnext.out, hrows.out]
                               exact TickRel.next (iv := .slice (some ⟨gi, 0, none⟩) srt.length icap) (r := srt) htr.out hlS.out hvs.out hbw.out hw6.out.1 hw6.out.2.1 hw6.out.2.2 hown' hg'
                             clear hown' hg' hn'))
                        go_roundw
                        case rel => exact ⟨k + 1, tn, by omega, by go_num, rfl, by show _ = _; rw [hnext.out, htn2.out, hr0.out], X⟩
                        case measure => simp [intOf]; omega
            · obtain rfl : k = n := by omega
              obtain ⟨vs, hvs⟩ := hR.out.own
              have hend : Hid (RunPost w (runs cn s k 0 (startS xs), 0) (.returned (.tuple #[u15, .int .i64 0])) wr) := ⟨_, rfl, ⟨vs, by simpa [runs_length] using hvs.1, hvs.2⟩, hR.out.below⟩
              clear hvs
              go_wp2
              go_ret2
              exact hend.out
end Go.Proofs
