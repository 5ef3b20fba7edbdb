import Derived.WalkKit
import Derived.WalkSpells
import Derived.WalkLawsBesides
import Derived.Lib.TrailingZeros
import Derived.Below
import Derived.Lib.ItoaNum
set_option linter.unusedVariables false
namespace Go.Ab
open Go.RowKit
inductive PV where
 | raw (v : Value)
 | ro (size n : Nat) (cell : Nat → Nat → PV)
inductive AV where
 | pv (p : PV)
 | ptr (id off : Nat)
 | pix (id off : Nat)
 | row (id size off len : Nat)
 | roat (n : Nat) (cell : Nat → PV)
 | agg (xs : List AV)
 | tup (xs : List AV)
 | fn (f : FuncId) (caps : List AV)
 | map (id : Nat)
 | gd (g : Bool) (x : AV)
 | junk
abbrev AV.raw (v : Value) : AV := .pv (.raw v)
abbrev AV.i (n : Int) : AV := .pv (.raw (.int .i64 n))
abbrev AV.bool (b : Bool) : AV := .pv (.raw (.bool b))
inductive Blk where
 | box (cells : List AV)
 | row (e size : Nat) (cells : List AV)
 | map (ks : List Value) (xs : List AV)
abbrev Heap := Nat → Option Blk
structure Cp where
 cap : Nat
 base : Nat
abbrev Emb := Nat → Option (Option (Nat × Cp))
def RelP (R : Nat → Prop) (w : World) : PV → Value → Prop
 | .raw v, u => u = v
 | .ro s n cell, u => ∃ a cap, u = .slice a n cap ∧ n ≤ cap ∧ n ≤ 140737488355328 ∧
   (0 < n → ∃ g o, a = some ⟨g, o, none⟩ ∧ R g ∧ ∀ i, i < n → ∀ j, j < s → ∃ x, w.cell? ⟨g, o + i * s + j, none⟩ = some x ∧ x.oneCell' = true ∧ RelP R w (cell i j) x)
mutual
def RelA (ι : Emb) (R : Nat → Prop) (w : World) : AV → Value → Prop
 | .pv p, u => RelP R w p u
 | .ptr id off, u => ∃ g c, ι id = some (some (g, c)) ∧ u = .pointer (some ⟨g, off + c.base, none⟩)
 | .pix id off, u => ∃ g c, ι id = some (some (g, c)) ∧ u = .pointer (some ⟨g, off + c.base, none⟩)
 | .row id s off len, u => (ι id = some none ∧ off = 0 ∧ len = 0 ∧ u = .slice none 0 0) ∨
   (∃ g c a, ι id = some (some (g, c)) ∧ u = .slice a len (c.cap - off) ∧ off + len ≤ c.cap ∧ (off < c.cap → a = some ⟨g, off * s + c.base, none⟩))
 | .roat n cell, u => ∃ g o, u = .pointer (some ⟨g, o, none⟩) ∧ R g ∧ ∀ j, j < n → ∃ x, w.cell? ⟨g, o + j, none⟩ = some x ∧ x.oneCell' = true ∧ RelP R w (cell j) x
 | .agg xs, u => ∃ us : Array Value, u = .agg us ∧ RelL ι R w xs us.toList
 | .tup xs, u => ∃ us : Array Value, u = .tuple us ∧ RelL ι R w xs us.toList
 | .fn f caps, u => ∃ us : Array Value, u = .func (.func f) #[] us ∧ RelL ι R w caps us.toList
 | .map id, u => ∃ g c, ι id = some (some (g, c)) ∧ u = .map (some g)
 | .gd g x, u => (g = true → RelA ι R w x u) ∧ (g = false → u = undef)
 | .junk, _ => True
def RelL (ι : Emb) (R : Nat → Prop) (w : World) : List AV → List Value → Prop
 | [], [] => True
 | x :: xs, u :: us => RelA ι R w x u ∧ RelL ι R w xs us
 | _, _ => False
end
theorem RelP.mono {R R' : Nat → Prop} {w w' : World} (hR : ∀ k, R k → R' k) (hw : ∀ k, R k → w'.heap[k]? = w.heap[k]?) :
  ∀ (p : PV) (u : Value), RelP R w p u → RelP R' w' p u
 | .raw v, u, h => h
 | .ro s n cell, u, h => by
  obtain ⟨a, cap, rfl, hc, hn, h⟩ := h
  refine ⟨a, cap, rfl, hc, hn, fun h0 => ?_⟩
  obtain ⟨g, o, rfl, hg, h⟩ := h h0
  refine ⟨g, o, rfl, hR _ hg, fun i hi j hj => ?_⟩
  obtain ⟨x, hx, h1, hr⟩ := h i hi j hj
  exact ⟨x, (World.cell?_of_block (w := w) (w' := w') (a := ⟨g, _, none⟩) (hw g hg)).trans hx, h1, RelP.mono hR hw _ _ hr⟩
mutual
theorem RelA.mono {ι ι' : Emb} {R R' : Nat → Prop} {w w' : World} (hι : ∀ id x, ι id = some x → ι' id = some x) (hR : ∀ k, R k → R' k) (hw : ∀ k, R k → w'.heap[k]? = w.heap[k]?) :
  ∀ (x : AV) (u : Value), RelA ι R w x u → RelA ι' R' w' x u
 | .pv p, u, h => by simp only [RelA] at h ⊢; exact RelP.mono hR hw p u h
 | .ptr id off, u, h => by
  simp only [RelA] at h ⊢
  obtain ⟨g, c, hi, rfl⟩ := h
  exact ⟨g, c, hι _ _ hi, rfl⟩
 | .pix id off, u, h => by
  simp only [RelA] at h ⊢
  obtain ⟨g, c, hi, rfl⟩ := h
  exact ⟨g, c, hι _ _ hi, rfl⟩
 | .row id s off len, u, h => by
  simp only [RelA] at h ⊢
  rcases h with ⟨hi, h⟩ | ⟨g, c, a, hi, h⟩
  ·exact .inl ⟨hι _ _ hi, h⟩
  ·exact .inr ⟨g, c, a, hι _ _ hi, h⟩
 | .roat n cell, u, h => by
  simp only [RelA] at h ⊢
  obtain ⟨g, o, rfl, hg, h⟩ := h
  refine ⟨g, o, rfl, hR _ hg, fun j hj => ?_⟩
  obtain ⟨x, hx, h1, hr⟩ := h j hj
  exact ⟨x, (World.cell?_of_block (w := w) (w' := w') (a := ⟨g, _, none⟩) (hw g hg)).trans hx, h1, RelP.mono hR hw _ _ hr⟩
 | .agg xs, u, h => by
  simp only [RelA] at h ⊢
  obtain ⟨us, rfl, h⟩ := h
  exact ⟨us, rfl, RelL.mono hι hR hw xs _ h⟩
 | .tup xs, u, h => by
  simp only [RelA] at h ⊢
  obtain ⟨us, rfl, h⟩ := h
  exact ⟨us, rfl, RelL.mono hι hR hw xs _ h⟩
 | .fn f xs, u, h => by
  simp only [RelA] at h ⊢
  obtain ⟨us, rfl, h⟩ := h
  exact ⟨us, rfl, RelL.mono hι hR hw xs _ h⟩
 | .map id, u, h => by
  simp only [RelA] at h ⊢
  obtain ⟨g, c, hi, rfl⟩ := h
  exact ⟨g, c, hι _ _ hi, rfl⟩
 | .gd g x, u, h => by
  simp only [RelA] at h ⊢
  exact ⟨fun hg => RelA.mono hι hR hw x u (h.1 hg), h.2⟩
 | .junk, u, h => by simp only [RelA]
theorem RelL.mono {ι ι' : Emb} {R R' : Nat → Prop} {w w' : World} (hι : ∀ id x, ι id = some x → ι' id = some x) (hR : ∀ k, R k → R' k) (hw : ∀ k, R k → w'.heap[k]? = w.heap[k]?) :
  ∀ (xs : List AV) (us : List Value), RelL ι R w xs us → RelL ι' R' w' xs us
 | [], [], h => h
 | x :: xs, u :: us, h => by
  simp only [RelL] at h ⊢
  exact ⟨RelA.mono hι hR hw x u h.1, RelL.mono hι hR hw xs us h.2⟩
 | [], _ :: _, h => h
 | _ :: _, [], h => h
end
theorem RelL.length {ι : Emb} {R : Nat → Prop} {w : World} : ∀ {xs : List AV} {us : List Value}, RelL ι R w xs us → xs.length = us.length
 | [], [], _ => rfl
 | x :: xs, u :: us, h => by simp only [RelL] at h; simp [RelL.length h.2]
 | [], _ :: _, h => by simp [RelL] at h
 | _ :: _, [], h => by simp [RelL] at h
theorem RelL.get {ι : Emb} {R : Nat → Prop} {w : World} : ∀ {xs : List AV} {us : List Value}, RelL ι R w xs us → ∀ (i : Nat) (x : AV), xs[i]? = some x → ∃ u, us[i]? = some u ∧ RelA ι R w x u
 | [], [], _, i, x, hx => by simp at hx
 | y :: xs, u :: us, h, 0, x, hx => by simp only [RelL] at h; simp at hx; subst hx; exact ⟨u, by simp, h.1⟩
 | y :: xs, u :: us, h, i + 1, x, hx => by simp only [RelL] at h; simp at hx; simpa using RelL.get h.2 i x hx
 | [], _ :: _, h, _, _, _ => by simp [RelL] at h
 | _ :: _, [], h, _, _, _ => by simp [RelL] at h
theorem RelL.of_get {ι : Emb} {R : Nat → Prop} {w : World} : ∀ {xs : List AV} {us : List Value}, xs.length = us.length → (∀ (i : Nat) (x : AV) (u : Value), xs[i]? = some x → us[i]? = some u → RelA ι R w x u) → RelL ι R w xs us
 | [], [], _, _ => by simp [RelL]
 | x :: xs, u :: us, hl, h => by
  simp only [RelL]
  exact ⟨h 0 x u (by simp) (by simp), RelL.of_get (by simpa using hl) fun i y v hy hv => h (i + 1) y v (by simpa using hy) (by simpa using hv)⟩
 | [], _ :: _, hl, _ => by simp at hl
 | _ :: _, [], hl, _ => by simp at hl
theorem RelL.append {ι : Emb} {R : Nat → Prop} {w : World} : ∀ {xs ys : List AV} {us vs : List Value}, RelL ι R w xs us → RelL ι R w ys vs → RelL ι R w (xs ++ ys) (us ++ vs)
 | [], ys, [], vs, _, h => h
 | x :: xs, ys, u :: us, vs, h, h' => by
  simp only [RelL, List.cons_append] at h ⊢
  exact ⟨h.1, RelL.append h.2 h'⟩
 | [], _, _ :: _, _, h, _ => by simp [RelL] at h
 | _ :: _, _, [], _, h, _ => by simp [RelL] at h
theorem RelL.take {ι : Emb} {R : Nat → Prop} {w : World} : ∀ {xs : List AV} {us : List Value} (n : Nat), RelL ι R w xs us → RelL ι R w (xs.take n) (us.take n)
 | [], [], n, _ => by simp [RelL]
 | x :: xs, u :: us, 0, h => by simp [RelL]
 | x :: xs, u :: us, n + 1, h => by
  simp only [RelL, List.take_succ_cons] at h ⊢
  exact ⟨h.1, RelL.take n h.2⟩
 | [], _ :: _, _, h => by simp [RelL] at h
 | _ :: _, [], _, h => by simp [RelL] at h
theorem RelL.drop {ι : Emb} {R : Nat → Prop} {w : World} : ∀ {xs : List AV} {us : List Value} (n : Nat), RelL ι R w xs us → RelL ι R w (xs.drop n) (us.drop n)
 | [], [], n, _ => by simp [RelL]
 | x :: xs, u :: us, 0, h => by simpa using h
 | x :: xs, u :: us, n + 1, h => by
  simp only [RelL, List.drop_succ_cons] at h ⊢
  exact RelL.drop n h.2
 | [], _ :: _, _, h => by simp [RelL] at h
 | _ :: _, [], _, h => by simp [RelL] at h
theorem RelL.set {ι : Emb} {R : Nat → Prop} {w : World} : ∀ {xs : List AV} {us : List Value} (n : Nat) {x : AV} {u : Value}, RelL ι R w xs us → RelA ι R w x u → RelL ι R w (xs.set n x) (us.set n u)
 | [], [], n, _, _, _, _ => by simp [RelL]
 | y :: xs, v :: us, 0, x, u, h, h' => by
  simp only [RelL, List.set_cons_zero] at h ⊢
  exact ⟨h', h.2⟩
 | y :: xs, v :: us, n + 1, x, u, h, h' => by
  simp only [RelL, List.set_cons_succ] at h ⊢
  exact ⟨h.1, RelL.set n h.2 h'⟩
 | [], _ :: _, _, _, _, h, _ => by simp [RelL] at h
 | _ :: _, [], _, _, _, h, _ => by simp [RelL] at h
def Ones (us : List Value) : Prop := ∀ u ∈ us, u.oneCell' = true
def BornOk (es : Array MapEntry) (ck : Nat) : Prop := (∀ e ∈ es.toList, e.born < ck) ∧ (es.toList.map (·.born)).Nodup
def RelB (ι : Emb) (R : Nat → Prop) (w : World) (id : Nat) : Blk → Prop
 | .box cells => ∃ g c cur e, ι id = some (some (g, ⟨c, 0⟩)) ∧ w.heap[g]? = some (.cells cur e (0, 0)) ∧ RelL ι R w cells cur.toList ∧ Ones cur.toList
 | .row e s cells => ∃ n, cells.length = n * s ∧ 0 < s ∧ n ≤ 140737488355328 ∧ ((ι id = some none ∧ n = 0) ∨
   ∃ g cap base cur, ι id = some (some (g, ⟨cap, base⟩)) ∧ w.heap[g]? = some (.cells cur e (0, 0)) ∧ cur.size = base + cap * s ∧ n ≤ cap ∧ cap ≤ maxLen ∧ RelL ι R w cells ((cur.toList.drop base).take (n * s)) ∧ Ones ((cur.toList.drop base).take (n * s)))
 | .map ks xs => ∃ g c es clock, ι id = some (some (g, c)) ∧ w.heap[g]? = some (.map es clock) ∧ es.toList.map (·.key) = ks ∧ RelL ι R w xs (es.toList.map (·.val)) ∧ Ones (es.toList.map (·.val)) ∧ BornOk es clock
structure AS where
 n : Nat
 slots : Nat → AV
 heap : Heap
 seen : Nat → Bool
 fz : List Nat := []
 pins : Nat := 0
structure Env where
 A : Nat → Prop
 B : Nat → Prop
 κ : Emb
 tabs : List (Nat × (List Value → Prop))
def GlobAt (x : Nat × (List Value → Prop)) (w : World) : Prop := ∃ cs t fr, w.heap[x.1]? = some (.cells cs t fr) ∧ x.2 cs.toList
theorem GlobAt.lt {x : Nat × (List Value → Prop)} {w : World} (h : GlobAt x w) : x.1 < w.heap.size := by
 obtain ⟨cs, t, fr, h, _⟩ := h
 rcases Nat.lt_or_ge x.1 w.heap.size with h' | h'
 ·exact h'
 ·rw [Array.getElem?_eq_none h'] at h; cases h
theorem GlobAt.of_block {x : Nat × (List Value → Prop)} {w w' : World} (h : GlobAt x w) (hb : w'.heap[x.1]? = w.heap[x.1]?) : GlobAt x w' := by
 obtain ⟨cs, t, fr, h, hq⟩ := h
 exact ⟨cs, t, fr, hb.trans h, hq⟩
theorem GlobAt.cell {x : Nat × (List Value → Prop)} {w : World} (h : GlobAt x w) : ∃ cs : List Value, x.2 cs ∧ ∀ j, w.cell? ⟨x.1, j, none⟩ = cs[j]? := by
 obtain ⟨cs, t, fr, h, hq⟩ := h
 exact ⟨cs.toList, hq, fun j => by simp [World.cell?, h]⟩
def tabAt (P : Program) (n : String) (Q : List Value → Prop) : List (Nat × (List Value → Prop)) :=
 match P.globalNamed n with
 | some g => [(g, Q)]
 | none => []
def bruijnIs (cs : List Value) : Prop := ∀ j, j < Lib.deBruijn64tab.length → cs[j]? = some (.int .u8 (Lib.deBruijn64tab.getD j 0))
def powIs (cs : List Value) : Prop := cs = Lib.pow10Tab.map fun z => Value.int .u64 z
def errIs (cs : List Value) : Prop := ∃ te pe, cs = [.iface te pe]
def tabsOf (P : Program) : List (Nat × (List Value → Prop)) :=
 tabAt P "math/bits.deBruijn64tab" bruijnIs ++ tabAt P "internal/strconv.uint64pow10" powIs ++ tabAt P "strconv.ErrRange" errIs ++ tabAt P "strconv.ErrSyntax" errIs
def GOk (P : Program) (w : World) : Prop := ∀ x ∈ tabsOf P, GlobAt x w
class OfP (A : Env) (P : Program) : Prop where
 tabs : A.tabs = tabsOf P
instance {a b : Nat → Prop} {κ : Emb} {P : Program} : OfP ⟨a, b, κ, tabsOf P⟩ P := ⟨rfl⟩
structure BelowB (B : Nat → Prop) (n : Nat) (w w' : World) : Prop where
 os : w'.os = w.os
 tape : w'.tape = w.tape
 output : w'.output = w.output
 size : w.heap.size ≤ w'.heap.size
 block : ∀ k, k < n → ¬ B k → w'.heap[k]? = w.heap[k]?
theorem BelowB.refl (B : Nat → Prop) (n : Nat) (w : World) : BelowB B n w w := ⟨rfl, rfl, rfl, Nat.le_refl _, fun _ _ _ => rfl⟩
theorem BelowB.trans {B : Nat → Prop} {n : Nat} {a b c : World} (h : BelowB B n a b) (k : BelowB B n b c) : BelowB B n a c :=
 ⟨k.os.trans h.os, k.tape.trans h.tape, k.output.trans h.output, Nat.le_trans h.size k.size, fun i hi hb => (k.block i hi hb).trans (h.block i hi hb)⟩
theorem BelowB.of {B : Nat → Prop} {n : Nat} {w w' : World} (h : Below n w w') : BelowB B n w w' := ⟨h.os, h.tape, h.output, h.size, fun k hk _ => h.block k hk⟩
theorem BelowB.to {B : Nat → Prop} {n : Nat} {w w' : World} (h : BelowB B n w w') (hB : ∀ k, k < n → ¬ B k) : Below n w w' := ⟨h.os, h.tape, h.output, h.size, fun k hk => h.block k hk (hB k hk)⟩
theorem BelowB.mono {B B' : Nat → Prop} {n n' : Nat} {w w' : World} (h : BelowB B n w w') (hn : n' ≤ n) (hB : ∀ k, k < n' → B k → B' k) : BelowB B' n' w w' :=
 ⟨h.os, h.tape, h.output, h.size, fun k hk hb => h.block k (Nat.lt_of_lt_of_le hk hn) (fun hB' => hb (hB k hk hB'))⟩
theorem BelowB.drew {B : Nat → Prop} {n : Nat} {a w : World} (h : BelowB B n a w) : BelowB B n a w.drew := ⟨h.os, h.tape, h.output, h.size, h.block⟩
structure St.Of (A : Env) (W w : World) (a : Act) (σ : AS) (ι : Emb) (R : Nat → Prop) : Prop where
 below : BelowB A.B W.heap.size W w
 size : a.tmps.size = σ.n
 defers : a.defers = []
 seen : ∀ id x, ι id = some x → σ.seen id = true
 slots : ∀ t, RelA ι R w (σ.slots t) (a.tmps.getD t undef)
 heap : ∀ id b, σ.heap id = some b → RelB ι R w id b
 inj : ∀ id id' b b' g c c', σ.heap id = some b → σ.heap id' = some b' → ι id = some (some (g, c)) → ι id' = some (some (g, c')) → id = id'
 new : ∀ id b g c, σ.heap id = some b → ι id = some (some (g, c)) → W.heap.size ≤ g ∨ A.B g
 lt : ∀ k, R k → k < w.heap.size
 out : ∀ id b g c, σ.heap id = some b → ι id = some (some (g, c)) → ¬ R g
 arg : ∀ k, R k → k < W.heap.size → A.A k ∨ A.B k
 pin : ∀ i x, i < σ.pins → A.κ i = some x → ι i = some x
 glob : ∀ x ∈ A.tabs, GlobAt x W ∧ ¬ A.B x.1
theorem St.Of.gok {A : Env} {P : Program} [hP : OfP A P] {W w : World} {a : Act} {σ : AS} {ι : Emb} {R : Nat → Prop} (h : St.Of A W w a σ ι R) : GOk P w := by
 intro x hx
 obtain ⟨h1, h3⟩ := h.glob x (by rw [hP.tabs]; exact hx)
 exact h1.of_block (h.below.block x.1 h1.lt h3)
theorem GOk.below {P : Program} {n : Nat} {w w' : World} (h : GOk P w) (hb : Below n w w') (hn : w.heap.size ≤ n) : GOk P w' := by
 intro x hx
 have h1 := (h x hx).lt
 exact (h x hx).of_block (hb.block x.1 (by omega))
def St (A : Env) (W w : World) (a : Act) (σ : AS) : Prop := ∃ ι R, St.Of A W w a σ ι R
end Go.Ab

