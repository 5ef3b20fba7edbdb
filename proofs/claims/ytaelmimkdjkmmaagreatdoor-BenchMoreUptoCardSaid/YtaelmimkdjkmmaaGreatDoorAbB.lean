import Derived.WalkKit
import Derived.WalkSpells
import Derived.WalkLawsBesides
import Derived.Lib.TrailingZeros
import Derived.Below
import Derived.Lib.ItoaNum
set_option linter.unusedVariables false
namespace Go.Ab
open Go.RowKit
inductive PV where
 | raw (v : Value)
 | ro (size n : Nat) (cell : Nat → Nat → PV)
inductive AV where
 | pv (p : PV)
 | ptr (id off : Nat)
 | pix (id off : Nat)
 | row (id size off len : Nat)
 | roat (n : Nat) (cell : Nat → PV)
 | agg (xs : List AV)
 | tup (xs : List AV)
 | fn (f : FuncId) (caps : List AV)
 | map (id : Nat)
 | gd (g : Bool) (x : AV)
 | junk
abbrev AV.raw (v : Value) : AV := .pv (.raw v)
abbrev AV.i (n : Int) : AV := .pv (.raw (.int .i64 n))
abbrev AV.bool (b : Bool) : AV := .pv (.raw (.bool b))
inductive Blk where
 | box (cells : List AV)
 | row (e size : Nat) (cells : List AV)
 | map (ks : List Value) (xs : List AV)
abbrev Heap := Nat → Option Blk
structure Cp where
 cap : Nat
 base : Nat
abbrev Emb := Nat → Option (Option (Nat × Cp))
def RelP (R : Nat → Prop) (w : World) : PV → Value → Prop
 | .raw v, u => u = v
 | .ro s n cell, u => ∃ a cap, u = .slice a n cap ∧ n ≤ cap ∧ n ≤ 140737488355328 ∧
   (0 < n → ∃ g o, a = some ⟨g, o, none⟩ ∧ R g ∧ ∀ i, i < n → ∀ j, j < s → ∃ x, w.cell? ⟨g, o + i * s + j, none⟩ = some x ∧ x.oneCell' = true ∧ RelP R w (cell i j) x)
mutual
def RelA (ι : Emb) (R : Nat → Prop) (w : World) : AV → Value → Prop
 | .pv p, u => RelP R w p u
 | .ptr id off, u => ∃ g c, ι id = some (some (g, c)) ∧ u = .pointer (some ⟨g, off + c.base, none⟩)
 | .pix id off, u => ∃ g c, ι id = some (some (g, c)) ∧ u = .pointer (some ⟨g, off + c.base, none⟩)
 | .row id s off len, u => (ι id = some none ∧ off = 0 ∧ len = 0 ∧ u = .slice none 0 0) ∨
   (∃ g c a, ι id = some (some (g, c)) ∧ u = .slice a len (c.cap - off) ∧ off + len ≤ c.cap ∧ (off < c.cap → a = some ⟨g, off * s + c.base, none⟩))
 | .roat n cell, u => ∃ g o, u = .pointer (some ⟨g, o, none⟩) ∧ R g ∧ ∀ j, j < n → ∃ x, w.cell? ⟨g, o + j, none⟩ = some x ∧ x.oneCell' = true ∧ RelP R w (cell j) x
 | .agg xs, u => ∃ us : Array Value, u = .agg us ∧ RelL ι R w xs us.toList
 | .tup xs, u => ∃ us : Array Value, u = .tuple us ∧ RelL ι R w xs us.toList
 | .fn f caps, u => ∃ us : Array Value, u = .func (.func f) #[] us ∧ RelL ι R w caps us.toList
 | .map id, u => ∃ g c, ι id = some (some (g, c)) ∧ u = .map (some g)
 | .gd g x, u => (g = true → RelA ι R w x u) ∧ (g = false → u = undef)
 | .junk, _ => True
def RelL (ι : Emb) (R : Nat → Prop) (w : World) : List AV → List Value → Prop
 | [], [] => True
 | x :: xs, u :: us => RelA ι R w x u ∧ RelL ι R w xs us
 | _, _ => False
end
theorem RelP.mono {R R' : Nat → Prop} {w w' : World} (hR : ∀ k, R k → R' k) (hw : ∀ k, R k → w'.heap[k]? = w.heap[k]?) :
  ∀ (p : PV) (u : Value), RelP R w p u → RelP R' w' p u
 | .raw v, u, h => h
 | .ro s n cell, u, h => by
  obtain ⟨a, cap, rfl, hc, hn, h⟩ := h
  refine ⟨a, cap, rfl, hc, hn, fun h0 => ?_⟩
  obtain ⟨g, o, rfl, hg, h⟩ := h h0
  refine ⟨g, o, rfl, hR _ hg, fun i hi j hj => ?_⟩
  obtain ⟨x, hx, h1, hr⟩ := h i hi j hj
  exact ⟨x, (World.cell?_of_block (w := w) (w' := w') (a := ⟨g, _, none⟩) (hw g hg)).trans hx, h1, RelP.mono hR hw _ _ hr⟩
mutual
theorem RelA.mono {ι ι' : Emb} {R R' : Nat → Prop} {w w' : World} (hι : ∀ id x, ι id = some x → ι' id = some x) (hR : ∀ k, R k → R' k) (hw : ∀ k, R k → w'.heap[k]? = w.heap[k]?) :
  ∀ (x : AV) (u : Value), RelA ι R w x u → RelA ι' R' w' x u
 | .pv p, u, h => by simp only [RelA] at h ⊢; exact RelP.mono hR hw p u h
 | .ptr id off, u, h => by
  simp only [RelA] at h ⊢
  obtain ⟨g, c, hi, rfl⟩ := h
  exact ⟨g, c, hι _ _ hi, rfl⟩
 | .pix id off, u, h => by
  simp only [RelA] at h ⊢
  obtain ⟨g, c, hi, rfl⟩ := h
  exact ⟨g, c, hι _ _ hi, rfl⟩
 | .row id s off len, u, h => by
  simp only [RelA] at h ⊢
  rcases h with ⟨hi, h⟩ | ⟨g, c, a, hi, h⟩
  ·exact .inl ⟨hι _ _ hi, h⟩
  ·exact .inr ⟨g, c, a, hι _ _ hi, h⟩
 | .roat n cell, u, h => by
  simp only [RelA] at h ⊢
  obtain ⟨g, o, rfl, hg, h⟩ := h
  refine ⟨g, o, rfl, hR _ hg, fun j hj => ?_⟩
  obtain ⟨x, hx, h1, hr⟩ := h j hj
  exact ⟨x, (World.cell?_of_block (w := w) (w' := w') (a := ⟨g, _, none⟩) (hw g hg)).trans hx, h1, RelP.mono hR hw _ _ hr⟩
 | .agg xs, u, h => by
  simp only [RelA] at h ⊢
  obtain ⟨us, rfl, h⟩ := h
  exact ⟨us, rfl, RelL.mono hι hR hw xs _ h⟩
 | .tup xs, u, h => by
  simp only [RelA] at h ⊢
  obtain ⟨us, rfl, h⟩ := h
  exact ⟨us, rfl, RelL.mono hι hR hw xs _ h⟩
 | .fn f xs, u, h => by
  simp only [RelA] at h ⊢
  obtain ⟨us, rfl, h⟩ := h
  exact ⟨us, rfl, RelL.mono hι hR hw xs _ h⟩
 | .map id, u, h => by
  simp only [RelA] at h ⊢
  obtain ⟨g, c, hi, rfl⟩ := h
  exact ⟨g, c, hι _ _ hi, rfl⟩
 | .gd g x, u, h => by
  simp only [RelA] at h ⊢
  exact ⟨fun hg => RelA.mono hι hR hw x u (h.1 hg), h.2⟩
 | .junk, u, h => by simp only [RelA]
theorem RelL.mono {ι ι' : Emb} {R R' : Nat → Prop} {w w' : World} (hι : ∀ id x, ι id = some x → ι' id = some x) (hR : ∀ k, R k → R' k) (hw : ∀ k, R k → w'.heap[k]? = w.heap[k]?) :
  ∀ (xs : List AV) (us : List Value), RelL ι R w xs us → RelL ι' R' w' xs us
 | [], [], h => h
 | x :: xs, u :: us, h => by
  simp only [RelL] at h ⊢
  exact ⟨RelA.mono hι hR hw x u h.1, RelL.mono hι hR hw xs us h.2⟩
 | [], _ :: _, h => h
 | _ :: _, [], h => h
end
theorem RelL.length {ι : Emb} {R : Nat → Prop} {w : World} : ∀ {xs : List AV} {us : List Value}, RelL ι R w xs us → xs.length = us.length
 | [], [], _ => rfl
 | x :: xs, u :: us, h => by simp only [RelL] at h; simp [RelL.length h.2]
 | [], _ :: _, h => by simp [RelL] at h
 | _ :: _, [], h => by simp [RelL] at h
theorem RelL.get {ι : Emb} {R : Nat → Prop} {w : World} : ∀ {xs : List AV} {us : List Value}, RelL ι R w xs us → ∀ (i : Nat) (x : AV), xs[i]? = some x → ∃ u, us[i]? = some u ∧ RelA ι R w x u
 | [], [], _, i, x, hx => by simp at hx
 | y :: xs, u :: us, h, 0, x, hx => by simp only [RelL] at h; simp at hx; subst hx; exact ⟨u, by simp, h.1⟩
 | y :: xs, u :: us, h, i + 1, x, hx => by simp only [RelL] at h; simp at hx; simpa using RelL.get h.2 i x hx
 | [], _ :: _, h, _, _, _ => by simp [RelL] at h
 | _ :: _, [], h, _, _, _ => by simp [RelL] at h
theorem RelL.of_get {ι : Emb} {R : Nat → Prop} {w : World} : ∀ {xs : List AV} {us : List Value}, xs.length = us.length → (∀ (i : Nat) (x : AV) (u : Value), xs[i]? = some x → us[i]? = some u → RelA ι R w x u) → RelL ι R w xs us
 | [], [], _, _ => by simp [RelL]
 | x :: xs, u :: us, hl, h => by
  simp only [RelL]
  exact ⟨h 0 x u (by simp) (by simp), RelL.of_get (by simpa using hl) fun i y v hy hv => h (i + 1) y v (by simpa using hy) (by simpa using hv)⟩
 | [], _ :: _, hl, _ => by simp at hl
 | _ :: _, [], hl, _ => by simp at hl
theorem RelL.append {ι : Emb} {R : Nat → Prop} {w : World} : ∀ {xs ys : List AV} {us vs : List Value}, RelL ι R w xs us → RelL ι R w ys vs → RelL ι R w (xs ++ ys) (us ++ vs)
 | [], ys, [], vs, _, h => h
 | x :: xs, ys, u :: us, vs, h, h' => by
  simp only [RelL, List.cons_append] at h ⊢
  exact ⟨h.1, RelL.append h.2 h'⟩
 | [], _, _ :: _, _, h, _ => by simp [RelL] at h
 | _ :: _, _, [], _, h, _ => by simp [RelL] at h
theorem RelL.take {ι : Emb} {R : Nat → Prop} {w : World} : ∀ {xs : List AV} {us : List Value} (n : Nat), RelL ι R w xs us → RelL ι R w (xs.take n) (us.take n)
 | [], [], n, _ => by simp [RelL]
 | x :: xs, u :: us, 0, h => by simp [RelL]
 | x :: xs, u :: us, n + 1, h => by
  simp only [RelL, List.take_succ_cons] at h ⊢
  exact ⟨h.1, RelL.take n h.2⟩
 | [], _ :: _, _, h => by simp [RelL] at h
 | _ :: _, [], _, h => by simp [RelL] at h
theorem RelL.drop {ι : Emb} {R : Nat → Prop} {w : World} : ∀ {xs : List AV} {us : List Value} (n : Nat), RelL ι R w xs us → RelL ι R w (xs.drop n) (us.drop n)
 | [], [], n, _ => by simp [RelL]
 | x :: xs, u :: us, 0, h => by simpa using h
 | x :: xs, u :: us, n + 1, h => by
  simp only [RelL, List.drop_succ_cons] at h ⊢
  exact RelL.drop n h.2
 | [], _ :: _, _, h => by simp [RelL] at h
 | _ :: _, [], _, h => by simp [RelL] at h
theorem RelL.set {ι : Emb} {R : Nat → Prop} {w : World} : ∀ {xs : List AV} {us : List Value} (n : Nat) {x : AV} {u : Value}, RelL ι R w xs us → RelA ι R w x u → RelL ι R w (xs.set n x) (us.set n u)
 | [], [], n, _, _, _, _ => by simp [RelL]
 | y :: xs, v :: us, 0, x, u, h, h' => by
  simp only [RelL, List.set_cons_zero] at h ⊢
  exact ⟨h', h.2⟩
 | y :: xs, v :: us, n + 1, x, u, h, h' => by
  simp only [RelL, List.set_cons_succ] at h ⊢
  exact ⟨h.1, RelL.set n h.2 h'⟩
 | [], _ :: _, _, _, _, h, _ => by simp [RelL] at h
 | _ :: _, [], _, _, _, h, _ => by simp [RelL] at h
def Ones (us : List Value) : Prop := ∀ u ∈ us, u.oneCell' = true
def BornOk (es : Array MapEntry) (ck : Nat) : Prop := (∀ e ∈ es.toList, e.born < ck) ∧ (es.toList.map (·.born)).Nodup
def RelB (ι : Emb) (R : Nat → Prop) (w : World) (id : Nat) : Blk → Prop
 | .box cells => ∃ g c cur e, ι id = some (some (g, ⟨c, 0⟩)) ∧ w.heap[g]? = some (.cells cur e (0, 0)) ∧ RelL ι R w cells cur.toList ∧ Ones cur.toList
 | .row e s cells => ∃ n, cells.length = n * s ∧ 0 < s ∧ n ≤ 140737488355328 ∧ ((ι id = some none ∧ n = 0) ∨
   ∃ g cap base cur, ι id = some (some (g, ⟨cap, base⟩)) ∧ w.heap[g]? = some (.cells cur e (0, 0)) ∧ cur.size = base + cap * s ∧ n ≤ cap ∧ cap ≤ maxLen ∧ RelL ι R w cells ((cur.toList.drop base).take (n * s)) ∧ Ones ((cur.toList.drop base).take (n * s)))
 | .map ks xs => ∃ g c es clock, ι id = some (some (g, c)) ∧ w.heap[g]? = some (.map es clock) ∧ es.toList.map (·.key) = ks ∧ RelL ι R w xs (es.toList.map (·.val)) ∧ Ones (es.toList.map (·.val)) ∧ BornOk es clock
structure AS where
 n : Nat
 slots : Nat → AV
 heap : Heap
 seen : Nat → Bool
 fz : List Nat := []
 pins : Nat := 0
structure Env where
 A : Nat → Prop
 B : Nat → Prop
 κ : Emb
 tabs : List (Nat × (List Value → Prop))
def GlobAt (x : Nat × (List Value → Prop)) (w : World) : Prop := ∃ cs t fr, w.heap[x.1]? = some (.cells cs t fr) ∧ x.2 cs.toList
theorem GlobAt.lt {x : Nat × (List Value → Prop)} {w : World} (h : GlobAt x w) : x.1 < w.heap.size := by
 obtain ⟨cs, t, fr, h, _⟩ := h
 rcases Nat.lt_or_ge x.1 w.heap.size with h' | h'
 ·exact h'
 ·rw [Array.getElem?_eq_none h'] at h; cases h
theorem GlobAt.of_block {x : Nat × (List Value → Prop)} {w w' : World} (h : GlobAt x w) (hb : w'.heap[x.1]? = w.heap[x.1]?) : GlobAt x w' := by
 obtain ⟨cs, t, fr, h, hq⟩ := h
 exact ⟨cs, t, fr, hb.trans h, hq⟩
theorem GlobAt.cell {x : Nat × (List Value → Prop)} {w : World} (h : GlobAt x w) : ∃ cs : List Value, x.2 cs ∧ ∀ j, w.cell? ⟨x.1, j, none⟩ = cs[j]? := by
 obtain ⟨cs, t, fr, h, hq⟩ := h
 exact ⟨cs.toList, hq, fun j => by simp [World.cell?, h]⟩
def tabAt (P : Program) (n : String) (Q : List Value → Prop) : List (Nat × (List Value → Prop)) :=
 match P.globalNamed n with
 | some g => [(g, Q)]
 | none => []
def bruijnIs (cs : List Value) : Prop := ∀ j, j < Lib.deBruijn64tab.length → cs[j]? = some (.int .u8 (Lib.deBruijn64tab.getD j 0))
def powIs (cs : List Value) : Prop := cs = Lib.pow10Tab.map fun z => Value.int .u64 z
def errIs (cs : List Value) : Prop := ∃ te pe, cs = [.iface te pe]
def tabsOf (P : Program) : List (Nat × (List Value → Prop)) :=
 tabAt P "math/bits.deBruijn64tab" bruijnIs ++ tabAt P "internal/strconv.uint64pow10" powIs ++ tabAt P "strconv.ErrRange" errIs ++ tabAt P "strconv.ErrSyntax" errIs
def GOk (P : Program) (w : World) : Prop := ∀ x ∈ tabsOf P, GlobAt x w
theorem gok_bruijn {P : Program} {w : World} (h : GOk P w) {g : Nat} (hg : P.globalNamed "math/bits.deBruijn64tab" = some g) : ∀ j, j < Lib.deBruijn64tab.length → w.cell? ⟨g, j, none⟩ = some (.int .u8 (Lib.deBruijn64tab.getD j 0)) := by
 have hm : (g, bruijnIs) ∈ tabsOf P := by
  unfold tabsOf
  simp only [List.mem_append]
  refine .inl (.inl (.inl ?_))
  unfold tabAt; rw [hg]; exact List.mem_singleton.2 rfl
 obtain ⟨cs, hq, hc⟩ := (h _ hm).cell
 intro j hj
 rw [hc j]
 exact hq j hj
class OfP (A : Env) (P : Program) : Prop where
 tabs : A.tabs = tabsOf P
instance {a b : Nat → Prop} {κ : Emb} {P : Program} : OfP ⟨a, b, κ, tabsOf P⟩ P := ⟨rfl⟩
structure BelowB (B : Nat → Prop) (n : Nat) (w w' : World) : Prop where
 os : w'.os = w.os
 tape : w'.tape = w.tape
 output : w'.output = w.output
 size : w.heap.size ≤ w'.heap.size
 block : ∀ k, k < n → ¬ B k → w'.heap[k]? = w.heap[k]?
theorem BelowB.refl (B : Nat → Prop) (n : Nat) (w : World) : BelowB B n w w := ⟨rfl, rfl, rfl, Nat.le_refl _, fun _ _ _ => rfl⟩
theorem BelowB.trans {B : Nat → Prop} {n : Nat} {a b c : World} (h : BelowB B n a b) (k : BelowB B n b c) : BelowB B n a c :=
 ⟨k.os.trans h.os, k.tape.trans h.tape, k.output.trans h.output, Nat.le_trans h.size k.size, fun i hi hb => (k.block i hi hb).trans (h.block i hi hb)⟩
theorem BelowB.of {B : Nat → Prop} {n : Nat} {w w' : World} (h : Below n w w') : BelowB B n w w' := ⟨h.os, h.tape, h.output, h.size, fun k hk _ => h.block k hk⟩
theorem BelowB.to {B : Nat → Prop} {n : Nat} {w w' : World} (h : BelowB B n w w') (hB : ∀ k, k < n → ¬ B k) : Below n w w' := ⟨h.os, h.tape, h.output, h.size, fun k hk => h.block k hk (hB k hk)⟩
theorem BelowB.mono {B B' : Nat → Prop} {n n' : Nat} {w w' : World} (h : BelowB B n w w') (hn : n' ≤ n) (hB : ∀ k, k < n' → B k → B' k) : BelowB B' n' w w' :=
 ⟨h.os, h.tape, h.output, h.size, fun k hk hb => h.block k (Nat.lt_of_lt_of_le hk hn) (fun hB' => hb (hB k hk hB'))⟩
theorem BelowB.drew {B : Nat → Prop} {n : Nat} {a w : World} (h : BelowB B n a w) : BelowB B n a w.drew := ⟨h.os, h.tape, h.output, h.size, h.block⟩
structure St.Of (A : Env) (W w : World) (a : Act) (σ : AS) (ι : Emb) (R : Nat → Prop) : Prop where
 below : BelowB A.B W.heap.size W w
 size : a.tmps.size = σ.n
 defers : a.defers = []
 seen : ∀ id x, ι id = some x → σ.seen id = true
 slots : ∀ t, RelA ι R w (σ.slots t) (a.tmps.getD t undef)
 heap : ∀ id b, σ.heap id = some b → RelB ι R w id b
 inj : ∀ id id' b b' g c c', σ.heap id = some b → σ.heap id' = some b' → ι id = some (some (g, c)) → ι id' = some (some (g, c')) → id = id'
 new : ∀ id b g c, σ.heap id = some b → ι id = some (some (g, c)) → W.heap.size ≤ g ∨ A.B g
 lt : ∀ k, R k → k < w.heap.size
 out : ∀ id b g c, σ.heap id = some b → ι id = some (some (g, c)) → ¬ R g
 arg : ∀ k, R k → k < W.heap.size → A.A k ∨ A.B k
 pin : ∀ i x, i < σ.pins → A.κ i = some x → ι i = some x
 glob : ∀ x ∈ A.tabs, GlobAt x W ∧ ¬ A.B x.1
theorem St.Of.gok {A : Env} {P : Program} [hP : OfP A P] {W w : World} {a : Act} {σ : AS} {ι : Emb} {R : Nat → Prop} (h : St.Of A W w a σ ι R) : GOk P w := by
 intro x hx
 obtain ⟨h1, h3⟩ := h.glob x (by rw [hP.tabs]; exact hx)
 exact h1.of_block (h.below.block x.1 h1.lt h3)
theorem GOk.below {P : Program} {n : Nat} {w w' : World} (h : GOk P w) (hb : Below n w w') (hn : w.heap.size ≤ n) : GOk P w' := by
 intro x hx
 have h1 := (h x hx).lt
 exact (h x hx).of_block (hb.block x.1 (by omega))
def St (A : Env) (W w : World) (a : Act) (σ : AS) : Prop := ∃ ι R, St.Of A W w a σ ι R
end Go.Ab
set_option linter.unusedVariables false
namespace Go.Ab
open Go.RowKit
structure TI where
 under : TypeDesc
 size : Nat
 bytes : Nat
 zero : Value
 cmp : Bool := false
abbrev Tab := Nat → Option TI
def TabOk (P : Program) (T : Tab) : Prop := ∀ t i, T t = some i → P.underlying t = some i.under ∧ ∃ info, P.info? t = some info ∧ info.size = i.size ∧ info.bytes = i.bytes ∧ info.zero = some i.zero ∧ (i.cmp = true → P.stoodInHeld t = false ∧ P.eqGuardType P.depth t = false)
abbrev Out := Prop × AV
abbrev Out.bad : Out := (False, .junk)
def zeroAV : Value → AV
 | .agg cs => .agg (cs.toList.map .raw)
 | v => .raw v
def AV.cells : AV → List AV
 | .agg xs => xs
 | x => [x]
def AV.one : AV → Bool
 | .pv (.raw v) => v.oneCell'
 | .pv (.ro _ _ _) => true
 | .ptr _ _ => true
 | .pix _ _ => true
 | .row _ _ _ _ => true
 | .roat _ _ => true
 | .fn _ _ => true
 | .map _ => true
 | _ => false
theorem RelA.one {ι : Emb} {R : Nat → Prop} {w : World} {x : AV} {u : Value} (h : RelA ι R w x u) (h1 : x.one = true) : u.oneCell' = true := by
 cases x with
 | pv p =>
  simp only [RelA] at h
  cases p with
  | raw v => simp only [RelP] at h; subst h; exact h1
  | ro s n c => simp only [RelP] at h; obtain ⟨a, cap, rfl, _⟩ := h; rfl
 | ptr id off => simp only [RelA] at h; obtain ⟨g, c, _, rfl⟩ := h; rfl
 | pix id off => simp only [RelA] at h; obtain ⟨g, c, _, rfl⟩ := h; rfl
 | row id s off len =>
  simp only [RelA] at h
  rcases h with ⟨_, _, _, rfl⟩ | ⟨g, c, a, _, rfl, _⟩ <;> rfl
 | roat n cell => simp only [RelA] at h; obtain ⟨g, o, rfl, _⟩ := h; rfl
 | fn f caps => simp only [RelA] at h; obtain ⟨us, rfl, _⟩ := h; rfl
 | map id => simp only [RelA] at h; obtain ⟨g, c, _, rfl⟩ := h; rfl
 | _ => simp [AV.one] at h1
def bitsOf (op : BinOp) (k : IntKind) (x y : Int) : Int :=
 let a := BitVec.ofInt k.bits x
 let b := BitVec.ofInt k.bits y
 match op with
 | .and => k.wrap (a &&& b).toNat
 | .or => k.wrap (a ||| b).toNat
 | .xor => k.wrap (a ^^^ b).toNat
 | _ => k.wrap (a &&& ~~~b).toNat
def intBin (op : BinOp) (k : IntKind) (a b : Int) : Prop × Value :=
 match op with
 | .add => (True, .int k (k.wrap (a + b)))
 | .sub => (True, .int k (k.wrap (a - b)))
 | .mul => (True, .int k (k.wrap (a * b)))
 | .quo => (b ≠ 0, .int k (k.wrap (a.tdiv b)))
 | .rem => (b ≠ 0, .int k (a.tmod b))
 | .and => (True, .int k (bitsOf .and k a b))
 | .or => (True, .int k (bitsOf .or k a b))
 | .xor => (True, .int k (bitsOf .xor k a b))
 | .andNot => (True, .int k (bitsOf .andNot k a b))
 | .eql => (True, .bool (a == b))
 | .neq => (True, .bool (a != b))
 | .lss => (True, .bool (decide (a < b)))
 | .leq => (True, .bool (decide (a ≤ b)))
 | .gtr => (True, .bool (decide (a > b)))
 | .geq => (True, .bool (decide (a ≥ b)))
 | .shl => (0 ≤ b, .int k (k.wrap (a * 2 ^ (min b.toNat k.bits))))
 | .shr => (0 ≤ b, .int k (a.fdiv (2 ^ (min b.toNat k.bits))))
def eqFs (T : Tab) (c : TypeId → List AV → List AV → Prop × Bool) (xs ys : List AV) : List Field → Prop × Bool
 | [] => (True, true)
 | f :: fs => match T f.type with
  | some ti => (f.name ≠ "_" ∧ (f.offset + ti.size ≤ xs.length ∧ f.offset + ti.size ≤ ys.length) ∧ (c f.type ((xs.drop f.offset).take ti.size) ((ys.drop f.offset).take ti.size)).1 ∧ (eqFs T c xs ys fs).1,
    (c f.type ((xs.drop f.offset).take ti.size) ((ys.drop f.offset).take ti.size)).2 && (eqFs T c xs ys fs).2)
  | none => (False, false)
def eqAs (c : List AV → List AV → Prop × Bool) (n : Nat) (xs ys : List AV) : List Nat → Prop × Bool
 | [] => (True, true)
 | i :: is => ((i * n + n ≤ xs.length ∧ i * n + n ≤ ys.length) ∧ (c ((xs.drop (i * n)).take n) ((ys.drop (i * n)).take n)).1 ∧ (eqAs c n xs ys is).1,
   (c ((xs.drop (i * n)).take n) ((ys.drop (i * n)).take n)).2 && (eqAs c n xs ys is).2)
def eqC (T : Tab) : Nat → TypeId → List AV → List AV → Prop × Bool
 | 0, _, _, _ => (False, false)
 | n + 1, t, xs, ys => match T t with
  | some { under := .bool, .. } => match xs, ys with
   | [.pv (.raw (.bool a))], [.pv (.raw (.bool b))] => (True, a == b)
   | _, _ => (False, false)
  | some { under := .int _, .. } => match xs, ys with
   | [.pv (.raw (.int k a))], [.pv (.raw (.int k' b))] => (k = k', a == b)
   | _, _ => (False, false)
  | some { under := .string, .. } => match xs, ys with
   | [.pv (.raw (.string a))], [.pv (.raw (.string b))] => (True, a.toList == b.toList)
   | _, _ => (False, false)
  | some { under := .struct fs, cmp := true, .. } => eqFs T (eqC T n) xs ys fs.toList
  | some { under := .array m e, .. } => match T e with
   | some ti => eqAs (eqC T n e) ti.size xs ys (List.range m)
   | none => (False, false)
  | _ => (False, false)
def eqF (T : Tab) (xs ys : List AV) (fs : List Field) : Prop × Bool := eqFs T (eqC T 5) xs ys fs
def eqA (T : Tab) (e : TypeId) (n : Nat) (xs ys : List AV) (is : List Nat) : Prop × Bool := eqAs (eqC T 5 e) n xs ys is
def binAV (T : Tab) (op : BinOp) (xT : TypeId) : AV → AV → Out
 | .pv (.raw (.int k a)), .pv (.raw (.int k' b)) => (((op = .shl ∨ op = .shr) ∨ k = k') ∧ (intBin op k a b).1, .raw (intBin op k a b).2)
 | .pv (.raw (.bool a)), .pv (.raw (.bool b)) => match T xT, op with
  | some { under := .bool, .. }, .eql => (True, .bool (a == b))
  | some { under := .bool, .. }, .neq => (True, .bool (a != b))
  | _, _ => Out.bad
 | .pv (.raw (.string a)), .pv (.raw (.string b)) => match op with
  | .eql => (True, .bool (a.toList == b.toList))
  | .neq => (True, .bool (!(a.toList == b.toList)))
  | .add => (a.size + b.size ≤ 9223372036854775807, .raw (.string (a ++ b)))
  | _ => Out.bad
 | .agg xs, .agg ys => match T xT, op with
  | some { under := .struct fs, cmp := true, .. }, .eql => ((eqF T xs ys fs.toList).1, .bool (eqF T xs ys fs.toList).2)
  | some { under := .struct fs, cmp := true, .. }, .neq => ((eqF T xs ys fs.toList).1, .bool (!(eqF T xs ys fs.toList).2))
  | some { under := .array m e, cmp := true, .. }, .eql => match T e with
   | some ti => ((eqA T e ti.size xs ys (List.range m)).1, .bool (eqA T e ti.size xs ys (List.range m)).2)
   | none => Out.bad
  | some { under := .array m e, cmp := true, .. }, .neq => match T e with
   | some ti => ((eqA T e ti.size xs ys (List.range m)).1, .bool (!(eqA T e ti.size xs ys (List.range m)).2))
   | none => Out.bad
  | _, _ => Out.bad
 | .ptr _ _, .pv (.raw (.pointer none)) => match T xT, op with
  | some { under := .pointer _, .. }, .eql => (True, .bool false)
  | some { under := .pointer _, .. }, .neq => (True, .bool true)
  | _, _ => Out.bad
 | .pv (.raw (.pointer none)), .pv (.raw (.pointer none)) => match T xT, op with
  | some { under := .pointer _, .. }, .eql => (True, .bool true)
  | some { under := .pointer _, .. }, .neq => (True, .bool false)
  | _, _ => Out.bad
 | _, _ => Out.bad
def unAV (op : UnOp) : AV → Out
 | .pv (.raw (.bool b)) => match op with | .not => (True, .bool (!b)) | _ => Out.bad
 | .pv (.raw (.int k n)) => match op with | .neg => (True, .raw (.int k (k.wrap (0 - n)))) | .xor => (True, .raw (.int k (bitsOf .xor k (if k.signed then -1 else k.max) n))) | _ => Out.bad
 | _ => Out.bad
def fieldAddrAV (T : Tab) (s : TypeId) (f : Nat) (x : AV) : Out :=
 match T s with
 | some { under := .struct fs, .. } => match fs[f]? with
  | some fd => match T fd.type, x with
   | some ti, .ptr id off => (ti.size ≠ 0, .ptr id (off + fd.offset))
   | some ti, .pix id off => (ti.size ≠ 0, .pix id (off + fd.offset))
   | some ti, .roat n cell => (ti.size ≠ 0, .roat (n - fd.offset) (fun j => cell (fd.offset + j)))
   | _, _ => Out.bad
  | none => Out.bad
 | _ => Out.bad
def indexAddrAV (T : Tab) (t : TypeId) (x ix : AV) : Out :=
 match ix with
 | .pv (.raw (.int k i)) => match T t with
  | some { under := .slice e, .. } => match T e, x with
   | some ti, .pv (.ro s n cell) => (ti.size = s ∧ 0 ≤ i ∧ i < n, .roat s (cell i.toNat))
   | some ti, .row id s off len => (ti.size = s ∧ 0 ≤ i ∧ i < len, .ptr id ((off + i.toNat) * s))
   | _, _ => Out.bad
  | some { under := .array m e, .. } => match T e, x with
   | some ti, .ptr id off => (0 ≤ i ∧ i < m, .pix id (off + i.toNat * ti.size))
   | some ti, .pix id off => (0 ≤ i ∧ i < m, .pix id (off + i.toNat * ti.size))
   | some ti, .roat n cell => (0 ≤ i ∧ i < m, .roat (n - i.toNat * ti.size) (fun j => cell (i.toNat * ti.size + j)))
   | _, _ => Out.bad
  | _ => Out.bad
 | _ => Out.bad
def boundAV (d : Nat) : Option AV → Prop × Nat
 | none => (True, d)
 | some (.pv (.raw (.int _ i))) => (0 ≤ i, i.toNat)
 | _ => (False, 0)
def sliceAV (T : Tab) (t : TypeId) (x : AV) (lo hi mx : Option AV) : Out :=
 match mx with
 | some m => match T t with
  | some { under := .slice e, .. } => match T e, x with
   | some ti, .pv (.ro s n cell) =>
    let l := boundAV 0 lo
    let h := boundAV n hi
    let q := boundAV 0 (some m)
    (ti.size = s ∧ hi.isSome = true ∧ l.1 ∧ h.1 ∧ q.1 ∧ l.2 ≤ h.2 ∧ h.2 ≤ q.2 ∧ q.2 ≤ n, .pv (.ro s (h.2 - l.2) (fun i j => cell (l.2 + i) j)))
   | _, _ => Out.bad
  | _ => Out.bad
 | none => match T t with
  | some { under := .slice e, .. } => match T e, x with
   | some ti, .pv (.ro s n cell) =>
    let l := boundAV 0 lo
    let h := boundAV n hi
    (ti.size = s ∧ l.1 ∧ h.1 ∧ l.2 ≤ h.2 ∧ h.2 ≤ n, .pv (.ro s (h.2 - l.2) (fun i j => cell (l.2 + i) j)))
   | some ti, .row id s off len =>
    let l := boundAV 0 lo
    let h := boundAV len hi
    (ti.size = s ∧ l.1 ∧ h.1 ∧ l.2 ≤ h.2 ∧ h.2 ≤ len, .row id s (off + l.2) (h.2 - l.2))
   | _, _ => Out.bad
  | some { under := .string, .. } => match x with
   | .pv (.raw (.string s)) =>
    let l := boundAV 0 lo
    let h := boundAV s.size hi
    (l.1 ∧ h.1 ∧ l.2 ≤ h.2 ∧ h.2 ≤ s.size, .raw (.string (s.extract l.2 h.2)))
   | _ => Out.bad
  | some { under := .array m e, .. } => match T e, x with
   | some ti, .roat n cell =>
    let l := boundAV 0 lo
    let h := boundAV m hi
    (m * ti.size ≤ n ∧ m ≤ 140737488355328 ∧ l.1 ∧ h.1 ∧ l.2 ≤ h.2 ∧ h.2 ≤ m, .pv (.ro ti.size (h.2 - l.2) (fun i j => cell ((l.2 + i) * ti.size + j))))
   | _, _ => Out.bad
  | _ => Out.bad
def AV.isAgg : AV → Bool
 | .agg _ => true
 | _ => false
def setCells (cells : List AV) (off : Nat) : List AV → List AV
 | [] => cells
 | c :: cs => setCells (cells.set off c) (off + 1) cs
def fillAV (place : Nat → Option (Nat × Nat)) : List AV → List (Nat × AV) → Prop × List AV
 | cells, [] => (True, cells)
 | cells, (i, v) :: rest => match place i with
  | none => (False, cells)
  | some (off, size) => let r := fillAV place (setCells cells off v.cells) rest
   ((v.one || v.isAgg) = true ∧ v.cells.length = size ∧ off + size ≤ cells.length ∧ r.1, r.2)
def placesAV (T : Tab) (fs : Array Field) (i : Nat) : Option (Nat × Nat) :=
 match fs[i]? with
 | some f => match T f.type with | some ti => some (f.offset, ti.size) | none => none
 | none => none
def buildAV (T : Tab) (t : TypeId) (parts : List (Nat × AV)) : Out :=
 match T t with
 | some { under := .struct fs, zero := z, .. } =>
  let r := fillAV (placesAV T fs) (zeroAV z).cells parts
  ((∀ f ∈ fs.toList, T f.type ≠ none) ∧ r.1, .agg r.2)
 | some { under := .array _ e, zero := z, .. } => match T e with
  | some ti => let r := fillAV (fun i => some (i * ti.size, ti.size)) (zeroAV z).cells parts; (r.1, .agg r.2)
  | none => Out.bad
 | _ => Out.bad
def partAV (T : Tab) (t : TypeId) (cells : List AV) (off : Nat) : Out :=
 match T t with
 | some { under := .struct _, size := n, .. } => (True, .agg ((cells.drop off).take n))
 | some { under := .array _ _, size := n, .. } => (True, .agg ((cells.drop off).take n))
 | some _ => match cells[off]? with | some c => (True, c) | none => Out.bad
 | none => Out.bad
def fieldAV (T : Tab) (t : TypeId) (f : Nat) : AV → Out
 | .agg xs => match T t with
  | some { under := .struct fs, .. } => match fs[f]? with | some fd => partAV T fd.type xs fd.offset | none => Out.bad
  | _ => Out.bad
 | _ => Out.bad
def indexAV (T : Tab) (t : TypeId) (x ix : AV) : Out :=
 match x, ix, T t with
 | .agg xs, .pv (.raw (.int k i)), some { under := .array m e, .. } => match T e with
  | some ti => ((0 ≤ i ∧ i < m) ∧ (partAV T e xs (i.toNat * ti.size)).1, (partAV T e xs (i.toNat * ti.size)).2)
  | none => Out.bad
 | _, _, _ => Out.bad
def extractAV (i : Nat) : AV → Out
 | .tup xs => match xs[i]? with | some x => (True, x) | none => Out.bad
 | _ => Out.bad
def lenAV (T : Tab) (t : TypeId) (x : AV) : Out :=
 match T t with
 | some { under := .slice _, .. } => match x with
  | .pv (.ro _ n _) => (True, .i n)
  | .row _ _ _ n => (True, .i n)
  | .pv (.raw (.slice _ n _)) => (True, .i n)
  | _ => Out.bad
 | some { under := .array n _, .. } => (True, .i n)
 | some { under := .string, .. } => match x with
  | .pv (.raw (.string s)) => (True, .i s.size)
  | _ => Out.bad
 | _ => Out.bad
def minmaxAV (mx : Bool) : AV → AV → Out
 | .pv (.raw (.int k a)), .pv (.raw (.int k' b)) => (True, .raw (.int k (if mx then (if b > a then b else a) else (if b < a then b else a))))
 | _, _ => Out.bad
def mm3AV (mx : Bool) (a b c : AV) : Out := ((minmaxAV mx a b).1 ∧ (minmaxAV mx (minmaxAV mx a b).2 c).1, (minmaxAV mx (minmaxAV mx a b).2 c).2)
def bytesOf (xs : List Int) : ByteArray := xs.foldl (fun r n => r.push (UInt8.ofNat n.toNat)) ByteArray.empty
def byteAt : PV → Int
 | .raw (.int _ b) => b
 | _ => 0
def strOf (n : Nat) (c : Nat → Nat → PV) : ByteArray := bytesOf ((List.range n).map fun i => byteAt (c i 0))
def convAV (T : Tab) (src dst : TypeId) : AV → Out
 | .pv (.ro s n c) => match T src, T dst with
  | some { under := .slice e, .. }, some { under := .string, .. } => match T e with
   | some { under := .int .u8, .. } => (s = 1 ∧ ∀ i, i < n → c i 0 = .raw (.int .u8 (byteAt (c i 0))), .raw (.string (strOf n c)))
   | _ => Out.bad
  | _, _ => Out.bad
 | .pv (.raw (.int k n)) => match T src, T dst with
  | some { under := .int _, .. }, some { under := .int k', .. } => (True, .raw (.int k' (k'.wrap n)))
  | _, _ => Out.bad
 | _ => Out.bad
def pb (t a b : Bool) : Bool := bif t then a else b
def pickAV : AV → AV → AV → Out
 | .pv (.raw (.bool t)), .pv (.raw (.bool a)), .pv (.raw (.bool b)) => (True, .bool (pb t a b))
 | .pv (.raw (.bool t)), .gd p (.pv (.raw (.bool a))), .pv (.raw (.bool b)) => (t = true → p = true, .bool (pb t a b))
 | .pv (.raw (.bool t)), .pv (.raw (.bool a)), .gd q (.pv (.raw (.bool b))) => (t = false → q = true, .bool (pb t a b))
 | .pv (.raw (.bool t)), .gd p (.pv (.raw (.bool a))), .gd q (.pv (.raw (.bool b))) => ((t = true → p = true) ∧ (t = false → q = true), .bool (pb t a b))
 | _, _, _ => Out.bad
def AV.bare : AV → AV
 | .gd _ x => x
 | x => x
def AV.when : AV → Bool
 | .gd p _ => p
 | _ => true
def pureOut (T : Tab) (ev : Operand → AV) : Op → Option Out
 | .move x | .assign x => some (True, ev x)
 | .binOp op xT x y _ => some (binAV T op xT (ev x) (ev y))
 | .unOp op _ x => some (unAV op (ev x))
 | .fieldAddr s x f => some (fieldAddrAV T s f (ev x))
 | .indexAddr t x ix => some (indexAddrAV T t (ev x) (ev ix))
 | .slice t x lo hi mx => some (sliceAV T t (ev x) (lo.map ev) (hi.map ev) (mx.map ev))
 | .build t parts => some (buildAV T t (parts.toList.map fun p => (p.1, ev p.2)))
 | .field t x f => some (fieldAV T t f (ev x))
 | .index t x ix => some (indexAV T t (ev x) (ev ix))
 | .extract x i => some (extractAV i (ev x))
 | .convert s d x => match convAV T s d (ev x) with | (φ, v) => some (φ, v)
 | .makeFunc (.func f) first caps => some (first = #[], .fn f (caps.toList.map ev))
 | .nilCheck x => match ev x with | .ptr id off => some (True, .ptr id off) | .pix id off => some (True, .pix id off) | .roat n c => some (True, .roat n c) | _ => some Out.bad
 | .call { callee := .builtin .len, args := args, argTypes := ts } => match args.toList, ts.toList with | [x], [t] => some (lenAV T t (ev x)) | _, _ => some Out.bad
 | .call { callee := .builtin .max, args := args, .. } => match args.toList with | [x, y] => some (minmaxAV true (ev x) (ev y)) | [x, y, z] => some (mm3AV true (ev x) (ev y) (ev z)) | _ => some Out.bad
 | .call { callee := .builtin .min, args := args, .. } => match args.toList with | [x, y] => some (minmaxAV false (ev x) (ev y)) | [x, y, z] => some (mm3AV false (ev x) (ev y) (ev z)) | _ => some Out.bad
 | _ => none
end Go.Ab
