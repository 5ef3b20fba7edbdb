import Derived.WalkKit
import Derived.WalkSpells
import Derived.WalkLawsBesides
import Derived.Lib.TrailingZeros
import Derived.Below
import Derived.Lib.ItoaNum
import Derived.Laws.BytesString
set_option linter.unusedVariables false
namespace Go.Ab
open Go.RowKit
inductive PV where
 | raw (v : Value)
 | ro (size n : Nat) (cell : Nat → Nat → PV)
inductive AV where
 | pv (p : PV)
 | ptr (id off : Nat)
 | pix (id off : Nat)
 | row (id size off len : Nat)
 | roat (n : Nat) (cell : Nat → PV)
 | agg (xs : List AV)
 | tup (xs : List AV)
 | fn (f : FuncId) (caps : List AV)
 | map (id : Nat)
 | gd (g : Bool) (x : AV)
 | junk
abbrev AV.raw (v : Value) : AV := .pv (.raw v)
abbrev AV.i (n : Int) : AV := .pv (.raw (.int .i64 n))
abbrev AV.bool (b : Bool) : AV := .pv (.raw (.bool b))
inductive Blk where
 | box (cells : List AV)
 | row (e size : Nat) (cells : List AV)
 | map (ks : List Value) (xs : List AV)
abbrev Heap := Nat → Option Blk
structure Cp where
 cap : Nat
 base : Nat
abbrev Emb := Nat → Option (Option (Nat × Cp))
def RelP (R : Nat → Prop) (w : World) : PV → Value → Prop
 | .raw v, u => u = v
 | .ro s n cell, u => ∃ a cap, u = .slice a n cap ∧ n ≤ cap ∧ n ≤ 140737488355328 ∧
   (0 < n → ∃ g o, a = some ⟨g, o, none⟩ ∧ R g ∧ ∀ i, i < n → ∀ j, j < s → ∃ x, w.cell? ⟨g, o + i * s + j, none⟩ = some x ∧ x.oneCell' = true ∧ RelP R w (cell i j) x)
mutual
def RelA (ι : Emb) (R : Nat → Prop) (w : World) : AV → Value → Prop
 | .pv p, u => RelP R w p u
 | .ptr id off, u => ∃ g c, ι id = some (some (g, c)) ∧ u = .pointer (some ⟨g, off + c.base, none⟩)
 | .pix id off, u => ∃ g c, ι id = some (some (g, c)) ∧ u = .pointer (some ⟨g, off + c.base, none⟩)
 | .row id s off len, u => (ι id = some none ∧ off = 0 ∧ len = 0 ∧ u = .slice none 0 0) ∨
   (∃ g c a, ι id = some (some (g, c)) ∧ u = .slice a len (c.cap - off) ∧ off + len ≤ c.cap ∧ (off < c.cap → a = some ⟨g, off * s + c.base, none⟩))
 | .roat n cell, u => ∃ g o, u = .pointer (some ⟨g, o, none⟩) ∧ R g ∧ ∀ j, j < n → ∃ x, w.cell? ⟨g, o + j, none⟩ = some x ∧ x.oneCell' = true ∧ RelP R w (cell j) x
 | .agg xs, u => ∃ us : Array Value, u = .agg us ∧ RelL ι R w xs us.toList
 | .tup xs, u => ∃ us : Array Value, u = .tuple us ∧ RelL ι R w xs us.toList
 | .fn f caps, u => ∃ us : Array Value, u = .func (.func f) #[] us ∧ RelL ι R w caps us.toList
 | .map id, u => ∃ g c, ι id = some (some (g, c)) ∧ u = .map (some g)
 | .gd g x, u => (g = true → RelA ι R w x u) ∧ (g = false → u = undef)
 | .junk, _ => True
def RelL (ι : Emb) (R : Nat → Prop) (w : World) : List AV → List Value → Prop
 | [], [] => True
 | x :: xs, u :: us => RelA ι R w x u ∧ RelL ι R w xs us
 | _, _ => False
end
theorem RelP.mono {R R' : Nat → Prop} {w w' : World} (hR : ∀ k, R k → R' k) (hw : ∀ k, R k → w'.heap[k]? = w.heap[k]?) :
  ∀ (p : PV) (u : Value), RelP R w p u → RelP R' w' p u
 | .raw v, u, h => h
 | .ro s n cell, u, h => by
  obtain ⟨a, cap, rfl, hc, hn, h⟩ := h
  refine ⟨a, cap, rfl, hc, hn, fun h0 => ?_⟩
  obtain ⟨g, o, rfl, hg, h⟩ := h h0
  refine ⟨g, o, rfl, hR _ hg, fun i hi j hj => ?_⟩
  obtain ⟨x, hx, h1, hr⟩ := h i hi j hj
  exact ⟨x, (World.cell?_of_block (w := w) (w' := w') (a := ⟨g, _, none⟩) (hw g hg)).trans hx, h1, RelP.mono hR hw _ _ hr⟩
mutual
theorem RelA.mono {ι ι' : Emb} {R R' : Nat → Prop} {w w' : World} (hι : ∀ id x, ι id = some x → ι' id = some x) (hR : ∀ k, R k → R' k) (hw : ∀ k, R k → w'.heap[k]? = w.heap[k]?) :
  ∀ (x : AV) (u : Value), RelA ι R w x u → RelA ι' R' w' x u
 | .pv p, u, h => by simp only [RelA] at h ⊢; exact RelP.mono hR hw p u h
 | .ptr id off, u, h => by
  simp only [RelA] at h ⊢
  obtain ⟨g, c, hi, rfl⟩ := h
  exact ⟨g, c, hι _ _ hi, rfl⟩
 | .pix id off, u, h => by
  simp only [RelA] at h ⊢
  obtain ⟨g, c, hi, rfl⟩ := h
  exact ⟨g, c, hι _ _ hi, rfl⟩
 | .row id s off len, u, h => by
  simp only [RelA] at h ⊢
  rcases h with ⟨hi, h⟩ | ⟨g, c, a, hi, h⟩
  ·exact .inl ⟨hι _ _ hi, h⟩
  ·exact .inr ⟨g, c, a, hι _ _ hi, h⟩
 | .roat n cell, u, h => by
  simp only [RelA] at h ⊢
  obtain ⟨g, o, rfl, hg, h⟩ := h
  refine ⟨g, o, rfl, hR _ hg, fun j hj => ?_⟩
  obtain ⟨x, hx, h1, hr⟩ := h j hj
  exact ⟨x, (World.cell?_of_block (w := w) (w' := w') (a := ⟨g, _, none⟩) (hw g hg)).trans hx, h1, RelP.mono hR hw _ _ hr⟩
 | .agg xs, u, h => by
  simp only [RelA] at h ⊢
  obtain ⟨us, rfl, h⟩ := h
  exact ⟨us, rfl, RelL.mono hι hR hw xs _ h⟩
 | .tup xs, u, h => by
  simp only [RelA] at h ⊢
  obtain ⟨us, rfl, h⟩ := h
  exact ⟨us, rfl, RelL.mono hι hR hw xs _ h⟩
 | .fn f xs, u, h => by
  simp only [RelA] at h ⊢
  obtain ⟨us, rfl, h⟩ := h
  exact ⟨us, rfl, RelL.mono hι hR hw xs _ h⟩
 | .map id, u, h => by
  simp only [RelA] at h ⊢
  obtain ⟨g, c, hi, rfl⟩ := h
  exact ⟨g, c, hι _ _ hi, rfl⟩
 | .gd g x, u, h => by
  simp only [RelA] at h ⊢
  exact ⟨fun hg => RelA.mono hι hR hw x u (h.1 hg), h.2⟩
 | .junk, u, h => by simp only [RelA]
theorem RelL.mono {ι ι' : Emb} {R R' : Nat → Prop} {w w' : World} (hι : ∀ id x, ι id = some x → ι' id = some x) (hR : ∀ k, R k → R' k) (hw : ∀ k, R k → w'.heap[k]? = w.heap[k]?) :
  ∀ (xs : List AV) (us : List Value), RelL ι R w xs us → RelL ι' R' w' xs us
 | [], [], h => h
 | x :: xs, u :: us, h => by
  simp only [RelL] at h ⊢
  exact ⟨RelA.mono hι hR hw x u h.1, RelL.mono hι hR hw xs us h.2⟩
 | [], _ :: _, h => h
 | _ :: _, [], h => h
end
theorem RelL.length {ι : Emb} {R : Nat → Prop} {w : World} : ∀ {xs : List AV} {us : List Value}, RelL ι R w xs us → xs.length = us.length
 | [], [], _ => rfl
 | x :: xs, u :: us, h => by simp only [RelL] at h; simp [RelL.length h.2]
 | [], _ :: _, h => by simp [RelL] at h
 | _ :: _, [], h => by simp [RelL] at h
theorem RelL.get {ι : Emb} {R : Nat → Prop} {w : World} : ∀ {xs : List AV} {us : List Value}, RelL ι R w xs us → ∀ (i : Nat) (x : AV), xs[i]? = some x → ∃ u, us[i]? = some u ∧ RelA ι R w x u
 | [], [], _, i, x, hx => by simp at hx
 | y :: xs, u :: us, h, 0, x, hx => by simp only [RelL] at h; simp at hx; subst hx; exact ⟨u, by simp, h.1⟩
 | y :: xs, u :: us, h, i + 1, x, hx => by simp only [RelL] at h; simp at hx; simpa using RelL.get h.2 i x hx
 | [], _ :: _, h, _, _, _ => by simp [RelL] at h
 | _ :: _, [], h, _, _, _ => by simp [RelL] at h
theorem RelL.of_get {ι : Emb} {R : Nat → Prop} {w : World} : ∀ {xs : List AV} {us : List Value}, xs.length = us.length → (∀ (i : Nat) (x : AV) (u : Value), xs[i]? = some x → us[i]? = some u → RelA ι R w x u) → RelL ι R w xs us
 | [], [], _, _ => by simp [RelL]
 | x :: xs, u :: us, hl, h => by
  simp only [RelL]
  exact ⟨h 0 x u (by simp) (by simp), RelL.of_get (by simpa using hl) fun i y v hy hv => h (i + 1) y v (by simpa using hy) (by simpa using hv)⟩
 | [], _ :: _, hl, _ => by simp at hl
 | _ :: _, [], hl, _ => by simp at hl
theorem RelL.append {ι : Emb} {R : Nat → Prop} {w : World} : ∀ {xs ys : List AV} {us vs : List Value}, RelL ι R w xs us → RelL ι R w ys vs → RelL ι R w (xs ++ ys) (us ++ vs)
 | [], ys, [], vs, _, h => h
 | x :: xs, ys, u :: us, vs, h, h' => by
  simp only [RelL, List.cons_append] at h ⊢
  exact ⟨h.1, RelL.append h.2 h'⟩
 | [], _, _ :: _, _, h, _ => by simp [RelL] at h
 | _ :: _, _, [], _, h, _ => by simp [RelL] at h
theorem RelL.take {ι : Emb} {R : Nat → Prop} {w : World} : ∀ {xs : List AV} {us : List Value} (n : Nat), RelL ι R w xs us → RelL ι R w (xs.take n) (us.take n)
 | [], [], n, _ => by simp [RelL]
 | x :: xs, u :: us, 0, h => by simp [RelL]
 | x :: xs, u :: us, n + 1, h => by
  simp only [RelL, List.take_succ_cons] at h ⊢
  exact ⟨h.1, RelL.take n h.2⟩
 | [], _ :: _, _, h => by simp [RelL] at h
 | _ :: _, [], _, h => by simp [RelL] at h
theorem RelL.drop {ι : Emb} {R : Nat → Prop} {w : World} : ∀ {xs : List AV} {us : List Value} (n : Nat), RelL ι R w xs us → RelL ι R w (xs.drop n) (us.drop n)
 | [], [], n, _ => by simp [RelL]
 | x :: xs, u :: us, 0, h => by simpa using h
 | x :: xs, u :: us, n + 1, h => by
  simp only [RelL, List.drop_succ_cons] at h ⊢
  exact RelL.drop n h.2
 | [], _ :: _, _, h => by simp [RelL] at h
 | _ :: _, [], _, h => by simp [RelL] at h
theorem RelL.set {ι : Emb} {R : Nat → Prop} {w : World} : ∀ {xs : List AV} {us : List Value} (n : Nat) {x : AV} {u : Value}, RelL ι R w xs us → RelA ι R w x u → RelL ι R w (xs.set n x) (us.set n u)
 | [], [], n, _, _, _, _ => by simp [RelL]
 | y :: xs, v :: us, 0, x, u, h, h' => by
  simp only [RelL, List.set_cons_zero] at h ⊢
  exact ⟨h', h.2⟩
 | y :: xs, v :: us, n + 1, x, u, h, h' => by
  simp only [RelL, List.set_cons_succ] at h ⊢
  exact ⟨h.1, RelL.set n h.2 h'⟩
 | [], _ :: _, _, _, _, h, _ => by simp [RelL] at h
 | _ :: _, [], _, _, _, h, _ => by simp [RelL] at h
def Ones (us : List Value) : Prop := ∀ u ∈ us, u.oneCell' = true
def BornOk (es : Array MapEntry) (ck : Nat) : Prop := (∀ e ∈ es.toList, e.born < ck) ∧ (es.toList.map (·.born)).Nodup
def RelB (ι : Emb) (R : Nat → Prop) (w : World) (id : Nat) : Blk → Prop
 | .box cells => ∃ g c cur e, ι id = some (some (g, ⟨c, 0⟩)) ∧ w.heap[g]? = some (.cells cur e (0, 0)) ∧ RelL ι R w cells cur.toList ∧ Ones cur.toList
 | .row e s cells => ∃ n, cells.length = n * s ∧ 0 < s ∧ n ≤ 140737488355328 ∧ ((ι id = some none ∧ n = 0) ∨
   ∃ g cap base cur, ι id = some (some (g, ⟨cap, base⟩)) ∧ w.heap[g]? = some (.cells cur e (0, 0)) ∧ cur.size = base + cap * s ∧ n ≤ cap ∧ cap ≤ maxLen ∧ RelL ι R w cells ((cur.toList.drop base).take (n * s)) ∧ Ones ((cur.toList.drop base).take (n * s)))
 | .map ks xs => ∃ g c es clock, ι id = some (some (g, c)) ∧ w.heap[g]? = some (.map es clock) ∧ es.toList.map (·.key) = ks ∧ RelL ι R w xs (es.toList.map (·.val)) ∧ Ones (es.toList.map (·.val)) ∧ BornOk es clock
structure AS where
 n : Nat
 slots : Nat → AV
 heap : Heap
 seen : Nat → Bool
 fz : List Nat := []
 pins : Nat := 0
structure Env where
 A : Nat → Prop
 B : Nat → Prop
 κ : Emb
 tabs : List (Nat × (List Value → Prop))
def GlobAt (x : Nat × (List Value → Prop)) (w : World) : Prop := ∃ cs t fr, w.heap[x.1]? = some (.cells cs t fr) ∧ x.2 cs.toList
theorem GlobAt.lt {x : Nat × (List Value → Prop)} {w : World} (h : GlobAt x w) : x.1 < w.heap.size := by
 obtain ⟨cs, t, fr, h, _⟩ := h
 rcases Nat.lt_or_ge x.1 w.heap.size with h' | h'
 ·exact h'
 ·rw [Array.getElem?_eq_none h'] at h; cases h
theorem GlobAt.of_block {x : Nat × (List Value → Prop)} {w w' : World} (h : GlobAt x w) (hb : w'.heap[x.1]? = w.heap[x.1]?) : GlobAt x w' := by
 obtain ⟨cs, t, fr, h, hq⟩ := h
 exact ⟨cs, t, fr, hb.trans h, hq⟩
theorem GlobAt.cell {x : Nat × (List Value → Prop)} {w : World} (h : GlobAt x w) : ∃ cs : List Value, x.2 cs ∧ ∀ j, w.cell? ⟨x.1, j, none⟩ = cs[j]? := by
 obtain ⟨cs, t, fr, h, hq⟩ := h
 exact ⟨cs.toList, hq, fun j => by simp [World.cell?, h]⟩
def tabAt (P : Program) (n : String) (Q : List Value → Prop) : List (Nat × (List Value → Prop)) :=
 match P.globalNamed n with
 | some g => [(g, Q)]
 | none => []
def bruijnIs (cs : List Value) : Prop := ∀ j, j < Lib.deBruijn64tab.length → cs[j]? = some (.int .u8 (Lib.deBruijn64tab.getD j 0))
def powIs (cs : List Value) : Prop := cs = Lib.pow10Tab.map fun z => Value.int .u64 z
def errIs (cs : List Value) : Prop := ∃ te pe, cs = [.iface te pe]
def tabsOf (P : Program) : List (Nat × (List Value → Prop)) :=
 tabAt P "math/bits.deBruijn64tab" bruijnIs ++ tabAt P "internal/strconv.uint64pow10" powIs ++ tabAt P "strconv.ErrRange" errIs ++ tabAt P "strconv.ErrSyntax" errIs
def GOk (P : Program) (w : World) : Prop := ∀ x ∈ tabsOf P, GlobAt x w
theorem gok_bruijn {P : Program} {w : World} (h : GOk P w) {g : Nat} (hg : P.globalNamed "math/bits.deBruijn64tab" = some g) : ∀ j, j < Lib.deBruijn64tab.length → w.cell? ⟨g, j, none⟩ = some (.int .u8 (Lib.deBruijn64tab.getD j 0)) := by
 have hm : (g, bruijnIs) ∈ tabsOf P := by
  unfold tabsOf
  simp only [List.mem_append]
  refine .inl (.inl (.inl ?_))
  unfold tabAt; rw [hg]; exact List.mem_singleton.2 rfl
 obtain ⟨cs, hq, hc⟩ := (h _ hm).cell
 intro j hj
 rw [hc j]
 exact hq j hj
class OfP (A : Env) (P : Program) : Prop where
 tabs : A.tabs = tabsOf P
instance {a b : Nat → Prop} {κ : Emb} {P : Program} : OfP ⟨a, b, κ, tabsOf P⟩ P := ⟨rfl⟩
structure BelowB (B : Nat → Prop) (n : Nat) (w w' : World) : Prop where
 os : w'.os = w.os
 tape : w'.tape = w.tape
 output : w'.output = w.output
 size : w.heap.size ≤ w'.heap.size
 block : ∀ k, k < n → ¬ B k → w'.heap[k]? = w.heap[k]?
theorem BelowB.refl (B : Nat → Prop) (n : Nat) (w : World) : BelowB B n w w := ⟨rfl, rfl, rfl, Nat.le_refl _, fun _ _ _ => rfl⟩
theorem BelowB.trans {B : Nat → Prop} {n : Nat} {a b c : World} (h : BelowB B n a b) (k : BelowB B n b c) : BelowB B n a c :=
 ⟨k.os.trans h.os, k.tape.trans h.tape, k.output.trans h.output, Nat.le_trans h.size k.size, fun i hi hb => (k.block i hi hb).trans (h.block i hi hb)⟩
theorem BelowB.of {B : Nat → Prop} {n : Nat} {w w' : World} (h : Below n w w') : BelowB B n w w' := ⟨h.os, h.tape, h.output, h.size, fun k hk _ => h.block k hk⟩
theorem BelowB.to {B : Nat → Prop} {n : Nat} {w w' : World} (h : BelowB B n w w') (hB : ∀ k, k < n → ¬ B k) : Below n w w' := ⟨h.os, h.tape, h.output, h.size, fun k hk => h.block k hk (hB k hk)⟩
theorem BelowB.mono {B B' : Nat → Prop} {n n' : Nat} {w w' : World} (h : BelowB B n w w') (hn : n' ≤ n) (hB : ∀ k, k < n' → B k → B' k) : BelowB B' n' w w' :=
 ⟨h.os, h.tape, h.output, h.size, fun k hk hb => h.block k (Nat.lt_of_lt_of_le hk hn) (fun hB' => hb (hB k hk hB'))⟩
theorem BelowB.drew {B : Nat → Prop} {n : Nat} {a w : World} (h : BelowB B n a w) : BelowB B n a w.drew := ⟨h.os, h.tape, h.output, h.size, h.block⟩
structure St.Of (A : Env) (W w : World) (a : Act) (σ : AS) (ι : Emb) (R : Nat → Prop) : Prop where
 below : BelowB A.B W.heap.size W w
 size : a.tmps.size = σ.n
 defers : a.defers = []
 seen : ∀ id x, ι id = some x → σ.seen id = true
 slots : ∀ t, RelA ι R w (σ.slots t) (a.tmps.getD t undef)
 heap : ∀ id b, σ.heap id = some b → RelB ι R w id b
 inj : ∀ id id' b b' g c c', σ.heap id = some b → σ.heap id' = some b' → ι id = some (some (g, c)) → ι id' = some (some (g, c')) → id = id'
 new : ∀ id b g c, σ.heap id = some b → ι id = some (some (g, c)) → W.heap.size ≤ g ∨ A.B g
 lt : ∀ k, R k → k < w.heap.size
 out : ∀ id b g c, σ.heap id = some b → ι id = some (some (g, c)) → ¬ R g
 arg : ∀ k, R k → k < W.heap.size → A.A k ∨ A.B k
 pin : ∀ i x, i < σ.pins → A.κ i = some x → ι i = some x
 glob : ∀ x ∈ A.tabs, GlobAt x W ∧ ¬ A.B x.1
theorem St.Of.gok {A : Env} {P : Program} [hP : OfP A P] {W w : World} {a : Act} {σ : AS} {ι : Emb} {R : Nat → Prop} (h : St.Of A W w a σ ι R) : GOk P w := by
 intro x hx
 obtain ⟨h1, h3⟩ := h.glob x (by rw [hP.tabs]; exact hx)
 exact h1.of_block (h.below.block x.1 h1.lt h3)
theorem GOk.below {P : Program} {n : Nat} {w w' : World} (h : GOk P w) (hb : Below n w w') (hn : w.heap.size ≤ n) : GOk P w' := by
 intro x hx
 have h1 := (h x hx).lt
 exact (h x hx).of_block (hb.block x.1 (by omega))
def St (A : Env) (W w : World) (a : Act) (σ : AS) : Prop := ∃ ι R, St.Of A W w a σ ι R
end Go.Ab
set_option linter.unusedVariables false
namespace Go.Ab
open Go.RowKit
structure TI where
 under : TypeDesc
 size : Nat
 bytes : Nat
 zero : Value
 cmp : Bool := false
abbrev Tab := Nat → Option TI
def TabOk (P : Program) (T : Tab) : Prop := ∀ t i, T t = some i → P.underlying t = some i.under ∧ ∃ info, P.info? t = some info ∧ info.size = i.size ∧ info.bytes = i.bytes ∧ info.zero = some i.zero ∧ (i.cmp = true → P.stoodInHeld t = false ∧ P.eqGuardType P.depth t = false)
abbrev Out := Prop × AV
abbrev Out.bad : Out := (False, .junk)
def zeroAV : Value → AV
 | .agg cs => .agg (cs.toList.map .raw)
 | v => .raw v
def AV.cells : AV → List AV
 | .agg xs => xs
 | x => [x]
def AV.one : AV → Bool
 | .pv (.raw v) => v.oneCell'
 | .pv (.ro _ _ _) => true
 | .ptr _ _ => true
 | .pix _ _ => true
 | .row _ _ _ _ => true
 | .roat _ _ => true
 | .fn _ _ => true
 | .map _ => true
 | _ => false
theorem RelA.one {ι : Emb} {R : Nat → Prop} {w : World} {x : AV} {u : Value} (h : RelA ι R w x u) (h1 : x.one = true) : u.oneCell' = true := by
 cases x with
 | pv p =>
  simp only [RelA] at h
  cases p with
  | raw v => simp only [RelP] at h; subst h; exact h1
  | ro s n c => simp only [RelP] at h; obtain ⟨a, cap, rfl, _⟩ := h; rfl
 | ptr id off => simp only [RelA] at h; obtain ⟨g, c, _, rfl⟩ := h; rfl
 | pix id off => simp only [RelA] at h; obtain ⟨g, c, _, rfl⟩ := h; rfl
 | row id s off len =>
  simp only [RelA] at h
  rcases h with ⟨_, _, _, rfl⟩ | ⟨g, c, a, _, rfl, _⟩ <;> rfl
 | roat n cell => simp only [RelA] at h; obtain ⟨g, o, rfl, _⟩ := h; rfl
 | fn f caps => simp only [RelA] at h; obtain ⟨us, rfl, _⟩ := h; rfl
 | map id => simp only [RelA] at h; obtain ⟨g, c, _, rfl⟩ := h; rfl
 | _ => simp [AV.one] at h1
def bitsOf (op : BinOp) (k : IntKind) (x y : Int) : Int :=
 let a := BitVec.ofInt k.bits x
 let b := BitVec.ofInt k.bits y
 match op with
 | .and => k.wrap (a &&& b).toNat
 | .or => k.wrap (a ||| b).toNat
 | .xor => k.wrap (a ^^^ b).toNat
 | _ => k.wrap (a &&& ~~~b).toNat
def intBin (op : BinOp) (k : IntKind) (a b : Int) : Prop × Value :=
 match op with
 | .add => (True, .int k (k.wrap (a + b)))
 | .sub => (True, .int k (k.wrap (a - b)))
 | .mul => (True, .int k (k.wrap (a * b)))
 | .quo => (b ≠ 0, .int k (k.wrap (a.tdiv b)))
 | .rem => (b ≠ 0, .int k (a.tmod b))
 | .and => (True, .int k (bitsOf .and k a b))
 | .or => (True, .int k (bitsOf .or k a b))
 | .xor => (True, .int k (bitsOf .xor k a b))
 | .andNot => (True, .int k (bitsOf .andNot k a b))
 | .eql => (True, .bool (a == b))
 | .neq => (True, .bool (a != b))
 | .lss => (True, .bool (decide (a < b)))
 | .leq => (True, .bool (decide (a ≤ b)))
 | .gtr => (True, .bool (decide (a > b)))
 | .geq => (True, .bool (decide (a ≥ b)))
 | .shl => (0 ≤ b, .int k (k.wrap (a * 2 ^ (min b.toNat k.bits))))
 | .shr => (0 ≤ b, .int k (a.fdiv (2 ^ (min b.toNat k.bits))))
def eqFs (T : Tab) (c : TypeId → List AV → List AV → Prop × Bool) (xs ys : List AV) : List Field → Prop × Bool
 | [] => (True, true)
 | f :: fs => match T f.type with
  | some ti => (f.name ≠ "_" ∧ (f.offset + ti.size ≤ xs.length ∧ f.offset + ti.size ≤ ys.length) ∧ (c f.type ((xs.drop f.offset).take ti.size) ((ys.drop f.offset).take ti.size)).1 ∧ (eqFs T c xs ys fs).1,
    (c f.type ((xs.drop f.offset).take ti.size) ((ys.drop f.offset).take ti.size)).2 && (eqFs T c xs ys fs).2)
  | none => (False, false)
def eqAs (c : List AV → List AV → Prop × Bool) (n : Nat) (xs ys : List AV) : List Nat → Prop × Bool
 | [] => (True, true)
 | i :: is => ((i * n + n ≤ xs.length ∧ i * n + n ≤ ys.length) ∧ (c ((xs.drop (i * n)).take n) ((ys.drop (i * n)).take n)).1 ∧ (eqAs c n xs ys is).1,
   (c ((xs.drop (i * n)).take n) ((ys.drop (i * n)).take n)).2 && (eqAs c n xs ys is).2)
def eqC (T : Tab) : Nat → TypeId → List AV → List AV → Prop × Bool
 | 0, _, _, _ => (False, false)
 | n + 1, t, xs, ys => match T t with
  | some { under := .bool, .. } => match xs, ys with
   | [.pv (.raw (.bool a))], [.pv (.raw (.bool b))] => (True, a == b)
   | _, _ => (False, false)
  | some { under := .int _, .. } => match xs, ys with
   | [.pv (.raw (.int k a))], [.pv (.raw (.int k' b))] => (k = k', a == b)
   | _, _ => (False, false)
  | some { under := .string, .. } => match xs, ys with
   | [.pv (.raw (.string a))], [.pv (.raw (.string b))] => (True, a.toList == b.toList)
   | _, _ => (False, false)
  | some { under := .struct fs, cmp := true, .. } => eqFs T (eqC T n) xs ys fs.toList
  | some { under := .array m e, .. } => match T e with
   | some ti => eqAs (eqC T n e) ti.size xs ys (List.range m)
   | none => (False, false)
  | _ => (False, false)
def eqF (T : Tab) (xs ys : List AV) (fs : List Field) : Prop × Bool := eqFs T (eqC T 5) xs ys fs
def eqA (T : Tab) (e : TypeId) (n : Nat) (xs ys : List AV) (is : List Nat) : Prop × Bool := eqAs (eqC T 5 e) n xs ys is
def binAV (T : Tab) (op : BinOp) (xT : TypeId) : AV → AV → Out
 | .pv (.raw (.int k a)), .pv (.raw (.int k' b)) => (((op = .shl ∨ op = .shr) ∨ k = k') ∧ (intBin op k a b).1, .raw (intBin op k a b).2)
 | .pv (.raw (.bool a)), .pv (.raw (.bool b)) => match T xT, op with
  | some { under := .bool, .. }, .eql => (True, .bool (a == b))
  | some { under := .bool, .. }, .neq => (True, .bool (a != b))
  | _, _ => Out.bad
 | .pv (.raw (.string a)), .pv (.raw (.string b)) => match op with
  | .eql => (True, .bool (a.toList == b.toList))
  | .neq => (True, .bool (!(a.toList == b.toList)))
  | .add => (a.size + b.size ≤ 9223372036854775807, .raw (.string (a ++ b)))
  | _ => Out.bad
 | .agg xs, .agg ys => match T xT, op with
  | some { under := .struct fs, cmp := true, .. }, .eql => ((eqF T xs ys fs.toList).1, .bool (eqF T xs ys fs.toList).2)
  | some { under := .struct fs, cmp := true, .. }, .neq => ((eqF T xs ys fs.toList).1, .bool (!(eqF T xs ys fs.toList).2))
  | some { under := .array m e, cmp := true, .. }, .eql => match T e with
   | some ti => ((eqA T e ti.size xs ys (List.range m)).1, .bool (eqA T e ti.size xs ys (List.range m)).2)
   | none => Out.bad
  | some { under := .array m e, cmp := true, .. }, .neq => match T e with
   | some ti => ((eqA T e ti.size xs ys (List.range m)).1, .bool (!(eqA T e ti.size xs ys (List.range m)).2))
   | none => Out.bad
  | _, _ => Out.bad
 | .ptr _ _, .pv (.raw (.pointer none)) => match T xT, op with
  | some { under := .pointer _, .. }, .eql => (True, .bool false)
  | some { under := .pointer _, .. }, .neq => (True, .bool true)
  | _, _ => Out.bad
 | .pv (.raw (.pointer none)), .pv (.raw (.pointer none)) => match T xT, op with
  | some { under := .pointer _, .. }, .eql => (True, .bool true)
  | some { under := .pointer _, .. }, .neq => (True, .bool false)
  | _, _ => Out.bad
 | _, _ => Out.bad
def unAV (op : UnOp) : AV → Out
 | .pv (.raw (.bool b)) => match op with | .not => (True, .bool (!b)) | _ => Out.bad
 | .pv (.raw (.int k n)) => match op with | .neg => (True, .raw (.int k (k.wrap (0 - n)))) | .xor => (True, .raw (.int k (bitsOf .xor k (if k.signed then -1 else k.max) n))) | _ => Out.bad
 | _ => Out.bad
def fieldAddrAV (T : Tab) (s : TypeId) (f : Nat) (x : AV) : Out :=
 match T s with
 | some { under := .struct fs, .. } => match fs[f]? with
  | some fd => match T fd.type, x with
   | some ti, .ptr id off => (ti.size ≠ 0, .ptr id (off + fd.offset))
   | some ti, .pix id off => (ti.size ≠ 0, .pix id (off + fd.offset))
   | some ti, .roat n cell => (ti.size ≠ 0, .roat (n - fd.offset) (fun j => cell (fd.offset + j)))
   | _, _ => Out.bad
  | none => Out.bad
 | _ => Out.bad
def indexAddrAV (T : Tab) (t : TypeId) (x ix : AV) : Out :=
 match ix with
 | .pv (.raw (.int k i)) => match T t with
  | some { under := .slice e, .. } => match T e, x with
   | some ti, .pv (.ro s n cell) => (ti.size = s ∧ 0 ≤ i ∧ i < n, .roat s (cell i.toNat))
   | some ti, .row id s off len => (ti.size = s ∧ 0 ≤ i ∧ i < len, .ptr id ((off + i.toNat) * s))
   | _, _ => Out.bad
  | some { under := .array m e, .. } => match T e, x with
   | some ti, .ptr id off => (0 ≤ i ∧ i < m, .pix id (off + i.toNat * ti.size))
   | some ti, .pix id off => (0 ≤ i ∧ i < m, .pix id (off + i.toNat * ti.size))
   | some ti, .roat n cell => (0 ≤ i ∧ i < m, .roat (n - i.toNat * ti.size) (fun j => cell (i.toNat * ti.size + j)))
   | _, _ => Out.bad
  | _ => Out.bad
 | _ => Out.bad
def boundAV (d : Nat) : Option AV → Prop × Nat
 | none => (True, d)
 | some (.pv (.raw (.int _ i))) => (0 ≤ i, i.toNat)
 | _ => (False, 0)
def sliceAV (T : Tab) (t : TypeId) (x : AV) (lo hi mx : Option AV) : Out :=
 match mx with
 | some m => match T t with
  | some { under := .slice e, .. } => match T e, x with
   | some ti, .pv (.ro s n cell) =>
    let l := boundAV 0 lo
    let h := boundAV n hi
    let q := boundAV 0 (some m)
    (ti.size = s ∧ hi.isSome = true ∧ l.1 ∧ h.1 ∧ q.1 ∧ l.2 ≤ h.2 ∧ h.2 ≤ q.2 ∧ q.2 ≤ n, .pv (.ro s (h.2 - l.2) (fun i j => cell (l.2 + i) j)))
   | _, _ => Out.bad
  | _ => Out.bad
 | none => match T t with
  | some { under := .slice e, .. } => match T e, x with
   | some ti, .pv (.ro s n cell) =>
    let l := boundAV 0 lo
    let h := boundAV n hi
    (ti.size = s ∧ l.1 ∧ h.1 ∧ l.2 ≤ h.2 ∧ h.2 ≤ n, .pv (.ro s (h.2 - l.2) (fun i j => cell (l.2 + i) j)))
   | some ti, .row id s off len =>
    let l := boundAV 0 lo
    let h := boundAV len hi
    (ti.size = s ∧ l.1 ∧ h.1 ∧ l.2 ≤ h.2 ∧ h.2 ≤ len, .row id s (off + l.2) (h.2 - l.2))
   | _, _ => Out.bad
  | some { under := .string, .. } => match x with
   | .pv (.raw (.string s)) =>
    let l := boundAV 0 lo
    let h := boundAV s.size hi
    (l.1 ∧ h.1 ∧ l.2 ≤ h.2 ∧ h.2 ≤ s.size, .raw (.string (s.extract l.2 h.2)))
   | _ => Out.bad
  | some { under := .array m e, .. } => match T e, x with
   | some ti, .roat n cell =>
    let l := boundAV 0 lo
    let h := boundAV m hi
    (m * ti.size ≤ n ∧ m ≤ 140737488355328 ∧ l.1 ∧ h.1 ∧ l.2 ≤ h.2 ∧ h.2 ≤ m, .pv (.ro ti.size (h.2 - l.2) (fun i j => cell ((l.2 + i) * ti.size + j))))
   | _, _ => Out.bad
  | _ => Out.bad
def AV.isAgg : AV → Bool
 | .agg _ => true
 | _ => false
def setCells (cells : List AV) (off : Nat) : List AV → List AV
 | [] => cells
 | c :: cs => setCells (cells.set off c) (off + 1) cs
def fillAV (place : Nat → Option (Nat × Nat)) : List AV → List (Nat × AV) → Prop × List AV
 | cells, [] => (True, cells)
 | cells, (i, v) :: rest => match place i with
  | none => (False, cells)
  | some (off, size) => let r := fillAV place (setCells cells off v.cells) rest
   ((v.one || v.isAgg) = true ∧ v.cells.length = size ∧ off + size ≤ cells.length ∧ r.1, r.2)
def placesAV (T : Tab) (fs : Array Field) (i : Nat) : Option (Nat × Nat) :=
 match fs[i]? with
 | some f => match T f.type with | some ti => some (f.offset, ti.size) | none => none
 | none => none
def buildAV (T : Tab) (t : TypeId) (parts : List (Nat × AV)) : Out :=
 match T t with
 | some { under := .struct fs, zero := z, .. } =>
  let r := fillAV (placesAV T fs) (zeroAV z).cells parts
  ((∀ f ∈ fs.toList, T f.type ≠ none) ∧ r.1, .agg r.2)
 | some { under := .array _ e, zero := z, .. } => match T e with
  | some ti => let r := fillAV (fun i => some (i * ti.size, ti.size)) (zeroAV z).cells parts; (r.1, .agg r.2)
  | none => Out.bad
 | _ => Out.bad
def partAV (T : Tab) (t : TypeId) (cells : List AV) (off : Nat) : Out :=
 match T t with
 | some { under := .struct _, size := n, .. } => (True, .agg ((cells.drop off).take n))
 | some { under := .array _ _, size := n, .. } => (True, .agg ((cells.drop off).take n))
 | some _ => match cells[off]? with | some c => (True, c) | none => Out.bad
 | none => Out.bad
def fieldAV (T : Tab) (t : TypeId) (f : Nat) : AV → Out
 | .agg xs => match T t with
  | some { under := .struct fs, .. } => match fs[f]? with | some fd => partAV T fd.type xs fd.offset | none => Out.bad
  | _ => Out.bad
 | _ => Out.bad
def indexAV (T : Tab) (t : TypeId) (x ix : AV) : Out :=
 match x, ix, T t with
 | .agg xs, .pv (.raw (.int k i)), some { under := .array m e, .. } => match T e with
  | some ti => ((0 ≤ i ∧ i < m) ∧ (partAV T e xs (i.toNat * ti.size)).1, (partAV T e xs (i.toNat * ti.size)).2)
  | none => Out.bad
 | _, _, _ => Out.bad
def extractAV (i : Nat) : AV → Out
 | .tup xs => match xs[i]? with | some x => (True, x) | none => Out.bad
 | _ => Out.bad
def lenAV (T : Tab) (t : TypeId) (x : AV) : Out :=
 match T t with
 | some { under := .slice _, .. } => match x with
  | .pv (.ro _ n _) => (True, .i n)
  | .row _ _ _ n => (True, .i n)
  | .pv (.raw (.slice _ n _)) => (True, .i n)
  | _ => Out.bad
 | some { under := .array n _, .. } => (True, .i n)
 | some { under := .string, .. } => match x with
  | .pv (.raw (.string s)) => (True, .i s.size)
  | _ => Out.bad
 | _ => Out.bad
def minmaxAV (mx : Bool) : AV → AV → Out
 | .pv (.raw (.int k a)), .pv (.raw (.int k' b)) => (True, .raw (.int k (if mx then (if b > a then b else a) else (if b < a then b else a))))
 | _, _ => Out.bad
def mm3AV (mx : Bool) (a b c : AV) : Out := ((minmaxAV mx a b).1 ∧ (minmaxAV mx (minmaxAV mx a b).2 c).1, (minmaxAV mx (minmaxAV mx a b).2 c).2)
def bytesOf (xs : List Int) : ByteArray := xs.foldl (fun r n => r.push (UInt8.ofNat n.toNat)) ByteArray.empty
def byteAt : PV → Int
 | .raw (.int _ b) => b
 | _ => 0
def strOf (n : Nat) (c : Nat → Nat → PV) : ByteArray := bytesOf ((List.range n).map fun i => byteAt (c i 0))
def convAV (T : Tab) (src dst : TypeId) : AV → Out
 | .pv (.ro s n c) => match T src, T dst with
  | some { under := .slice e, .. }, some { under := .string, .. } => match T e with
   | some { under := .int .u8, .. } => (s = 1 ∧ ∀ i, i < n → c i 0 = .raw (.int .u8 (byteAt (c i 0))), .raw (.string (strOf n c)))
   | _ => Out.bad
  | _, _ => Out.bad
 | .pv (.raw (.int k n)) => match T src, T dst with
  | some { under := .int _, .. }, some { under := .int k', .. } => (True, .raw (.int k' (k'.wrap n)))
  | _, _ => Out.bad
 | _ => Out.bad
def pb (t a b : Bool) : Bool := bif t then a else b
def pickAV : AV → AV → AV → Out
 | .pv (.raw (.bool t)), .pv (.raw (.bool a)), .pv (.raw (.bool b)) => (True, .bool (pb t a b))
 | .pv (.raw (.bool t)), .gd p (.pv (.raw (.bool a))), .pv (.raw (.bool b)) => (t = true → p = true, .bool (pb t a b))
 | .pv (.raw (.bool t)), .pv (.raw (.bool a)), .gd q (.pv (.raw (.bool b))) => (t = false → q = true, .bool (pb t a b))
 | .pv (.raw (.bool t)), .gd p (.pv (.raw (.bool a))), .gd q (.pv (.raw (.bool b))) => ((t = true → p = true) ∧ (t = false → q = true), .bool (pb t a b))
 | _, _, _ => Out.bad
def AV.bare : AV → AV
 | .gd _ x => x
 | x => x
def AV.when : AV → Bool
 | .gd p _ => p
 | _ => true
def pureOut (T : Tab) (ev : Operand → AV) : Op → Option Out
 | .move x | .assign x => some (True, ev x)
 | .binOp op xT x y _ => some (binAV T op xT (ev x) (ev y))
 | .unOp op _ x => some (unAV op (ev x))
 | .fieldAddr s x f => some (fieldAddrAV T s f (ev x))
 | .indexAddr t x ix => some (indexAddrAV T t (ev x) (ev ix))
 | .slice t x lo hi mx => some (sliceAV T t (ev x) (lo.map ev) (hi.map ev) (mx.map ev))
 | .build t parts => some (buildAV T t (parts.toList.map fun p => (p.1, ev p.2)))
 | .field t x f => some (fieldAV T t f (ev x))
 | .index t x ix => some (indexAV T t (ev x) (ev ix))
 | .extract x i => some (extractAV i (ev x))
 | .convert s d x => match convAV T s d (ev x) with | (φ, v) => some (φ, v)
 | .makeFunc (.func f) first caps => some (first = #[], .fn f (caps.toList.map ev))
 | .nilCheck x => match ev x with | .ptr id off => some (True, .ptr id off) | .pix id off => some (True, .pix id off) | .roat n c => some (True, .roat n c) | _ => some Out.bad
 | .call { callee := .builtin .len, args := args, argTypes := ts } => match args.toList, ts.toList with | [x], [t] => some (lenAV T t (ev x)) | _, _ => some Out.bad
 | .call { callee := .builtin .max, args := args, .. } => match args.toList with | [x, y] => some (minmaxAV true (ev x) (ev y)) | [x, y, z] => some (mm3AV true (ev x) (ev y) (ev z)) | _ => some Out.bad
 | .call { callee := .builtin .min, args := args, .. } => match args.toList with | [x, y] => some (minmaxAV false (ev x) (ev y)) | [x, y, z] => some (mm3AV false (ev x) (ev y) (ev z)) | _ => some Out.bad
 | _ => none
end Go.Ab
set_option linter.unusedVariables false
set_option linter.unusedSimpArgs false
namespace Go.Ab
open Go.RowKit
section
variable {P : Program} {T : Tab} {ι : Emb} {R : Nat → Prop} {w : World}
theorem raw_inv {v u : Value} (h : RelA ι R w (.pv (.raw v)) u) : u = v := by simpa only [RelA, RelP] using h
theorem TabOk.under (hT : TabOk P T) {t : TypeId} {i : TI} (h : T t = some i) : P.underlying t = some i.under := (hT t i h).1
theorem TabOk.run_under (hT : TabOk P T) {t : TypeId} {i : TI} (h : T t = some i) : (underlying t).run P w = .ok i.under w := run_underlying (hT.under h) w
theorem TabOk.run_info (hT : TabOk P T) {t : TypeId} {i : TI} (h : T t = some i) : ∃ info, (typeInfo t).run P w = .ok info w ∧ info.size = i.size ∧ info.bytes = i.bytes ∧ info.zero = some i.zero := by
 obtain ⟨_, info, hi, h1, h2, h3, _⟩ := hT t i h
 exact ⟨info, by simp [typeInfo, hi], h1, h2, h3⟩
theorem TabOk.run_size (hT : TabOk P T) {t : TypeId} {i : TI} (h : T t = some i) : (sizeOf t).run P w = .ok i.size w := by
 obtain ⟨info, hi, h1, _⟩ := hT.run_info (w := w) h
 simp [sizeOf, hi, h1]
theorem TabOk.run_zero (hT : TabOk P T) {t : TypeId} {i : TI} (h : T t = some i) : (zeroValue t).run P w = .ok i.zero w := by
 obtain ⟨info, hi, _, _, h1⟩ := hT.run_info (w := w) h
 simp [zeroValue, hi, h1]
theorem add_none (g o n : Nat) : (⟨g, o, none⟩ : Addr).add n = ⟨g, o + n, none⟩ := by
 unfold Addr.add; split <;> simp_all
theorem intBin_run (op : BinOp) (xT : TypeId) (k k' : IntKind) (a b : Int) (hk : (op = .shl ∨ op = .shr) ∨ k = k') (h : (intBin op k a b).1) :
  (binOp op xT (.int k a) (.int k' b)).run P w = .ok (intBin op k a b).2 w := by
 rcases hk with hk | rfl
 ·rcases hk with rfl | rfl <;> simp only [intBin] at h ⊢ <;> simp [binOp, Op.shift, Int.not_lt.2 h]
 ·cases op <;> simp only [intBin] at h ⊢ <;> first
   | (simp [binOp, Op.shift, Int.not_lt.2 h]; done)
   | (simp [binOp, Op.intArith, Op.intDiv, Op.intBits, Op.intCmp, bitsOf, h]; done)
   | (simp [binOp, Op.intArith, Op.intDiv, Op.intBits, Op.intCmp, bitsOf]; done)
   | (simp [binOp, Op.intArith, Op.intDiv, Op.intBits, Op.intCmp, bitsOf]; rfl)
theorem run_equalIn_bool {t : TypeId} (h : P.underlying t = some .bool) (a b : Bool) (d : Nat) : (Op.equalIn (d + 1) t (.bool a) (.bool b)).run P w = .ok (a == b) w := by
 rw [Op.equalIn, Sem.run_bind, run_underlying h w]
 rfl
theorem run_equal_bool {t : TypeId} (h : P.underlying t = some .bool) (a b : Bool) : (Op.equal t (.bool a) (.bool b)).run P w = .ok (a == b) w :=
 run_equalIn_bool h a b 9999
def pval (u : TypeDesc) (us : List Value) : Value := match u with
 | .struct _ | .array _ _ => .agg us.toArray
 | _ => us.headD undef
theorem run_part_cells (hT : TabOk P T) {t : TypeId} {i : TI} (h : T t = some i) {cs : Array Value} {off : Nat} (hb : off + i.size ≤ cs.size) (h1 : (match i.under with | .struct _ | .array _ _ => true | _ => false) = true ∨ i.size = 1) :
  (part t cs off).run P w = .ok (pval i.under ((cs.toList.drop off).take i.size)) w := by
 have hag : (isAgg t).run P w = .ok (match i.under with | .struct _ | .array _ _ => true | _ => false) w := by
  unfold isAgg
  rw [Sem.run_bind, hT.run_under h]
  cases i.under <;> rfl
 have hx : ∀ n, (cs.extract off (off + n)) = ((cs.toList.drop off).take n).toArray := by
  intro n
  apply Array.ext'
  simp [Array.toList_extract, List.extract_eq_take_drop]
 unfold part
 cases hv : (match i.under with | .struct _ | .array _ _ => true | _ => false : Bool) with
 | true =>
  have hp : pval i.under ((cs.toList.drop off).take i.size) = .agg ((cs.toList.drop off).take i.size).toArray := by
   unfold pval
   split at hv <;> first | rfl | cases hv
  simp only [Sem.run_bind, hag, Result.andThen_ok, hv, if_true, hT.run_size h, Sem.run_pure, hx, hp]
 | false =>
  have hs : i.size = 1 := by
   rcases h1 with h1 | h1
   ·rw [hv] at h1; cases h1
   ·exact h1
  have hp : pval i.under ((cs.toList.drop off).take i.size) = ((cs.toList.drop off).take i.size).headD undef := by
   unfold pval
   split at hv <;> first | rfl | cases hv
  have hlt : off < cs.size := by omega
  have hget : cs[off]? = some cs[off] := by simp [hlt]
  have hh : ((cs.toList.drop off).take i.size).headD undef = cs[off] := by
   rw [hs]
   have : cs.toList.drop off = cs[off] :: cs.toList.drop (off + 1) := by
    rw [List.drop_eq_getElem_cons (by simpa using hlt)]; simp
   rw [this]; rfl
  simp only [Sem.run_bind, hag, Result.andThen_ok, hv, Bool.false_eq_true, if_false, hget, Sem.run_pure, hp, hh]
def CmpOk (P : Program) (T : Tab) (ι : Emb) (R : Nat → Prop) (w : World) (d : Nat) (c : TypeId → List AV → List AV → Prop × Bool) : Prop :=
 ∀ (t : TypeId) (ti : TI) (xs ys : List AV) (us vs : List Value), T t = some ti → RelL ι R w xs us → RelL ι R w ys vs → us.length = ti.size → vs.length = ti.size → (c t xs ys).1 →
  ((match ti.under with | .struct _ | .array _ _ => true | _ => false) = true ∨ ti.size = 1) ∧ (Op.equalIn d t (pval ti.under us) (pval ti.under vs)).run P w = .ok (c t xs ys).2 w
theorem sub_len {us : List Value} {off n : Nat} (h : off + n ≤ us.length) : ((us.drop off).take n).length = n := by
 rw [List.length_take, List.length_drop]; omega
theorem eqFs_sound (hT : TabOk P T) {d : Nat} {c : TypeId → List AV → List AV → Prop × Bool} (hc : CmpOk P T ι R w d c) {xs ys : List AV} {us vs : Array Value} (hx : RelL ι R w xs us.toList) (hy : RelL ι R w ys vs.toList) : ∀ (fs : List Field), (eqFs T c xs ys fs).1 → (Op.eqFields d us vs fs).run P w = .ok (eqFs T c xs ys fs).2 w
 | [], _ => rfl
 | f :: fs, h => by
  unfold eqFs at h ⊢
  split at h
  ·rename_i ti ht
   obtain ⟨hn, ⟨hb1, hb2⟩, h1, h⟩ := h
   rw [hx.length] at hb1
   rw [hy.length] at hb2
   obtain ⟨hk, hr⟩ := hc f.type ti _ _ _ _ ht ((hx.drop f.offset).take ti.size) ((hy.drop f.offset).take ti.size) (sub_len hb1) (sub_len hb2) h1
   simp only [ht, Op.eqFields, if_pos hn, Sem.run_bind, run_part_cells hT ht (cs := us) (by simpa using hb1) hk, run_part_cells hT ht (cs := vs) (by simpa using hb2) hk, Result.andThen_ok, hr, Sem.run_ite, eqFs_sound hT hc hx hy fs h]
   generalize (c f.type ((xs.drop f.offset).take ti.size) ((ys.drop f.offset).take ti.size)).2 = b
   cases b <;> simp
  ·exact h.elim
theorem eqAs_sound (hT : TabOk P T) {d : Nat} {c : TypeId → List AV → List AV → Prop × Bool} (hc : CmpOk P T ι R w d c) {e : TypeId} {ti : TI} (he : T e = some ti) {xs ys : List AV} {us vs : Array Value} (hx : RelL ι R w xs us.toList) (hy : RelL ι R w ys vs.toList) : ∀ (is : List Nat), (eqAs (c e) ti.size xs ys is).1 → (Op.eqItems d e ti.size us vs is).run P w = .ok (eqAs (c e) ti.size xs ys is).2 w
 | [], _ => rfl
 | i :: is, h => by
  unfold eqAs at h ⊢
  obtain ⟨⟨hb1, hb2⟩, h1, h⟩ := h
  rw [hx.length] at hb1
  rw [hy.length] at hb2
  obtain ⟨hk, hr⟩ := hc e ti _ _ _ _ he ((hx.drop (i * ti.size)).take ti.size) ((hy.drop (i * ti.size)).take ti.size) (sub_len hb1) (sub_len hb2) h1
  simp only [Op.eqItems, Sem.run_bind, run_part_cells hT he (cs := us) (by simpa using hb1) hk, run_part_cells hT he (cs := vs) (by simpa using hb2) hk, Result.andThen_ok, hr, Sem.run_ite, eqAs_sound hT hc he hx hy is h]
  generalize (c e ((xs.drop (i * ti.size)).take ti.size) ((ys.drop (i * ti.size)).take ti.size)).2 = b
  cases b <;> simp
theorem run_equalIn_string' {t : TypeId} (h : P.underlying t = some .string) (a b : ByteArray) (d : Nat) : (Op.equalIn (d + 1) t (.string a) (.string b)).run P w = .ok (a.toList == b.toList) w := by
 rw [Op.equalIn, Sem.run_bind, run_underlying h w]
 simp only [Result.andThen_ok, Sem.run_pure]
 rw [beq_toListBytes]
theorem one_cell {x : AV} {us : List Value} {n : Nat} (h : RelL ι R w [x] us) (hl : us.length = n) : ∃ u, us = [u] ∧ RelA ι R w x u ∧ n = 1 := by
 cases us with
 | nil => simp [RelL] at h
 | cons u us =>
  simp only [RelL] at h
  cases us with
  | nil => exact ⟨u, rfl, h.1, hl.symm⟩
  | cons v us => simp [RelL] at h
theorem eqC_sound (hT : TabOk P T) : ∀ (n d : Nat), CmpOk P T ι R w (d + n) (eqC T n)
 | 0, d => fun t ti xs ys us vs _ _ _ _ _ h => by unfold eqC at h; exact h.elim
 | n + 1, d => by
  intro t ti xs ys us vs ht hx hy hlu hlv h
  have ih := eqC_sound hT n d
  have hu := hT.under ht
  unfold eqC at h ⊢
  split at h
  ·rename_i ht'
   rw [ht] at ht'
   obtain rfl := Option.some.inj ht'
   split at h
   ·obtain ⟨u, rfl, hru, hs⟩ := one_cell hx hlu
    obtain ⟨v, rfl, hrv, _⟩ := one_cell hy hlv
    rw [raw_inv hru, raw_inv hrv]
    exact ⟨.inr hs.symm.symm, by simp only [ht]; exact run_equalIn_bool' w (d + n) t _ _ hu⟩
   ·exact h.elim
  ·rename_i ht'
   rw [ht] at ht'
   obtain rfl := Option.some.inj ht'
   split at h
   ·obtain ⟨u, rfl, hru, hs⟩ := one_cell hx hlu
    obtain ⟨v, rfl, hrv, _⟩ := one_cell hy hlv
    obtain rfl := h
    rw [raw_inv hru, raw_inv hrv]
    exact ⟨.inr hs, by simp only [ht]; exact run_equalIn_int w (d + n) t _ _ _ _ hu⟩
   ·exact h.elim
  ·rename_i ht'
   rw [ht] at ht'
   obtain rfl := Option.some.inj ht'
   split at h
   ·obtain ⟨u, rfl, hru, hs⟩ := one_cell hx hlu
    obtain ⟨v, rfl, hrv, _⟩ := one_cell hy hlv
    rw [raw_inv hru, raw_inv hrv]
    exact ⟨.inr hs, by simp only [ht]; exact run_equalIn_string' hu _ _ (d + n)⟩
   ·exact h.elim
  ·rename_i fs _ _ _ ht'
   rw [ht] at ht'
   obtain rfl := Option.some.inj ht'
   refine ⟨.inl rfl, ?_⟩
   obtain ⟨_, _, _, _, _, _, hc⟩ := hT t _ ht
   have hf : P.fieldsOf t = fs := by unfold Program.fieldsOf; rw [hu]
   have := run_equalIn_struct (P := P) w (d + n) t us.toArray vs.toArray (by rw [hf]; exact hu) (hc rfl).1
   rw [hf] at this
   simp only [ht]
   exact this.trans (eqFs_sound hT ih (by simpa using hx) (by simpa using hy) _ h)
  ·rename_i m e _ _ _ _ ht'
   rw [ht] at ht'
   obtain rfl := Option.some.inj ht'
   split at h
   ·rename_i te he
    refine ⟨.inl rfl, ?_⟩
    obtain ⟨_, info, hi, h1, _⟩ := hT e te he
    have hc : P.cellsOf e = te.size := by unfold Program.cellsOf; rw [hi]; exact h1
    have := run_equalIn_array (P := P) w (d + n) us.toArray vs.toArray hu hi
    rw [hc] at this
    simp only [ht, he]
    exact this.trans (eqAs_sound hT ih he (by simpa using hx) (by simpa using hy) _ h)
   ·exact h.elim
  ·exact h.elim
theorem equal_struct (hT : TabOk P T) {t : TypeId} {fs : Array Field} {s b : Nat} {z : Value} (ht : T t = some { under := .struct fs, size := s, bytes := b, zero := z, cmp := true }) {xs ys : List AV} {us vs : Array Value} (hx : RelL ι R w xs us.toList) (hy : RelL ι R w ys vs.toList) (h : (eqF T xs ys fs.toList).1) :
  (Op.equalIn 10000 t (.agg us) (.agg vs)).run P w = .ok (eqF T xs ys fs.toList).2 w := by
 obtain ⟨hu, _, _, _, _, _, hc⟩ := hT t _ ht
 have hf : P.fieldsOf t = fs := by unfold Program.fieldsOf; rw [hu]
 have := run_equalIn_struct (P := P) w 9999 t us vs (by rw [hf]; exact hu) (hc rfl).1
 rw [hf] at this
 exact this.trans (eqFs_sound hT (eqC_sound hT 5 9994) hx hy _ h)
theorem equal_array (hT : TabOk P T) {t e : TypeId} {m s b : Nat} {z : Value} {cm : Bool} {ti : TI} (ht : T t = some { under := .array m e, size := s, bytes := b, zero := z, cmp := cm }) (he : T e = some ti) {xs ys : List AV} {us vs : Array Value} (hx : RelL ι R w xs us.toList) (hy : RelL ι R w ys vs.toList) (h : (eqA T e ti.size xs ys (List.range m)).1) :
  (Op.equalIn 10000 t (.agg us) (.agg vs)).run P w = .ok (eqA T e ti.size xs ys (List.range m)).2 w := by
 obtain ⟨_, info, hi, h1, _⟩ := hT e ti he
 have hc : P.cellsOf e = ti.size := by unfold Program.cellsOf; rw [hi]; exact h1
 have := run_equalIn_array (P := P) w 9999 us vs (hT.under ht) hi
 rw [hc] at this
 exact this.trans (eqAs_sound hT (eqC_sound hT 5 9994) he hx hy _ h)
theorem bin_sound (hT : TabOk P T) (op : BinOp) (xT : TypeId) (x y : Operand) {a b : AV} {u u' : Value} (ha : RelA ι R w a u) (hb : RelA ι R w b u') (h : (binAV T op xT a b).1) :
  ∃ r, (do eqGuard op xT x y u u'; binOp op xT u u' : Sem Value).run P w = .ok r w ∧ RelA ι R w (binAV T op xT a b).2 r := by
 have heq : ∀ (u u' : Value), (u ≠ .nilIface) → (∀ cs, u ≠ .agg cs) → (eqGuard op xT x y u u').run P w = .ok () w := by
  intro u u' h1 h2
  cases op <;> cases u <;> first | rfl | exact absurd rfl h1 | exact absurd rfl (h2 _)
 unfold binAV at h ⊢
 split at h
 ·rename_i k a' k' b'
  simp only [raw_inv ha, raw_inv hb]
  refine ⟨(intBin op k a' b').2, ?_, by simp only [RelA, RelP]⟩
  rw [Sem.run_bind, heq _ _ (by intro h; cases h) (by intro cs h; cases h)]
  exact intBin_run op xT k k' a' b' h.1 h.2
 ·rename_i a' b'
  simp only [raw_inv ha, raw_inv hb]
  split at h
  ·rename_i ht
   refine ⟨.bool (a' == b'), ?_, by simp only [RelA, RelP]⟩
   rw [Sem.run_bind, heq _ _ (by intro h; cases h) (by intro cs h; cases h)]
   show (do pure (.bool (← Op.equal xT (.bool a') (.bool b'))) : Sem Value).run P w = _
   simp only [Sem.run_bind, run_equal_bool (hT.under ht), Result.andThen_ok, Sem.run_pure]
  ·rename_i ht
   refine ⟨.bool (a' != b'), ?_, by simp only [RelA, RelP]⟩
   rw [Sem.run_bind, heq _ _ (by intro h; cases h) (by intro cs h; cases h)]
   show (do pure (.bool (!(← Op.equal xT (.bool a') (.bool b')))) : Sem Value).run P w = _
   simp only [Sem.run_bind, run_equal_bool (hT.under ht), Result.andThen_ok, Sem.run_pure]
   rfl
  ·exact h.elim
 ·rename_i a' b'
  simp only [raw_inv ha, raw_inv hb]
  split at h
  ·refine ⟨.bool (a'.toList == b'.toList), ?_, by simp only [RelA, RelP]⟩
   rw [Sem.run_bind, heq _ _ (by intro h; cases h) (by intro cs h; cases h)]
   rfl
  ·refine ⟨.bool (!(a'.toList == b'.toList)), ?_, by simp only [RelA, RelP]⟩
   rw [Sem.run_bind, heq _ _ (by intro h; cases h) (by intro cs h; cases h)]
   rfl
  ·have h : a'.size + b'.size ≤ 9223372036854775807 := h
   refine ⟨.string (a' ++ b'), ?_, by simp only [RelA, RelP]⟩
   rw [Sem.run_bind, heq _ _ (by intro h; cases h) (by intro cs h; cases h)]
   show (Op.stringOp .add a' b').run P w = _
   simp only [Op.stringOp]
   rw [if_neg (by show ¬ ((a'.size + b'.size : Nat) : Int) > IntKind.i64.max; simp only [IntKind.max, IntKind.signed, IntKind.bits]; omega)]
   rfl
  ·exact h.elim
 ·rename_i xs ys
  simp only [RelA] at ha hb
  obtain ⟨us, rfl, ha⟩ := ha
  obtain ⟨vs, rfl, hb⟩ := hb
  split at h
  ·rename_i fs _ _ _ ht
   refine ⟨.bool (eqF T xs ys fs.toList).2, ?_, by simp only [RelA, RelP]⟩
   obtain ⟨_, _, _, _, _, _, hc⟩ := hT _ _ ht
   rw [Sem.run_bind, run_eqGuard_agg w _ xT x y us vs (hc rfl).2, Result.andThen_ok, run_eql_struct, equal_struct hT ht ha hb h]
   rfl
  ·rename_i fs _ _ _ ht
   refine ⟨.bool (!(eqF T xs ys fs.toList).2), ?_, by simp only [RelA, RelP]⟩
   obtain ⟨_, _, _, _, _, _, hc⟩ := hT _ _ ht
   rw [Sem.run_bind, run_eqGuard_agg w _ xT x y us vs (hc rfl).2, Result.andThen_ok, run_neq_struct, equal_struct hT ht ha hb h]
   rfl
  ·rename_i m e _ _ _ ht
   split at h
   ·rename_i ti he
    refine ⟨.bool (eqA T e ti.size xs ys (List.range m)).2, ?_, by simp only [RelA, RelP]⟩
    obtain ⟨_, _, _, _, _, _, hc⟩ := hT _ _ ht
    rw [Sem.run_bind, run_eqGuard_agg w _ xT x y us vs (hc rfl).2, Result.andThen_ok, run_eql_struct, equal_array hT ht he ha hb h]
    rfl
   ·exact h.elim
  ·rename_i m e _ _ _ ht
   split at h
   ·rename_i ti he
    refine ⟨.bool (!(eqA T e ti.size xs ys (List.range m)).2), ?_, by simp only [RelA, RelP]⟩
    obtain ⟨_, _, _, _, _, _, hc⟩ := hT _ _ ht
    rw [Sem.run_bind, run_eqGuard_agg w _ xT x y us vs (hc rfl).2, Result.andThen_ok, run_neq_struct, equal_array hT ht he ha hb h]
    rfl
   ·exact h.elim
  ·exact h.elim
 ·rename_i id off
  simp only [RelA] at ha
  obtain ⟨g, c, hi, rfl⟩ := ha
  obtain rfl := raw_inv hb
  split at h
  ·rename_i ht
   refine ⟨.bool false, ?_, by simp only [RelA, RelP]⟩
   rw [Sem.run_bind, heq _ _ (by intro h; cases h) (by intro cs h; cases h)]
   show (do pure (.bool (← Op.equal xT (.pointer (some ⟨g, off + c.base, none⟩)) (.pointer none))) : Sem Value).run P w = _
   have : (Op.equal xT (.pointer (some ⟨g, off + c.base, none⟩)) (.pointer none)).run P w = .ok false w := by
    show (Op.equalIn (9999 + 1) xT _ _).run P w = _
    unfold Op.equalIn
    simp [run_underlying (hT.under ht)]
   simp only [Sem.run_bind, this, Result.andThen_ok, Sem.run_pure]
  ·rename_i ht
   refine ⟨.bool true, ?_, by simp only [RelA, RelP]⟩
   rw [Sem.run_bind, heq _ _ (by intro h; cases h) (by intro cs h; cases h)]
   show (do pure (.bool (!(← Op.equal xT (.pointer (some ⟨g, off + c.base, none⟩)) (.pointer none)))) : Sem Value).run P w = _
   have : (Op.equal xT (.pointer (some ⟨g, off + c.base, none⟩)) (.pointer none)).run P w = .ok false w := by
    show (Op.equalIn (9999 + 1) xT _ _).run P w = _
    unfold Op.equalIn
    simp [run_underlying (hT.under ht)]
   simp only [Sem.run_bind, this, Result.andThen_ok, Sem.run_pure]
   rfl
  ·exact h.elim
 ·obtain rfl := raw_inv ha
  obtain rfl := raw_inv hb
  have this : ∀ e, P.underlying xT = some (.pointer e) → (Op.equal xT (.pointer none) (.pointer none)).run P w = .ok true w := by
   intro e he
   show (Op.equalIn (9999 + 1) xT _ _).run P w = _
   unfold Op.equalIn
   simp [run_underlying he]
  split at h
  ·rename_i ht
   refine ⟨.bool true, ?_, by simp only [RelA, RelP]⟩
   rw [Sem.run_bind, heq _ _ (by intro h; cases h) (by intro cs h; cases h)]
   show (do pure (.bool (← Op.equal xT (.pointer none) (.pointer none))) : Sem Value).run P w = _
   simp only [Sem.run_bind, this _ (hT.under ht), Result.andThen_ok, Sem.run_pure]
  ·rename_i ht
   refine ⟨.bool false, ?_, by simp only [RelA, RelP]⟩
   rw [Sem.run_bind, heq _ _ (by intro h; cases h) (by intro cs h; cases h)]
   show (do pure (.bool (!(← Op.equal xT (.pointer none) (.pointer none)))) : Sem Value).run P w = _
   simp only [Sem.run_bind, this _ (hT.under ht), Result.andThen_ok, Sem.run_pure]
   rfl
  ·exact h.elim
 ·exact h.elim
theorem un_sound (op : UnOp) {a : AV} {u : Value} (ha : RelA ι R w a u) (h : (unAV op a).1) :
  ∃ r, (Op.unary op u).run P w = .ok r w ∧ RelA ι R w (unAV op a).2 r := by
 unfold unAV at h ⊢
 split at h
 ·simp only [raw_inv ha]
  cases op <;> simp only at h ⊢ <;> first | exact h.elim | exact ⟨_, rfl, by simp only [RelA, RelP]⟩
 ·simp only [raw_inv ha]
  cases op <;> simp only at h ⊢ <;> first | exact h.elim | exact ⟨_, rfl, by simp only [RelA, RelP, bitsOf]⟩
 ·exact h.elim
theorem fieldAddr_sound (hT : TabOk P T) (s : TypeId) (f : Nat) {a : AV} {u : Value} (ha : RelA ι R w a u) (h : (fieldAddrAV T s f a).1) :
  ∃ r, (Instr.fieldAt s u f).run P w = .ok r w ∧ RelA ι R w (fieldAddrAV T s f a).2 r := by
 unfold fieldAddrAV at h ⊢
 split at h
 ·rename_i fs _ _ _ _ hs
  split at h
  ·rename_i fd hf
   split at h
   ·rename_i ti id off ht
    simp only [RelA] at ha
    obtain ⟨g, c, hi, rfl⟩ := ha
    refine ⟨.pointer (some ⟨g, off + c.base + fd.offset, none⟩), ?_, by simp only [RelA]; exact ⟨g, c, hi, by rw [Nat.add_right_comm]⟩⟩
    have h' : ti.size ≠ 0 := h
    simp [Instr.fieldAt, hT.run_under hs, hf, Instr.sureAddr, fieldPlace, hT.run_size ht, h', add_none]
   ·rename_i ti id off ht
    simp only [RelA] at ha
    obtain ⟨g, c, hi, rfl⟩ := ha
    refine ⟨.pointer (some ⟨g, off + c.base + fd.offset, none⟩), ?_, by simp only [RelA]; exact ⟨g, c, hi, by rw [Nat.add_right_comm]⟩⟩
    have h' : ti.size ≠ 0 := h
    simp [Instr.fieldAt, hT.run_under hs, hf, Instr.sureAddr, fieldPlace, hT.run_size ht, h', add_none]
   ·rename_i ti n cell ht
    simp only [RelA] at ha
    obtain ⟨g, o, rfl, hg, hc⟩ := ha
    refine ⟨.pointer (some ⟨g, o + fd.offset, none⟩), ?_, ?_⟩
    ·have h' : ti.size ≠ 0 := h
     simp [Instr.fieldAt, hT.run_under hs, hf, Instr.sureAddr, fieldPlace, hT.run_size ht, h', add_none]
    ·simp only [RelA]
     refine ⟨g, o + fd.offset, rfl, hg, fun j hj => ?_⟩
     obtain ⟨x, hx⟩ := hc (fd.offset + j) (by omega)
     exact ⟨x, by rw [show o + fd.offset + j = o + (fd.offset + j) by omega]; exact hx⟩
   ·exact h.elim
  ·exact h.elim
 ·exact h.elim
theorem indexAddr_sound (hT : TabOk P T) (t : TypeId) {a b : AV} {u u' : Value} (ha : RelA ι R w a u) (hb : RelA ι R w b u') (h : (indexAddrAV T t a b).1) :
  ∃ r, (Instr.indexAt t u u').run P w = .ok r w ∧ RelA ι R w (indexAddrAV T t a b).2 r := by
 unfold indexAddrAV at h ⊢
 split at h
 ·rename_i k i
  obtain rfl := raw_inv hb
  split at h
  ·rename_i e _ _ _ _ ht
   split at h
   ·rename_i ti s n cell he
    obtain ⟨rfl, h0, h1⟩ := h
    simp only [RelA, RelP] at ha
    obtain ⟨a, cap, rfl, hc, hn, ha⟩ := ha
    obtain ⟨g, o, rfl, hg, ha⟩ := ha (by omega)
    refine ⟨.pointer (some ⟨g, o + i.toNat * ti.size, none⟩), ?_, ?_⟩
    ·simp [Instr.indexAt, asIntOf, hT.run_under ht, h0, h1, hT.run_size he, add_none]
    ·simp only [RelA]
     exact ⟨g, _, rfl, hg, fun j hj => ha i.toNat (by omega) j hj⟩
   ·rename_i ti id s off len he
    obtain ⟨rfl, h0, h1⟩ := h
    simp only [RelA] at ha
    rcases ha with ⟨_, _, rfl, _⟩ | ⟨g, c, a, hi, rfl, hl, ha⟩
    ·omega
    ·obtain rfl := ha (by omega)
     refine ⟨.pointer (some ⟨g, off * ti.size + c.base + i.toNat * ti.size, none⟩), ?_, ?_⟩
     ·simp [Instr.indexAt, asIntOf, hT.run_under ht, h0, h1, hT.run_size he, add_none]
     ·simp only [RelA]
      exact ⟨g, c, hi, by rw [Nat.add_mul, Nat.add_right_comm]⟩
   ·exact h.elim
  ·rename_i m e _ _ _ _ ht
   split at h
   ·rename_i ti id off he
    obtain ⟨h0, h1⟩ := h
    simp only [RelA] at ha
    obtain ⟨g, c, hi, rfl⟩ := ha
    refine ⟨.pointer (some ⟨g, off + c.base + i.toNat * ti.size, none⟩), ?_, by simp only [RelA]; exact ⟨g, c, hi, by rw [Nat.add_right_comm]⟩⟩
    simp [Instr.indexAt, asIntOf, hT.run_under ht, h0, h1, hT.run_size he, add_none, Instr.sureAddr]
   ·rename_i ti id off he
    obtain ⟨h0, h1⟩ := h
    simp only [RelA] at ha
    obtain ⟨g, c, hi, rfl⟩ := ha
    refine ⟨.pointer (some ⟨g, off + c.base + i.toNat * ti.size, none⟩), ?_, by simp only [RelA]; exact ⟨g, c, hi, by rw [Nat.add_right_comm]⟩⟩
    simp [Instr.indexAt, asIntOf, hT.run_under ht, h0, h1, hT.run_size he, add_none, Instr.sureAddr]
   ·rename_i ti n cell he
    obtain ⟨h0, h1⟩ := h
    simp only [RelA] at ha
    obtain ⟨g, o, rfl, hg, hc⟩ := ha
    refine ⟨.pointer (some ⟨g, o + i.toNat * ti.size, none⟩), ?_, ?_⟩
    ·simp [Instr.indexAt, asIntOf, hT.run_under ht, h0, h1, hT.run_size he, add_none, Instr.sureAddr]
    ·simp only [RelA]
     refine ⟨g, _, rfl, hg, fun j hj => ?_⟩
     obtain ⟨x, hx⟩ := hc (i.toNat * ti.size + j) (by omega)
     exact ⟨x, by rw [show o + i.toNat * ti.size + j = o + (i.toNat * ti.size + j) by omega]; exact hx⟩
   ·exact h.elim
  ·exact h.elim
 ·exact h.elim
end
end Go.Ab
set_option linter.unusedVariables false
set_option linter.unusedSimpArgs false
namespace Go.Ab
open Go.RowKit
section
variable {P : Program} {T : Tab} {ι : Emb} {R : Nat → Prop} {w : World}
def RelO (ι : Emb) (R : Nat → Prop) (w : World) : Option AV → Option Value → Prop
  | none, none => True
  | some a, some u => RelA ι R w a u
  | _, _ => False
theorem bound_key : ∀ (d y : Nat) (b : Option AV) (u : Value) (code : BoundsCode), RelO ι R w b (some u) → (boundAV d b).1 → (boundAV d b).2 ≤ y → (Instr.sliceBound u y code).run P w = .ok (boundAV d b).2 w := by
  intro d y b u code hr h1 h2
  match b, hr with
  | some (.pv (.raw v)), hr =>
    simp only [RelO] at hr
    obtain rfl := raw_inv hr
    cases u <;> simp only [boundAV] at h1 h2 ⊢ <;> first
      | exact h1.elim
      | (simp only [Instr.sliceBound, asIntOf, Sem.run_bind, Sem.run_pure, Result.andThen_ok, Sem.run_ite]
         rw [if_pos ⟨h1, by omega⟩])
  | some (.pv (.ro _ _ _)), hr => exact h1.elim
  | some (.ptr _ _), hr => exact h1.elim
  | some (.row _ _ _ _), hr => exact h1.elim
  | some (.roat _ _), hr => exact h1.elim
  | some (.agg _), hr => exact h1.elim
  | some (.tup _), hr => exact h1.elim
  | some (.fn _ _), hr => exact h1.elim
  | some (.gd _ _), hr => exact h1.elim
  | some .junk, hr => exact h1.elim
  | none, hr => exact hr.elim
theorem bounds_sound {sl : Bool} {lo hi : Option AV} {ul uh : Option Value} (hl : RelO ι R w lo ul) (hh : RelO ι R w hi uh) (n len cap : Nat) (hnc : len ≤ cap)
    (h : (boundAV 0 lo).1 ∧ (boundAV len hi).1 ∧ (boundAV 0 lo).2 ≤ (boundAV len hi).2 ∧ (boundAV len hi).2 ≤ len) :
    (Instr.sliceBounds sl len cap ul uh none).run P w = .ok ((boundAV 0 lo).2, (boundAV len hi).2, cap) w := by
  have key := @bound_key P ι R w
  obtain ⟨h1, h2, h3, h4⟩ := h
  unfold Instr.sliceBounds
  cases ul with
  | none =>
    cases lo with
    | some a => exact hl.elim
    | none =>
      cases uh with
      | none =>
        cases hi with
        | some a => exact hh.elim
        | none => simp [boundAV]
      | some u => simp [key len cap hi u _ hh h2 (by omega), boundAV]
  | some u' =>
    cases uh with
    | none =>
      cases hi with
      | some a => exact hh.elim
      | none =>
        have := key 0 len lo u' .sliceB hl h1 (by simpa [boundAV] using h3)
        simp [this, boundAV]
    | some u =>
      have e1 := fun code => key len cap hi u code hh h2 (by omega)
      have e2 := key 0 (boundAV len hi).2 lo u' .sliceB hl h1 h3
      simp [e1, e2]
theorem bounds_sound3 {lo hi : Option AV} {m : AV} {ul uh : Option Value} {um : Value} (hl : RelO ι R w lo ul) (hh : RelO ι R w hi uh) (hm : RelA ι R w m um) (n len cap : Nat) (hnc : len ≤ cap) (hs : hi.isSome = true)
    (h : (boundAV 0 lo).1 ∧ (boundAV len hi).1 ∧ (boundAV 0 (some m)).1 ∧ (boundAV 0 lo).2 ≤ (boundAV len hi).2 ∧ (boundAV len hi).2 ≤ (boundAV 0 (some m)).2 ∧ (boundAV 0 (some m)).2 ≤ len) :
    (Instr.sliceBounds true len cap ul uh (some um)).run P w = .ok ((boundAV 0 lo).2, (boundAV len hi).2, (boundAV 0 (some m)).2) w := by
  have key := @bound_key P ι R w
  obtain ⟨h1, h2, h3, h4, h5, h6⟩ := h
  have e0 := key 0 cap (some m) um .slice3Acap hm h3 (by omega)
  unfold Instr.sliceBounds
  cases hi with
  | none => cases hs
  | some a =>
  cases uh with
  | none => exact hh.elim
  | some u =>
  have e1 := key len (boundAV 0 (some m)).2 (some a) u .slice3B hh h2 h5
  cases ul with
  | none =>
    cases lo with
    | some a => exact hl.elim
    | none => simp [e0, e1, show boundAV 0 none = (True, 0) from rfl]
  | some u' =>
    have e2 := key 0 (boundAV len (some a)).2 lo u' .slice3C hl h1 h4
    simp [e0, e1, e2]
theorem slice_sound (hT : TabOk P T) (t : TypeId) {x : AV} {u : Value} {lo hi mx : Option AV} {ul uh um : Option Value} (hx : RelA ι R w x u) (hl : RelO ι R w lo ul) (hh : RelO ι R w hi uh) (hm : RelO ι R w mx um)
    (h : (sliceAV T t x lo hi mx).1) : ∃ r, (Instr.sliceAt t u ul uh um).run P w = .ok r w ∧ RelA ι R w (sliceAV T t x lo hi mx).2 r := by
  unfold sliceAV at h ⊢
  cases mx with
  | some m =>
    cases um with
    | none => exact hm.elim
    | some um =>
    simp only at h ⊢
    split at h
    · rename_i e _ _ _ _ ht
      split at h
      · rename_i ti s n cell he
        obtain ⟨rfl, hs, h⟩ := h
        simp only [RelA, RelP] at hx
        obtain ⟨a, cap, rfl, hc, hn, hx⟩ := hx
        have hb := bounds_sound3 (P := P) hl hh hm 0 n cap hc hs h
        generalize (boundAV 0 lo).2 = l at *
        generalize (boundAV n hi).2 = hh' at *
        generalize (boundAV 0 (some m)).2 = q at *
        obtain ⟨_, _, _, h3, h4, h5⟩ := h
        refine ⟨.slice (if q = l then a else a.map (·.add (l * ti.size))) (hh' - l) (q - l), ?_, ?_⟩
        · simp [Instr.sliceAt, Instr.slice, hT.run_under ht, hb, hT.run_size he]
        · simp only [RelA, RelP]
          refine ⟨_, _, rfl, by omega, by omega, fun h0 => ?_⟩
          obtain ⟨g, o, rfl, hg, hx⟩ := hx (by omega)
          rw [if_neg (by omega)]
          refine ⟨g, o + l * ti.size, by simp [add_none], hg, fun i hi j hj => ?_⟩
          have := hx (l + i) (by omega) j hj
          rw [show o + l * ti.size + i * ti.size + j = o + (l + i) * ti.size + j by rw [Nat.add_mul]; omega]
          exact this
      · exact h.elim
    · exact h.elim
  | none =>
  cases um with
  | some m => exact hm.elim
  | none =>
  simp only at h ⊢
  split at h
  · rename_i e _ _ _ _ ht
    split at h
    · rename_i ti s n cell he
      obtain ⟨rfl, h⟩ := h
      simp only [RelA, RelP] at hx
      obtain ⟨a, cap, rfl, hc, hn, hx⟩ := hx
      have hb := bounds_sound (P := P) (sl := true) hl hh 0 n cap hc h
      generalize (boundAV 0 lo).2 = l at *
      generalize (boundAV n hi).2 = hh' at *
      obtain ⟨_, _, h3, h4⟩ := h
      refine ⟨.slice (if cap = l then a else a.map (·.add (l * ti.size))) (hh' - l) (cap - l), ?_, ?_⟩
      · simp [Instr.sliceAt, Instr.slice, hT.run_under ht, hb, hT.run_size he]
      · simp only [RelA, RelP]
        refine ⟨_, _, rfl, by omega, by omega, fun h0 => ?_⟩
        obtain ⟨g, o, rfl, hg, hx⟩ := hx (by omega)
        rw [if_neg (by omega)]
        refine ⟨g, o + l * ti.size, by simp [add_none], hg, fun i hi j hj => ?_⟩
        have := hx (l + i) (by omega) j hj
        rw [show o + l * ti.size + i * ti.size + j = o + (l + i) * ti.size + j by rw [Nat.add_mul]; omega]
        exact this
    · rename_i ti id s off len he
      obtain ⟨rfl, h⟩ := h
      simp only [RelA] at hx
      rcases hx with ⟨hid, rfl, rfl, rfl⟩ | ⟨g, c, a, hid, rfl, hlc, h1⟩
      · have hb := bounds_sound (P := P) (sl := true) hl hh 0 0 0 (Nat.le_refl _) h
        generalize (boundAV 0 lo).2 = l at *
        generalize (boundAV 0 hi).2 = hh' at *
        obtain ⟨_, _, h3, h4⟩ := h
        obtain rfl : hh' = 0 := by omega
        obtain rfl : l = 0 := by omega
        refine ⟨.slice none 0 0, ?_, ?_⟩
        · simp [Instr.sliceAt, Instr.slice, hT.run_under ht, hb, hT.run_size he]
        · simp only [RelA]
          exact .inl ⟨hid, by simp, by simp, by simp⟩
      · have hb := bounds_sound (P := P) (sl := true) hl hh 0 len (c.cap - off) (by omega) h
        generalize (boundAV 0 lo).2 = l at *
        generalize (boundAV len hi).2 = hh' at *
        obtain ⟨_, _, h3, h4⟩ := h
        refine ⟨.slice (if c.cap - off = l then a else a.map (·.add (l * ti.size))) (hh' - l) (c.cap - off - l), ?_, ?_⟩
        · simp [Instr.sliceAt, Instr.slice, hT.run_under ht, hb, hT.run_size he]
        · simp only [RelA]
          refine .inr ⟨g, c, _, hid, by rw [show c.cap - off - l = c.cap - (off + l) by omega], by omega, fun h5 => ?_⟩
          obtain rfl := h1 (by omega)
          rw [if_neg (by omega)]
          simp [add_none, Nat.add_mul, Nat.add_right_comm]
    · exact h.elim
  · rename_i _ _ _ _ ht
    split at h
    · rename_i str
      obtain rfl := raw_inv hx
      have hb := bounds_sound (P := P) (sl := false) hl hh 0 str.size str.size (Nat.le_refl _) h
      refine ⟨.string (str.extract (boundAV 0 lo).2 (boundAV str.size hi).2), ?_, by simp only [RelA, RelP]⟩
      simp [Instr.sliceAt, Instr.slice, hT.run_under ht, hb]
    · exact h.elim
  · rename_i m e _ _ _ _ ht
    split at h
    · rename_i ti n cell he
      obtain ⟨hm, hm2, h⟩ := h
      simp only [RelA] at hx
      obtain ⟨g, o, rfl, hg, hx⟩ := hx
      have hb := bounds_sound (P := P) (sl := false) hl hh 0 m m (Nat.le_refl _) h
      generalize (boundAV 0 lo).2 = l at *
      generalize (boundAV m hi).2 = hh' at *
      obtain ⟨_, _, h3, h4⟩ := h
      refine ⟨.slice (some (if m = l then ⟨g, o, none⟩ else (⟨g, o, none⟩ : Addr).add (l * ti.size))) (hh' - l) (m - l), ?_, ?_⟩
      · simp [Instr.sliceAt, hT.run_under ht, hb, hT.run_size he, Instr.sureAddr]
      · simp only [RelA, RelP]
        refine ⟨_, _, rfl, by omega, by omega, fun h0 => ?_⟩
        rw [if_neg (by omega)]
        refine ⟨g, o + l * ti.size, by simp [add_none], hg, fun i hi j hj => ?_⟩
        have hlt : (l + i) * ti.size + j < n := by
          have : (l + i + 1) * ti.size ≤ m * ti.size := Nat.mul_le_mul_right _ (by omega)
          rw [Nat.add_mul (l + i) 1] at this
          omega
        have := hx _ hlt
        rw [show o + l * ti.size + i * ti.size + j = o + ((l + i) * ti.size + j) by rw [Nat.add_mul]; omega]
        exact this
    · exact h.elim
  · exact h.elim
theorem RelL.cellsOf {v : AV} {u : Value} (h : RelA ι R w v u) (h1 : (v.one || v.isAgg) = true) : RelL ι R w v.cells u.cells.toList := by
  rcases Bool.or_eq_true_iff.1 h1 with h1 | h1
  · have h2 := RelA.one h h1
    have : v.cells = [v] := by cases v <;> first | rfl | simp [AV.one] at h1
    rw [this]
    have : u.cells = #[u] := by cases u <;> first | rfl | simp [Value.oneCell'] at h2
    rw [this]
    simp only [RelL]
    exact ⟨h, trivial⟩
  · cases v <;> first | (simp [AV.isAgg] at h1; done) | skip
    simp only [RelA] at h
    obtain ⟨us, rfl, h⟩ := h
    exact h
theorem setCells_sound : ∀ (cs : List AV) (us : List Value) (cells : List AV) (vs : Array Value) (off : Nat), RelL ι R w cs us → RelL ι R w cells vs.toList →
    RelL ι R w (setCells cells off cs) ((us.zipIdx).foldl (fun acc (c, j) => acc.setIfInBounds (off + j) c) vs).toList := by
  have key : ∀ (cs : List AV) (us : List Value) (cells : List AV) (vs : Array Value) (off k : Nat), RelL ι R w cs us → RelL ι R w cells vs.toList →
      RelL ι R w (setCells cells (off + k) cs) ((us.zipIdx k).foldl (fun acc (c, j) => acc.setIfInBounds (off + j) c) vs).toList := by
    intro cs
    induction cs with
    | nil =>
      intro us cells vs off k h h'
      cases us with
      | nil => exact h'
      | cons u us => simp [RelL] at h
    | cons c cs ih =>
      intro us cells vs off k h h'
      cases us with
      | nil => simp [RelL] at h
      | cons u us =>
        simp only [RelL] at h
        simp only [setCells, List.zipIdx_cons, List.foldl_cons]
        refine ih us _ _ off (k + 1) h.2 ?_
        simp only [Array.toList_setIfInBounds]
        exact RelL.set _ h' h.1
  intro cs us cells vs off h h'
  exact key cs us cells vs off 0 h h'
theorem setCells_length : ∀ (cs cells : List AV) (off : Nat), (setCells cells off cs).length = cells.length
  | [], cells, off => rfl
  | c :: cs, cells, off => by rw [setCells, setCells_length cs]; simp
theorem fill_sound (place : Nat → Option (Nat × Nat)) : ∀ (ps : List (Nat × AV)) (us : List (Nat × Value)) (cells : List AV) (vs : Array Value), ps.map (·.1) = us.map (·.1) →
    (∀ (i : Nat) (p : Nat × AV) (u : Nat × Value), ps[i]? = some p → us[i]? = some u → RelA ι R w p.2 u.2) → RelL ι R w cells vs.toList → (fillAV place cells ps).1 →
    ∃ r, Instr.fill place vs us = some r ∧ RelL ι R w (fillAV place cells ps).2 r.toList := by
  intro ps
  induction ps with
  | nil =>
    intro us cells vs hm _ h _
    cases us with
    | nil => exact ⟨vs, rfl, h⟩
    | cons u us => simp at hm
  | cons p ps ih =>
    intro us cells vs hm hr h hok
    cases us with
    | nil => simp at hm
    | cons u us =>
      obtain ⟨i, v⟩ := p
      obtain ⟨i', u⟩ := u
      simp only [List.map_cons, List.cons.injEq] at hm
      obtain ⟨rfl, hm⟩ := hm
      have h0 : RelA ι R w v u := hr 0 (i, v) (i, u) (by simp) (by simp)
      simp only [fillAV] at hok ⊢
      simp only [Instr.fill]
      split at hok
      · exact hok.elim
      · rename_i off size hpl
        simp only [hpl] at *
        obtain ⟨hv, h1, h2, h3⟩ := hok
        have hc := RelL.cellsOf h0 hv
        have hl := hc.length
        have hvl := h.length
        simp only [Array.length_toList] at hl hvl
        rw [if_neg (by simp; omega)]
        have hz : (u.cells.zipIdx.foldl (fun cs (x : Value × Nat) => cs.setIfInBounds (off + x.2) x.1) vs).toList = ((u.cells.toList.zipIdx).foldl (fun acc (x : Value × Nat) => acc.setIfInBounds (off + x.2) x.1) vs).toList := by
          rw [← Array.foldl_toList]; simp
        refine ih us _ _ hm (fun k p q hp hq => hr (k + 1) p q (by simpa using hp) (by simpa using hq)) ?_ h3
        show RelL ι R w _ (u.cells.zipIdx.foldl (fun cs (x : Value × Nat) => cs.setIfInBounds (off + x.2) x.1) vs).toList
        rw [hz]
        exact setCells_sound v.cells u.cells.toList cells vs off hc h
theorem rawsRel (l : List Value) : RelL ι R w (l.map AV.raw) l := by
  induction l with
  | nil => simp [RelL]
  | cons a l ih => simp only [List.map_cons, RelL, RelA, RelP]; exact ⟨trivial, ih⟩
end
end Go.Ab
set_option linter.unusedVariables false
set_option linter.unusedSimpArgs false
namespace Go.Ab
open Go.RowKit
section
variable {P : Program} {T : Tab} {ι : Emb} {R : Nat → Prop} {w : World}
def sz (T : Tab) (t : TypeId) : Nat := match T t with | some ti => ti.size | none => 0
theorem places_run (hT : TabOk P T) : ∀ (l : List Field), (∀ f ∈ l, T f.type ≠ none) →
  (l.mapM (m := Sem) fun f => do pure (f.offset, ← sizeOf f.type)).run P w = .ok (l.map fun f => (f.offset, sz T f.type)) w := by
 intro l
 induction l with
 | nil => intro _; simp
 | cons f l ih =>
  intro h
  cases hf : T f.type with
  | none => exact absurd hf (h f (by simp))
  | some ti =>
   have h1 : (sizeOf f.type).run P w = .ok ti.size w := hT.run_size hf
   have ih' := ih (fun g hg => h g (by simp [hg]))
   simp only [List.mapM_cons, Sem.run_bind, h1, ih', Result.andThen_ok, Sem.run_pure, List.map_cons]
   have : sz T f.type = ti.size := by simp [sz, hf]
   rw [this]
theorem build_sound (hT : TabOk P T) (t : TypeId) {parts : List (Nat × AV)} {ps : Array (Nat × Value)} (hm : parts.map (·.1) = ps.toList.map (·.1))
  (hr : ∀ (i : Nat) (p : Nat × AV) (u : Nat × Value), parts[i]? = some p → ps.toList[i]? = some u → RelA ι R w p.2 u.2) (h : (buildAV T t parts).1) :
  ∃ r, (Instr.build t ps).run P w = .ok r w ∧ RelA ι R w (buildAV T t parts).2 r := by
 unfold buildAV at h ⊢
 split at h
 ·rename_i fs _ _ z _ ht
  obtain ⟨hf, h⟩ := h
  have hpl := places_run (w := w) hT fs.toList hf
  have hpe : (fun i => ((fs.toList.map fun f => (f.offset, sz T f.type)).toArray)[i]?) = placesAV T fs := by
   funext i
   unfold placesAV
   cases hi : fs[i]? with
   | none => simp [hi]
   | some f =>
    have hmem : f ∈ fs.toList := by
     have := Array.mem_of_getElem? hi
     simpa using this
    cases hft : T f.type with
    | none => exact absurd hft (hf f hmem)
    | some ti => simp [hi, sz, hft]
  obtain ⟨r, hfill, hrel⟩ := fill_sound (ι := ι) (R := R) (w := w) (placesAV T fs) parts ps.toList (zeroAV z).cells z.cells hm hr (by
   cases z <;> first
    | (simp only [zeroAV, AV.cells, Value.cells, RelL, RelA, RelP]; simp; done)
    | (simp only [zeroAV, AV.cells, Value.cells]; exact rawsRel _)) h
  refine ⟨.agg r, ?_, by simp only [RelA]; exact ⟨r, rfl, hrel⟩⟩
  unfold Instr.build
  simp only [Sem.run_bind, hT.run_zero ht, Result.andThen_ok, hT.run_under ht]
  rw [Array.mapM_eq_mapM_toList]
  simp only [Sem.run_map, hpl, Result.andThen_ok]
  rw [hpe, hfill]
  rfl
 ·rename_i m e _ _ z _ ht
  split at h
  ·rename_i ti he
   obtain ⟨r, hfill, hrel⟩ := fill_sound (ι := ι) (R := R) (w := w) (fun i => some (i * ti.size, ti.size)) parts ps.toList (zeroAV z).cells z.cells hm hr (by
    cases z <;> first
     | (simp only [zeroAV, AV.cells, Value.cells, RelL, RelA, RelP]; simp; done)
     | (simp only [zeroAV, AV.cells, Value.cells]; exact rawsRel _)) h
   refine ⟨.agg r, ?_, by simp only [RelA]; exact ⟨r, rfl, hrel⟩⟩
   unfold Instr.build
   simp only [Sem.run_bind, hT.run_zero ht, Result.andThen_ok, hT.run_under ht, hT.run_size he]
   rw [hfill]
   rfl
  ·exact h.elim
 ·exact h.elim
theorem run_isAgg_of (hT : TabOk P T) {t : TypeId} {i : TI} (h : T t = some i) : (isAgg t).run P w = .ok (match i.under with | .struct _ | .array _ _ => true | _ => false) w := by
 unfold isAgg
 rw [Sem.run_bind, hT.run_under h]
 cases i.under <;> rfl
theorem part_sound (hT : TabOk P T) (t : TypeId) {cells : List AV} {cs : Array Value} (off : Nat) (hc : RelL ι R w cells cs.toList) (h : (partAV T t cells off).1) :
  ∃ r, (part t cs off).run P w = .ok r w ∧ RelA ι R w (partAV T t cells off).2 r := by
 have agg : ∀ (i : TI), T t = some i → (match i.under with | .struct _ | .array _ _ => true | _ => false) = true →
   ∃ r, (part t cs off).run P w = .ok r w ∧ RelA ι R w (.agg ((cells.drop off).take i.size)) r := by
  intro i hi hv
  refine ⟨.agg (cs.extract off (off + i.size)), ?_, ?_⟩
  ·unfold part
   simp only [Sem.run_bind, run_isAgg_of hT hi, Result.andThen_ok, hv, if_true, hT.run_size hi, Sem.run_pure]
  ·simp only [RelA]
   refine ⟨_, rfl, ?_⟩
   simp only [Array.toList_extract, List.extract_eq_take_drop]
   rw [show off + i.size - off = i.size by omega]
   exact (hc.drop off).take i.size
 unfold partAV at h ⊢
 split at h
 ·rename_i ht; exact agg _ ht rfl
 ·rename_i ht; exact agg _ ht rfl
 ·rename_i ti h1 h2 ht
  split at h
  ·rename_i c hcx
   obtain ⟨u, hu, hr⟩ := hc.get off c hcx
   refine ⟨u, ?_, hr⟩
   unfold part
   simp only [Sem.run_bind, run_isAgg_of hT ht, Result.andThen_ok]
   have : (match ti.under with | .struct _ | .array _ _ => true | _ => false) = false := by
    obtain ⟨un, a, b, c, d⟩ := ti
    cases un <;> first | rfl | exact (h1 _ _ _ _ _ rfl).elim | exact (h2 _ _ _ _ _ _ rfl).elim
   rw [this]
   have hu' : cs[off]? = some u := by simpa using hu
   simp [hu']
  ·exact h.elim
 ·exact h.elim
theorem field_sound (hT : TabOk P T) (t : TypeId) (f : Nat) {a : AV} {u : Value} (ha : RelA ι R w a u) (h : (fieldAV T t f a).1) :
  ∃ r, (Instr.field t u f).run P w = .ok r w ∧ RelA ι R w (fieldAV T t f a).2 r := by
 unfold fieldAV at h ⊢
 split at h
 ·rename_i xs
  simp only [RelA] at ha
  obtain ⟨us, rfl, ha⟩ := ha
  split at h
  ·rename_i fs _ _ _ _ ht
   split at h
   ·rename_i fd hf
    obtain ⟨r, h1, h2⟩ := part_sound hT fd.type fd.offset ha h
    refine ⟨r, ?_, h2⟩
    simp [Instr.field, hT.run_under ht, hf, asAgg, h1]
   ·exact h.elim
  ·exact h.elim
 ·exact h.elim
theorem index_sound (hT : TabOk P T) (t : TypeId) {a b : AV} {u u' : Value} (ha : RelA ι R w a u) (hb : RelA ι R w b u') (h : (indexAV T t a b).1) :
  ∃ r, (Instr.index t u u').run P w = .ok r w ∧ RelA ι R w (indexAV T t a b).2 r := by
 unfold indexAV at h ⊢
 split at h
 ·rename_i xs k i m e _ _ _ _ ht
  obtain rfl := raw_inv hb
  simp only [RelA] at ha
  obtain ⟨us, rfl, ha⟩ := ha
  split at h
  ·rename_i ti he
   obtain ⟨r, h1, h2⟩ := part_sound hT e (i.toNat * ti.size) ha h.2
   refine ⟨r, ?_, h2⟩
   simp [Instr.index, asIntOf, hT.run_under ht, h.1, hT.run_size he, h1]
  ·exact h.elim
 ·exact h.elim
theorem extract_sound (i : Nat) {a : AV} {u : Value} (ha : RelA ι R w a u) (h : (extractAV i a).1) :
  ∃ r, (Instr.extract u i).run P w = .ok r w ∧ RelA ι R w (extractAV i a).2 r := by
 unfold extractAV at h ⊢
 split at h
 ·rename_i xs
  simp only [RelA] at ha
  obtain ⟨us, rfl, ha⟩ := ha
  split at h
  ·rename_i x hx
   obtain ⟨u, hu, hr⟩ := ha.get i x hx
   have hu' : us[i]? = some u := by simpa using hu
   exact ⟨u, by simp [Instr.extract, hu'], hr⟩
  ·exact h.elim
 ·exact h.elim
theorem len_sound (hT : TabOk P T) (t ty : TypeId) {a : AV} {u : Value} (ha : RelA ι R w a u) (h : (lenAV T t a).1) :
  ∃ r, (Builtin.len_ #[t] ty #[u]).run P w = .ok r w ∧ RelA ι R w (lenAV T t a).2 r := by
 unfold lenAV at h ⊢
 split at h
 ·rename_i e _ _ _ _ ht
  split at h
  ·simp only [RelA, RelP] at ha
   obtain ⟨a, cap, rfl, _⟩ := ha
   exact ⟨_, by simp [Builtin.len_, hT.run_under ht, goInt]; rfl, by simp only [RelA, RelP]⟩
  ·simp only [RelA] at ha
   rcases ha with ⟨_, _, rfl, rfl⟩ | ⟨g, c, a, _, rfl, _⟩ <;>
    exact ⟨_, by simp [Builtin.len_, hT.run_under ht, goInt]; rfl, by simp only [RelA, RelP]; try rfl⟩
  ·obtain rfl := raw_inv ha
   exact ⟨_, by simp [Builtin.len_, hT.run_under ht, goInt]; rfl, by simp only [RelA, RelP]⟩
  ·exact h.elim
 ·rename_i n e _ _ _ _ ht
  exact ⟨_, by simp [Builtin.len_, hT.run_under ht, goInt]; rfl, by simp only [RelA, RelP]⟩
 ·rename_i ht
  split at h
  ·obtain rfl := raw_inv ha
   exact ⟨_, by simp [Builtin.len_, hT.run_under ht, goInt]; rfl, by simp only [RelA, RelP]⟩
  ·exact h.elim
 ·exact h.elim
theorem minmax_sound (mx : Bool) (ts : Array TypeId) (ty : TypeId) {a b : AV} {u u' : Value} (ha : RelA ι R w a u) (hb : RelA ι R w b u') (h : (minmaxAV mx a b).1) :
  ∃ r, (if mx then Builtin.max_ ts ty #[u, u'] else Builtin.min_ ts ty #[u, u']).run P w = .ok r w ∧ RelA ι R w (minmaxAV mx a b).2 r := by
 unfold minmaxAV at h ⊢
 split at h
 ·obtain rfl := raw_inv ha
  obtain rfl := raw_inv hb
  cases mx
  ·exact ⟨_, by simp [Builtin.min_, Builtin.min2]; rfl, by simp only [RelA, RelP]; rfl⟩
  ·exact ⟨_, by simp [Builtin.max_, Builtin.max2]; rfl, by simp only [RelA, RelP]; rfl⟩
 ·exact h.elim
theorem mm3_sound (mx : Bool) (ts : Array TypeId) (ty : TypeId) {a b c : AV} {u u' u'' : Value} (ha : RelA ι R w a u) (hb : RelA ι R w b u') (hc : RelA ι R w c u'') (h : (mm3AV mx a b c).1) :
  ∃ r, (if mx then Builtin.max_ ts ty #[u, u', u''] else Builtin.min_ ts ty #[u, u', u'']).run P w = .ok r w ∧ RelA ι R w (mm3AV mx a b c).2 r := by
 unfold mm3AV at h ⊢
 obtain ⟨h1, h2⟩ := h
 unfold minmaxAV at h1
 split at h1
 ·rename_i k x k' y
  simp only [minmaxAV] at h2 ⊢
  split at h2
  ·rename_i k1 x1 k2 y1 he
   obtain rfl := raw_inv ha
   obtain rfl := raw_inv hb
   obtain rfl := raw_inv hc
   cases he
   cases mx
   ·exact ⟨_, by simp [Builtin.min_, Builtin.min2]; rfl, by simp only [RelA, RelP]; rfl⟩
   ·exact ⟨_, by simp [Builtin.max_, Builtin.max2]; rfl, by simp only [RelA, RelP]; rfl⟩
  ·exact h2.elim
 ·exact h1.elim
theorem conv_sound (hT : TabOk P T) (s d : TypeId) {a : AV} {u : Value} (ha : RelA ι R w a u) (h : (convAV T s d a).1) :
  ∃ r, (convert s d u).run P w = .ok r w ∧ RelA ι R w (convAV T s d a).2 r := by
 unfold convAV at h ⊢
 split at h
 ·rename_i sz n c
  split at h
  ·rename_i e _ _ _ _ _ _ _ _ h1 h2
   split at h
   ·rename_i h3
    obtain ⟨rfl, hb⟩ := h
    simp only [RelA, RelP] at ha
    obtain ⟨ad, cap, rfl, hc, hn, hcell⟩ := ha
    refine ⟨.string (strOf n c), ?_, by simp only [RelA, RelP]⟩
    rw [run_convert_bytes_string w s d e _ n cap (hT.under h1) (hT.under h3) (hT.under h2)]
    rcases Nat.eq_zero_or_pos n with h0 | h0
    ·subst h0
     cases ad with
     | none => rfl
     | some ad => rw [run_bytesToString w ad 0 cap [] (by simp [loadCells, loadCellsFrom])]; rfl
    ·obtain ⟨g, o, rfl, _, hx⟩ := hcell h0
     have hl := run_loadCells_list (P := P) w ⟨g, o, none⟩ ((List.range n).map fun i => Value.int .u8 (byteAt (c i 0))) (by
      intro j v hj
      rw [List.getElem?_map] at hj
      by_cases hjn : j < n
      ·rw [List.getElem?_range hjn] at hj
       simp at hj
       subst hj
       obtain ⟨x, h1, _, h2⟩ := hx j hjn 0 (by omega)
       rw [hb j hjn] at h2
       simp only [RelP] at h2
       subst h2
       rw [add_none]
       simpa using h1
      ·rw [List.getElem?_eq_none (by simpa using hjn)] at hj
       cases hj)
     have hlen : ((List.range n).map fun i => Value.int .u8 (byteAt (c i 0))).length = n := by simp
     rw [hlen] at hl
     rw [run_bytesToString w _ n cap ((List.range n).map fun i => byteAt (c i 0)) (by rw [hl]; congr 2; simp)]
     rfl
   ·exact h.elim
  ·exact h.elim
 ·obtain rfl := raw_inv ha
  split at h
  ·rename_i h1 h2
   refine ⟨_, ?_, by simp only [RelA, RelP]; rfl⟩
   simp [convert, hT.run_under h1, hT.run_under h2, Conv.intToInt]
  ·exact h.elim
 ·exact h.elim
end
end Go.Ab
