import Derived.Test.YtfnmmlcmjmepjaaAbT
import Derived.Test.YtfnmmlcmjmepjaaAbPe
import Derived.Test.YtfnmmlcmjmepjaaAbPg
set_option linter.unusedVariables false
set_option linter.unusedSimpArgs false
namespace Go.Ab
open Go.RowKit
variable {P : Program} {T : Tab}
def loadB (T : Tab) (H : Heap) (t : TypeId) (x : AV) : Bool :=
 match T t with
 | none => false
 | some ti => match x with
  | .ptr id off => match H id with
   | some b => match isAggT ti.under with
    | true => decide (off + ti.size ≤ b.cells.length)
    | false => (b.cells[off]?).isSome
   | none => false
  | .roat n cell => match isAggT ti.under with
   | true => decide (ti.size ≤ n)
   | false => decide (0 < n)
  | _ => false
theorem loadB_ok {H : Heap} {t : TypeId} {x : AV} (h : loadB T H t x = true) : (loadAV T H t x).1 := by
 unfold loadB at h
 unfold loadAV
 split at h
 ·cases h
 ·rename_i ti ht
  simp only [ht]
  split at h
  ·split at h
   ·rename_i b hb
    simp only [AV.unpix, hb]
    split at h
    ·rename_i hg; simp only [AV.unpix, hg]; exact of_decide_eq_true h
    ·rename_i hg
     simp only [hg]
     split <;> simp_all
   ·cases h
  ·split at h
   ·rename_i hg; simp only [AV.unpix, hg]; exact of_decide_eq_true h
   ·rename_i hg; simp only [AV.unpix, hg]; exact of_decide_eq_true h
  ·cases h
def pureB (T : Tab) (ev : Operand → AV) : Op → OB
 | .move x | .assign x => .is true
 | .binOp op xT x y _ => binB T op xT (ev x) (ev y)
 | .unOp op _ x => unB op (ev x)
 | .fieldAddr s x f => fieldAddrB T s f (ev x)
 | .indexAddr t x ix => indexAddrB T t (ev x) (ev ix)
 | .slice t x lo hi mx => sliceB T t (ev x) (lo.map ev) (hi.map ev) (mx.map ev)
 | .build t parts => buildB T t (parts.toList.map fun p => (p.1, ev p.2))
 | .field t x f => fieldB T t f (ev x)
 | .extract x i => extractB i (ev x)
 | .convert s d x => convB T s d (ev x)
 | .makeFunc (.func f) first caps => .is first.isEmpty
 | .nilCheck x => match ev x with | .ptr id off => .is true | .pix id off => .is true | .roat n c => .is true | _ => .no
 | .call { callee := .builtin .len, args := args, argTypes := ts } => match args.toList, ts.toList with | [x], [t] => lenB T t (ev x) | _, _ => .no
 | .call { callee := .builtin .max, args := args, .. } => match args.toList with | [x, y] => minmaxB (ev x) (ev y) | [x, y, z] => mm3B (ev x) (ev y) (ev z) | _ => .no
 | .call { callee := .builtin .min, args := args, .. } => match args.toList with | [x, y] => minmaxB (ev x) (ev y) | [x, y, z] => mm3B (ev x) (ev y) (ev z) | _ => .no
 | _ => .no
theorem no_not {p : Prop} (h : OB.no.holds) : p := by simp [OB.holds] at h
theorem pureB_ok {ev : Operand → AV} {op : Op} (h : (pureB T ev op).holds) : ∃ out, pureOut T ev op = some out ∧ out.1 := by
 unfold pureB at h
 split at h
 ·exact ⟨_, rfl, trivial⟩
 ·exact ⟨_, rfl, trivial⟩
 ·exact ⟨_, rfl, binB_ok h⟩
 ·exact ⟨_, rfl, unB_ok h⟩
 ·exact ⟨_, rfl, fieldAddrB_ok h⟩
 ·exact ⟨_, rfl, indexAddrB_ok h⟩
 ·exact ⟨_, rfl, sliceB_ok h⟩
 ·exact ⟨_, rfl, buildB_ok h⟩
 ·exact ⟨_, rfl, fieldB_ok h⟩
 ·exact ⟨_, rfl, extractB_ok h⟩
 ·exact ⟨_, rfl, convB_ok h⟩
 ·rename_i f first caps
  refine ⟨_, rfl, ?_⟩
  have := h.1
  simpa using this
 ·rename_i x
  split at h
  ·rename_i id off he
   exact ⟨(True, .ptr id off), by unfold pureOut; simp only [he], trivial⟩
  ·rename_i id off he
   exact ⟨(True, .pix id off), by unfold pureOut; simp only [he], trivial⟩
  ·rename_i n c he
   exact ⟨(True, .roat n c), by unfold pureOut; simp only [he], trivial⟩
  ·exact no_not h
 ·rename_i args ts
  split at h
  ·rename_i x t hx ht
   exact ⟨lenAV T t (ev x), by unfold pureOut; simp only [hx, ht], lenB_ok h⟩
  ·exact no_not h
 ·rename_i args _
  split at h
  ·rename_i x y hx
   exact ⟨minmaxAV true (ev x) (ev y), by unfold pureOut; simp only [hx], minmaxB_ok h⟩
  ·rename_i x y z hx
   exact ⟨mm3AV true (ev x) (ev y) (ev z), by unfold pureOut; simp only [hx], mm3B_ok h⟩
  ·exact no_not h
 ·rename_i args _
  split at h
  ·rename_i x y hx
   exact ⟨minmaxAV false (ev x) (ev y), by unfold pureOut; simp only [hx], minmaxB_ok h⟩
  ·rename_i x y z hx
   exact ⟨mm3AV false (ev x) (ev y) (ev z), by unfold pureOut; simp only [hx], mm3B_ok h⟩
  ·exact no_not h
 ·exact no_not h
def isRowAt (σ : AS) (x : Operand) : Bool :=
 match σ.bev x with
 | .pix _ _ => true
 | .ptr id _ => match σ.heap id with | some (.row _ _ _) => true | _ => false
 | _ => false
def isHard (σ : AS) : Op → Bool
 | .load _ x => isRowAt σ x
 | .store _ a _ => isRowAt σ a
 | .call { callee := .value _, .. } => true
 | .call { callee := .builtin .append, .. } => true
 | .call { callee := .builtin .copy, .. } => true
 | .buildSlice _ _ _ => true
 | .makeSlice _ _ _ => true
 | .index _ _ _ => true
 | .makeMap _ _ => true
 | .lookup _ _ _ _ => true
 | .mapUpdate _ _ _ _ => true
 | .insert _ _ _ _ => true
 | .call { callee := .builtin .delete, .. } => true
 | .call { callee := .builtin .clear, .. } => true
 | .call { callee := .builtin .len, args := args, .. } => match args.toList with | [x] => (match σ.bev x with | .map _ => true | _ => false) | _ => false
 | .slice _ x _ _ _ => match σ.bev x with
  | .roat _ _ => true
  | _ => false
 | .indexAddr _ x _ => match σ.bev x with
  | .roat _ _ => true
  | _ => false
 | .convert _ _ x => match σ.bev x with
  | .pv (.ro _ _ _) => true
  | .row _ _ _ _ => true
  | _ => false
 | _ => false
def bareP : AV → List Prop
 | .gd p _ => [p = true]
 | _ => []
def okOp (T : Tab) (σ : AS) : Op → OB
 | .pick c a b => match (σ.ev c).bare with
  | .pv (.raw (.bool t)) => ⟨(pickB (σ.ev a) (σ.ev b)).chk, bareP (σ.ev c) ++ pickPhi t (σ.ev a) (σ.ev b)⟩
  | _ => .no
 | .load t x => .is (loadB T σ.heap t (σ.bev x))
 | .box t x => .is ((σ.bev x).cells.all AV.one && ((σ.bev x).one || (σ.bev x).isAgg))
 | .alloc t => match T t with
  | some ti => .is ((zeroAV ti.zero).cells.all AV.one)
  | none => .no
 | .store t a x => match T t with
  | some ti => match σ.bev a with
   | .ptr id off => match σ.heap id with
    | some (.box cs) => .is ((σ.bev x).cells.all AV.one && ((σ.bev x).one || (σ.bev x).isAgg) && decide ((σ.bev x).cells.length = ti.size) && decide (off + ti.size ≤ cs.length))
    | _ => .no
   | _ => .no
  | none => .no
 | op => pureB T σ.bev op
def effP (T : Tab) (σ : AS) (o : Oper) : Eff :=
 match o.op with
 | .pick c a b => pickEff (σ.ev c) (σ.ev a) (σ.ev b)
 | op => effOf T σ.bev σ.heap o.dst op
theorem bareP_ok {x : AV} (h : allP (bareP x)) : x.when = true := by
 cases x <;> first | rfl | exact h.1
theorem effOf_pure_ok {ev : Operand → AV} {H : Heap} {dst : Option Nat} {op : Op} (h : (pureB T ev op).holds) : (effOf T ev H dst op).ok := by
 obtain ⟨out, h1, h2⟩ := pureB_ok h
 unfold effOf
 split
 all_goals first
  | (simp [pureOut] at h1; done)
  | (simp only [h1]; exact h2)
  | skip
 ·rename_i args ts
  split
  ·rename_i hmt
   exfalso
   unfold pureB at h
   simp only at h
   split at h
   ·rename_i x t hx ht
    unfold isMapT at hmt
    rw [ht] at hmt
    simp only at hmt
    split at hmt
    ·rename_i htt
     unfold lenB at h
     rw [htt] at h
     exact no_not h
    ·cases hmt
   ·exact no_not h
  ·simp only [h1]; exact h2
 ·rename_i s d x
  have hc : (convAV T s d (ev x)).1 := convB_ok h
  split
  ·split
   ·rename_i hx
    have h' : (convB T s d (ev x)).holds := h
    rw [hx] at h'
    exact no_not h'
   ·exact hc
  ·exact hc
theorem okOp_ok {σ : AS} {o : Oper} (h : (okOp T σ o.op).holds) : (effP T σ o).ok := by
 unfold okOp at h
 unfold effP
 split at h
 ·rename_i c a b hop
  simp only [hop]
  split at h
  ·rename_i t ht
   obtain ⟨h1, h2⟩ := h
   rw [allP_append] at h2
   unfold pickEff
   rw [ht]
   exact ⟨bareP_ok h2.1, pickB_ok ⟨h1, by
    have : (pickB (σ.ev a) (σ.ev b)).phi = [] := by unfold pickB; split <;> rfl
    rw [this]; trivial⟩ h2.2⟩
  ·exact no_not h
 ·rename_i t x hop
  simp only [hop]
  exact loadB_ok h.1
 ·rename_i t x hop
  simp only [hop]
  have h1 := h.1
  simp only [Bool.and_eq_true] at h1
  exact h1
 ·rename_i t hop
  simp only [hop]
  split at h
  ·rename_i ti ht
   unfold effOf
   simp only [ht]
   exact h.1
  ·exact no_not h
 ·rename_i t a x hop
  simp only [hop]
  split at h
  ·rename_i ti ht
   split at h
   ·rename_i id off ha
    split at h
    ·rename_i cs hid
     unfold effOf
     simp only [ht, ha, AV.unpix, hid]
     have h1 := h.1
     simp only [Bool.and_eq_true, decide_eq_true_eq] at h1
     exact ⟨h1.1.1.1, h1.1.1.2, h1.1.2, h1.2⟩
    ·exact no_not h
   ·exact no_not h
  ·exact no_not h
 ·rename_i hn1 _ _ _ _
  have := effOf_pure_ok (H := σ.heap) (dst := o.dst) h
  split
  ·rename_i c a b hop; exact absurd hop (hn1 c a b)
  ·exact this
inductive Fr where
 | code (c : Code)
 | ops (all : Array Oper) (os : List Oper)
 | blk (id : Nat)
 | back (p : AS → Prop)
def VS (P : Program) (T : Tab) (Q : Exit → AS → Prop) : List Fr → Exit → AS → Prop
 | [] => Q
 | .code c :: r => thenA (AWp P c (VS P T Q r)) (VS P T Q r)
 | .ops all os :: r => thenA (sxOps P T all os (VS P T Q r .normal)) (VS P T Q r)
 | .blk id :: r => blockQ id (VS P T Q r)
 | .back p :: r => thenA p (VS P T Q r)
structure Lf where
 σ : AS
 k : List Fr
 e : Exit
def V (P : Program) (T : Tab) (Q : Exit → AS → Prop) (l : Lf) : Prop := VS P T Q l.k l.e l.σ
inductive Tr where
 | leaf (l : Lf)
 | and (φ : Prop) (t : Tr)
 | br (c : Bool) (t e : Tr)
 | bad
inductive Sk where
 | leaf (i : Nat)
 | and (φ : Prop) (t : Sk)
 | br (c : Bool) (t e : Sk)
 | bad
def Tr.n : Tr → Nat
 | .leaf _ => 1
 | .and _ t => t.n
 | .br _ t e => t.n + e.n
 | .bad => 0
def Tr.sk : Tr → Nat → Sk
 | .leaf _, i => .leaf i
 | .and φ t, i => .and φ (t.sk i)
 | .br c t e, i => .br c (t.sk i) (e.sk (i + t.n))
 | .bad, _ => .bad
def Lf.no : Lf := ⟨{ n := 0, slots := fun _ => .junk, heap := fun _ => none, seen := fun _ => true }, [], .normal⟩
def Tr.get : Tr → Nat → Lf
 | .leaf l, _ => l
 | .and _ t, i => t.get i
 | .br _ t e, i => bif Nat.blt i t.n then t.get i else e.get (i - t.n)
 | .bad, _ => .no
def Tr.Holds (q : Lf → Prop) : Tr → Prop
 | .leaf l => q l
 | .and φ t => φ ∧ t.Holds q
 | .br c t e => (c = true → t.Holds q) ∧ (c = false → e.Holds q)
 | .bad => False
def Sk.Holds (p : Nat → Prop) : Sk → Prop
 | .leaf i => p i
 | .and φ t => φ ∧ t.Holds p
 | .br c t e => (c = true → t.Holds p) ∧ (c = false → e.Holds p)
 | .bad => False
theorem sk_holds {p : Nat → Prop} {q : Lf → Prop} : ∀ {t : Tr} {i : Nat}, (t.sk i).Holds p → (∀ j, j < t.n → p (i + j) → q (t.get j)) → t.Holds q
 | .leaf l, i, h, hq => hq 0 (by simp [Tr.n]) h
 | .and φ t, i, h, hq => ⟨h.1, sk_holds h.2 hq⟩
 | .br c t e, i, h, hq => by
  refine ⟨fun hc => sk_holds (h.1 hc) fun j hj hp => ?_, fun hc => sk_holds (h.2 hc) fun j hj hp => ?_⟩
  ·have := hq j (by simp only [Tr.n]; omega) hp
   unfold Tr.get at this
   rw [show Nat.blt j t.n = true from Nat.ble_eq_true_of_le hj] at this
   exact this
  ·have := hq (t.n + j) (by simp only [Tr.n]; omega) (by rw [← Nat.add_assoc]; exact hp)
   unfold Tr.get at this
   rw [show Nat.blt (t.n + j) t.n = false by unfold Nat.blt; rw [← Bool.not_eq_true, Nat.ble_eq]; omega, show t.n + j - t.n = j by omega] at this
   exact this
 | .bad, _, h, _ => h.elim
def Tr.ands : List Prop → Tr → Tr
 | [], t => t
 | φ :: r, t => .and φ (Tr.ands r t)
theorem ands_holds {q : Lf → Prop} : ∀ {l : List Prop} {t : Tr}, (Tr.ands l t).Holds q → allP l ∧ t.Holds q
 | [], t, h => ⟨trivial, h⟩
 | φ :: r, t, h => ⟨⟨h.1, (ands_holds h.2).1⟩, (ands_holds h.2).2⟩
def isPick : Op → Bool
 | .pick _ _ _ => true
 | _ => false
def whenL (σ : AS) : List Operand → List Prop
 | [] => []
 | x :: xs => bareP (σ.ev x) ++ whenL σ xs
theorem whenL_ok {σ : AS} : ∀ {xs : List Operand}, allP (whenL σ xs) → whens σ xs
 | [], _ => trivial
 | x :: xs, h => by
  unfold whenL at h
  rw [allP_append] at h
  exact ⟨bareP_ok h.1, whenL_ok h.2⟩
def dstB (n : Nat) : Option Nat → Bool
 | none => true
 | some d => Nat.blt d n
def freshB (σ : AS) : List (Nat × Blk) → Bool
 | [] => true
 | x :: xs => !(σ.seen x.1) && freshB σ xs
theorem freshB_ok {σ : AS} : ∀ {l : List (Nat × Blk)}, freshB σ l = true → freshS σ l
 | [], _ => trivial
 | x :: xs, h => by
  simp only [freshB, Bool.and_eq_true, Bool.not_eq_true'] at h
  exact ⟨h.1, freshB_ok h.2⟩
def gOf (σ : AS) (all : Array Oper) (j : Nat) (want : Bool) : Option Bool :=
 match (all[j]?).bind (·.dst) with
 | none => none
 | some d => match σ.slots d with
  | .pv (.raw (.bool b)) => some (match want with | true => b | false => !b)
  | .gd p (.pv (.raw (.bool b))) => some (match want with | true => p && b | false => p && !b)
  | _ => none
def stepTr (T : Tab) (all : Array Oper) (o : Oper) (σ : AS) (next : AS → Tr) : Tr :=
 match (okOp T σ o.op).chk && dstB σ.n o.dst with
 | false => .bad
 | true => match o.guard with
  | none => match isStore o.op || freshB σ (effP T σ o).set with
   | false => .bad
   | true => Tr.ands ((bif isPick o.op then [] else whenL σ o.op.operands.toList) ++ (okOp T σ o.op).phi) (next (σ.eff o.dst (effP T σ o).v (effP T σ o).set (effP T σ o).del))
  | some (j, want) => match gOf σ all j want with
   | none => .bad
   | some g => match (effP T σ o).set, (effP T σ o).del with
    | [], [] => Tr.ands (((bif isPick o.op then [] else whenL σ o.op.operands.toList) ++ (okOp T σ o.op).phi).map fun φ => (g = true → φ)) (next (σ.put o.dst (.gd g (effP T σ o).v)))
    | _, _ => match isStore o.op || freshB σ (effP T σ o).set with
     | false => .bad
     | true => .br g (Tr.ands ((bif isPick o.op then [] else whenL σ o.op.operands.toList) ++ (okOp T σ o.op).phi) (next (σ.eff o.dst (.gd true (effP T σ o).v) (effP T σ o).set (effP T σ o).del))) (next (σ.put o.dst (.gd false (.raw undef))))
theorem allP_map {g : Bool} : ∀ {l : List Prop}, allP (l.map fun φ => (g = true → φ)) → g = true → allP l
 | [], _, _ => trivial
 | φ :: r, h, hg => ⟨h.1 hg, allP_map h.2 hg⟩
theorem gOf_guard {σ : AS} {all : Array Oper} {j : Nat} {want g : Bool} (h : gOf σ all j want = some g) : guardOf σ all (some (j, want)) = (True, g) := by
 unfold gOf at h
 unfold guardOf
 split at h
 ·cases h
 ·rename_i d hd
  simp only [hd]
  split at h
  ·cases h
   rename_i b hb
   simp only [hb]
   cases want <;> cases b <;> rfl
  ·cases h
   rename_i p b hb
   simp only [hb]
   cases want <;> cases b <;> rfl
  ·cases h
theorem stepTr_ok {all : Array Oper} {o : Oper} {σ : AS} {next : AS → Tr} {q : Lf → Prop} {K : AS → Prop} (hh : isHard σ o.op = false) (h : (stepTr T all o σ next).Holds q) (hK : ∀ σ', (next σ').Holds q → K σ') : sxOp P T all o σ K := by
 have hcall : callOf o.op = none := by
  unfold callOf
  split
  ·rename_i he; rw [he] at hh; simp [isHard] at hh
  ·rfl
 unfold stepTr at h
 split at h
 ·exact h.elim
 rename_i hchk
 simp only [Bool.and_eq_true] at hchk
 obtain ⟨hchk, hdst⟩ := hchk
 have hd : dstOk σ.n o.dst := by
  cases hd : o.dst with
  | none => trivial
  | some d => rw [hd] at hdst; exact Nat.le_of_ble_eq_true hdst
 have body : ∀ g : Bool, (g = true → allP ((bif isPick o.op then [] else whenL σ o.op.operands.toList) ++ (okOp T σ o.op).phi)) → (g = true → isStore o.op = false → freshS σ (effP T σ o).set) →
   (match o.guard.isSome with
    | false => K (σ.eff o.dst (effP T σ o).v (effP T σ o).set (effP T σ o).del)
    | true => match (effP T σ o).set, (effP T σ o).del with
     | [], [] => K (σ.put o.dst (.gd g (effP T σ o).v))
     | _, _ => (g = true → K (σ.eff o.dst (.gd true (effP T σ o).v) (effP T σ o).set (effP T σ o).del)) ∧ (g = false → K (σ.put o.dst (.gd false (.raw undef))))) →
   match o.op with
   | .pick c a b => sxEff (pickEff (σ.ev c) (σ.ev a) (σ.ev b)) false o.dst σ o.guard.isSome g K
   | op => (g = true → whens σ op.operands.toList) ∧
    match callOf op with
    | some (f, xs) => match isMC σ.fz op with
     | false => sxCall P f xs o.dst σ o.guard.isSome g K
     | true => sxM P f xs o.dst σ o.guard.isSome g K
    | none => sxEff (effOf T σ.bev σ.heap o.dst op) (isStore op) o.dst σ o.guard.isSome g K ∨
     (isStore op = false ∧ sxFrz (effOf T σ.bev σ.heap o.dst op) o.dst σ o.guard.isSome g K) := by
  intro g h1 h2 h3
  have hok : g = true → (effP T σ o).ok := fun hg => okOp_ok ⟨hchk, by have := h1 hg; rw [allP_append] at this; exact this.2⟩
  split
  ·rename_i c a b hop
   have e : effP T σ o = pickEff (σ.ev c) (σ.ev a) (σ.ev b) := by unfold effP; rw [hop]
   rw [e] at h3 hok h2
   exact ⟨fun hg => ⟨hok hg, fun _ => h2 hg (by rw [hop]; rfl)⟩, h3⟩
  ·rename_i hnp
   have e : effP T σ o = effOf T σ.bev σ.heap o.dst o.op := by
    unfold effP; split
    ·rename_i c a b hop; exact absurd hop (hnp c a b)
    ·rfl
   have hp : isPick o.op = false := by
    cases ho : o.op <;> first | rfl | exact absurd ho (hnp _ _ _)
   rw [e] at h3 hok h2
   rw [hcall]
   refine ⟨fun hg => ?_, .inl ⟨fun hg => ⟨hok hg, fun hs => h2 hg hs⟩, h3⟩⟩
   have := h1 hg
   rw [hp, cond_false, allP_append] at this
   exact whenL_ok this.1
 unfold sxOp
 cases hg : o.guard with
 | none =>
  rw [hg] at h
  simp only at h
  split at h
  ·exact h.elim
  ·rename_i hfr
   obtain ⟨h1, h2⟩ := ands_holds h
   refine ⟨trivial, hd, ?_⟩
   have := body true (fun _ => h1) (fun _ hs => by rw [hs, Bool.false_or] at hfr; exact freshB_ok hfr) (by rw [hg]; exact hK _ h2)
   rw [hg] at this
   exact this
 | some jw =>
  obtain ⟨j, want⟩ := jw
  rw [hg] at h
  simp only at h
  split at h
  ·exact h.elim
  ·rename_i g hgo
   have hgg := gOf_guard hgo
   rw [hgg]
   refine ⟨trivial, hd, ?_⟩
   split at h
   ·rename_i hs hdl
    obtain ⟨h1, h2⟩ := ands_holds h
    have := body g (fun hgt => allP_map h1 hgt) (fun _ _ => by rw [hs]; trivial) (by rw [hg]; simp only [Option.isSome_some, hs, hdl]; exact hK _ h2)
    rw [hg] at this
    exact this
   ·rename_i hne
    split at h
    ·exact h.elim
    ·rename_i hfr
     have := body g (fun hgt => (ands_holds (h.1 hgt)).1) (fun _ hs => by rw [hs, Bool.false_or] at hfr; exact freshB_ok hfr) (by
      rw [hg]
      simp only [Option.isSome_some]
      exact ⟨fun hgt => hK _ (ands_holds (h.1 hgt)).2, fun hgf => hK _ (h.2 hgf)⟩)
     rw [hg] at this
     exact this
def popTo (id : Nat) : List Fr → Option (List Fr)
 | [] => none
 | .blk i :: k => bif Nat.beq i id then some k else popTo id k
 | .code _ :: k => popTo id k
 | .ops _ _ :: k => popTo id k
 | .back _ :: k => popTo id k
theorem popTo_ok {Q : Exit → AS → Prop} {id : Nat} {σ : AS} : ∀ {k k' : List Fr}, popTo id k = some k' → VS P T Q k' .normal σ → VS P T Q k (.exit id) σ
 | [], k', h, _ => by cases h
 | .blk i :: k, k', h, hv => by
  simp only [popTo] at h
  show (if id = i then VS P T Q k .normal σ else VS P T Q k (.exit id) σ)
  cases hb : Nat.beq i id with
  | true =>
   rw [hb, cond_true] at h
   cases h
   rw [if_pos (Nat.eq_of_beq_eq_true hb).symm]
   exact hv
  | false =>
   rw [hb, cond_false] at h
   rw [if_neg (fun e => by subst e; simp at hb)]
   exact popTo_ok h hv
 | .code _ :: k, k', h, hv => popTo_ok (k := k) h hv
 | .ops _ _ :: k, k', h, hv => popTo_ok (k := k) h hv
 | .back _ :: k, k', h, hv => popTo_ok (k := k) h hv
theorem ret_ok {Q : Exit → AS → Prop} {σ : AS} : ∀ {k : List Fr}, Q .ret σ → VS P T Q k .ret σ
 | [], h => h
 | .blk i :: k, h => ret_ok (k := k) h
 | .code _ :: k, h => ret_ok (k := k) h
 | .ops _ _ :: k, h => ret_ok (k := k) h
 | .back _ :: k, h => ret_ok (k := k) h
def drawAt (T : Tab) (σ : AS) (ops : Array Oper) : Bool → Option (Array Oper)
 | false => some ops
 | true => match entAt T σ ops with
  | some ops' => some ops'
  | none => match incAt T σ ops with
   | some ops' => some ops'
   | none => bif orderAt T σ ops then some ops else none
theorem drawAt_true {σ : AS} {ops ops' : Array Oper} (h : drawAt T σ ops true = some ops') : entAt T σ ops = some ops' ∨ incAt T σ ops = some ops' ∨ (orderAt T σ ops = true ∧ ops = ops') := by
 unfold drawAt at h
 simp only at h
 cases he : entAt T σ ops with
 | some o => rw [he] at h; exact .inl h
 | none =>
  rw [he] at h
  simp only at h
  cases hi : incAt T σ ops with
  | some o => rw [hi] at h; exact .inr (.inl h)
  | none =>
   rw [hi] at h
   cases ho : orderAt T σ ops with
   | true => rw [ho] at h; exact .inr (.inr ⟨rfl, Option.some.inj h⟩)
   | false => rw [ho] at h; cases h
def hasRange : Code → Bool
 | .region _ ops _ => ops.toList.any fun o => match o.op with | .range _ _ => true | _ => false
 | _ => false
noncomputable def runS (T : Tab) (stops : List Nat) (fuel : Nat) : AS → List Fr → Tr :=
 @Nat.rec (fun _ => AS → List Fr → Tr) (fun _ _ => .bad) (fun n ih σ k => match k with
  | [] => .leaf ⟨σ, [], .normal⟩
  | .back p :: r => .leaf ⟨σ, .back p :: r, .normal⟩
  | .blk id :: r => ih σ r
  | .ops all [] :: r => ih σ r
  | .ops all (o :: os) :: r => match isHard σ o.op with
   | true => .leaf ⟨σ, .ops all (o :: os) :: r, .normal⟩
   | false => stepTr T all o σ fun σ' => ih σ' (.ops all os :: r)
  | .code c :: r => match c with
   | .skip => ih σ r
   | .region id ops d => match stops.contains id with
    | true => .leaf ⟨σ, .code (.region id ops d) :: r, .normal⟩
    | false => match drawAt T σ ops d with
     | some ops' => ih σ (.ops ops' ops'.toList :: r)
     | none => .bad
   | .seq x y => match hasRange x with
    | true => .leaf ⟨σ, .code (.seq x y) :: r, .normal⟩
    | false => ih σ (.code x :: .code y :: r)
   | .cond c x y => match σ.ev c with
    | .pv (.raw (.bool t)) => .br t (ih σ (.code x :: r)) (ih σ (.code y :: r))
    | _ => .bad
   | .block id c => ih σ (.code c :: .blk id :: r)
   | .exit id => match popTo id r with
    | some r' => ih σ r'
    | none => .bad
   | .ret => .leaf ⟨σ, [], .ret⟩
   | .loop c => .leaf ⟨σ, .code (.loop c) :: r, .normal⟩
   | _ => .bad) fuel
theorem runS_ok (hT : TabOk P T) (hm : P.follows .mixedOrders = true) {Q : Exit → AS → Prop} : ∀ {ss : List Nat} {n : Nat} {σ : AS} {k : List Fr}, (runS T ss n σ k).Holds (V P T Q) → VS P T Q k .normal σ
 | ss, 0, σ, k, h => h.elim
 | ss, n + 1, σ, k, h => by
  have ih := fun σ k => runS_ok hT hm (Q := Q) (ss := ss) (n := n) (σ := σ) (k := k)
  match k, h with
  | [], h => exact h
  | .back p :: r, h => exact h
  | .blk id :: r, h => exact ih σ r h
  | .ops all [] :: r, h => exact ih σ r h
  | .ops all (o :: os) :: r, h =>
   change (match isHard σ o.op with | true => Tr.leaf ⟨σ, .ops all (o :: os) :: r, .normal⟩ | false => stepTr T all o σ fun σ' => runS T ss n σ' (.ops all os :: r)).Holds _ at h
   split at h
   ·exact h
   ·rename_i hh
    exact .inl (stepTr_ok hh h fun σ' h' => ih σ' _ h')
  | .code .skip :: r, h => exact awp_skip (ih σ r h)
  | .code (.region id ops d) :: r, h =>
   change (match ss.contains id with | true => Tr.leaf ⟨σ, .code (.region id ops d) :: r, .normal⟩ | false => match drawAt T σ ops d with | some ops' => runS T ss n σ (.ops ops' ops'.toList :: r) | none => Tr.bad).Holds _ at h
   split at h
   ·exact h
   split at h
   ·rename_i ops' hd
    have h' := ih σ _ h
    cases d with
    | false => cases hd; exact awp_region hT h'
    | true =>
     rcases drawAt_true hd with he | he | ⟨ho, rfl⟩
     ·exact awp_region_ent hT hm he h'
     ·exact awp_region_inc hT hm he h'
     ·exact awp_region_at hT hm ho h'
   ·exact h.elim
  | .code (.seq x y) :: r, h =>
   change (match hasRange x with | true => Tr.leaf ⟨σ, .code (.seq x y) :: r, .normal⟩ | false => runS T ss n σ (.code x :: .code y :: r)).Holds _ at h
   split at h
   ·exact h
   have h' := ih σ (.code x :: .code y :: r) h
   refine awp_seq (awp_mono h' ?_)
   intro e σ' hq
   cases e <;> exact hq
  | .code (.cond c x y) :: r, h =>
   change (match σ.ev c with | .pv (.raw (.bool t)) => Tr.br t (runS T ss n σ (.code x :: r)) (runS T ss n σ (.code y :: r)) | _ => Tr.bad).Holds _ at h
   split at h
   ·rename_i t ht
    exact awp_cond ht (fun e => ih σ (.code x :: r) (h.1 e)) (fun e => ih σ (.code y :: r) (h.2 e))
   ·exact h.elim
  | .code (.block id c) :: r, h => exact awp_block (ih σ (.code c :: .blk id :: r) h)
  | .code (.exit id) :: r, h =>
   change (match popTo id r with | some r' => runS T ss n σ r' | none => Tr.bad).Holds _ at h
   split at h
   ·rename_i r' hr
    exact awp_exit (popTo_ok hr (ih σ r' h))
   ·exact h.elim
  | .code .ret :: r, h => exact awp_ret (ret_ok h)
  | .code (.loop c) :: r, h => exact h
  | .code (.rangeFunc ..) :: r, h => exact h.elim
  | .code (.scope _) :: r, h => exact h.elim
  | .code (.label _) :: r, h => exact h.elim
  | .code (.goto _) :: r, h => exact h.elim
  | .code (.refuse _) :: r, h => exact h.elim
theorem segs (ss : List Nat) (hT : TabOk P T) (hm : P.follows .mixedOrders = true) {Q : Exit → AS → Prop} {σ : AS} {k : List Fr} (n : Nat) {S : Sk} (hs : (runS T ss n σ k).sk 0 = S) (h : S.Holds fun j => V P T Q ((runS T ss n σ k).get j)) : VS P T Q k .normal σ := by
 refine runS_ok hT hm (ss := ss) (n := n) (sk_holds (i := 0) (p := fun j => V P T Q ((runS T ss n σ k).get j)) (by rw [hs]; exact h) fun j _ hj => ?_)
 rw [Nat.zero_add] at hj
 exact hj
theorem seg (hT : TabOk P T) (hm : P.follows .mixedOrders = true) {Q : Exit → AS → Prop} {σ : AS} {k : List Fr} (n : Nat) {S : Sk} (hs : (runS T [] n σ k).sk 0 = S) (h : S.Holds fun j => V P T Q ((runS T [] n σ k).get j)) : VS P T Q k .normal σ :=
 segs [] hT hm n hs h
end Go.Ab

