import Derived.Test.YtfnmmlcmjmepjaaAbF
set_option linter.unusedVariables false
set_option linter.unusedSimpArgs false
namespace Go.Ab
open Go.RowKit
def AS.ev (σ : AS) : Operand → AV
 | .tmp t => σ.slots t
 | .const v => .raw v
 | .global g => .raw (.pointer (some ⟨g, 0, none⟩))
 | .func f => .fn f []
def upd {α : Type} (f : Nat → α) (d : Nat) (v : α) : Nat → α := fun t => if t = d then v else f t
def putS (f : Nat → AV) : Option Nat → AV → Nat → AV
 | none, _ => f
 | some d, v => upd f d v
def AS.bev (σ : AS) (x : Operand) : AV := (σ.ev x).bare
def fid (dst : Option Nat) (k : Nat) : Nat := 16384 + (dst.getD 0) * 64 + k
inductive Wk (ρ : Nat → Option Nat) (D F : Nat → Prop) (H : Heap) : AV → AV → Prop
 | pv (p : PV) : Wk ρ D F H (.pv p) (.pv p)
 | roro (s n : Nat) (c c' : Nat → Nat → PV) (h : ∀ i, i < n → ∀ j, j < s → Wk ρ D F H (.pv (c i j)) (.pv (c' i j))) : Wk ρ D F H (.pv (.ro s n c)) (.pv (.ro s n c'))
 | nil (s : Nat) (c : Nat → Nat → PV) : Wk ρ D F H (.pv (.raw (.slice none 0 0))) (.pv (.ro s 0 c))
 | row (id e s off len : Nat) (cells : List AV) (c : Nat → Nat → PV) (x : Nat → Nat → AV) (hF : F id) (hH : H id = some (.row e s cells))
   (hx : ∀ i, i < len → ∀ j, j < s → cells[(off + i) * s + j]? = some (x i j)) (h : ∀ i, i < len → ∀ j, j < s → Wk ρ D F H (x i j) (.pv (c i j))) : Wk ρ D F H (.row id s off len) (.pv (.ro s len c))
 | ptr (id id' off : Nat) (hρ : ρ id = some id') (hD : D id) : Wk ρ D F H (.ptr id' off) (.ptr id off)
 | pixs (id id' off : Nat) (hρ : ρ id = some id') (hD : D id) : Wk ρ D F H (.pix id' off) (.pix id off)
 | rows (id id' s off len : Nat) (hρ : ρ id = some id') (hD : D id) : Wk ρ D F H (.row id' s off len) (.row id s off len)
 | nilrow (id s : Nat) (hρ : ρ id = none) (hD : D id) : Wk ρ D F H (.pv (.raw (.slice none 0 0))) (.row id s 0 0)
 | ptro (id off n : Nat) (b : Blk) (cell : Nat → PV) (x : Nat → AV) (hF : F id) (hH : H id = some b) (hx : ∀ j, j < n → b.cells[off + j]? = some (x j)) (h : ∀ j, j < n → Wk ρ D F H (x j) (.pv (cell j))) : Wk ρ D F H (.ptr id off) (.roat n cell)
 | roats (n n' : Nat) (c c' : Nat → PV) (hn : n' ≤ n) (h : ∀ j, j < n' → Wk ρ D F H (.pv (c j)) (.pv (c' j))) : Wk ρ D F H (.roat n c) (.roat n' c')
 | agg0 : Wk ρ D F H (.agg []) (.agg [])
 | agg (x y : AV) (xs ys : List AV) (h : Wk ρ D F H x y) (t : Wk ρ D F H (.agg xs) (.agg ys)) : Wk ρ D F H (.agg (x :: xs)) (.agg (y :: ys))
 | tup0 : Wk ρ D F H (.tup []) (.tup [])
 | tup (x y : AV) (xs ys : List AV) (h : Wk ρ D F H x y) (t : Wk ρ D F H (.tup xs) (.tup ys)) : Wk ρ D F H (.tup (x :: xs)) (.tup (y :: ys))
 | fn0 (f : FuncId) : Wk ρ D F H (.fn f []) (.fn f [])
 | fn (f : FuncId) (x y : AV) (xs ys : List AV) (h : Wk ρ D F H x y) (t : Wk ρ D F H (.fn f xs) (.fn f ys)) : Wk ρ D F H (.fn f (x :: xs)) (.fn f (y :: ys))
 | maps (id id' : Nat) (hρ : ρ id = some id') (hD : D id) : Wk ρ D F H (.map id') (.map id)
 | junk (x : AV) : Wk ρ D F H x .junk
def WkArgs (H : Heap) : List AV → List AV → Prop
 | [], [] => True
 | x :: xs, y :: ys => Wk (fun _ => none) (fun _ => False) (fun _ => True) H x y ∧ WkArgs H xs ys
 | _, _ => False
def Plain : AV → Prop
 | .pv _ => True
 | .roat _ _ => True
 | .agg xs => ∀ x ∈ xs, ∃ p, x = .pv p
 | _ => False
def FnOk (P : Program) (f : FuncId) : Prop := ∃ fn, P.funcs[f]? = some fn ∧ (fn.name == "runtime.NumGoroutine") = false ∧ fn.body.isNone = false
def PCalls (P : Program) (f : FuncId) (args : List AV) (al : Bool) (res : AV) (hb : List Blk) : Prop :=
 FnOk P f ∧ ∀ (R : Nat → Prop) (w : World) (vs : List Value), RelL (fun _ => none) R w args vs → (∀ k, R k → k < w.heap.size) → GOk P w →
  Calls P f vs.toArray w fun e w' => ∃ v ι', e = .returned v ∧ Below w.heap.size w w' ∧
   (∀ i b, hb[i]? = some b → RelB ι' (fun k => (al = true ∧ R k) ∨ (w.heap.size ≤ k ∧ k < w'.heap.size ∧ ∀ i b c, hb[i]? = some b → ι' i ≠ some (some (k, c)))) w' i b) ∧
   RelA ι' (fun k => (al = true ∧ R k) ∨ (w.heap.size ≤ k ∧ k < w'.heap.size ∧ ∀ i b c, hb[i]? = some b → ι' i ≠ some (some (k, c)))) w' res v ∧
   (∀ i b g c, hb[i]? = some b → ι' i = some (some (g, c)) → w.heap.size ≤ g) ∧
   (∀ i j b b' g c c', hb[i]? = some b → hb[j]? = some b' → ι' i = some (some (g, c)) → ι' j = some (some (g, c')) → i = j) ∧
   (∀ i x, ι' i = some x → i < hb.length)
def inBlk (ι : Emb) (hin : List Blk) (k : Nat) : Prop := ∃ i b c, hin[i]? = some b ∧ ι i = some (some (k, c))
def outR (al : Bool) (R : Nat → Prop) (ι : Emb) (hin : List Blk) (n n' : Nat) (ι' : Emb) (hout : List Blk) (k : Nat) : Prop :=
 ((al = true ∧ (R k ∨ inBlk ι hin k)) ∨ (n ≤ k ∧ k < n')) ∧ ∀ i b c, hout[i]? = some b → ι' i ≠ some (some (k, c))
def MCalls (P : Program) (f : FuncId) (args : List AV) (hin : List Blk) (nk : Nat) (al : Bool) (res : AV) (hout : List Blk) : Prop :=
 FnOk P f ∧ ∀ (ι : Emb) (R : Nat → Prop) (w : World) (vs : List Value), RelL ι R w args vs → (∀ k, R k → k < w.heap.size) →
  (∀ i b, hin[i]? = some b → RelB ι R w i b) →
  (∀ i j b b' g c c', hin[i]? = some b → hin[j]? = some b' → ι i = some (some (g, c)) → ι j = some (some (g, c')) → i = j) →
  (∀ i b g c, hin[i]? = some b → ι i = some (some (g, c)) → ¬ R g) →
  (∀ i x, ι i = some x → i < hin.length) → GOk P w → (∀ x ∈ tabsOf P, ¬ inBlk ι hin x.1) →
  Calls P f vs.toArray w fun e w' => ∃ v ι', e = .returned v ∧ BelowB (inBlk ι hin) w.heap.size w w' ∧
   (∀ i b, hout[i]? = some b → RelB ι' (outR al R ι hin w.heap.size w'.heap.size ι' hout) w' i b) ∧
   RelA ι' (outR al R ι hin w.heap.size w'.heap.size ι' hout) w' res v ∧
   (∀ i b g c, hout[i]? = some b → ι' i = some (some (g, c)) → w.heap.size ≤ g ∨ inBlk ι hin g) ∧
   (∀ i j b b' g c c', hout[i]? = some b → hout[j]? = some b' → ι' i = some (some (g, c)) → ι' j = some (some (g, c')) → i = j) ∧
   (∀ i x, ι' i = some x → i < hout.length) ∧ (∀ i x, i < nk → ι i = some x → ι' i = some x)
mutual
def AV.ren (k : Nat → Nat) : AV → AV
 | .ptr id off => .ptr (k id) off
 | .pix id off => .pix (k id) off
 | .row id s off len => .row (k id) s off len
 | .map id => .map (k id)
 | .agg xs => .agg (AV.renL k xs)
 | .tup xs => .tup (AV.renL k xs)
 | .fn f xs => .fn f (AV.renL k xs)
 | .gd g x => .gd g (AV.ren k x)
 | .pv p => .pv p
 | .roat n c => .roat n c
 | .junk => .junk
def AV.renL (k : Nat → Nat) : List AV → List AV
 | [] => []
 | x :: xs => AV.ren k x :: AV.renL k xs
end
def Blk.ren (k : Nat → Nat) : Blk → Blk
 | .box cs => .box (AV.renL k cs)
 | .row e s cs => .row e s (AV.renL k cs)
 | .map ks xs => .map ks (AV.renL k xs)
def hbHeap (hb : List Blk) : Heap := fun i => hb[i]?
def mren (ρ : Nat → Option Nat) (nk k i : Nat) : Nat := if i < nk then (ρ i).getD 0 else k + i
def mset (f : Nat → Nat) : Nat → List Blk → List (Nat × Blk)
 | _, [] => []
 | i, b :: bs => (f i, b.ren f) :: mset f (i + 1) bs
def mdel (ρ : Nat → Option Nat) (nk n : Nat) : List Nat := ((List.range n).filter fun i => decide (nk ≤ i)).filterMap ρ
def boxesKept (hin hout : List Blk) (nk : Nat) : Prop := ∀ i cs, hin[i]? = some (.box cs) → i < nk ∧ ∃ cs', hout[i]? = some (.box cs')
mutual
def AV.up (k : Nat) : AV → AV
 | .ptr id off => .ptr (k + id) off
 | .pix id off => .pix (k + id) off
 | .row id s off len => .row (k + id) s off len
 | .map id => .map (k + id)
 | .agg xs => .agg (AV.upL k xs)
 | .tup xs => .tup (AV.upL k xs)
 | .fn f xs => .fn f (AV.upL k xs)
 | .gd g x => .gd g (AV.up k x)
 | .pv p => .pv p
 | .roat n c => .roat n c
 | .junk => .junk
def AV.upL (k : Nat) : List AV → List AV
 | [] => []
 | x :: xs => AV.up k x :: AV.upL k xs
end
def Blk.up (k : Nat) : Blk → Blk
 | .box cs => .box (AV.upL k cs)
 | .row e s cs => .row e s (AV.upL k cs)
 | .map ks xs => .map ks (AV.upL k xs)
def numbered (k : Nat) : List Blk → List (Nat × Blk)
 | [] => []
 | b :: bs => (k, b) :: numbered (k + 1) bs
def repCells (z : List Value) : Nat → Nat → List Value
 | _, 0 => []
 | s, n + 1 => z.getD (s % z.length) undef :: repCells z (s + 1) n
def roL (s n : Nat) (c : Nat → Nat → PV) : List AV := (List.range n).flatMap fun i => firstPV (c i) 0 s
def newsAV (H : Heap) (s : Nat) : AV → Prop × Nat × List AV
 | .pv (.raw (.slice none 0 0)) => (True, 0, [])
 | .pv (.ro s' n c) => (s' = s, n, roL s n c)
 | .row id s' off len => match H id with
  | some (.row _ _ cells) => (s' = s ∧ (off + len) * s ≤ cells.length, len, (cells.drop (off * s)).take (len * s))
  | _ => (False, 0, [])
 | _ => (False, 0, [])
def pvAt (cells : List AV) (k : Nat) : PV :=
 match cells[k]? with
 | some (.pv p) => p
 | _ => .raw undef
def intsEq : List Value → List Value → Bool
 | [], [] => true
 | .int _ a :: r, .int _ b :: s => (a == b) && intsEq r s
 | _, _ => false
def keyEq : Value → Value → Bool
 | .int _ a, .int _ b => a == b
 | .agg a, .agg b => intsEq a.toList b.toList
 | _, _ => false
def allI : List Value → Bool
 | [] => true
 | .int .i64 _ :: r => allI r
 | _ => false
def aggI (n : Nat) : Value → Bool
 | .agg cs => Nat.beq cs.size n && allI cs.toList
 | _ => false
def flatI (T : Tab) : List Field → Nat → Bool
 | [], _ => true
 | f :: fs, i => (decide (f.name ≠ "_") && Nat.beq f.offset i && (match T f.type with | some { under := .int .i64, size := 1, .. } => true | _ => false)) && flatI T fs (i + 1)
def rawsOf : List AV → Option (List Value)
 | [] => some []
 | .pv (.raw v) :: r => (rawsOf r).map (v :: ·)
 | _ => none
def keysOkS (T : Tab) (fs : Array Field) (k : Value) (ks : List Value) : Prop := flatI T fs.toList 0 = true ∧ aggI fs.size k = true ∧ ∀ e ∈ ks, aggI fs.size e = true
def isIntV : Value → Bool
 | .int _ _ => true
 | _ => false
def mapGet (k : Value) : List Value → List AV → Option AV
 | e :: es, x :: xs => bif keyEq k e then some x else mapGet k es xs
 | _, _ => none
def mapPut (k : Value) (v : AV) : List Value → List AV → List Value × List AV
 | e :: es, x :: xs => bif keyEq k e then (e :: es, v :: xs) else (e :: (mapPut k v es xs).1, x :: (mapPut k v es xs).2)
 | _, _ => ([k], [v])
def mapDel (k : Value) : List Value → List AV → List Value × List AV
 | e :: es, x :: xs => bif keyEq k e then (es, xs) else (e :: (mapDel k es xs).1, x :: (mapDel k es xs).2)
 | _, _ => ([], [])
def keysOk (u : TypeDesc) (k : Value) (ks : List Value) : Prop := isIntV k = true ∧ ∀ e ∈ ks, Instr.sameNow u k e = some (keyEq k e)
def SubB (ρ : Nat → Option Nat) (F : Nat → Prop) (σ τ : AS) (id : Nat) (b : Blk) : Prop :=
 match ρ id with
 | some id' => ¬ F id' ∧ match b, σ.heap id' with
  | .box cs, some (.box cs') => Wk ρ (fun id => τ.heap id ≠ none) F σ.heap (.agg cs') (.agg cs)
  | .row e s cs, some (.row e' s' cs') => e = e' ∧ s = s' ∧ Wk ρ (fun id => τ.heap id ≠ none) F σ.heap (.agg cs') (.agg cs)
  | .map ks xs, some (.map ks' xs') => ks = ks' ∧ Wk ρ (fun id => τ.heap id ≠ none) F σ.heap (.agg xs') (.agg xs)
  | _, _ => False
 | none => match b with
  | .row e s [] => 0 < s
  | _ => False
structure SubC (ρ : Nat → Option Nat) (F : Nat → Prop) (σ τ : AS) : Prop where
 n : τ.n = σ.n
 slots : ∀ t, τ.slots t = .junk ∨ ((σ.slots t).when = true ∧ Wk ρ (fun id => τ.heap id ≠ none) F σ.heap (σ.slots t).bare (τ.slots t))
 heap : ∀ id b, τ.heap id = some b → τ.seen id = true ∧ SubB ρ F σ τ id b
 pins : ∀ i, i < τ.pins → i < σ.pins ∧ ρ i = some i ∧ τ.heap i ≠ none
 inj : ∀ i j b c k, τ.heap i = some b → τ.heap j = some c → ρ i = some k → ρ j = some k → i = j
structure Eff where
 ok : Prop
 v : AV
 set : List (Nat × Blk)
 del : List Nat
abbrev Eff.bad : Eff := ⟨False, .junk, [], []⟩
abbrev Eff.of (o : Out) : Eff := ⟨o.1, o.2, [], []⟩
def isMapT (T : Tab) (ts : Array TypeId) : Bool :=
 match ts.toList with
 | [t] => match T t with
  | some { under := .map _ _, .. } => true
  | _ => false
 | _ => false
def effOf (T : Tab) (ev : Operand → AV) (H : Heap) (dst : Option Nat) : Op → Eff
 | .load t x => .of (loadAV T H t (ev x))
 | .box t x => ⟨(ev x).cells.all AV.one = true ∧ ((ev x).one || (ev x).isAgg) = true, .ptr (fid dst 0) 0, [(fid dst 0, .box (ev x).cells)], []⟩
 | .alloc t => match T t with
  | some ti => ⟨(zeroAV ti.zero).cells.all AV.one = true, .ptr (fid dst 0) 0, [(fid dst 0, .box (zeroAV ti.zero).cells)], []⟩
  | none => .bad
 | .buildSlice t len parts => match T t with
  | some { under := .slice e, .. } => match T e with
   | some ti =>
    let r := fillAV (fun i => some (i * ti.size, ti.size)) ((repCells (ti.zero.cells.toList) 0 (len * ti.size)).map .raw) (parts.toList.map fun p => (p.1, ev p.2))
    ⟨0 < ti.size ∧ len * ti.size ≤ 16777216 ∧ ti.zero.cells.size = ti.size ∧ r.1 ∧ r.2.all AV.one = true, .row (fid dst 0) ti.size 0 len, [(fid dst 0, .row e ti.size r.2)], []⟩
   | none => .bad
  | _ => .bad
 | .makeSlice t l c => match T t with
  | some { under := .slice e, .. } => match T e with
   | some ti => match ev l, ev c with
    | .pv (.raw (.int kl n)), .pv (.raw (.int kc m)) => ⟨m = n ∧ 0 ≤ n ∧ 0 < ti.size ∧ ti.zero.cells.size = ti.size ∧ (ti.zero.cells.toList.map AV.raw).all AV.one = true ∧ n.toNat * ti.bytes ≤ 140737488355328 ∧ n.toNat ≤ 140737488355328,
      .row (fid dst 0) ti.size 0 n.toNat, [(fid dst 0, .row e ti.size ((repCells ti.zero.cells.toList 0 (n.toNat * ti.size)).map .raw))], []⟩
    | _, _ => .bad
   | none => .bad
  | _ => .bad
 | .store t a x => match T t with
  | some ti => match (ev a).unpix with
   | .ptr id off => match H id with
    | some (.box cs) => ⟨(ev x).cells.all AV.one = true ∧ ((ev x).one || (ev x).isAgg) = true ∧ (ev x).cells.length = ti.size ∧ off + ti.size ≤ cs.length, .raw undef, [(id, .box (setCells cs off (ev x).cells))], []⟩
    | some (.row e s cs) => ⟨(ev x).cells.all AV.one = true ∧ ((ev x).one || (ev x).isAgg) = true ∧ (ev x).cells.length = ti.size ∧ off + ti.size ≤ cs.length, .raw undef, [(id, .row e s (setCells cs off (ev x).cells))], []⟩
    | _ => .bad
   | _ => .bad
  | none => .bad
 | .makeMap _ none => ⟨True, .map (fid dst 0), [(fid dst 0, .map [] [])], []⟩
 | .lookup t m k ok => match T t with
  | some { under := .map kt et, .. } => match T kt, T et with
   | some { under := .int ik, .. }, some ti => match ev m, ev k with
    | .map id, .pv (.raw kv) => match H id with
     | some (.map ks xs) =>
      let v := match mapGet kv ks xs with | some x => x | none => zeroAV ti.zero
      .of (keysOk (.int ik) kv ks, bif ok then .tup [v, .bool (mapGet kv ks xs).isSome] else v)
     | _ => .bad
    | _, _ => .bad
   | some { under := .struct fs, cmp := true, .. }, some ti => match ev m, ev k with
    | .map id, .agg cs => match rawsOf cs, H id with
     | some vs, some (.map ks xs) =>
      let v := match mapGet (.agg vs.toArray) ks xs with | some x => x | none => zeroAV ti.zero
      .of (keysOkS T fs (.agg vs.toArray) ks, bif ok then .tup [v, .bool (mapGet (.agg vs.toArray) ks xs).isSome] else v)
     | _, _ => .bad
    | _, _ => .bad
   | _, _ => .bad
  | _ => .bad
 | .mapUpdate t m k x => match T t with
  | some { under := .map kt _, .. } => match T kt with
   | some { under := .int ik, .. } => match ev m, ev k with
    | .map id, .pv (.raw kv) => match H id with
     | some (.map ks xs) => ⟨keysOk (.int ik) kv ks ∧ (ev x).one = true, .raw undef, [(id, .map (mapPut kv (ev x) ks xs).1 (mapPut kv (ev x) ks xs).2)], []⟩
     | _ => .bad
    | _, _ => .bad
   | some { under := .struct fs, cmp := true, .. } => match ev m, ev k with
    | .map id, .agg cs => match rawsOf cs, H id with
     | some vs, some (.map ks xs) => ⟨keysOkS T fs (.agg vs.toArray) ks ∧ (ev x).one = true, .raw undef, [(id, .map (mapPut (.agg vs.toArray) (ev x) ks xs).1 (mapPut (.agg vs.toArray) (ev x) ks xs).2)], []⟩
     | _, _ => .bad
    | _, _ => .bad
   | _ => .bad
  | _ => .bad
 | .insert t m k x => match T t with
  | some { under := .map kt _, .. } => match T kt with
   | some { under := .int ik, .. } => match ev m, ev k with
    | .map id, .pv (.raw kv) => match H id with
     | some (.map ks xs) => ⟨keysOk (.int ik) kv ks ∧ (ev x).one = true, .raw undef, [(id, .map (mapPut kv (ev x) ks xs).1 (mapPut kv (ev x) ks xs).2)], []⟩
     | _ => .bad
    | _, _ => .bad
   | some { under := .struct fs, cmp := true, .. } => match ev m, ev k with
    | .map id, .agg cs => match rawsOf cs, H id with
     | some vs, some (.map ks xs) => ⟨keysOkS T fs (.agg vs.toArray) ks ∧ (ev x).one = true, .raw undef, [(id, .map (mapPut (.agg vs.toArray) (ev x) ks xs).1 (mapPut (.agg vs.toArray) (ev x) ks xs).2)], []⟩
     | _, _ => .bad
    | _, _ => .bad
   | _ => .bad
  | _ => .bad
 | .call { callee := .builtin .delete, args := args, argTypes := ts } => match args.toList, ts.toList with
  | [m, k], t :: _ => match T t with
   | some { under := .map kt _, .. } => match T kt with
    | some { under := .int ik, .. } => match ev m, ev k with
     | .map id, .pv (.raw kv) => match H id with
      | some (.map ks xs) => ⟨keysOk (.int ik) kv ks, .tup [], [(id, .map (mapDel kv ks xs).1 (mapDel kv ks xs).2)], []⟩
      | _ => .bad
     | _, _ => .bad
    | _ => .bad
   | _ => .bad
  | _, _ => .bad
 | .call { callee := .builtin .append, args := args, argTypes := ts } => match args.toList, ts.toList with
  | [s, x], [t, t'] => match T t, T t' with
   | some { under := .slice e, .. }, some { under := .slice e', .. } => match T e with
    | some ti =>
     let nw := newsAV H ti.size (ev x)
     match ev s with
     | .pv (.raw (.slice none 0 0)) => ⟨t = t' ∧ nw.1 ∧ 0 < ti.size ∧ ti.zero.cells.size = ti.size ∧ (nw.2.1 + nw.2.1 / 4 + 192) * ti.bytes ≤ 281474976710656 ∧ nw.2.1 ≤ 140737488355328, .row (fid dst 0) ti.size 0 nw.2.1, [(fid dst 0, .row e ti.size nw.2.2)], []⟩
     | .row id s' off len => match H id with
      | some (.row e'' s'' cells) => ⟨t = t' ∧ nw.1 ∧ 0 < ti.size ∧ ti.zero.cells.size = ti.size ∧ s' = ti.size ∧ s'' = ti.size ∧ e'' = e ∧ (off + len) * ti.size ≤ cells.length ∧ (len + nw.2.1 + (len + nw.2.1) / 4 + 192) * ti.bytes ≤ 281474976710656 ∧ len + nw.2.1 ≤ 140737488355328,
        .row (fid dst 0) ti.size 0 (len + nw.2.1), [(fid dst 0, .row e ti.size ((cells.drop (off * ti.size)).take (len * ti.size) ++ nw.2.2))], [id]⟩
      | _ => .bad
     | _ => .bad
    | none => .bad
   | _, _ => .bad
  | _, _ => .bad
 | .call { callee := .builtin .copy, args := args, argTypes := ts } => match args.toList, ts.toList with
  | [s, x], [t, t'] => match T t with
   | some { under := .slice e, .. } => match T e with
    | some ti =>
     let nw := newsAV H ti.size (ev x)
     match ev s with
     | .row id s' off len => match H id with
      | some (.row e'' s'' cells) => ⟨nw.1 ∧ 0 < ti.size ∧ s' = ti.size ∧ s'' = ti.size ∧ (off + len) * ti.size ≤ cells.length,
        .pv (.raw (.int .i64 ((min nw.2.1 len : Nat) : Int))), [(id, .row e'' s'' (setCells cells (off * ti.size) (nw.2.2.take (min nw.2.1 len * ti.size))))], []⟩
      | _ => .bad
     | _ => .bad
    | none => .bad
   | _ => .bad
  | _, _ => .bad
 | .call { callee := .builtin .clear, args := args, argTypes := ts } => match args.toList, ts.toList with
  | [s], [t] => match T t with
   | some { under := .slice e, .. } => match T e with
    | some ti => match ev s with
     | .row id s' off len => match H id with
      | some (.row e'' s'' cells) => ⟨0 < ti.size ∧ s' = ti.size ∧ s'' = ti.size ∧ ti.zero.cells.size = ti.size ∧ (ti.zero.cells.toList.map AV.raw).all AV.one = true ∧ (off + len) * ti.size ≤ cells.length,
        .tup [], [(id, .row e'' s'' (setCells cells (off * ti.size) ((repCells ti.zero.cells.toList 0 (len * ti.size)).map .raw)))], []⟩
      | _ => .bad
     | _ => .bad
    | none => .bad
   | _ => .bad
  | _, _ => .bad
 | .call { callee := .builtin .len, args := args, argTypes := ts } => match isMapT T ts with
  | true => match args.toList with
   | [m] => match ev m with
    | .map id => match H id with
     | some (.map ks xs) => ⟨True, .pv (.raw (.int .i64 (ks.length : Nat))), [], []⟩
     | _ => .bad
    | _ => .bad
   | _ => .bad
  | false => match pureOut T ev (.call { callee := .builtin .len, args := args, argTypes := ts }) with | some out => .of out | none => .bad
 | .pick c a b => .bad
 | .convert s d x => match Nat.beq s d with
  | true => match ev x with
   | .row id sz off len => match T s with
    | some { under := .slice e, .. } => match T e, H id with
     | some { under := .int .u8, .. }, some (.row _ s' cells) => ⟨sz = 1 ∧ s' = 1 ∧ 0 < len ∧ off + len ≤ cells.length ∧ (∀ k, k < len → ∃ p, cells[off + k]? = some (.pv p)), .pv (.ro 1 len (fun i _ => pvAt cells (off + i))), [], [id]⟩
     | _, _ => .bad
    | _ => .bad
   | y => .of (convAV T s d y)
  | false => .of (convAV T s d (ev x))
 | op => match pureOut T ev op with | some out => .of out | none => .bad
def isMC (fz : List Nat) : Op → Bool
 | .call { callee := .value (.func f), .. } => fz.contains f
 | .call { callee := .value (.tmp _), .. } => fz.contains 1048576
 | _ => false
def callOf : Op → Option (Operand × List Operand)
 | .call { callee := .value f, args := args, .. } => some (f, args.toList)
 | _ => none
def Does (P : Program) (T : Tab) (o : Oper) (σ : AS) (v : AV) (set : List (Nat × Blk)) (del : List Nat) : Prop :=
 match o.op with
 | .pick c a b => ((σ.ev c).when = true ∧ ∃ t, (σ.ev c).bare = .bool t) ∧ (pickAV (σ.ev c).bare (σ.ev a) (σ.ev b)).1 ∧ v = (pickAV (σ.ev c).bare (σ.ev a) (σ.ev b)).2 ∧ set = [] ∧ del = []
 | op => (∀ x ∈ op.operands.toList, (σ.ev x).when = true) ∧
  match callOf op with
  | some (f, xs) => match isMC σ.fz o.op with
   | false => ∃ fn caps args al res hb, σ.bev f = .fn fn caps ∧ WkArgs σ.heap (xs.map σ.bev ++ caps) args ∧ (al = true → ∀ x ∈ xs.map σ.bev ++ caps, Plain x) ∧ PCalls P fn args al res hb ∧ hb.length ≤ 64 ∧
    v = res.up (fid o.dst 0) ∧ set = numbered (fid o.dst 0) (hb.map (Blk.up (fid o.dst 0))) ∧ del = []
   | true => ∃ fn caps args hin nk al res hout, ∃ (ρ : Nat → Option Nat) (F : Nat → Prop), σ.bev f = .fn fn caps ∧
    Wk ρ (fun id => hbHeap hin id ≠ none) F σ.heap (.agg (xs.map σ.bev ++ caps)) (.agg args) ∧ SubC ρ F σ { n := σ.n, slots := fun _ => .junk, heap := hbHeap hin, seen := fun _ => true } ∧
    (al = true → ∀ id, ¬ F id) ∧ (∀ i, i < nk → ∃ id, ρ i = some id) ∧ nk ≤ hin.length ∧ nk ≤ hout.length ∧ boxesKept hin hout nk ∧ MCalls P fn args hin nk al res hout ∧
    (∀ i, nk ≤ i → i < hout.length → σ.seen (fid o.dst 0 + i) = false) ∧
    v = res.ren (mren ρ nk (fid o.dst 0)) ∧ set = mset (mren ρ nk (fid o.dst 0)) 0 hout ∧ del = mdel ρ nk hin.length
  | none => (effOf T σ.bev σ.heap o.dst op).ok ∧ v = (effOf T σ.bev σ.heap o.dst op).v ∧ set = (effOf T σ.bev σ.heap o.dst op).set ∧ del = (effOf T σ.bev σ.heap o.dst op).del
def setH (H : Heap) : List (Nat × Blk) → Heap
 | [] => H
 | (k, b) :: r => setH (upd H k (some b)) r
def delH (H : Heap) : List Nat → Heap
 | [] => H
 | k :: r => delH (upd H k none) r
def seenS (f : Nat → Bool) : List (Nat × Blk) → Nat → Bool
 | [] => f
 | (k, _) :: r => seenS (upd f k true) r
def isStore : Op → Bool
 | .store _ _ _ => true
 | .call { callee := .builtin .copy, .. } => true
 | .mapUpdate .. => true
 | .insert .. => true
 | .call { callee := .builtin .delete, .. } => true
 | .call { callee := .builtin .clear, .. } => true
 | _ => false
def GRel (σ : AS) (ops : Array Oper) (o : Oper) (g : Bool) : Prop :=
 match o.guard with
 | none => g = true
 | some (j, want) => match (ops[j]?).bind (·.dst) with
  | none => False
  | some d => match σ.slots d with
   | .pv (.raw (.bool b)) => g = (b == want)
   | .gd p (.pv (.raw (.bool b))) => g = (p && (b == want))
   | _ => False
def pureOp (T : Tab) : Op → Bool
 | .move _ | .assign _ | .binOp .. | .unOp .. | .fieldAddr .. | .indexAddr .. | .slice .. | .build .. | .field .. | .index .. | .extract .. | .makeFunc .. | .nilCheck _ | .pick .. => true
 | .convert s d _ => !(Nat.beq s d)
 | .call { callee := .builtin .len, argTypes := ts, .. } => !isMapT T ts
 | .call { callee := .builtin .max, .. } | .call { callee := .builtin .min, .. } => true
 | _ => false
def Born (P : Program) (T : Tab) (o : Oper) (σ : AS) (v : AV) (set set0 : List (Nat × Blk)) (del : List Nat) : Prop :=
 ∃ v0, Does P T o σ v0 set0 del ∧ ((v = v0 ∧ set = set0) ∨ (isStore o.op = false ∧ isMC σ.fz o.op = false ∧ set = [] ∧ Wk (fun _ => none) (fun _ => False) (fun _ => True) (setH (fun _ => none) set0) v0 v))
def AStep (P : Program) (T : Tab) (ops : Array Oper) (o : Oper) (σ σ' : AS) : Prop :=
 ∃ g v set set0 del, GRel σ ops o g ∧ (g = true → Born P T o σ v set set0 del) ∧ (isStore o.op = false → isMC σ.fz o.op = false → ∀ x ∈ set0, σ.seen x.1 = false) ∧ (g = false → set = [] ∧ del = [] ∧ (pureOp T o.op = true → set0 = [])) ∧
  (∀ d, o.dst = some d → d < σ.n) ∧
  σ' = { σ with slots := putS σ.slots o.dst (if o.guard.isNone then v else .gd g v), heap := setH (delH σ.heap del) set, seen := seenS σ.seen set0 }
end Go.Ab

