import Derived.Test.YtfnmmlcmjmepjaaAbA
set_option linter.unusedVariables false
namespace Go.Ab
open Go.RowKit
structure TI where
 under : TypeDesc
 size : Nat
 bytes : Nat
 zero : Value
 cmp : Bool := false
abbrev Tab := Nat → Option TI
def TabOk (P : Program) (T : Tab) : Prop := ∀ t i, T t = some i → P.underlying t = some i.under ∧ ∃ info, P.info? t = some info ∧ info.size = i.size ∧ info.bytes = i.bytes ∧ info.zero = some i.zero ∧ (i.cmp = true → P.stoodInHeld t = false ∧ P.eqGuardType P.depth t = false)
abbrev Out := Prop × AV
abbrev Out.bad : Out := (False, .junk)
def zeroAV : Value → AV
 | .agg cs => .agg (cs.toList.map .raw)
 | v => .raw v
def AV.cells : AV → List AV
 | .agg xs => xs
 | x => [x]
def AV.one : AV → Bool
 | .pv (.raw v) => v.oneCell'
 | .pv (.ro _ _ _) => true
 | .ptr _ _ => true
 | .pix _ _ => true
 | .row _ _ _ _ => true
 | .roat _ _ => true
 | .fn _ _ => true
 | .map _ => true
 | _ => false
theorem RelA.one {ι : Emb} {R : Nat → Prop} {w : World} {x : AV} {u : Value} (h : RelA ι R w x u) (h1 : x.one = true) : u.oneCell' = true := by
 cases x with
 | pv p =>
  simp only [RelA] at h
  cases p with
  | raw v => simp only [RelP] at h; subst h; exact h1
  | ro s n c => simp only [RelP] at h; obtain ⟨a, cap, rfl, _⟩ := h; rfl
 | ptr id off => simp only [RelA] at h; obtain ⟨g, c, _, rfl⟩ := h; rfl
 | pix id off => simp only [RelA] at h; obtain ⟨g, c, _, rfl⟩ := h; rfl
 | row id s off len =>
  simp only [RelA] at h
  rcases h with ⟨_, _, _, rfl⟩ | ⟨g, c, a, _, rfl, _⟩ <;> rfl
 | roat n cell => simp only [RelA] at h; obtain ⟨g, o, rfl, _⟩ := h; rfl
 | fn f caps => simp only [RelA] at h; obtain ⟨us, rfl, _⟩ := h; rfl
 | map id => simp only [RelA] at h; obtain ⟨g, c, _, rfl⟩ := h; rfl
 | _ => simp [AV.one] at h1
def bitsOf (op : BinOp) (k : IntKind) (x y : Int) : Int :=
 let a := BitVec.ofInt k.bits x
 let b := BitVec.ofInt k.bits y
 match op with
 | .and => k.wrap (a &&& b).toNat
 | .or => k.wrap (a ||| b).toNat
 | .xor => k.wrap (a ^^^ b).toNat
 | _ => k.wrap (a &&& ~~~b).toNat
def intBin (op : BinOp) (k : IntKind) (a b : Int) : Prop × Value :=
 match op with
 | .add => (True, .int k (k.wrap (a + b)))
 | .sub => (True, .int k (k.wrap (a - b)))
 | .mul => (True, .int k (k.wrap (a * b)))
 | .quo => (b ≠ 0, .int k (k.wrap (a.tdiv b)))
 | .rem => (b ≠ 0, .int k (a.tmod b))
 | .and => (True, .int k (bitsOf .and k a b))
 | .or => (True, .int k (bitsOf .or k a b))
 | .xor => (True, .int k (bitsOf .xor k a b))
 | .andNot => (True, .int k (bitsOf .andNot k a b))
 | .eql => (True, .bool (a == b))
 | .neq => (True, .bool (a != b))
 | .lss => (True, .bool (decide (a < b)))
 | .leq => (True, .bool (decide (a ≤ b)))
 | .gtr => (True, .bool (decide (a > b)))
 | .geq => (True, .bool (decide (a ≥ b)))
 | .shl => (0 ≤ b, .int k (k.wrap (a * 2 ^ (min b.toNat k.bits))))
 | .shr => (0 ≤ b, .int k (a.fdiv (2 ^ (min b.toNat k.bits))))
def eqFs (T : Tab) (c : TypeId → List AV → List AV → Prop × Bool) (xs ys : List AV) : List Field → Prop × Bool
 | [] => (True, true)
 | f :: fs => match T f.type with
  | some ti => (f.name ≠ "_" ∧ (f.offset + ti.size ≤ xs.length ∧ f.offset + ti.size ≤ ys.length) ∧ (c f.type ((xs.drop f.offset).take ti.size) ((ys.drop f.offset).take ti.size)).1 ∧ (eqFs T c xs ys fs).1,
    (c f.type ((xs.drop f.offset).take ti.size) ((ys.drop f.offset).take ti.size)).2 && (eqFs T c xs ys fs).2)
  | none => (False, false)
def eqAs (c : List AV → List AV → Prop × Bool) (n : Nat) (xs ys : List AV) : List Nat → Prop × Bool
 | [] => (True, true)
 | i :: is => ((i * n + n ≤ xs.length ∧ i * n + n ≤ ys.length) ∧ (c ((xs.drop (i * n)).take n) ((ys.drop (i * n)).take n)).1 ∧ (eqAs c n xs ys is).1,
   (c ((xs.drop (i * n)).take n) ((ys.drop (i * n)).take n)).2 && (eqAs c n xs ys is).2)
def eqC (T : Tab) : Nat → TypeId → List AV → List AV → Prop × Bool
 | 0, _, _, _ => (False, false)
 | n + 1, t, xs, ys => match T t with
  | some { under := .bool, .. } => match xs, ys with
   | [.pv (.raw (.bool a))], [.pv (.raw (.bool b))] => (True, a == b)
   | _, _ => (False, false)
  | some { under := .int _, .. } => match xs, ys with
   | [.pv (.raw (.int k a))], [.pv (.raw (.int k' b))] => (k = k', a == b)
   | _, _ => (False, false)
  | some { under := .string, .. } => match xs, ys with
   | [.pv (.raw (.string a))], [.pv (.raw (.string b))] => (True, a.toList == b.toList)
   | _, _ => (False, false)
  | some { under := .struct fs, cmp := true, .. } => eqFs T (eqC T n) xs ys fs.toList
  | some { under := .array m e, .. } => match T e with
   | some ti => eqAs (eqC T n e) ti.size xs ys (List.range m)
   | none => (False, false)
  | _ => (False, false)
def eqF (T : Tab) (xs ys : List AV) (fs : List Field) : Prop × Bool := eqFs T (eqC T 5) xs ys fs
def eqA (T : Tab) (e : TypeId) (n : Nat) (xs ys : List AV) (is : List Nat) : Prop × Bool := eqAs (eqC T 5 e) n xs ys is
def binAV (T : Tab) (op : BinOp) (xT : TypeId) : AV → AV → Out
 | .pv (.raw (.int k a)), .pv (.raw (.int k' b)) => (((op = .shl ∨ op = .shr) ∨ k = k') ∧ (intBin op k a b).1, .raw (intBin op k a b).2)
 | .pv (.raw (.bool a)), .pv (.raw (.bool b)) => match T xT, op with
  | some { under := .bool, .. }, .eql => (True, .bool (a == b))
  | some { under := .bool, .. }, .neq => (True, .bool (a != b))
  | _, _ => Out.bad
 | .pv (.raw (.string a)), .pv (.raw (.string b)) => match op with
  | .eql => (True, .bool (a.toList == b.toList))
  | .neq => (True, .bool (!(a.toList == b.toList)))
  | .add => (a.size + b.size ≤ 9223372036854775807, .raw (.string (a ++ b)))
  | _ => Out.bad
 | .agg xs, .agg ys => match T xT, op with
  | some { under := .struct fs, cmp := true, .. }, .eql => ((eqF T xs ys fs.toList).1, .bool (eqF T xs ys fs.toList).2)
  | some { under := .struct fs, cmp := true, .. }, .neq => ((eqF T xs ys fs.toList).1, .bool (!(eqF T xs ys fs.toList).2))
  | some { under := .array m e, cmp := true, .. }, .eql => match T e with
   | some ti => ((eqA T e ti.size xs ys (List.range m)).1, .bool (eqA T e ti.size xs ys (List.range m)).2)
   | none => Out.bad
  | some { under := .array m e, cmp := true, .. }, .neq => match T e with
   | some ti => ((eqA T e ti.size xs ys (List.range m)).1, .bool (!(eqA T e ti.size xs ys (List.range m)).2))
   | none => Out.bad
  | _, _ => Out.bad
 | .ptr _ _, .pv (.raw (.pointer none)) => match T xT, op with
  | some { under := .pointer _, .. }, .eql => (True, .bool false)
  | some { under := .pointer _, .. }, .neq => (True, .bool true)
  | _, _ => Out.bad
 | .pv (.raw (.pointer none)), .pv (.raw (.pointer none)) => match T xT, op with
  | some { under := .pointer _, .. }, .eql => (True, .bool true)
  | some { under := .pointer _, .. }, .neq => (True, .bool false)
  | _, _ => Out.bad
 | _, _ => Out.bad
def unAV (op : UnOp) : AV → Out
 | .pv (.raw (.bool b)) => match op with | .not => (True, .bool (!b)) | _ => Out.bad
 | .pv (.raw (.int k n)) => match op with | .neg => (True, .raw (.int k (k.wrap (0 - n)))) | .xor => (True, .raw (.int k (bitsOf .xor k (if k.signed then -1 else k.max) n))) | _ => Out.bad
 | _ => Out.bad
def fieldAddrAV (T : Tab) (s : TypeId) (f : Nat) (x : AV) : Out :=
 match T s with
 | some { under := .struct fs, .. } => match fs[f]? with
  | some fd => match T fd.type, x with
   | some ti, .ptr id off => (ti.size ≠ 0, .ptr id (off + fd.offset))
   | some ti, .pix id off => (ti.size ≠ 0, .pix id (off + fd.offset))
   | some ti, .roat n cell => (ti.size ≠ 0, .roat (n - fd.offset) (fun j => cell (fd.offset + j)))
   | _, _ => Out.bad
  | none => Out.bad
 | _ => Out.bad
def indexAddrAV (T : Tab) (t : TypeId) (x ix : AV) : Out :=
 match ix with
 | .pv (.raw (.int k i)) => match T t with
  | some { under := .slice e, .. } => match T e, x with
   | some ti, .pv (.ro s n cell) => (ti.size = s ∧ 0 ≤ i ∧ i < n, .roat s (cell i.toNat))
   | some ti, .row id s off len => (ti.size = s ∧ 0 ≤ i ∧ i < len, .ptr id ((off + i.toNat) * s))
   | _, _ => Out.bad
  | some { under := .array m e, .. } => match T e, x with
   | some ti, .ptr id off => (0 ≤ i ∧ i < m, .pix id (off + i.toNat * ti.size))
   | some ti, .pix id off => (0 ≤ i ∧ i < m, .pix id (off + i.toNat * ti.size))
   | some ti, .roat n cell => (0 ≤ i ∧ i < m, .roat (n - i.toNat * ti.size) (fun j => cell (i.toNat * ti.size + j)))
   | _, _ => Out.bad
  | _ => Out.bad
 | _ => Out.bad
def boundAV (d : Nat) : Option AV → Prop × Nat
 | none => (True, d)
 | some (.pv (.raw (.int _ i))) => (0 ≤ i, i.toNat)
 | _ => (False, 0)
def sliceAV (T : Tab) (t : TypeId) (x : AV) (lo hi mx : Option AV) : Out :=
 match mx with
 | some m => match T t with
  | some { under := .slice e, .. } => match T e, x with
   | some ti, .pv (.ro s n cell) =>
    let l := boundAV 0 lo
    let h := boundAV n hi
    let q := boundAV 0 (some m)
    (ti.size = s ∧ hi.isSome = true ∧ l.1 ∧ h.1 ∧ q.1 ∧ l.2 ≤ h.2 ∧ h.2 ≤ q.2 ∧ q.2 ≤ n, .pv (.ro s (h.2 - l.2) (fun i j => cell (l.2 + i) j)))
   | _, _ => Out.bad
  | _ => Out.bad
 | none => match T t with
  | some { under := .slice e, .. } => match T e, x with
   | some ti, .pv (.ro s n cell) =>
    let l := boundAV 0 lo
    let h := boundAV n hi
    (ti.size = s ∧ l.1 ∧ h.1 ∧ l.2 ≤ h.2 ∧ h.2 ≤ n, .pv (.ro s (h.2 - l.2) (fun i j => cell (l.2 + i) j)))
   | some ti, .row id s off len =>
    let l := boundAV 0 lo
    let h := boundAV len hi
    (ti.size = s ∧ l.1 ∧ h.1 ∧ l.2 ≤ h.2 ∧ h.2 ≤ len, .row id s (off + l.2) (h.2 - l.2))
   | _, _ => Out.bad
  | some { under := .string, .. } => match x with
   | .pv (.raw (.string s)) =>
    let l := boundAV 0 lo
    let h := boundAV s.size hi
    (l.1 ∧ h.1 ∧ l.2 ≤ h.2 ∧ h.2 ≤ s.size, .raw (.string (s.extract l.2 h.2)))
   | _ => Out.bad
  | some { under := .array m e, .. } => match T e, x with
   | some ti, .roat n cell =>
    let l := boundAV 0 lo
    let h := boundAV m hi
    (m * ti.size ≤ n ∧ m ≤ 140737488355328 ∧ l.1 ∧ h.1 ∧ l.2 ≤ h.2 ∧ h.2 ≤ m, .pv (.ro ti.size (h.2 - l.2) (fun i j => cell ((l.2 + i) * ti.size + j))))
   | _, _ => Out.bad
  | _ => Out.bad
def AV.isAgg : AV → Bool
 | .agg _ => true
 | _ => false
def setCells (cells : List AV) (off : Nat) : List AV → List AV
 | [] => cells
 | c :: cs => setCells (cells.set off c) (off + 1) cs
def fillAV (place : Nat → Option (Nat × Nat)) : List AV → List (Nat × AV) → Prop × List AV
 | cells, [] => (True, cells)
 | cells, (i, v) :: rest => match place i with
  | none => (False, cells)
  | some (off, size) => let r := fillAV place (setCells cells off v.cells) rest
   ((v.one || v.isAgg) = true ∧ v.cells.length = size ∧ off + size ≤ cells.length ∧ r.1, r.2)
def placesAV (T : Tab) (fs : Array Field) (i : Nat) : Option (Nat × Nat) :=
 match fs[i]? with
 | some f => match T f.type with | some ti => some (f.offset, ti.size) | none => none
 | none => none
def buildAV (T : Tab) (t : TypeId) (parts : List (Nat × AV)) : Out :=
 match T t with
 | some { under := .struct fs, zero := z, .. } =>
  let r := fillAV (placesAV T fs) (zeroAV z).cells parts
  ((∀ f ∈ fs.toList, T f.type ≠ none) ∧ r.1, .agg r.2)
 | some { under := .array _ e, zero := z, .. } => match T e with
  | some ti => let r := fillAV (fun i => some (i * ti.size, ti.size)) (zeroAV z).cells parts; (r.1, .agg r.2)
  | none => Out.bad
 | _ => Out.bad
def partAV (T : Tab) (t : TypeId) (cells : List AV) (off : Nat) : Out :=
 match T t with
 | some { under := .struct _, size := n, .. } => (True, .agg ((cells.drop off).take n))
 | some { under := .array _ _, size := n, .. } => (True, .agg ((cells.drop off).take n))
 | some _ => match cells[off]? with | some c => (True, c) | none => Out.bad
 | none => Out.bad
def fieldAV (T : Tab) (t : TypeId) (f : Nat) : AV → Out
 | .agg xs => match T t with
  | some { under := .struct fs, .. } => match fs[f]? with | some fd => partAV T fd.type xs fd.offset | none => Out.bad
  | _ => Out.bad
 | _ => Out.bad
def indexAV (T : Tab) (t : TypeId) (x ix : AV) : Out :=
 match x, ix, T t with
 | .agg xs, .pv (.raw (.int k i)), some { under := .array m e, .. } => match T e with
  | some ti => ((0 ≤ i ∧ i < m) ∧ (partAV T e xs (i.toNat * ti.size)).1, (partAV T e xs (i.toNat * ti.size)).2)
  | none => Out.bad
 | _, _, _ => Out.bad
def extractAV (i : Nat) : AV → Out
 | .tup xs => match xs[i]? with | some x => (True, x) | none => Out.bad
 | _ => Out.bad
def lenAV (T : Tab) (t : TypeId) (x : AV) : Out :=
 match T t with
 | some { under := .slice _, .. } => match x with
  | .pv (.ro _ n _) => (True, .i n)
  | .row _ _ _ n => (True, .i n)
  | .pv (.raw (.slice _ n _)) => (True, .i n)
  | _ => Out.bad
 | some { under := .array n _, .. } => (True, .i n)
 | some { under := .string, .. } => match x with
  | .pv (.raw (.string s)) => (True, .i s.size)
  | _ => Out.bad
 | _ => Out.bad
def minmaxAV (mx : Bool) : AV → AV → Out
 | .pv (.raw (.int k a)), .pv (.raw (.int k' b)) => (True, .raw (.int k (if mx then (if b > a then b else a) else (if b < a then b else a))))
 | _, _ => Out.bad
def mm3AV (mx : Bool) (a b c : AV) : Out := ((minmaxAV mx a b).1 ∧ (minmaxAV mx (minmaxAV mx a b).2 c).1, (minmaxAV mx (minmaxAV mx a b).2 c).2)
def bytesOf (xs : List Int) : ByteArray := xs.foldl (fun r n => r.push (UInt8.ofNat n.toNat)) ByteArray.empty
def byteAt : PV → Int
 | .raw (.int _ b) => b
 | _ => 0
def strOf (n : Nat) (c : Nat → Nat → PV) : ByteArray := bytesOf ((List.range n).map fun i => byteAt (c i 0))
def convAV (T : Tab) (src dst : TypeId) : AV → Out
 | .pv (.ro s n c) => match T src, T dst with
  | some { under := .slice e, .. }, some { under := .string, .. } => match T e with
   | some { under := .int .u8, .. } => (s = 1 ∧ ∀ i, i < n → c i 0 = .raw (.int .u8 (byteAt (c i 0))), .raw (.string (strOf n c)))
   | _ => Out.bad
  | _, _ => Out.bad
 | .pv (.raw (.int k n)) => match T src, T dst with
  | some { under := .int _, .. }, some { under := .int k', .. } => (True, .raw (.int k' (k'.wrap n)))
  | _, _ => Out.bad
 | _ => Out.bad
def pb (t a b : Bool) : Bool := bif t then a else b
def pickAV : AV → AV → AV → Out
 | .pv (.raw (.bool t)), .pv (.raw (.bool a)), .pv (.raw (.bool b)) => (True, .bool (pb t a b))
 | .pv (.raw (.bool t)), .gd p (.pv (.raw (.bool a))), .pv (.raw (.bool b)) => (t = true → p = true, .bool (pb t a b))
 | .pv (.raw (.bool t)), .pv (.raw (.bool a)), .gd q (.pv (.raw (.bool b))) => (t = false → q = true, .bool (pb t a b))
 | .pv (.raw (.bool t)), .gd p (.pv (.raw (.bool a))), .gd q (.pv (.raw (.bool b))) => ((t = true → p = true) ∧ (t = false → q = true), .bool (pb t a b))
 | _, _, _ => Out.bad
def AV.bare : AV → AV
 | .gd _ x => x
 | x => x
def AV.when : AV → Bool
 | .gd p _ => p
 | _ => true
def pureOut (T : Tab) (ev : Operand → AV) : Op → Option Out
 | .move x | .assign x => some (True, ev x)
 | .binOp op xT x y _ => some (binAV T op xT (ev x) (ev y))
 | .unOp op _ x => some (unAV op (ev x))
 | .fieldAddr s x f => some (fieldAddrAV T s f (ev x))
 | .indexAddr t x ix => some (indexAddrAV T t (ev x) (ev ix))
 | .slice t x lo hi mx => some (sliceAV T t (ev x) (lo.map ev) (hi.map ev) (mx.map ev))
 | .build t parts => some (buildAV T t (parts.toList.map fun p => (p.1, ev p.2)))
 | .field t x f => some (fieldAV T t f (ev x))
 | .index t x ix => some (indexAV T t (ev x) (ev ix))
 | .extract x i => some (extractAV i (ev x))
 | .convert s d x => match convAV T s d (ev x) with | (φ, v) => some (φ, v)
 | .makeFunc (.func f) first caps => some (first = #[], .fn f (caps.toList.map ev))
 | .nilCheck x => match ev x with | .ptr id off => some (True, .ptr id off) | .pix id off => some (True, .pix id off) | .roat n c => some (True, .roat n c) | _ => some Out.bad
 | .call { callee := .builtin .len, args := args, argTypes := ts } => match args.toList, ts.toList with | [x], [t] => some (lenAV T t (ev x)) | _, _ => some Out.bad
 | .call { callee := .builtin .max, args := args, .. } => match args.toList with | [x, y] => some (minmaxAV true (ev x) (ev y)) | [x, y, z] => some (mm3AV true (ev x) (ev y) (ev z)) | _ => some Out.bad
 | .call { callee := .builtin .min, args := args, .. } => match args.toList with | [x, y] => some (minmaxAV false (ev x) (ev y)) | [x, y, z] => some (mm3AV false (ev x) (ev y) (ev z)) | _ => some Out.bad
 | _ => none
end Go.Ab

