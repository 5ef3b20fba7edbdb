import Derived.Test.YtfnmmlcmjmepjaaAbS
set_option linter.unusedVariables false
set_option linter.unusedSimpArgs false
namespace Go.Ab
open Go.RowKit
variable {P : Program} {T : Tab}
def allP : List Prop → Prop
 | [] => True
 | φ :: r => φ ∧ allP r
theorem allP_append : ∀ {a b : List Prop}, allP (a ++ b) ↔ allP a ∧ allP b
 | [], b => by simp [allP]
 | φ :: a, b => by simp [allP, allP_append (a := a) (b := b), and_assoc]
structure OB where
 chk : Bool
 phi : List Prop
abbrev OB.no : OB := ⟨false, []⟩
abbrev OB.is (b : Bool) : OB := ⟨b, []⟩
def OB.holds (b : OB) : Prop := b.chk = true ∧ allP b.phi
def eqFsB (T : Tab) (c : TypeId → List AV → List AV → Bool) (xs ys : List AV) : List Field → Bool
 | [] => true
 | f :: fs => match T f.type with
  | some ti => decide (f.name ≠ "_") && (Nat.ble (f.offset + ti.size) xs.length && Nat.ble (f.offset + ti.size) ys.length) && c f.type ((xs.drop f.offset).take ti.size) ((ys.drop f.offset).take ti.size) && eqFsB T c xs ys fs
  | none => false
def eqAsB (c : List AV → List AV → Bool) (n : Nat) (xs ys : List AV) : List Nat → Bool
 | [] => true
 | i :: is => (Nat.ble (i * n + n) xs.length && Nat.ble (i * n + n) ys.length) && c ((xs.drop (i * n)).take n) ((ys.drop (i * n)).take n) && eqAsB c n xs ys is
def eqCB (T : Tab) : Nat → TypeId → List AV → List AV → Bool
 | 0, _, _, _ => false
 | n + 1, t, xs, ys => match T t with
  | some { under := .bool, .. } => match xs, ys with
   | [.pv (.raw (.bool _))], [.pv (.raw (.bool _))] => true
   | _, _ => false
  | some { under := .int _, .. } => match xs, ys with
   | [.pv (.raw (.int k _))], [.pv (.raw (.int k' _))] => decide (k = k')
   | _, _ => false
  | some { under := .string, .. } => match xs, ys with
   | [.pv (.raw (.string _))], [.pv (.raw (.string _))] => true
   | _, _ => false
  | some { under := .struct fs, cmp := true, .. } => eqFsB T (eqCB T n) xs ys fs.toList
  | some { under := .array m e, .. } => match T e with
   | some ti => eqAsB (eqCB T n e) ti.size xs ys (List.range m)
   | none => false
  | _ => false
theorem eqFsB_ok {cb : TypeId → List AV → List AV → Bool} {c : TypeId → List AV → List AV → Prop × Bool} (hc : ∀ t xs ys, cb t xs ys = true → (c t xs ys).1) {xs ys : List AV} : ∀ {fs : List Field}, eqFsB T cb xs ys fs = true → (eqFs T c xs ys fs).1
 | [], _ => trivial
 | f :: fs, h => by
  unfold eqFsB at h
  unfold eqFs
  split at h
  ·rename_i ti ht
   simp only [Bool.and_eq_true, decide_eq_true_eq] at h
   obtain ⟨⟨⟨h1, h2, h3⟩, h4⟩, h5⟩ := h
   simp only [ht]
   exact ⟨h1, ⟨Nat.le_of_ble_eq_true h2, Nat.le_of_ble_eq_true h3⟩, hc _ _ _ h4, eqFsB_ok hc h5⟩
  ·cases h
theorem eqAsB_ok {cb : List AV → List AV → Bool} {c : List AV → List AV → Prop × Bool} (hc : ∀ xs ys, cb xs ys = true → (c xs ys).1) {n : Nat} {xs ys : List AV} : ∀ {is : List Nat}, eqAsB cb n xs ys is = true → (eqAs c n xs ys is).1
 | [], _ => trivial
 | i :: is, h => by
  unfold eqAsB at h
  unfold eqAs
  simp only [Bool.and_eq_true] at h
  obtain ⟨⟨⟨h2, h3⟩, h4⟩, h5⟩ := h
  exact ⟨⟨Nat.le_of_ble_eq_true h2, Nat.le_of_ble_eq_true h3⟩, hc _ _ h4, eqAsB_ok hc h5⟩
theorem eqCB_ok : ∀ (n : Nat) (t : TypeId) (xs ys : List AV), eqCB T n t xs ys = true → (eqC T n t xs ys).1
 | 0, _, _, _, h => by cases h
 | n + 1, t, xs, ys, h => by
  unfold eqCB at h
  unfold eqC
  split at h
  ·rename_i ht; simp only [ht]; split at h <;> first | trivial | cases h
  ·rename_i ht; simp only [ht]; split at h <;> first | exact of_decide_eq_true h | cases h
  ·rename_i ht; simp only [ht]; split at h <;> first | trivial | cases h
  ·rename_i ht; simp only [ht]; exact eqFsB_ok (eqCB_ok n) h
  ·rename_i ht; simp only [ht]
   split at h
   ·rename_i he; simp only [he]; exact eqAsB_ok (fun xs ys => eqCB_ok n _ xs ys) h
   ·cases h
  ·cases h
def eqFB (T : Tab) (xs ys : List AV) (fs : List Field) : Bool := eqFsB T (eqCB T 5) xs ys fs
theorem eqFB_ok {xs ys : List AV} {fs : List Field} (h : eqFB T xs ys fs = true) : (eqF T xs ys fs).1 := eqFsB_ok (eqCB_ok 5) h
def isShift : BinOp → Bool
 | .shl | .shr => true
 | _ => false
def intBinB : BinOp → Int → List Prop
 | .quo, b | .rem, b => [b ≠ 0]
 | .shl, b | .shr, b => [0 ≤ b]
 | _, _ => []
def eqAB (T : Tab) (e : TypeId) (n : Nat) (xs ys : List AV) (is : List Nat) : Bool := eqAsB (eqCB T 5 e) n xs ys is
theorem eqAB_ok {e : TypeId} {n : Nat} {xs ys : List AV} {is : List Nat} (h : eqAB T e n xs ys is = true) : (eqA T e n xs ys is).1 := eqAsB_ok (fun xs ys => eqCB_ok 5 _ xs ys) h
def binB (T : Tab) (op : BinOp) (xT : TypeId) : AV → AV → OB
 | .pv (.raw (.int k a)), .pv (.raw (.int k' b)) => ⟨isShift op || decide (k = k'), intBinB op b⟩
 | .pv (.raw (.bool a)), .pv (.raw (.bool b)) => match T xT, op with
  | some { under := .bool, .. }, .eql => .is true
  | some { under := .bool, .. }, .neq => .is true
  | _, _ => .no
 | .pv (.raw (.string a)), .pv (.raw (.string b)) => match op with
  | .eql => .is true
  | .neq => .is true
  | .add => ⟨true, [a.size + b.size ≤ 9223372036854775807]⟩
  | _ => .no
 | .agg xs, .agg ys => match T xT, op with
  | some { under := .struct fs, cmp := true, .. }, .eql => .is (eqFB T xs ys fs.toList)
  | some { under := .struct fs, cmp := true, .. }, .neq => .is (eqFB T xs ys fs.toList)
  | some { under := .array m e, cmp := true, .. }, .eql => match T e with
   | some ti => .is (eqAB T e ti.size xs ys (List.range m))
   | none => .no
  | some { under := .array m e, cmp := true, .. }, .neq => match T e with
   | some ti => .is (eqAB T e ti.size xs ys (List.range m))
   | none => .no
  | _, _ => .no
 | .ptr _ _, .pv (.raw (.pointer none)) => match T xT, op with
  | some { under := .pointer _, .. }, .eql => .is true
  | some { under := .pointer _, .. }, .neq => .is true
  | _, _ => .no
 | .pv (.raw (.pointer none)), .pv (.raw (.pointer none)) => match T xT, op with
  | some { under := .pointer _, .. }, .eql => .is true
  | some { under := .pointer _, .. }, .neq => .is true
  | _, _ => .no
 | _, _ => .no
theorem binB_ok {op : BinOp} {xT : TypeId} {x y : AV} (h : (binB T op xT x y).holds) : (binAV T op xT x y).1 := by
 unfold binB at h
 split at h
 ·rename_i k a k' b
  obtain ⟨h1, h2⟩ := h
  refine ⟨?_, ?_⟩
  ·simp only [Bool.or_eq_true, decide_eq_true_eq] at h1
   rcases h1 with h1 | h1
   ·cases op <;> simp_all [isShift]
   ·exact .inr h1
  ·cases op <;> simp_all [intBinB, intBin, allP]
 ·unfold binAV
  split at h <;> simp_all [OB.holds]
 ·unfold binAV
  cases op <;> simp_all [OB.holds, allP]
 ·unfold binAV
  rename_i xs ys
  have e := fun fs => eqFB_ok (T := T) (xs := xs) (ys := ys) (fs := fs)
  have e2 := fun e n is => eqAB_ok (T := T) (e := e) (n := n) (xs := xs) (ys := ys) (is := is)
  split at h <;> first
   | (split at h <;> simp_all [OB.holds]; done)
   | simp_all [OB.holds]
 ·unfold binAV
  split at h <;> simp_all [OB.holds]
 ·unfold binAV
  split at h <;> simp_all [OB.holds]
 ·simp [OB.holds] at h
def unB (op : UnOp) : AV → OB
 | .pv (.raw (.bool b)) => match op with | .not => .is true | _ => .no
 | .pv (.raw (.int k n)) => match op with | .neg => .is true | .xor => .is true | _ => .no
 | _ => .no
theorem unB_ok {op : UnOp} {x : AV} (h : (unB op x).holds) : (unAV op x).1 := by
 unfold unB at h
 unfold unAV
 split at h
 ·cases op <;> simp_all [OB.holds]
 ·cases op <;> simp_all [OB.holds]
 ·simp [OB.holds] at h
def fieldAddrB (T : Tab) (s : TypeId) (f : Nat) (x : AV) : OB :=
 match T s with
 | some { under := .struct fs, .. } => match fs[f]? with
  | some fd => match T fd.type, x with
   | some ti, .ptr id off => .is (decide (ti.size ≠ 0))
   | some ti, .pix id off => .is (decide (ti.size ≠ 0))
   | some ti, .roat n cell => .is (decide (ti.size ≠ 0))
   | _, _ => .no
  | none => .no
 | _ => .no
theorem fieldAddrB_ok {s : TypeId} {f : Nat} {x : AV} (h : (fieldAddrB T s f x).holds) : (fieldAddrAV T s f x).1 := by
 unfold fieldAddrB at h
 unfold fieldAddrAV
 repeat' split at h
 all_goals simp_all [OB.holds]
def indexAddrB (T : Tab) (t : TypeId) (x ix : AV) : OB :=
 match ix with
 | .pv (.raw (.int k i)) => match T t with
  | some { under := .slice e, .. } => match T e, x with
   | some ti, .pv (.ro s n cell) => ⟨decide (ti.size = s), [0 ≤ i ∧ i < n]⟩
   | some ti, .row id s off len => ⟨decide (ti.size = s), [0 ≤ i ∧ i < len]⟩
   | _, _ => .no
  | some { under := .array m e, .. } => match T e, x with
   | some ti, .ptr id off => ⟨true, [0 ≤ i ∧ i < m]⟩
   | some ti, .pix id off => ⟨true, [0 ≤ i ∧ i < m]⟩
   | some ti, .roat n cell => ⟨true, [0 ≤ i ∧ i < m]⟩
   | _, _ => .no
  | _ => .no
 | _ => .no
theorem indexAddrB_ok {t : TypeId} {x ix : AV} (h : (indexAddrB T t x ix).holds) : (indexAddrAV T t x ix).1 := by
 unfold indexAddrB at h
 unfold indexAddrAV
 repeat' split at h
 all_goals simp_all [OB.holds, allP]
def boundB (d : Nat) : Option AV → Option (List Prop × Nat)
 | none => some ([], d)
 | some (.pv (.raw (.int _ i))) => some ([0 ≤ i], i.toNat)
 | _ => none
def sliceB2 (len : Nat) (lo hi : Option AV) : OB :=
 match boundB 0 lo, boundB len hi with
 | some (a, l), some (b, h) => ⟨true, a ++ b ++ (if lo.isSome then [l ≤ h] else []) ++ (if hi.isSome then [h ≤ len] else [])⟩
 | _, _ => .no
theorem boundB_ok {d : Nat} {x : Option AV} {a : List Prop} {l : Nat} (h : boundB d x = some (a, l)) (ha : allP a) : (boundAV d x).1 ∧ (boundAV d x).2 = l ∧ (x.isSome = false → l = d) := by
 unfold boundB at h
 split at h
 ·cases h; exact ⟨trivial, rfl, fun _ => rfl⟩
 ·cases h; exact ⟨ha.1, rfl, fun h => by cases h⟩
 ·cases h
theorem sliceB2_ok {len : Nat} {lo hi : Option AV} (h : (sliceB2 len lo hi).holds) : (boundAV 0 lo).1 ∧ (boundAV len hi).1 ∧ (boundAV 0 lo).2 ≤ (boundAV len hi).2 ∧ (boundAV len hi).2 ≤ len := by
 unfold sliceB2 at h
 split at h
 ·rename_i a l b u hl hu
  obtain ⟨_, h⟩ := h
  simp only [allP_append] at h
  obtain ⟨⟨⟨ha, hb⟩, h1⟩, h2⟩ := h
  obtain ⟨p1, p2, p3⟩ := boundB_ok hl ha
  obtain ⟨q1, q2, q3⟩ := boundB_ok hu hb
  rw [p2, q2]
  refine ⟨p1, q1, ?_, ?_⟩
  ·cases hs : lo.isSome with
   | true => rw [hs] at h1; exact h1.1
   | false => rw [p3 hs]; exact Nat.zero_le _
  ·cases hs : hi.isSome with
   | true => rw [hs] at h2; exact h2.1
   | false => rw [q3 hs]; exact Nat.le_refl _
 ·simp [OB.holds] at h
def sliceB3 (len : Nat) (lo hi : Option AV) (m : AV) : OB :=
 match boundB 0 lo, boundB len hi, boundB 0 (some m) with
 | some (a, l), some (b, h), some (c, q) => ⟨hi.isSome, a ++ b ++ c ++ [l ≤ h, h ≤ q, q ≤ len]⟩
 | _, _, _ => .no
theorem sliceB3_ok {len : Nat} {lo hi : Option AV} {m : AV} (h : (sliceB3 len lo hi m).holds) : hi.isSome = true ∧ (boundAV 0 lo).1 ∧ (boundAV len hi).1 ∧ (boundAV 0 (some m)).1 ∧ (boundAV 0 lo).2 ≤ (boundAV len hi).2 ∧ (boundAV len hi).2 ≤ (boundAV 0 (some m)).2 ∧ (boundAV 0 (some m)).2 ≤ len := by
 unfold sliceB3 at h
 split at h
 ·rename_i a l b u c q hl hu hq
  obtain ⟨hs, h⟩ := h
  simp only [allP_append] at h
  obtain ⟨⟨⟨ha, hb⟩, hc⟩, h1, h2, h3, _⟩ := h
  obtain ⟨p1, p2, _⟩ := boundB_ok hl ha
  obtain ⟨q1, q2, _⟩ := boundB_ok hu hb
  obtain ⟨r1, r2, _⟩ := boundB_ok hq hc
  rw [p2, q2, r2]
  exact ⟨hs, p1, q1, r1, h1, h2, h3⟩
 ·simp [OB.holds] at h
def sliceB (T : Tab) (t : TypeId) (x : AV) (lo hi mx : Option AV) : OB :=
 match mx with
 | some m => match T t with
  | some { under := .slice e, .. } => match T e, x with
   | some ti, .pv (.ro s n cell) => ⟨decide (ti.size = s) && (sliceB3 n lo hi m).chk, (sliceB3 n lo hi m).phi⟩
   | _, _ => .no
  | _ => .no
 | none => match T t with
  | some { under := .slice e, .. } => match T e, x with
   | some ti, .pv (.ro s n cell) => ⟨decide (ti.size = s) && (sliceB2 n lo hi).chk, (sliceB2 n lo hi).phi⟩
   | some ti, .row id s off len => ⟨decide (ti.size = s) && (sliceB2 len lo hi).chk, (sliceB2 len lo hi).phi⟩
   | _, _ => .no
  | some { under := .string, .. } => match x with
   | .pv (.raw (.string s)) => sliceB2 s.size lo hi
   | _ => .no
  | _ => .no
theorem sliceB_ok {t : TypeId} {x : AV} {lo hi mx : Option AV} (h : (sliceB T t x lo hi mx).holds) : (sliceAV T t x lo hi mx).1 := by
 unfold sliceB at h
 unfold sliceAV
 split at h
 ·split at h
  ·rename_i ht
   split at h
   ·rename_i ti s n cell he
    have h1 := h.1
    simp only [Bool.and_eq_true, decide_eq_true_eq] at h1
    simp only [ht, he]
    exact ⟨h1.1, sliceB3_ok ⟨h1.2, h.2⟩⟩
   ·simp [OB.holds] at h
  ·simp [OB.holds] at h
 ·split at h
  ·rename_i ht
   split at h
   ·rename_i ti s n cell he
    have h1 := h.1
    simp only [Bool.and_eq_true, decide_eq_true_eq] at h1
    simp only [ht, he]
    exact ⟨h1.1, sliceB2_ok ⟨h1.2, h.2⟩⟩
   ·rename_i ti id s off len he
    have h1 := h.1
    simp only [Bool.and_eq_true, decide_eq_true_eq] at h1
    simp only [ht, he]
    exact ⟨h1.1, sliceB2_ok ⟨h1.2, h.2⟩⟩
   ·simp [OB.holds] at h
  ·rename_i ht
   split at h
   ·simp only [ht]
    exact sliceB2_ok h
   ·simp [OB.holds] at h
  ·simp [OB.holds] at h
def fillB (place : Nat → Option (Nat × Nat)) : List AV → List (Nat × AV) → Bool
 | cells, [] => true
 | cells, (i, v) :: rest => match place i with
  | none => false
  | some (off, size) => (v.one || v.isAgg) && decide (v.cells.length = size) && decide (off + size ≤ cells.length) && fillB place (setCells cells off v.cells) rest
theorem fillB_ok {place : Nat → Option (Nat × Nat)} : ∀ {ps : List (Nat × AV)} {cells : List AV}, fillB place cells ps = true → (fillAV place cells ps).1
 | [], _, _ => trivial
 | (i, v) :: rest, cells, h => by
  unfold fillB at h
  unfold fillAV
  split at h
  ·cases h
  ·rename_i hp
   simp only [Bool.and_eq_true, decide_eq_true_eq] at h
   simp only [hp]
   exact ⟨h.1.1.1, h.1.1.2, h.1.2, fillB_ok h.2⟩
def buildB (T : Tab) (t : TypeId) (parts : List (Nat × AV)) : OB :=
 match T t with
 | some { under := .struct fs, zero := z, .. } => .is (fs.toList.all (fun f => (T f.type).isSome) && fillB (placesAV T fs) (zeroAV z).cells parts)
 | some { under := .array _ e, zero := z, .. } => match T e with
  | some ti => .is (fillB (fun i => some (i * ti.size, ti.size)) (zeroAV z).cells parts)
  | none => .no
 | _ => .no
theorem buildB_ok {t : TypeId} {parts : List (Nat × AV)} (h : (buildB T t parts).holds) : (buildAV T t parts).1 := by
 unfold buildB at h
 unfold buildAV
 split at h
 ·rename_i ht
  have h1 := h.1
  simp only [Bool.and_eq_true, List.all_eq_true] at h1
  simp only [ht]
  refine ⟨fun f hf hn => ?_, fillB_ok h1.2⟩
  have := h1.1 f hf
  rw [hn] at this
  cases this
 ·rename_i ht
  split at h
  ·rename_i he
   simp only [ht, he]
   exact fillB_ok h.1
  ·simp [OB.holds] at h
 ·simp [OB.holds] at h
def partB (T : Tab) (t : TypeId) (cells : List AV) (off : Nat) : Bool :=
 match T t with
 | some { under := .struct _, .. } => true
 | some { under := .array _ _, .. } => true
 | some _ => (cells[off]?).isSome
 | none => false
theorem partB_ok {t : TypeId} {cells : List AV} {off : Nat} (h : partB T t cells off = true) : (partAV T t cells off).1 := by
 unfold partB at h
 unfold partAV
 cases hc : cells[off]? with
 | none => rw [hc] at h; split at h <;> simp_all
 | some c => split at h <;> simp_all
def fieldB (T : Tab) (t : TypeId) (f : Nat) : AV → OB
 | .agg xs => match T t with
  | some { under := .struct fs, .. } => match fs[f]? with | some fd => .is (partB T fd.type xs fd.offset) | none => .no
  | _ => .no
 | _ => .no
theorem fieldB_ok {t : TypeId} {f : Nat} {x : AV} (h : (fieldB T t f x).holds) : (fieldAV T t f x).1 := by
 unfold fieldB at h
 unfold fieldAV
 split at h
 ·split at h
  ·rename_i ht
   split at h
   ·rename_i hf
    simp only [ht, hf]
    exact partB_ok h.1
   ·simp [OB.holds] at h
  ·simp [OB.holds] at h
 ·simp [OB.holds] at h
def extractB (i : Nat) : AV → OB
 | .tup xs => .is (xs[i]?).isSome
 | _ => .no
theorem extractB_ok {i : Nat} {x : AV} (h : (extractB i x).holds) : (extractAV i x).1 := by
 unfold extractB at h
 unfold extractAV
 split at h
 ·rename_i xs
  cases hc : xs[i]? with
  | none => have := h.1; simp [hc] at this
  | some c => simp [hc]
 ·simp [OB.holds] at h
def lenB (T : Tab) (t : TypeId) (x : AV) : OB :=
 match T t with
 | some { under := .slice _, .. } => match x with
  | .pv (.ro _ n _) => .is true
  | .row _ _ _ n => .is true
  | .pv (.raw (.slice _ n _)) => .is true
  | _ => .no
 | some { under := .array n _, .. } => .is true
 | some { under := .string, .. } => match x with
  | .pv (.raw (.string s)) => .is true
  | _ => .no
 | _ => .no
theorem lenB_ok {t : TypeId} {x : AV} (h : (lenB T t x).holds) : (lenAV T t x).1 := by
 unfold lenB at h
 unfold lenAV
 split at h
 ·rename_i ht
  simp only [ht]
  split at h <;> simp_all [OB.holds]
 ·simp_all
 ·rename_i ht
  simp only [ht]
  split at h <;> simp_all [OB.holds]
 ·simp [OB.holds] at h
def minmaxB : AV → AV → OB
 | .pv (.raw (.int k a)), .pv (.raw (.int k' b)) => .is true
 | _, _ => .no
theorem minmaxB_ok {mx : Bool} {x y : AV} (h : (minmaxB x y).holds) : (minmaxAV mx x y).1 := by
 unfold minmaxB at h
 unfold minmaxAV
 split at h
 ·trivial
 ·simp [OB.holds] at h
def mm3B : AV → AV → AV → OB
 | .pv (.raw (.int k a)), .pv (.raw (.int k' b)), .pv (.raw (.int k'' c)) => .is true
 | _, _, _ => .no
theorem mm3B_ok {mx : Bool} {x y z : AV} (h : (mm3B x y z).holds) : (mm3AV mx x y z).1 := by
 unfold mm3B at h
 unfold mm3AV
 split at h
 ·exact ⟨trivial, trivial⟩
 ·simp [OB.holds] at h
def convB (T : Tab) (src dst : TypeId) : AV → OB
 | .pv (.raw (.int k n)) => match T src, T dst with
  | some { under := .int _, .. }, some { under := .int k', .. } => .is true
  | _, _ => .no
 | _ => .no
theorem convB_ok {s d : TypeId} {x : AV} (h : (convB T s d x).holds) : (convAV T s d x).1 := by
 unfold convB at h
 unfold convAV
 split at h
 ·split at h
  ·simp_all
  ·simp [OB.holds] at h
 ·simp [OB.holds] at h
def pickB : AV → AV → OB
 | .pv (.raw (.bool a)), .pv (.raw (.bool b)) => .is true
 | .gd p (.pv (.raw (.bool a))), .pv (.raw (.bool b)) => ⟨true, []⟩
 | .pv (.raw (.bool a)), .gd q (.pv (.raw (.bool b))) => ⟨true, []⟩
 | .gd p (.pv (.raw (.bool a))), .gd q (.pv (.raw (.bool b))) => ⟨true, []⟩
 | _, _ => .no
def pickPhi (t : Bool) (a b : AV) : List Prop :=
 (match a with | .gd p _ => [t = true → p = true] | _ => []) ++ (match b with | .gd q _ => [t = false → q = true] | _ => [])
theorem pickB_ok {t : Bool} {a b : AV} (h : (pickB a b).holds) (hp : allP (pickPhi t a b)) : (pickAV (.pv (.raw (.bool t))) a b).1 := by
 unfold pickB at h
 split at h
 ·trivial
 ·exact hp.1
 ·exact hp.1
 ·exact ⟨hp.1, hp.2.1⟩
 ·simp [OB.holds] at h
end Go.Ab

