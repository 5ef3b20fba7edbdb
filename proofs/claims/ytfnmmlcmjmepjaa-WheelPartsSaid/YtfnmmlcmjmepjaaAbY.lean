import Derived.Test.YtfnmmlcmjmepjaaAbX
set_option linter.unusedVariables false
set_option linter.unusedSimpArgs false
namespace Go.Ab
open Go.RowKit
variable {P : Program} {T : Tab} {α β : Type}
theorem br_ {c : Bool} {x y : Option α} {r : α} {p : Nat → Prop} {t e : Sk} (h : cond c x y = some r) (h1 : c = true → x = some r → t.Holds p) (h2 : c = false → y = some r → e.Holds p) : (Sk.br c t e).Holds p :=
 ⟨fun hc => h1 hc (by rw [hc] at h; exact h), fun hc => h2 hc (by rw [hc] at h; exact h)⟩
theorem gd_ {φ : Prop} [Decidable φ] {x : Option α} {r : α} {p : Nat → Prop} {t : Sk} (h : (if φ then x else none) = some r) (h1 : φ → x = some r → t.Holds p) : (Sk.and φ t).Holds p := by
 by_cases hp : φ
 ·rw [if_pos hp] at h; exact ⟨hp, h1 hp h⟩
 ·rw [if_neg hp] at h; cases h
theorem if_ {φ : Prop} [Decidable φ] {x : Option α} {r : α} (h : (if φ then x else none) = some r) : φ ∧ x = some r := by
 by_cases hp : φ
 ·rw [if_pos hp] at h; exact ⟨hp, h⟩
 ·rw [if_neg hp] at h; cases h
theorem bd_ {x : Option β} {f : β → Option α} {r : α} (h : x.bind f = some r) : ∃ b, x = some b ∧ f b = some r := by
 cases x with
 | none => cases h
 | some b => exact ⟨b, rfl, h⟩
theorem some_ {a r : α} (h : some a = some r) : a = r := Option.some.inj h
theorem wrap_nat {k n : Nat} (h : k < n) (hn : n ≤ 140737488355328) : IntKind.i64.wrap ((k : Int) + 1) = ((k + 1 : Nat) : Int) := by
 rw [wrap_id (by omega) (by omega)]; simp
theorem wrap_nat_lit {k : Nat} (h : k < 4294967296) : IntKind.i64.wrap ((k : Int) + 1) = ((k + 1 : Nat) : Int) := wrap_nat (n := 4294967296) h (by omega)
theorem len_ro {Q : Exit → AS → Prop} {l : Lf} (hl : l.isLoop = true) (t : Nat) {s n : Nat} {c : Nat → Nat → PV} (h : l.σ.slots t = .pv (.ro s n c)) (hk : n ≤ 140737488355328 → V P T Q l) : V P T Q l := by
 obtain ⟨σ, k, e⟩ := l
 unfold Lf.isLoop at hl
 simp only at hl h
 split at hl
 ·intro A _ W a w hst
  obtain ⟨ι, R, h0⟩ := hst
  have hr := h0.slots t
  rw [h] at hr
  simp only [RelA, RelP] at hr
  obtain ⟨_, _, _, _, hn, _⟩ := hr
  exact hk hn A W a w ⟨ι, R, h0⟩
 ·cases hl
theorem len_row {Q : Exit → AS → Prop} {l : Lf} (hl : l.isLoop = true) (id : Nat) {e : TypeId} {s n : Nat} {cs : List AV} (h : l.σ.heap id = some (.row e s cs)) (hc : cs.length = n * s) (hk : n ≤ 140737488355328 → V P T Q l) : V P T Q l := by
 obtain ⟨σ, k, e⟩ := l
 unfold Lf.isLoop at hl
 simp only at hl h
 split at hl
 ·intro A _ W a w hst
  obtain ⟨ι, R, h0⟩ := hst
  obtain ⟨m, hm, hs, hle, _⟩ := h0.heap id _ h
  have : m = n := Nat.eq_of_mul_eq_mul_right hs (by omega)
  subst this
  exact hk hle A W a w ⟨ι, R, h0⟩
 ·cases hl
def hardV (l : Lf) : Option (Nat × Oper) :=
 match l.k, l.e with
 | .ops all (o :: os) :: r, .normal => match o.dst, o.guard.isNone && dstB l.σ.n o.dst && !isPick o.op && (callOf o.op).isNone && !(o.op.operands.toList.any fun x => isGd (l.σ.ev x)) with
  | some d, true => some (d, o)
  | _, _ => none
 | _, _ => none
theorem isPick_ok {op : Op} (h : isPick op = false) : ∀ c a b, op ≠ .pick c a b := by
 intro c a b e
 subst e
 cases h
theorem hard_ok {Q : Exit → AS → Prop} {l : Lf} {d : Nat} {o : Oper} (hv : hardV l = some (d, o)) {e : Eff} (he : effOf T l.σ.bev l.σ.heap (some d) o.op = e) (hok : e.ok) (hf : isStore o.op = true ∨ freshS l.σ e.set)
  (hk : VS P T Q l.rest .normal (l.σ.eff (some d) e.v e.set e.del)) : V P T Q l := by
 obtain ⟨σ, k, ex⟩ := l
 subst he
 unfold hardV at hv
 simp only at hv
 split at hv
 ·rename_i all o' os r
  split at hv
  ·rename_i d' hd' hg
   cases hv
   simp only [Bool.and_eq_true, Bool.not_eq_true', Option.isNone_iff_eq_none] at hg
   obtain ⟨⟨⟨⟨hg, hd⟩, hp⟩, hc⟩, hw⟩ := hg
   refine .inl ?_
   show sxOp P T all o σ _
   unfold sxOp
   rw [hg]
   refine ⟨trivial, by rw [hd'] at hd ⊢; exact Nat.le_of_ble_eq_true hd, ?_⟩
   split
   ·rename_i c a b hop; exact absurd hop (isPick_ok hp c a b)
   ·rw [hc, hd']
    refine ⟨fun _ => whens_none hw, .inl ⟨fun _ => ⟨hok, fun hs => ?_⟩, hk⟩⟩
    rcases hf with hf | hf
    ·rw [hf] at hs; cases hs
    ·exact hf
  ·cases hv
 ·cases hv
def storeV (l : Lf) : Option Oper :=
 match l.k, l.e with
 | .ops all (o :: os) :: r, .normal => match o.dst, o.guard.isNone && isStore o.op && !(o.op.operands.toList.any fun x => isGd (l.σ.ev x)) with
  | none, true => some o
  | _, _ => none
 | _, _ => none
theorem isStore_ok {op : Op} (h : isStore op = true) : (∀ c a b, op ≠ .pick c a b) ∧ callOf op = none := by
 unfold isStore at h
 split at h
 all_goals first
  | (cases h; done)
  | exact ⟨fun _ _ _ e => (by cases e), rfl⟩
theorem store_ok {Q : Exit → AS → Prop} {l : Lf} {o : Oper} (hv : storeV l = some o) {e : Eff} (he : effOf T l.σ.bev l.σ.heap none o.op = e) (hok : e.ok)
  (hk : VS P T Q l.rest .normal (l.σ.eff none e.v e.set e.del)) : V P T Q l := by
 obtain ⟨σ, k, ex⟩ := l
 subst he
 unfold storeV at hv
 simp only at hv
 split at hv
 ·rename_i all o' os r
  split at hv
  ·rename_i hd' hg
   cases hv
   simp only [Bool.and_eq_true, Bool.not_eq_true', Option.isNone_iff_eq_none] at hg
   obtain ⟨⟨hg, hs⟩, hw⟩ := hg
   obtain ⟨hp, hc⟩ := isStore_ok hs
   refine .inl ?_
   show sxOp P T all o σ _
   unfold sxOp
   rw [hg]
   refine ⟨trivial, by rw [hd']; trivial, ?_⟩
   split
   ·rename_i c a b hop; exact absurd hop (hp c a b)
   ·rw [hc, hd']
    refine ⟨fun _ => whens_none hw, .inl ⟨fun _ => ⟨hok, fun hs' => ?_⟩, hk⟩⟩
    rw [hs] at hs'; cases hs'
  ·cases hv
 ·cases hv
def hardG (l : Lf) : Option (Nat × Oper × Bool × List Prop) :=
 match l.k, l.e with
 | .ops all (o :: os) :: r, .normal => match o.dst, o.guard, dstB l.σ.n o.dst && !isPick o.op && (callOf o.op).isNone with
  | some d, some (j, want), true => match gOf l.σ all j want with
   | some g => some (d, o, g, whenL l.σ o.op.operands.toList)
   | none => none
  | _, _, _ => none
 | _, _ => none
theorem hardF_ok {Q : Exit → AS → Prop} {l : Lf} {d : Nat} {o : Oper} {g : Bool} {ws : List Prop} (hv : hardG l = some (d, o, g, ws)) (hns : isStore o.op = false) (hw : g = true → allP ws) {e : Eff} (he : effOf T l.σ.bev l.σ.heap (some d) o.op = e) (v : AV)
  (hok : g = true → e.ok ∧ Wk (fun _ => none) (fun _ => False) (fun _ => True) (setH (fun _ => none) e.set) e.v v) (hf : freshS l.σ e.set) (hd : e.del = [])
  (hk : VS P T Q l.rest .normal (l.σ.frz (some d) (.gd g v) e.set [])) : V P T Q l := by
 obtain ⟨σ, k, ex⟩ := l
 subst he
 unfold hardG at hv
 simp only at hv
 split at hv
 ·rename_i all o' os r
  split at hv
  ·rename_i d' j want hd' hg hb
   split at hv
   ·rename_i g' hgo
    cases hv
    simp only [Bool.and_eq_true, Bool.not_eq_true', Option.isNone_iff_eq_none] at hb
    obtain ⟨⟨hdn, hp⟩, hc⟩ := hb
    refine .inl ?_
    show sxOp P T all o σ _
    unfold sxOp
    rw [hg, gOf_guard hgo]
    refine ⟨trivial, by rw [hd'] at hdn ⊢; exact Nat.le_of_ble_eq_true hdn, ?_⟩
    split
    ·rename_i c a b hop; exact absurd hop (isPick_ok hp c a b)
    ·rw [hc, hd']
     exact ⟨fun hgt => whenL_ok (hw hgt), .inr ⟨hns, v, hok, hf, by simp only [Option.isSome_some]; exact ⟨hd, hk⟩⟩⟩
   ·cases hv
  ·cases hv
 ·cases hv
def bsV (T : Tab) (l : Lf) : Option (Nat × Nat × Nat × Nat × List AV) :=
 match hardV l with
 | some (d, o) => match o.op with
  | .buildSlice t len parts => match T t with
   | some { under := .slice e, .. } => match T e with
    | some ti =>
     let cs := (repCells (ti.zero.cells.toList) 0 (len * ti.size)).map AV.raw
     let ps := parts.toList.map fun p => (p.1, l.σ.bev p.2)
     let r := fillAV (fun i => some (i * ti.size, ti.size)) cs ps
     bif Nat.blt 0 ti.size && Nat.ble (len * ti.size) 16777216 && Nat.beq ti.zero.cells.size ti.size && fillB (fun i => some (i * ti.size, ti.size)) cs ps && r.2.all AV.one then some (d, e, ti.size, len, r.2) else none
    | none => none
   | _ => none
  | _ => none
 | none => none
theorem bs_ok {Q : Exit → AS → Prop} {l : Lf} {d e s n : Nat} {cs cs' : List AV} (hv : bsV T l = some (d, e, s, n, cs)) (hc : cs = cs') (hf : l.σ.seen (fid (some d) 0) = false)
  (hk : VS P T Q l.rest .normal (l.σ.eff (some d) (.row (fid (some d) 0) s 0 n) [(fid (some d) 0, .row e s cs')] [])) : V P T Q l := by
 subst hc
 unfold bsV at hv
 split at hv
 ·rename_i d' o hh
  split at hv
  ·rename_i t len parts hop
   split at hv
   ·rename_i e' _ _ _ _ ht
    split at hv
    ·rename_i ti hti
     simp only at hv
     revert hv
     cases hb : Nat.blt 0 ti.size && Nat.ble (len * ti.size) 16777216 && Nat.beq ti.zero.cells.size ti.size && fillB (fun i => some (i * ti.size, ti.size)) ((repCells (ti.zero.cells.toList) 0 (len * ti.size)).map AV.raw) (parts.toList.map fun p => (p.1, l.σ.bev p.2)) && (fillAV (fun i => some (i * ti.size, ti.size)) ((repCells (ti.zero.cells.toList) 0 (len * ti.size)).map AV.raw) (parts.toList.map fun p => (p.1, l.σ.bev p.2))).2.all AV.one with
     | false => intro hv; cases hv
     | true =>
      intro hv
      cases hv
      simp only [Bool.and_eq_true] at hb
      obtain ⟨⟨⟨⟨h1, h2⟩, h3⟩, h4⟩, h5⟩ := hb
      refine hard_ok (T := T) hh (e := _) rfl ?_ (.inr ?_) ?_
      ·unfold effOf
       simp only [hop, ht, hti]
       exact ⟨Nat.le_of_ble_eq_true h1, Nat.le_of_ble_eq_true h2, beq_t h3, fillB_ok h4, h5⟩
      ·unfold effOf
       simp only [hop, ht, hti]
       exact ⟨hf, trivial⟩
      ·unfold effOf
       simp only [hop, ht, hti]
       exact hk
    ·cases hv
   ·cases hv
  ·cases hv
 ·cases hv
def bsG (T : Tab) (l : Lf) : Option (Nat × Bool × List Prop × Nat × Nat × Nat × List AV) :=
 match hardG l with
 | some (d, o, g, ws) => match o.op with
  | .buildSlice t len parts => match T t with
   | some { under := .slice e, .. } => match T e with
    | some ti =>
     let cs := (repCells (ti.zero.cells.toList) 0 (len * ti.size)).map AV.raw
     let ps := parts.toList.map fun p => (p.1, l.σ.bev p.2)
     let r := fillAV (fun i => some (i * ti.size, ti.size)) cs ps
     bif Nat.blt 0 ti.size && Nat.ble (len * ti.size) 16777216 && Nat.beq ti.zero.cells.size ti.size && fillB (fun i => some (i * ti.size, ti.size)) cs ps && r.2.all AV.one then some (d, g, ws, e, ti.size, len, r.2) else none
    | none => none
   | _ => none
  | _ => none
 | none => none
theorem bsG_ok {Q : Exit → AS → Prop} {l : Lf} {d e s n : Nat} {g : Bool} {ws : List Prop} {cs : List AV} (E : Elem α) (xs : List α) (hv : bsG T l = some (d, g, ws, e, s, n, cs)) (hw : g = true → allP ws) (hE : E.s = s) (hn : n = xs.length) (hc : cs = E.cR xs) (hf : l.σ.seen (fid (some d) 0) = false)
  (hk : VS P T Q l.rest .normal (l.σ.frz (some d) (.gd g (.pv (E.ro xs))) [(fid (some d) 0, .row e s (E.cR xs))] [])) : V P T Q l := by
 subst hc hE
 unfold bsG at hv
 split at hv
 ·rename_i d' o g' ws' hh
  split at hv
  ·rename_i t len parts hop
   split at hv
   ·rename_i e' _ _ _ _ ht
    split at hv
    ·rename_i ti hti
     simp only at hv
     revert hv
     cases hb : Nat.blt 0 ti.size && Nat.ble (len * ti.size) 16777216 && Nat.beq ti.zero.cells.size ti.size && fillB (fun i => some (i * ti.size, ti.size)) ((repCells (ti.zero.cells.toList) 0 (len * ti.size)).map AV.raw) (parts.toList.map fun p => (p.1, l.σ.bev p.2)) && (fillAV (fun i => some (i * ti.size, ti.size)) ((repCells (ti.zero.cells.toList) 0 (len * ti.size)).map AV.raw) (parts.toList.map fun p => (p.1, l.σ.bev p.2))).2.all AV.one with
     | false => intro hv; cases hv
     | true =>
      intro hv
      simp only [cond_true, Option.some.injEq, Prod.mk.injEq] at hv
      obtain ⟨rfl, rfl, rfl, rfl, hs, hl, hcs⟩ := hv
      simp only [Bool.and_eq_true] at hb
      obtain ⟨⟨⟨⟨h1, h2⟩, h3⟩, h4⟩, h5⟩ := hb
      refine hardF_ok (T := T) hh (by rw [hop]; rfl) hw (e := _) rfl (.pv (E.ro xs)) (fun _ => ⟨?_, ?_⟩) ?_ ?_ ?_
      all_goals (unfold effOf; simp only [hop, ht, hti])
      ·exact ⟨Nat.le_of_ble_eq_true h1, Nat.le_of_ble_eq_true h2, beq_t h3, fillB_ok h4, h5⟩
      ·rw [hcs, hs, hl, hn]
       refine Wk.row _ e' E.s 0 xs.length (E.cR xs) _ (fun i j => .pv (E.cf (xs.getD i E.z) j)) trivial (by simp [setH, upd]) (fun i hi j hj => ?_) (fun i hi j hj => .pv _)
       rw [Nat.zero_add]
       exact E.cR_get xs hi hj
      ·exact ⟨hf, trivial⟩
      ·rw [hcs, hs]; exact hk
    ·cases hv
   ·cases hv
  ·cases hv
 ·cases hv
theorem rep_add (z : List Value) : ∀ m p k, repCells z k (m + p) = repCells z k m ++ repCells z (k + m) p
 | 0, p, k => by simp [repCells]
 | m + 1, p, k => by
  rw [show m + 1 + p = (m + p) + 1 by omega]
  simp only [repCells, List.cons_append]
  rw [rep_add z m p (k + 1), show k + 1 + m = k + (m + 1) by omega]
theorem rep_shift (z : List Value) : ∀ m k, repCells z (k + z.length) m = repCells z k m
 | 0, k => rfl
 | m + 1, k => by
  simp only [repCells, Nat.add_mod_right]
  rw [show k + z.length + 1 = (k + 1) + z.length by omega, rep_shift z m (k + 1)]
theorem rep_once (z : List Value) : ∀ j, j ≤ z.length → repCells z (z.length - j) j = z.drop (z.length - j)
 | 0, _ => by simp [repCells]
 | j + 1, h => by
  have hlt : z.length - (j + 1) < z.length := by omega
  simp only [repCells]
  rw [show z.length - (j + 1) + 1 = z.length - j by omega, rep_once z j (by omega), List.drop_eq_getElem_cons hlt, Nat.mod_eq_of_lt hlt, show z.length - (j + 1) + 1 = z.length - j by omega]
  simp [hlt]
theorem rep_cR (E : Elem α) (z : List Value) (x : α) (hz : z.map AV.raw = E.cs x) : ∀ n, (repCells z 0 (n * E.s)).map AV.raw = E.cR (List.replicate n x)
 | 0 => by simp [repCells, Elem.cR]
 | n + 1 => by
  have hl : z.length = E.s := by have := congrArg List.length hz; rw [List.length_map, E.cs_length] at this; exact this
  have h1 : repCells z 0 E.s = z := by
   have := rep_once z z.length (Nat.le_refl _)
   rw [Nat.sub_self, List.drop_zero] at this
   rw [← hl]; exact this
  have h2 : repCells z (0 + E.s) (n * E.s) = repCells z 0 (n * E.s) := by rw [← hl]; exact rep_shift z _ 0
  rw [Nat.add_mul, Nat.one_mul, Nat.add_comm, rep_add, h1, h2, List.map_append, hz, rep_cR E z x hz n, List.replicate_succ, E.cR_cons]
inductive NewIs (H : Heap) (E : Elem α) : AV → List α → Prop
 | nil : NewIs H E (.pv (.raw (.slice none 0 0))) []
 | ro (xs : List α) : NewIs H E (.pv (E.ro xs)) xs
 | sub (xs : List α) (l len : Nat) (h : l + len ≤ xs.length) : NewIs H E (.pv (.ro E.s len (fun i j => E.cf (xs.getD (l + i) E.z) j))) ((xs.drop l).take len)
 | row (id e off len : Nat) (xs : List α) (h : H id = some (.row e E.s (E.cR xs))) (hl : off + len ≤ xs.length) : NewIs H E (.row id E.s off len) ((xs.drop off).take len)
 | all (id e : Nat) (xs : List α) (n : Nat) (hn : n = xs.length) (h : H id = some (.row e E.s (E.cR xs))) : NewIs H E (.row id E.s 0 n) xs
inductive SrcIs (H : Heap) (E : Elem α) (e : Nat) : AV → List α → List Nat → Prop
 | nil : SrcIs H E e (.pv (.raw (.slice none 0 0))) [] []
 | row (id : Nat) (xs : List α) (n : Nat) (hn : n = xs.length) (h : H id = some (.row e E.s (E.cR xs))) : SrcIs H E e (.row id E.s 0 n) xs [id]
 | part (id : Nat) (xs : List α) (n : Nat) (hn : n ≤ xs.length) (h : H id = some (.row e E.s (E.cR xs))) : SrcIs H E e (.row id E.s 0 n) (xs.take n) [id]
 | mid (id off : Nat) (xs : List α) (n : Nat) (hn : off + n ≤ xs.length) (h : H id = some (.row e E.s (E.cR xs))) : SrcIs H E e (.row id E.s off n) ((xs.drop off).take n) [id]
theorem NewIs.news {H : Heap} {E : Elem α} {x : AV} {ys : List α} (h : NewIs H E x ys) : (newsAV H E.s x).1 ∧ (newsAV H E.s x).2.1 = ys.length ∧ (newsAV H E.s x).2.2 = E.cR ys := by
 cases h with
 | nil => exact ⟨trivial, rfl, rfl⟩
 | ro => exact ⟨rfl, rfl, E.roL_cR ys⟩
 | sub xs l len hl =>
  have hn : ((xs.drop l).take len).length = len := by simp; omega
  refine ⟨rfl, hn.symm, ?_⟩
  show roL E.s len (fun i j => E.cf (xs.getD (l + i) E.z) j) = _
  rw [← E.roL_cR, hn]
  unfold roL
  simp only [List.flatMap]
  congr 1
  refine List.map_congr_left fun i hi => ?_
  have hi' : i < len := by simpa using hi
  have : ((xs.drop l).take len).getD i E.z = xs.getD (l + i) E.z := by simp [List.getElem?_take, hi', List.getElem?_drop]
  rw [this]
 | row id e off len xs hH hl =>
  unfold newsAV
  simp only [hH]
  refine ⟨⟨trivial, by rw [E.cR_length]; exact Nat.mul_le_mul_right _ hl⟩, by simp; omega, by rw [E.cR_drop, E.cR_take]⟩
 | all id e xs n hn hH =>
  subst hn
  unfold newsAV
  simp only [hH]
  refine ⟨⟨trivial, by rw [E.cR_length]; simp⟩, by rw [Nat.zero_mul, List.drop_zero, E.cR_take, List.take_length]; trivial⟩
def appV (T : Tab) (l : Lf) : Option (Nat × AV × AV × Nat × Nat × Nat) :=
 match hardV l with
 | some (d, o) => match o.op with
  | .call { callee := .builtin .append, args := args, argTypes := ts } => match args.toList, ts.toList with
   | [s, x], [t, t'] => match T t, T t' with
    | some { under := .slice e, .. }, some { under := .slice e', .. } => match T e with
     | some ti => bif Nat.beq t t' && Nat.blt 0 ti.size && Nat.beq ti.zero.cells.size ti.size then some (d, l.σ.bev s, l.σ.bev x, e, ti.size, ti.bytes) else none
     | none => none
    | _, _ => none
   | _, _ => none
  | _ => none
 | none => none
theorem app_ok {Q : Exit → AS → Prop} {l : Lf} {d e s b : Nat} {x y : AV} (E : Elem α) {xs ys : List α} {del : List Nat} (hv : appV T l = some (d, x, y, e, s, b)) (hE : E.s = s) (hx : SrcIs l.σ.heap E e x xs del) (hy : NewIs l.σ.heap E y ys)
  (hb : (xs.length + ys.length + (xs.length + ys.length) / 4 + 192) * b ≤ 281474976710656 ∧ xs.length + ys.length ≤ 140737488355328) (hf : l.σ.seen (fid (some d) 0) = false)
  (hk : VS P T Q l.rest .normal (l.σ.eff (some d) (.row (fid (some d) 0) s 0 (xs ++ ys).length) [(fid (some d) 0, .row e s (E.cR (xs ++ ys)))] del)) : V P T Q l := by
 unfold appV at hv
 split at hv
 ·rename_i d' o hh
  split at hv
  ·rename_i args ts hop
   split at hv
   ·rename_i sx xx t t' hargs hts
    split at hv
    ·rename_i e1 _ _ _ _ e2 _ _ _ _ ht ht'
     split at hv
     ·rename_i ti hti
      revert hv
      cases hbb : Nat.beq t t' && Nat.blt 0 ti.size && Nat.beq ti.zero.cells.size ti.size with
      | false => intro hv; cases hv
      | true =>
       intro hv
       simp only [cond_true, Option.some.injEq, Prod.mk.injEq] at hv
       obtain ⟨rfl, rfl, rfl, rfl, rfl, rfl⟩ := hv
       simp only [Bool.and_eq_true] at hbb
       obtain ⟨⟨h1, h2⟩, h3⟩ := hbb
       have h1 := beq_t h1
       have h2 : 0 < ti.size := Nat.le_of_ble_eq_true h2
       have h3 := beq_t h3
       obtain ⟨n1, n2, n3⟩ := hy.news
       rw [hE] at n1 n2 n3
       generalize hbx : l.σ.bev sx = x at hx
       cases hx with
       | nil =>
        refine hard_ok (T := T) hh (e := _) rfl ?_ (.inr ?_) ?_
        all_goals (unfold effOf; simp only [hop, hargs, hts, ht, ht', hti, hbx])
        ·exact ⟨h1, n1, h2, h3, by rw [n2]; simpa using hb.1, by rw [n2]; simpa using hb.2⟩
        ·exact ⟨hf, trivial⟩
        ·rw [n2, n3]; exact hk
       | row id xs n hn hH =>
        subst hn
        refine hard_ok (T := T) hh (e := _) rfl ?_ (.inr ?_) ?_
        all_goals (unfold effOf; simp only [hop, hargs, hts, ht, ht', hti, hbx, hH])
        ·exact ⟨h1, n1, h2, h3, hE, hE, trivial, by rw [E.cR_length, hE, Nat.zero_add]; exact Nat.le_refl _, by rw [n2]; exact hb.1, by rw [n2]; exact hb.2⟩
        ·exact ⟨hf, trivial⟩
        ·rw [n2, n3, ← hE, Nat.zero_mul, List.drop_zero, E.cR_take, List.take_length, ← E.cR_append, ← List.length_append, hE]
         rw [hE] at *
         exact hk
       | part id xs n hn hH =>
        have hlen : (xs.take n).length = n := by rw [List.length_take]; omega
        rw [hlen] at hb
        refine hard_ok (T := T) hh (e := _) rfl ?_ (.inr ?_) ?_
        all_goals (unfold effOf; simp only [hop, hargs, hts, ht, ht', hti, hbx, hH])
        ·exact ⟨h1, n1, h2, h3, hE, hE, trivial, by rw [E.cR_length, hE, Nat.zero_add]; exact Nat.mul_le_mul_right _ hn, by rw [n2]; exact hb.1, by rw [n2]; exact hb.2⟩
        ·exact ⟨hf, trivial⟩
        ·rw [List.length_append, hlen] at hk
         rw [n2, n3, ← hE, Nat.zero_mul, List.drop_zero, E.cR_take, ← E.cR_append, hE]
         rw [hE] at *
         exact hk
       | mid id off xs n hn hH =>
        have hlen : ((xs.drop off).take n).length = n := by rw [List.length_take, List.length_drop]; omega
        rw [hlen] at hb
        refine hard_ok (T := T) hh (e := _) rfl ?_ (.inr ?_) ?_
        all_goals (unfold effOf; simp only [hop, hargs, hts, ht, ht', hti, hbx, hH])
        ·exact ⟨h1, n1, h2, h3, hE, hE, trivial, by rw [E.cR_length, hE]; exact Nat.mul_le_mul_right _ hn, by rw [n2]; exact hb.1, by rw [n2]; exact hb.2⟩
        ·exact ⟨hf, trivial⟩
        ·rw [List.length_append, hlen] at hk
         rw [n2, n3, ← hE, E.cR_drop, E.cR_take, ← E.cR_append, hE]
         rw [hE] at *
         exact hk
     ·cases hv
    ·cases hv
   ·cases hv
  ·cases hv
 ·cases hv
def ldV (T : Tab) (l : Lf) : Option (Nat × Nat × Nat × Bool × Nat) :=
 match hardV l with
 | some (d, o) => match o.op with
  | .load t x => match T t, (l.σ.bev x).unpix with
   | some ti, .ptr id off => some (d, id, off, isAggT ti.under, ti.size)
   | _, _ => none
  | _ => none
 | none => none
theorem ld_ok {Q : Exit → AS → Prop} {l : Lf} {d id i j e n : Nat} (E : Elem α) {xs : List α} (hv : ldV T l = some (d, id, i * E.s + j, false, n)) (hH : l.σ.heap id = some (.row e E.s (E.cR xs))) (hi : i < xs.length) (hj : j < E.s)
  (hk : VS P T Q l.rest .normal (l.σ.eff (some d) (.pv (E.cf (xs.getD i E.z) j)) [] [])) : V P T Q l := by
 unfold ldV at hv
 split at hv
 ·rename_i d' o hh
  split at hv
  ·rename_i t x hop
   split at hv
   ·rename_i ti id' off ht hx
    simp only [Option.some.injEq, Prod.mk.injEq] at hv
    obtain ⟨rfl, rfl, rfl, hag, rfl⟩ := hv
    refine hard_ok (T := T) hh (e := _) rfl ?_ (.inr ?_) ?_
    ·unfold effOf; simp only [hop]; unfold loadAV; simp only [ht, hx, hH, Blk.cells, hag, E.cR_get xs hi hj]
    ·unfold effOf; simp only [hop]; trivial
    ·unfold effOf; simp only [hop]; unfold loadAV; simp only [ht, hx, hH, Blk.cells, hag, E.cR_get xs hi hj]; exact hk
   ·cases hv
  ·cases hv
 ·cases hv
theorem ldc_ok {Q : Exit → AS → Prop} {l : Lf} {d id off n : Nat} {cs : List AV} (v : AV) (hv : ldV T l = some (d, id, off, false, n)) (hH : l.σ.heap id = some (.box cs)) (hc : cs[off]? = some v)
  (hk : VS P T Q l.rest .normal (l.σ.eff (some d) v [] [])) : V P T Q l := by
 unfold ldV at hv
 split at hv
 ·rename_i d' o hh
  split at hv
  ·rename_i t x hop
   split at hv
   ·rename_i ti id' off ht hx
    simp only [Option.some.injEq, Prod.mk.injEq] at hv
    obtain ⟨rfl, rfl, rfl, hag, rfl⟩ := hv
    refine hard_ok (T := T) hh (e := _) rfl ?_ (.inr ?_) ?_
    ·unfold effOf; simp only [hop]; unfold loadAV; simp only [ht, hx, hH, Blk.cells, hag, hc]
    ·unfold effOf; simp only [hop]; trivial
    ·unfold effOf; simp only [hop]; unfold loadAV; simp only [ht, hx, hH, Blk.cells, hag, hc]; exact hk
   ·cases hv
  ·cases hv
 ·cases hv
theorem cs_take (E : Elem α) {xs : List α} {i n : Nat} (hi : i < xs.length) (hn : n = E.s) : ((E.cR xs).drop (i * E.s)).take n = E.cs (xs.getD i E.z) := by
 subst hn
 rw [E.cR_drop, List.drop_eq_getElem_cons hi, E.cR_cons, List.take_append, E.cs_length, Nat.sub_self, List.take_of_length_le (by rw [E.cs_length]; exact Nat.le_refl _)]
 simp [List.getElem?_eq_getElem hi]
theorem lda_ok {Q : Exit → AS → Prop} {l : Lf} {d id i e n : Nat} (E : Elem α) {xs : List α} (hv : ldV T l = some (d, id, i * E.s, true, n)) (hH : l.σ.heap id = some (.row e E.s (E.cR xs))) (hi : i < xs.length) (hn : n = E.s)
  (hk : VS P T Q l.rest .normal (l.σ.eff (some d) (.agg (E.cs (xs.getD i E.z))) [] [])) : V P T Q l := by
 unfold ldV at hv
 split at hv
 ·rename_i d' o hh
  split at hv
  ·rename_i t x hop
   split at hv
   ·rename_i ti id' off ht hx
    simp only [Option.some.injEq, Prod.mk.injEq] at hv
    obtain ⟨rfl, rfl, rfl, hag, rfl⟩ := hv
    have hle : i * E.s + ti.size ≤ (E.cR xs).length := by
     rw [E.cR_length, hn]
     have : (i + 1) * E.s ≤ xs.length * E.s := Nat.mul_le_mul_right _ hi
     rw [Nat.add_mul] at this; omega
    refine hard_ok (T := T) hh (e := _) rfl ?_ (.inr ?_) ?_
    ·unfold effOf; simp only [hop]; unfold loadAV; simp only [ht, hx, hH, Blk.cells, hag]; exact hle
    ·unfold effOf; simp only [hop]; trivial
    ·unfold effOf; simp only [hop]; unfold loadAV; simp only [ht, hx, hH, Blk.cells, hag]; rw [cs_take E hi hn]; exact hk
   ·cases hv
  ·cases hv
 ·cases hv
def stV (T : Tab) (l : Lf) : Option (Nat × Nat × List AV) :=
 match storeV l with
 | some o => match o.op with
  | .store t a x => match T t, (l.σ.bev a).unpix with
   | some ti, .ptr id off => bif (l.σ.bev x).cells.all AV.one && ((l.σ.bev x).one || (l.σ.bev x).isAgg) && Nat.beq (l.σ.bev x).cells.length ti.size then some (id, off, (l.σ.bev x).cells) else none
   | _, _ => none
  | _ => none
 | none => none
theorem st_ok {Q : Exit → AS → Prop} {l : Lf} {id i j e : Nat} {vs : List AV} (E : Elem α) {xs : List α} (y : α) (hv : stV T l = some (id, i * E.s + j, vs)) (hH : l.σ.heap id = some (.row e E.s (E.cR xs))) (hi : i < xs.length) (hj : j + vs.length ≤ E.s)
  (hy : E.cs y = setCells (E.cs (xs.getD i E.z)) j vs) (hk : VS P T Q l.rest .normal (l.σ.eff none (.raw undef) [(id, .row e E.s (E.cR (xs.set i y)))] [])) : V P T Q l := by
 unfold stV at hv
 split at hv
 ·rename_i o hh
  split at hv
  ·rename_i t a x hop
   split at hv
   ·rename_i ti id' off ht ha
    revert hv
    cases hb : (l.σ.bev x).cells.all AV.one && ((l.σ.bev x).one || (l.σ.bev x).isAgg) && Nat.beq (l.σ.bev x).cells.length ti.size with
    | false => intro hv; cases hv
    | true =>
     intro hv
     simp only [cond_true, Option.some.injEq, Prod.mk.injEq] at hv
     obtain ⟨rfl, rfl, rfl⟩ := hv
     simp only [Bool.and_eq_true] at hb
     have hl := beq_t hb.2
     have hle : i * E.s + j + ti.size ≤ (E.cR xs).length := by
      rw [E.cR_length, ← hl]
      have : (i + 1) * E.s ≤ xs.length * E.s := Nat.mul_le_mul_right _ hi
      rw [Nat.add_mul] at this; omega
     refine store_ok (T := T) hh (e := _) rfl ?_ ?_
     all_goals (unfold effOf; simp only [hop, ht, ha, hH])
     ·exact ⟨hb.1.1, hb.1.2, hl, hle⟩
     ·rw [E.cR_set xs hi hj hy]; exact hk
   ·cases hv
  ·cases hv
 ·cases hv
theorem stc_ok {Q : Exit → AS → Prop} {l : Lf} {id off : Nat} {vs cs : List AV} (cs' : List AV) (hv : stV T l = some (id, off, vs)) (hH : l.σ.heap id = some (.box cs)) (hle : off + vs.length ≤ cs.length) (hs : setCells cs off vs = cs')
  (hk : VS P T Q l.rest .normal (l.σ.eff none (.raw undef) [(id, .box cs')] [])) : V P T Q l := by
 subst hs
 unfold stV at hv
 split at hv
 ·rename_i o hh
  split at hv
  ·rename_i t a x hop
   split at hv
   ·rename_i ti id' off' ht ha
    revert hv
    cases hb : (l.σ.bev x).cells.all AV.one && ((l.σ.bev x).one || (l.σ.bev x).isAgg) && Nat.beq (l.σ.bev x).cells.length ti.size with
    | false => intro hv; cases hv
    | true =>
     intro hv
     simp only [cond_true, Option.some.injEq, Prod.mk.injEq] at hv
     obtain ⟨rfl, rfl, rfl⟩ := hv
     simp only [Bool.and_eq_true] at hb
     have hl := beq_t hb.2
     refine store_ok (T := T) hh (e := _) rfl ?_ ?_
     all_goals (unfold effOf; simp only [hop, ht, ha, hH])
     ·exact ⟨hb.1.1, hb.1.2, hl, by rw [← hl]; exact hle⟩
     ·exact hk
   ·cases hv
  ·cases hv
 ·cases hv
def arrOf (l : List α) (z : α) : Nat → α := fun k => l.getD k z
theorem Elem.sub_len (xs : List α) {l len : Nat} (h : l + len ≤ xs.length) : len = ((xs.drop l).take len).length := by simp; omega
theorem Elem.rowQ_all (E : Elem α) (xs : List α) {n : Nat} (hn : n = xs.length) : rowQ (E.cR xs) E.s 0 n (fun i j => E.cf (xs.getD i E.z) j) := by
 subst hn
 intro i hi j hj
 rw [Nat.zero_add]
 exact E.cR_get xs hi hj
def FUEL : Nat := 1000000000000000
theorem fuel_gt {n : Nat} (h : n ≤ 140737488355328) : n < FUEL := by unfold FUEL; omega
end Go.Ab

