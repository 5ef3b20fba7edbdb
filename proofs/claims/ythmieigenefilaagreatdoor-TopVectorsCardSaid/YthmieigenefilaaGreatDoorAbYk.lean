import Derived.Test.YthmieigenefilaaGreatDoorAbX
import Derived.Lib.AppendZeros
import Derived.Lib.Walk
import Derived.Lib.SliceRun
set_option linter.unusedVariables false
set_option linter.unusedSimpArgs false
namespace Go.Ab
open Go.RowKit
variable {P : Program} {T : Tab} {α β : Type}
theorem br_ {c : Bool} {x y : Option α} {r : α} {p : Nat → Prop} {t e : Sk} (h : cond c x y = some r) (h1 : c = true → x = some r → t.Holds p) (h2 : c = false → y = some r → e.Holds p) : (Sk.br c t e).Holds p :=
 ⟨fun hc => h1 hc (by rw [hc] at h; exact h), fun hc => h2 hc (by rw [hc] at h; exact h)⟩
theorem gd_ {φ : Prop} [Decidable φ] {x : Option α} {r : α} {p : Nat → Prop} {t : Sk} (h : (if φ then x else none) = some r) (h1 : φ → x = some r → t.Holds p) : (Sk.and φ t).Holds p := by
 by_cases hp : φ
 ·rw [if_pos hp] at h; exact ⟨hp, h1 hp h⟩
 ·rw [if_neg hp] at h; cases h
theorem if_ {φ : Prop} [Decidable φ] {x : Option α} {r : α} (h : (if φ then x else none) = some r) : φ ∧ x = some r := by
 by_cases hp : φ
 ·rw [if_pos hp] at h; exact ⟨hp, h⟩
 ·rw [if_neg hp] at h; cases h
theorem bd_ {x : Option β} {f : β → Option α} {r : α} (h : x.bind f = some r) : ∃ b, x = some b ∧ f b = some r := by
 cases x with
 | none => cases h
 | some b => exact ⟨b, rfl, h⟩
theorem some_ {a r : α} (h : some a = some r) : a = r := Option.some.inj h
theorem wrap_nat {k n : Nat} (h : k < n) (hn : n ≤ 140737488355328) : IntKind.i64.wrap ((k : Int) + 1) = ((k + 1 : Nat) : Int) := by
 rw [wrap_id (by omega) (by omega)]; simp
theorem wrap_nat_lit {k : Nat} (h : k < 4294967296) : IntKind.i64.wrap ((k : Int) + 1) = ((k + 1 : Nat) : Int) := wrap_nat (n := 4294967296) h (by omega)
theorem len_ro {Q : Exit → AS → Prop} {l : Lf} (hl : l.isLoop = true) (t : Nat) {s n : Nat} {c : Nat → Nat → PV} (h : l.σ.slots t = .pv (.ro s n c)) (hk : n ≤ 140737488355328 → V P T Q l) : V P T Q l := by
 obtain ⟨σ, k, e⟩ := l
 unfold Lf.isLoop at hl
 simp only at hl h
 split at hl
 ·intro A _ W a w hst
  obtain ⟨ι, R, h0⟩ := hst
  have hr := h0.slots t
  rw [h] at hr
  simp only [RelA, RelP] at hr
  obtain ⟨_, _, _, _, hn, _⟩ := hr
  exact hk hn A W a w ⟨ι, R, h0⟩
 ·cases hl
theorem len_box {Q : Exit → AS → Prop} {l : Lf} (hl : l.isLoop = true) (id j : Nat) {cs : List AV} (hH : l.σ.heap id = some (.box cs)) {s n : Nat} {c : Nat → Nat → PV} (h : cs[j]? = some (.pv (.ro s n c))) (hk : n ≤ 140737488355328 → V P T Q l) : V P T Q l := by
 obtain ⟨σ, k, e⟩ := l
 unfold Lf.isLoop at hl
 simp only at hl hH
 split at hl
 ·intro A _ W a w hst
  obtain ⟨ι, R, h0⟩ := hst
  obtain ⟨g, k, cur, e', hi, hh, hr, _⟩ := h0.heap id _ hH
  obtain ⟨u, _, hru⟩ := hr.get j _ h
  simp only [RelA, RelP] at hru
  obtain ⟨_, _, _, _, hn, _⟩ := hru
  exact hk hn A W a w ⟨ι, R, h0⟩
 ·cases hl
theorem len_row {Q : Exit → AS → Prop} {l : Lf} (hl : l.isLoop = true) (id : Nat) {e : TypeId} {s n : Nat} {cs : List AV} (h : l.σ.heap id = some (.row e s cs)) (hc : cs.length = n * s) (hk : n ≤ 140737488355328 → V P T Q l) : V P T Q l := by
 obtain ⟨σ, k, e⟩ := l
 unfold Lf.isLoop at hl
 simp only at hl h
 split at hl
 ·intro A _ W a w hst
  obtain ⟨ι, R, h0⟩ := hst
  obtain ⟨m, hm, hs, hle, _⟩ := h0.heap id _ h
  have : m = n := Nat.eq_of_mul_eq_mul_right hs (by omega)
  subst this
  exact hk hle A W a w ⟨ι, R, h0⟩
 ·cases hl
def hardV (l : Lf) : Option (Nat × Oper) :=
 match l.k, l.e with
 | .ops all (o :: os) :: r, .normal => match o.dst, o.guard.isNone && dstB l.σ.n o.dst && !isPick o.op && (callOf o.op).isNone && !(o.op.operands.toList.any fun x => isGd (l.σ.ev x)) with
  | some d, true => some (d, o)
  | _, _ => none
 | _, _ => none
theorem isPick_ok {op : Op} (h : isPick op = false) : ∀ c a b, op ≠ .pick c a b := by
 intro c a b e
 subst e
 cases h
theorem hard_ok {Q : Exit → AS → Prop} {l : Lf} {d : Nat} {o : Oper} (hv : hardV l = some (d, o)) {e : Eff} (he : effOf T l.σ.bev l.σ.heap (some d) o.op = e) (hok : e.ok) (hf : isStore o.op = true ∨ freshS l.σ e.set)
  (hk : VS P T Q l.rest .normal (l.σ.eff (some d) e.v e.set e.del)) : V P T Q l := by
 obtain ⟨σ, k, ex⟩ := l
 subst he
 unfold hardV at hv
 simp only at hv
 split at hv
 ·rename_i all o' os r
  split at hv
  ·rename_i d' hd' hg
   cases hv
   simp only [Bool.and_eq_true, Bool.not_eq_true', Option.isNone_iff_eq_none] at hg
   obtain ⟨⟨⟨⟨hg, hd⟩, hp⟩, hc⟩, hw⟩ := hg
   refine .inl ?_
   show sxOp P T all o σ _
   unfold sxOp
   rw [hg]
   refine ⟨trivial, by rw [hd'] at hd ⊢; exact Nat.le_of_ble_eq_true hd, ?_⟩
   split
   ·rename_i c a b hop; exact absurd hop (isPick_ok hp c a b)
   ·rw [hc, hd']
    refine ⟨fun _ => whens_none hw, .inl ⟨fun _ => ⟨hok, fun hs => ?_⟩, hk⟩⟩
    rcases hf with hf | hf
    ·rw [hf] at hs; cases hs
    ·exact hf
  ·cases hv
 ·cases hv
def storeV (l : Lf) : Option Oper :=
 match l.k, l.e with
 | .ops all (o :: os) :: r, .normal => match o.dst, o.guard.isNone && isStore o.op && !(o.op.operands.toList.any fun x => isGd (l.σ.ev x)) with
  | none, true => some o
  | _, _ => none
 | _, _ => none
theorem isStore_ok {op : Op} (h : isStore op = true) : (∀ c a b, op ≠ .pick c a b) ∧ callOf op = none := by
 unfold isStore at h
 split at h
 all_goals first
  | (cases h; done)
  | exact ⟨fun _ _ _ e => (by cases e), rfl⟩
theorem store_ok {Q : Exit → AS → Prop} {l : Lf} {o : Oper} (hv : storeV l = some o) {e : Eff} (he : effOf T l.σ.bev l.σ.heap none o.op = e) (hok : e.ok)
  (hk : VS P T Q l.rest .normal (l.σ.eff none e.v e.set e.del)) : V P T Q l := by
 obtain ⟨σ, k, ex⟩ := l
 subst he
 unfold storeV at hv
 simp only at hv
 split at hv
 ·rename_i all o' os r
  split at hv
  ·rename_i hd' hg
   cases hv
   simp only [Bool.and_eq_true, Bool.not_eq_true', Option.isNone_iff_eq_none] at hg
   obtain ⟨⟨hg, hs⟩, hw⟩ := hg
   obtain ⟨hp, hc⟩ := isStore_ok hs
   refine .inl ?_
   show sxOp P T all o σ _
   unfold sxOp
   rw [hg]
   refine ⟨trivial, by rw [hd']; trivial, ?_⟩
   split
   ·rename_i c a b hop; exact absurd hop (hp c a b)
   ·rw [hc, hd']
    refine ⟨fun _ => whens_none hw, .inl ⟨fun _ => ⟨hok, fun hs' => ?_⟩, hk⟩⟩
    rw [hs] at hs'; cases hs'
  ·cases hv
 ·cases hv
def hardG (l : Lf) : Option (Nat × Oper × Bool × List Prop) :=
 match l.k, l.e with
 | .ops all (o :: os) :: r, .normal => match o.dst, o.guard, dstB l.σ.n o.dst && !isPick o.op && (callOf o.op).isNone with
  | some d, some (j, want), true => match gOf l.σ all j want with
   | some g => some (d, o, g, whenL l.σ o.op.operands.toList)
   | none => none
  | _, _, _ => none
 | _, _ => none
theorem hardF_ok {Q : Exit → AS → Prop} {l : Lf} {d : Nat} {o : Oper} {g : Bool} {ws : List Prop} (hv : hardG l = some (d, o, g, ws)) (hns : isStore o.op = false) (hw : g = true → allP ws) {e : Eff} (he : effOf T l.σ.bev l.σ.heap (some d) o.op = e) (v : AV)
  (hok : g = true → e.ok ∧ Wk (fun _ => none) (fun _ => False) (fun _ => True) (setH (fun _ => none) e.set) e.v v) (hf : freshS l.σ e.set) (hd : e.del = [])
  (hk : VS P T Q l.rest .normal (l.σ.frz (some d) (.gd g v) e.set [])) : V P T Q l := by
 obtain ⟨σ, k, ex⟩ := l
 subst he
 unfold hardG at hv
 simp only at hv
 split at hv
 ·rename_i all o' os r
  split at hv
  ·rename_i d' j want hd' hg hb
   split at hv
   ·rename_i g' hgo
    cases hv
    simp only [Bool.and_eq_true, Bool.not_eq_true', Option.isNone_iff_eq_none] at hb
    obtain ⟨⟨hdn, hp⟩, hc⟩ := hb
    refine .inl ?_
    show sxOp P T all o σ _
    unfold sxOp
    rw [hg, gOf_guard hgo]
    refine ⟨trivial, by rw [hd'] at hdn ⊢; exact Nat.le_of_ble_eq_true hdn, ?_⟩
    split
    ·rename_i c a b hop; exact absurd hop (isPick_ok hp c a b)
    ·rw [hc, hd']
     exact ⟨fun hgt => whenL_ok (hw hgt), .inr ⟨hns, v, hok, hf, by simp only [Option.isSome_some]; exact ⟨hd, hk⟩⟩⟩
   ·cases hv
  ·cases hv
 ·cases hv
def bsV (T : Tab) (l : Lf) : Option (Nat × Nat × Nat × Nat × List AV) :=
 match hardV l with
 | some (d, o) => match o.op with
  | .buildSlice t len parts => match T t with
   | some { under := .slice e, .. } => match T e with
    | some ti =>
     let cs := (repCells (ti.zero.cells.toList) 0 (len * ti.size)).map AV.raw
     let ps := parts.toList.map fun p => (p.1, l.σ.bev p.2)
     let r := fillAV (fun i => some (i * ti.size, ti.size)) cs ps
     bif Nat.blt 0 ti.size && Nat.ble (len * ti.size) 16777216 && Nat.beq ti.zero.cells.size ti.size && fillB (fun i => some (i * ti.size, ti.size)) cs ps && r.2.all AV.one then some (d, e, ti.size, len, r.2) else none
    | none => none
   | _ => none
  | _ => none
 | none => none
theorem bs_ok {Q : Exit → AS → Prop} {l : Lf} {d e s n : Nat} {cs cs' : List AV} (hv : bsV T l = some (d, e, s, n, cs)) (hc : cs = cs') (hf : l.σ.seen (fid (some d) 0) = false)
  (hk : VS P T Q l.rest .normal (l.σ.eff (some d) (.row (fid (some d) 0) s 0 n) [(fid (some d) 0, .row e s cs')] [])) : V P T Q l := by
 subst hc
 unfold bsV at hv
 split at hv
 ·rename_i d' o hh
  split at hv
  ·rename_i t len parts hop
   split at hv
   ·rename_i e' _ _ _ _ ht
    split at hv
    ·rename_i ti hti
     simp only at hv
     revert hv
     cases hb : Nat.blt 0 ti.size && Nat.ble (len * ti.size) 16777216 && Nat.beq ti.zero.cells.size ti.size && fillB (fun i => some (i * ti.size, ti.size)) ((repCells (ti.zero.cells.toList) 0 (len * ti.size)).map AV.raw) (parts.toList.map fun p => (p.1, l.σ.bev p.2)) && (fillAV (fun i => some (i * ti.size, ti.size)) ((repCells (ti.zero.cells.toList) 0 (len * ti.size)).map AV.raw) (parts.toList.map fun p => (p.1, l.σ.bev p.2))).2.all AV.one with
     | false => intro hv; cases hv
     | true =>
      intro hv
      cases hv
      simp only [Bool.and_eq_true] at hb
      obtain ⟨⟨⟨⟨h1, h2⟩, h3⟩, h4⟩, h5⟩ := hb
      refine hard_ok (T := T) hh (e := _) rfl ?_ (.inr ?_) ?_
      ·unfold effOf
       simp only [hop, ht, hti]
       exact ⟨Nat.le_of_ble_eq_true h1, Nat.le_of_ble_eq_true h2, beq_t h3, fillB_ok h4, h5⟩
      ·unfold effOf
       simp only [hop, ht, hti]
       exact ⟨hf, trivial⟩
      ·unfold effOf
       simp only [hop, ht, hti]
       exact hk
    ·cases hv
   ·cases hv
  ·cases hv
 ·cases hv
theorem hardFu_ok {Q : Exit → AS → Prop} {l : Lf} {d : Nat} {o : Oper} (hv : hardV l = some (d, o)) (hns : isStore o.op = false) {e : Eff} (he : effOf T l.σ.bev l.σ.heap (some d) o.op = e) (v : AV) (hok : e.ok)
  (hwk : Wk (fun _ => none) (fun _ => False) (fun _ => True) (setH (fun _ => none) e.set) e.v v) (hf : freshS l.σ e.set)
  (hk : VS P T Q l.rest .normal (l.σ.frz (some d) v e.set e.del)) : V P T Q l := by
 obtain ⟨σ, k, ex⟩ := l
 subst he
 unfold hardV at hv
 simp only at hv
 split at hv
 ·rename_i all o' os r
  split at hv
  ·rename_i d' hd' hg
   cases hv
   simp only [Bool.and_eq_true, Bool.not_eq_true', Option.isNone_iff_eq_none] at hg
   obtain ⟨⟨⟨⟨hg, hdn⟩, hp⟩, hc⟩, hw⟩ := hg
   refine .inl ?_
   show sxOp P T all o σ _
   unfold sxOp
   rw [hg]
   refine ⟨trivial, by rw [hd'] at hdn ⊢; exact Nat.le_of_ble_eq_true hdn, ?_⟩
   split
   ·rename_i c a b hop; exact absurd hop (isPick_ok hp c a b)
   ·rw [hc, hd']
    exact ⟨fun _ => whens_none hw, .inr ⟨hns, v, fun _ => ⟨hok, hwk⟩, hf, hk⟩⟩
  ·cases hv
 ·cases hv
def ldG (T : Tab) (l : Lf) : Option (Nat × Bool × List Prop × Nat × Nat × Bool × Nat) :=
 match hardG l with
 | some (d, o, g, ws) => match o.op with
  | .load t x => match T t, (l.σ.bev x).unpix with
   | some ti, .ptr id off => some (d, g, ws, id, off, isAggT ti.under, ti.size)
   | _, _ => none
  | _ => none
 | none => none
theorem ldG_ok {Q : Exit → AS → Prop} {l : Lf} {d id i j e n : Nat} {g : Bool} {ws : List Prop} (E : Elem α) {xs : List α} (hv : ldG T l = some (d, g, ws, id, i * E.s + j, false, n)) (hw : g = true → allP ws) (hH : l.σ.heap id = some (.row e E.s (E.cR xs))) (hi : g = true → i < xs.length) (hj : j < E.s)
  (hk : VS P T Q l.rest .normal (l.σ.put (some d) (.gd g (.pv (E.cf (xs.getD i E.z) j))))) : V P T Q l := by
 unfold ldG at hv
 split at hv
 ·rename_i d' o g' ws' hh
  split at hv
  ·rename_i t x hop
   split at hv
   ·rename_i ti id' off ht hx
    simp only [Option.some.injEq, Prod.mk.injEq] at hv
    obtain ⟨rfl, rfl, rfl, rfl, rfl, hag, rfl⟩ := hv
    have he : effOf T l.σ.bev l.σ.heap (some d') o.op = .of (loadAV T l.σ.heap t (l.σ.bev x)) := by unfold effOf; simp only [hop]
    have hlo : g' = true → loadAV T l.σ.heap t (l.σ.bev x) = (True, .pv (E.cf (xs.getD i E.z) j)) := by
     intro hg
     unfold loadAV
     simp only [ht, hx, hH, Blk.cells, hag, E.cR_get xs (hi hg) hj]
    refine hardF_ok (T := T) hh (by rw [hop]; rfl) hw he (.pv (E.cf (xs.getD i E.z) j)) (fun hg => ⟨?_, ?_⟩) trivial rfl hk
    ·rw [hlo hg]; trivial
    ·rw [hlo hg]; exact .pv _
   ·cases hv
  ·cases hv
 ·cases hv
theorem ldcG_ok {Q : Exit → AS → Prop} {l : Lf} {d id off n : Nat} {g : Bool} {ws : List Prop} {cs : List AV} (p : PV) (hv : ldG T l = some (d, g, ws, id, off, false, n)) (hw : g = true → allP ws) (hH : l.σ.heap id = some (.box cs)) (hc : g = true → cs[off]? = some (.pv p))
  (hk : VS P T Q l.rest .normal (l.σ.put (some d) (.gd g (.pv p)))) : V P T Q l := by
 unfold ldG at hv
 split at hv
 ·rename_i d' o g' ws' hh
  split at hv
  ·rename_i t x hop
   split at hv
   ·rename_i ti id' off' ht hx
    simp only [Option.some.injEq, Prod.mk.injEq] at hv
    obtain ⟨rfl, rfl, rfl, rfl, rfl, hag, rfl⟩ := hv
    have he : effOf T l.σ.bev l.σ.heap (some d') o.op = .of (loadAV T l.σ.heap t (l.σ.bev x)) := by unfold effOf; simp only [hop]
    have hlo : g' = true → loadAV T l.σ.heap t (l.σ.bev x) = (True, .pv p) := by
     intro hg
     unfold loadAV
     simp only [ht, hx, hH, Blk.cells, hag, hc hg]
    refine hardF_ok (T := T) hh (by rw [hop]; rfl) hw he (.pv p) (fun hg => ⟨?_, ?_⟩) trivial rfl hk
    ·rw [hlo hg]; trivial
    ·rw [hlo hg]; exact .pv _
   ·cases hv
  ·cases hv
 ·cases hv
theorem ldxG_ok {Q : Exit → AS → Prop} {l : Lf} {d id i j e n : Nat} {g : Bool} {ws : List Prop} (E : Elem α) {xs : List α} (p : PV) {off : Nat} (hv : ldG T l = some (d, g, ws, id, off, false, n)) (ho : off = i * E.s + j) (hw : g = true → allP ws) (hH : l.σ.heap id = some (.row e E.s (E.cR xs))) (hi : g = true → i < xs.length ∧ j < E.s ∧ E.cf (xs.getD i E.z) j = p)
  (hk : VS P T Q l.rest .normal (l.σ.put (some d) (.gd g (.pv p)))) : V P T Q l := by
 subst ho
 unfold ldG at hv
 split at hv
 ·rename_i d' o g' ws' hh
  split at hv
  ·rename_i t x hop
   split at hv
   ·rename_i ti id' off ht hx
    simp only [Option.some.injEq, Prod.mk.injEq] at hv
    obtain ⟨rfl, rfl, rfl, rfl, rfl, hag, rfl⟩ := hv
    have he : effOf T l.σ.bev l.σ.heap (some d') o.op = .of (loadAV T l.σ.heap t (l.σ.bev x)) := by unfold effOf; simp only [hop]
    have hlo : g' = true → loadAV T l.σ.heap t (l.σ.bev x) = (True, .pv p) := by
     intro hg
     obtain ⟨h1, h2, h3⟩ := hi hg
     unfold loadAV
     simp only [ht, hx, hH, Blk.cells, hag, E.cR_get xs h1 h2, h3]
    refine hardF_ok (T := T) hh (by rw [hop]; rfl) hw he (.pv p) (fun hg => ⟨?_, ?_⟩) trivial rfl hk
    ·rw [hlo hg]; trivial
    ·rw [hlo hg]; exact .pv _
   ·cases hv
  ·cases hv
 ·cases hv
theorem rep_add (z : List Value) : ∀ m p k, repCells z k (m + p) = repCells z k m ++ repCells z (k + m) p
 | 0, p, k => by simp [repCells]
 | m + 1, p, k => by
  rw [show m + 1 + p = (m + p) + 1 by omega]
  simp only [repCells, List.cons_append]
  rw [rep_add z m p (k + 1), show k + 1 + m = k + (m + 1) by omega]
theorem rep_shift (z : List Value) : ∀ m k, repCells z (k + z.length) m = repCells z k m
 | 0, k => rfl
 | m + 1, k => by
  simp only [repCells, Nat.add_mod_right]
  rw [show k + z.length + 1 = (k + 1) + z.length by omega, rep_shift z m (k + 1)]
theorem rep_once (z : List Value) : ∀ j, j ≤ z.length → repCells z (z.length - j) j = z.drop (z.length - j)
 | 0, _ => by simp [repCells]
 | j + 1, h => by
  have hlt : z.length - (j + 1) < z.length := by omega
  simp only [repCells]
  rw [show z.length - (j + 1) + 1 = z.length - j by omega, rep_once z j (by omega), List.drop_eq_getElem_cons hlt, Nat.mod_eq_of_lt hlt, show z.length - (j + 1) + 1 = z.length - j by omega]
  simp [hlt]
theorem rep_cR (E : Elem α) (z : List Value) (x : α) (hz : z.map AV.raw = E.cs x) : ∀ n, (repCells z 0 (n * E.s)).map AV.raw = E.cR (List.replicate n x)
 | 0 => by simp [repCells, Elem.cR]
 | n + 1 => by
  have hl : z.length = E.s := by have := congrArg List.length hz; rw [List.length_map, E.cs_length] at this; exact this
  have h1 : repCells z 0 E.s = z := by
   have := rep_once z z.length (Nat.le_refl _)
   rw [Nat.sub_self, List.drop_zero] at this
   rw [← hl]; exact this
  have h2 : repCells z (0 + E.s) (n * E.s) = repCells z 0 (n * E.s) := by rw [← hl]; exact rep_shift z _ 0
  rw [Nat.add_mul, Nat.one_mul, Nat.add_comm, rep_add, h1, h2, List.map_append, hz, rep_cR E z x hz n, List.replicate_succ, E.cR_cons]
def mksV (T : Tab) (l : Lf) : Option (Nat × Nat × Nat × Nat × Int × List AV) :=
 match hardV l with
 | some (d, o) => match o.op with
  | .makeSlice t lo co => match T t with
   | some { under := .slice e, .. } => match T e with
    | some ti => match l.σ.bev lo, l.σ.bev co with
     | .pv (.raw (.int _ n)), .pv (.raw (.int _ m)) => bif decide (0 < ti.size) && decide (ti.zero.cells.size = ti.size) && (ti.zero.cells.toList.map AV.raw).all AV.one then some (d, e, ti.size, ti.bytes, n, ti.zero.cells.toList.map AV.raw) else none
     | _, _ => none
    | none => none
   | _ => none
  | _ => none
 | none => none
def mksC (l : Lf) : Option (Int × Int) :=
 match hardV l with
 | some (d, o) => match o.op with
  | .makeSlice t lo co => match l.σ.bev lo, l.σ.bev co with
   | .pv (.raw (.int _ n)), .pv (.raw (.int _ m)) => some (n, m)
   | _, _ => none
  | _ => none
 | none => none
theorem mks_ok {Q : Exit → AS → Prop} {l : Lf} {d e s b : Nat} {n : Int} {zs : List AV} (E : Elem α) (hv : mksV T l = some (d, e, s, b, n, zs)) (hc : mksC l = some (n, n)) (hE : E.s = s) (hz : zs = E.cs E.z) (hg : 0 ≤ n ∧ n.toNat * b ≤ 140737488355328 ∧ n.toNat ≤ 140737488355328)
  (hf : l.σ.seen (fid (some d) 0) = false) (hk : VS P T Q l.rest .normal (l.σ.eff (some d) (.row (fid (some d) 0) s 0 n.toNat) [(fid (some d) 0, .row e s (E.cR (List.replicate n.toNat E.z)))] [])) : V P T Q l := by
 subst hE
 subst hz
 unfold mksV at hv
 unfold mksC at hc
 split at hv
 ·rename_i d' o hh
  rw [hh] at hc
  split at hv
  ·rename_i t lo co hop
   simp only [hop] at hc
   split at hv
   ·rename_i e' _ _ _ _ ht
    split at hv
    ·rename_i ti he
     split at hv
     ·rename_i kl n' kc m' hl hcv
      cases hb : decide (0 < ti.size) && decide (ti.zero.cells.size = ti.size) && (ti.zero.cells.toList.map AV.raw).all AV.one with
      | false => rw [hb] at hv; cases hv
      | true =>
       rw [hb] at hv
       simp only [cond_true, Option.some.injEq, Prod.mk.injEq] at hv
       obtain ⟨rfl, rfl, hs, hbt, rfl, hz⟩ := hv
       rw [hl, hcv] at hc
       simp only [Option.some.injEq, Prod.mk.injEq] at hc
       obtain ⟨_, rfl⟩ := hc
       simp only [Bool.and_eq_true, decide_eq_true_eq] at hb
       have hrep := rep_cR E ti.zero.cells.toList E.z hz m'.toNat
       refine hard_ok (T := T) hh (e := _) rfl ?_ (.inr ?_) ?_
       ·unfold effOf; simp only [hop, ht, he, hl, hcv]; exact ⟨trivial, hg.1, hb.1.1, hb.1.2, hb.2, by rw [hbt]; exact hg.2.1, hg.2.2⟩
       ·unfold effOf; simp only [hop, ht, he, hl, hcv]; exact ⟨hf, trivial⟩
       ·unfold effOf; simp only [hop, ht, he, hl, hcv]
        rw [hs, hrep]
        exact hk
     ·cases hv
    ·cases hv
   ·cases hv
  ·cases hv
 ·cases hv
inductive NewIs (H : Heap) (E : Elem α) : AV → List α → Prop
 | nil : NewIs H E (.pv (.raw (.slice none 0 0))) []
 | ro (xs : List α) : NewIs H E (.pv (E.ro xs)) xs
 | sub (xs : List α) (l len : Nat) (h : l + len ≤ xs.length) : NewIs H E (.pv (.ro E.s len (fun i j => E.cf (xs.getD (l + i) E.z) j))) ((xs.drop l).take len)
 | row (id e off len : Nat) (xs : List α) (h : H id = some (.row e E.s (E.cR xs))) (hl : off + len ≤ xs.length) : NewIs H E (.row id E.s off len) ((xs.drop off).take len)
 | all (id e : Nat) (xs : List α) (n : Nat) (hn : n = xs.length) (h : H id = some (.row e E.s (E.cR xs))) : NewIs H E (.row id E.s 0 n) xs
inductive SrcIs (H : Heap) (E : Elem α) (e : Nat) : AV → List α → List Nat → Prop
 | nil : SrcIs H E e (.pv (.raw (.slice none 0 0))) [] []
 | row (id : Nat) (xs : List α) (n : Nat) (hn : n = xs.length) (h : H id = some (.row e E.s (E.cR xs))) : SrcIs H E e (.row id E.s 0 n) xs [id]
 | part (id : Nat) (xs : List α) (n : Nat) (hn : n ≤ xs.length) (h : H id = some (.row e E.s (E.cR xs))) : SrcIs H E e (.row id E.s 0 n) (xs.take n) [id]
 | mid (id off : Nat) (xs : List α) (n : Nat) (hn : off + n ≤ xs.length) (h : H id = some (.row e E.s (E.cR xs))) : SrcIs H E e (.row id E.s off n) ((xs.drop off).take n) [id]
theorem NewIs.news {H : Heap} {E : Elem α} {x : AV} {ys : List α} (h : NewIs H E x ys) : (newsAV H E.s x).1 ∧ (newsAV H E.s x).2.1 = ys.length ∧ (newsAV H E.s x).2.2 = E.cR ys := by
 cases h with
 | nil => exact ⟨trivial, rfl, rfl⟩
 | ro => exact ⟨rfl, rfl, E.roL_cR ys⟩
 | sub xs l len hl =>
  have hn : ((xs.drop l).take len).length = len := by simp; omega
  refine ⟨rfl, hn.symm, ?_⟩
  show roL E.s len (fun i j => E.cf (xs.getD (l + i) E.z) j) = _
  rw [← E.roL_cR, hn]
  unfold roL
  simp only [List.flatMap]
  congr 1
  refine List.map_congr_left fun i hi => ?_
  have hi' : i < len := by simpa using hi
  have : ((xs.drop l).take len).getD i E.z = xs.getD (l + i) E.z := by simp [List.getElem?_take, hi', List.getElem?_drop]
  rw [this]
 | row id e off len xs hH hl =>
  unfold newsAV
  simp only [hH]
  refine ⟨⟨trivial, by rw [E.cR_length]; exact Nat.mul_le_mul_right _ hl⟩, by simp; omega, by rw [E.cR_drop, E.cR_take]⟩
 | all id e xs n hn hH =>
  subst hn
  unfold newsAV
  simp only [hH]
  refine ⟨⟨trivial, by rw [E.cR_length]; simp⟩, by rw [Nat.zero_mul, List.drop_zero, E.cR_take, List.take_length]; trivial⟩
def appV (T : Tab) (l : Lf) : Option (Nat × AV × AV × Nat × Nat × Nat) :=
 match hardV l with
 | some (d, o) => match o.op with
  | .call { callee := .builtin .append, args := args, argTypes := ts } => match args.toList, ts.toList with
   | [s, x], [t, t'] => match T t, T t' with
    | some { under := .slice e, .. }, some { under := .slice e', .. } => match T e with
     | some ti => bif Nat.beq t t' && Nat.blt 0 ti.size && Nat.beq ti.zero.cells.size ti.size then some (d, l.σ.bev s, l.σ.bev x, e, ti.size, ti.bytes) else none
     | none => none
    | _, _ => none
   | _, _ => none
  | _ => none
 | none => none
theorem app_ok {Q : Exit → AS → Prop} {l : Lf} {d e s b : Nat} {x y : AV} (E : Elem α) {xs ys : List α} {del : List Nat} (hv : appV T l = some (d, x, y, e, s, b)) (hE : E.s = s) (hx : SrcIs l.σ.heap E e x xs del) (hy : NewIs l.σ.heap E y ys)
  (hb : (xs.length + ys.length + (xs.length + ys.length) / 4 + 192) * b ≤ 281474976710656 ∧ xs.length + ys.length ≤ 140737488355328) (hf : l.σ.seen (fid (some d) 0) = false)
  (hk : VS P T Q l.rest .normal (l.σ.eff (some d) (.row (fid (some d) 0) s 0 (xs ++ ys).length) [(fid (some d) 0, .row e s (E.cR (xs ++ ys)))] del)) : V P T Q l := by
 unfold appV at hv
 split at hv
 ·rename_i d' o hh
  split at hv
  ·rename_i args ts hop
   split at hv
   ·rename_i sx xx t t' hargs hts
    split at hv
    ·rename_i e1 _ _ _ _ e2 _ _ _ _ ht ht'
     split at hv
     ·rename_i ti hti
      revert hv
      cases hbb : Nat.beq t t' && Nat.blt 0 ti.size && Nat.beq ti.zero.cells.size ti.size with
      | false => intro hv; cases hv
      | true =>
       intro hv
       simp only [cond_true, Option.some.injEq, Prod.mk.injEq] at hv
       obtain ⟨rfl, rfl, rfl, rfl, rfl, rfl⟩ := hv
       simp only [Bool.and_eq_true] at hbb
       obtain ⟨⟨h1, h2⟩, h3⟩ := hbb
       have h1 := beq_t h1
       have h2 : 0 < ti.size := Nat.le_of_ble_eq_true h2
       have h3 := beq_t h3
       obtain ⟨n1, n2, n3⟩ := hy.news
       rw [hE] at n1 n2 n3
       generalize hbx : l.σ.bev sx = x at hx
       cases hx with
       | nil =>
        refine hard_ok (T := T) hh (e := _) rfl ?_ (.inr ?_) ?_
        all_goals (unfold effOf; simp only [hop, hargs, hts, ht, ht', hti, hbx])
        ·exact ⟨h1, n1, h2, h3, by rw [n2]; simpa using hb.1, by rw [n2]; simpa using hb.2⟩
        ·exact ⟨hf, trivial⟩
        ·rw [n2, n3]; exact hk
       | row id xs n hn hH =>
        subst hn
        refine hard_ok (T := T) hh (e := _) rfl ?_ (.inr ?_) ?_
        all_goals (unfold effOf; simp only [hop, hargs, hts, ht, ht', hti, hbx, hH])
        ·exact ⟨h1, n1, h2, h3, hE, hE, trivial, by rw [E.cR_length, hE, Nat.zero_add]; exact Nat.le_refl _, by rw [n2]; exact hb.1, by rw [n2]; exact hb.2⟩
        ·exact ⟨hf, trivial⟩
        ·rw [n2, n3, ← hE, Nat.zero_mul, List.drop_zero, E.cR_take, List.take_length, ← E.cR_append, ← List.length_append, hE]
         rw [hE] at *
         exact hk
       | part id xs n hn hH =>
        have hlen : (xs.take n).length = n := by rw [List.length_take]; omega
        rw [hlen] at hb
        refine hard_ok (T := T) hh (e := _) rfl ?_ (.inr ?_) ?_
        all_goals (unfold effOf; simp only [hop, hargs, hts, ht, ht', hti, hbx, hH])
        ·exact ⟨h1, n1, h2, h3, hE, hE, trivial, by rw [E.cR_length, hE, Nat.zero_add]; exact Nat.mul_le_mul_right _ hn, by rw [n2]; exact hb.1, by rw [n2]; exact hb.2⟩
        ·exact ⟨hf, trivial⟩
        ·rw [List.length_append, hlen] at hk
         rw [n2, n3, ← hE, Nat.zero_mul, List.drop_zero, E.cR_take, ← E.cR_append, hE]
         rw [hE] at *
         exact hk
       | mid id off xs n hn hH =>
        have hlen : ((xs.drop off).take n).length = n := by rw [List.length_take, List.length_drop]; omega
        rw [hlen] at hb
        refine hard_ok (T := T) hh (e := _) rfl ?_ (.inr ?_) ?_
        all_goals (unfold effOf; simp only [hop, hargs, hts, ht, ht', hti, hbx, hH])
        ·exact ⟨h1, n1, h2, h3, hE, hE, trivial, by rw [E.cR_length, hE]; exact Nat.mul_le_mul_right _ hn, by rw [n2]; exact hb.1, by rw [n2]; exact hb.2⟩
        ·exact ⟨hf, trivial⟩
        ·rw [List.length_append, hlen] at hk
         rw [n2, n3, ← hE, E.cR_drop, E.cR_take, ← E.cR_append, hE]
         rw [hE] at *
         exact hk
     ·cases hv
    ·cases hv
   ·cases hv
  ·cases hv
 ·cases hv
theorem row_wk (id e : Nat) (E : Elem α) (zs : List α) : Wk (fun _ => none) (fun _ => False) (fun _ => True) (setH (fun _ => none) [(id, .row e E.s (E.cR zs))]) (.row id E.s 0 zs.length) (.pv (E.ro zs)) := by
 refine Wk.row _ e E.s 0 zs.length (E.cR zs) _ (fun i j => .pv (E.cf (zs.getD i E.z) j)) trivial (by simp [setH, upd]) (fun i hi j hj => ?_) (fun i hi j hj => .pv _)
 rw [Nat.zero_add]
 exact E.cR_get zs hi hj
theorem appF_ok {Q : Exit → AS → Prop} {l : Lf} {d e s b : Nat} {x y : AV} (E : Elem α) {xs ys : List α} {del : List Nat} (hv : appV T l = some (d, x, y, e, s, b)) (hE : E.s = s) (hx : SrcIs l.σ.heap E e x xs del) (hy : NewIs l.σ.heap E y ys)
  (hb : (xs.length + ys.length + (xs.length + ys.length) / 4 + 192) * b ≤ 281474976710656 ∧ xs.length + ys.length ≤ 140737488355328) (hf : l.σ.seen (fid (some d) 0) = false)
  (hk : VS P T Q l.rest .normal (l.σ.frz (some d) (.pv (E.ro (xs ++ ys))) [(fid (some d) 0, .row e s (E.cR (xs ++ ys)))] del)) : V P T Q l := by
 have hwk := row_wk (fid (some d) 0) e E (xs ++ ys)
 unfold appV at hv
 split at hv
 ·rename_i d' o hh
  split at hv
  ·rename_i args ts hop
   split at hv
   ·rename_i sx xx t t' hargs hts
    split at hv
    ·rename_i e1 _ _ _ _ e2 _ _ _ _ ht ht'
     split at hv
     ·rename_i ti hti
      revert hv
      cases hbb : Nat.beq t t' && Nat.blt 0 ti.size && Nat.beq ti.zero.cells.size ti.size with
      | false => intro hv; cases hv
      | true =>
       intro hv
       simp only [cond_true, Option.some.injEq, Prod.mk.injEq] at hv
       obtain ⟨rfl, rfl, rfl, rfl, rfl, rfl⟩ := hv
       simp only [Bool.and_eq_true] at hbb
       obtain ⟨⟨h1, h2⟩, h3⟩ := hbb
       have h1 := beq_t h1
       have h2 : 0 < ti.size := Nat.le_of_ble_eq_true h2
       have h3 := beq_t h3
       obtain ⟨n1, n2, n3⟩ := hy.news
       rw [hE] at n1 n2 n3 hwk
       generalize hbx : l.σ.bev sx = x at hx
       cases hx with
       | nil =>
        refine hardFu_ok (T := T) hh (by rw [hop]; rfl) (e := _) rfl (.pv (E.ro ([] ++ ys))) ?_ ?_ ?_ ?_
        all_goals (unfold effOf; simp only [hop, hargs, hts, ht, ht', hti, hbx])
        ·exact ⟨h1, n1, h2, h3, by rw [n2]; simpa using hb.1, by rw [n2]; simpa using hb.2⟩
        ·rw [n2, n3]
         exact hwk
        ·exact ⟨hf, trivial⟩
        ·rw [n3]; exact hk
       | row id xs n hn hH =>
        subst hn
        refine hardFu_ok (T := T) hh (by rw [hop]; rfl) (e := _) rfl (.pv (E.ro (xs ++ ys))) ?_ ?_ ?_ ?_
        all_goals (unfold effOf; simp only [hop, hargs, hts, ht, ht', hti, hbx, hH])
        ·exact ⟨h1, n1, h2, h3, hE, hE, trivial, by rw [E.cR_length, hE, Nat.zero_add]; exact Nat.le_refl _, by rw [n2]; exact hb.1, by rw [n2]; exact hb.2⟩
        ·rw [n2, n3, ← hE, Nat.zero_mul, List.drop_zero, E.cR_take, List.take_length, ← E.cR_append, ← List.length_append, hE]
         exact hwk
        ·exact ⟨hf, trivial⟩
        ·rw [n3, ← hE, Nat.zero_mul, List.drop_zero, E.cR_take, List.take_length, ← E.cR_append, hE]
         exact hk
       | part id xs n hn hH =>
        have hlen : (xs.take n).length = n := by rw [List.length_take]; omega
        rw [hlen] at hb
        refine hardFu_ok (T := T) hh (by rw [hop]; rfl) (e := _) rfl (.pv (E.ro (xs.take n ++ ys))) ?_ ?_ ?_ ?_
        all_goals (unfold effOf; simp only [hop, hargs, hts, ht, ht', hti, hbx, hH])
        ·exact ⟨h1, n1, h2, h3, hE, hE, trivial, by rw [E.cR_length, hE, Nat.zero_add]; exact Nat.mul_le_mul_right _ hn, by rw [n2]; exact hb.1, by rw [n2]; exact hb.2⟩
        ·rw [List.length_append, hlen] at hwk
         rw [n2, n3, ← hE, Nat.zero_mul, List.drop_zero, E.cR_take, ← E.cR_append, hE]
         exact hwk
        ·exact ⟨hf, trivial⟩
        ·rw [n3, ← hE, Nat.zero_mul, List.drop_zero, E.cR_take, ← E.cR_append, hE]
         exact hk
       | mid id off xs n hn hH =>
        have hlen : ((xs.drop off).take n).length = n := by rw [List.length_take, List.length_drop]; omega
        rw [hlen] at hb
        refine hardFu_ok (T := T) hh (by rw [hop]; rfl) (e := _) rfl (.pv (E.ro ((xs.drop off).take n ++ ys))) ?_ ?_ ?_ ?_
        all_goals (unfold effOf; simp only [hop, hargs, hts, ht, ht', hti, hbx, hH])
        ·exact ⟨h1, n1, h2, h3, hE, hE, trivial, by rw [E.cR_length, hE]; exact Nat.mul_le_mul_right _ hn, by rw [n2]; exact hb.1, by rw [n2]; exact hb.2⟩
        ·rw [List.length_append, hlen] at hwk
         rw [n2, n3, ← hE, E.cR_drop, E.cR_take, ← E.cR_append, hE]
         exact hwk
        ·exact ⟨hf, trivial⟩
        ·rw [n3, ← hE, E.cR_drop, E.cR_take, ← E.cR_append, hE]
         exact hk
     ·cases hv
    ·cases hv
   ·cases hv
  ·cases hv
 ·cases hv
def ldV (T : Tab) (l : Lf) : Option (Nat × Nat × Nat × Bool × Nat) :=
 match hardV l with
 | some (d, o) => match o.op with
  | .load t x => match T t, (l.σ.bev x).unpix with
   | some ti, .ptr id off => some (d, id, off, isAggT ti.under, ti.size)
   | _, _ => none
  | _ => none
 | none => none
theorem ld_ok {Q : Exit → AS → Prop} {l : Lf} {d id i j e n : Nat} (E : Elem α) {xs : List α} (hv : ldV T l = some (d, id, i * E.s + j, false, n)) (hH : l.σ.heap id = some (.row e E.s (E.cR xs))) (hi : i < xs.length) (hj : j < E.s)
  (hk : VS P T Q l.rest .normal (l.σ.eff (some d) (.pv (E.cf (xs.getD i E.z) j)) [] [])) : V P T Q l := by
 unfold ldV at hv
 split at hv
 ·rename_i d' o hh
  split at hv
  ·rename_i t x hop
   split at hv
   ·rename_i ti id' off ht hx
    simp only [Option.some.injEq, Prod.mk.injEq] at hv
    obtain ⟨rfl, rfl, rfl, hag, rfl⟩ := hv
    refine hard_ok (T := T) hh (e := _) rfl ?_ (.inr ?_) ?_
    ·unfold effOf; simp only [hop]; unfold loadAV; simp only [ht, hx, hH, Blk.cells, hag, E.cR_get xs hi hj]
    ·unfold effOf; simp only [hop]; trivial
    ·unfold effOf; simp only [hop]; unfold loadAV; simp only [ht, hx, hH, Blk.cells, hag, E.cR_get xs hi hj]; exact hk
   ·cases hv
  ·cases hv
 ·cases hv
theorem ldx_ok {Q : Exit → AS → Prop} {l : Lf} {d id i j e n off : Nat} (E : Elem α) {xs : List α} (p : PV) (hv : ldV T l = some (d, id, off, false, n)) (ho : off = i * E.s + j) (hH : l.σ.heap id = some (.row e E.s (E.cR xs))) (hi : i < xs.length) (hj : j < E.s) (hp : E.cf (xs.getD i E.z) j = p)
  (hk : VS P T Q l.rest .normal (l.σ.eff (some d) (.pv p) [] [])) : V P T Q l := by
 subst hp
 subst ho
 exact ld_ok E hv hH hi hj hk
theorem ldc_ok {Q : Exit → AS → Prop} {l : Lf} {d id off n : Nat} {cs : List AV} (v : AV) (hv : ldV T l = some (d, id, off, false, n)) (hH : l.σ.heap id = some (.box cs)) (hc : cs[off]? = some v)
  (hk : VS P T Q l.rest .normal (l.σ.eff (some d) v [] [])) : V P T Q l := by
 unfold ldV at hv
 split at hv
 ·rename_i d' o hh
  split at hv
  ·rename_i t x hop
   split at hv
   ·rename_i ti id' off ht hx
    simp only [Option.some.injEq, Prod.mk.injEq] at hv
    obtain ⟨rfl, rfl, rfl, hag, rfl⟩ := hv
    refine hard_ok (T := T) hh (e := _) rfl ?_ (.inr ?_) ?_
    ·unfold effOf; simp only [hop]; unfold loadAV; simp only [ht, hx, hH, Blk.cells, hag, hc]
    ·unfold effOf; simp only [hop]; trivial
    ·unfold effOf; simp only [hop]; unfold loadAV; simp only [ht, hx, hH, Blk.cells, hag, hc]; exact hk
   ·cases hv
  ·cases hv
 ·cases hv
theorem ldca_ok {Q : Exit → AS → Prop} {l : Lf} {d id off n : Nat} {cs : List AV} (vs : List AV) (hv : ldV T l = some (d, id, off, true, n)) (hH : l.σ.heap id = some (.box cs)) (hle : off + n ≤ cs.length) (hc : (cs.drop off).take n = vs)
  (hk : VS P T Q l.rest .normal (l.σ.eff (some d) (.agg vs) [] [])) : V P T Q l := by
 subst hc
 unfold ldV at hv
 split at hv
 ·rename_i d' o hh
  split at hv
  ·rename_i t x hop
   split at hv
   ·rename_i ti id' off ht hx
    simp only [Option.some.injEq, Prod.mk.injEq] at hv
    obtain ⟨rfl, rfl, rfl, hag, rfl⟩ := hv
    refine hard_ok (T := T) hh (e := _) rfl ?_ (.inr ?_) ?_
    ·unfold effOf; simp only [hop]; unfold loadAV; simp only [ht, hx, hH, Blk.cells, hag]; exact hle
    ·unfold effOf; simp only [hop]; trivial
    ·unfold effOf; simp only [hop]; unfold loadAV; simp only [ht, hx, hH, Blk.cells, hag]; exact hk
   ·cases hv
  ·cases hv
 ·cases hv
theorem cs_take (E : Elem α) {xs : List α} {i n : Nat} (hi : i < xs.length) (hn : n = E.s) : ((E.cR xs).drop (i * E.s)).take n = E.cs (xs.getD i E.z) := by
 subst hn
 rw [E.cR_drop, List.drop_eq_getElem_cons hi, E.cR_cons, List.take_append, E.cs_length, Nat.sub_self, List.take_of_length_le (by rw [E.cs_length]; exact Nat.le_refl _)]
 simp [List.getElem?_eq_getElem hi]
theorem lda_ok {Q : Exit → AS → Prop} {l : Lf} {d id i e n : Nat} (E : Elem α) {xs : List α} (hv : ldV T l = some (d, id, i * E.s, true, n)) (hH : l.σ.heap id = some (.row e E.s (E.cR xs))) (hi : i < xs.length) (hn : n = E.s)
  (hk : VS P T Q l.rest .normal (l.σ.eff (some d) (.agg (E.cs (xs.getD i E.z))) [] [])) : V P T Q l := by
 unfold ldV at hv
 split at hv
 ·rename_i d' o hh
  split at hv
  ·rename_i t x hop
   split at hv
   ·rename_i ti id' off ht hx
    simp only [Option.some.injEq, Prod.mk.injEq] at hv
    obtain ⟨rfl, rfl, rfl, hag, rfl⟩ := hv
    have hle : i * E.s + ti.size ≤ (E.cR xs).length := by
     rw [E.cR_length, hn]
     have : (i + 1) * E.s ≤ xs.length * E.s := Nat.mul_le_mul_right _ hi
     rw [Nat.add_mul] at this; omega
    refine hard_ok (T := T) hh (e := _) rfl ?_ (.inr ?_) ?_
    ·unfold effOf; simp only [hop]; unfold loadAV; simp only [ht, hx, hH, Blk.cells, hag]; exact hle
    ·unfold effOf; simp only [hop]; trivial
    ·unfold effOf; simp only [hop]; unfold loadAV; simp only [ht, hx, hH, Blk.cells, hag]; rw [cs_take E hi hn]; exact hk
   ·cases hv
  ·cases hv
 ·cases hv
def stV (T : Tab) (l : Lf) : Option (Nat × Nat × List AV) :=
 match storeV l with
 | some o => match o.op with
  | .store t a x => match T t, (l.σ.bev a).unpix with
   | some ti, .ptr id off => bif (l.σ.bev x).cells.all AV.one && ((l.σ.bev x).one || (l.σ.bev x).isAgg) && Nat.beq (l.σ.bev x).cells.length ti.size then some (id, off, (l.σ.bev x).cells) else none
   | _, _ => none
  | _ => none
 | none => none
theorem st_ok {Q : Exit → AS → Prop} {l : Lf} {id i j e : Nat} {vs : List AV} (E : Elem α) {xs : List α} (y : α) (hv : stV T l = some (id, i * E.s + j, vs)) (hH : l.σ.heap id = some (.row e E.s (E.cR xs))) (hi : i < xs.length) (hj : j + vs.length ≤ E.s)
  (hy : E.cs y = setCells (E.cs (xs.getD i E.z)) j vs) (hk : VS P T Q l.rest .normal (l.σ.eff none (.raw undef) [(id, .row e E.s (E.cR (xs.set i y)))] [])) : V P T Q l := by
 unfold stV at hv
 split at hv
 ·rename_i o hh
  split at hv
  ·rename_i t a x hop
   split at hv
   ·rename_i ti id' off ht ha
    revert hv
    cases hb : (l.σ.bev x).cells.all AV.one && ((l.σ.bev x).one || (l.σ.bev x).isAgg) && Nat.beq (l.σ.bev x).cells.length ti.size with
    | false => intro hv; cases hv
    | true =>
     intro hv
     simp only [cond_true, Option.some.injEq, Prod.mk.injEq] at hv
     obtain ⟨rfl, rfl, rfl⟩ := hv
     simp only [Bool.and_eq_true] at hb
     have hl := beq_t hb.2
     have hle : i * E.s + j + ti.size ≤ (E.cR xs).length := by
      rw [E.cR_length, ← hl]
      have : (i + 1) * E.s ≤ xs.length * E.s := Nat.mul_le_mul_right _ hi
      rw [Nat.add_mul] at this; omega
     refine store_ok (T := T) hh (e := _) rfl ?_ ?_
     all_goals (unfold effOf; simp only [hop, ht, ha, hH])
     ·exact ⟨hb.1.1, hb.1.2, hl, hle⟩
     ·rw [E.cR_set xs hi hj hy]; exact hk
   ·cases hv
  ·cases hv
 ·cases hv
theorem stx_ok {Q : Exit → AS → Prop} {l : Lf} {id i j e off : Nat} {vs : List AV} (E : Elem α) {xs : List α} (y : α) (hv : stV T l = some (id, off, vs)) (ho : off = i * E.s + j) (hH : l.σ.heap id = some (.row e E.s (E.cR xs))) (hi : i < xs.length) (hj : j + vs.length ≤ E.s)
  (hy : E.cs y = setCells (E.cs (xs.getD i E.z)) j vs) (hk : VS P T Q l.rest .normal (l.σ.eff none (.raw undef) [(id, .row e E.s (E.cR (xs.set i y)))] [])) : V P T Q l := by
 subst ho
 exact st_ok E y hv hH hi hj hy hk
theorem stl_ok {Q : Exit → AS → Prop} {l : Lf} {id i j e off : Nat} {vs : List AV} (E : Elem α) {xs : List α} (y : α) (ys : List α) (hys : xs.set i y = ys) (hv : stV T l = some (id, off, vs)) (ho : off = i * E.s + j) (hH : l.σ.heap id = some (.row e E.s (E.cR xs))) (hi : i < xs.length) (hj : j + vs.length ≤ E.s)
  (hy : E.cs y = setCells (E.cs (xs.getD i E.z)) j vs) (hk : VS P T Q l.rest .normal (l.σ.eff none (.raw undef) [(id, .row e E.s (E.cR ys))] [])) : V P T Q l := by
 subst hys
 exact stx_ok E y hv ho hH hi hj hy hk
theorem focus_get {l : List α} {i : Nat} {y z : α} (h : i < l.length) : (l.set i y).getD i z = y := by simp [List.getD_eq_getElem?_getD, h]
theorem focus_same {l : List α} {i : Nat} {x z : α} (h : i < l.length) (hx : l.getD i z = x) : l.set i x = l := by
 subst hx
 simp [List.getD_eq_getElem?_getD, h]
theorem stc_ok {Q : Exit → AS → Prop} {l : Lf} {id off : Nat} {vs cs : List AV} (cs' : List AV) (hv : stV T l = some (id, off, vs)) (hH : l.σ.heap id = some (.box cs)) (hle : off + vs.length ≤ cs.length) (hs : setCells cs off vs = cs')
  (hk : VS P T Q l.rest .normal (l.σ.eff none (.raw undef) [(id, .box cs')] [])) : V P T Q l := by
 subst hs
 unfold stV at hv
 split at hv
 ·rename_i o hh
  split at hv
  ·rename_i t a x hop
   split at hv
   ·rename_i ti id' off' ht ha
    revert hv
    cases hb : (l.σ.bev x).cells.all AV.one && ((l.σ.bev x).one || (l.σ.bev x).isAgg) && Nat.beq (l.σ.bev x).cells.length ti.size with
    | false => intro hv; cases hv
    | true =>
     intro hv
     simp only [cond_true, Option.some.injEq, Prod.mk.injEq] at hv
     obtain ⟨rfl, rfl, rfl⟩ := hv
     simp only [Bool.and_eq_true] at hb
     have hl := beq_t hb.2
     refine store_ok (T := T) hh (e := _) rfl ?_ ?_
     all_goals (unfold effOf; simp only [hop, ht, ha, hH])
     ·exact ⟨hb.1.1, hb.1.2, hl, by rw [← hl]; exact hle⟩
     ·exact hk
   ·cases hv
  ·cases hv
 ·cases hv
def arrOf (l : List α) (z : α) : Nat → α := fun k => l.getD k z
def AllLt (p : Nat → Prop) : Nat → Prop
 | 0 => True
 | m + 1 => AllLt p m ∧ p m
theorem allLt {p : Nat → Prop} : ∀ {m : Nat}, AllLt p m → ∀ k, k < m → p k
 | 0, _, k, hk => absurd hk (Nat.not_lt_zero _)
 | m + 1, h, k, hk => by
  by_cases he : k = m
  ·subst he; exact h.2
  ·exact allLt h.1 k (by omega)
theorem Elem.sub_len (xs : List α) {l len : Nat} (h : l + len ≤ xs.length) : len = ((xs.drop l).take len).length := by simp; omega
theorem Elem.sub_cf (E : Elem α) (xs : List α) {l len s : Nat} (h : l + len ≤ xs.length) : ∀ i, i < len → ∀ j, j < s → E.cf (xs.getD (l + i) E.z) j = E.cf (((xs.drop l).take len).getD i E.z) j := by
 intro i hi j hj
 have : ((xs.drop l).take len).getD i E.z = xs.getD (l + i) E.z := by simp [List.getElem?_take, hi, List.getElem?_drop]
 rw [this]
theorem Elem.rowQ_all (E : Elem α) (xs : List α) {n : Nat} (hn : n = xs.length) : rowQ (E.cR xs) E.s 0 n (fun i j => E.cf (xs.getD i E.z) j) := by
 subst hn
 intro i hi j hj
 rw [Nat.zero_add]
 exact E.cR_get xs hi hj
theorem Elem.rowQ_part (E : Elem α) (xs : List α) (off len : Nat) (h : off + len ≤ xs.length) : rowQ (E.cR xs) E.s off len (fun i j => E.cf (((xs.drop off).take len).getD i E.z) j) := by
 intro i hi j hj
 rw [E.cR_get xs (by omega) hj]
 have : ((xs.drop off).take len).getD i E.z = xs.getD (off + i) E.z := by
  simp [List.getElem?_take, hi, List.getElem?_drop]
 show _ = some (AV.pv (E.cf (((xs.drop off).take len).getD i E.z) j))
 rw [this]
def nilV (T : Tab) (l : Lf) : Option (Nat × Nat × AV) :=
 match l.k, l.e with
 | .code (.region _ ops false) :: _, .normal => match ops.toList with
  | [⟨some d1, .move x, _, _, a1, none⟩, ⟨some d2, .binOp .eql t (.tmp d3) (.const (.slice none _ _)) _, _, _, _, none⟩] => match T t, a1.toList with
   | some { under := .slice _, .. }, [] => bif Nat.beq d1 d3 && Nat.blt d1 l.σ.n && Nat.blt d2 l.σ.n then some (d1, d2, l.σ.ev x) else none
   | _, _ => none
  | _ => none
 | _, _ => none
theorem nil_ok {Q : Exit → AS → Prop} {l : Lf} {d1 d2 s n : Nat} {c : Nat → Nat → PV} (hT : TabOk P T) (hv : nilV T l = some (d1, d2, .pv (.ro s n c)))
  (hk : ∀ b : Bool, (b = true → n = 0) → VS P T Q l.tail .normal ((l.σ.put (some d1) (.pv (.ro s n c))).put (some d2) (.bool b))) : V P T Q l := by
 obtain ⟨σ, k, e⟩ := l
 unfold nilV at hv
 simp only at hv
 split at hv
 ·rename_i id ops r
  split at hv
  ·rename_i d1' x ty1 p1 a1 d2' t d3 m cp yT ty2 p2 a2 hops
   split at hv
   ·rename_i e' _ _ _ _ ht ha
    revert hv
    cases hb : Nat.beq d1' d3 && Nat.blt d1' σ.n && Nat.blt d2' σ.n with
    | false => intro hv; cases hv
    | true =>
     intro hv
     simp only [cond_true, Option.some.injEq, Prod.mk.injEq] at hv
     obtain ⟨rfl, rfl, hx⟩ := hv
     simp only [Bool.and_eq_true] at hb
     have h3 := beq_t hb.1.1
     subst h3
     obtain rfl : a1 = #[] := by cases a1; simp_all
     obtain rfl : ops = #[⟨some d1', .move x, ty1, p1, #[], none⟩, ⟨some d2', .binOp .eql t (.tmp d1') (.const (.slice none m cp)) yT, ty2, p2, a2, none⟩] := by cases ops; simp_all
     exact awp_nil hT hx ht rfl (Nat.le_of_ble_eq_true hb.1.2) (Nat.le_of_ble_eq_true hb.2) hk
   ·cases hv
  ·cases hv
 ·cases hv
def FUEL : Nat := 1000000000000000
theorem fuel_gt {n : Nat} (h : n ≤ 140737488355328) : n < FUEL := by unfold FUEL; omega
end Go.Ab
set_option linter.unusedVariables false
set_option linter.unusedSimpArgs false
namespace Go.Ab
open Go.RowKit
variable {P : Program} {T : Tab} {α : Type}
theorem brV_ {c : Bool} {x y : Option α} {r : α} {G : Prop} (h : cond c x y = some r) (h1 : c = true → x = some r → G) (h2 : c = false → y = some r → G) : G := by
 cases c
 ·exact h2 rfl h
 ·exact h1 rfl h
def mkV (l : Lf) : Option Nat :=
 match hardV l with
 | some (d, o) => match o.op with
  | .makeMap _ none => some d
  | _ => none
 | none => none
theorem mk_ok {Q : Exit → AS → Prop} {l : Lf} {d : Nat} (hv : mkV l = some d) (hf : l.σ.seen (fid (some d) 0) = false)
  (hk : VS P T Q l.rest .normal (l.σ.eff (some d) (.map (fid (some d) 0)) [(fid (some d) 0, .map [] [])] [])) : V P T Q l := by
 unfold mkV at hv
 split at hv
 ·rename_i d' o hh
  split at hv
  ·rename_i t hop
   cases hv
   refine hard_ok (T := T) hh (e := ⟨True, .map (fid (some d) 0), [(fid (some d) 0, .map [] [])], []⟩) ?_ trivial (.inr ⟨hf, trivial⟩) hk
   unfold effOf; simp only [hop]
  ·cases hv
 ·cases hv
def muV (T : Tab) (l : Lf) : Option (Nat × IntKind × IntKind × Int × AV) :=
 match storeV l with
 | some o => match o.op with
  | .mapUpdate t m k x => match T t with
   | some { under := .map kt _, .. } => match T kt with
    | some { under := .int ik, .. } => match l.σ.bev m, l.σ.bev k with
     | .map id, .pv (.raw (.int kk kv)) => some (id, ik, kk, kv, l.σ.bev x)
     | _, _ => none
    | _ => none
   | _ => none
  | .insert t m k x => match T t with
   | some { under := .map kt _, .. } => match T kt with
    | some { under := .int ik, .. } => match l.σ.bev m, l.σ.bev k with
     | .map id, .pv (.raw (.int kk kv)) => some (id, ik, kk, kv, l.σ.bev x)
     | _, _ => none
    | _ => none
   | _ => none
  | _ => none
 | none => none
theorem mu_ok {Q : Exit → AS → Prop} {l : Lf} {id : Nat} {ik kk : IntKind} {kv : Int} {x : AV} {ks ks' : List Value} {xs xs' : List AV} (hv : muV T l = some (id, ik, kk, kv, x)) (hid : l.σ.heap id = some (.map ks xs)) (hks : keysOk (.int ik) (.int kk kv) ks) (h1 : x.one = true)
  (hp : mapPut (.int kk kv) x ks xs = (ks', xs')) (hk : VS P T Q l.rest .normal (l.σ.eff none (.raw undef) [(id, .map ks' xs')] [])) : V P T Q l := by
 unfold muV at hv
 split at hv
 ·rename_i o hh
  have fin : ∀ {e : Eff}, effOf T l.σ.bev l.σ.heap none o.op = e → e = ⟨keysOk (.int ik) (.int kk kv) ks ∧ x.one = true, .raw undef, [(id, .map (mapPut (.int kk kv) x ks xs).1 (mapPut (.int kk kv) x ks xs).2)], []⟩ → V P T Q l := by
   intro e he hee
   subst hee
   refine store_ok (T := T) hh he ⟨hks, h1⟩ ?_
   rw [hp]
   exact hk
  split at hv
  ·rename_i t m k y hop
   split at hv
   ·rename_i kt et _ _ _ _ ht
    split at hv
    ·rename_i ik' _ _ _ _ hkt
     split at hv
     ·rename_i id' kk' kv' hm hkk
      cases hv
      refine fin rfl ?_
      unfold effOf; simp only [hop, ht, hkt, hm, hkk, hid]
     ·cases hv
    ·cases hv
   ·cases hv
  ·rename_i t m k y hop
   split at hv
   ·rename_i kt et _ _ _ _ ht
    split at hv
    ·rename_i ik' _ _ _ _ hkt
     split at hv
     ·rename_i id' kk' kv' hm hkk
      cases hv
      refine fin rfl ?_
      unfold effOf; simp only [hop, ht, hkt, hm, hkk, hid]
     ·cases hv
    ·cases hv
   ·cases hv
  ·cases hv
 ·cases hv
def lkV (T : Tab) (l : Lf) : Option (Nat × Nat × IntKind × IntKind × Int × AV × Bool) :=
 match hardV l with
 | some (d, o) => match o.op with
  | .lookup t m k ck => match T t with
   | some { under := .map kt et, .. } => match T kt, T et with
    | some { under := .int ik, .. }, some ti => match l.σ.bev m, l.σ.bev k with
     | .map id, .pv (.raw (.int kk kv)) => some (d, id, ik, kk, kv, zeroAV ti.zero, ck)
     | _, _ => none
    | _, _ => none
   | _ => none
  | _ => none
 | none => none
theorem lk_ok {Q : Exit → AS → Prop} {l : Lf} {d id : Nat} {ik kk : IntKind} {kv : Int} {z : AV} {ck : Bool} {ks : List Value} {xs : List AV} {r : Option AV} (hv : lkV T l = some (d, id, ik, kk, kv, z, ck)) (hid : l.σ.heap id = some (.map ks xs)) (hks : keysOk (.int ik) (.int kk kv) ks)
  (hg : mapGet (.int kk kv) ks xs = r) (hk : VS P T Q l.rest .normal (l.σ.eff (some d) (bif ck then .tup [r.getD z, .bool r.isSome] else r.getD z) [] [])) : V P T Q l := by
 subst hg
 unfold lkV at hv
 split at hv
 ·rename_i d' o hh
  split at hv
  ·rename_i t m k ck' hop
   split at hv
   ·rename_i kt et _ _ _ _ ht
    split at hv
    ·rename_i ik' _ _ _ _ ti hkt het
     split at hv
     ·rename_i id' kk' kv' hm hkk
      cases hv
      refine hard_ok (T := T) hh (e := .of (keysOk (.int ik) (.int kk kv) ks, bif ck then .tup [(match mapGet (.int kk kv) ks xs with | some x => x | none => zeroAV ti.zero), .bool (mapGet (.int kk kv) ks xs).isSome] else (match mapGet (.int kk kv) ks xs with | some x => x | none => zeroAV ti.zero))) ?_ hks (.inr trivial) ?_
      ·unfold effOf; simp only [hop, ht, hkt, het, hm, hkk, hid]; rfl
      ·have e : (match mapGet (.int kk kv) ks xs with | some x => x | none => zeroAV ti.zero) = (mapGet (.int kk kv) ks xs).getD (zeroAV ti.zero) := by cases mapGet (.int kk kv) ks xs <;> rfl
       show VS P T Q l.rest .normal (l.σ.eff (some d) _ [] [])
       simp only [e]
       exact hk
     ·cases hv
    ·cases hv
   ·cases hv
  ·cases hv
 ·cases hv
def mget (k : Int) : List (Int × α) → Option α
 | [] => none
 | p :: r => bif k == p.1 then some p.2 else mget k r
def mput (k : Int) (v : α) : List (Int × α) → List (Int × α)
 | [] => [(k, v)]
 | p :: r => bif k == p.1 then (p.1, v) :: r else p :: mput k v r
def mK (m : List (Int × α)) : List Value := m.map fun p => .int .i64 p.1
def Elem.mX (E : Elem α) (m : List (Int × α)) : List AV := m.map fun p => .pv (E.cf p.2 0)
theorem mK_ok (m : List (Int × α)) (kv : Int) : keysOk (.int .i64) (.int .i64 kv) (mK m) := by
 refine ⟨rfl, fun e he => ?_⟩
 obtain ⟨p, _, rfl⟩ := List.mem_map.1 he
 simp [Instr.sameNow, keyEq]
theorem mapGet_m (E : Elem α) (k : Int) : ∀ m : List (Int × α), mapGet (.int .i64 k) (mK m) (E.mX m) = (mget k m).map fun v => .pv (E.cf v 0)
 | [] => rfl
 | p :: r => by
  have ih := mapGet_m E k r
  simp only [mK, Elem.mX, List.map_cons, mapGet, mget, keyEq] at ih ⊢
  cases k == p.1 with
  | true => rfl
  | false => exact ih
theorem mapPut_m (E : Elem α) (k : Int) (v : α) : ∀ m : List (Int × α), mapPut (.int .i64 k) (.pv (E.cf v 0)) (mK m) (E.mX m) = (mK (mput k v m), E.mX (mput k v m))
 | [] => rfl
 | p :: r => by
  have ih := mapPut_m E k v r
  simp only [mK, Elem.mX, List.map_cons, mapPut, mput, keyEq] at ih ⊢
  cases k == p.1 with
  | true => rfl
  | false => simp only [cond_false, ih, List.map_cons]
theorem Elem.mX_pv (E : Elem α) (m : List (Int × α)) : AllPv (E.mX m) := by
 intro c hc
 obtain ⟨p, _, rfl⟩ := List.mem_map.1 hc
 exact ⟨_, rfl⟩
theorem mset_map (E : Elem α) (f : Nat → Nat) (i : Nat) (m : List (Int × α)) (r : List Blk) : mset f i (.map (mK m) (E.mX m) :: r) = (f i, .map (mK m) (E.mX m)) :: mset f (i + 1) r := by
 show (f i, Blk.map (mK m) (AV.renL f (E.mX m))) :: _ = _
 rw [renL_pv f (E.mX_pv m)]
theorem up_map (E : Elem α) (k : Nat) (m : List (Int × α)) : Blk.up k (.map (mK m) (E.mX m)) = .map (mK m) (E.mX m) := by
 have : ∀ cs : List AV, AllPv cs → AV.upL k cs = cs := by
  intro cs
  induction cs with
  | nil => intro _; rfl
  | cons c cs ih =>
   intro h
   obtain ⟨p, rfl⟩ := h c (by simp)
   simp only [AV.upL, AV.up]
   rw [ih fun d hd => h d (by simp [hd])]
 show Blk.map (mK m) (AV.upL k (E.mX m)) = _
 rw [this _ (E.mX_pv m)]
theorem lkm_ok {Q : Exit → AS → Prop} {l : Lf} {d id : Nat} {kv : Int} {z : AV} (E : Elem α) {m : List (Int × α)} (v : AV) (hv : lkV T l = some (d, id, .i64, .i64, kv, z, false)) (hid : l.σ.heap id = some (.map (mK m) (E.mX m)))
  (hz : z = .pv (E.cf E.z 0)) (he : .pv (E.cf ((mget kv m).getD E.z) 0) = v) (hk : VS P T Q l.rest .normal (l.σ.eff (some d) v [] [])) : V P T Q l := by
 subst he
 refine lk_ok hv hid (mK_ok m kv) (mapGet_m E kv m) ?_
 have : ((mget kv m).map fun v => AV.pv (E.cf v 0)).getD z = .pv (E.cf ((mget kv m).getD E.z) 0) := by
  rw [hz]; cases mget kv m <;> rfl
 simp only [cond_false, this]
 exact hk
def NilEq : List AV → List AV → Prop
 | [], [] => True
 | x :: xs, y :: ys => (x = y ∨ (x = .pv (.raw (.slice none 0 0)) ∧ ∃ s c, y = .pv (.ro s 0 c))) ∧ NilEq xs ys
 | _, _ => False
theorem NilEq.get {ρ : Nat → Option Nat} {D F : Nat → Prop} {H : Heap} {p : PV} : ∀ {cs ds : List AV} {k : Nat}, NilEq cs ds → ds[k]? = some (.pv p) → ∃ x, cs[k]? = some x ∧ Wk ρ D F H x (.pv p)
 | [], [], k, _, h => by simp at h
 | [], _ :: _, _, hn, _ => hn.elim
 | _ :: _, [], _, hn, _ => hn.elim
 | x :: xs, y :: ys, 0, hn, h => by
  simp only [List.getElem?_cons_zero, Option.some.injEq] at h
  subst h
  refine ⟨x, rfl, ?_⟩
  rcases hn.1 with rfl | ⟨rfl, s, c, hy⟩
  ·exact .pv _
  ·rw [hy]; exact .nil s c
 | x :: xs, y :: ys, k + 1, hn, h => by
  simp only [List.getElem?_cons_succ] at h ⊢
  exact hn.2.get h
end Go.Ab
set_option linter.unusedVariables false
set_option linter.unusedSimpArgs false
namespace Go.Ab
open Go.RowKit Go.Lib
variable {P : Program} {T : Tab} {α : Type}
theorem PCalls.data {f : FuncId} {args : List AV} {al : Bool} {res v : AV} {hb : List Blk} {ps : List Prop} (h : PCalls P f args al res hb) (ha : argsE (hbHeap hb) [res] [v] = some ps) (hps : allP ps) : PCalls P f args al v [] := by
 have hwk := (args1_sound (argsE_ok ha hps)).1
 refine ⟨h.1, fun R w vs hv hR hgo => (h.2 R w vs hv hR hgo).mono ?_⟩
 rintro ex w' ⟨u, ι', rfl, hbel, hB, hr, hnew, hinj, hlt⟩
 refine ⟨u, fun _ => none, rfl, hbel, fun i b hb => by simp at hb, ?_, fun i b g c hb => by simp at hb, fun i j b b' g c c' hb => by simp at hb, fun i x hx => by cases hx⟩
 refine wk_sound (H := hbHeap hb) (ι := ι') hB (fun k hk => ?_) (fun _ _ _ hd => hd.elim) (fun _ hd => hd.elim) (fun i b g c _ hb hi => ?_) hwk u hr
 ·rcases hk with hk | ⟨h1, h2, _⟩
  ·exact .inl hk
  ·exact .inr ⟨h1, h2, fun i b c hb => by simp at hb⟩
 ·refine .inr ⟨hnew i b g c hb hi, ?_, fun i b c hb => by simp at hb⟩
  have := hB i b hb
  cases b with
  | box cells =>
   obtain ⟨g', k, cur, e, hi', hh, _⟩ := this
   rw [hi] at hi'
   cases hi'
   exact (Array.getElem?_eq_some_iff.1 hh).1
  | row e s cells =>
   obtain ⟨n, _, _, _, hrow⟩ := this
   rcases hrow with ⟨hi', _⟩ | ⟨g', cap, base, cur, hi', hh, _⟩
   ·rw [hi] at hi'; cases hi'
   ·rw [hi] at hi'
    cases hi'
    exact (Array.getElem?_eq_some_iff.1 hh).1
  | map ks xs =>
   obtain ⟨g', c', es, ck, hi', hh, _⟩ := this
   rw [hi] at hi'
   cases hi'
   exact (Array.getElem?_eq_some_iff.1 hh).1
theorem raw_pcalls {f : FuncId} (hf : FnOk P f) {xs : List Value} {v : Value} {al : Bool} (h : ∀ w : World, GOk P w → Calls P f xs.toArray w fun ex w' => ex = .returned v ∧ w' = w) :
  PCalls P f (xs.map fun v => .pv (.raw v)) al (.pv (.raw v)) [] := by
 refine ⟨hf, fun R w vs hv hR hgo => ?_⟩
 have hrest : vs = xs := by
  have key : ∀ (rest us : List Value), RelL (fun _ => none) R w (rest.map fun v => .pv (.raw v)) us → us = rest := by
   intro rest
   induction rest with
   | nil =>
    intro us h
    cases us with
    | nil => rfl
    | cons _ _ => simp [RelL] at h
   | cons r rest ih =>
    intro us h
    cases us with
    | nil => simp [RelL] at h
    | cons v us =>
     simp only [List.map_cons, RelL] at h
     rw [raw_inv h.1, ih us h.2]
  exact key xs vs hv
 subst hrest
 refine (h w hgo).mono ?_
 rintro ex w' ⟨rfl, rfl⟩
 refine ⟨v, fun _ => none, rfl, Below.refl _ _, fun i b hb => by simp at hb, ?_, fun i b g c hb => by simp at hb, fun i j b b' g c c' hb => by simp at hb, fun i x hx => by cases hx⟩
 simp only [RelA, RelP]
def cpL {α : Type} (xs : List α) (off m : Nat) (ys : List α) : List α := xs.take off ++ ys.take m ++ xs.drop (off + m)
@[simp] theorem cpL_length {α : Type} (xs : List α) (off m : Nat) (ys : List α) : (cpL xs off m ys).length = min off xs.length + min m ys.length + (xs.length - (off + m)) := by
 simp [cpL]; omega
end Go.Ab
set_option linter.unusedVariables false
set_option linter.unusedSimpArgs false
set_option linter.unusedSectionVars false
namespace Go.Ab
open Go.RowKit
variable {A : Env}
variable {P : Program} {T : Tab} [OfP A P]
variable {α κ : Type}
structure Key (κ : Type) where
 f : κ → List Int
 n : Nat
 len : ∀ x, (f x).length = n
 inj : ∀ x y, f x = f y → x = y
def kget [DecidableEq κ] (k : κ) : List (κ × α) → Option α
 | [] => none
 | p :: r => bif decide (k = p.1) then some p.2 else kget k r
def kput [DecidableEq κ] (k : κ) (v : α) : List (κ × α) → List (κ × α)
 | [] => [(k, v)]
 | p :: r => bif decide (k = p.1) then (p.1, v) :: r else p :: kput k v r
def Key.v (K : Key κ) (x : κ) : Value := .agg ((K.f x).map (Value.int .i64)).toArray
def Key.K (K : Key κ) (m : List (κ × α)) : List Value := m.map fun p => K.v p.1
def Elem.kX (E : Elem α) (m : List (κ × α)) : List AV := m.map fun p => .pv (E.cf p.2 0)
theorem allI_map : ∀ l : List Int, allI (l.map (Value.int .i64)) = true
 | [] => rfl
 | _ :: l => allI_map l
theorem intsEq_map : ∀ a b : List Int, intsEq (a.map (Value.int .i64)) (b.map (Value.int .i64)) = decide (a = b)
 | [], [] => by simp [intsEq]
 | [], _ :: _ => by simp [intsEq]
 | _ :: _, [] => by simp [intsEq]
 | x :: a, y :: b => by
  simp only [List.map_cons, intsEq, intsEq_map a b, List.cons.injEq]
  by_cases h1 : x = y <;> by_cases h2 : a = b <;> simp [h1, h2]
theorem Key.aggI (K : Key κ) (x : κ) : aggI K.n (K.v x) = true := by
 unfold Key.v Go.Ab.aggI
 simp only [List.size_toArray, List.length_map, K.len, allI_map, Bool.and_true]
 exact Nat.beq_refl _
theorem Key.eq [DecidableEq κ] (K : Key κ) (x y : κ) : keyEq (K.v x) (K.v y) = decide (x = y) := by
 unfold Key.v keyEq
 simp only [intsEq_map]
 by_cases h : x = y
 ·subst h; simp
 ·have : K.f x ≠ K.f y := fun e => h (K.inj _ _ e)
  simp [h, this]
theorem mapGet_k [DecidableEq κ] (K : Key κ) (E : Elem α) (k : κ) : ∀ m : List (κ × α), mapGet (K.v k) (K.K m) (E.kX m) = (kget k m).map fun v => .pv (E.cf v 0)
 | [] => rfl
 | p :: r => by
  have ih := mapGet_k K E k r
  simp only [Key.K, Elem.kX, List.map_cons, mapGet, kget, K.eq] at ih ⊢
  cases decide (k = p.1) with
  | true => rfl
  | false => exact ih
theorem mapPut_k [DecidableEq κ] (K : Key κ) (E : Elem α) (k : κ) (v : α) : ∀ m : List (κ × α), mapPut (K.v k) (.pv (E.cf v 0)) (K.K m) (E.kX m) = (K.K (kput k v m), E.kX (kput k v m))
 | [] => rfl
 | p :: r => by
  have ih := mapPut_k K E k v r
  simp only [Key.K, Elem.kX, List.map_cons, mapPut, kput, K.eq] at ih ⊢
  cases decide (k = p.1) with
  | true => rfl
  | false => simp only [cond_false, ih, List.map_cons]
theorem Elem.kX_pv (E : Elem α) (m : List (κ × α)) : AllPv (E.kX m) := by
 intro c hc
 obtain ⟨p, _, rfl⟩ := List.mem_map.1 hc
 exact ⟨_, rfl⟩
theorem Key.ok (K : Key κ) {fs : Array Field} (hf : flatI T fs.toList 0 = true) (hn : fs.size = K.n) (x : κ) (m : List (κ × α)) : keysOkS T fs (K.v x) (K.K m) := by
 refine ⟨hf, by rw [hn]; exact K.aggI x, fun e he => ?_⟩
 obtain ⟨p, _, rfl⟩ := List.mem_map.1 he
 rw [hn]; exact K.aggI p.1
theorem rawsOf_map : ∀ l : List Int, rawsOf (l.map fun n => .pv (.raw (.int .i64 n))) = some (l.map (Value.int .i64))
 | [] => rfl
 | _ :: l => by simp only [List.map_cons, rawsOf, rawsOf_map l, Option.map_some]
def lkkV (T : Tab) (l : Lf) : Option (Nat × Nat × Nat × List AV × AV × Bool) :=
 match hardV l with
 | some (d, o) => match o.op with
  | .lookup t m k ck => match T t with
   | some { under := .map kt et, .. } => match T kt, T et with
    | some { under := .struct fs, cmp := true, .. }, some ti => match flatI T fs.toList 0, l.σ.bev m, l.σ.bev k with
     | true, .map id, .agg cs => some (d, id, fs.size, cs, zeroAV ti.zero, ck)
     | _, _, _ => none
    | _, _ => none
   | _ => none
  | _ => none
 | none => none
theorem lkk2_ok [DecidableEq κ] {Q : Exit → AS → Prop} {l : Lf} {d id : Nat} {z : AV} (K : Key κ) (E : Elem α) {m : List (κ × α)} (x : κ) (v : AV) (hv : lkkV T l = some (d, id, K.n, (K.f x).map (fun n => .pv (.raw (.int .i64 n))), z, true)) (hid : l.σ.heap id = some (.map (K.K m) (E.kX m)))
  (hz : z = .pv (E.cf E.z 0)) (he : .tup [.pv (E.cf ((kget x m).getD E.z) 0), .bool (kget x m).isSome] = v) (hk : VS P T Q l.rest .normal (l.σ.eff (some d) v [] [])) : V P T Q l := by
 subst he
 unfold lkkV at hv
 split at hv
 ·rename_i d' o hh
  split at hv
  ·rename_i t mm k ck' hop
   split at hv
   ·rename_i kt et _ _ _ _ ht
    split at hv
    ·rename_i fs s b zz ti hkt het
     split at hv
     ·rename_i id' cs hf hm hkk
      simp only [Option.some.injEq, Prod.mk.injEq] at hv
      obtain ⟨rfl, rfl, hn, rfl, rfl, rfl⟩ := hv
      have hg := mapGet_k K E x m
      have hkey : Value.agg ((K.f x).map (Value.int .i64)).toArray = K.v x := rfl
      refine hard_ok (T := T) hh (e := .of (keysOkS T fs (K.v x) (K.K m), .tup [.pv (E.cf ((kget x m).getD E.z) 0), .bool (kget x m).isSome])) ?_ (K.ok hf hn x m) (.inr trivial) hk
      unfold effOf
      simp only [hop, ht, hkt, het, hm, hkk, hid, rawsOf_map, hkey, hg, cond_true]
      rw [hz]
      cases kget x m <;> rfl
     ·cases hv
    ·cases hv
   ·cases hv
  ·cases hv
 ·cases hv
def mukV (T : Tab) (l : Lf) : Option (Nat × Nat × List AV × AV) :=
 match storeV l with
 | some o => match o.op with
  | .mapUpdate t m k x => match T t with
   | some { under := .map kt _, .. } => match T kt with
    | some { under := .struct fs, cmp := true, .. } => match flatI T fs.toList 0, l.σ.bev m, l.σ.bev k with
     | true, .map id, .agg cs => some (id, fs.size, cs, l.σ.bev x)
     | _, _, _ => none
    | _ => none
   | _ => none
  | _ => none
 | none => none
theorem muk_ok [DecidableEq κ] {Q : Exit → AS → Prop} {l : Lf} {id : Nat} (K : Key κ) (E : Elem α) {m : List (κ × α)} (x : κ) (y : α) (hv : mukV T l = some (id, K.n, (K.f x).map (fun n => .pv (.raw (.int .i64 n))), .pv (E.cf y 0))) (hid : l.σ.heap id = some (.map (K.K m) (E.kX m)))
  (h1 : (AV.pv (E.cf y 0)).one = true) (hk : VS P T Q l.rest .normal (l.σ.eff none (.raw undef) [(id, .map (K.K (kput x y m)) (E.kX (kput x y m)))] [])) : V P T Q l := by
 unfold mukV at hv
 split at hv
 ·rename_i o hh
  split at hv
  ·rename_i t mm k xx hop
   split at hv
   ·rename_i kt et _ _ _ _ ht
    split at hv
    ·rename_i fs s b zz hkt
     split at hv
     ·rename_i id' cs hf hm hkk
      simp only [Option.some.injEq, Prod.mk.injEq] at hv
      obtain ⟨rfl, hn, rfl, hxx⟩ := hv
      have hkey : Value.agg ((K.f x).map (Value.int .i64)).toArray = K.v x := rfl
      refine store_ok (T := T) hh (e := ⟨keysOkS T fs (K.v x) (K.K m) ∧ (AV.pv (E.cf y 0)).one = true, .raw undef, [(_, .map (K.K (kput x y m)) (E.kX (kput x y m)))], []⟩) ?_ ⟨K.ok hf hn x m, h1⟩ hk
      unfold effOf
      simp only [hop, ht, hkt, hm, hkk, hid, rawsOf_map, hkey, hxx, mapPut_k]
     ·cases hv
    ·cases hv
   ·cases hv
  ·cases hv
 ·cases hv
end Go.Ab
