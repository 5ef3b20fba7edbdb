import Derived.Test.YtfnmmlcmjmepjaaAbB
set_option linter.unusedVariables false
set_option linter.unusedSimpArgs false
namespace Go.Ab
open Go.RowKit
section
variable {P : Program} {T : Tab} {ι : Emb} {R : Nat → Prop} {w : World}
theorem raw_inv {v u : Value} (h : RelA ι R w (.pv (.raw v)) u) : u = v := by simpa only [RelA, RelP] using h
theorem TabOk.under (hT : TabOk P T) {t : TypeId} {i : TI} (h : T t = some i) : P.underlying t = some i.under := (hT t i h).1
theorem TabOk.run_under (hT : TabOk P T) {t : TypeId} {i : TI} (h : T t = some i) : (underlying t).run P w = .ok i.under w := run_underlying (hT.under h) w
theorem TabOk.run_info (hT : TabOk P T) {t : TypeId} {i : TI} (h : T t = some i) : ∃ info, (typeInfo t).run P w = .ok info w ∧ info.size = i.size ∧ info.bytes = i.bytes ∧ info.zero = some i.zero := by
 obtain ⟨_, info, hi, h1, h2, h3, _⟩ := hT t i h
 exact ⟨info, by simp [typeInfo, hi], h1, h2, h3⟩
theorem TabOk.run_size (hT : TabOk P T) {t : TypeId} {i : TI} (h : T t = some i) : (sizeOf t).run P w = .ok i.size w := by
 obtain ⟨info, hi, h1, _⟩ := hT.run_info (w := w) h
 simp [sizeOf, hi, h1]
theorem TabOk.run_zero (hT : TabOk P T) {t : TypeId} {i : TI} (h : T t = some i) : (zeroValue t).run P w = .ok i.zero w := by
 obtain ⟨info, hi, _, _, h1⟩ := hT.run_info (w := w) h
 simp [zeroValue, hi, h1]
theorem add_none (g o n : Nat) : (⟨g, o, none⟩ : Addr).add n = ⟨g, o + n, none⟩ := by
 unfold Addr.add; split <;> simp_all
theorem intBin_run (op : BinOp) (xT : TypeId) (k k' : IntKind) (a b : Int) (hk : (op = .shl ∨ op = .shr) ∨ k = k') (h : (intBin op k a b).1) :
  (binOp op xT (.int k a) (.int k' b)).run P w = .ok (intBin op k a b).2 w := by
 rcases hk with hk | rfl
 ·rcases hk with rfl | rfl <;> simp only [intBin] at h ⊢ <;> simp [binOp, Op.shift, Int.not_lt.2 h]
 ·cases op <;> simp only [intBin] at h ⊢ <;> first
   | (simp [binOp, Op.shift, Int.not_lt.2 h]; done)
   | (simp [binOp, Op.intArith, Op.intDiv, Op.intBits, Op.intCmp, bitsOf, h]; done)
   | (simp [binOp, Op.intArith, Op.intDiv, Op.intBits, Op.intCmp, bitsOf]; done)
   | (simp [binOp, Op.intArith, Op.intDiv, Op.intBits, Op.intCmp, bitsOf]; rfl)
theorem run_equalIn_bool {t : TypeId} (h : P.underlying t = some .bool) (a b : Bool) (d : Nat) : (Op.equalIn (d + 1) t (.bool a) (.bool b)).run P w = .ok (a == b) w := by
 rw [Op.equalIn, Sem.run_bind, run_underlying h w]
 rfl
theorem run_equal_bool {t : TypeId} (h : P.underlying t = some .bool) (a b : Bool) : (Op.equal t (.bool a) (.bool b)).run P w = .ok (a == b) w :=
 run_equalIn_bool h a b 9999
def pval (u : TypeDesc) (us : List Value) : Value := match u with
 | .struct _ | .array _ _ => .agg us.toArray
 | _ => us.headD undef
theorem run_part_cells (hT : TabOk P T) {t : TypeId} {i : TI} (h : T t = some i) {cs : Array Value} {off : Nat} (hb : off + i.size ≤ cs.size) (h1 : (match i.under with | .struct _ | .array _ _ => true | _ => false) = true ∨ i.size = 1) :
  (part t cs off).run P w = .ok (pval i.under ((cs.toList.drop off).take i.size)) w := by
 have hag : (isAgg t).run P w = .ok (match i.under with | .struct _ | .array _ _ => true | _ => false) w := by
  unfold isAgg
  rw [Sem.run_bind, hT.run_under h]
  cases i.under <;> rfl
 have hx : ∀ n, (cs.extract off (off + n)) = ((cs.toList.drop off).take n).toArray := by
  intro n
  apply Array.ext'
  simp [Array.toList_extract, List.extract_eq_take_drop]
 unfold part
 cases hv : (match i.under with | .struct _ | .array _ _ => true | _ => false : Bool) with
 | true =>
  have hp : pval i.under ((cs.toList.drop off).take i.size) = .agg ((cs.toList.drop off).take i.size).toArray := by
   unfold pval
   split at hv <;> first | rfl | cases hv
  simp only [Sem.run_bind, hag, Result.andThen_ok, hv, if_true, hT.run_size h, Sem.run_pure, hx, hp]
 | false =>
  have hs : i.size = 1 := by
   rcases h1 with h1 | h1
   ·rw [hv] at h1; cases h1
   ·exact h1
  have hp : pval i.under ((cs.toList.drop off).take i.size) = ((cs.toList.drop off).take i.size).headD undef := by
   unfold pval
   split at hv <;> first | rfl | cases hv
  have hlt : off < cs.size := by omega
  have hget : cs[off]? = some cs[off] := by simp [hlt]
  have hh : ((cs.toList.drop off).take i.size).headD undef = cs[off] := by
   rw [hs]
   have : cs.toList.drop off = cs[off] :: cs.toList.drop (off + 1) := by
    rw [List.drop_eq_getElem_cons (by simpa using hlt)]; simp
   rw [this]; rfl
  simp only [Sem.run_bind, hag, Result.andThen_ok, hv, Bool.false_eq_true, if_false, hget, Sem.run_pure, hp, hh]
def CmpOk (P : Program) (T : Tab) (ι : Emb) (R : Nat → Prop) (w : World) (d : Nat) (c : TypeId → List AV → List AV → Prop × Bool) : Prop :=
 ∀ (t : TypeId) (ti : TI) (xs ys : List AV) (us vs : List Value), T t = some ti → RelL ι R w xs us → RelL ι R w ys vs → us.length = ti.size → vs.length = ti.size → (c t xs ys).1 →
  ((match ti.under with | .struct _ | .array _ _ => true | _ => false) = true ∨ ti.size = 1) ∧ (Op.equalIn d t (pval ti.under us) (pval ti.under vs)).run P w = .ok (c t xs ys).2 w
theorem sub_len {us : List Value} {off n : Nat} (h : off + n ≤ us.length) : ((us.drop off).take n).length = n := by
 rw [List.length_take, List.length_drop]; omega
theorem eqFs_sound (hT : TabOk P T) {d : Nat} {c : TypeId → List AV → List AV → Prop × Bool} (hc : CmpOk P T ι R w d c) {xs ys : List AV} {us vs : Array Value} (hx : RelL ι R w xs us.toList) (hy : RelL ι R w ys vs.toList) : ∀ (fs : List Field), (eqFs T c xs ys fs).1 → (Op.eqFields d us vs fs).run P w = .ok (eqFs T c xs ys fs).2 w
 | [], _ => rfl
 | f :: fs, h => by
  unfold eqFs at h ⊢
  split at h
  ·rename_i ti ht
   obtain ⟨hn, ⟨hb1, hb2⟩, h1, h⟩ := h
   rw [hx.length] at hb1
   rw [hy.length] at hb2
   obtain ⟨hk, hr⟩ := hc f.type ti _ _ _ _ ht ((hx.drop f.offset).take ti.size) ((hy.drop f.offset).take ti.size) (sub_len hb1) (sub_len hb2) h1
   simp only [ht, Op.eqFields, if_pos hn, Sem.run_bind, run_part_cells hT ht (cs := us) (by simpa using hb1) hk, run_part_cells hT ht (cs := vs) (by simpa using hb2) hk, Result.andThen_ok, hr, Sem.run_ite, eqFs_sound hT hc hx hy fs h]
   generalize (c f.type ((xs.drop f.offset).take ti.size) ((ys.drop f.offset).take ti.size)).2 = b
   cases b <;> simp
  ·exact h.elim
theorem eqAs_sound (hT : TabOk P T) {d : Nat} {c : TypeId → List AV → List AV → Prop × Bool} (hc : CmpOk P T ι R w d c) {e : TypeId} {ti : TI} (he : T e = some ti) {xs ys : List AV} {us vs : Array Value} (hx : RelL ι R w xs us.toList) (hy : RelL ι R w ys vs.toList) : ∀ (is : List Nat), (eqAs (c e) ti.size xs ys is).1 → (Op.eqItems d e ti.size us vs is).run P w = .ok (eqAs (c e) ti.size xs ys is).2 w
 | [], _ => rfl
 | i :: is, h => by
  unfold eqAs at h ⊢
  obtain ⟨⟨hb1, hb2⟩, h1, h⟩ := h
  rw [hx.length] at hb1
  rw [hy.length] at hb2
  obtain ⟨hk, hr⟩ := hc e ti _ _ _ _ he ((hx.drop (i * ti.size)).take ti.size) ((hy.drop (i * ti.size)).take ti.size) (sub_len hb1) (sub_len hb2) h1
  simp only [Op.eqItems, Sem.run_bind, run_part_cells hT he (cs := us) (by simpa using hb1) hk, run_part_cells hT he (cs := vs) (by simpa using hb2) hk, Result.andThen_ok, hr, Sem.run_ite, eqAs_sound hT hc he hx hy is h]
  generalize (c e ((xs.drop (i * ti.size)).take ti.size) ((ys.drop (i * ti.size)).take ti.size)).2 = b
  cases b <;> simp
theorem run_equalIn_string' {t : TypeId} (h : P.underlying t = some .string) (a b : ByteArray) (d : Nat) : (Op.equalIn (d + 1) t (.string a) (.string b)).run P w = .ok (a.toList == b.toList) w := by
 rw [Op.equalIn, Sem.run_bind, run_underlying h w]
 simp only [Result.andThen_ok, Sem.run_pure]
 rw [beq_toListBytes]
theorem one_cell {x : AV} {us : List Value} {n : Nat} (h : RelL ι R w [x] us) (hl : us.length = n) : ∃ u, us = [u] ∧ RelA ι R w x u ∧ n = 1 := by
 cases us with
 | nil => simp [RelL] at h
 | cons u us =>
  simp only [RelL] at h
  cases us with
  | nil => exact ⟨u, rfl, h.1, hl.symm⟩
  | cons v us => simp [RelL] at h
theorem eqC_sound (hT : TabOk P T) : ∀ (n d : Nat), CmpOk P T ι R w (d + n) (eqC T n)
 | 0, d => fun t ti xs ys us vs _ _ _ _ _ h => by unfold eqC at h; exact h.elim
 | n + 1, d => by
  intro t ti xs ys us vs ht hx hy hlu hlv h
  have ih := eqC_sound hT n d
  have hu := hT.under ht
  unfold eqC at h ⊢
  split at h
  ·rename_i ht'
   rw [ht] at ht'
   obtain rfl := Option.some.inj ht'
   split at h
   ·obtain ⟨u, rfl, hru, hs⟩ := one_cell hx hlu
    obtain ⟨v, rfl, hrv, _⟩ := one_cell hy hlv
    rw [raw_inv hru, raw_inv hrv]
    exact ⟨.inr hs.symm.symm, by simp only [ht]; exact run_equalIn_bool' w (d + n) t _ _ hu⟩
   ·exact h.elim
  ·rename_i ht'
   rw [ht] at ht'
   obtain rfl := Option.some.inj ht'
   split at h
   ·obtain ⟨u, rfl, hru, hs⟩ := one_cell hx hlu
    obtain ⟨v, rfl, hrv, _⟩ := one_cell hy hlv
    obtain rfl := h
    rw [raw_inv hru, raw_inv hrv]
    exact ⟨.inr hs, by simp only [ht]; exact run_equalIn_int w (d + n) t _ _ _ _ hu⟩
   ·exact h.elim
  ·rename_i ht'
   rw [ht] at ht'
   obtain rfl := Option.some.inj ht'
   split at h
   ·obtain ⟨u, rfl, hru, hs⟩ := one_cell hx hlu
    obtain ⟨v, rfl, hrv, _⟩ := one_cell hy hlv
    rw [raw_inv hru, raw_inv hrv]
    exact ⟨.inr hs, by simp only [ht]; exact run_equalIn_string' hu _ _ (d + n)⟩
   ·exact h.elim
  ·rename_i fs _ _ _ ht'
   rw [ht] at ht'
   obtain rfl := Option.some.inj ht'
   refine ⟨.inl rfl, ?_⟩
   obtain ⟨_, _, _, _, _, _, hc⟩ := hT t _ ht
   have hf : P.fieldsOf t = fs := by unfold Program.fieldsOf; rw [hu]
   have := run_equalIn_struct (P := P) w (d + n) t us.toArray vs.toArray (by rw [hf]; exact hu) (hc rfl).1
   rw [hf] at this
   simp only [ht]
   exact this.trans (eqFs_sound hT ih (by simpa using hx) (by simpa using hy) _ h)
  ·rename_i m e _ _ _ _ ht'
   rw [ht] at ht'
   obtain rfl := Option.some.inj ht'
   split at h
   ·rename_i te he
    refine ⟨.inl rfl, ?_⟩
    obtain ⟨_, info, hi, h1, _⟩ := hT e te he
    have hc : P.cellsOf e = te.size := by unfold Program.cellsOf; rw [hi]; exact h1
    have := run_equalIn_array (P := P) w (d + n) us.toArray vs.toArray hu hi
    rw [hc] at this
    simp only [ht, he]
    exact this.trans (eqAs_sound hT ih he (by simpa using hx) (by simpa using hy) _ h)
   ·exact h.elim
  ·exact h.elim
theorem equal_struct (hT : TabOk P T) {t : TypeId} {fs : Array Field} {s b : Nat} {z : Value} (ht : T t = some { under := .struct fs, size := s, bytes := b, zero := z, cmp := true }) {xs ys : List AV} {us vs : Array Value} (hx : RelL ι R w xs us.toList) (hy : RelL ι R w ys vs.toList) (h : (eqF T xs ys fs.toList).1) :
  (Op.equalIn 10000 t (.agg us) (.agg vs)).run P w = .ok (eqF T xs ys fs.toList).2 w := by
 obtain ⟨hu, _, _, _, _, _, hc⟩ := hT t _ ht
 have hf : P.fieldsOf t = fs := by unfold Program.fieldsOf; rw [hu]
 have := run_equalIn_struct (P := P) w 9999 t us vs (by rw [hf]; exact hu) (hc rfl).1
 rw [hf] at this
 exact this.trans (eqFs_sound hT (eqC_sound hT 5 9994) hx hy _ h)
theorem equal_array (hT : TabOk P T) {t e : TypeId} {m s b : Nat} {z : Value} {cm : Bool} {ti : TI} (ht : T t = some { under := .array m e, size := s, bytes := b, zero := z, cmp := cm }) (he : T e = some ti) {xs ys : List AV} {us vs : Array Value} (hx : RelL ι R w xs us.toList) (hy : RelL ι R w ys vs.toList) (h : (eqA T e ti.size xs ys (List.range m)).1) :
  (Op.equalIn 10000 t (.agg us) (.agg vs)).run P w = .ok (eqA T e ti.size xs ys (List.range m)).2 w := by
 obtain ⟨_, info, hi, h1, _⟩ := hT e ti he
 have hc : P.cellsOf e = ti.size := by unfold Program.cellsOf; rw [hi]; exact h1
 have := run_equalIn_array (P := P) w 9999 us vs (hT.under ht) hi
 rw [hc] at this
 exact this.trans (eqAs_sound hT (eqC_sound hT 5 9994) he hx hy _ h)
theorem bin_sound (hT : TabOk P T) (op : BinOp) (xT : TypeId) (x y : Operand) {a b : AV} {u u' : Value} (ha : RelA ι R w a u) (hb : RelA ι R w b u') (h : (binAV T op xT a b).1) :
  ∃ r, (do eqGuard op xT x y u u'; binOp op xT u u' : Sem Value).run P w = .ok r w ∧ RelA ι R w (binAV T op xT a b).2 r := by
 have heq : ∀ (u u' : Value), (u ≠ .nilIface) → (∀ cs, u ≠ .agg cs) → (eqGuard op xT x y u u').run P w = .ok () w := by
  intro u u' h1 h2
  cases op <;> cases u <;> first | rfl | exact absurd rfl h1 | exact absurd rfl (h2 _)
 unfold binAV at h ⊢
 split at h
 ·rename_i k a' k' b'
  simp only [raw_inv ha, raw_inv hb]
  refine ⟨(intBin op k a' b').2, ?_, by simp only [RelA, RelP]⟩
  rw [Sem.run_bind, heq _ _ (by intro h; cases h) (by intro cs h; cases h)]
  exact intBin_run op xT k k' a' b' h.1 h.2
 ·rename_i a' b'
  simp only [raw_inv ha, raw_inv hb]
  split at h
  ·rename_i ht
   refine ⟨.bool (a' == b'), ?_, by simp only [RelA, RelP]⟩
   rw [Sem.run_bind, heq _ _ (by intro h; cases h) (by intro cs h; cases h)]
   show (do pure (.bool (← Op.equal xT (.bool a') (.bool b'))) : Sem Value).run P w = _
   simp only [Sem.run_bind, run_equal_bool (hT.under ht), Result.andThen_ok, Sem.run_pure]
  ·rename_i ht
   refine ⟨.bool (a' != b'), ?_, by simp only [RelA, RelP]⟩
   rw [Sem.run_bind, heq _ _ (by intro h; cases h) (by intro cs h; cases h)]
   show (do pure (.bool (!(← Op.equal xT (.bool a') (.bool b')))) : Sem Value).run P w = _
   simp only [Sem.run_bind, run_equal_bool (hT.under ht), Result.andThen_ok, Sem.run_pure]
   rfl
  ·exact h.elim
 ·rename_i a' b'
  simp only [raw_inv ha, raw_inv hb]
  split at h
  ·refine ⟨.bool (a'.toList == b'.toList), ?_, by simp only [RelA, RelP]⟩
   rw [Sem.run_bind, heq _ _ (by intro h; cases h) (by intro cs h; cases h)]
   rfl
  ·refine ⟨.bool (!(a'.toList == b'.toList)), ?_, by simp only [RelA, RelP]⟩
   rw [Sem.run_bind, heq _ _ (by intro h; cases h) (by intro cs h; cases h)]
   rfl
  ·have h : a'.size + b'.size ≤ 9223372036854775807 := h
   refine ⟨.string (a' ++ b'), ?_, by simp only [RelA, RelP]⟩
   rw [Sem.run_bind, heq _ _ (by intro h; cases h) (by intro cs h; cases h)]
   show (Op.stringOp .add a' b').run P w = _
   simp only [Op.stringOp]
   rw [if_neg (by show ¬ ((a'.size + b'.size : Nat) : Int) > IntKind.i64.max; simp only [IntKind.max, IntKind.signed, IntKind.bits]; omega)]
   rfl
  ·exact h.elim
 ·rename_i xs ys
  simp only [RelA] at ha hb
  obtain ⟨us, rfl, ha⟩ := ha
  obtain ⟨vs, rfl, hb⟩ := hb
  split at h
  ·rename_i fs _ _ _ ht
   refine ⟨.bool (eqF T xs ys fs.toList).2, ?_, by simp only [RelA, RelP]⟩
   obtain ⟨_, _, _, _, _, _, hc⟩ := hT _ _ ht
   rw [Sem.run_bind, run_eqGuard_agg w _ xT x y us vs (hc rfl).2, Result.andThen_ok, run_eql_struct, equal_struct hT ht ha hb h]
   rfl
  ·rename_i fs _ _ _ ht
   refine ⟨.bool (!(eqF T xs ys fs.toList).2), ?_, by simp only [RelA, RelP]⟩
   obtain ⟨_, _, _, _, _, _, hc⟩ := hT _ _ ht
   rw [Sem.run_bind, run_eqGuard_agg w _ xT x y us vs (hc rfl).2, Result.andThen_ok, run_neq_struct, equal_struct hT ht ha hb h]
   rfl
  ·rename_i m e _ _ _ ht
   split at h
   ·rename_i ti he
    refine ⟨.bool (eqA T e ti.size xs ys (List.range m)).2, ?_, by simp only [RelA, RelP]⟩
    obtain ⟨_, _, _, _, _, _, hc⟩ := hT _ _ ht
    rw [Sem.run_bind, run_eqGuard_agg w _ xT x y us vs (hc rfl).2, Result.andThen_ok, run_eql_struct, equal_array hT ht he ha hb h]
    rfl
   ·exact h.elim
  ·rename_i m e _ _ _ ht
   split at h
   ·rename_i ti he
    refine ⟨.bool (!(eqA T e ti.size xs ys (List.range m)).2), ?_, by simp only [RelA, RelP]⟩
    obtain ⟨_, _, _, _, _, _, hc⟩ := hT _ _ ht
    rw [Sem.run_bind, run_eqGuard_agg w _ xT x y us vs (hc rfl).2, Result.andThen_ok, run_neq_struct, equal_array hT ht he ha hb h]
    rfl
   ·exact h.elim
  ·exact h.elim
 ·rename_i id off
  simp only [RelA] at ha
  obtain ⟨g, c, hi, rfl⟩ := ha
  obtain rfl := raw_inv hb
  split at h
  ·rename_i ht
   refine ⟨.bool false, ?_, by simp only [RelA, RelP]⟩
   rw [Sem.run_bind, heq _ _ (by intro h; cases h) (by intro cs h; cases h)]
   show (do pure (.bool (← Op.equal xT (.pointer (some ⟨g, off + c.base, none⟩)) (.pointer none))) : Sem Value).run P w = _
   have : (Op.equal xT (.pointer (some ⟨g, off + c.base, none⟩)) (.pointer none)).run P w = .ok false w := by
    show (Op.equalIn (9999 + 1) xT _ _).run P w = _
    unfold Op.equalIn
    simp [run_underlying (hT.under ht)]
   simp only [Sem.run_bind, this, Result.andThen_ok, Sem.run_pure]
  ·rename_i ht
   refine ⟨.bool true, ?_, by simp only [RelA, RelP]⟩
   rw [Sem.run_bind, heq _ _ (by intro h; cases h) (by intro cs h; cases h)]
   show (do pure (.bool (!(← Op.equal xT (.pointer (some ⟨g, off + c.base, none⟩)) (.pointer none)))) : Sem Value).run P w = _
   have : (Op.equal xT (.pointer (some ⟨g, off + c.base, none⟩)) (.pointer none)).run P w = .ok false w := by
    show (Op.equalIn (9999 + 1) xT _ _).run P w = _
    unfold Op.equalIn
    simp [run_underlying (hT.under ht)]
   simp only [Sem.run_bind, this, Result.andThen_ok, Sem.run_pure]
   rfl
  ·exact h.elim
 ·obtain rfl := raw_inv ha
  obtain rfl := raw_inv hb
  have this : ∀ e, P.underlying xT = some (.pointer e) → (Op.equal xT (.pointer none) (.pointer none)).run P w = .ok true w := by
   intro e he
   show (Op.equalIn (9999 + 1) xT _ _).run P w = _
   unfold Op.equalIn
   simp [run_underlying he]
  split at h
  ·rename_i ht
   refine ⟨.bool true, ?_, by simp only [RelA, RelP]⟩
   rw [Sem.run_bind, heq _ _ (by intro h; cases h) (by intro cs h; cases h)]
   show (do pure (.bool (← Op.equal xT (.pointer none) (.pointer none))) : Sem Value).run P w = _
   simp only [Sem.run_bind, this _ (hT.under ht), Result.andThen_ok, Sem.run_pure]
  ·rename_i ht
   refine ⟨.bool false, ?_, by simp only [RelA, RelP]⟩
   rw [Sem.run_bind, heq _ _ (by intro h; cases h) (by intro cs h; cases h)]
   show (do pure (.bool (!(← Op.equal xT (.pointer none) (.pointer none)))) : Sem Value).run P w = _
   simp only [Sem.run_bind, this _ (hT.under ht), Result.andThen_ok, Sem.run_pure]
   rfl
  ·exact h.elim
 ·exact h.elim
theorem un_sound (op : UnOp) {a : AV} {u : Value} (ha : RelA ι R w a u) (h : (unAV op a).1) :
  ∃ r, (Op.unary op u).run P w = .ok r w ∧ RelA ι R w (unAV op a).2 r := by
 unfold unAV at h ⊢
 split at h
 ·simp only [raw_inv ha]
  cases op <;> simp only at h ⊢ <;> first | exact h.elim | exact ⟨_, rfl, by simp only [RelA, RelP]⟩
 ·simp only [raw_inv ha]
  cases op <;> simp only at h ⊢ <;> first | exact h.elim | exact ⟨_, rfl, by simp only [RelA, RelP, bitsOf]⟩
 ·exact h.elim
theorem fieldAddr_sound (hT : TabOk P T) (s : TypeId) (f : Nat) {a : AV} {u : Value} (ha : RelA ι R w a u) (h : (fieldAddrAV T s f a).1) :
  ∃ r, (Instr.fieldAt s u f).run P w = .ok r w ∧ RelA ι R w (fieldAddrAV T s f a).2 r := by
 unfold fieldAddrAV at h ⊢
 split at h
 ·rename_i fs _ _ _ _ hs
  split at h
  ·rename_i fd hf
   split at h
   ·rename_i ti id off ht
    simp only [RelA] at ha
    obtain ⟨g, c, hi, rfl⟩ := ha
    refine ⟨.pointer (some ⟨g, off + c.base + fd.offset, none⟩), ?_, by simp only [RelA]; exact ⟨g, c, hi, by rw [Nat.add_right_comm]⟩⟩
    have h' : ti.size ≠ 0 := h
    simp [Instr.fieldAt, hT.run_under hs, hf, Instr.sureAddr, fieldPlace, hT.run_size ht, h', add_none]
   ·rename_i ti id off ht
    simp only [RelA] at ha
    obtain ⟨g, c, hi, rfl⟩ := ha
    refine ⟨.pointer (some ⟨g, off + c.base + fd.offset, none⟩), ?_, by simp only [RelA]; exact ⟨g, c, hi, by rw [Nat.add_right_comm]⟩⟩
    have h' : ti.size ≠ 0 := h
    simp [Instr.fieldAt, hT.run_under hs, hf, Instr.sureAddr, fieldPlace, hT.run_size ht, h', add_none]
   ·rename_i ti n cell ht
    simp only [RelA] at ha
    obtain ⟨g, o, rfl, hg, hc⟩ := ha
    refine ⟨.pointer (some ⟨g, o + fd.offset, none⟩), ?_, ?_⟩
    ·have h' : ti.size ≠ 0 := h
     simp [Instr.fieldAt, hT.run_under hs, hf, Instr.sureAddr, fieldPlace, hT.run_size ht, h', add_none]
    ·simp only [RelA]
     refine ⟨g, o + fd.offset, rfl, hg, fun j hj => ?_⟩
     obtain ⟨x, hx⟩ := hc (fd.offset + j) (by omega)
     exact ⟨x, by rw [show o + fd.offset + j = o + (fd.offset + j) by omega]; exact hx⟩
   ·exact h.elim
  ·exact h.elim
 ·exact h.elim
theorem indexAddr_sound (hT : TabOk P T) (t : TypeId) {a b : AV} {u u' : Value} (ha : RelA ι R w a u) (hb : RelA ι R w b u') (h : (indexAddrAV T t a b).1) :
  ∃ r, (Instr.indexAt t u u').run P w = .ok r w ∧ RelA ι R w (indexAddrAV T t a b).2 r := by
 unfold indexAddrAV at h ⊢
 split at h
 ·rename_i k i
  obtain rfl := raw_inv hb
  split at h
  ·rename_i e _ _ _ _ ht
   split at h
   ·rename_i ti s n cell he
    obtain ⟨rfl, h0, h1⟩ := h
    simp only [RelA, RelP] at ha
    obtain ⟨a, cap, rfl, hc, hn, ha⟩ := ha
    obtain ⟨g, o, rfl, hg, ha⟩ := ha (by omega)
    refine ⟨.pointer (some ⟨g, o + i.toNat * ti.size, none⟩), ?_, ?_⟩
    ·simp [Instr.indexAt, asIntOf, hT.run_under ht, h0, h1, hT.run_size he, add_none]
    ·simp only [RelA]
     exact ⟨g, _, rfl, hg, fun j hj => ha i.toNat (by omega) j hj⟩
   ·rename_i ti id s off len he
    obtain ⟨rfl, h0, h1⟩ := h
    simp only [RelA] at ha
    rcases ha with ⟨_, _, rfl, _⟩ | ⟨g, c, a, hi, rfl, hl, ha⟩
    ·omega
    ·obtain rfl := ha (by omega)
     refine ⟨.pointer (some ⟨g, off * ti.size + c.base + i.toNat * ti.size, none⟩), ?_, ?_⟩
     ·simp [Instr.indexAt, asIntOf, hT.run_under ht, h0, h1, hT.run_size he, add_none]
     ·simp only [RelA]
      exact ⟨g, c, hi, by rw [Nat.add_mul, Nat.add_right_comm]⟩
   ·exact h.elim
  ·rename_i m e _ _ _ _ ht
   split at h
   ·rename_i ti id off he
    obtain ⟨h0, h1⟩ := h
    simp only [RelA] at ha
    obtain ⟨g, c, hi, rfl⟩ := ha
    refine ⟨.pointer (some ⟨g, off + c.base + i.toNat * ti.size, none⟩), ?_, by simp only [RelA]; exact ⟨g, c, hi, by rw [Nat.add_right_comm]⟩⟩
    simp [Instr.indexAt, asIntOf, hT.run_under ht, h0, h1, hT.run_size he, add_none, Instr.sureAddr]
   ·rename_i ti id off he
    obtain ⟨h0, h1⟩ := h
    simp only [RelA] at ha
    obtain ⟨g, c, hi, rfl⟩ := ha
    refine ⟨.pointer (some ⟨g, off + c.base + i.toNat * ti.size, none⟩), ?_, by simp only [RelA]; exact ⟨g, c, hi, by rw [Nat.add_right_comm]⟩⟩
    simp [Instr.indexAt, asIntOf, hT.run_under ht, h0, h1, hT.run_size he, add_none, Instr.sureAddr]
   ·rename_i ti n cell he
    obtain ⟨h0, h1⟩ := h
    simp only [RelA] at ha
    obtain ⟨g, o, rfl, hg, hc⟩ := ha
    refine ⟨.pointer (some ⟨g, o + i.toNat * ti.size, none⟩), ?_, ?_⟩
    ·simp [Instr.indexAt, asIntOf, hT.run_under ht, h0, h1, hT.run_size he, add_none, Instr.sureAddr]
    ·simp only [RelA]
     refine ⟨g, _, rfl, hg, fun j hj => ?_⟩
     obtain ⟨x, hx⟩ := hc (i.toNat * ti.size + j) (by omega)
     exact ⟨x, by rw [show o + i.toNat * ti.size + j = o + (i.toNat * ti.size + j) by omega]; exact hx⟩
   ·exact h.elim
  ·exact h.elim
 ·exact h.elim
end
end Go.Ab

