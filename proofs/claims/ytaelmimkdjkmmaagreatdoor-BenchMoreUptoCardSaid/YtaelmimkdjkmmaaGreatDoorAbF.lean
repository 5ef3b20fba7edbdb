import Derived.Test.YtaelmimkdjkmmaaGreatDoorAbD
import Derived.Laws.BytesString
set_option linter.unusedVariables false
set_option linter.unusedSimpArgs false
namespace Go.Ab
open Go.RowKit
section
variable {P : Program} {T : Tab} {ι : Emb} {R : Nat → Prop} {w : World}
def sz (T : Tab) (t : TypeId) : Nat := match T t with | some ti => ti.size | none => 0
theorem places_run (hT : TabOk P T) : ∀ (l : List Field), (∀ f ∈ l, T f.type ≠ none) →
  (l.mapM (m := Sem) fun f => do pure (f.offset, ← sizeOf f.type)).run P w = .ok (l.map fun f => (f.offset, sz T f.type)) w := by
 intro l
 induction l with
 | nil => intro _; simp
 | cons f l ih =>
  intro h
  cases hf : T f.type with
  | none => exact absurd hf (h f (by simp))
  | some ti =>
   have h1 : (sizeOf f.type).run P w = .ok ti.size w := hT.run_size hf
   have ih' := ih (fun g hg => h g (by simp [hg]))
   simp only [List.mapM_cons, Sem.run_bind, h1, ih', Result.andThen_ok, Sem.run_pure, List.map_cons]
   have : sz T f.type = ti.size := by simp [sz, hf]
   rw [this]
theorem build_sound (hT : TabOk P T) (t : TypeId) {parts : List (Nat × AV)} {ps : Array (Nat × Value)} (hm : parts.map (·.1) = ps.toList.map (·.1))
  (hr : ∀ (i : Nat) (p : Nat × AV) (u : Nat × Value), parts[i]? = some p → ps.toList[i]? = some u → RelA ι R w p.2 u.2) (h : (buildAV T t parts).1) :
  ∃ r, (Instr.build t ps).run P w = .ok r w ∧ RelA ι R w (buildAV T t parts).2 r := by
 unfold buildAV at h ⊢
 split at h
 ·rename_i fs _ _ z _ ht
  obtain ⟨hf, h⟩ := h
  have hpl := places_run (w := w) hT fs.toList hf
  have hpe : (fun i => ((fs.toList.map fun f => (f.offset, sz T f.type)).toArray)[i]?) = placesAV T fs := by
   funext i
   unfold placesAV
   cases hi : fs[i]? with
   | none => simp [hi]
   | some f =>
    have hmem : f ∈ fs.toList := by
     have := Array.mem_of_getElem? hi
     simpa using this
    cases hft : T f.type with
    | none => exact absurd hft (hf f hmem)
    | some ti => simp [hi, sz, hft]
  obtain ⟨r, hfill, hrel⟩ := fill_sound (ι := ι) (R := R) (w := w) (placesAV T fs) parts ps.toList (zeroAV z).cells z.cells hm hr (by
   cases z <;> first
    | (simp only [zeroAV, AV.cells, Value.cells, RelL, RelA, RelP]; simp; done)
    | (simp only [zeroAV, AV.cells, Value.cells]; exact rawsRel _)) h
  refine ⟨.agg r, ?_, by simp only [RelA]; exact ⟨r, rfl, hrel⟩⟩
  unfold Instr.build
  simp only [Sem.run_bind, hT.run_zero ht, Result.andThen_ok, hT.run_under ht]
  rw [Array.mapM_eq_mapM_toList]
  simp only [Sem.run_map, hpl, Result.andThen_ok]
  rw [hpe, hfill]
  rfl
 ·rename_i m e _ _ z _ ht
  split at h
  ·rename_i ti he
   obtain ⟨r, hfill, hrel⟩ := fill_sound (ι := ι) (R := R) (w := w) (fun i => some (i * ti.size, ti.size)) parts ps.toList (zeroAV z).cells z.cells hm hr (by
    cases z <;> first
     | (simp only [zeroAV, AV.cells, Value.cells, RelL, RelA, RelP]; simp; done)
     | (simp only [zeroAV, AV.cells, Value.cells]; exact rawsRel _)) h
   refine ⟨.agg r, ?_, by simp only [RelA]; exact ⟨r, rfl, hrel⟩⟩
   unfold Instr.build
   simp only [Sem.run_bind, hT.run_zero ht, Result.andThen_ok, hT.run_under ht, hT.run_size he]
   rw [hfill]
   rfl
  ·exact h.elim
 ·exact h.elim
theorem run_isAgg_of (hT : TabOk P T) {t : TypeId} {i : TI} (h : T t = some i) : (isAgg t).run P w = .ok (match i.under with | .struct _ | .array _ _ => true | _ => false) w := by
 unfold isAgg
 rw [Sem.run_bind, hT.run_under h]
 cases i.under <;> rfl
theorem part_sound (hT : TabOk P T) (t : TypeId) {cells : List AV} {cs : Array Value} (off : Nat) (hc : RelL ι R w cells cs.toList) (h : (partAV T t cells off).1) :
  ∃ r, (part t cs off).run P w = .ok r w ∧ RelA ι R w (partAV T t cells off).2 r := by
 have agg : ∀ (i : TI), T t = some i → (match i.under with | .struct _ | .array _ _ => true | _ => false) = true →
   ∃ r, (part t cs off).run P w = .ok r w ∧ RelA ι R w (.agg ((cells.drop off).take i.size)) r := by
  intro i hi hv
  refine ⟨.agg (cs.extract off (off + i.size)), ?_, ?_⟩
  ·unfold part
   simp only [Sem.run_bind, run_isAgg_of hT hi, Result.andThen_ok, hv, if_true, hT.run_size hi, Sem.run_pure]
  ·simp only [RelA]
   refine ⟨_, rfl, ?_⟩
   simp only [Array.toList_extract, List.extract_eq_take_drop]
   rw [show off + i.size - off = i.size by omega]
   exact (hc.drop off).take i.size
 unfold partAV at h ⊢
 split at h
 ·rename_i ht; exact agg _ ht rfl
 ·rename_i ht; exact agg _ ht rfl
 ·rename_i ti h1 h2 ht
  split at h
  ·rename_i c hcx
   obtain ⟨u, hu, hr⟩ := hc.get off c hcx
   refine ⟨u, ?_, hr⟩
   unfold part
   simp only [Sem.run_bind, run_isAgg_of hT ht, Result.andThen_ok]
   have : (match ti.under with | .struct _ | .array _ _ => true | _ => false) = false := by
    obtain ⟨un, a, b, c, d⟩ := ti
    cases un <;> first | rfl | exact (h1 _ _ _ _ _ rfl).elim | exact (h2 _ _ _ _ _ _ rfl).elim
   rw [this]
   have hu' : cs[off]? = some u := by simpa using hu
   simp [hu']
  ·exact h.elim
 ·exact h.elim
theorem field_sound (hT : TabOk P T) (t : TypeId) (f : Nat) {a : AV} {u : Value} (ha : RelA ι R w a u) (h : (fieldAV T t f a).1) :
  ∃ r, (Instr.field t u f).run P w = .ok r w ∧ RelA ι R w (fieldAV T t f a).2 r := by
 unfold fieldAV at h ⊢
 split at h
 ·rename_i xs
  simp only [RelA] at ha
  obtain ⟨us, rfl, ha⟩ := ha
  split at h
  ·rename_i fs _ _ _ _ ht
   split at h
   ·rename_i fd hf
    obtain ⟨r, h1, h2⟩ := part_sound hT fd.type fd.offset ha h
    refine ⟨r, ?_, h2⟩
    simp [Instr.field, hT.run_under ht, hf, asAgg, h1]
   ·exact h.elim
  ·exact h.elim
 ·exact h.elim
theorem index_sound (hT : TabOk P T) (t : TypeId) {a b : AV} {u u' : Value} (ha : RelA ι R w a u) (hb : RelA ι R w b u') (h : (indexAV T t a b).1) :
  ∃ r, (Instr.index t u u').run P w = .ok r w ∧ RelA ι R w (indexAV T t a b).2 r := by
 unfold indexAV at h ⊢
 split at h
 ·rename_i xs k i m e _ _ _ _ ht
  obtain rfl := raw_inv hb
  simp only [RelA] at ha
  obtain ⟨us, rfl, ha⟩ := ha
  split at h
  ·rename_i ti he
   obtain ⟨r, h1, h2⟩ := part_sound hT e (i.toNat * ti.size) ha h.2
   refine ⟨r, ?_, h2⟩
   simp [Instr.index, asIntOf, hT.run_under ht, h.1, hT.run_size he, h1]
  ·exact h.elim
 ·exact h.elim
theorem extract_sound (i : Nat) {a : AV} {u : Value} (ha : RelA ι R w a u) (h : (extractAV i a).1) :
  ∃ r, (Instr.extract u i).run P w = .ok r w ∧ RelA ι R w (extractAV i a).2 r := by
 unfold extractAV at h ⊢
 split at h
 ·rename_i xs
  simp only [RelA] at ha
  obtain ⟨us, rfl, ha⟩ := ha
  split at h
  ·rename_i x hx
   obtain ⟨u, hu, hr⟩ := ha.get i x hx
   have hu' : us[i]? = some u := by simpa using hu
   exact ⟨u, by simp [Instr.extract, hu'], hr⟩
  ·exact h.elim
 ·exact h.elim
theorem len_sound (hT : TabOk P T) (t ty : TypeId) {a : AV} {u : Value} (ha : RelA ι R w a u) (h : (lenAV T t a).1) :
  ∃ r, (Builtin.len_ #[t] ty #[u]).run P w = .ok r w ∧ RelA ι R w (lenAV T t a).2 r := by
 unfold lenAV at h ⊢
 split at h
 ·rename_i e _ _ _ _ ht
  split at h
  ·simp only [RelA, RelP] at ha
   obtain ⟨a, cap, rfl, _⟩ := ha
   exact ⟨_, by simp [Builtin.len_, hT.run_under ht, goInt]; rfl, by simp only [RelA, RelP]⟩
  ·simp only [RelA] at ha
   rcases ha with ⟨_, _, rfl, rfl⟩ | ⟨g, c, a, _, rfl, _⟩ <;>
    exact ⟨_, by simp [Builtin.len_, hT.run_under ht, goInt]; rfl, by simp only [RelA, RelP]; try rfl⟩
  ·obtain rfl := raw_inv ha
   exact ⟨_, by simp [Builtin.len_, hT.run_under ht, goInt]; rfl, by simp only [RelA, RelP]⟩
  ·exact h.elim
 ·rename_i n e _ _ _ _ ht
  exact ⟨_, by simp [Builtin.len_, hT.run_under ht, goInt]; rfl, by simp only [RelA, RelP]⟩
 ·rename_i ht
  split at h
  ·obtain rfl := raw_inv ha
   exact ⟨_, by simp [Builtin.len_, hT.run_under ht, goInt]; rfl, by simp only [RelA, RelP]⟩
  ·exact h.elim
 ·exact h.elim
theorem minmax_sound (mx : Bool) (ts : Array TypeId) (ty : TypeId) {a b : AV} {u u' : Value} (ha : RelA ι R w a u) (hb : RelA ι R w b u') (h : (minmaxAV mx a b).1) :
  ∃ r, (if mx then Builtin.max_ ts ty #[u, u'] else Builtin.min_ ts ty #[u, u']).run P w = .ok r w ∧ RelA ι R w (minmaxAV mx a b).2 r := by
 unfold minmaxAV at h ⊢
 split at h
 ·obtain rfl := raw_inv ha
  obtain rfl := raw_inv hb
  cases mx
  ·exact ⟨_, by simp [Builtin.min_, Builtin.min2]; rfl, by simp only [RelA, RelP]; rfl⟩
  ·exact ⟨_, by simp [Builtin.max_, Builtin.max2]; rfl, by simp only [RelA, RelP]; rfl⟩
 ·exact h.elim
theorem mm3_sound (mx : Bool) (ts : Array TypeId) (ty : TypeId) {a b c : AV} {u u' u'' : Value} (ha : RelA ι R w a u) (hb : RelA ι R w b u') (hc : RelA ι R w c u'') (h : (mm3AV mx a b c).1) :
  ∃ r, (if mx then Builtin.max_ ts ty #[u, u', u''] else Builtin.min_ ts ty #[u, u', u'']).run P w = .ok r w ∧ RelA ι R w (mm3AV mx a b c).2 r := by
 unfold mm3AV at h ⊢
 obtain ⟨h1, h2⟩ := h
 unfold minmaxAV at h1
 split at h1
 ·rename_i k x k' y
  simp only [minmaxAV] at h2 ⊢
  split at h2
  ·rename_i k1 x1 k2 y1 he
   obtain rfl := raw_inv ha
   obtain rfl := raw_inv hb
   obtain rfl := raw_inv hc
   cases he
   cases mx
   ·exact ⟨_, by simp [Builtin.min_, Builtin.min2]; rfl, by simp only [RelA, RelP]; rfl⟩
   ·exact ⟨_, by simp [Builtin.max_, Builtin.max2]; rfl, by simp only [RelA, RelP]; rfl⟩
  ·exact h2.elim
 ·exact h1.elim
theorem conv_sound (hT : TabOk P T) (s d : TypeId) {a : AV} {u : Value} (ha : RelA ι R w a u) (h : (convAV T s d a).1) :
  ∃ r, (convert s d u).run P w = .ok r w ∧ RelA ι R w (convAV T s d a).2 r := by
 unfold convAV at h ⊢
 split at h
 ·rename_i sz n c
  split at h
  ·rename_i e _ _ _ _ _ _ _ _ h1 h2
   split at h
   ·rename_i h3
    obtain ⟨rfl, hb⟩ := h
    simp only [RelA, RelP] at ha
    obtain ⟨ad, cap, rfl, hc, hn, hcell⟩ := ha
    refine ⟨.string (strOf n c), ?_, by simp only [RelA, RelP]⟩
    rw [run_convert_bytes_string w s d e _ n cap (hT.under h1) (hT.under h3) (hT.under h2)]
    rcases Nat.eq_zero_or_pos n with h0 | h0
    ·subst h0
     cases ad with
     | none => rfl
     | some ad => rw [run_bytesToString w ad 0 cap [] (by simp [loadCells, loadCellsFrom])]; rfl
    ·obtain ⟨g, o, rfl, _, hx⟩ := hcell h0
     have hl := run_loadCells_list (P := P) w ⟨g, o, none⟩ ((List.range n).map fun i => Value.int .u8 (byteAt (c i 0))) (by
      intro j v hj
      rw [List.getElem?_map] at hj
      by_cases hjn : j < n
      ·rw [List.getElem?_range hjn] at hj
       simp at hj
       subst hj
       obtain ⟨x, h1, _, h2⟩ := hx j hjn 0 (by omega)
       rw [hb j hjn] at h2
       simp only [RelP] at h2
       subst h2
       rw [add_none]
       simpa using h1
      ·rw [List.getElem?_eq_none (by simpa using hjn)] at hj
       cases hj)
     have hlen : ((List.range n).map fun i => Value.int .u8 (byteAt (c i 0))).length = n := by simp
     rw [hlen] at hl
     rw [run_bytesToString w _ n cap ((List.range n).map fun i => byteAt (c i 0)) (by rw [hl]; congr 2; simp)]
     rfl
   ·exact h.elim
  ·exact h.elim
 ·obtain rfl := raw_inv ha
  split at h
  ·rename_i h1 h2
   refine ⟨_, ?_, by simp only [RelA, RelP]; rfl⟩
   simp [convert, hT.run_under h1, hT.run_under h2, Conv.intToInt]
  ·exact h.elim
 ·exact h.elim
end
end Go.Ab
set_option linter.unusedVariables false
set_option linter.unusedSimpArgs false
namespace Go.Ab
open Go.RowKit
section
variable {P : Program} {T : Tab} {ι : Emb} {R : Nat → Prop} {w : World}
theorem RelL.map {ev : Operand → AV} {ρ : Operand → Value} : ∀ (l : List Operand), (∀ x ∈ l, RelA ι R w (ev x) (ρ x)) → RelL ι R w (l.map ev) (l.map ρ)
 | [], _ => by simp [RelL]
 | x :: l, h => by
  simp only [List.map_cons, RelL]
  exact ⟨h x (by simp), RelL.map l fun y hy => h y (by simp [hy])⟩
theorem relO_map {ev : Operand → AV} {ρ : Operand → Value} (o : Option Operand) (h : ∀ x, o = some x → RelA ι R w (ev x) (ρ x)) : RelO ι R w (o.map ev) (o.map ρ) := by
 cases o with
 | none => trivial
 | some x => exact h x rfl
theorem pure_sound (hT : TabOk P T) (o : Oper) (ev : Operand → AV) (ρ : Operand → Value) (out : Out) (h : pureOut T ev o.op = some out) (hok : out.1)
  (hr : ∀ x ∈ o.op.operands.toList, RelA ι R w (ev x) (ρ x)) : ∃ u, (execOp ρ o).run P w = .ok (.value u) w ∧ RelA ι R w out.2 u := by
 have fin : ∀ (s : Sem Value) (r : Value), s.run P w = .ok r w → (do pure (Next.value (← s)) : Sem Next).run P w = .ok (.value r) w := by
  intro s r hs; simp [hs]
 unfold pureOut at h
 split at h
 ·rename_i x hx
  obtain rfl := Option.some.inj h
  exact ⟨ρ x, by simp only [execOp, hx]; rfl, hr x (by simp [hx, Op.operands])⟩
 ·rename_i x hx
  obtain rfl := Option.some.inj h
  exact ⟨ρ x, by simp only [execOp, hx]; rfl, hr x (by simp [hx, Op.operands])⟩
 ·rename_i op xT x y yT hx
  obtain rfl := Option.some.inj h
  obtain ⟨r, h1, h2⟩ := bin_sound (w := w) hT op xT x y (hr x (by simp [hx, Op.operands])) (hr y (by simp [hx, Op.operands])) hok
  exact ⟨r, by simp only [execOp, hx]; exact fin _ _ h1, h2⟩
 ·rename_i op xT x hx
  obtain rfl := Option.some.inj h
  obtain ⟨r, h1, h2⟩ := un_sound (P := P) (w := w) op (hr x (by simp [hx, Op.operands])) hok
  exact ⟨r, by simp only [execOp, hx]; exact fin _ _ h1, h2⟩
 ·rename_i s x f hx
  obtain rfl := Option.some.inj h
  obtain ⟨r, h1, h2⟩ := fieldAddr_sound (w := w) hT s f (hr x (by simp [hx, Op.operands])) hok
  exact ⟨r, by simp only [execOp, hx]; exact fin _ _ h1, h2⟩
 ·rename_i t x ix hx
  obtain rfl := Option.some.inj h
  obtain ⟨r, h1, h2⟩ := indexAddr_sound (w := w) hT t (hr x (by simp [hx, Op.operands])) (hr ix (by simp [hx, Op.operands])) hok
  exact ⟨r, by simp only [execOp, hx]; exact fin _ _ h1, h2⟩
 ·rename_i t x lo hi mx hx
  obtain rfl := Option.some.inj h
  obtain ⟨r, h1, h2⟩ := slice_sound (w := w) hT t (hr x (by simp [hx, Op.operands])) (relO_map lo fun y hy => hr y (by simp [hx, Op.operands, hy])) (relO_map hi fun y hy => hr y (by simp [hx, Op.operands, hy])) (relO_map mx fun y hy => hr y (by simp [hx, Op.operands, hy])) hok
  exact ⟨r, by simp only [execOp, hx]; exact fin _ _ h1, h2⟩
 ·rename_i t parts hx
  obtain rfl := Option.some.inj h
  obtain ⟨r, h1, h2⟩ := build_sound (w := w) (ι := ι) (R := R) hT t (parts := parts.toList.map fun p => (p.1, ev p.2)) (ps := parts.map fun p => (p.1, ρ p.2)) (by simp) (by
   intro i p u hp hu
   simp only [Array.toList_map, List.getElem?_map] at hp hu
   cases hi : parts.toList[i]? with
   | none => simp [hi] at hp
   | some q =>
    simp only [hi, Option.map_some, Option.some.injEq] at hp hu
    subst hp; subst hu
    exact hr q.2 (by
     have := List.mem_of_getElem? hi
     simp only [hx, Op.operands, List.mem_map]
     exact ⟨q, this, rfl⟩)) hok
  exact ⟨r, by simp only [execOp, hx]; exact fin _ _ h1, h2⟩
 ·rename_i t x f hx
  obtain rfl := Option.some.inj h
  obtain ⟨r, h1, h2⟩ := field_sound (w := w) hT t f (hr x (by simp [hx, Op.operands])) hok
  exact ⟨r, by simp only [execOp, hx]; exact fin _ _ h1, h2⟩
 ·rename_i t x ix hx
  obtain rfl := Option.some.inj h
  obtain ⟨r, h1, h2⟩ := index_sound (w := w) hT t (hr x (by simp [hx, Op.operands])) (hr ix (by simp [hx, Op.operands])) hok
  exact ⟨r, by simp only [execOp, hx]; exact fin _ _ h1, h2⟩
 ·rename_i x i hx
  obtain rfl := Option.some.inj h
  obtain ⟨r, h1, h2⟩ := extract_sound (P := P) (w := w) i (hr x (by simp [hx, Op.operands])) hok
  exact ⟨r, by simp only [execOp, hx]; exact fin _ _ h1, h2⟩
 ·rename_i s d x hx
  obtain rfl := Option.some.inj h
  obtain ⟨r, h1, h2⟩ := conv_sound (w := w) hT s d (hr x (by simp [hx, Op.operands])) hok
  exact ⟨r, by simp only [execOp, hx]; exact fin _ _ h1, h2⟩
 ·rename_i f first caps hx
  obtain rfl := Option.some.inj h
  have hf : first = #[] := hok
  refine ⟨.func (.func f) #[] (caps.map ρ), by subst hf; simp [execOp, hx, Instr.makeFunc], ?_⟩
  simp only [RelA]
  refine ⟨_, rfl, ?_⟩
  simp only [Array.toList_map]
  exact RelL.map _ fun x hx' => hr x (by simp [hx, Op.operands]; exact .inr (by simpa using hx'))
 ·rename_i x hx
  have h0 := hr x (by simp [hx, Op.operands])
  split at h
  ·rename_i id off he
   obtain rfl := Option.some.inj h
   rw [he] at h0
   have h0' := h0
   simp only [RelA] at h0
   obtain ⟨g, c, hi, hu⟩ := h0
   exact ⟨ρ x, by simp only [execOp, hx, hu]; rfl, h0'⟩
  ·rename_i id off he
   obtain rfl := Option.some.inj h
   rw [he] at h0
   have h0' := h0
   simp only [RelA] at h0
   obtain ⟨g, c, hi, hu⟩ := h0
   exact ⟨ρ x, by simp only [execOp, hx, hu]; rfl, h0'⟩
  ·rename_i n c he
   obtain rfl := Option.some.inj h
   rw [he] at h0
   have h0' := h0
   simp only [RelA] at h0
   obtain ⟨g, o, hu, _⟩ := h0
   exact ⟨ρ x, by simp only [execOp, hx, hu]; rfl, h0'⟩
  ·obtain rfl := Option.some.inj h
   exact hok.elim
 ·rename_i args ts hx
  split at h
  ·rename_i x t ha ht
   obtain rfl := Option.some.inj h
   obtain rfl : args = #[x] := by cases args; simp_all
   obtain rfl : ts = #[t] := by cases ts; simp_all
   obtain ⟨r, h1, h2⟩ := len_sound (w := w) hT t o.type (hr x (by simp [hx, Op.operands, Call.operands])) hok
   refine ⟨r, ?_, h2⟩
   have e : execOp ρ o = (do pure (Next.value (← Builtin.len_ #[t] o.type #[ρ x]))) := by
    simp only [execOp, hx, resolve, List.map_toArray, List.map_cons, List.map_nil]; rfl
   rw [e]
   exact fin _ _ h1
  ·obtain rfl := Option.some.inj h
   exact hok.elim
 ·rename_i args _ hx
  split at h
  ·rename_i x y ha
   obtain rfl := Option.some.inj h
   obtain rfl : args = #[x, y] := by cases args; simp_all
   obtain ⟨r, h1, h2⟩ := minmax_sound (P := P) (w := w) true #[] o.type (hr x (by simp [hx, Op.operands, Call.operands])) (hr y (by simp [hx, Op.operands, Call.operands])) hok
   refine ⟨r, ?_, h2⟩
   have e : execOp ρ o = (do pure (Next.value (← Builtin.max_ #[] o.type #[ρ x, ρ y]))) := by
    simp only [execOp, hx, resolve, List.map_toArray, List.map_cons, List.map_nil]; rfl
   rw [e]
   exact fin _ _ h1
  ·rename_i x y z ha
   obtain rfl := Option.some.inj h
   obtain rfl : args = #[x, y, z] := by cases args; simp_all
   obtain ⟨r, h1, h2⟩ := mm3_sound (P := P) (w := w) true #[] o.type (hr x (by simp [hx, Op.operands, Call.operands])) (hr y (by simp [hx, Op.operands, Call.operands])) (hr z (by simp [hx, Op.operands, Call.operands])) hok
   refine ⟨r, ?_, h2⟩
   have e : execOp ρ o = (do pure (Next.value (← Builtin.max_ #[] o.type #[ρ x, ρ y, ρ z]))) := by
    simp only [execOp, hx, resolve, List.map_toArray, List.map_cons, List.map_nil]; rfl
   rw [e]
   exact fin _ _ h1
  ·obtain rfl := Option.some.inj h
   exact hok.elim
 ·rename_i args _ hx
  split at h
  ·rename_i x y ha
   obtain rfl := Option.some.inj h
   obtain rfl : args = #[x, y] := by cases args; simp_all
   obtain ⟨r, h1, h2⟩ := minmax_sound (P := P) (w := w) false #[] o.type (hr x (by simp [hx, Op.operands, Call.operands])) (hr y (by simp [hx, Op.operands, Call.operands])) hok
   refine ⟨r, ?_, h2⟩
   have e : execOp ρ o = (do pure (Next.value (← Builtin.min_ #[] o.type #[ρ x, ρ y]))) := by
    simp only [execOp, hx, resolve, List.map_toArray, List.map_cons, List.map_nil]; rfl
   rw [e]
   exact fin _ _ h1
  ·rename_i x y z ha
   obtain rfl := Option.some.inj h
   obtain rfl : args = #[x, y, z] := by cases args; simp_all
   obtain ⟨r, h1, h2⟩ := mm3_sound (P := P) (w := w) false #[] o.type (hr x (by simp [hx, Op.operands, Call.operands])) (hr y (by simp [hx, Op.operands, Call.operands])) (hr z (by simp [hx, Op.operands, Call.operands])) hok
   refine ⟨r, ?_, h2⟩
   have e : execOp ρ o = (do pure (Next.value (← Builtin.min_ #[] o.type #[ρ x, ρ y, ρ z]))) := by
    simp only [execOp, hx, resolve, List.map_toArray, List.map_cons, List.map_nil]; rfl
   rw [e]
   exact fin _ _ h1
  ·obtain rfl := Option.some.inj h
   exact hok.elim
 ·cases h
def firstPV (f : Nat → PV) : Nat → Nat → List AV
 | _, 0 => []
 | s, n + 1 => .pv (f s) :: firstPV f (s + 1) n
def Blk.cells : Blk → List AV
 | .box cs => cs
 | .row _ _ cs => cs
 | .map _ _ => []
def Blk.all : Blk → List AV
 | .box cs => cs
 | .row _ _ cs => cs
 | .map _ xs => xs
def isAggT : TypeDesc → Bool
 | .struct _ | .array _ _ => true
 | _ => false
def AV.unpix : AV → AV
 | .pix id off => .ptr id off
 | x => x
theorem RelA.unpix {ι : Emb} {R : Nat → Prop} {w : World} {x : AV} {u : Value} (h : RelA ι R w x u) : RelA ι R w x.unpix u := by
 cases x <;> first | exact h | (simp only [RelA, AV.unpix] at h ⊢; exact h)
def loadAV (T : Tab) (H : Heap) (t : TypeId) (x : AV) : Out :=
 match T t with
 | none => Out.bad
 | some ti => match x.unpix with
  | .ptr id off => match H id with
   | some b => match isAggT ti.under with
    | true => (off + ti.size ≤ b.cells.length, .agg ((b.cells.drop off).take ti.size))
    | false => match b.cells[off]? with | some c => (True, c) | none => Out.bad
   | none => Out.bad
  | .roat n cell => match isAggT ti.under with
   | true => (ti.size ≤ n, .agg (firstPV cell 0 ti.size))
   | false => (0 < n, .pv (cell 0))
  | _ => Out.bad
theorem RelB.cells {id : Nat} {b : Blk} (h : RelB ι R w id b) (hne : b.cells ≠ []) : ∃ g c, ι id = some (some (g, c)) ∧ ∃ us, RelL ι R w b.cells us ∧ Ones us ∧ ∀ j u, us[j]? = some u → w.cell? ⟨g, j + c.base, none⟩ = some u := by
 cases b with
 | box cs =>
  obtain ⟨g, c, cur, e, hi, hh, hr, h1⟩ := h
  refine ⟨g, _, hi, cur.toList, hr, h1, fun j u hu => ?_⟩
  have hu' : cur[j]? = some u := by simpa using hu
  simp [World.cell?, hh, hu']
 | row e s cs =>
  obtain ⟨n, hl, hs, _, h⟩ := h
  rcases h with ⟨_, rfl⟩ | ⟨g, cap, base, cur, hi, hh, hz, hc, _, hr, h1⟩
  ·exact absurd (List.eq_nil_of_length_eq_zero (l := cs) (by simpa using hl)) hne
  ·refine ⟨g, _, hi, _, hr, h1, fun j u hu => ?_⟩
   rw [List.getElem?_take] at hu
   split at hu
   ·rw [List.getElem?_drop] at hu
    have hu' : cur[j + base]? = some u := by rw [Nat.add_comm]; simpa using hu
    simp [World.cell?, hh, hu']
   ·cases hu
 | map ks xs => exact absurd rfl hne
theorem firstPV_length (f : Nat → PV) : ∀ n s, (firstPV f s n).length = n
 | 0, s => rfl
 | n + 1, s => by simp [firstPV, firstPV_length f n]
theorem load_sound (hT : TabOk P T) {H : Heap} (hH : ∀ id b, H id = some b → RelB ι R w id b) (t : TypeId) {x : AV} {u : Value} (hx : RelA ι R w x u) (h : (loadAV T H t x).1) :
  ∃ r, (Instr.loadAt t u).run P w = .ok r w ∧ RelA ι R w (loadAV T H t x).2 r := by
 replace hx := hx.unpix
 unfold loadAV at h ⊢
 generalize x.unpix = x at *
 split at h
 ·exact h.elim
 ·rename_i ti ht
  have hag : (isAgg t).run P w = .ok (isAggT ti.under) w := by
   rw [run_isAgg_of hT ht]; cases ti.under <;> rfl
  split at h
  ·rename_i id off
   simp only [RelA] at hx
   obtain ⟨g, c, hi, rfl⟩ := hx
   split at h
   ·rename_i b hb
    split at h
    ·rename_i hg
     by_cases h0 : b.cells = []
     ·have : ti.size = 0 := by have h' : off + ti.size ≤ b.cells.length := h; simp only [h0, List.length_nil] at h'; omega
      refine ⟨.agg #[], ?_, by simp only [RelA, this]; exact ⟨#[], rfl, by simp [RelL, h0]⟩⟩
      simp [Instr.loadAt, Instr.sureAddr, loadVar, hag, hg, hT.run_size ht, this, loadCells, loadCellsFrom]
     ·obtain ⟨g', c', hi', us, hr, h1, hc⟩ := (hH id b hb).cells h0
      rw [hi] at hi'
      obtain ⟨rfl, rfl⟩ : g = g' ∧ c = c' := by simpa using hi'
      have hlen : off + ti.size ≤ us.length := by rw [← hr.length]; exact h
      refine ⟨.agg ((us.drop off).take ti.size).toArray, ?_, ?_⟩
      ·have hlo := run_loadCells_list (P := P) w ⟨g, off + c.base, none⟩ ((us.drop off).take ti.size) (by
        intro j v hv
        rw [List.getElem?_take] at hv
        split at hv
        ·rw [add_none]; show w.cell? ⟨g, off + c.base + j, none⟩ = _; rw [Nat.add_right_comm]; exact hc _ _ (by simpa using hv)
        ·cases hv)
       have hll : ((us.drop off).take ti.size).length = ti.size := by simp; omega
       rw [hll] at hlo
       simp [Instr.loadAt, Instr.sureAddr, loadVar, hag, hg, hT.run_size ht, hlo]
      ·simp only [RelA]
       exact ⟨_, rfl, (hr.drop off).take _⟩
    ·rename_i hg
     split at h
     ·rename_i cv hcv
      obtain ⟨g', c', hi', us, hr, h1, hc⟩ := (hH id b hb).cells (by intro h0; simp [h0] at hcv)
      rw [hi] at hi'
      obtain ⟨rfl, rfl⟩ : g = g' ∧ c = c' := by simpa using hi'
      obtain ⟨u, hu, hru⟩ := hr.get off cv hcv
      refine ⟨u, ?_, hru⟩
      simp [Instr.loadAt, Instr.sureAddr, loadVar, hag, hg, hc off u hu]
     ·exact h.elim
   ·exact h.elim
  ·rename_i n cell
   simp only [RelA] at hx
   obtain ⟨g, o, rfl, hg, hc⟩ := hx
   split at h
   ·rename_i ha
    have key : ∀ m s, s + m ≤ n → ∃ us : List Value, us.length = m ∧ (∀ j v, us[j]? = some v → w.cell? ⟨g, o + s + j, none⟩ = some v) ∧ RelL ι R w (firstPV cell s m) us := by
     intro m
     induction m with
     | zero => intro s _; exact ⟨[], rfl, by simp, by simp [firstPV, RelL]⟩
     | succ m ih =>
      intro s hs
      obtain ⟨us, hl, h1, h2⟩ := ih (s + 1) (by omega)
      obtain ⟨x, hx, _, hr⟩ := hc s (by omega)
      refine ⟨x :: us, by simp [hl], ?_, by simp only [firstPV, RelL, RelA]; exact ⟨hr, h2⟩⟩
      intro j v hv
      cases j with
      | zero => simp at hv; subst hv; exact hx
      | succ j => have := h1 j v (by simpa using hv); rw [show o + s + (j + 1) = o + (s + 1) + j by omega]; exact this
    obtain ⟨us, hl, h1, h2⟩ := key ti.size 0 (by have h' : ti.size ≤ n := h; omega)
    refine ⟨.agg us.toArray, ?_, by simp only [RelA]; exact ⟨_, rfl, h2⟩⟩
    have hlo := run_loadCells_list (P := P) w ⟨g, o, none⟩ us (by intro j v hv; rw [add_none]; simpa using h1 j v hv)
    rw [hl] at hlo
    simp [Instr.loadAt, Instr.sureAddr, loadVar, hag, ha, hT.run_size ht, hlo]
   ·rename_i ha
    obtain ⟨x, hx, _, hr⟩ := hc 0 h
    refine ⟨x, ?_, by simp only [RelA]; exact hr⟩
    simp at hx
    simp [Instr.loadAt, Instr.sureAddr, loadVar, hag, ha, hx]
  ·exact h.elim
end
end Go.Ab
