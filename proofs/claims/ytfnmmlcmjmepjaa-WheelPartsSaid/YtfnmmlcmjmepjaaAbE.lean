import Derived.Test.YtfnmmlcmjmepjaaAbD
import Derived.Laws.BytesString
set_option linter.unusedVariables false
set_option linter.unusedSimpArgs false
namespace Go.Ab
open Go.RowKit
section
variable {P : Program} {T : Tab} {ι : Emb} {R : Nat → Prop} {w : World}
def sz (T : Tab) (t : TypeId) : Nat := match T t with | some ti => ti.size | none => 0
theorem places_run (hT : TabOk P T) : ∀ (l : List Field), (∀ f ∈ l, T f.type ≠ none) →
  (l.mapM (m := Sem) fun f => do pure (f.offset, ← sizeOf f.type)).run P w = .ok (l.map fun f => (f.offset, sz T f.type)) w := by
 intro l
 induction l with
 | nil => intro _; simp
 | cons f l ih =>
  intro h
  cases hf : T f.type with
  | none => exact absurd hf (h f (by simp))
  | some ti =>
   have h1 : (sizeOf f.type).run P w = .ok ti.size w := hT.run_size hf
   have ih' := ih (fun g hg => h g (by simp [hg]))
   simp only [List.mapM_cons, Sem.run_bind, h1, ih', Result.andThen_ok, Sem.run_pure, List.map_cons]
   have : sz T f.type = ti.size := by simp [sz, hf]
   rw [this]
theorem build_sound (hT : TabOk P T) (t : TypeId) {parts : List (Nat × AV)} {ps : Array (Nat × Value)} (hm : parts.map (·.1) = ps.toList.map (·.1))
  (hr : ∀ (i : Nat) (p : Nat × AV) (u : Nat × Value), parts[i]? = some p → ps.toList[i]? = some u → RelA ι R w p.2 u.2) (h : (buildAV T t parts).1) :
  ∃ r, (Instr.build t ps).run P w = .ok r w ∧ RelA ι R w (buildAV T t parts).2 r := by
 unfold buildAV at h ⊢
 split at h
 ·rename_i fs _ _ z _ ht
  obtain ⟨hf, h⟩ := h
  have hpl := places_run (w := w) hT fs.toList hf
  have hpe : (fun i => ((fs.toList.map fun f => (f.offset, sz T f.type)).toArray)[i]?) = placesAV T fs := by
   funext i
   unfold placesAV
   cases hi : fs[i]? with
   | none => simp [hi]
   | some f =>
    have hmem : f ∈ fs.toList := by
     have := Array.mem_of_getElem? hi
     simpa using this
    cases hft : T f.type with
    | none => exact absurd hft (hf f hmem)
    | some ti => simp [hi, sz, hft]
  obtain ⟨r, hfill, hrel⟩ := fill_sound (ι := ι) (R := R) (w := w) (placesAV T fs) parts ps.toList (zeroAV z).cells z.cells hm hr (by
   cases z <;> first
    | (simp only [zeroAV, AV.cells, Value.cells, RelL, RelA, RelP]; simp; done)
    | (simp only [zeroAV, AV.cells, Value.cells]; exact rawsRel _)) h
  refine ⟨.agg r, ?_, by simp only [RelA]; exact ⟨r, rfl, hrel⟩⟩
  unfold Instr.build
  simp only [Sem.run_bind, hT.run_zero ht, Result.andThen_ok, hT.run_under ht]
  rw [Array.mapM_eq_mapM_toList]
  simp only [Sem.run_map, hpl, Result.andThen_ok]
  rw [hpe, hfill]
  rfl
 ·rename_i m e _ _ z _ ht
  split at h
  ·rename_i ti he
   obtain ⟨r, hfill, hrel⟩ := fill_sound (ι := ι) (R := R) (w := w) (fun i => some (i * ti.size, ti.size)) parts ps.toList (zeroAV z).cells z.cells hm hr (by
    cases z <;> first
     | (simp only [zeroAV, AV.cells, Value.cells, RelL, RelA, RelP]; simp; done)
     | (simp only [zeroAV, AV.cells, Value.cells]; exact rawsRel _)) h
   refine ⟨.agg r, ?_, by simp only [RelA]; exact ⟨r, rfl, hrel⟩⟩
   unfold Instr.build
   simp only [Sem.run_bind, hT.run_zero ht, Result.andThen_ok, hT.run_under ht, hT.run_size he]
   rw [hfill]
   rfl
  ·exact h.elim
 ·exact h.elim
theorem run_isAgg_of (hT : TabOk P T) {t : TypeId} {i : TI} (h : T t = some i) : (isAgg t).run P w = .ok (match i.under with | .struct _ | .array _ _ => true | _ => false) w := by
 unfold isAgg
 rw [Sem.run_bind, hT.run_under h]
 cases i.under <;> rfl
theorem part_sound (hT : TabOk P T) (t : TypeId) {cells : List AV} {cs : Array Value} (off : Nat) (hc : RelL ι R w cells cs.toList) (h : (partAV T t cells off).1) :
  ∃ r, (part t cs off).run P w = .ok r w ∧ RelA ι R w (partAV T t cells off).2 r := by
 have agg : ∀ (i : TI), T t = some i → (match i.under with | .struct _ | .array _ _ => true | _ => false) = true →
   ∃ r, (part t cs off).run P w = .ok r w ∧ RelA ι R w (.agg ((cells.drop off).take i.size)) r := by
  intro i hi hv
  refine ⟨.agg (cs.extract off (off + i.size)), ?_, ?_⟩
  ·unfold part
   simp only [Sem.run_bind, run_isAgg_of hT hi, Result.andThen_ok, hv, if_true, hT.run_size hi, Sem.run_pure]
  ·simp only [RelA]
   refine ⟨_, rfl, ?_⟩
   simp only [Array.toList_extract, List.extract_eq_take_drop]
   rw [show off + i.size - off = i.size by omega]
   exact (hc.drop off).take i.size
 unfold partAV at h ⊢
 split at h
 ·rename_i ht; exact agg _ ht rfl
 ·rename_i ht; exact agg _ ht rfl
 ·rename_i ti h1 h2 ht
  split at h
  ·rename_i c hcx
   obtain ⟨u, hu, hr⟩ := hc.get off c hcx
   refine ⟨u, ?_, hr⟩
   unfold part
   simp only [Sem.run_bind, run_isAgg_of hT ht, Result.andThen_ok]
   have : (match ti.under with | .struct _ | .array _ _ => true | _ => false) = false := by
    obtain ⟨un, a, b, c, d⟩ := ti
    cases un <;> first | rfl | exact (h1 _ _ _ _ _ rfl).elim | exact (h2 _ _ _ _ _ _ rfl).elim
   rw [this]
   have hu' : cs[off]? = some u := by simpa using hu
   simp [hu']
  ·exact h.elim
 ·exact h.elim
theorem field_sound (hT : TabOk P T) (t : TypeId) (f : Nat) {a : AV} {u : Value} (ha : RelA ι R w a u) (h : (fieldAV T t f a).1) :
  ∃ r, (Instr.field t u f).run P w = .ok r w ∧ RelA ι R w (fieldAV T t f a).2 r := by
 unfold fieldAV at h ⊢
 split at h
 ·rename_i xs
  simp only [RelA] at ha
  obtain ⟨us, rfl, ha⟩ := ha
  split at h
  ·rename_i fs _ _ _ _ ht
   split at h
   ·rename_i fd hf
    obtain ⟨r, h1, h2⟩ := part_sound hT fd.type fd.offset ha h
    refine ⟨r, ?_, h2⟩
    simp [Instr.field, hT.run_under ht, hf, asAgg, h1]
   ·exact h.elim
  ·exact h.elim
 ·exact h.elim
theorem index_sound (hT : TabOk P T) (t : TypeId) {a b : AV} {u u' : Value} (ha : RelA ι R w a u) (hb : RelA ι R w b u') (h : (indexAV T t a b).1) :
  ∃ r, (Instr.index t u u').run P w = .ok r w ∧ RelA ι R w (indexAV T t a b).2 r := by
 unfold indexAV at h ⊢
 split at h
 ·rename_i xs k i m e _ _ _ _ ht
  obtain rfl := raw_inv hb
  simp only [RelA] at ha
  obtain ⟨us, rfl, ha⟩ := ha
  split at h
  ·rename_i ti he
   obtain ⟨r, h1, h2⟩ := part_sound hT e (i.toNat * ti.size) ha h.2
   refine ⟨r, ?_, h2⟩
   simp [Instr.index, asIntOf, hT.run_under ht, h.1, hT.run_size he, h1]
  ·exact h.elim
 ·exact h.elim
theorem extract_sound (i : Nat) {a : AV} {u : Value} (ha : RelA ι R w a u) (h : (extractAV i a).1) :
  ∃ r, (Instr.extract u i).run P w = .ok r w ∧ RelA ι R w (extractAV i a).2 r := by
 unfold extractAV at h ⊢
 split at h
 ·rename_i xs
  simp only [RelA] at ha
  obtain ⟨us, rfl, ha⟩ := ha
  split at h
  ·rename_i x hx
   obtain ⟨u, hu, hr⟩ := ha.get i x hx
   have hu' : us[i]? = some u := by simpa using hu
   exact ⟨u, by simp [Instr.extract, hu'], hr⟩
  ·exact h.elim
 ·exact h.elim
theorem len_sound (hT : TabOk P T) (t ty : TypeId) {a : AV} {u : Value} (ha : RelA ι R w a u) (h : (lenAV T t a).1) :
  ∃ r, (Builtin.len_ #[t] ty #[u]).run P w = .ok r w ∧ RelA ι R w (lenAV T t a).2 r := by
 unfold lenAV at h ⊢
 split at h
 ·rename_i e _ _ _ _ ht
  split at h
  ·simp only [RelA, RelP] at ha
   obtain ⟨a, cap, rfl, _⟩ := ha
   exact ⟨_, by simp [Builtin.len_, hT.run_under ht, goInt]; rfl, by simp only [RelA, RelP]⟩
  ·simp only [RelA] at ha
   rcases ha with ⟨_, _, rfl, rfl⟩ | ⟨g, c, a, _, rfl, _⟩ <;>
    exact ⟨_, by simp [Builtin.len_, hT.run_under ht, goInt]; rfl, by simp only [RelA, RelP]; try rfl⟩
  ·obtain rfl := raw_inv ha
   exact ⟨_, by simp [Builtin.len_, hT.run_under ht, goInt]; rfl, by simp only [RelA, RelP]⟩
  ·exact h.elim
 ·rename_i n e _ _ _ _ ht
  exact ⟨_, by simp [Builtin.len_, hT.run_under ht, goInt]; rfl, by simp only [RelA, RelP]⟩
 ·rename_i ht
  split at h
  ·obtain rfl := raw_inv ha
   exact ⟨_, by simp [Builtin.len_, hT.run_under ht, goInt]; rfl, by simp only [RelA, RelP]⟩
  ·exact h.elim
 ·exact h.elim
theorem minmax_sound (mx : Bool) (ts : Array TypeId) (ty : TypeId) {a b : AV} {u u' : Value} (ha : RelA ι R w a u) (hb : RelA ι R w b u') (h : (minmaxAV mx a b).1) :
  ∃ r, (if mx then Builtin.max_ ts ty #[u, u'] else Builtin.min_ ts ty #[u, u']).run P w = .ok r w ∧ RelA ι R w (minmaxAV mx a b).2 r := by
 unfold minmaxAV at h ⊢
 split at h
 ·obtain rfl := raw_inv ha
  obtain rfl := raw_inv hb
  cases mx
  ·exact ⟨_, by simp [Builtin.min_, Builtin.min2]; rfl, by simp only [RelA, RelP]; rfl⟩
  ·exact ⟨_, by simp [Builtin.max_, Builtin.max2]; rfl, by simp only [RelA, RelP]; rfl⟩
 ·exact h.elim
theorem mm3_sound (mx : Bool) (ts : Array TypeId) (ty : TypeId) {a b c : AV} {u u' u'' : Value} (ha : RelA ι R w a u) (hb : RelA ι R w b u') (hc : RelA ι R w c u'') (h : (mm3AV mx a b c).1) :
  ∃ r, (if mx then Builtin.max_ ts ty #[u, u', u''] else Builtin.min_ ts ty #[u, u', u'']).run P w = .ok r w ∧ RelA ι R w (mm3AV mx a b c).2 r := by
 unfold mm3AV at h ⊢
 obtain ⟨h1, h2⟩ := h
 unfold minmaxAV at h1
 split at h1
 ·rename_i k x k' y
  simp only [minmaxAV] at h2 ⊢
  split at h2
  ·rename_i k1 x1 k2 y1 he
   obtain rfl := raw_inv ha
   obtain rfl := raw_inv hb
   obtain rfl := raw_inv hc
   cases he
   cases mx
   ·exact ⟨_, by simp [Builtin.min_, Builtin.min2]; rfl, by simp only [RelA, RelP]; rfl⟩
   ·exact ⟨_, by simp [Builtin.max_, Builtin.max2]; rfl, by simp only [RelA, RelP]; rfl⟩
  ·exact h2.elim
 ·exact h1.elim
theorem conv_sound (hT : TabOk P T) (s d : TypeId) {a : AV} {u : Value} (ha : RelA ι R w a u) (h : (convAV T s d a).1) :
  ∃ r, (convert s d u).run P w = .ok r w ∧ RelA ι R w (convAV T s d a).2 r := by
 unfold convAV at h ⊢
 split at h
 ·rename_i sz n c
  split at h
  ·rename_i e _ _ _ _ _ _ _ _ h1 h2
   split at h
   ·rename_i h3
    obtain ⟨rfl, hb⟩ := h
    simp only [RelA, RelP] at ha
    obtain ⟨ad, cap, rfl, hc, hn, hcell⟩ := ha
    refine ⟨.string (strOf n c), ?_, by simp only [RelA, RelP]⟩
    rw [run_convert_bytes_string w s d e _ n cap (hT.under h1) (hT.under h3) (hT.under h2)]
    rcases Nat.eq_zero_or_pos n with h0 | h0
    ·subst h0
     cases ad with
     | none => rfl
     | some ad => rw [run_bytesToString w ad 0 cap [] (by simp [loadCells, loadCellsFrom])]; rfl
    ·obtain ⟨g, o, rfl, _, hx⟩ := hcell h0
     have hl := run_loadCells_list (P := P) w ⟨g, o, none⟩ ((List.range n).map fun i => Value.int .u8 (byteAt (c i 0))) (by
      intro j v hj
      rw [List.getElem?_map] at hj
      by_cases hjn : j < n
      ·rw [List.getElem?_range hjn] at hj
       simp at hj
       subst hj
       obtain ⟨x, h1, _, h2⟩ := hx j hjn 0 (by omega)
       rw [hb j hjn] at h2
       simp only [RelP] at h2
       subst h2
       rw [add_none]
       simpa using h1
      ·rw [List.getElem?_eq_none (by simpa using hjn)] at hj
       cases hj)
     have hlen : ((List.range n).map fun i => Value.int .u8 (byteAt (c i 0))).length = n := by simp
     rw [hlen] at hl
     rw [run_bytesToString w _ n cap ((List.range n).map fun i => byteAt (c i 0)) (by rw [hl]; congr 2; simp)]
     rfl
   ·exact h.elim
  ·exact h.elim
 ·obtain rfl := raw_inv ha
  split at h
  ·rename_i h1 h2
   refine ⟨_, ?_, by simp only [RelA, RelP]; rfl⟩
   simp [convert, hT.run_under h1, hT.run_under h2, Conv.intToInt]
  ·exact h.elim
 ·exact h.elim
end
end Go.Ab

