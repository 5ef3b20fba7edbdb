import Derived.Test.YtfnmmlcmjmepjaaAbC
set_option linter.unusedVariables false
set_option linter.unusedSimpArgs false
namespace Go.Ab
open Go.RowKit
section
variable {P : Program} {T : Tab} {ι : Emb} {R : Nat → Prop} {w : World}
def RelO (ι : Emb) (R : Nat → Prop) (w : World) : Option AV → Option Value → Prop
  | none, none => True
  | some a, some u => RelA ι R w a u
  | _, _ => False
theorem bound_key : ∀ (d y : Nat) (b : Option AV) (u : Value) (code : BoundsCode), RelO ι R w b (some u) → (boundAV d b).1 → (boundAV d b).2 ≤ y → (Instr.sliceBound u y code).run P w = .ok (boundAV d b).2 w := by
  intro d y b u code hr h1 h2
  match b, hr with
  | some (.pv (.raw v)), hr =>
    simp only [RelO] at hr
    obtain rfl := raw_inv hr
    cases u <;> simp only [boundAV] at h1 h2 ⊢ <;> first
      | exact h1.elim
      | (simp only [Instr.sliceBound, asIntOf, Sem.run_bind, Sem.run_pure, Result.andThen_ok, Sem.run_ite]
         rw [if_pos ⟨h1, by omega⟩])
  | some (.pv (.ro _ _ _)), hr => exact h1.elim
  | some (.ptr _ _), hr => exact h1.elim
  | some (.row _ _ _ _), hr => exact h1.elim
  | some (.roat _ _), hr => exact h1.elim
  | some (.agg _), hr => exact h1.elim
  | some (.tup _), hr => exact h1.elim
  | some (.fn _ _), hr => exact h1.elim
  | some (.gd _ _), hr => exact h1.elim
  | some .junk, hr => exact h1.elim
  | none, hr => exact hr.elim
theorem bounds_sound {sl : Bool} {lo hi : Option AV} {ul uh : Option Value} (hl : RelO ι R w lo ul) (hh : RelO ι R w hi uh) (n len cap : Nat) (hnc : len ≤ cap)
    (h : (boundAV 0 lo).1 ∧ (boundAV len hi).1 ∧ (boundAV 0 lo).2 ≤ (boundAV len hi).2 ∧ (boundAV len hi).2 ≤ len) :
    (Instr.sliceBounds sl len cap ul uh none).run P w = .ok ((boundAV 0 lo).2, (boundAV len hi).2, cap) w := by
  have key := @bound_key P ι R w
  obtain ⟨h1, h2, h3, h4⟩ := h
  unfold Instr.sliceBounds
  cases ul with
  | none =>
    cases lo with
    | some a => exact hl.elim
    | none =>
      cases uh with
      | none =>
        cases hi with
        | some a => exact hh.elim
        | none => simp [boundAV]
      | some u => simp [key len cap hi u _ hh h2 (by omega), boundAV]
  | some u' =>
    cases uh with
    | none =>
      cases hi with
      | some a => exact hh.elim
      | none =>
        have := key 0 len lo u' .sliceB hl h1 (by simpa [boundAV] using h3)
        simp [this, boundAV]
    | some u =>
      have e1 := fun code => key len cap hi u code hh h2 (by omega)
      have e2 := key 0 (boundAV len hi).2 lo u' .sliceB hl h1 h3
      simp [e1, e2]
theorem bounds_sound3 {lo hi : Option AV} {m : AV} {ul uh : Option Value} {um : Value} (hl : RelO ι R w lo ul) (hh : RelO ι R w hi uh) (hm : RelA ι R w m um) (n len cap : Nat) (hnc : len ≤ cap) (hs : hi.isSome = true)
    (h : (boundAV 0 lo).1 ∧ (boundAV len hi).1 ∧ (boundAV 0 (some m)).1 ∧ (boundAV 0 lo).2 ≤ (boundAV len hi).2 ∧ (boundAV len hi).2 ≤ (boundAV 0 (some m)).2 ∧ (boundAV 0 (some m)).2 ≤ len) :
    (Instr.sliceBounds true len cap ul uh (some um)).run P w = .ok ((boundAV 0 lo).2, (boundAV len hi).2, (boundAV 0 (some m)).2) w := by
  have key := @bound_key P ι R w
  obtain ⟨h1, h2, h3, h4, h5, h6⟩ := h
  have e0 := key 0 cap (some m) um .slice3Acap hm h3 (by omega)
  unfold Instr.sliceBounds
  cases hi with
  | none => cases hs
  | some a =>
  cases uh with
  | none => exact hh.elim
  | some u =>
  have e1 := key len (boundAV 0 (some m)).2 (some a) u .slice3B hh h2 h5
  cases ul with
  | none =>
    cases lo with
    | some a => exact hl.elim
    | none => simp [e0, e1, show boundAV 0 none = (True, 0) from rfl]
  | some u' =>
    have e2 := key 0 (boundAV len (some a)).2 lo u' .slice3C hl h1 h4
    simp [e0, e1, e2]
theorem slice_sound (hT : TabOk P T) (t : TypeId) {x : AV} {u : Value} {lo hi mx : Option AV} {ul uh um : Option Value} (hx : RelA ι R w x u) (hl : RelO ι R w lo ul) (hh : RelO ι R w hi uh) (hm : RelO ι R w mx um)
    (h : (sliceAV T t x lo hi mx).1) : ∃ r, (Instr.sliceAt t u ul uh um).run P w = .ok r w ∧ RelA ι R w (sliceAV T t x lo hi mx).2 r := by
  unfold sliceAV at h ⊢
  cases mx with
  | some m =>
    cases um with
    | none => exact hm.elim
    | some um =>
    simp only at h ⊢
    split at h
    · rename_i e _ _ _ _ ht
      split at h
      · rename_i ti s n cell he
        obtain ⟨rfl, hs, h⟩ := h
        simp only [RelA, RelP] at hx
        obtain ⟨a, cap, rfl, hc, hn, hx⟩ := hx
        have hb := bounds_sound3 (P := P) hl hh hm 0 n cap hc hs h
        generalize (boundAV 0 lo).2 = l at *
        generalize (boundAV n hi).2 = hh' at *
        generalize (boundAV 0 (some m)).2 = q at *
        obtain ⟨_, _, _, h3, h4, h5⟩ := h
        refine ⟨.slice (if q = l then a else a.map (·.add (l * ti.size))) (hh' - l) (q - l), ?_, ?_⟩
        · simp [Instr.sliceAt, Instr.slice, hT.run_under ht, hb, hT.run_size he]
        · simp only [RelA, RelP]
          refine ⟨_, _, rfl, by omega, by omega, fun h0 => ?_⟩
          obtain ⟨g, o, rfl, hg, hx⟩ := hx (by omega)
          rw [if_neg (by omega)]
          refine ⟨g, o + l * ti.size, by simp [add_none], hg, fun i hi j hj => ?_⟩
          have := hx (l + i) (by omega) j hj
          rw [show o + l * ti.size + i * ti.size + j = o + (l + i) * ti.size + j by rw [Nat.add_mul]; omega]
          exact this
      · exact h.elim
    · exact h.elim
  | none =>
  cases um with
  | some m => exact hm.elim
  | none =>
  simp only at h ⊢
  split at h
  · rename_i e _ _ _ _ ht
    split at h
    · rename_i ti s n cell he
      obtain ⟨rfl, h⟩ := h
      simp only [RelA, RelP] at hx
      obtain ⟨a, cap, rfl, hc, hn, hx⟩ := hx
      have hb := bounds_sound (P := P) (sl := true) hl hh 0 n cap hc h
      generalize (boundAV 0 lo).2 = l at *
      generalize (boundAV n hi).2 = hh' at *
      obtain ⟨_, _, h3, h4⟩ := h
      refine ⟨.slice (if cap = l then a else a.map (·.add (l * ti.size))) (hh' - l) (cap - l), ?_, ?_⟩
      · simp [Instr.sliceAt, Instr.slice, hT.run_under ht, hb, hT.run_size he]
      · simp only [RelA, RelP]
        refine ⟨_, _, rfl, by omega, by omega, fun h0 => ?_⟩
        obtain ⟨g, o, rfl, hg, hx⟩ := hx (by omega)
        rw [if_neg (by omega)]
        refine ⟨g, o + l * ti.size, by simp [add_none], hg, fun i hi j hj => ?_⟩
        have := hx (l + i) (by omega) j hj
        rw [show o + l * ti.size + i * ti.size + j = o + (l + i) * ti.size + j by rw [Nat.add_mul]; omega]
        exact this
    · rename_i ti id s off len he
      obtain ⟨rfl, h⟩ := h
      simp only [RelA] at hx
      rcases hx with ⟨hid, rfl, rfl, rfl⟩ | ⟨g, c, a, hid, rfl, hlc, h1⟩
      · have hb := bounds_sound (P := P) (sl := true) hl hh 0 0 0 (Nat.le_refl _) h
        generalize (boundAV 0 lo).2 = l at *
        generalize (boundAV 0 hi).2 = hh' at *
        obtain ⟨_, _, h3, h4⟩ := h
        obtain rfl : hh' = 0 := by omega
        obtain rfl : l = 0 := by omega
        refine ⟨.slice none 0 0, ?_, ?_⟩
        · simp [Instr.sliceAt, Instr.slice, hT.run_under ht, hb, hT.run_size he]
        · simp only [RelA]
          exact .inl ⟨hid, by simp, by simp, by simp⟩
      · have hb := bounds_sound (P := P) (sl := true) hl hh 0 len (c.cap - off) (by omega) h
        generalize (boundAV 0 lo).2 = l at *
        generalize (boundAV len hi).2 = hh' at *
        obtain ⟨_, _, h3, h4⟩ := h
        refine ⟨.slice (if c.cap - off = l then a else a.map (·.add (l * ti.size))) (hh' - l) (c.cap - off - l), ?_, ?_⟩
        · simp [Instr.sliceAt, Instr.slice, hT.run_under ht, hb, hT.run_size he]
        · simp only [RelA]
          refine .inr ⟨g, c, _, hid, by rw [show c.cap - off - l = c.cap - (off + l) by omega], by omega, fun h5 => ?_⟩
          obtain rfl := h1 (by omega)
          rw [if_neg (by omega)]
          simp [add_none, Nat.add_mul, Nat.add_right_comm]
    · exact h.elim
  · rename_i _ _ _ _ ht
    split at h
    · rename_i str
      obtain rfl := raw_inv hx
      have hb := bounds_sound (P := P) (sl := false) hl hh 0 str.size str.size (Nat.le_refl _) h
      refine ⟨.string (str.extract (boundAV 0 lo).2 (boundAV str.size hi).2), ?_, by simp only [RelA, RelP]⟩
      simp [Instr.sliceAt, Instr.slice, hT.run_under ht, hb]
    · exact h.elim
  · rename_i m e _ _ _ _ ht
    split at h
    · rename_i ti n cell he
      obtain ⟨hm, hm2, h⟩ := h
      simp only [RelA] at hx
      obtain ⟨g, o, rfl, hg, hx⟩ := hx
      have hb := bounds_sound (P := P) (sl := false) hl hh 0 m m (Nat.le_refl _) h
      generalize (boundAV 0 lo).2 = l at *
      generalize (boundAV m hi).2 = hh' at *
      obtain ⟨_, _, h3, h4⟩ := h
      refine ⟨.slice (some (if m = l then ⟨g, o, none⟩ else (⟨g, o, none⟩ : Addr).add (l * ti.size))) (hh' - l) (m - l), ?_, ?_⟩
      · simp [Instr.sliceAt, hT.run_under ht, hb, hT.run_size he, Instr.sureAddr]
      · simp only [RelA, RelP]
        refine ⟨_, _, rfl, by omega, by omega, fun h0 => ?_⟩
        rw [if_neg (by omega)]
        refine ⟨g, o + l * ti.size, by simp [add_none], hg, fun i hi j hj => ?_⟩
        have hlt : (l + i) * ti.size + j < n := by
          have : (l + i + 1) * ti.size ≤ m * ti.size := Nat.mul_le_mul_right _ (by omega)
          rw [Nat.add_mul (l + i) 1] at this
          omega
        have := hx _ hlt
        rw [show o + l * ti.size + i * ti.size + j = o + ((l + i) * ti.size + j) by rw [Nat.add_mul]; omega]
        exact this
    · exact h.elim
  · exact h.elim
theorem RelL.cellsOf {v : AV} {u : Value} (h : RelA ι R w v u) (h1 : (v.one || v.isAgg) = true) : RelL ι R w v.cells u.cells.toList := by
  rcases Bool.or_eq_true_iff.1 h1 with h1 | h1
  · have h2 := RelA.one h h1
    have : v.cells = [v] := by cases v <;> first | rfl | simp [AV.one] at h1
    rw [this]
    have : u.cells = #[u] := by cases u <;> first | rfl | simp [Value.oneCell'] at h2
    rw [this]
    simp only [RelL]
    exact ⟨h, trivial⟩
  · cases v <;> first | (simp [AV.isAgg] at h1; done) | skip
    simp only [RelA] at h
    obtain ⟨us, rfl, h⟩ := h
    exact h
theorem setCells_sound : ∀ (cs : List AV) (us : List Value) (cells : List AV) (vs : Array Value) (off : Nat), RelL ι R w cs us → RelL ι R w cells vs.toList →
    RelL ι R w (setCells cells off cs) ((us.zipIdx).foldl (fun acc (c, j) => acc.setIfInBounds (off + j) c) vs).toList := by
  have key : ∀ (cs : List AV) (us : List Value) (cells : List AV) (vs : Array Value) (off k : Nat), RelL ι R w cs us → RelL ι R w cells vs.toList →
      RelL ι R w (setCells cells (off + k) cs) ((us.zipIdx k).foldl (fun acc (c, j) => acc.setIfInBounds (off + j) c) vs).toList := by
    intro cs
    induction cs with
    | nil =>
      intro us cells vs off k h h'
      cases us with
      | nil => exact h'
      | cons u us => simp [RelL] at h
    | cons c cs ih =>
      intro us cells vs off k h h'
      cases us with
      | nil => simp [RelL] at h
      | cons u us =>
        simp only [RelL] at h
        simp only [setCells, List.zipIdx_cons, List.foldl_cons]
        refine ih us _ _ off (k + 1) h.2 ?_
        simp only [Array.toList_setIfInBounds]
        exact RelL.set _ h' h.1
  intro cs us cells vs off h h'
  exact key cs us cells vs off 0 h h'
theorem setCells_length : ∀ (cs cells : List AV) (off : Nat), (setCells cells off cs).length = cells.length
  | [], cells, off => rfl
  | c :: cs, cells, off => by rw [setCells, setCells_length cs]; simp
theorem fill_sound (place : Nat → Option (Nat × Nat)) : ∀ (ps : List (Nat × AV)) (us : List (Nat × Value)) (cells : List AV) (vs : Array Value), ps.map (·.1) = us.map (·.1) →
    (∀ (i : Nat) (p : Nat × AV) (u : Nat × Value), ps[i]? = some p → us[i]? = some u → RelA ι R w p.2 u.2) → RelL ι R w cells vs.toList → (fillAV place cells ps).1 →
    ∃ r, Instr.fill place vs us = some r ∧ RelL ι R w (fillAV place cells ps).2 r.toList := by
  intro ps
  induction ps with
  | nil =>
    intro us cells vs hm _ h _
    cases us with
    | nil => exact ⟨vs, rfl, h⟩
    | cons u us => simp at hm
  | cons p ps ih =>
    intro us cells vs hm hr h hok
    cases us with
    | nil => simp at hm
    | cons u us =>
      obtain ⟨i, v⟩ := p
      obtain ⟨i', u⟩ := u
      simp only [List.map_cons, List.cons.injEq] at hm
      obtain ⟨rfl, hm⟩ := hm
      have h0 : RelA ι R w v u := hr 0 (i, v) (i, u) (by simp) (by simp)
      simp only [fillAV] at hok ⊢
      simp only [Instr.fill]
      split at hok
      · exact hok.elim
      · rename_i off size hpl
        simp only [hpl] at *
        obtain ⟨hv, h1, h2, h3⟩ := hok
        have hc := RelL.cellsOf h0 hv
        have hl := hc.length
        have hvl := h.length
        simp only [Array.length_toList] at hl hvl
        rw [if_neg (by simp; omega)]
        have hz : (u.cells.zipIdx.foldl (fun cs (x : Value × Nat) => cs.setIfInBounds (off + x.2) x.1) vs).toList = ((u.cells.toList.zipIdx).foldl (fun acc (x : Value × Nat) => acc.setIfInBounds (off + x.2) x.1) vs).toList := by
          rw [← Array.foldl_toList]; simp
        refine ih us _ _ hm (fun k p q hp hq => hr (k + 1) p q (by simpa using hp) (by simpa using hq)) ?_ h3
        show RelL ι R w _ (u.cells.zipIdx.foldl (fun cs (x : Value × Nat) => cs.setIfInBounds (off + x.2) x.1) vs).toList
        rw [hz]
        exact setCells_sound v.cells u.cells.toList cells vs off hc h
theorem rawsRel (l : List Value) : RelL ι R w (l.map AV.raw) l := by
  induction l with
  | nil => simp [RelL]
  | cons a l ih => simp only [List.map_cons, RelL, RelA, RelP]; exact ⟨trivial, ih⟩
end
end Go.Ab

