import Derived.Test.YtfnmmlcmjmepjaaAbE
set_option linter.unusedVariables false
set_option linter.unusedSimpArgs false
namespace Go.Ab
open Go.RowKit
section
variable {P : Program} {T : Tab} {ι : Emb} {R : Nat → Prop} {w : World}
theorem RelL.map {ev : Operand → AV} {ρ : Operand → Value} : ∀ (l : List Operand), (∀ x ∈ l, RelA ι R w (ev x) (ρ x)) → RelL ι R w (l.map ev) (l.map ρ)
 | [], _ => by simp [RelL]
 | x :: l, h => by
  simp only [List.map_cons, RelL]
  exact ⟨h x (by simp), RelL.map l fun y hy => h y (by simp [hy])⟩
theorem relO_map {ev : Operand → AV} {ρ : Operand → Value} (o : Option Operand) (h : ∀ x, o = some x → RelA ι R w (ev x) (ρ x)) : RelO ι R w (o.map ev) (o.map ρ) := by
 cases o with
 | none => trivial
 | some x => exact h x rfl
theorem pure_sound (hT : TabOk P T) (o : Oper) (ev : Operand → AV) (ρ : Operand → Value) (out : Out) (h : pureOut T ev o.op = some out) (hok : out.1)
  (hr : ∀ x ∈ o.op.operands.toList, RelA ι R w (ev x) (ρ x)) : ∃ u, (execOp ρ o).run P w = .ok (.value u) w ∧ RelA ι R w out.2 u := by
 have fin : ∀ (s : Sem Value) (r : Value), s.run P w = .ok r w → (do pure (Next.value (← s)) : Sem Next).run P w = .ok (.value r) w := by
  intro s r hs; simp [hs]
 unfold pureOut at h
 split at h
 ·rename_i x hx
  obtain rfl := Option.some.inj h
  exact ⟨ρ x, by simp only [execOp, hx]; rfl, hr x (by simp [hx, Op.operands])⟩
 ·rename_i x hx
  obtain rfl := Option.some.inj h
  exact ⟨ρ x, by simp only [execOp, hx]; rfl, hr x (by simp [hx, Op.operands])⟩
 ·rename_i op xT x y yT hx
  obtain rfl := Option.some.inj h
  obtain ⟨r, h1, h2⟩ := bin_sound (w := w) hT op xT x y (hr x (by simp [hx, Op.operands])) (hr y (by simp [hx, Op.operands])) hok
  exact ⟨r, by simp only [execOp, hx]; exact fin _ _ h1, h2⟩
 ·rename_i op xT x hx
  obtain rfl := Option.some.inj h
  obtain ⟨r, h1, h2⟩ := un_sound (P := P) (w := w) op (hr x (by simp [hx, Op.operands])) hok
  exact ⟨r, by simp only [execOp, hx]; exact fin _ _ h1, h2⟩
 ·rename_i s x f hx
  obtain rfl := Option.some.inj h
  obtain ⟨r, h1, h2⟩ := fieldAddr_sound (w := w) hT s f (hr x (by simp [hx, Op.operands])) hok
  exact ⟨r, by simp only [execOp, hx]; exact fin _ _ h1, h2⟩
 ·rename_i t x ix hx
  obtain rfl := Option.some.inj h
  obtain ⟨r, h1, h2⟩ := indexAddr_sound (w := w) hT t (hr x (by simp [hx, Op.operands])) (hr ix (by simp [hx, Op.operands])) hok
  exact ⟨r, by simp only [execOp, hx]; exact fin _ _ h1, h2⟩
 ·rename_i t x lo hi mx hx
  obtain rfl := Option.some.inj h
  obtain ⟨r, h1, h2⟩ := slice_sound (w := w) hT t (hr x (by simp [hx, Op.operands])) (relO_map lo fun y hy => hr y (by simp [hx, Op.operands, hy])) (relO_map hi fun y hy => hr y (by simp [hx, Op.operands, hy])) (relO_map mx fun y hy => hr y (by simp [hx, Op.operands, hy])) hok
  exact ⟨r, by simp only [execOp, hx]; exact fin _ _ h1, h2⟩
 ·rename_i t parts hx
  obtain rfl := Option.some.inj h
  obtain ⟨r, h1, h2⟩ := build_sound (w := w) (ι := ι) (R := R) hT t (parts := parts.toList.map fun p => (p.1, ev p.2)) (ps := parts.map fun p => (p.1, ρ p.2)) (by simp) (by
   intro i p u hp hu
   simp only [Array.toList_map, List.getElem?_map] at hp hu
   cases hi : parts.toList[i]? with
   | none => simp [hi] at hp
   | some q =>
    simp only [hi, Option.map_some, Option.some.injEq] at hp hu
    subst hp; subst hu
    exact hr q.2 (by
     have := List.mem_of_getElem? hi
     simp only [hx, Op.operands, List.mem_map]
     exact ⟨q, this, rfl⟩)) hok
  exact ⟨r, by simp only [execOp, hx]; exact fin _ _ h1, h2⟩
 ·rename_i t x f hx
  obtain rfl := Option.some.inj h
  obtain ⟨r, h1, h2⟩ := field_sound (w := w) hT t f (hr x (by simp [hx, Op.operands])) hok
  exact ⟨r, by simp only [execOp, hx]; exact fin _ _ h1, h2⟩
 ·rename_i t x ix hx
  obtain rfl := Option.some.inj h
  obtain ⟨r, h1, h2⟩ := index_sound (w := w) hT t (hr x (by simp [hx, Op.operands])) (hr ix (by simp [hx, Op.operands])) hok
  exact ⟨r, by simp only [execOp, hx]; exact fin _ _ h1, h2⟩
 ·rename_i x i hx
  obtain rfl := Option.some.inj h
  obtain ⟨r, h1, h2⟩ := extract_sound (P := P) (w := w) i (hr x (by simp [hx, Op.operands])) hok
  exact ⟨r, by simp only [execOp, hx]; exact fin _ _ h1, h2⟩
 ·rename_i s d x hx
  obtain rfl := Option.some.inj h
  obtain ⟨r, h1, h2⟩ := conv_sound (w := w) hT s d (hr x (by simp [hx, Op.operands])) hok
  exact ⟨r, by simp only [execOp, hx]; exact fin _ _ h1, h2⟩
 ·rename_i f first caps hx
  obtain rfl := Option.some.inj h
  have hf : first = #[] := hok
  refine ⟨.func (.func f) #[] (caps.map ρ), by subst hf; simp [execOp, hx, Instr.makeFunc], ?_⟩
  simp only [RelA]
  refine ⟨_, rfl, ?_⟩
  simp only [Array.toList_map]
  exact RelL.map _ fun x hx' => hr x (by simp [hx, Op.operands]; exact .inr (by simpa using hx'))
 ·rename_i x hx
  have h0 := hr x (by simp [hx, Op.operands])
  split at h
  ·rename_i id off he
   obtain rfl := Option.some.inj h
   rw [he] at h0
   have h0' := h0
   simp only [RelA] at h0
   obtain ⟨g, c, hi, hu⟩ := h0
   exact ⟨ρ x, by simp only [execOp, hx, hu]; rfl, h0'⟩
  ·rename_i id off he
   obtain rfl := Option.some.inj h
   rw [he] at h0
   have h0' := h0
   simp only [RelA] at h0
   obtain ⟨g, c, hi, hu⟩ := h0
   exact ⟨ρ x, by simp only [execOp, hx, hu]; rfl, h0'⟩
  ·rename_i n c he
   obtain rfl := Option.some.inj h
   rw [he] at h0
   have h0' := h0
   simp only [RelA] at h0
   obtain ⟨g, o, hu, _⟩ := h0
   exact ⟨ρ x, by simp only [execOp, hx, hu]; rfl, h0'⟩
  ·obtain rfl := Option.some.inj h
   exact hok.elim
 ·rename_i args ts hx
  split at h
  ·rename_i x t ha ht
   obtain rfl := Option.some.inj h
   obtain rfl : args = #[x] := by cases args; simp_all
   obtain rfl : ts = #[t] := by cases ts; simp_all
   obtain ⟨r, h1, h2⟩ := len_sound (w := w) hT t o.type (hr x (by simp [hx, Op.operands, Call.operands])) hok
   refine ⟨r, ?_, h2⟩
   have e : execOp ρ o = (do pure (Next.value (← Builtin.len_ #[t] o.type #[ρ x]))) := by
    simp only [execOp, hx, resolve, List.map_toArray, List.map_cons, List.map_nil]; rfl
   rw [e]
   exact fin _ _ h1
  ·obtain rfl := Option.some.inj h
   exact hok.elim
 ·rename_i args _ hx
  split at h
  ·rename_i x y ha
   obtain rfl := Option.some.inj h
   obtain rfl : args = #[x, y] := by cases args; simp_all
   obtain ⟨r, h1, h2⟩ := minmax_sound (P := P) (w := w) true #[] o.type (hr x (by simp [hx, Op.operands, Call.operands])) (hr y (by simp [hx, Op.operands, Call.operands])) hok
   refine ⟨r, ?_, h2⟩
   have e : execOp ρ o = (do pure (Next.value (← Builtin.max_ #[] o.type #[ρ x, ρ y]))) := by
    simp only [execOp, hx, resolve, List.map_toArray, List.map_cons, List.map_nil]; rfl
   rw [e]
   exact fin _ _ h1
  ·rename_i x y z ha
   obtain rfl := Option.some.inj h
   obtain rfl : args = #[x, y, z] := by cases args; simp_all
   obtain ⟨r, h1, h2⟩ := mm3_sound (P := P) (w := w) true #[] o.type (hr x (by simp [hx, Op.operands, Call.operands])) (hr y (by simp [hx, Op.operands, Call.operands])) (hr z (by simp [hx, Op.operands, Call.operands])) hok
   refine ⟨r, ?_, h2⟩
   have e : execOp ρ o = (do pure (Next.value (← Builtin.max_ #[] o.type #[ρ x, ρ y, ρ z]))) := by
    simp only [execOp, hx, resolve, List.map_toArray, List.map_cons, List.map_nil]; rfl
   rw [e]
   exact fin _ _ h1
  ·obtain rfl := Option.some.inj h
   exact hok.elim
 ·rename_i args _ hx
  split at h
  ·rename_i x y ha
   obtain rfl := Option.some.inj h
   obtain rfl : args = #[x, y] := by cases args; simp_all
   obtain ⟨r, h1, h2⟩ := minmax_sound (P := P) (w := w) false #[] o.type (hr x (by simp [hx, Op.operands, Call.operands])) (hr y (by simp [hx, Op.operands, Call.operands])) hok
   refine ⟨r, ?_, h2⟩
   have e : execOp ρ o = (do pure (Next.value (← Builtin.min_ #[] o.type #[ρ x, ρ y]))) := by
    simp only [execOp, hx, resolve, List.map_toArray, List.map_cons, List.map_nil]; rfl
   rw [e]
   exact fin _ _ h1
  ·rename_i x y z ha
   obtain rfl := Option.some.inj h
   obtain rfl : args = #[x, y, z] := by cases args; simp_all
   obtain ⟨r, h1, h2⟩ := mm3_sound (P := P) (w := w) false #[] o.type (hr x (by simp [hx, Op.operands, Call.operands])) (hr y (by simp [hx, Op.operands, Call.operands])) (hr z (by simp [hx, Op.operands, Call.operands])) hok
   refine ⟨r, ?_, h2⟩
   have e : execOp ρ o = (do pure (Next.value (← Builtin.min_ #[] o.type #[ρ x, ρ y, ρ z]))) := by
    simp only [execOp, hx, resolve, List.map_toArray, List.map_cons, List.map_nil]; rfl
   rw [e]
   exact fin _ _ h1
  ·obtain rfl := Option.some.inj h
   exact hok.elim
 ·cases h
def firstPV (f : Nat → PV) : Nat → Nat → List AV
 | _, 0 => []
 | s, n + 1 => .pv (f s) :: firstPV f (s + 1) n
def Blk.cells : Blk → List AV
 | .box cs => cs
 | .row _ _ cs => cs
 | .map _ _ => []
def Blk.all : Blk → List AV
 | .box cs => cs
 | .row _ _ cs => cs
 | .map _ xs => xs
def isAggT : TypeDesc → Bool
 | .struct _ | .array _ _ => true
 | _ => false
def AV.unpix : AV → AV
 | .pix id off => .ptr id off
 | x => x
theorem RelA.unpix {ι : Emb} {R : Nat → Prop} {w : World} {x : AV} {u : Value} (h : RelA ι R w x u) : RelA ι R w x.unpix u := by
 cases x <;> first | exact h | (simp only [RelA, AV.unpix] at h ⊢; exact h)
def loadAV (T : Tab) (H : Heap) (t : TypeId) (x : AV) : Out :=
 match T t with
 | none => Out.bad
 | some ti => match x.unpix with
  | .ptr id off => match H id with
   | some b => match isAggT ti.under with
    | true => (off + ti.size ≤ b.cells.length, .agg ((b.cells.drop off).take ti.size))
    | false => match b.cells[off]? with | some c => (True, c) | none => Out.bad
   | none => Out.bad
  | .roat n cell => match isAggT ti.under with
   | true => (ti.size ≤ n, .agg (firstPV cell 0 ti.size))
   | false => (0 < n, .pv (cell 0))
  | _ => Out.bad
theorem RelB.cells {id : Nat} {b : Blk} (h : RelB ι R w id b) (hne : b.cells ≠ []) : ∃ g c, ι id = some (some (g, c)) ∧ ∃ us, RelL ι R w b.cells us ∧ Ones us ∧ ∀ j u, us[j]? = some u → w.cell? ⟨g, j + c.base, none⟩ = some u := by
 cases b with
 | box cs =>
  obtain ⟨g, c, cur, e, hi, hh, hr, h1⟩ := h
  refine ⟨g, _, hi, cur.toList, hr, h1, fun j u hu => ?_⟩
  have hu' : cur[j]? = some u := by simpa using hu
  simp [World.cell?, hh, hu']
 | row e s cs =>
  obtain ⟨n, hl, hs, _, h⟩ := h
  rcases h with ⟨_, rfl⟩ | ⟨g, cap, base, cur, hi, hh, hz, hc, _, hr, h1⟩
  ·exact absurd (List.eq_nil_of_length_eq_zero (l := cs) (by simpa using hl)) hne
  ·refine ⟨g, _, hi, _, hr, h1, fun j u hu => ?_⟩
   rw [List.getElem?_take] at hu
   split at hu
   ·rw [List.getElem?_drop] at hu
    have hu' : cur[j + base]? = some u := by rw [Nat.add_comm]; simpa using hu
    simp [World.cell?, hh, hu']
   ·cases hu
 | map ks xs => exact absurd rfl hne
theorem firstPV_length (f : Nat → PV) : ∀ n s, (firstPV f s n).length = n
 | 0, s => rfl
 | n + 1, s => by simp [firstPV, firstPV_length f n]
theorem load_sound (hT : TabOk P T) {H : Heap} (hH : ∀ id b, H id = some b → RelB ι R w id b) (t : TypeId) {x : AV} {u : Value} (hx : RelA ι R w x u) (h : (loadAV T H t x).1) :
  ∃ r, (Instr.loadAt t u).run P w = .ok r w ∧ RelA ι R w (loadAV T H t x).2 r := by
 replace hx := hx.unpix
 unfold loadAV at h ⊢
 generalize x.unpix = x at *
 split at h
 ·exact h.elim
 ·rename_i ti ht
  have hag : (isAgg t).run P w = .ok (isAggT ti.under) w := by
   rw [run_isAgg_of hT ht]; cases ti.under <;> rfl
  split at h
  ·rename_i id off
   simp only [RelA] at hx
   obtain ⟨g, c, hi, rfl⟩ := hx
   split at h
   ·rename_i b hb
    split at h
    ·rename_i hg
     by_cases h0 : b.cells = []
     ·have : ti.size = 0 := by have h' : off + ti.size ≤ b.cells.length := h; simp only [h0, List.length_nil] at h'; omega
      refine ⟨.agg #[], ?_, by simp only [RelA, this]; exact ⟨#[], rfl, by simp [RelL, h0]⟩⟩
      simp [Instr.loadAt, Instr.sureAddr, loadVar, hag, hg, hT.run_size ht, this, loadCells, loadCellsFrom]
     ·obtain ⟨g', c', hi', us, hr, h1, hc⟩ := (hH id b hb).cells h0
      rw [hi] at hi'
      obtain ⟨rfl, rfl⟩ : g = g' ∧ c = c' := by simpa using hi'
      have hlen : off + ti.size ≤ us.length := by rw [← hr.length]; exact h
      refine ⟨.agg ((us.drop off).take ti.size).toArray, ?_, ?_⟩
      ·have hlo := run_loadCells_list (P := P) w ⟨g, off + c.base, none⟩ ((us.drop off).take ti.size) (by
        intro j v hv
        rw [List.getElem?_take] at hv
        split at hv
        ·rw [add_none]; show w.cell? ⟨g, off + c.base + j, none⟩ = _; rw [Nat.add_right_comm]; exact hc _ _ (by simpa using hv)
        ·cases hv)
       have hll : ((us.drop off).take ti.size).length = ti.size := by simp; omega
       rw [hll] at hlo
       simp [Instr.loadAt, Instr.sureAddr, loadVar, hag, hg, hT.run_size ht, hlo]
      ·simp only [RelA]
       exact ⟨_, rfl, (hr.drop off).take _⟩
    ·rename_i hg
     split at h
     ·rename_i cv hcv
      obtain ⟨g', c', hi', us, hr, h1, hc⟩ := (hH id b hb).cells (by intro h0; simp [h0] at hcv)
      rw [hi] at hi'
      obtain ⟨rfl, rfl⟩ : g = g' ∧ c = c' := by simpa using hi'
      obtain ⟨u, hu, hru⟩ := hr.get off cv hcv
      refine ⟨u, ?_, hru⟩
      simp [Instr.loadAt, Instr.sureAddr, loadVar, hag, hg, hc off u hu]
     ·exact h.elim
   ·exact h.elim
  ·rename_i n cell
   simp only [RelA] at hx
   obtain ⟨g, o, rfl, hg, hc⟩ := hx
   split at h
   ·rename_i ha
    have key : ∀ m s, s + m ≤ n → ∃ us : List Value, us.length = m ∧ (∀ j v, us[j]? = some v → w.cell? ⟨g, o + s + j, none⟩ = some v) ∧ RelL ι R w (firstPV cell s m) us := by
     intro m
     induction m with
     | zero => intro s _; exact ⟨[], rfl, by simp, by simp [firstPV, RelL]⟩
     | succ m ih =>
      intro s hs
      obtain ⟨us, hl, h1, h2⟩ := ih (s + 1) (by omega)
      obtain ⟨x, hx, _, hr⟩ := hc s (by omega)
      refine ⟨x :: us, by simp [hl], ?_, by simp only [firstPV, RelL, RelA]; exact ⟨hr, h2⟩⟩
      intro j v hv
      cases j with
      | zero => simp at hv; subst hv; exact hx
      | succ j => have := h1 j v (by simpa using hv); rw [show o + s + (j + 1) = o + (s + 1) + j by omega]; exact this
    obtain ⟨us, hl, h1, h2⟩ := key ti.size 0 (by have h' : ti.size ≤ n := h; omega)
    refine ⟨.agg us.toArray, ?_, by simp only [RelA]; exact ⟨_, rfl, h2⟩⟩
    have hlo := run_loadCells_list (P := P) w ⟨g, o, none⟩ us (by intro j v hv; rw [add_none]; simpa using h1 j v hv)
    rw [hl] at hlo
    simp [Instr.loadAt, Instr.sureAddr, loadVar, hag, ha, hT.run_size ht, hlo]
   ·rename_i ha
    obtain ⟨x, hx, _, hr⟩ := hc 0 h
    refine ⟨x, ?_, by simp only [RelA]; exact hr⟩
    simp at hx
    simp [Instr.loadAt, Instr.sureAddr, loadVar, hag, ha, hx]
  ·exact h.elim
end
end Go.Ab

