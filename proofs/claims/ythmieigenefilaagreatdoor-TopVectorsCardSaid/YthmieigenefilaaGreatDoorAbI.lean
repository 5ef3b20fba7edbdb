import Derived.Test.YthmieigenefilaaGreatDoorAbE
set_option linter.unusedVariables false
set_option linter.unusedSimpArgs false
namespace Go.Ab
open Go.RowKit
section
variable {P : Program} {T : Tab} {ι : Emb} {R : Nat → Prop} {w : World}
theorem RelL.map {ev : Operand → AV} {ρ : Operand → Value} : ∀ (l : List Operand), (∀ x ∈ l, RelA ι R w (ev x) (ρ x)) → RelL ι R w (l.map ev) (l.map ρ)
 | [], _ => by simp [RelL]
 | x :: l, h => by
  simp only [List.map_cons, RelL]
  exact ⟨h x (by simp), RelL.map l fun y hy => h y (by simp [hy])⟩
theorem relO_map {ev : Operand → AV} {ρ : Operand → Value} (o : Option Operand) (h : ∀ x, o = some x → RelA ι R w (ev x) (ρ x)) : RelO ι R w (o.map ev) (o.map ρ) := by
 cases o with
 | none => trivial
 | some x => exact h x rfl
theorem pure_sound (hT : TabOk P T) (o : Oper) (ev : Operand → AV) (ρ : Operand → Value) (out : Out) (h : pureOut T ev o.op = some out) (hok : out.1)
  (hr : ∀ x ∈ o.op.operands.toList, RelA ι R w (ev x) (ρ x)) : ∃ u, (execOp ρ o).run P w = .ok (.value u) w ∧ RelA ι R w out.2 u := by
 have fin : ∀ (s : Sem Value) (r : Value), s.run P w = .ok r w → (do pure (Next.value (← s)) : Sem Next).run P w = .ok (.value r) w := by
  intro s r hs; simp [hs]
 unfold pureOut at h
 split at h
 ·rename_i x hx
  obtain rfl := Option.some.inj h
  exact ⟨ρ x, by simp only [execOp, hx]; rfl, hr x (by simp [hx, Op.operands])⟩
 ·rename_i x hx
  obtain rfl := Option.some.inj h
  exact ⟨ρ x, by simp only [execOp, hx]; rfl, hr x (by simp [hx, Op.operands])⟩
 ·rename_i op xT x y yT hx
  obtain rfl := Option.some.inj h
  obtain ⟨r, h1, h2⟩ := bin_sound (w := w) hT op xT x y (hr x (by simp [hx, Op.operands])) (hr y (by simp [hx, Op.operands])) hok
  exact ⟨r, by simp only [execOp, hx]; exact fin _ _ h1, h2⟩
 ·rename_i op xT x hx
  obtain rfl := Option.some.inj h
  obtain ⟨r, h1, h2⟩ := un_sound (P := P) (w := w) op (hr x (by simp [hx, Op.operands])) hok
  exact ⟨r, by simp only [execOp, hx]; exact fin _ _ h1, h2⟩
 ·rename_i s x f hx
  obtain rfl := Option.some.inj h
  obtain ⟨r, h1, h2⟩ := fieldAddr_sound (w := w) hT s f (hr x (by simp [hx, Op.operands])) hok
  exact ⟨r, by simp only [execOp, hx]; exact fin _ _ h1, h2⟩
 ·rename_i t x ix hx
  obtain rfl := Option.some.inj h
  obtain ⟨r, h1, h2⟩ := indexAddr_sound (w := w) hT t (hr x (by simp [hx, Op.operands])) (hr ix (by simp [hx, Op.operands])) hok
  exact ⟨r, by simp only [execOp, hx]; exact fin _ _ h1, h2⟩
 ·rename_i t x lo hi mx hx
  obtain rfl := Option.some.inj h
  obtain ⟨r, h1, h2⟩ := slice_sound (w := w) hT t (hr x (by simp [hx, Op.operands])) (relO_map lo fun y hy => hr y (by simp [hx, Op.operands, hy])) (relO_map hi fun y hy => hr y (by simp [hx, Op.operands, hy])) (relO_map mx fun y hy => hr y (by simp [hx, Op.operands, hy])) hok
  exact ⟨r, by simp only [execOp, hx]; exact fin _ _ h1, h2⟩
 ·rename_i t parts hx
  obtain rfl := Option.some.inj h
  obtain ⟨r, h1, h2⟩ := build_sound (w := w) (ι := ι) (R := R) hT t (parts := parts.toList.map fun p => (p.1, ev p.2)) (ps := parts.map fun p => (p.1, ρ p.2)) (by simp) (by
   intro i p u hp hu
   simp only [Array.toList_map, List.getElem?_map] at hp hu
   cases hi : parts.toList[i]? with
   | none => simp [hi] at hp
   | some q =>
    simp only [hi, Option.map_some, Option.some.injEq] at hp hu
    subst hp; subst hu
    exact hr q.2 (by
     have := List.mem_of_getElem? hi
     simp only [hx, Op.operands, List.mem_map]
     exact ⟨q, this, rfl⟩)) hok
  exact ⟨r, by simp only [execOp, hx]; exact fin _ _ h1, h2⟩
 ·rename_i t x f hx
  obtain rfl := Option.some.inj h
  obtain ⟨r, h1, h2⟩ := field_sound (w := w) hT t f (hr x (by simp [hx, Op.operands])) hok
  exact ⟨r, by simp only [execOp, hx]; exact fin _ _ h1, h2⟩
 ·rename_i t x ix hx
  obtain rfl := Option.some.inj h
  obtain ⟨r, h1, h2⟩ := index_sound (w := w) hT t (hr x (by simp [hx, Op.operands])) (hr ix (by simp [hx, Op.operands])) hok
  exact ⟨r, by simp only [execOp, hx]; exact fin _ _ h1, h2⟩
 ·rename_i x i hx
  obtain rfl := Option.some.inj h
  obtain ⟨r, h1, h2⟩ := extract_sound (P := P) (w := w) i (hr x (by simp [hx, Op.operands])) hok
  exact ⟨r, by simp only [execOp, hx]; exact fin _ _ h1, h2⟩
 ·rename_i s d x hx
  obtain rfl := Option.some.inj h
  obtain ⟨r, h1, h2⟩ := conv_sound (w := w) hT s d (hr x (by simp [hx, Op.operands])) hok
  exact ⟨r, by simp only [execOp, hx]; exact fin _ _ h1, h2⟩
 ·rename_i f first caps hx
  obtain rfl := Option.some.inj h
  have hf : first = #[] := hok
  refine ⟨.func (.func f) #[] (caps.map ρ), by subst hf; simp [execOp, hx, Instr.makeFunc], ?_⟩
  simp only [RelA]
  refine ⟨_, rfl, ?_⟩
  simp only [Array.toList_map]
  exact RelL.map _ fun x hx' => hr x (by simp [hx, Op.operands]; exact .inr (by simpa using hx'))
 ·rename_i x hx
  have h0 := hr x (by simp [hx, Op.operands])
  split at h
  ·rename_i id off he
   obtain rfl := Option.some.inj h
   rw [he] at h0
   have h0' := h0
   simp only [RelA] at h0
   obtain ⟨g, c, hi, hu⟩ := h0
   exact ⟨ρ x, by simp only [execOp, hx, hu]; rfl, h0'⟩
  ·rename_i id off he
   obtain rfl := Option.some.inj h
   rw [he] at h0
   have h0' := h0
   simp only [RelA] at h0
   obtain ⟨g, c, hi, hu⟩ := h0
   exact ⟨ρ x, by simp only [execOp, hx, hu]; rfl, h0'⟩
  ·rename_i n c he
   obtain rfl := Option.some.inj h
   rw [he] at h0
   have h0' := h0
   simp only [RelA] at h0
   obtain ⟨g, o, hu, _⟩ := h0
   exact ⟨ρ x, by simp only [execOp, hx, hu]; rfl, h0'⟩
  ·obtain rfl := Option.some.inj h
   exact hok.elim
 ·rename_i args ts hx
  split at h
  ·rename_i x t ha ht
   obtain rfl := Option.some.inj h
   obtain rfl : args = #[x] := by cases args; simp_all
   obtain rfl : ts = #[t] := by cases ts; simp_all
   obtain ⟨r, h1, h2⟩ := len_sound (w := w) hT t o.type (hr x (by simp [hx, Op.operands, Call.operands])) hok
   refine ⟨r, ?_, h2⟩
   have e : execOp ρ o = (do pure (Next.value (← Builtin.len_ #[t] o.type #[ρ x]))) := by
    simp only [execOp, hx, resolve, List.map_toArray, List.map_cons, List.map_nil]; rfl
   rw [e]
   exact fin _ _ h1
  ·obtain rfl := Option.some.inj h
   exact hok.elim
 ·rename_i args _ hx
  split at h
  ·rename_i x y ha
   obtain rfl := Option.some.inj h
   obtain rfl : args = #[x, y] := by cases args; simp_all
   obtain ⟨r, h1, h2⟩ := minmax_sound (P := P) (w := w) true #[] o.type (hr x (by simp [hx, Op.operands, Call.operands])) (hr y (by simp [hx, Op.operands, Call.operands])) hok
   refine ⟨r, ?_, h2⟩
   have e : execOp ρ o = (do pure (Next.value (← Builtin.max_ #[] o.type #[ρ x, ρ y]))) := by
    simp only [execOp, hx, resolve, List.map_toArray, List.map_cons, List.map_nil]; rfl
   rw [e]
   exact fin _ _ h1
  ·rename_i x y z ha
   obtain rfl := Option.some.inj h
   obtain rfl : args = #[x, y, z] := by cases args; simp_all
   obtain ⟨r, h1, h2⟩ := mm3_sound (P := P) (w := w) true #[] o.type (hr x (by simp [hx, Op.operands, Call.operands])) (hr y (by simp [hx, Op.operands, Call.operands])) (hr z (by simp [hx, Op.operands, Call.operands])) hok
   refine ⟨r, ?_, h2⟩
   have e : execOp ρ o = (do pure (Next.value (← Builtin.max_ #[] o.type #[ρ x, ρ y, ρ z]))) := by
    simp only [execOp, hx, resolve, List.map_toArray, List.map_cons, List.map_nil]; rfl
   rw [e]
   exact fin _ _ h1
  ·obtain rfl := Option.some.inj h
   exact hok.elim
 ·rename_i args _ hx
  split at h
  ·rename_i x y ha
   obtain rfl := Option.some.inj h
   obtain rfl : args = #[x, y] := by cases args; simp_all
   obtain ⟨r, h1, h2⟩ := minmax_sound (P := P) (w := w) false #[] o.type (hr x (by simp [hx, Op.operands, Call.operands])) (hr y (by simp [hx, Op.operands, Call.operands])) hok
   refine ⟨r, ?_, h2⟩
   have e : execOp ρ o = (do pure (Next.value (← Builtin.min_ #[] o.type #[ρ x, ρ y]))) := by
    simp only [execOp, hx, resolve, List.map_toArray, List.map_cons, List.map_nil]; rfl
   rw [e]
   exact fin _ _ h1
  ·rename_i x y z ha
   obtain rfl := Option.some.inj h
   obtain rfl : args = #[x, y, z] := by cases args; simp_all
   obtain ⟨r, h1, h2⟩ := mm3_sound (P := P) (w := w) false #[] o.type (hr x (by simp [hx, Op.operands, Call.operands])) (hr y (by simp [hx, Op.operands, Call.operands])) (hr z (by simp [hx, Op.operands, Call.operands])) hok
   refine ⟨r, ?_, h2⟩
   have e : execOp ρ o = (do pure (Next.value (← Builtin.min_ #[] o.type #[ρ x, ρ y, ρ z]))) := by
    simp only [execOp, hx, resolve, List.map_toArray, List.map_cons, List.map_nil]; rfl
   rw [e]
   exact fin _ _ h1
  ·obtain rfl := Option.some.inj h
   exact hok.elim
 ·cases h
def firstPV (f : Nat → PV) : Nat → Nat → List AV
 | _, 0 => []
 | s, n + 1 => .pv (f s) :: firstPV f (s + 1) n
def Blk.cells : Blk → List AV
 | .box cs => cs
 | .row _ _ cs => cs
 | .map _ _ => []
def Blk.all : Blk → List AV
 | .box cs => cs
 | .row _ _ cs => cs
 | .map _ xs => xs
def isAggT : TypeDesc → Bool
 | .struct _ | .array _ _ => true
 | _ => false
def AV.unpix : AV → AV
 | .pix id off => .ptr id off
 | x => x
theorem RelA.unpix {ι : Emb} {R : Nat → Prop} {w : World} {x : AV} {u : Value} (h : RelA ι R w x u) : RelA ι R w x.unpix u := by
 cases x <;> first | exact h | (simp only [RelA, AV.unpix] at h ⊢; exact h)
def loadAV (T : Tab) (H : Heap) (t : TypeId) (x : AV) : Out :=
 match T t with
 | none => Out.bad
 | some ti => match x.unpix with
  | .ptr id off => match H id with
   | some b => match isAggT ti.under with
    | true => (off + ti.size ≤ b.cells.length, .agg ((b.cells.drop off).take ti.size))
    | false => match b.cells[off]? with | some c => (True, c) | none => Out.bad
   | none => Out.bad
  | .roat n cell => match isAggT ti.under with
   | true => (ti.size ≤ n, .agg (firstPV cell 0 ti.size))
   | false => (0 < n, .pv (cell 0))
  | _ => Out.bad
theorem RelB.cells {id : Nat} {b : Blk} (h : RelB ι R w id b) (hne : b.cells ≠ []) : ∃ g c, ι id = some (some (g, c)) ∧ ∃ us, RelL ι R w b.cells us ∧ Ones us ∧ ∀ j u, us[j]? = some u → w.cell? ⟨g, j + c.base, none⟩ = some u := by
 cases b with
 | box cs =>
  obtain ⟨g, c, cur, e, hi, hh, hr, h1⟩ := h
  refine ⟨g, _, hi, cur.toList, hr, h1, fun j u hu => ?_⟩
  have hu' : cur[j]? = some u := by simpa using hu
  simp [World.cell?, hh, hu']
 | row e s cs =>
  obtain ⟨n, hl, hs, _, h⟩ := h
  rcases h with ⟨_, rfl⟩ | ⟨g, cap, base, cur, hi, hh, hz, hc, _, hr, h1⟩
  ·exact absurd (List.eq_nil_of_length_eq_zero (l := cs) (by simpa using hl)) hne
  ·refine ⟨g, _, hi, _, hr, h1, fun j u hu => ?_⟩
   rw [List.getElem?_take] at hu
   split at hu
   ·rw [List.getElem?_drop] at hu
    have hu' : cur[j + base]? = some u := by rw [Nat.add_comm]; simpa using hu
    simp [World.cell?, hh, hu']
   ·cases hu
 | map ks xs => exact absurd rfl hne
theorem firstPV_length (f : Nat → PV) : ∀ n s, (firstPV f s n).length = n
 | 0, s => rfl
 | n + 1, s => by simp [firstPV, firstPV_length f n]
theorem load_sound (hT : TabOk P T) {H : Heap} (hH : ∀ id b, H id = some b → RelB ι R w id b) (t : TypeId) {x : AV} {u : Value} (hx : RelA ι R w x u) (h : (loadAV T H t x).1) :
  ∃ r, (Instr.loadAt t u).run P w = .ok r w ∧ RelA ι R w (loadAV T H t x).2 r := by
 replace hx := hx.unpix
 unfold loadAV at h ⊢
 generalize x.unpix = x at *
 split at h
 ·exact h.elim
 ·rename_i ti ht
  have hag : (isAgg t).run P w = .ok (isAggT ti.under) w := by
   rw [run_isAgg_of hT ht]; cases ti.under <;> rfl
  split at h
  ·rename_i id off
   simp only [RelA] at hx
   obtain ⟨g, c, hi, rfl⟩ := hx
   split at h
   ·rename_i b hb
    split at h
    ·rename_i hg
     by_cases h0 : b.cells = []
     ·have : ti.size = 0 := by have h' : off + ti.size ≤ b.cells.length := h; simp only [h0, List.length_nil] at h'; omega
      refine ⟨.agg #[], ?_, by simp only [RelA, this]; exact ⟨#[], rfl, by simp [RelL, h0]⟩⟩
      simp [Instr.loadAt, Instr.sureAddr, loadVar, hag, hg, hT.run_size ht, this, loadCells, loadCellsFrom]
     ·obtain ⟨g', c', hi', us, hr, h1, hc⟩ := (hH id b hb).cells h0
      rw [hi] at hi'
      obtain ⟨rfl, rfl⟩ : g = g' ∧ c = c' := by simpa using hi'
      have hlen : off + ti.size ≤ us.length := by rw [← hr.length]; exact h
      refine ⟨.agg ((us.drop off).take ti.size).toArray, ?_, ?_⟩
      ·have hlo := run_loadCells_list (P := P) w ⟨g, off + c.base, none⟩ ((us.drop off).take ti.size) (by
        intro j v hv
        rw [List.getElem?_take] at hv
        split at hv
        ·rw [add_none]; show w.cell? ⟨g, off + c.base + j, none⟩ = _; rw [Nat.add_right_comm]; exact hc _ _ (by simpa using hv)
        ·cases hv)
       have hll : ((us.drop off).take ti.size).length = ti.size := by simp; omega
       rw [hll] at hlo
       simp [Instr.loadAt, Instr.sureAddr, loadVar, hag, hg, hT.run_size ht, hlo]
      ·simp only [RelA]
       exact ⟨_, rfl, (hr.drop off).take _⟩
    ·rename_i hg
     split at h
     ·rename_i cv hcv
      obtain ⟨g', c', hi', us, hr, h1, hc⟩ := (hH id b hb).cells (by intro h0; simp [h0] at hcv)
      rw [hi] at hi'
      obtain ⟨rfl, rfl⟩ : g = g' ∧ c = c' := by simpa using hi'
      obtain ⟨u, hu, hru⟩ := hr.get off cv hcv
      refine ⟨u, ?_, hru⟩
      simp [Instr.loadAt, Instr.sureAddr, loadVar, hag, hg, hc off u hu]
     ·exact h.elim
   ·exact h.elim
  ·rename_i n cell
   simp only [RelA] at hx
   obtain ⟨g, o, rfl, hg, hc⟩ := hx
   split at h
   ·rename_i ha
    have key : ∀ m s, s + m ≤ n → ∃ us : List Value, us.length = m ∧ (∀ j v, us[j]? = some v → w.cell? ⟨g, o + s + j, none⟩ = some v) ∧ RelL ι R w (firstPV cell s m) us := by
     intro m
     induction m with
     | zero => intro s _; exact ⟨[], rfl, by simp, by simp [firstPV, RelL]⟩
     | succ m ih =>
      intro s hs
      obtain ⟨us, hl, h1, h2⟩ := ih (s + 1) (by omega)
      obtain ⟨x, hx, _, hr⟩ := hc s (by omega)
      refine ⟨x :: us, by simp [hl], ?_, by simp only [firstPV, RelL, RelA]; exact ⟨hr, h2⟩⟩
      intro j v hv
      cases j with
      | zero => simp at hv; subst hv; exact hx
      | succ j => have := h1 j v (by simpa using hv); rw [show o + s + (j + 1) = o + (s + 1) + j by omega]; exact this
    obtain ⟨us, hl, h1, h2⟩ := key ti.size 0 (by have h' : ti.size ≤ n := h; omega)
    refine ⟨.agg us.toArray, ?_, by simp only [RelA]; exact ⟨_, rfl, h2⟩⟩
    have hlo := run_loadCells_list (P := P) w ⟨g, o, none⟩ us (by intro j v hv; rw [add_none]; simpa using h1 j v hv)
    rw [hl] at hlo
    simp [Instr.loadAt, Instr.sureAddr, loadVar, hag, ha, hT.run_size ht, hlo]
   ·rename_i ha
    obtain ⟨x, hx, _, hr⟩ := hc 0 h
    refine ⟨x, ?_, by simp only [RelA]; exact hr⟩
    simp at hx
    simp [Instr.loadAt, Instr.sureAddr, loadVar, hag, ha, hx]
  ·exact h.elim
end
end Go.Ab
set_option linter.unusedVariables false
set_option linter.unusedSimpArgs false
namespace Go.Ab
open Go.RowKit
def AS.ev (σ : AS) : Operand → AV
 | .tmp t => σ.slots t
 | .const v => .raw v
 | .global g => .raw (.pointer (some ⟨g, 0, none⟩))
 | .func f => .fn f []
def upd {α : Type} (f : Nat → α) (d : Nat) (v : α) : Nat → α := fun t => if t = d then v else f t
def putS (f : Nat → AV) : Option Nat → AV → Nat → AV
 | none, _ => f
 | some d, v => upd f d v
def AS.bev (σ : AS) (x : Operand) : AV := (σ.ev x).bare
def fid (dst : Option Nat) (k : Nat) : Nat := 16384 + (dst.getD 0) * 64 + k
inductive Wk (ρ : Nat → Option Nat) (D F : Nat → Prop) (H : Heap) : AV → AV → Prop
 | pv (p : PV) : Wk ρ D F H (.pv p) (.pv p)
 | roro (s n : Nat) (c c' : Nat → Nat → PV) (h : ∀ i, i < n → ∀ j, j < s → Wk ρ D F H (.pv (c i j)) (.pv (c' i j))) : Wk ρ D F H (.pv (.ro s n c)) (.pv (.ro s n c'))
 | nil (s : Nat) (c : Nat → Nat → PV) : Wk ρ D F H (.pv (.raw (.slice none 0 0))) (.pv (.ro s 0 c))
 | row (id e s off len : Nat) (cells : List AV) (c : Nat → Nat → PV) (x : Nat → Nat → AV) (hF : F id) (hH : H id = some (.row e s cells))
   (hx : ∀ i, i < len → ∀ j, j < s → cells[(off + i) * s + j]? = some (x i j)) (h : ∀ i, i < len → ∀ j, j < s → Wk ρ D F H (x i j) (.pv (c i j))) : Wk ρ D F H (.row id s off len) (.pv (.ro s len c))
 | ptr (id id' off : Nat) (hρ : ρ id = some id') (hD : D id) : Wk ρ D F H (.ptr id' off) (.ptr id off)
 | pixs (id id' off : Nat) (hρ : ρ id = some id') (hD : D id) : Wk ρ D F H (.pix id' off) (.pix id off)
 | rows (id id' s off len : Nat) (hρ : ρ id = some id') (hD : D id) : Wk ρ D F H (.row id' s off len) (.row id s off len)
 | nilrow (id s : Nat) (hρ : ρ id = none) (hD : D id) : Wk ρ D F H (.pv (.raw (.slice none 0 0))) (.row id s 0 0)
 | ptro (id off n : Nat) (b : Blk) (cell : Nat → PV) (x : Nat → AV) (hF : F id) (hH : H id = some b) (hx : ∀ j, j < n → b.cells[off + j]? = some (x j)) (h : ∀ j, j < n → Wk ρ D F H (x j) (.pv (cell j))) : Wk ρ D F H (.ptr id off) (.roat n cell)
 | roats (n n' : Nat) (c c' : Nat → PV) (hn : n' ≤ n) (h : ∀ j, j < n' → Wk ρ D F H (.pv (c j)) (.pv (c' j))) : Wk ρ D F H (.roat n c) (.roat n' c')
 | agg0 : Wk ρ D F H (.agg []) (.agg [])
 | agg (x y : AV) (xs ys : List AV) (h : Wk ρ D F H x y) (t : Wk ρ D F H (.agg xs) (.agg ys)) : Wk ρ D F H (.agg (x :: xs)) (.agg (y :: ys))
 | tup0 : Wk ρ D F H (.tup []) (.tup [])
 | tup (x y : AV) (xs ys : List AV) (h : Wk ρ D F H x y) (t : Wk ρ D F H (.tup xs) (.tup ys)) : Wk ρ D F H (.tup (x :: xs)) (.tup (y :: ys))
 | fn0 (f : FuncId) : Wk ρ D F H (.fn f []) (.fn f [])
 | fn (f : FuncId) (x y : AV) (xs ys : List AV) (h : Wk ρ D F H x y) (t : Wk ρ D F H (.fn f xs) (.fn f ys)) : Wk ρ D F H (.fn f (x :: xs)) (.fn f (y :: ys))
 | maps (id id' : Nat) (hρ : ρ id = some id') (hD : D id) : Wk ρ D F H (.map id') (.map id)
 | junk (x : AV) : Wk ρ D F H x .junk
def WkArgs (H : Heap) : List AV → List AV → Prop
 | [], [] => True
 | x :: xs, y :: ys => Wk (fun _ => none) (fun _ => False) (fun _ => True) H x y ∧ WkArgs H xs ys
 | _, _ => False
def Plain : AV → Prop
 | .pv _ => True
 | .roat _ _ => True
 | .agg xs => ∀ x ∈ xs, ∃ p, x = .pv p
 | _ => False
def FnOk (P : Program) (f : FuncId) : Prop := ∃ fn, P.funcs[f]? = some fn ∧ (fn.name == "runtime.NumGoroutine") = false ∧ fn.body.isNone = false
def PCalls (P : Program) (f : FuncId) (args : List AV) (al : Bool) (res : AV) (hb : List Blk) : Prop :=
 FnOk P f ∧ ∀ (R : Nat → Prop) (w : World) (vs : List Value), RelL (fun _ => none) R w args vs → (∀ k, R k → k < w.heap.size) → GOk P w →
  Calls P f vs.toArray w fun e w' => ∃ v ι', e = .returned v ∧ Below w.heap.size w w' ∧
   (∀ i b, hb[i]? = some b → RelB ι' (fun k => (al = true ∧ R k) ∨ (w.heap.size ≤ k ∧ k < w'.heap.size ∧ ∀ i b c, hb[i]? = some b → ι' i ≠ some (some (k, c)))) w' i b) ∧
   RelA ι' (fun k => (al = true ∧ R k) ∨ (w.heap.size ≤ k ∧ k < w'.heap.size ∧ ∀ i b c, hb[i]? = some b → ι' i ≠ some (some (k, c)))) w' res v ∧
   (∀ i b g c, hb[i]? = some b → ι' i = some (some (g, c)) → w.heap.size ≤ g) ∧
   (∀ i j b b' g c c', hb[i]? = some b → hb[j]? = some b' → ι' i = some (some (g, c)) → ι' j = some (some (g, c')) → i = j) ∧
   (∀ i x, ι' i = some x → i < hb.length)
def inBlk (ι : Emb) (hin : List Blk) (k : Nat) : Prop := ∃ i b c, hin[i]? = some b ∧ ι i = some (some (k, c))
def outR (al : Bool) (R : Nat → Prop) (ι : Emb) (hin : List Blk) (n n' : Nat) (ι' : Emb) (hout : List Blk) (k : Nat) : Prop :=
 ((al = true ∧ (R k ∨ inBlk ι hin k)) ∨ (n ≤ k ∧ k < n')) ∧ ∀ i b c, hout[i]? = some b → ι' i ≠ some (some (k, c))
def MCalls (P : Program) (f : FuncId) (args : List AV) (hin : List Blk) (nk : Nat) (al : Bool) (res : AV) (hout : List Blk) : Prop :=
 FnOk P f ∧ ∀ (ι : Emb) (R : Nat → Prop) (w : World) (vs : List Value), RelL ι R w args vs → (∀ k, R k → k < w.heap.size) →
  (∀ i b, hin[i]? = some b → RelB ι R w i b) →
  (∀ i j b b' g c c', hin[i]? = some b → hin[j]? = some b' → ι i = some (some (g, c)) → ι j = some (some (g, c')) → i = j) →
  (∀ i b g c, hin[i]? = some b → ι i = some (some (g, c)) → ¬ R g) →
  (∀ i x, ι i = some x → i < hin.length) → GOk P w → (∀ x ∈ tabsOf P, ¬ inBlk ι hin x.1) →
  Calls P f vs.toArray w fun e w' => ∃ v ι', e = .returned v ∧ BelowB (inBlk ι hin) w.heap.size w w' ∧
   (∀ i b, hout[i]? = some b → RelB ι' (outR al R ι hin w.heap.size w'.heap.size ι' hout) w' i b) ∧
   RelA ι' (outR al R ι hin w.heap.size w'.heap.size ι' hout) w' res v ∧
   (∀ i b g c, hout[i]? = some b → ι' i = some (some (g, c)) → w.heap.size ≤ g ∨ inBlk ι hin g) ∧
   (∀ i j b b' g c c', hout[i]? = some b → hout[j]? = some b' → ι' i = some (some (g, c)) → ι' j = some (some (g, c')) → i = j) ∧
   (∀ i x, ι' i = some x → i < hout.length) ∧ (∀ i x, i < nk → ι i = some x → ι' i = some x)
mutual
def AV.ren (k : Nat → Nat) : AV → AV
 | .ptr id off => .ptr (k id) off
 | .pix id off => .pix (k id) off
 | .row id s off len => .row (k id) s off len
 | .map id => .map (k id)
 | .agg xs => .agg (AV.renL k xs)
 | .tup xs => .tup (AV.renL k xs)
 | .fn f xs => .fn f (AV.renL k xs)
 | .gd g x => .gd g (AV.ren k x)
 | .pv p => .pv p
 | .roat n c => .roat n c
 | .junk => .junk
def AV.renL (k : Nat → Nat) : List AV → List AV
 | [] => []
 | x :: xs => AV.ren k x :: AV.renL k xs
end
def Blk.ren (k : Nat → Nat) : Blk → Blk
 | .box cs => .box (AV.renL k cs)
 | .row e s cs => .row e s (AV.renL k cs)
 | .map ks xs => .map ks (AV.renL k xs)
def hbHeap (hb : List Blk) : Heap := fun i => hb[i]?
def mren (ρ : Nat → Option Nat) (nk k i : Nat) : Nat := if i < nk then (ρ i).getD 0 else k + i
def mset (f : Nat → Nat) : Nat → List Blk → List (Nat × Blk)
 | _, [] => []
 | i, b :: bs => (f i, b.ren f) :: mset f (i + 1) bs
def mdel (ρ : Nat → Option Nat) (nk n : Nat) : List Nat := ((List.range n).filter fun i => decide (nk ≤ i)).filterMap ρ
def boxesKept (hin hout : List Blk) (nk : Nat) : Prop := ∀ i cs, hin[i]? = some (.box cs) → i < nk ∧ ∃ cs', hout[i]? = some (.box cs')
mutual
def AV.up (k : Nat) : AV → AV
 | .ptr id off => .ptr (k + id) off
 | .pix id off => .pix (k + id) off
 | .row id s off len => .row (k + id) s off len
 | .map id => .map (k + id)
 | .agg xs => .agg (AV.upL k xs)
 | .tup xs => .tup (AV.upL k xs)
 | .fn f xs => .fn f (AV.upL k xs)
 | .gd g x => .gd g (AV.up k x)
 | .pv p => .pv p
 | .roat n c => .roat n c
 | .junk => .junk
def AV.upL (k : Nat) : List AV → List AV
 | [] => []
 | x :: xs => AV.up k x :: AV.upL k xs
end
def Blk.up (k : Nat) : Blk → Blk
 | .box cs => .box (AV.upL k cs)
 | .row e s cs => .row e s (AV.upL k cs)
 | .map ks xs => .map ks (AV.upL k xs)
def numbered (k : Nat) : List Blk → List (Nat × Blk)
 | [] => []
 | b :: bs => (k, b) :: numbered (k + 1) bs
def repCells (z : List Value) : Nat → Nat → List Value
 | _, 0 => []
 | s, n + 1 => z.getD (s % z.length) undef :: repCells z (s + 1) n
def roL (s n : Nat) (c : Nat → Nat → PV) : List AV := (List.range n).flatMap fun i => firstPV (c i) 0 s
def newsAV (H : Heap) (s : Nat) : AV → Prop × Nat × List AV
 | .pv (.raw (.slice none 0 0)) => (True, 0, [])
 | .pv (.ro s' n c) => (s' = s, n, roL s n c)
 | .row id s' off len => match H id with
  | some (.row _ _ cells) => (s' = s ∧ (off + len) * s ≤ cells.length, len, (cells.drop (off * s)).take (len * s))
  | _ => (False, 0, [])
 | _ => (False, 0, [])
def pvAt (cells : List AV) (k : Nat) : PV :=
 match cells[k]? with
 | some (.pv p) => p
 | _ => .raw undef
def intsEq : List Value → List Value → Bool
 | [], [] => true
 | .int _ a :: r, .int _ b :: s => (a == b) && intsEq r s
 | _, _ => false
def keyEq : Value → Value → Bool
 | .int _ a, .int _ b => a == b
 | .agg a, .agg b => intsEq a.toList b.toList
 | _, _ => false
def allI : List Value → Bool
 | [] => true
 | .int .i64 _ :: r => allI r
 | _ => false
def aggI (n : Nat) : Value → Bool
 | .agg cs => Nat.beq cs.size n && allI cs.toList
 | _ => false
def flatI (T : Tab) : List Field → Nat → Bool
 | [], _ => true
 | f :: fs, i => (decide (f.name ≠ "_") && Nat.beq f.offset i && (match T f.type with | some { under := .int .i64, size := 1, .. } => true | _ => false)) && flatI T fs (i + 1)
def rawsOf : List AV → Option (List Value)
 | [] => some []
 | .pv (.raw v) :: r => (rawsOf r).map (v :: ·)
 | _ => none
def keysOkS (T : Tab) (fs : Array Field) (k : Value) (ks : List Value) : Prop := flatI T fs.toList 0 = true ∧ aggI fs.size k = true ∧ ∀ e ∈ ks, aggI fs.size e = true
def isIntV : Value → Bool
 | .int _ _ => true
 | _ => false
def mapGet (k : Value) : List Value → List AV → Option AV
 | e :: es, x :: xs => bif keyEq k e then some x else mapGet k es xs
 | _, _ => none
def mapPut (k : Value) (v : AV) : List Value → List AV → List Value × List AV
 | e :: es, x :: xs => bif keyEq k e then (e :: es, v :: xs) else (e :: (mapPut k v es xs).1, x :: (mapPut k v es xs).2)
 | _, _ => ([k], [v])
def mapDel (k : Value) : List Value → List AV → List Value × List AV
 | e :: es, x :: xs => bif keyEq k e then (es, xs) else (e :: (mapDel k es xs).1, x :: (mapDel k es xs).2)
 | _, _ => ([], [])
def keysOk (u : TypeDesc) (k : Value) (ks : List Value) : Prop := isIntV k = true ∧ ∀ e ∈ ks, Instr.sameNow u k e = some (keyEq k e)
def SubB (ρ : Nat → Option Nat) (F : Nat → Prop) (σ τ : AS) (id : Nat) (b : Blk) : Prop :=
 match ρ id with
 | some id' => ¬ F id' ∧ match b, σ.heap id' with
  | .box cs, some (.box cs') => Wk ρ (fun id => τ.heap id ≠ none) F σ.heap (.agg cs') (.agg cs)
  | .row e s cs, some (.row e' s' cs') => e = e' ∧ s = s' ∧ Wk ρ (fun id => τ.heap id ≠ none) F σ.heap (.agg cs') (.agg cs)
  | .map ks xs, some (.map ks' xs') => ks = ks' ∧ Wk ρ (fun id => τ.heap id ≠ none) F σ.heap (.agg xs') (.agg xs)
  | _, _ => False
 | none => match b with
  | .row e s [] => 0 < s
  | _ => False
structure SubC (ρ : Nat → Option Nat) (F : Nat → Prop) (σ τ : AS) : Prop where
 n : τ.n = σ.n
 slots : ∀ t, τ.slots t = .junk ∨ ((σ.slots t).when = true ∧ Wk ρ (fun id => τ.heap id ≠ none) F σ.heap (σ.slots t).bare (τ.slots t))
 heap : ∀ id b, τ.heap id = some b → τ.seen id = true ∧ SubB ρ F σ τ id b
 pins : ∀ i, i < τ.pins → i < σ.pins ∧ ρ i = some i ∧ τ.heap i ≠ none
 inj : ∀ i j b c k, τ.heap i = some b → τ.heap j = some c → ρ i = some k → ρ j = some k → i = j
structure Eff where
 ok : Prop
 v : AV
 set : List (Nat × Blk)
 del : List Nat
abbrev Eff.bad : Eff := ⟨False, .junk, [], []⟩
abbrev Eff.of (o : Out) : Eff := ⟨o.1, o.2, [], []⟩
def isMapT (T : Tab) (ts : Array TypeId) : Bool :=
 match ts.toList with
 | [t] => match T t with
  | some { under := .map _ _, .. } => true
  | _ => false
 | _ => false
def effOf (T : Tab) (ev : Operand → AV) (H : Heap) (dst : Option Nat) : Op → Eff
 | .load t x => .of (loadAV T H t (ev x))
 | .box t x => ⟨(ev x).cells.all AV.one = true ∧ ((ev x).one || (ev x).isAgg) = true, .ptr (fid dst 0) 0, [(fid dst 0, .box (ev x).cells)], []⟩
 | .alloc t => match T t with
  | some ti => ⟨(zeroAV ti.zero).cells.all AV.one = true, .ptr (fid dst 0) 0, [(fid dst 0, .box (zeroAV ti.zero).cells)], []⟩
  | none => .bad
 | .buildSlice t len parts => match T t with
  | some { under := .slice e, .. } => match T e with
   | some ti =>
    let r := fillAV (fun i => some (i * ti.size, ti.size)) ((repCells (ti.zero.cells.toList) 0 (len * ti.size)).map .raw) (parts.toList.map fun p => (p.1, ev p.2))
    ⟨0 < ti.size ∧ len * ti.size ≤ 16777216 ∧ ti.zero.cells.size = ti.size ∧ r.1 ∧ r.2.all AV.one = true, .row (fid dst 0) ti.size 0 len, [(fid dst 0, .row e ti.size r.2)], []⟩
   | none => .bad
  | _ => .bad
 | .makeSlice t l c => match T t with
  | some { under := .slice e, .. } => match T e with
   | some ti => match ev l, ev c with
    | .pv (.raw (.int kl n)), .pv (.raw (.int kc m)) => ⟨m = n ∧ 0 ≤ n ∧ 0 < ti.size ∧ ti.zero.cells.size = ti.size ∧ (ti.zero.cells.toList.map AV.raw).all AV.one = true ∧ n.toNat * ti.bytes ≤ 140737488355328 ∧ n.toNat ≤ 140737488355328,
      .row (fid dst 0) ti.size 0 n.toNat, [(fid dst 0, .row e ti.size ((repCells ti.zero.cells.toList 0 (n.toNat * ti.size)).map .raw))], []⟩
    | _, _ => .bad
   | none => .bad
  | _ => .bad
 | .store t a x => match T t with
  | some ti => match (ev a).unpix with
   | .ptr id off => match H id with
    | some (.box cs) => ⟨(ev x).cells.all AV.one = true ∧ ((ev x).one || (ev x).isAgg) = true ∧ (ev x).cells.length = ti.size ∧ off + ti.size ≤ cs.length, .raw undef, [(id, .box (setCells cs off (ev x).cells))], []⟩
    | some (.row e s cs) => ⟨(ev x).cells.all AV.one = true ∧ ((ev x).one || (ev x).isAgg) = true ∧ (ev x).cells.length = ti.size ∧ off + ti.size ≤ cs.length, .raw undef, [(id, .row e s (setCells cs off (ev x).cells))], []⟩
    | _ => .bad
   | _ => .bad
  | none => .bad
 | .makeMap _ none => ⟨True, .map (fid dst 0), [(fid dst 0, .map [] [])], []⟩
 | .lookup t m k ok => match T t with
  | some { under := .map kt et, .. } => match T kt, T et with
   | some { under := .int ik, .. }, some ti => match ev m, ev k with
    | .map id, .pv (.raw kv) => match H id with
     | some (.map ks xs) =>
      let v := match mapGet kv ks xs with | some x => x | none => zeroAV ti.zero
      .of (keysOk (.int ik) kv ks, bif ok then .tup [v, .bool (mapGet kv ks xs).isSome] else v)
     | _ => .bad
    | _, _ => .bad
   | some { under := .struct fs, cmp := true, .. }, some ti => match ev m, ev k with
    | .map id, .agg cs => match rawsOf cs, H id with
     | some vs, some (.map ks xs) =>
      let v := match mapGet (.agg vs.toArray) ks xs with | some x => x | none => zeroAV ti.zero
      .of (keysOkS T fs (.agg vs.toArray) ks, bif ok then .tup [v, .bool (mapGet (.agg vs.toArray) ks xs).isSome] else v)
     | _, _ => .bad
    | _, _ => .bad
   | _, _ => .bad
  | _ => .bad
 | .mapUpdate t m k x => match T t with
  | some { under := .map kt _, .. } => match T kt with
   | some { under := .int ik, .. } => match ev m, ev k with
    | .map id, .pv (.raw kv) => match H id with
     | some (.map ks xs) => ⟨keysOk (.int ik) kv ks ∧ (ev x).one = true, .raw undef, [(id, .map (mapPut kv (ev x) ks xs).1 (mapPut kv (ev x) ks xs).2)], []⟩
     | _ => .bad
    | _, _ => .bad
   | some { under := .struct fs, cmp := true, .. } => match ev m, ev k with
    | .map id, .agg cs => match rawsOf cs, H id with
     | some vs, some (.map ks xs) => ⟨keysOkS T fs (.agg vs.toArray) ks ∧ (ev x).one = true, .raw undef, [(id, .map (mapPut (.agg vs.toArray) (ev x) ks xs).1 (mapPut (.agg vs.toArray) (ev x) ks xs).2)], []⟩
     | _, _ => .bad
    | _, _ => .bad
   | _ => .bad
  | _ => .bad
 | .insert t m k x => match T t with
  | some { under := .map kt _, .. } => match T kt with
   | some { under := .int ik, .. } => match ev m, ev k with
    | .map id, .pv (.raw kv) => match H id with
     | some (.map ks xs) => ⟨keysOk (.int ik) kv ks ∧ (ev x).one = true, .raw undef, [(id, .map (mapPut kv (ev x) ks xs).1 (mapPut kv (ev x) ks xs).2)], []⟩
     | _ => .bad
    | _, _ => .bad
   | some { under := .struct fs, cmp := true, .. } => match ev m, ev k with
    | .map id, .agg cs => match rawsOf cs, H id with
     | some vs, some (.map ks xs) => ⟨keysOkS T fs (.agg vs.toArray) ks ∧ (ev x).one = true, .raw undef, [(id, .map (mapPut (.agg vs.toArray) (ev x) ks xs).1 (mapPut (.agg vs.toArray) (ev x) ks xs).2)], []⟩
     | _, _ => .bad
    | _, _ => .bad
   | _ => .bad
  | _ => .bad
 | .call { callee := .builtin .delete, args := args, argTypes := ts } => match args.toList, ts.toList with
  | [m, k], t :: _ => match T t with
   | some { under := .map kt _, .. } => match T kt with
    | some { under := .int ik, .. } => match ev m, ev k with
     | .map id, .pv (.raw kv) => match H id with
      | some (.map ks xs) => ⟨keysOk (.int ik) kv ks, .tup [], [(id, .map (mapDel kv ks xs).1 (mapDel kv ks xs).2)], []⟩
      | _ => .bad
     | _, _ => .bad
    | _ => .bad
   | _ => .bad
  | _, _ => .bad
 | .call { callee := .builtin .append, args := args, argTypes := ts } => match args.toList, ts.toList with
  | [s, x], [t, t'] => match T t, T t' with
   | some { under := .slice e, .. }, some { under := .slice e', .. } => match T e with
    | some ti =>
     let nw := newsAV H ti.size (ev x)
     match ev s with
     | .pv (.raw (.slice none 0 0)) => ⟨t = t' ∧ nw.1 ∧ 0 < ti.size ∧ ti.zero.cells.size = ti.size ∧ (nw.2.1 + nw.2.1 / 4 + 192) * ti.bytes ≤ 281474976710656 ∧ nw.2.1 ≤ 140737488355328, .row (fid dst 0) ti.size 0 nw.2.1, [(fid dst 0, .row e ti.size nw.2.2)], []⟩
     | .row id s' off len => match H id with
      | some (.row e'' s'' cells) => ⟨t = t' ∧ nw.1 ∧ 0 < ti.size ∧ ti.zero.cells.size = ti.size ∧ s' = ti.size ∧ s'' = ti.size ∧ e'' = e ∧ (off + len) * ti.size ≤ cells.length ∧ (len + nw.2.1 + (len + nw.2.1) / 4 + 192) * ti.bytes ≤ 281474976710656 ∧ len + nw.2.1 ≤ 140737488355328,
        .row (fid dst 0) ti.size 0 (len + nw.2.1), [(fid dst 0, .row e ti.size ((cells.drop (off * ti.size)).take (len * ti.size) ++ nw.2.2))], [id]⟩
      | _ => .bad
     | _ => .bad
    | none => .bad
   | _, _ => .bad
  | _, _ => .bad
 | .call { callee := .builtin .copy, args := args, argTypes := ts } => match args.toList, ts.toList with
  | [s, x], [t, t'] => match T t with
   | some { under := .slice e, .. } => match T e with
    | some ti =>
     let nw := newsAV H ti.size (ev x)
     match ev s with
     | .row id s' off len => match H id with
      | some (.row e'' s'' cells) => ⟨nw.1 ∧ 0 < ti.size ∧ s' = ti.size ∧ s'' = ti.size ∧ (off + len) * ti.size ≤ cells.length,
        .pv (.raw (.int .i64 ((min nw.2.1 len : Nat) : Int))), [(id, .row e'' s'' (setCells cells (off * ti.size) (nw.2.2.take (min nw.2.1 len * ti.size))))], []⟩
      | _ => .bad
     | _ => .bad
    | none => .bad
   | _ => .bad
  | _, _ => .bad
 | .call { callee := .builtin .clear, args := args, argTypes := ts } => match args.toList, ts.toList with
  | [s], [t] => match T t with
   | some { under := .slice e, .. } => match T e with
    | some ti => match ev s with
     | .row id s' off len => match H id with
      | some (.row e'' s'' cells) => ⟨0 < ti.size ∧ s' = ti.size ∧ s'' = ti.size ∧ ti.zero.cells.size = ti.size ∧ (ti.zero.cells.toList.map AV.raw).all AV.one = true ∧ (off + len) * ti.size ≤ cells.length,
        .tup [], [(id, .row e'' s'' (setCells cells (off * ti.size) ((repCells ti.zero.cells.toList 0 (len * ti.size)).map .raw)))], []⟩
      | _ => .bad
     | _ => .bad
    | none => .bad
   | _ => .bad
  | _, _ => .bad
 | .call { callee := .builtin .len, args := args, argTypes := ts } => match isMapT T ts with
  | true => match args.toList with
   | [m] => match ev m with
    | .map id => match H id with
     | some (.map ks xs) => ⟨True, .pv (.raw (.int .i64 (ks.length : Nat))), [], []⟩
     | _ => .bad
    | _ => .bad
   | _ => .bad
  | false => match pureOut T ev (.call { callee := .builtin .len, args := args, argTypes := ts }) with | some out => .of out | none => .bad
 | .pick c a b => .bad
 | .convert s d x => match Nat.beq s d with
  | true => match ev x with
   | .row id sz off len => match T s with
    | some { under := .slice e, .. } => match T e, H id with
     | some { under := .int .u8, .. }, some (.row _ s' cells) => ⟨sz = 1 ∧ s' = 1 ∧ 0 < len ∧ off + len ≤ cells.length ∧ (∀ k, k < len → ∃ p, cells[off + k]? = some (.pv p)), .pv (.ro 1 len (fun i _ => pvAt cells (off + i))), [], [id]⟩
     | _, _ => .bad
    | _ => .bad
   | y => .of (convAV T s d y)
  | false => .of (convAV T s d (ev x))
 | op => match pureOut T ev op with | some out => .of out | none => .bad
def isMC (fz : List Nat) : Op → Bool
 | .call { callee := .value (.func f), .. } => fz.contains f
 | .call { callee := .value (.tmp _), .. } => fz.contains 1048576
 | _ => false
def callOf : Op → Option (Operand × List Operand)
 | .call { callee := .value f, args := args, .. } => some (f, args.toList)
 | _ => none
def Does (P : Program) (T : Tab) (o : Oper) (σ : AS) (v : AV) (set : List (Nat × Blk)) (del : List Nat) : Prop :=
 match o.op with
 | .pick c a b => ((σ.ev c).when = true ∧ ∃ t, (σ.ev c).bare = .bool t) ∧ (pickAV (σ.ev c).bare (σ.ev a) (σ.ev b)).1 ∧ v = (pickAV (σ.ev c).bare (σ.ev a) (σ.ev b)).2 ∧ set = [] ∧ del = []
 | op => (∀ x ∈ op.operands.toList, (σ.ev x).when = true) ∧
  match callOf op with
  | some (f, xs) => match isMC σ.fz o.op with
   | false => ∃ fn caps args al res hb, σ.bev f = .fn fn caps ∧ WkArgs σ.heap (xs.map σ.bev ++ caps) args ∧ (al = true → ∀ x ∈ xs.map σ.bev ++ caps, Plain x) ∧ PCalls P fn args al res hb ∧ hb.length ≤ 64 ∧
    v = res.up (fid o.dst 0) ∧ set = numbered (fid o.dst 0) (hb.map (Blk.up (fid o.dst 0))) ∧ del = []
   | true => ∃ fn caps args hin nk al res hout, ∃ (ρ : Nat → Option Nat) (F : Nat → Prop), σ.bev f = .fn fn caps ∧
    Wk ρ (fun id => hbHeap hin id ≠ none) F σ.heap (.agg (xs.map σ.bev ++ caps)) (.agg args) ∧ SubC ρ F σ { n := σ.n, slots := fun _ => .junk, heap := hbHeap hin, seen := fun _ => true } ∧
    (al = true → ∀ id, ¬ F id) ∧ (∀ i, i < nk → ∃ id, ρ i = some id) ∧ nk ≤ hin.length ∧ nk ≤ hout.length ∧ boxesKept hin hout nk ∧ MCalls P fn args hin nk al res hout ∧
    (∀ i, nk ≤ i → i < hout.length → σ.seen (fid o.dst 0 + i) = false) ∧
    v = res.ren (mren ρ nk (fid o.dst 0)) ∧ set = mset (mren ρ nk (fid o.dst 0)) 0 hout ∧ del = mdel ρ nk hin.length
  | none => (effOf T σ.bev σ.heap o.dst op).ok ∧ v = (effOf T σ.bev σ.heap o.dst op).v ∧ set = (effOf T σ.bev σ.heap o.dst op).set ∧ del = (effOf T σ.bev σ.heap o.dst op).del
def setH (H : Heap) : List (Nat × Blk) → Heap
 | [] => H
 | (k, b) :: r => setH (upd H k (some b)) r
def delH (H : Heap) : List Nat → Heap
 | [] => H
 | k :: r => delH (upd H k none) r
def seenS (f : Nat → Bool) : List (Nat × Blk) → Nat → Bool
 | [] => f
 | (k, _) :: r => seenS (upd f k true) r
def isStore : Op → Bool
 | .store _ _ _ => true
 | .call { callee := .builtin .copy, .. } => true
 | .mapUpdate .. => true
 | .insert .. => true
 | .call { callee := .builtin .delete, .. } => true
 | .call { callee := .builtin .clear, .. } => true
 | _ => false
def GRel (σ : AS) (ops : Array Oper) (o : Oper) (g : Bool) : Prop :=
 match o.guard with
 | none => g = true
 | some (j, want) => match (ops[j]?).bind (·.dst) with
  | none => False
  | some d => match σ.slots d with
   | .pv (.raw (.bool b)) => g = (b == want)
   | .gd p (.pv (.raw (.bool b))) => g = (p && (b == want))
   | _ => False
def pureOp (T : Tab) : Op → Bool
 | .move _ | .assign _ | .binOp .. | .unOp .. | .fieldAddr .. | .indexAddr .. | .slice .. | .build .. | .field .. | .index .. | .extract .. | .makeFunc .. | .nilCheck _ | .pick .. => true
 | .convert s d _ => !(Nat.beq s d)
 | .call { callee := .builtin .len, argTypes := ts, .. } => !isMapT T ts
 | .call { callee := .builtin .max, .. } | .call { callee := .builtin .min, .. } => true
 | _ => false
def Born (P : Program) (T : Tab) (o : Oper) (σ : AS) (v : AV) (set set0 : List (Nat × Blk)) (del : List Nat) : Prop :=
 ∃ v0, Does P T o σ v0 set0 del ∧ ((v = v0 ∧ set = set0) ∨ (isStore o.op = false ∧ isMC σ.fz o.op = false ∧ set = [] ∧ Wk (fun _ => none) (fun _ => False) (fun _ => True) (setH (fun _ => none) set0) v0 v))
def AStep (P : Program) (T : Tab) (ops : Array Oper) (o : Oper) (σ σ' : AS) : Prop :=
 ∃ g v set set0 del, GRel σ ops o g ∧ (g = true → Born P T o σ v set set0 del) ∧ (isStore o.op = false → isMC σ.fz o.op = false → ∀ x ∈ set0, σ.seen x.1 = false) ∧ (g = false → set = [] ∧ del = [] ∧ (pureOp T o.op = true → set0 = [])) ∧
  (∀ d, o.dst = some d → d < σ.n) ∧
  σ' = { σ with slots := putS σ.slots o.dst (if o.guard.isNone then v else .gd g v), heap := setH (delH σ.heap del) set, seen := seenS σ.seen set0 }
end Go.Ab
set_option linter.unusedVariables false
set_option linter.unusedSectionVars false
set_option linter.unusedSimpArgs false
namespace Go.Ab
open Go.RowKit
variable {A : Env}
theorem relL_nil {ι ι2 : Emb} {R R2 : Nat → Prop} {w w2 : World} {us : List Value} (h : RelL ι R w [] us) : RelL ι2 R2 w2 [] us := by
 cases us with
 | nil => simp [RelL]
 | cons u us => simp [RelL] at h
theorem wk_sound {ι ι2 : Emb} {R R2 : Nat → Prop} {w : World} {ρ : Nat → Option Nat} {D F : Nat → Prop} {H : Heap}
  (hH : ∀ id b, H id = some b → RelB ι R w id b) (hR : ∀ k, R k → R2 k)
  (h1 : ∀ id id' x, D id → ρ id = some id' → ι id' = some x → ι2 id = some x) (h2 : ∀ id, D id → ρ id = none → ι2 id = some none)
  (h3 : ∀ id b g c, F id → H id = some b → ι id = some (some (g, c)) → R2 g) {x y : AV} (hw : Wk ρ D F H x y) : ∀ u, RelA ι R w x u → RelA ι2 R2 w y u := by
 induction hw with
 | pv p =>
  intro u h
  simp only [RelA] at h ⊢
  exact RelP.mono hR (fun _ _ => rfl) p u h
 | roro s n c c' h ih =>
  intro u hu
  simp only [RelA, RelP] at hu ⊢
  obtain ⟨a, cap, rfl, hc, hn, hu⟩ := hu
  refine ⟨a, cap, rfl, hc, hn, fun h0 => ?_⟩
  obtain ⟨g, o, rfl, hg, hu⟩ := hu h0
  refine ⟨g, o, rfl, hR _ hg, fun i hi j hj => ?_⟩
  obtain ⟨x, hx, ho, hr⟩ := hu i hi j hj
  have := ih i hi j hj x (by simp only [RelA]; exact hr)
  simp only [RelA] at this
  exact ⟨x, hx, ho, this⟩
 | nil s c =>
  intro u hu
  obtain rfl := raw_inv hu
  simp only [RelA, RelP]
  exact ⟨none, 0, rfl, Nat.le_refl _, by omega, fun h => by omega⟩
 | row id e s off len cells c x hF hHi hx h ih =>
  intro u hu
  simp only [RelA, RelP] at hu ⊢
  rcases hu with ⟨_, _, rfl, rfl⟩ | ⟨g, cp, a, hi, rfl, hl, hl0⟩
  ·exact ⟨none, 0, rfl, Nat.le_refl _, by omega, fun h => by omega⟩
  ·have hb := hH id _ hHi
   obtain ⟨n, hcl, hs, hn, hb⟩ := hb
   by_cases hz : len = 0
   ·subst hz
    exact ⟨a, _, rfl, by omega, by omega, fun h => by omega⟩
   ·rcases hb with ⟨hin, _⟩ | ⟨g', cap', base', cur, hi', hh, hsz, hnc, hcm, hr, hone⟩
    ·rw [hi] at hin; cases hin
    rw [hi] at hi'
    obtain ⟨rfl, rfl⟩ : g = g' ∧ cp = ⟨cap', base'⟩ := by simpa using hi'
    have hl : off + len ≤ cap' := hl
    have hlast := hx (len - 1) (by omega) 0 hs
    have hlt : (off + (len - 1)) * s + 0 < cells.length := (List.getElem?_eq_some_iff.1 hlast).1
    rw [hcl] at hlt
    have hlt' : off + (len - 1) < n := Nat.lt_of_mul_lt_mul_right (a := s) (by omega)
    refine ⟨a, _, rfl, by omega, by omega, fun hp => ?_⟩
    obtain rfl := hl0 (by show off < cap'; omega)
    refine ⟨g, off * s + base', rfl, h3 id _ g _ hF hHi hi, fun i hi2 j hj => ?_⟩
    obtain ⟨v, hv, hrel⟩ := hr.get _ _ (hx i hi2 j hj)
    have hcell : w.cell? ⟨g, off * s + base' + i * s + j, none⟩ = some v := by
     rw [List.getElem?_take] at hv
     split at hv
     ·rw [List.getElem?_drop] at hv
      have hv' : cur[base' + ((off + i) * s + j)]? = some v := by simpa using hv
      simp only [World.cell?, hh]
      rw [show off * s + base' + i * s + j = base' + ((off + i) * s + j) by rw [Nat.add_mul]; omega]
      simp [hv']
     ·cases hv
    have := ih i hi2 j hj v hrel
    simp only [RelA] at this
    exact ⟨v, hcell, hone v (List.mem_of_getElem? hv), this⟩
 | ptr id id' off hρ hD =>
  intro u hu
  simp only [RelA] at hu ⊢
  obtain ⟨g, c, hi, rfl⟩ := hu
  exact ⟨g, c, h1 id id' _ hD hρ hi, rfl⟩
 | pixs id id' off hρ hD =>
  intro u hu
  simp only [RelA] at hu ⊢
  obtain ⟨g, c, hi, rfl⟩ := hu
  exact ⟨g, c, h1 id id' _ hD hρ hi, rfl⟩
 | rows id id' s off len hρ hD =>
  intro u hu
  simp only [RelA] at hu ⊢
  rcases hu with ⟨hi, hu⟩ | ⟨g, c, a, hi, hu⟩
  ·exact .inl ⟨h1 id id' _ hD hρ hi, hu⟩
  ·exact .inr ⟨g, c, a, h1 id id' _ hD hρ hi, hu⟩
 | nilrow id s hρ hD =>
  intro u hu
  obtain rfl := raw_inv hu
  simp only [RelA]
  exact .inl ⟨h2 id hD hρ, by simp, by simp, by simp⟩
 | ptro id off n b cell x hF hHi hx h ih =>
  intro u hu
  simp only [RelA] at hu ⊢
  obtain ⟨g, c, hi, rfl⟩ := hu
  refine ⟨g, off + c.base, rfl, h3 id b g c hF hHi hi, fun j hj => ?_⟩
  have hbc := hx j hj
  obtain ⟨g', c', hi', us, hr, hone, hc⟩ := (hH id b hHi).cells (by intro h0; rw [h0] at hbc; simp at hbc)
  rw [hi] at hi'
  obtain ⟨rfl, rfl⟩ : g = g' ∧ c = c' := by simpa using hi'
  obtain ⟨v, hv, hrel⟩ := hr.get _ _ hbc
  have := ih j hj v hrel
  simp only [RelA] at this
  exact ⟨v, by rw [Nat.add_right_comm]; exact hc _ _ hv, hone v (List.mem_of_getElem? hv), this⟩
 | roats n n' c c' hn h ih =>
  intro u hu
  simp only [RelA] at hu ⊢
  obtain ⟨g, o, rfl, hg, hu⟩ := hu
  refine ⟨g, o, rfl, hR _ hg, fun j hj => ?_⟩
  obtain ⟨x, hx, h1', hr⟩ := hu j (by omega)
  have := ih j hj x (by simp only [RelA]; exact hr)
  simp only [RelA] at this
  exact ⟨x, hx, h1', this⟩
 | agg0 =>
  intro u hu
  simp only [RelA] at hu ⊢
  obtain ⟨us, rfl, hu⟩ := hu
  exact ⟨us, rfl, relL_nil hu⟩
 | agg x y xs ys h t ih1 ih2 =>
  intro u hu
  simp only [RelA] at hu ⊢
  obtain ⟨us, rfl, hu⟩ := hu
  refine ⟨us, rfl, ?_⟩
  cases hus : us.toList with
  | nil => rw [hus] at hu; simp [RelL] at hu
  | cons v vs =>
   rw [hus] at hu
   simp only [RelL] at hu ⊢
   refine ⟨ih1 v hu.1, ?_⟩
   have := ih2 (.agg vs.toArray) (by simp only [RelA]; exact ⟨_, rfl, hu.2⟩)
   simp only [RelA] at this
   obtain ⟨us', he, hr⟩ := this
   cases he
   exact hr
 | tup0 =>
  intro u hu
  simp only [RelA] at hu ⊢
  obtain ⟨us, rfl, hu⟩ := hu
  exact ⟨us, rfl, relL_nil hu⟩
 | tup x y xs ys h t ih1 ih2 =>
  intro u hu
  simp only [RelA] at hu ⊢
  obtain ⟨us, rfl, hu⟩ := hu
  refine ⟨us, rfl, ?_⟩
  cases hus : us.toList with
  | nil => rw [hus] at hu; simp [RelL] at hu
  | cons v vs =>
   rw [hus] at hu
   simp only [RelL] at hu ⊢
   refine ⟨ih1 v hu.1, ?_⟩
   have := ih2 (.tuple vs.toArray) (by simp only [RelA]; exact ⟨_, rfl, hu.2⟩)
   simp only [RelA] at this
   obtain ⟨us', he, hr⟩ := this
   cases he
   exact hr
 | fn0 f =>
  intro u hu
  simp only [RelA] at hu ⊢
  obtain ⟨us, rfl, hu⟩ := hu
  exact ⟨us, rfl, relL_nil hu⟩
 | fn f x y xs ys h t ih1 ih2 =>
  intro u hu
  simp only [RelA] at hu ⊢
  obtain ⟨us, rfl, hu⟩ := hu
  refine ⟨us, rfl, ?_⟩
  cases hus : us.toList with
  | nil => rw [hus] at hu; simp [RelL] at hu
  | cons v vs =>
   rw [hus] at hu
   simp only [RelL] at hu ⊢
   refine ⟨ih1 v hu.1, ?_⟩
   have := ih2 (.func (.func f) #[] vs.toArray) (by simp only [RelA]; exact ⟨_, rfl, hu.2⟩)
   simp only [RelA] at this
   obtain ⟨us', he, hr⟩ := this
   cases he
   exact hr
 | maps id id' hρ hD =>
  intro u hu
  simp only [RelA] at hu ⊢
  obtain ⟨g, c, hi, rfl⟩ := hu
  exact ⟨g, c, h1 id id' _ hD hρ hi, rfl⟩
 | junk x => intro u _; simp only [RelA]
theorem St.Of.ev {W w : World} {a : Act} {σ : AS} {ι : Emb} {R : Nat → Prop} (h : St.Of A W w a σ ι R) (x : Operand) : RelA ι R w (σ.ev x) (a.eval x) := by
 cases x with
 | tmp t => exact h.slots t
 | const v => simp only [AS.ev, Act.eval, RelA, RelP]
 | global g => simp only [AS.ev, Act.eval, RelA, RelP]
 | func f => simp only [AS.ev, Act.eval, RelA]; exact ⟨#[], rfl, by simp [RelL]⟩
theorem RelA.bare {ι : Emb} {R : Nat → Prop} {w : World} {x : AV} {u : Value} (h : RelA ι R w x u) (hw : x.when = true) : RelA ι R w x.bare u := by
 cases x <;> first
  | exact h
  | (simp only [AV.when] at hw; subst hw; simp only [RelA] at h; exact h.1 trivial)
theorem St.Of.put {W w : World} {a : Act} {σ : AS} {ι : Emb} {R : Nat → Prop} (h : St.Of A W w a σ ι R) {dst : Option Nat} {v : AV} {u : Value} (hd : ∀ d, dst = some d → d < σ.n) (hr : RelA ι R w v u) :
  St.Of A W w (a.put dst u) { σ with slots := putS σ.slots dst v } ι R := by
 cases dst with
 | none => exact h
 | some d =>
  refine { h with size := by simp [Act.put, h.size], defers := h.defers, slots := fun t => ?_ }
  have hlt : d < a.tmps.size := by rw [h.size]; exact hd d rfl
  by_cases ht : t = d
  ·subst ht
   simp only [Act.put, putS, upd, if_true]
   simp [Array.getD_eq_getD_getElem?, Array.getElem?_setIfInBounds, hlt]
   exact hr
  ·simp only [Act.put, putS, upd, if_neg ht]
   have := h.slots t
   simp only [Array.getD_eq_getD_getElem?, Array.getElem?_setIfInBounds] at this ⊢
   rw [if_neg (fun e => ht e.symm)]
   exact this
theorem setH_some {H : Heap} : ∀ {set : List (Nat × Blk)} {id : Nat} {b : Blk}, setH H set id = some b → (id, b) ∈ set ∨ (H id = some b ∧ ∀ x ∈ set, x.1 ≠ id)
 | [], id, b, h => .inr ⟨h, by simp⟩
 | (k, c) :: r, id, b, h => by
  rcases setH_some (set := r) h with h | ⟨h, hn⟩
  ·exact .inl (by simp [h])
  ·simp only [upd] at h
   split at h
   ·rename_i he
    have h' := h
    subst he
    have := Option.some.inj h'
    subst this
    exact .inl (by simp)
   ·rename_i he
    exact .inr ⟨h, by intro x hx; rcases List.mem_cons.1 hx with rfl | hx; exact fun e => he e.symm; exact hn x hx⟩
theorem seenS_true {f : Nat → Bool} : ∀ {set : List (Nat × Blk)} {id : Nat}, (f id = true ∨ ∃ x ∈ set, x.1 = id) → seenS f set id = true
 | [], id, h => by rcases h with h | ⟨x, hx, _⟩; exact h; simp at hx
 | (k, c) :: r, id, h => by
  rw [seenS]
  refine seenS_true ?_
  rcases h with h | ⟨x, hx, rfl⟩
  ·left; simp only [upd]; split <;> simp [h]
  ·rcases List.mem_cons.1 hx with rfl | hx
   ·left; simp [upd]
   ·exact .inr ⟨x, hx, rfl⟩
theorem RelB.mono {ι ι' : Emb} {R R' : Nat → Prop} {w w' : World} {id : Nat} {b : Blk} (h : RelB ι R w id b) (hι : ∀ id x, ι id = some x → ι' id = some x) (hR : ∀ k, R k → R' k) (hw : ∀ k, R k → w'.heap[k]? = w.heap[k]?)
  (hg : ∀ g c, ι id = some (some (g, c)) → w'.heap[g]? = w.heap[g]?) : RelB ι' R' w' id b := by
 cases b with
 | box cells =>
  obtain ⟨g, c, cur, e, hi, hh, hr, h1⟩ := h
  exact ⟨g, c, cur, e, hι _ _ hi, (hg g _ hi).trans hh, RelL.mono hι hR hw _ _ hr, h1⟩
 | row e s cells =>
  obtain ⟨n, hl, hs, hn, h⟩ := h
  refine ⟨n, hl, hs, hn, ?_⟩
  rcases h with ⟨hi, h⟩ | ⟨g, cap, base, cur, hi, hh, hz, hc, hcm, hr, h1⟩
  ·exact .inl ⟨hι _ _ hi, h⟩
  ·exact .inr ⟨g, cap, base, cur, hι _ _ hi, (hg g _ hi).trans hh, hz, hc, hcm, RelL.mono hι hR hw _ _ hr, h1⟩
 | map ks xs =>
  obtain ⟨g, c, es, ck, hi, hh, hk, hr, h1⟩ := h
  exact ⟨g, c, es, ck, hι _ _ hi, (hg g _ hi).trans hh, hk, RelL.mono hι hR hw _ _ hr, h1⟩
theorem RelB.lt {ι : Emb} {R : Nat → Prop} {w : World} {id : Nat} {b : Blk} (h : RelB ι R w id b) {g : Nat} {c : Cp} (hi : ι id = some (some (g, c))) : g < w.heap.size := by
 have key : ∀ o, w.heap[g]? = some o → g < w.heap.size := fun o ho => (Array.getElem?_eq_some_iff.1 ho).1
 cases b with
 | box cells =>
  obtain ⟨g', c', cur, e, hi', hh, _⟩ := h
  rw [hi] at hi'
  obtain ⟨rfl, rfl⟩ : g = g' ∧ c = ⟨c', 0⟩ := by simpa using hi'
  exact key _ hh
 | row e s cells =>
  obtain ⟨n, hl, hs, hn, h⟩ := h
  rcases h with ⟨hin, _⟩ | ⟨g', cap, base, cur, hi', hh, _⟩
  ·rw [hi] at hin; cases hin
  ·rw [hi] at hi'
   obtain ⟨rfl, rfl⟩ : g = g' ∧ c = ⟨cap, base⟩ := by simpa using hi'
   exact key _ hh
 | map ks xs =>
  obtain ⟨g', c', es, ck, hi', hh, _⟩ := h
  rw [hi] at hi'
  obtain ⟨rfl, rfl⟩ : g = g' ∧ c = c' := by simpa using hi'
  exact key _ hh
theorem St.Of.grow {W w w' : World} {a : Act} {σ : AS} {ι ι' : Emb} {R R' : Nat → Prop} (h : St.Of A W w a σ ι R) (hb : Below w.heap.size w w') (set : List (Nat × Blk))
  (hfresh : ∀ x ∈ set, σ.seen x.1 = false)
  (hι : ∀ id x, ι id = some x → ι' id = some x) (hι' : ∀ id x, ι' id = some x → ι id = some x ∨ ∃ y ∈ set, y.1 = id)
  (hR : ∀ k, R k → R' k) (hR' : ∀ k, R' k → R k ∨ (w.heap.size ≤ k ∧ k < w'.heap.size))
  (hset : ∀ id b, (id, b) ∈ set → RelB ι' R' w' id b)
  (hnew : ∀ id b g c, (id, b) ∈ set → ι' id = some (some (g, c)) → w.heap.size ≤ g ∧ ¬ R' g)
  (hinj : ∀ id id' b b' g c c', (id, b) ∈ set → (id', b') ∈ set → ι' id = some (some (g, c)) → ι' id' = some (some (g, c')) → id = id') :
  St.Of A W w' a { σ with heap := setH σ.heap set, seen := seenS σ.seen set } ι' R' := by
 have hold : ∀ k, R k → w'.heap[k]? = w.heap[k]? := fun k hk => hb.block k (h.lt k hk)
 have hsame : ∀ id b, σ.heap id = some b → ∀ g c, ι id = some (some (g, c)) → w'.heap[g]? = w.heap[g]? := fun id b hbk g c hi => hb.block g ((h.heap id b hbk).lt hi)
 have hun : ∀ id b, σ.heap id = some b → ∀ g c, ι' id = some (some (g, c)) → (∀ x ∈ set, x.1 ≠ id) → ι id = some (some (g, c)) := by
  intro id b hbk g c hi hne
  rcases hι' id _ hi with h' | ⟨y, hy, he⟩
  ·exact h'
  ·exact absurd he (hne y hy)
 have hWw : W.heap.size ≤ w.heap.size := h.below.size
 refine ⟨h.below.trans (.of (hb.mono hWw)), h.size, h.defers, ?_, fun t => RelA.mono hι hR hold _ _ (h.slots t), ?_, ?_, ?_, ?_, ?_, fun k hk hkW => (hR' k hk).elim (fun hk' => h.arg k hk' hkW) (fun hk' => by omega), fun i x hi hx => hι _ _ (h.pin i x hi hx), h.glob⟩
 ·intro id x hx
  refine seenS_true ?_
  rcases hι' id x hx with h' | h'
  ·exact .inl (h.seen id x h')
  ·exact .inr h'
 ·intro id b hbk
  rcases setH_some hbk with h' | ⟨h', hne⟩
  ·exact hset id b h'
  ·exact (h.heap id b h').mono hι hR hold (hsame id b h')
 ·intro id id' b b' g c c' h1 h2 h3 h4
  rcases setH_some h1 with h1' | ⟨h1', n1⟩ <;> rcases setH_some h2 with h2' | ⟨h2', n2⟩
  ·exact hinj id id' b b' g c c' h1' h2' h3 h4
  ·have e := hun id' b' h2' g c' h4 n2
   have := (h.heap id' b' h2').lt e
   have := (hnew id b g c h1' h3).1
   omega
  ·have e := hun id b h1' g c h3 n1
   have := (h.heap id b h1').lt e
   have := (hnew id' b' g c' h2' h4).1
   omega
  ·exact h.inj id id' b b' g c c' h1' h2' (hun id b h1' g c h3 n1) (hun id' b' h2' g c' h4 n2)
 ·intro id b g c h1 h3
  rcases setH_some h1 with h1' | ⟨h1', n1⟩
  ·have := (hnew id b g c h1' h3).1; exact .inl (by omega)
  ·exact h.new id b g c h1' (hun id b h1' g c h3 n1)
 ·intro k hk
  rcases hR' k hk with h' | h'
  ·have := h.lt k h'; have := hb.size; omega
  ·exact h'.2
 ·intro id b g c h1 h3 hr
  rcases setH_some h1 with h1' | ⟨h1', n1⟩
  ·exact (hnew id b g c h1' h3).2 hr
  ·have e := hun id b h1' g c h3 n1
   rcases hR' g hr with h' | h'
   ·exact h.out id b g c h1' e h'
   ·have := (h.heap id b h1').lt e; omega
end Go.Ab
set_option linter.unusedVariables false
set_option linter.unusedSectionVars false
set_option linter.unusedSimpArgs false
namespace Go.Ab
open Go.RowKit
variable {A : Env}
variable {P : Program} {T : Tab} [OfP A P]
theorem St.Of.write {W w w' : World} {a : Act} {σ : AS} {ι : Emb} {R : Nat → Prop} (h : St.Of A W w a σ ι R) {id g : Nat} {c : Cp} {b b' : Blk} (hb : σ.heap id = some b) (hi : ι id = some (some (g, c)))
  (hos : w'.os = w.os) (htp : w'.tape = w.tape) (hout : w'.output = w.output) (hsz : w'.heap.size = w.heap.size) (hoth : ∀ k, k ≠ g → w'.heap[k]? = w.heap[k]?)
  (hrel : RelB ι R w' id b') : St.Of A W w' a { σ with heap := upd σ.heap id (some b'), seen := upd σ.seen id true } ι R := by
 have hg := h.new id b g c hb hi
 have hR : ∀ k, R k → w'.heap[k]? = w.heap[k]? := fun k hk => hoth k (fun e => h.out id b g c hb hi (e ▸ hk))
 have hup : ∀ id' b'', upd σ.heap id (some b') id' = some b'' → ∃ b3, σ.heap id' = some b3 := by
  intro id' b'' h'
  simp only [upd] at h'
  split at h'
  ·rename_i he; exact ⟨b, he ▸ hb⟩
  ·exact ⟨_, h'⟩
 refine ⟨⟨hos.trans h.below.os, htp.trans h.below.tape, hout.trans h.below.output, by rw [hsz]; exact h.below.size, fun k hk hkB => (hoth k (fun e => by subst e; rcases hg with hg | hg; omega; exact hkB hg)).trans (h.below.block k hk hkB)⟩, h.size, h.defers, ?_,
  fun t => RelA.mono (fun _ _ e => e) (fun _ e => e) hR _ _ (h.slots t), ?_, ?_, ?_, ?_, ?_, h.arg, h.pin, h.glob⟩
 ·intro id' x hx
  simp only [upd]; split
  ·rfl
  ·exact h.seen id' x hx
 ·intro id' b'' h'
  simp only [upd] at h'
  split at h'
  ·rename_i he
   cases h'
   exact he ▸ hrel
  ·rename_i he
   refine (h.heap id' b'' h').mono (fun _ _ e => e) (fun _ e => e) hR ?_
   intro g' c' hi'
   exact hoth g' (fun e => he (h.inj id' id b'' b g c' c h' hb (e ▸ hi') hi))
 ·intro i1 i2 b1 b2 g' c1 c2 e1 e2 e3 e4
  obtain ⟨_, e1⟩ := hup _ _ e1
  obtain ⟨_, e2⟩ := hup _ _ e2
  exact h.inj i1 i2 _ _ g' c1 c2 e1 e2 e3 e4
 ·intro i1 b1 g' c1 e1 e2
  obtain ⟨_, e1⟩ := hup _ _ e1
  exact h.new i1 _ g' c1 e1 e2
 ·intro k hk
  rw [hsz]; exact h.lt k hk
 ·intro i1 b1 g' c1 e1 e2
  obtain ⟨_, e1⟩ := hup _ _ e1
  exact h.out i1 _ g' c1 e1 e2
theorem St.Of.rename {W w : World} {a : Act} {σ : AS} {ι : Emb} {R : Nat → Prop} (h : St.Of A W w a σ ι R) {id f : Nat} {b b' : Blk} {x y : Option (Nat × Cp)} (hb : σ.heap id = some b) (hi : ι id = some x) (hxy : ∀ g c, y = some (g, c) → ∃ c0, x = some (g, c0)) (hf : σ.seen f = false)
  (hrel : RelB (upd ι f (some y)) R w f b') : St.Of A W w a { σ with heap := upd (upd σ.heap id none) f (some b'), seen := upd σ.seen f true } (upd ι f (some y)) R := by
 have hfn : ι f = none := by
  cases e : ι f with
  | none => rfl
  | some y => have := h.seen f y e; rw [hf] at this; cases this
 have hι : ∀ id x', ι id = some x' → upd ι f (some y) id = some x' := by
  intro i z e
  simp only [upd]; split
  ·rename_i he; rw [he, hfn] at e; cases e
  ·exact e
 have hup : ∀ id' b'', upd (upd σ.heap id none) f (some b') id' = some b'' → (id' = f ∧ b'' = b') ∨ (id' ≠ f ∧ id' ≠ id ∧ σ.heap id' = some b'') := by
  intro id' b'' h'
  simp only [upd] at h'
  split at h'
  ·rename_i he; cases h'; exact .inl ⟨he, rfl⟩
  ·split at h'
   ·cases h'
   ·rename_i h1 h2; exact .inr ⟨h1, h2, h'⟩
 have hat : ∀ i, i ≠ f → upd ι f (some y) i = ι i := fun i hi => by simp [upd, hi]
 have hatf : upd ι f (some y) f = some y := by simp [upd]
 refine ⟨h.below, h.size, h.defers, ?_, fun t => RelA.mono hι (fun _ e => e) (fun _ _ => rfl) _ _ (h.slots t), ?_, ?_, ?_, h.lt, ?_, h.arg, fun i y hi hy => hι _ _ (h.pin i y hi hy), h.glob⟩
 ·intro i y hy
  simp only [upd] at hy ⊢
  split
  ·rfl
  ·rename_i hne; rw [if_neg hne] at hy; exact h.seen i y hy
 ·intro i b'' h'
  rcases hup i b'' h' with ⟨rfl, rfl⟩ | ⟨h1, h2, h3⟩
  ·exact hrel
  ·exact (h.heap i b'' h3).mono hι (fun _ e => e) (fun _ _ => rfl) (fun _ _ _ => rfl)
 ·intro i1 i2 b1 b2 g c1 c2 e1 e2 e3 e4
  rcases hup _ _ e1 with ⟨rfl, rfl⟩ | ⟨n1, m1, k1⟩ <;> rcases hup _ _ e2 with ⟨rfl, rfl⟩ | ⟨n2, m2, k2⟩
  ·rfl
  ·rw [hatf] at e3; rw [hat _ n2] at e4
   obtain ⟨c0, e0⟩ := hxy g c1 (Option.some.inj e3)
   subst e0
   exact absurd (h.inj i2 id _ _ g c2 c0 k2 hb e4 hi) m2
  ·rw [hatf] at e4; rw [hat _ n1] at e3
   obtain ⟨c0, e0⟩ := hxy g c2 (Option.some.inj e4)
   subst e0
   exact absurd (h.inj i1 id _ _ g c1 c0 k1 hb e3 hi) m1
  ·rw [hat _ n1] at e3; rw [hat _ n2] at e4
   exact h.inj i1 i2 _ _ g c1 c2 k1 k2 e3 e4
 ·intro i1 b1 g c1 e1 e2
  rcases hup _ _ e1 with ⟨rfl, rfl⟩ | ⟨n1, m1, k1⟩
  ·rw [hatf] at e2
   obtain ⟨c0, e0⟩ := hxy g c1 (Option.some.inj e2)
   subst e0
   exact h.new id b g c0 hb hi
  ·rw [hat _ n1] at e2
   exact h.new i1 _ g c1 k1 e2
 ·intro i1 b1 g c1 e1 e2
  rcases hup _ _ e1 with ⟨rfl, rfl⟩ | ⟨n1, m1, k1⟩
  ·rw [hatf] at e2
   obtain ⟨c0, e0⟩ := hxy g c1 (Option.some.inj e2)
   subst e0
   exact h.out id b g c0 hb hi
  ·rw [hat _ n1] at e2
   exact h.out i1 _ g c1 k1 e2
theorem St.Of.forget {W w : World} {a : Act} {σ : AS} {ι : Emb} {R : Nat → Prop} (h : St.Of A W w a σ ι R) (id : Nat) : St.Of A W w a { σ with heap := upd σ.heap id none } ι R := by
 have hup : ∀ id' b'', upd σ.heap id none id' = some b'' → σ.heap id' = some b'' := by
  intro id' b'' h'
  simp only [upd] at h'
  split at h'
  ·cases h'
  ·exact h'
 exact ⟨h.below, h.size, h.defers, h.seen, h.slots, fun i b e => h.heap i b (hup i b e), fun i1 i2 b1 b2 g c1 c2 e1 e2 => h.inj i1 i2 b1 b2 g c1 c2 (hup _ _ e1) (hup _ _ e2), fun i b g c e => h.new i b g c (hup _ _ e), h.lt, fun i b g c e => h.out i b g c (hup _ _ e), h.arg, h.pin, h.glob⟩
theorem ones_of {ι : Emb} {R : Nat → Prop} {w : World} : ∀ {xs : List AV} {us : List Value}, RelL ι R w xs us → xs.all AV.one = true → Ones us
 | [], [], _, _ => by intro u hu; simp at hu
 | x :: xs, u :: us, h, h1 => by
  simp only [RelL, List.all_cons, Bool.and_eq_true] at h h1
  intro v hv
  rcases List.mem_cons.1 hv with rfl | hv
  ·exact RelA.one h.1 h1.1
  ·exact ones_of h.2 h1.2 v hv
 | [], _ :: _, h, _ => by simp [RelL] at h
 | _ :: _, [], h, _ => by simp [RelL] at h
theorem setCells_get : ∀ (cs cells : List AV) (off j : Nat), off + cs.length ≤ cells.length → (setCells cells off cs)[j]? = if j < off then cells[j]? else if j < off + cs.length then cs[j - off]? else cells[j]?
 | [], cells, off, j, h => by
  simp only [setCells, List.length_nil, Nat.add_zero]
  split
  ·rfl
  ·rfl
 | c :: cs, cells, off, j, h => by
  rw [setCells, setCells_get cs (cells.set off c) (off + 1) j (by simp at h ⊢; omega)]
  simp only [List.length_cons, List.getElem?_set] at h ⊢
  by_cases h1 : j < off
  ·rw [if_pos (by omega), if_neg (by omega), if_pos h1]
  ·by_cases h2 : j = off
   ·subst h2
    rw [if_pos (by omega), if_pos rfl, if_pos (by omega), if_neg h1, if_pos (by omega)]
    simp
   ·rw [if_neg (by omega), if_neg h1]
    by_cases h3 : j < off + (cs.length + 1)
    ·rw [if_pos (by omega), if_pos h3]
     obtain ⟨k, hk⟩ : ∃ k, j - off = k + 1 := ⟨j - off - 1, by omega⟩
     rw [show j - (off + 1) = k by omega, hk]
     simp
    ·rw [if_neg (by omega), if_neg h3, if_neg (fun e => h2 e.symm)]
theorem RelL.seg {ι : Emb} {R : Nat → Prop} {w : World} {cs cells : List AV} {vs us : List Value} (off : Nat) (hc : RelL ι R w cs vs) (h : RelL ι R w cells us) (hl : off + cs.length ≤ cells.length) :
  RelL ι R w (setCells cells off cs) (us.take off ++ vs ++ us.drop (off + vs.length)) := by
 have l1 := hc.length
 have l2 := h.length
 refine RelL.of_get (by rw [setCells_length]; simp; omega) ?_
 intro i x u hx hu
 rw [setCells_get cs cells off i hl] at hx
 split at hx
 ·rename_i h1
  rw [List.append_assoc, List.getElem?_append_left (by simp; omega), List.getElem?_take, if_pos h1] at hu
  obtain ⟨u', hu', hr⟩ := h.get i x hx
  rw [hu] at hu'; cases hu'; exact hr
 ·split at hx
  ·rename_i h1 h2
   rw [List.append_assoc, List.getElem?_append_right (by simp; omega), List.getElem?_append_left (by simp; omega)] at hu
   obtain ⟨u', hu', hr⟩ := hc.get _ x hx
   have : i - (us.take off).length = i - off := by simp; omega
   rw [this] at hu
   rw [hu] at hu'; cases hu'; exact hr
  ·rename_i h1 h2
   rw [List.getElem?_append_right (by simp; omega), List.getElem?_drop] at hu
   have : off + vs.length + (i - (us.take off ++ vs).length) = i := by simp; omega
   rw [this] at hu
   obtain ⟨u', hu', hr⟩ := h.get i x hx
   rw [hu] at hu'; cases hu'; exact hr
end Go.Ab
