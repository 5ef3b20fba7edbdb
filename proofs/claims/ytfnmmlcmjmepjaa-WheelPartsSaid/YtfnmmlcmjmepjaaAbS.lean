import Derived.Test.YtfnmmlcmjmepjaaAbR
set_option linter.unusedVariables false
set_option linter.unusedSimpArgs false
namespace Go.Ab
open Go.RowKit
variable {P : Program} {T : Tab}
abbrev Ren := List (Nat × Option Nat)
def renOf : Ren → Nat → Option Nat
 | [], _ => none
 | (k, v) :: r, i => if i = k then v else renOf r i
def notImg : Ren → Nat → Prop
 | [], _ => True
 | (_, none) :: r, id => notImg r id
 | (_, some k) :: r, id => k ≠ id ∧ notImg r id
def distinctImg : Ren → Prop
 | [] => True
 | (_, none) :: r => distinctImg r
 | (_, some k) :: r => notImg r k ∧ distinctImg r
def lookH : List (Nat × Blk) → Nat → Option Blk
 | [], _ => none
 | (k, b) :: r, i => if i = k then some b else lookH r i
def lookS : List (Nat × AV) → Nat → AV
 | [], _ => .junk
 | (k, v) :: r, t => if t = k then v else lookS r t
def mk (n : Nat) (l : List (Nat × AV)) (h : List (Nat × Blk)) (fz : List Nat := []) (pins : Nat := 0) : AS := { n := n, slots := lookS l, heap := lookH h, seen := fun id => decide (id < 16384), fz := fz, pins := pins }
theorem wrap_id {x : Int} (h1 : -9223372036854775808 ≤ x) (h2 : x ≤ 9223372036854775807) : IntKind.i64.wrap x = x := by
 have := IntWalk.i64_in x ⟨h1, h2⟩
 exact this
def pvEq : PV → PV → Prop
 | .raw v, .raw v' => v = v'
 | .ro s n c, .ro s' n' c' => s = s' ∧ n = n' ∧ ∀ i, i < n → ∀ j, j < s → c i j = c' i j
 | .raw v, .ro s n c => v = .slice none 0 0 ∧ n = 0
 | _, _ => False
def rowEq (H : Heap) (id s off len : Nat) (c : Nat → Nat → PV) : Prop :=
 match H id with
 | some (.row _ s' cells) => s' = s ∧ ∀ i, i < len → ∀ j, j < s → cells[(off + i) * s + j]? = some (.pv (c i j))
 | _ => False
def wk0 (ρ : Ren) (H : Heap) : AV → PV → Prop
 | .pv p, q => pvEq p q
 | .row id s off len, .ro s' n c => s = s' ∧ len = n ∧ notImg ρ id ∧ rowEq H id s off len c
 | _, _ => False
def boxEq (ρ : Ren) (H : Heap) (id off n : Nat) (cell : Nat → PV) : Prop :=
 match H id with
 | some b => ∃ x : Nat → AV, (∀ j, j < n → b.cells[off + j]? = some (x j)) ∧ ∀ j, j < n → wk0 ρ H (x j) (cell j)
 | none => False
mutual
def wk1 (ρ : Ren) (D : Nat → Option Blk) (H : Heap) : AV → AV → Prop
 | .pv p, .pv q => pvEq p q
 | .pv (.raw v), .row i s off len => v = .slice none 0 0 ∧ renOf ρ i = none ∧ (D i).isSome = true ∧ off = 0 ∧ len = 0
 | .row id s off len, .pv (.ro s' n c) => s = s' ∧ len = n ∧ notImg ρ id ∧ rowEq H id s off len c
 | .row id s off len, .row i s' off' len' => renOf ρ i = some id ∧ (D i).isSome = true ∧ s = s' ∧ off = off' ∧ len = len'
 | .ptr id off, .ptr i off' => renOf ρ i = some id ∧ (D i).isSome = true ∧ off = off'
 | .pix id off, .pix i off' => renOf ρ i = some id ∧ (D i).isSome = true ∧ off = off'
 | .map id, .map i => renOf ρ i = some id ∧ (D i).isSome = true
 | .ptr id off, .roat n cell => notImg ρ id ∧ boxEq ρ H id off n cell
 | .roat n c, .roat n' c' => n' ≤ n ∧ ∀ j, j < n' → pvEq (c j) (c' j)
 | .agg xs, .agg ys => wkL ρ D H xs ys
 | .tup xs, .tup ys => wkL ρ D H xs ys
 | .fn f xs, .fn f' ys => f = f' ∧ wkL ρ D H xs ys
 | _, .junk => True
 | _, _ => False
def wkL (ρ : Ren) (D : Nat → Option Blk) (H : Heap) : List AV → List AV → Prop
 | [], [] => True
 | x :: xs, y :: ys => wk1 ρ D H x y ∧ wkL ρ D H xs ys
 | _, _ => False
end
def freeOf (ρ : Ren) (id : Nat) : Prop := notImg ρ id
theorem pvEq_wk {ρ : Nat → Option Nat} {D F : Nat → Prop} {H : Heap} {p q : PV} (h : pvEq p q) : Wk ρ D F H (.pv p) (.pv q) := by
 cases p with
 | raw v =>
  cases q with
  | raw v' => simp only [pvEq] at h; subst h; exact .pv _
  | ro s n c => simp only [pvEq] at h; obtain ⟨rfl, rfl⟩ := h; exact .nil s c
 | ro s n c =>
  cases q with
  | raw v => exact h.elim
  | ro s' n' c' =>
   simp only [pvEq] at h
   obtain ⟨rfl, rfl, h⟩ := h
   exact .roro s n c c' fun i hi j hj => by rw [h i hi j hj]; exact .pv _
theorem wk0_sound {ρ : Ren} {D : Nat → Prop} {H : Heap} {x : AV} {q : PV} (h : wk0 ρ H x q) : Wk (renOf ρ) D (freeOf ρ) H x (.pv q) := by
 unfold wk0 at h
 split at h
 ·exact pvEq_wk h
 ·rename_i id s off len s' n c
  obtain ⟨rfl, rfl, h1, h2⟩ := h
  unfold rowEq at h2
  split at h2
  ·rename_i e s' cells hh
   obtain ⟨rfl, h2⟩ := h2
   exact .row id e _ off len cells c (fun i j => .pv (c i j)) h1 hh h2 fun i _ j _ => .pv _
  ·exact h2.elim
 ·exact h.elim
mutual
theorem wk1_sound {ρ : Ren} {D : Nat → Option Blk} {H : Heap} : ∀ {x y : AV}, wk1 ρ D H x y → Wk (renOf ρ) (fun id => D id ≠ none) (freeOf ρ) H x y
 | .pv p, .pv q, h => by simp only [wk1] at h; exact pvEq_wk h
 | .pv (.raw v), .row i s off len, h => by
  simp only [wk1] at h
  obtain ⟨rfl, h1, h2, rfl, rfl⟩ := h
  exact .nilrow i s h1 (by intro e; rw [e] at h2; cases h2)
 | .row id s off len, .pv (.ro s' n c), h => by
  simp only [wk1] at h
  obtain ⟨rfl, rfl, h1, h2⟩ := h
  unfold rowEq at h2
  split at h2
  ·rename_i e s' cells hh
   obtain ⟨rfl, h2⟩ := h2
   exact .row id e _ off len cells c (fun i j => .pv (c i j)) h1 hh h2 fun i _ j _ => .pv _
  ·exact h2.elim
 | .row id s off len, .row i s' off' len', h => by
  simp only [wk1] at h
  obtain ⟨h1, h2, rfl, rfl, rfl⟩ := h
  exact .rows i id s off len h1 (by intro e; rw [e] at h2; cases h2)
 | .ptr id off, .ptr i off', h => by
  simp only [wk1] at h
  obtain ⟨h1, h2, rfl⟩ := h
  exact .ptr i id off h1 (by intro e; rw [e] at h2; cases h2)
 | .pix id off, .pix i off', h => by
  simp only [wk1] at h
  obtain ⟨h1, h2, rfl⟩ := h
  exact .pixs i id off h1 (by intro e; rw [e] at h2; cases h2)
 | .map id, .map i, h => by
  simp only [wk1] at h
  exact .maps i id h.1 (by intro e; rw [e] at h; cases h.2)
 | .ptr id off, .roat n cell, h => by
  simp only [wk1] at h
  obtain ⟨h1, h2⟩ := h
  unfold boxEq at h2
  split at h2
  ·rename_i b hb
   obtain ⟨x, h3, h4⟩ := h2
   exact .ptro id off n b cell x h1 hb h3 fun j hj => wk0_sound (h4 j hj)
  ·exact h2.elim
 | .roat n c, .roat n' c', h => by
  simp only [wk1] at h
  exact .roats n n' c c' h.1 fun j hj => pvEq_wk (h.2 j hj)
 | .agg xs, .agg ys, h => by simp only [wk1] at h; exact (wkL_sound h).1
 | .tup xs, .tup ys, h => by simp only [wk1] at h; exact (wkL_sound h).2.1
 | .fn f xs, .fn f' ys, h => by
  simp only [wk1] at h
  obtain ⟨rfl, h⟩ := h
  exact (wkL_sound h).2.2 f
 | x, .junk, h => .junk x
 | .pv (.ro _ _ _), .row .., h | .pv _, .ptr .., h | .pv _, .roat .., h | .pv _, .agg _, h | .pv _, .tup _, h | .pv _, .fn .., h | .pv _, .gd .., h | .pv _, .pix .., h | .pv _, .map _, h => by simp [wk1] at h
 | .row .., .pv (.raw _), h | .row .., .ptr .., h | .row .., .roat .., h | .row .., .agg _, h | .row .., .tup _, h | .row .., .fn .., h | .row .., .gd .., h | .row .., .pix .., h | .row .., .map _, h => by simp [wk1] at h
 | .ptr .., .pv _, h | .ptr .., .row .., h | .ptr .., .agg _, h | .ptr .., .tup _, h | .ptr .., .fn .., h | .ptr .., .gd .., h | .ptr .., .pix .., h | .ptr .., .map _, h => by simp [wk1] at h
 | .agg _, .pv _, h | .agg _, .row .., h | .agg _, .ptr .., h | .agg _, .roat .., h | .agg _, .tup _, h | .agg _, .fn .., h | .agg _, .gd .., h | .agg _, .pix .., h | .agg _, .map _, h => by simp [wk1] at h
 | .tup _, .pv _, h | .tup _, .row .., h | .tup _, .ptr .., h | .tup _, .roat .., h | .tup _, .agg _, h | .tup _, .fn .., h | .tup _, .gd .., h | .tup _, .pix .., h | .tup _, .map _, h => by simp [wk1] at h
 | .fn .., .pv _, h | .fn .., .row .., h | .fn .., .ptr .., h | .fn .., .roat .., h | .fn .., .agg _, h | .fn .., .tup _, h | .fn .., .gd .., h | .fn .., .pix .., h | .fn .., .map _, h => by simp [wk1] at h
 | .roat .., .pv _, h | .roat .., .row .., h | .roat .., .ptr .., h | .roat .., .agg _, h | .roat .., .tup _, h | .roat .., .fn .., h | .roat .., .gd .., h | .roat .., .pix .., h | .roat .., .map _, h => by simp [wk1] at h
 | .gd .., .pv _, h | .gd .., .row .., h | .gd .., .ptr .., h | .gd .., .roat .., h | .gd .., .agg _, h | .gd .., .tup _, h | .gd .., .fn .., h | .gd .., .gd .., h | .gd .., .pix .., h | .gd .., .map _, h => by simp [wk1] at h
 | .junk, .pv _, h | .junk, .row .., h | .junk, .ptr .., h | .junk, .roat .., h | .junk, .agg _, h | .junk, .tup _, h | .junk, .fn .., h | .junk, .gd .., h | .junk, .pix .., h | .junk, .map _, h => by simp [wk1] at h
 | .pix .., .pv _, h | .pix .., .row .., h | .pix .., .ptr .., h | .pix .., .roat .., h | .pix .., .agg _, h | .pix .., .tup _, h | .pix .., .fn .., h | .pix .., .gd .., h | .pix .., .map _, h => by simp [wk1] at h
 | .map _, .pv _, h | .map _, .row .., h | .map _, .ptr .., h | .map _, .pix .., h | .map _, .roat .., h | .map _, .agg _, h | .map _, .tup _, h | .map _, .fn .., h | .map _, .gd .., h => by simp [wk1] at h
theorem wkL_sound {ρ : Ren} {D : Nat → Option Blk} {H : Heap} : ∀ {xs ys : List AV}, wkL ρ D H xs ys → Wk (renOf ρ) (fun id => D id ≠ none) (freeOf ρ) H (.agg xs) (.agg ys) ∧ Wk (renOf ρ) (fun id => D id ≠ none) (freeOf ρ) H (.tup xs) (.tup ys) ∧ ∀ f, Wk (renOf ρ) (fun id => D id ≠ none) (freeOf ρ) H (.fn f xs) (.fn f ys)
 | [], [], h => ⟨.agg0, .tup0, fun f => .fn0 f⟩
 | x :: xs, y :: ys, h => by
  simp only [wkL] at h
  obtain ⟨h1, h2, h3⟩ := wkL_sound h.2
  exact ⟨.agg _ _ _ _ (wk1_sound h.1) h1, .tup _ _ _ _ (wk1_sound h.1) h2, fun f => .fn f _ _ _ _ (wk1_sound h.1) (h3 f)⟩
 | [], _ :: _, h => by simp [wkL] at h
 | _ :: _, [], h => by simp [wkL] at h
end
theorem allPv_wk {ρ : Nat → Option Nat} {D F : Nat → Prop} {H : Heap} : ∀ {cs : List AV}, AllPv cs → Wk ρ D F H (.agg cs) (.agg cs)
 | [], _ => .agg0
 | c :: cs, h => by
  obtain ⟨p, rfl⟩ := h c (by simp)
  exact .agg _ _ _ _ (.pv p) (allPv_wk fun d hd => h d (by simp [hd]))
def subB (ρ : Ren) (D : Nat → Option Blk) (H : Heap) (i : Nat) (b : Blk) : Prop :=
 match renOf ρ i with
 | none => match b with
  | .row _ s [] => 0 < s
  | _ => False
 | some id => match b, H id with
  | .box cs, some (.box cs') => wkL ρ D H cs' cs
  | .row e s cs, some (.row e' s' cs') => e = e' ∧ s = s' ∧ cs' = cs ∧ AllPv cs
  | .map ks xs, some (.map ks' xs') => ks = ks' ∧ xs' = xs ∧ AllPv xs
  | _, _ => False
def subHeap (ρ : Ren) (D : Nat → Option Blk) (H : Heap) : List (Nat × Blk) → Prop
 | [] => True
 | (i, b) :: r => i < 16384 ∧ subB ρ D H i b ∧ subHeap ρ D H r
def subSlots (ρ : Ren) (D : Nat → Option Blk) (σ : AS) : List (Nat × AV) → Prop
 | [] => True
 | (t, y) :: r => ((σ.slots t).when = true ∧ wk1 ρ D σ.heap (σ.slots t).bare y) ∧ subSlots ρ D σ r
theorem notImg_ne {k : Nat} : ∀ {ρ : Ren} {i : Nat}, renOf ρ i = some k → notImg ρ k → False
 | [], i, h, _ => by simp [renOf] at h
 | (a, none) :: r, i, h, hn => by
  simp only [renOf, notImg] at h hn
  split at h
  ·cases h
  ·exact notImg_ne h hn
 | (a, some b) :: r, i, h, hn => by
  simp only [renOf, notImg] at h hn
  split at h
  ·cases h; exact hn.1 rfl
  ·exact notImg_ne h hn.2
theorem renOf_inj : ∀ {ρ : Ren}, distinctImg ρ → ∀ {i j k : Nat}, renOf ρ i = some k → renOf ρ j = some k → i = j
 | [], _, i, j, k, h, _ => by simp [renOf] at h
 | (a, none) :: r, hd, i, j, k, h1, h2 => by
  simp only [renOf, distinctImg] at h1 h2 hd
  split at h1
  ·cases h1
  ·split at h2
   ·cases h2
   ·exact renOf_inj hd h1 h2
 | (a, some b) :: r, hd, i, j, k, h1, h2 => by
  simp only [renOf, distinctImg] at h1 h2 hd
  split at h1
  ·rename_i hi
   split at h2
   ·rename_i hj; omega
   ·cases h1; exact (notImg_ne h2 hd.1).elim
  ·split at h2
   ·cases h2; exact (notImg_ne h1 hd.1).elim
   ·exact renOf_inj hd.2 h1 h2
theorem subB_sound {ρ : Ren} {σ τ : AS} {i : Nat} {b : Blk} (h : subB ρ τ.heap σ.heap i b) : SubB (renOf ρ) (freeOf ρ) σ τ i b := by
 unfold subB at h
 unfold SubB
 cases hr : renOf ρ i with
 | none => rw [hr] at h; exact h
 | some id =>
  rw [hr] at h
  simp only at h ⊢
  refine ⟨fun hf => notImg_ne hr hf, ?_⟩
  cases hh : σ.heap id with
  | none => rw [hh] at h; cases b <;> exact h.elim
  | some b' =>
   rw [hh] at h
   cases b <;> cases b' <;> simp only at h ⊢
   ·exact (wkL_sound h).1
   ·obtain ⟨rfl, rfl, rfl, hp⟩ := h
    exact ⟨rfl, rfl, allPv_wk hp⟩
   ·obtain ⟨rfl, rfl, hp⟩ := h
    exact ⟨rfl, allPv_wk hp⟩
theorem subHeap_mem {ρ : Ren} {D : Nat → Option Blk} {H : Heap} : ∀ {l : List (Nat × Blk)}, subHeap ρ D H l → ∀ i b, lookH l i = some b → i < 16384 ∧ subB ρ D H i b
 | [], _, i, b, h => by simp [lookH] at h
 | (k, c) :: r, hs, i, b, h => by
  simp only [lookH, subHeap] at h hs
  split at h
  ·rename_i he; subst he; cases h; exact ⟨hs.1, hs.2.1⟩
  ·exact subHeap_mem hs.2.2 i b h
theorem subSlots_mem {ρ : Ren} {D : Nat → Option Blk} {σ : AS} : ∀ {l : List (Nat × AV)}, subSlots ρ D σ l → ∀ t, lookS l t = .junk ∨ ((σ.slots t).when = true ∧ wk1 ρ D σ.heap (σ.slots t).bare (lookS l t))
 | [], _, t => .inl rfl
 | (k, v) :: r, hs, t => by
  simp only [lookS, subSlots] at hs ⊢
  split
  ·rename_i he; subst he; exact .inr hs.1
  ·exact subSlots_mem hs.2 t
def pinsB (ρ : Ren) (h : List (Nat × Blk)) (m : Nat) : Nat → Bool
 | 0 => true
 | k + 1 => Nat.blt k m && (match renOf ρ k with | some i => Nat.beq i k | none => false) && (lookH h k).isSome && pinsB ρ h m k
theorem pinsB_ok {ρ : Ren} {h : List (Nat × Blk)} {m : Nat} : ∀ {k : Nat}, pinsB ρ h m k = true → ∀ i, i < k → i < m ∧ renOf ρ i = some i ∧ lookH h i ≠ none
 | 0, _, i, hi => absurd hi (Nat.not_lt_zero _)
 | k + 1, hb, i, hi => by
  simp only [pinsB, Bool.and_eq_true] at hb
  by_cases he : i = k
  ·subst he
   refine ⟨Nat.le_of_ble_eq_true hb.1.1.1, ?_, ?_⟩
   ·have := hb.1.1.2
    split at this
    ·rename_i j hj; rw [hj, Nat.eq_of_beq_eq_true this]
    ·cases this
   ·intro e; rw [e] at hb; simp at hb
  ·exact pinsB_ok hb.2 i (by omega)
theorem sub_mk {σ : AS} (ρ : Ren) {n : Nat} {l : List (Nat × AV)} {h : List (Nat × Blk)} {fz : List Nat} {pins : Nat} (hn : n = σ.n) (h1 : subSlots ρ (lookH h) σ l) (h2 : subHeap ρ (lookH h) σ.heap h) (h3 : distinctImg ρ) (h4 : pinsB ρ h σ.pins pins = true) : Sub σ (mk n l h fz pins) := by
 refine ⟨renOf ρ, freeOf ρ, hn, fun t => ?_, fun i b hb => ?_, fun i hi => pinsB_ok h4 i hi, fun i j b c k _ _ e1 e2 => renOf_inj h3 e1 e2⟩
 ·rcases subSlots_mem h1 t with h | ⟨hw, hk⟩
  ·exact .inl h
  ·exact .inr ⟨hw, wk1_sound hk⟩
 ·obtain ⟨hi, hb'⟩ := subHeap_mem h2 i b hb
  refine ⟨?_, subB_sound (τ := mk n l h fz pins) hb'⟩
  exact decide_eq_true hi
def subHb (ρ : Ren) (D : Nat → Option Blk) (H : Heap) : Nat → List Blk → Prop
 | _, [] => True
 | i, b :: r => subB ρ D H i b ∧ subHb ρ D H (i + 1) r
theorem subHb_get {ρ : Ren} {D : Nat → Option Blk} {H : Heap} : ∀ {hb : List Blk} {k : Nat}, subHb ρ D H k hb → ∀ i b, hb[i]? = some b → subB ρ D H (k + i) b
 | [], k, _, i, b, h => by simp at h
 | c :: r, k, hs, 0, b, h => by simp at h; subst h; exact hs.1
 | c :: r, k, hs, i + 1, b, h => by
  have := subHb_get hs.2 i b (by simpa using h)
  rw [show k + (i + 1) = k + 1 + i by omega]
  exact this
theorem retQ_of {fn : Func} {al : Bool} {res : AV} {hb : List Blk} {e : Exit} {σ : AS} (ρ : Ren) (he : e = .ret ∨ e = .normal) {rs : Array ResultVar} (hrs : fn.results = rs) (h1 : (resAll T σ rs.toList).1) (h2 : al = false → res.bald = true ∧ ∀ b ∈ hb, AV.baldL b.all = true)
  (h3 : wk1 ρ (hbHeap hb) σ.heap (asTup (resAll T σ rs.toList).2) res) (h4 : subHb ρ (hbHeap hb) σ.heap 0 hb) (h5 : distinctImg ρ) : retQ T fn al res hb e σ := by
 subst hrs
 have key : (resAll T σ fn.results.toList).1 ∧ (al = false → res.bald = true ∧ ∀ b ∈ hb, AV.baldL b.all = true) ∧ ∃ ρ F,
   Wk ρ (fun id => hbHeap hb id ≠ none) F σ.heap (asTup (resAll T σ fn.results.toList).2) res ∧
   SubC ρ F σ { n := σ.n, slots := fun _ => .junk, heap := hbHeap hb, seen := fun _ => true } := by
  refine ⟨h1, h2, renOf ρ, freeOf ρ, wk1_sound h3, rfl, fun t => .inl rfl, fun i b hib => ⟨rfl, ?_⟩, fun i hi => absurd hi (Nat.not_lt_zero _), fun i j b c k _ _ e1 e2 => renOf_inj h5 e1 e2⟩
  have := subHb_get h4 i b hib
  rw [Nat.zero_add] at this
  exact subB_sound (τ := { n := σ.n, slots := fun _ => .junk, heap := hbHeap hb, seen := fun _ => true }) this
 rcases he with rfl | rfl <;> exact key
def pinsO (ρ : Ren) (n m : Nat) : Nat → Bool
 | 0 => true
 | k + 1 => Nat.blt k m && Nat.blt k n && (match renOf ρ k with | some i => Nat.beq i k | none => false) && pinsO ρ n m k
theorem pinsO_ok {ρ : Ren} {n m : Nat} : ∀ {k : Nat}, pinsO ρ n m k = true → ∀ i, i < k → i < m ∧ i < n ∧ renOf ρ i = some i
 | 0, _, i, hi => absurd hi (Nat.not_lt_zero _)
 | k + 1, hb, i, hi => by
  simp only [pinsO, Bool.and_eq_true] at hb
  by_cases he : i = k
  ·subst he
   refine ⟨Nat.le_of_ble_eq_true hb.1.1.1, Nat.le_of_ble_eq_true hb.1.1.2, ?_⟩
   have := hb.1.2
   split at this
   ·rename_i j hj; rw [hj, Nat.eq_of_beq_eq_true this]
   ·cases this
  ·exact pinsO_ok hb.2 i (by omega)
theorem retM_of {fn : Func} {nk : Nat} {al : Bool} {res : AV} {hb : List Blk} {e : Exit} {σ : AS} (ρ : Ren) (he : e = .ret ∨ e = .normal) {rs : Array ResultVar} (hrs : fn.results = rs) (h1 : (resAll T σ rs.toList).1) (h2 : al = false → res.bald = true ∧ ∀ b ∈ hb, AV.baldL b.all = true)
  (h3 : wk1 ρ (hbHeap hb) σ.heap (asTup (resAll T σ rs.toList).2) res) (h4 : subHb ρ (hbHeap hb) σ.heap 0 hb) (h5 : distinctImg ρ) (h6 : pinsO ρ hb.length σ.pins nk = true) : retM0 T fn nk al res hb e σ := by
 subst hrs
 have key : (resAll T σ fn.results.toList).1 ∧ (al = false → res.bald = true ∧ ∀ b ∈ hb, AV.baldL b.all = true) ∧ ∃ ρ F,
   Wk ρ (fun id => hbHeap hb id ≠ none) F σ.heap (asTup (resAll T σ fn.results.toList).2) res ∧
   SubC ρ F σ { n := σ.n, slots := fun _ => .junk, heap := hbHeap hb, seen := fun _ => true, pins := nk } := by
  refine ⟨h1, h2, renOf ρ, freeOf ρ, wk1_sound h3, rfl, fun t => .inl rfl, fun i b hib => ⟨rfl, ?_⟩, fun i hi => ?_, fun i j b c k _ _ e1 e2 => renOf_inj h5 e1 e2⟩
  ·have := subHb_get h4 i b hib
   rw [Nat.zero_add] at this
   exact subB_sound (τ := { n := σ.n, slots := fun _ => .junk, heap := hbHeap hb, seen := fun _ => true, pins := nk }) this
  ·obtain ⟨p1, p2, p3⟩ := pinsO_ok h6 i hi
   refine ⟨p1, p3, ?_⟩
   show hb[i]? ≠ none
   simp [p2]
 rcases he with rfl | rfl <;> exact key
theorem firstPV_pv (f : Nat → PV) : ∀ (n s : Nat), AllPv (firstPV f s n)
 | 0, s => by intro c hc; simp [firstPV] at hc
 | n + 1, s => by
  intro c hc
  simp only [firstPV, List.mem_cons] at hc
  rcases hc with rfl | hc
  ·exact ⟨_, rfl⟩
  ·exact firstPV_pv f n (s + 1) c hc
theorem firstPV_bald {f : Nat → PV} : ∀ {n s : Nat}, (∀ j, j < s + n → ∃ v, f j = .raw v) → AV.baldL (firstPV f s n) = true
 | 0, s, _ => rfl
 | n + 1, s, h => by
  obtain ⟨v, hv⟩ := h s (by omega)
  simp only [firstPV, AV.baldL, hv, AV.bald, Bool.true_and]
  exact firstPV_bald fun j hj => h j (by omega)
theorem baldL_append : ∀ {xs ys : List AV}, AV.baldL xs = true → AV.baldL ys = true → AV.baldL (xs ++ ys) = true
 | [], ys, _, h => h
 | x :: xs, ys, h, h' => by
  simp only [AV.baldL, List.cons_append, Bool.and_eq_true] at h ⊢
  exact ⟨h.1, baldL_append h.2 h'⟩
theorem roL_length (s n : Nat) (c : Nat → Nat → PV) : (roL s n c).length = n * s := by
 unfold roL
 rw [List.length_flatMap]
 simp [firstPV_length, List.map_const']
def args1 (H : Heap) : List AV → List AV → Prop
 | [], [] => True
 | x :: xs, y :: ys => wk1 [] (fun _ => none) H x y ∧ args1 H xs ys
 | _, _ => False
theorem args1_sound {H : Heap} : ∀ {xs ys : List AV}, args1 H xs ys → WkArgs H xs ys
 | [], [], _ => trivial
 | x :: xs, y :: ys, h => by
  refine ⟨?_, args1_sound h.2⟩
  have := wk1_sound h.1
  have e1 : renOf [] = fun _ => none := by funext i; rfl
  have e2 : freeOf [] = fun _ => True := by funext i; rfl
  have e3 : (fun id => (fun _ => none : Nat → Option Blk) id ≠ none) = fun _ => False := by funext i; simp
  rw [e1, e2, e3] at this
  exact this
 | [], _ :: _, h => h.elim
 | _ :: _, [], h => h.elim
def pvs : List AV → Prop
 | [] => True
 | .pv _ :: r => pvs r
 | _ => False
def plainL : List AV → Prop
 | [] => True
 | .pv _ :: r => plainL r
 | .agg xs :: r => pvs xs ∧ plainL r
 | _ => False
theorem pvs_mem : ∀ {l : List AV}, pvs l → ∀ x ∈ l, ∃ p, x = .pv p
 | [], _, x, hx => by simp at hx
 | .pv p :: r, h, x, hx => by
  rcases List.mem_cons.1 hx with rfl | hx
  ·exact ⟨p, rfl⟩
  ·exact pvs_mem (l := r) h x hx
 | .ptr .. :: _, h, _, _ | .pix .. :: _, h, _, _ | .row .. :: _, h, _, _ | .roat .. :: _, h, _, _ | .agg _ :: _, h, _, _ | .tup _ :: _, h, _, _ | .fn .. :: _, h, _, _ | .gd .. :: _, h, _, _ | .junk :: _, h, _, _ => h.elim
theorem plainL_mem : ∀ {l : List AV}, plainL l → ∀ x ∈ l, Plain x
 | [], _, x, hx => by simp at hx
 | .pv p :: r, h, x, hx => by
  rcases List.mem_cons.1 hx with rfl | hx
  ·trivial
  ·exact plainL_mem (l := r) h x hx
 | .agg xs :: r, h, x, hx => by
  rcases List.mem_cons.1 hx with rfl | hx
  ·exact pvs_mem h.1
  ·exact plainL_mem h.2 x hx
 | .ptr .. :: _, h, _, _ | .pix .. :: _, h, _, _ | .row .. :: _, h, _, _ | .roat .. :: _, h, _, _ | .tup _ :: _, h, _, _ | .fn .. :: _, h, _, _ | .gd .. :: _, h, _, _ | .junk :: _, h, _, _ => h.elim
theorem roL_get {s n i j : Nat} {c : Nat → Nat → PV} (hi : i < n) (hj : j < s) : (roL s n c)[i * s + j]? = some (.pv (c i j)) := by
 have inner : ∀ (f : Nat → PV) (m k j : Nat), j < m → (firstPV f k m)[j]? = some (.pv (f (k + j))) := by
  intro f m
  induction m with
  | zero => intro k j h; omega
  | succ m ih =>
   intro k j h
   cases j with
   | zero => simp [firstPV]
   | succ j => simp only [firstPV, List.getElem?_cons_succ]; rw [ih (k + 1) j (by omega)]; congr 3; omega
 induction n with
 | zero => omega
 | succ n ih =>
  have hr : roL s (n + 1) c = roL s n c ++ firstPV (c n) 0 s := by
   unfold roL
   rw [List.range_succ, List.flatMap_append]
   simp
  rw [hr]
  by_cases hlt : i < n
  ·rw [List.getElem?_append_left]
   ·exact ih hlt
   ·rw [roL_length]
    calc i * s + j < i * s + s := by omega
     _ = (i + 1) * s := by rw [Nat.add_mul]; omega
     _ ≤ n * s := Nat.mul_le_mul_right _ hlt
  ·obtain rfl : i = n := by omega
   rw [List.getElem?_append_right (by rw [roL_length]; omega), roL_length]
   rw [show i * s + j - i * s = j by omega, inner _ _ _ _ hj]
   congr 3; omega
theorem upL_pv (k : Nat) : ∀ {cs : List AV}, AllPv cs → AV.upL k cs = cs
 | [], _ => rfl
 | c :: cs, h => by
  obtain ⟨p, rfl⟩ := h c (by simp)
  simp only [AV.upL, AV.up]
  rw [upL_pv k fun d hd => h d (by simp [hd])]
end Go.Ab

