import Derived.Test.YthmieigenefilaaGreatDoorAbR
import Derived.Test.YthmieigenefilaaGreatDoorAbP
set_option linter.unusedVariables false
set_option linter.unusedSimpArgs false
namespace Go.Ab
open Go.RowKit
variable {P : Program} {T : Tab}
abbrev Ren := List (Nat × Option Nat)
def renOf : Ren → Nat → Option Nat
 | [], _ => none
 | (k, v) :: r, i => if i = k then v else renOf r i
def notImg : Ren → Nat → Prop
 | [], _ => True
 | (_, none) :: r, id => notImg r id
 | (_, some k) :: r, id => k ≠ id ∧ notImg r id
def distinctImg : Ren → Prop
 | [] => True
 | (_, none) :: r => distinctImg r
 | (_, some k) :: r => notImg r k ∧ distinctImg r
def lookH : List (Nat × Blk) → Nat → Option Blk
 | [], _ => none
 | (k, b) :: r, i => if i = k then some b else lookH r i
def lookS : List (Nat × AV) → Nat → AV
 | [], _ => .junk
 | (k, v) :: r, t => if t = k then v else lookS r t
def mk (n : Nat) (l : List (Nat × AV)) (h : List (Nat × Blk)) (fz : List Nat := []) (pins : Nat := 0) : AS := { n := n, slots := lookS l, heap := lookH h, seen := fun id => decide (id < 16384), fz := fz, pins := pins }
theorem wrap_id {x : Int} (h1 : -9223372036854775808 ≤ x) (h2 : x ≤ 9223372036854775807) : IntKind.i64.wrap x = x := by
 have := IntWalk.i64_in x ⟨h1, h2⟩
 exact this
def pvEq : PV → PV → Prop
 | .raw v, .raw v' => v = v'
 | .ro s n c, .ro s' n' c' => s = s' ∧ n = n' ∧ ∀ i, i < n → ∀ j, j < s → c i j = c' i j
 | .raw v, .ro s n c => v = .slice none 0 0 ∧ n = 0
 | _, _ => False
def rowEq (H : Heap) (id s off len : Nat) (c : Nat → Nat → PV) : Prop :=
 match H id with
 | some (.row _ s' cells) => s' = s ∧ ∀ i, i < len → ∀ j, j < s → cells[(off + i) * s + j]? = some (.pv (c i j))
 | _ => False
def wk0 (ρ : Ren) (H : Heap) : AV → PV → Prop
 | .pv p, q => pvEq p q
 | .row id s off len, .ro s' n c => s = s' ∧ len = n ∧ notImg ρ id ∧ rowEq H id s off len c
 | _, _ => False
def boxEq (ρ : Ren) (H : Heap) (id off n : Nat) (cell : Nat → PV) : Prop :=
 match H id with
 | some b => ∃ x : Nat → AV, (∀ j, j < n → b.cells[off + j]? = some (x j)) ∧ ∀ j, j < n → wk0 ρ H (x j) (cell j)
 | none => False
mutual
def wk1 (ρ : Ren) (D : Nat → Option Blk) (H : Heap) : AV → AV → Prop
 | .pv p, .pv q => pvEq p q
 | .pv (.raw v), .row i s off len => v = .slice none 0 0 ∧ renOf ρ i = none ∧ (D i).isSome = true ∧ off = 0 ∧ len = 0
 | .row id s off len, .pv (.ro s' n c) => s = s' ∧ len = n ∧ notImg ρ id ∧ rowEq H id s off len c
 | .row id s off len, .row i s' off' len' => renOf ρ i = some id ∧ (D i).isSome = true ∧ s = s' ∧ off = off' ∧ len = len'
 | .ptr id off, .ptr i off' => renOf ρ i = some id ∧ (D i).isSome = true ∧ off = off'
 | .pix id off, .pix i off' => renOf ρ i = some id ∧ (D i).isSome = true ∧ off = off'
 | .map id, .map i => renOf ρ i = some id ∧ (D i).isSome = true
 | .ptr id off, .roat n cell => notImg ρ id ∧ boxEq ρ H id off n cell
 | .roat n c, .roat n' c' => n' ≤ n ∧ ∀ j, j < n' → pvEq (c j) (c' j)
 | .agg xs, .agg ys => wkL ρ D H xs ys
 | .tup xs, .tup ys => wkL ρ D H xs ys
 | .fn f xs, .fn f' ys => f = f' ∧ wkL ρ D H xs ys
 | _, .junk => True
 | _, _ => False
def wkL (ρ : Ren) (D : Nat → Option Blk) (H : Heap) : List AV → List AV → Prop
 | [], [] => True
 | x :: xs, y :: ys => wk1 ρ D H x y ∧ wkL ρ D H xs ys
 | _, _ => False
end
def freeOf (ρ : Ren) (id : Nat) : Prop := notImg ρ id
theorem pvEq_wk {ρ : Nat → Option Nat} {D F : Nat → Prop} {H : Heap} {p q : PV} (h : pvEq p q) : Wk ρ D F H (.pv p) (.pv q) := by
 cases p with
 | raw v =>
  cases q with
  | raw v' => simp only [pvEq] at h; subst h; exact .pv _
  | ro s n c => simp only [pvEq] at h; obtain ⟨rfl, rfl⟩ := h; exact .nil s c
 | ro s n c =>
  cases q with
  | raw v => exact h.elim
  | ro s' n' c' =>
   simp only [pvEq] at h
   obtain ⟨rfl, rfl, h⟩ := h
   exact .roro s n c c' fun i hi j hj => by rw [h i hi j hj]; exact .pv _
theorem wk0_sound {ρ : Ren} {D : Nat → Prop} {H : Heap} {x : AV} {q : PV} (h : wk0 ρ H x q) : Wk (renOf ρ) D (freeOf ρ) H x (.pv q) := by
 unfold wk0 at h
 split at h
 ·exact pvEq_wk h
 ·rename_i id s off len s' n c
  obtain ⟨rfl, rfl, h1, h2⟩ := h
  unfold rowEq at h2
  split at h2
  ·rename_i e s' cells hh
   obtain ⟨rfl, h2⟩ := h2
   exact .row id e _ off len cells c (fun i j => .pv (c i j)) h1 hh h2 fun i _ j _ => .pv _
  ·exact h2.elim
 ·exact h.elim
mutual
theorem wk1_sound {ρ : Ren} {D : Nat → Option Blk} {H : Heap} : ∀ {x y : AV}, wk1 ρ D H x y → Wk (renOf ρ) (fun id => D id ≠ none) (freeOf ρ) H x y
 | .pv p, .pv q, h => by simp only [wk1] at h; exact pvEq_wk h
 | .pv (.raw v), .row i s off len, h => by
  simp only [wk1] at h
  obtain ⟨rfl, h1, h2, rfl, rfl⟩ := h
  exact .nilrow i s h1 (by intro e; rw [e] at h2; cases h2)
 | .row id s off len, .pv (.ro s' n c), h => by
  simp only [wk1] at h
  obtain ⟨rfl, rfl, h1, h2⟩ := h
  unfold rowEq at h2
  split at h2
  ·rename_i e s' cells hh
   obtain ⟨rfl, h2⟩ := h2
   exact .row id e _ off len cells c (fun i j => .pv (c i j)) h1 hh h2 fun i _ j _ => .pv _
  ·exact h2.elim
 | .row id s off len, .row i s' off' len', h => by
  simp only [wk1] at h
  obtain ⟨h1, h2, rfl, rfl, rfl⟩ := h
  exact .rows i id s off len h1 (by intro e; rw [e] at h2; cases h2)
 | .ptr id off, .ptr i off', h => by
  simp only [wk1] at h
  obtain ⟨h1, h2, rfl⟩ := h
  exact .ptr i id off h1 (by intro e; rw [e] at h2; cases h2)
 | .pix id off, .pix i off', h => by
  simp only [wk1] at h
  obtain ⟨h1, h2, rfl⟩ := h
  exact .pixs i id off h1 (by intro e; rw [e] at h2; cases h2)
 | .map id, .map i, h => by
  simp only [wk1] at h
  exact .maps i id h.1 (by intro e; rw [e] at h; cases h.2)
 | .ptr id off, .roat n cell, h => by
  simp only [wk1] at h
  obtain ⟨h1, h2⟩ := h
  unfold boxEq at h2
  split at h2
  ·rename_i b hb
   obtain ⟨x, h3, h4⟩ := h2
   exact .ptro id off n b cell x h1 hb h3 fun j hj => wk0_sound (h4 j hj)
  ·exact h2.elim
 | .roat n c, .roat n' c', h => by
  simp only [wk1] at h
  exact .roats n n' c c' h.1 fun j hj => pvEq_wk (h.2 j hj)
 | .agg xs, .agg ys, h => by simp only [wk1] at h; exact (wkL_sound h).1
 | .tup xs, .tup ys, h => by simp only [wk1] at h; exact (wkL_sound h).2.1
 | .fn f xs, .fn f' ys, h => by
  simp only [wk1] at h
  obtain ⟨rfl, h⟩ := h
  exact (wkL_sound h).2.2 f
 | x, .junk, h => .junk x
 | .pv (.ro _ _ _), .row .., h | .pv _, .ptr .., h | .pv _, .roat .., h | .pv _, .agg _, h | .pv _, .tup _, h | .pv _, .fn .., h | .pv _, .gd .., h | .pv _, .pix .., h | .pv _, .map _, h => by simp [wk1] at h
 | .row .., .pv (.raw _), h | .row .., .ptr .., h | .row .., .roat .., h | .row .., .agg _, h | .row .., .tup _, h | .row .., .fn .., h | .row .., .gd .., h | .row .., .pix .., h | .row .., .map _, h => by simp [wk1] at h
 | .ptr .., .pv _, h | .ptr .., .row .., h | .ptr .., .agg _, h | .ptr .., .tup _, h | .ptr .., .fn .., h | .ptr .., .gd .., h | .ptr .., .pix .., h | .ptr .., .map _, h => by simp [wk1] at h
 | .agg _, .pv _, h | .agg _, .row .., h | .agg _, .ptr .., h | .agg _, .roat .., h | .agg _, .tup _, h | .agg _, .fn .., h | .agg _, .gd .., h | .agg _, .pix .., h | .agg _, .map _, h => by simp [wk1] at h
 | .tup _, .pv _, h | .tup _, .row .., h | .tup _, .ptr .., h | .tup _, .roat .., h | .tup _, .agg _, h | .tup _, .fn .., h | .tup _, .gd .., h | .tup _, .pix .., h | .tup _, .map _, h => by simp [wk1] at h
 | .fn .., .pv _, h | .fn .., .row .., h | .fn .., .ptr .., h | .fn .., .roat .., h | .fn .., .agg _, h | .fn .., .tup _, h | .fn .., .gd .., h | .fn .., .pix .., h | .fn .., .map _, h => by simp [wk1] at h
 | .roat .., .pv _, h | .roat .., .row .., h | .roat .., .ptr .., h | .roat .., .agg _, h | .roat .., .tup _, h | .roat .., .fn .., h | .roat .., .gd .., h | .roat .., .pix .., h | .roat .., .map _, h => by simp [wk1] at h
 | .gd .., .pv _, h | .gd .., .row .., h | .gd .., .ptr .., h | .gd .., .roat .., h | .gd .., .agg _, h | .gd .., .tup _, h | .gd .., .fn .., h | .gd .., .gd .., h | .gd .., .pix .., h | .gd .., .map _, h => by simp [wk1] at h
 | .junk, .pv _, h | .junk, .row .., h | .junk, .ptr .., h | .junk, .roat .., h | .junk, .agg _, h | .junk, .tup _, h | .junk, .fn .., h | .junk, .gd .., h | .junk, .pix .., h | .junk, .map _, h => by simp [wk1] at h
 | .pix .., .pv _, h | .pix .., .row .., h | .pix .., .ptr .., h | .pix .., .roat .., h | .pix .., .agg _, h | .pix .., .tup _, h | .pix .., .fn .., h | .pix .., .gd .., h | .pix .., .map _, h => by simp [wk1] at h
 | .map _, .pv _, h | .map _, .row .., h | .map _, .ptr .., h | .map _, .pix .., h | .map _, .roat .., h | .map _, .agg _, h | .map _, .tup _, h | .map _, .fn .., h | .map _, .gd .., h => by simp [wk1] at h
theorem wkL_sound {ρ : Ren} {D : Nat → Option Blk} {H : Heap} : ∀ {xs ys : List AV}, wkL ρ D H xs ys → Wk (renOf ρ) (fun id => D id ≠ none) (freeOf ρ) H (.agg xs) (.agg ys) ∧ Wk (renOf ρ) (fun id => D id ≠ none) (freeOf ρ) H (.tup xs) (.tup ys) ∧ ∀ f, Wk (renOf ρ) (fun id => D id ≠ none) (freeOf ρ) H (.fn f xs) (.fn f ys)
 | [], [], h => ⟨.agg0, .tup0, fun f => .fn0 f⟩
 | x :: xs, y :: ys, h => by
  simp only [wkL] at h
  obtain ⟨h1, h2, h3⟩ := wkL_sound h.2
  exact ⟨.agg _ _ _ _ (wk1_sound h.1) h1, .tup _ _ _ _ (wk1_sound h.1) h2, fun f => .fn f _ _ _ _ (wk1_sound h.1) (h3 f)⟩
 | [], _ :: _, h => by simp [wkL] at h
 | _ :: _, [], h => by simp [wkL] at h
end
theorem allPv_wk {ρ : Nat → Option Nat} {D F : Nat → Prop} {H : Heap} : ∀ {cs : List AV}, AllPv cs → Wk ρ D F H (.agg cs) (.agg cs)
 | [], _ => .agg0
 | c :: cs, h => by
  obtain ⟨p, rfl⟩ := h c (by simp)
  exact .agg _ _ _ _ (.pv p) (allPv_wk fun d hd => h d (by simp [hd]))
def subB (ρ : Ren) (D : Nat → Option Blk) (H : Heap) (i : Nat) (b : Blk) : Prop :=
 match renOf ρ i with
 | none => match b with
  | .row _ s [] => 0 < s
  | _ => False
 | some id => match b, H id with
  | .box cs, some (.box cs') => wkL ρ D H cs' cs
  | .row e s cs, some (.row e' s' cs') => e = e' ∧ s = s' ∧ cs' = cs ∧ AllPv cs
  | .map ks xs, some (.map ks' xs') => ks = ks' ∧ xs' = xs ∧ AllPv xs
  | _, _ => False
def subHeap (ρ : Ren) (D : Nat → Option Blk) (H : Heap) : List (Nat × Blk) → Prop
 | [] => True
 | (i, b) :: r => i < 16384 ∧ subB ρ D H i b ∧ subHeap ρ D H r
def subSlots (ρ : Ren) (D : Nat → Option Blk) (σ : AS) : List (Nat × AV) → Prop
 | [] => True
 | (t, y) :: r => ((σ.slots t).when = true ∧ wk1 ρ D σ.heap (σ.slots t).bare y) ∧ subSlots ρ D σ r
theorem notImg_ne {k : Nat} : ∀ {ρ : Ren} {i : Nat}, renOf ρ i = some k → notImg ρ k → False
 | [], i, h, _ => by simp [renOf] at h
 | (a, none) :: r, i, h, hn => by
  simp only [renOf, notImg] at h hn
  split at h
  ·cases h
  ·exact notImg_ne h hn
 | (a, some b) :: r, i, h, hn => by
  simp only [renOf, notImg] at h hn
  split at h
  ·cases h; exact hn.1 rfl
  ·exact notImg_ne h hn.2
theorem renOf_inj : ∀ {ρ : Ren}, distinctImg ρ → ∀ {i j k : Nat}, renOf ρ i = some k → renOf ρ j = some k → i = j
 | [], _, i, j, k, h, _ => by simp [renOf] at h
 | (a, none) :: r, hd, i, j, k, h1, h2 => by
  simp only [renOf, distinctImg] at h1 h2 hd
  split at h1
  ·cases h1
  ·split at h2
   ·cases h2
   ·exact renOf_inj hd h1 h2
 | (a, some b) :: r, hd, i, j, k, h1, h2 => by
  simp only [renOf, distinctImg] at h1 h2 hd
  split at h1
  ·rename_i hi
   split at h2
   ·rename_i hj; omega
   ·cases h1; exact (notImg_ne h2 hd.1).elim
  ·split at h2
   ·cases h2; exact (notImg_ne h1 hd.1).elim
   ·exact renOf_inj hd.2 h1 h2
theorem subB_sound {ρ : Ren} {σ τ : AS} {i : Nat} {b : Blk} (h : subB ρ τ.heap σ.heap i b) : SubB (renOf ρ) (freeOf ρ) σ τ i b := by
 unfold subB at h
 unfold SubB
 cases hr : renOf ρ i with
 | none => rw [hr] at h; exact h
 | some id =>
  rw [hr] at h
  simp only at h ⊢
  refine ⟨fun hf => notImg_ne hr hf, ?_⟩
  cases hh : σ.heap id with
  | none => rw [hh] at h; cases b <;> exact h.elim
  | some b' =>
   rw [hh] at h
   cases b <;> cases b' <;> simp only at h ⊢
   ·exact (wkL_sound h).1
   ·obtain ⟨rfl, rfl, rfl, hp⟩ := h
    exact ⟨rfl, rfl, allPv_wk hp⟩
   ·obtain ⟨rfl, rfl, hp⟩ := h
    exact ⟨rfl, allPv_wk hp⟩
theorem subHeap_mem {ρ : Ren} {D : Nat → Option Blk} {H : Heap} : ∀ {l : List (Nat × Blk)}, subHeap ρ D H l → ∀ i b, lookH l i = some b → i < 16384 ∧ subB ρ D H i b
 | [], _, i, b, h => by simp [lookH] at h
 | (k, c) :: r, hs, i, b, h => by
  simp only [lookH, subHeap] at h hs
  split at h
  ·rename_i he; subst he; cases h; exact ⟨hs.1, hs.2.1⟩
  ·exact subHeap_mem hs.2.2 i b h
theorem subSlots_mem {ρ : Ren} {D : Nat → Option Blk} {σ : AS} : ∀ {l : List (Nat × AV)}, subSlots ρ D σ l → ∀ t, lookS l t = .junk ∨ ((σ.slots t).when = true ∧ wk1 ρ D σ.heap (σ.slots t).bare (lookS l t))
 | [], _, t => .inl rfl
 | (k, v) :: r, hs, t => by
  simp only [lookS, subSlots] at hs ⊢
  split
  ·rename_i he; subst he; exact .inr hs.1
  ·exact subSlots_mem hs.2 t
def pinsB (ρ : Ren) (h : List (Nat × Blk)) (m : Nat) : Nat → Bool
 | 0 => true
 | k + 1 => Nat.blt k m && (match renOf ρ k with | some i => Nat.beq i k | none => false) && (lookH h k).isSome && pinsB ρ h m k
theorem pinsB_ok {ρ : Ren} {h : List (Nat × Blk)} {m : Nat} : ∀ {k : Nat}, pinsB ρ h m k = true → ∀ i, i < k → i < m ∧ renOf ρ i = some i ∧ lookH h i ≠ none
 | 0, _, i, hi => absurd hi (Nat.not_lt_zero _)
 | k + 1, hb, i, hi => by
  simp only [pinsB, Bool.and_eq_true] at hb
  by_cases he : i = k
  ·subst he
   refine ⟨Nat.le_of_ble_eq_true hb.1.1.1, ?_, ?_⟩
   ·have := hb.1.1.2
    split at this
    ·rename_i j hj; rw [hj, Nat.eq_of_beq_eq_true this]
    ·cases this
   ·intro e; rw [e] at hb; simp at hb
  ·exact pinsB_ok hb.2 i (by omega)
theorem sub_mk {σ : AS} (ρ : Ren) {n : Nat} {l : List (Nat × AV)} {h : List (Nat × Blk)} {fz : List Nat} {pins : Nat} (hn : n = σ.n) (h1 : subSlots ρ (lookH h) σ l) (h2 : subHeap ρ (lookH h) σ.heap h) (h3 : distinctImg ρ) (h4 : pinsB ρ h σ.pins pins = true) : Sub σ (mk n l h fz pins) := by
 refine ⟨renOf ρ, freeOf ρ, hn, fun t => ?_, fun i b hb => ?_, fun i hi => pinsB_ok h4 i hi, fun i j b c k _ _ e1 e2 => renOf_inj h3 e1 e2⟩
 ·rcases subSlots_mem h1 t with h | ⟨hw, hk⟩
  ·exact .inl h
  ·exact .inr ⟨hw, wk1_sound hk⟩
 ·obtain ⟨hi, hb'⟩ := subHeap_mem h2 i b hb
  refine ⟨?_, subB_sound (τ := mk n l h fz pins) hb'⟩
  exact decide_eq_true hi
def subHb (ρ : Ren) (D : Nat → Option Blk) (H : Heap) : Nat → List Blk → Prop
 | _, [] => True
 | i, b :: r => subB ρ D H i b ∧ subHb ρ D H (i + 1) r
theorem subHb_get {ρ : Ren} {D : Nat → Option Blk} {H : Heap} : ∀ {hb : List Blk} {k : Nat}, subHb ρ D H k hb → ∀ i b, hb[i]? = some b → subB ρ D H (k + i) b
 | [], k, _, i, b, h => by simp at h
 | c :: r, k, hs, 0, b, h => by simp at h; subst h; exact hs.1
 | c :: r, k, hs, i + 1, b, h => by
  have := subHb_get hs.2 i b (by simpa using h)
  rw [show k + (i + 1) = k + 1 + i by omega]
  exact this
theorem retQ_of {fn : Func} {al : Bool} {res : AV} {hb : List Blk} {e : Exit} {σ : AS} (ρ : Ren) (he : e = .ret ∨ e = .normal) {rs : Array ResultVar} (hrs : fn.results = rs) (h1 : (resAll T σ rs.toList).1) (h2 : al = false → res.bald = true ∧ ∀ b ∈ hb, AV.baldL b.all = true)
  (h3 : wk1 ρ (hbHeap hb) σ.heap (asTup (resAll T σ rs.toList).2) res) (h4 : subHb ρ (hbHeap hb) σ.heap 0 hb) (h5 : distinctImg ρ) : retQ T fn al res hb e σ := by
 subst hrs
 have key : (resAll T σ fn.results.toList).1 ∧ (al = false → res.bald = true ∧ ∀ b ∈ hb, AV.baldL b.all = true) ∧ ∃ ρ F,
   Wk ρ (fun id => hbHeap hb id ≠ none) F σ.heap (asTup (resAll T σ fn.results.toList).2) res ∧
   SubC ρ F σ { n := σ.n, slots := fun _ => .junk, heap := hbHeap hb, seen := fun _ => true } := by
  refine ⟨h1, h2, renOf ρ, freeOf ρ, wk1_sound h3, rfl, fun t => .inl rfl, fun i b hib => ⟨rfl, ?_⟩, fun i hi => absurd hi (Nat.not_lt_zero _), fun i j b c k _ _ e1 e2 => renOf_inj h5 e1 e2⟩
  have := subHb_get h4 i b hib
  rw [Nat.zero_add] at this
  exact subB_sound (τ := { n := σ.n, slots := fun _ => .junk, heap := hbHeap hb, seen := fun _ => true }) this
 rcases he with rfl | rfl <;> exact key
def pinsO (ρ : Ren) (n m : Nat) : Nat → Bool
 | 0 => true
 | k + 1 => Nat.blt k m && Nat.blt k n && (match renOf ρ k with | some i => Nat.beq i k | none => false) && pinsO ρ n m k
theorem pinsO_ok {ρ : Ren} {n m : Nat} : ∀ {k : Nat}, pinsO ρ n m k = true → ∀ i, i < k → i < m ∧ i < n ∧ renOf ρ i = some i
 | 0, _, i, hi => absurd hi (Nat.not_lt_zero _)
 | k + 1, hb, i, hi => by
  simp only [pinsO, Bool.and_eq_true] at hb
  by_cases he : i = k
  ·subst he
   refine ⟨Nat.le_of_ble_eq_true hb.1.1.1, Nat.le_of_ble_eq_true hb.1.1.2, ?_⟩
   have := hb.1.2
   split at this
   ·rename_i j hj; rw [hj, Nat.eq_of_beq_eq_true this]
   ·cases this
  ·exact pinsO_ok hb.2 i (by omega)
theorem retM_of {fn : Func} {nk : Nat} {al : Bool} {res : AV} {hb : List Blk} {e : Exit} {σ : AS} (ρ : Ren) (he : e = .ret ∨ e = .normal) {rs : Array ResultVar} (hrs : fn.results = rs) (h1 : (resAll T σ rs.toList).1) (h2 : al = false → res.bald = true ∧ ∀ b ∈ hb, AV.baldL b.all = true)
  (h3 : wk1 ρ (hbHeap hb) σ.heap (asTup (resAll T σ rs.toList).2) res) (h4 : subHb ρ (hbHeap hb) σ.heap 0 hb) (h5 : distinctImg ρ) (h6 : pinsO ρ hb.length σ.pins nk = true) : retM0 T fn nk al res hb e σ := by
 subst hrs
 have key : (resAll T σ fn.results.toList).1 ∧ (al = false → res.bald = true ∧ ∀ b ∈ hb, AV.baldL b.all = true) ∧ ∃ ρ F,
   Wk ρ (fun id => hbHeap hb id ≠ none) F σ.heap (asTup (resAll T σ fn.results.toList).2) res ∧
   SubC ρ F σ { n := σ.n, slots := fun _ => .junk, heap := hbHeap hb, seen := fun _ => true, pins := nk } := by
  refine ⟨h1, h2, renOf ρ, freeOf ρ, wk1_sound h3, rfl, fun t => .inl rfl, fun i b hib => ⟨rfl, ?_⟩, fun i hi => ?_, fun i j b c k _ _ e1 e2 => renOf_inj h5 e1 e2⟩
  ·have := subHb_get h4 i b hib
   rw [Nat.zero_add] at this
   exact subB_sound (τ := { n := σ.n, slots := fun _ => .junk, heap := hbHeap hb, seen := fun _ => true, pins := nk }) this
  ·obtain ⟨p1, p2, p3⟩ := pinsO_ok h6 i hi
   refine ⟨p1, p3, ?_⟩
   show hb[i]? ≠ none
   simp [p2]
 rcases he with rfl | rfl <;> exact key
theorem firstPV_pv (f : Nat → PV) : ∀ (n s : Nat), AllPv (firstPV f s n)
 | 0, s => by intro c hc; simp [firstPV] at hc
 | n + 1, s => by
  intro c hc
  simp only [firstPV, List.mem_cons] at hc
  rcases hc with rfl | hc
  ·exact ⟨_, rfl⟩
  ·exact firstPV_pv f n (s + 1) c hc
theorem firstPV_bald {f : Nat → PV} : ∀ {n s : Nat}, (∀ j, j < s + n → ∃ v, f j = .raw v) → AV.baldL (firstPV f s n) = true
 | 0, s, _ => rfl
 | n + 1, s, h => by
  obtain ⟨v, hv⟩ := h s (by omega)
  simp only [firstPV, AV.baldL, hv, AV.bald, Bool.true_and]
  exact firstPV_bald fun j hj => h j (by omega)
theorem baldL_append : ∀ {xs ys : List AV}, AV.baldL xs = true → AV.baldL ys = true → AV.baldL (xs ++ ys) = true
 | [], ys, _, h => h
 | x :: xs, ys, h, h' => by
  simp only [AV.baldL, List.cons_append, Bool.and_eq_true] at h ⊢
  exact ⟨h.1, baldL_append h.2 h'⟩
theorem roL_length (s n : Nat) (c : Nat → Nat → PV) : (roL s n c).length = n * s := by
 unfold roL
 rw [List.length_flatMap]
 simp [firstPV_length, List.map_const']
def args1 (H : Heap) : List AV → List AV → Prop
 | [], [] => True
 | x :: xs, y :: ys => wk1 [] (fun _ => none) H x y ∧ args1 H xs ys
 | _, _ => False
theorem args1_sound {H : Heap} : ∀ {xs ys : List AV}, args1 H xs ys → WkArgs H xs ys
 | [], [], _ => trivial
 | x :: xs, y :: ys, h => by
  refine ⟨?_, args1_sound h.2⟩
  have := wk1_sound h.1
  have e1 : renOf [] = fun _ => none := by funext i; rfl
  have e2 : freeOf [] = fun _ => True := by funext i; rfl
  have e3 : (fun id => (fun _ => none : Nat → Option Blk) id ≠ none) = fun _ => False := by funext i; simp
  rw [e1, e2, e3] at this
  exact this
 | [], _ :: _, h => h.elim
 | _ :: _, [], h => h.elim
def pvs : List AV → Prop
 | [] => True
 | .pv _ :: r => pvs r
 | _ => False
def plainL : List AV → Prop
 | [] => True
 | .pv _ :: r => plainL r
 | .agg xs :: r => pvs xs ∧ plainL r
 | _ => False
theorem pvs_mem : ∀ {l : List AV}, pvs l → ∀ x ∈ l, ∃ p, x = .pv p
 | [], _, x, hx => by simp at hx
 | .pv p :: r, h, x, hx => by
  rcases List.mem_cons.1 hx with rfl | hx
  ·exact ⟨p, rfl⟩
  ·exact pvs_mem (l := r) h x hx
 | .ptr .. :: _, h, _, _ | .pix .. :: _, h, _, _ | .row .. :: _, h, _, _ | .roat .. :: _, h, _, _ | .agg _ :: _, h, _, _ | .tup _ :: _, h, _, _ | .fn .. :: _, h, _, _ | .gd .. :: _, h, _, _ | .junk :: _, h, _, _ => h.elim
theorem plainL_mem : ∀ {l : List AV}, plainL l → ∀ x ∈ l, Plain x
 | [], _, x, hx => by simp at hx
 | .pv p :: r, h, x, hx => by
  rcases List.mem_cons.1 hx with rfl | hx
  ·trivial
  ·exact plainL_mem (l := r) h x hx
 | .agg xs :: r, h, x, hx => by
  rcases List.mem_cons.1 hx with rfl | hx
  ·exact pvs_mem h.1
  ·exact plainL_mem h.2 x hx
 | .ptr .. :: _, h, _, _ | .pix .. :: _, h, _, _ | .row .. :: _, h, _, _ | .roat .. :: _, h, _, _ | .tup _ :: _, h, _, _ | .fn .. :: _, h, _, _ | .gd .. :: _, h, _, _ | .junk :: _, h, _, _ => h.elim
theorem roL_get {s n i j : Nat} {c : Nat → Nat → PV} (hi : i < n) (hj : j < s) : (roL s n c)[i * s + j]? = some (.pv (c i j)) := by
 have inner : ∀ (f : Nat → PV) (m k j : Nat), j < m → (firstPV f k m)[j]? = some (.pv (f (k + j))) := by
  intro f m
  induction m with
  | zero => intro k j h; omega
  | succ m ih =>
   intro k j h
   cases j with
   | zero => simp [firstPV]
   | succ j => simp only [firstPV, List.getElem?_cons_succ]; rw [ih (k + 1) j (by omega)]; congr 3; omega
 induction n with
 | zero => omega
 | succ n ih =>
  have hr : roL s (n + 1) c = roL s n c ++ firstPV (c n) 0 s := by
   unfold roL
   rw [List.range_succ, List.flatMap_append]
   simp
  rw [hr]
  by_cases hlt : i < n
  ·rw [List.getElem?_append_left]
   ·exact ih hlt
   ·rw [roL_length]
    calc i * s + j < i * s + s := by omega
     _ = (i + 1) * s := by rw [Nat.add_mul]; omega
     _ ≤ n * s := Nat.mul_le_mul_right _ hlt
  ·obtain rfl : i = n := by omega
   rw [List.getElem?_append_right (by rw [roL_length]; omega), roL_length]
   rw [show i * s + j - i * s = j by omega, inner _ _ _ _ hj]
   congr 3; omega
theorem upL_pv (k : Nat) : ∀ {cs : List AV}, AllPv cs → AV.upL k cs = cs
 | [], _ => rfl
 | c :: cs, h => by
  obtain ⟨p, rfl⟩ := h c (by simp)
  simp only [AV.upL, AV.up]
  rw [upL_pv k fun d hd => h d (by simp [hd])]
end Go.Ab
set_option linter.unusedVariables false
set_option linter.unusedSimpArgs false
namespace Go.Ab
open Go.RowKit
variable {P : Program} {T : Tab}
def allP : List Prop → Prop
 | [] => True
 | φ :: r => φ ∧ allP r
theorem allP_append : ∀ {a b : List Prop}, allP (a ++ b) ↔ allP a ∧ allP b
 | [], b => by simp [allP]
 | φ :: a, b => by simp [allP, allP_append (a := a) (b := b), and_assoc]
structure OB where
 chk : Bool
 phi : List Prop
abbrev OB.no : OB := ⟨false, []⟩
abbrev OB.is (b : Bool) : OB := ⟨b, []⟩
def OB.holds (b : OB) : Prop := b.chk = true ∧ allP b.phi
def eqFsB (T : Tab) (c : TypeId → List AV → List AV → Bool) (xs ys : List AV) : List Field → Bool
 | [] => true
 | f :: fs => match T f.type with
  | some ti => decide (f.name ≠ "_") && (Nat.ble (f.offset + ti.size) xs.length && Nat.ble (f.offset + ti.size) ys.length) && c f.type ((xs.drop f.offset).take ti.size) ((ys.drop f.offset).take ti.size) && eqFsB T c xs ys fs
  | none => false
def eqAsB (c : List AV → List AV → Bool) (n : Nat) (xs ys : List AV) : List Nat → Bool
 | [] => true
 | i :: is => (Nat.ble (i * n + n) xs.length && Nat.ble (i * n + n) ys.length) && c ((xs.drop (i * n)).take n) ((ys.drop (i * n)).take n) && eqAsB c n xs ys is
def eqCB (T : Tab) : Nat → TypeId → List AV → List AV → Bool
 | 0, _, _, _ => false
 | n + 1, t, xs, ys => match T t with
  | some { under := .bool, .. } => match xs, ys with
   | [.pv (.raw (.bool _))], [.pv (.raw (.bool _))] => true
   | _, _ => false
  | some { under := .int _, .. } => match xs, ys with
   | [.pv (.raw (.int k _))], [.pv (.raw (.int k' _))] => decide (k = k')
   | _, _ => false
  | some { under := .string, .. } => match xs, ys with
   | [.pv (.raw (.string _))], [.pv (.raw (.string _))] => true
   | _, _ => false
  | some { under := .struct fs, cmp := true, .. } => eqFsB T (eqCB T n) xs ys fs.toList
  | some { under := .array m e, .. } => match T e with
   | some ti => eqAsB (eqCB T n e) ti.size xs ys (List.range m)
   | none => false
  | _ => false
theorem eqFsB_ok {cb : TypeId → List AV → List AV → Bool} {c : TypeId → List AV → List AV → Prop × Bool} (hc : ∀ t xs ys, cb t xs ys = true → (c t xs ys).1) {xs ys : List AV} : ∀ {fs : List Field}, eqFsB T cb xs ys fs = true → (eqFs T c xs ys fs).1
 | [], _ => trivial
 | f :: fs, h => by
  unfold eqFsB at h
  unfold eqFs
  split at h
  ·rename_i ti ht
   simp only [Bool.and_eq_true, decide_eq_true_eq] at h
   obtain ⟨⟨⟨h1, h2, h3⟩, h4⟩, h5⟩ := h
   simp only [ht]
   exact ⟨h1, ⟨Nat.le_of_ble_eq_true h2, Nat.le_of_ble_eq_true h3⟩, hc _ _ _ h4, eqFsB_ok hc h5⟩
  ·cases h
theorem eqAsB_ok {cb : List AV → List AV → Bool} {c : List AV → List AV → Prop × Bool} (hc : ∀ xs ys, cb xs ys = true → (c xs ys).1) {n : Nat} {xs ys : List AV} : ∀ {is : List Nat}, eqAsB cb n xs ys is = true → (eqAs c n xs ys is).1
 | [], _ => trivial
 | i :: is, h => by
  unfold eqAsB at h
  unfold eqAs
  simp only [Bool.and_eq_true] at h
  obtain ⟨⟨⟨h2, h3⟩, h4⟩, h5⟩ := h
  exact ⟨⟨Nat.le_of_ble_eq_true h2, Nat.le_of_ble_eq_true h3⟩, hc _ _ h4, eqAsB_ok hc h5⟩
theorem eqCB_ok : ∀ (n : Nat) (t : TypeId) (xs ys : List AV), eqCB T n t xs ys = true → (eqC T n t xs ys).1
 | 0, _, _, _, h => by cases h
 | n + 1, t, xs, ys, h => by
  unfold eqCB at h
  unfold eqC
  split at h
  ·rename_i ht; simp only [ht]; split at h <;> first | trivial | cases h
  ·rename_i ht; simp only [ht]; split at h <;> first | exact of_decide_eq_true h | cases h
  ·rename_i ht; simp only [ht]; split at h <;> first | trivial | cases h
  ·rename_i ht; simp only [ht]; exact eqFsB_ok (eqCB_ok n) h
  ·rename_i ht; simp only [ht]
   split at h
   ·rename_i he; simp only [he]; exact eqAsB_ok (fun xs ys => eqCB_ok n _ xs ys) h
   ·cases h
  ·cases h
def eqFB (T : Tab) (xs ys : List AV) (fs : List Field) : Bool := eqFsB T (eqCB T 5) xs ys fs
theorem eqFB_ok {xs ys : List AV} {fs : List Field} (h : eqFB T xs ys fs = true) : (eqF T xs ys fs).1 := eqFsB_ok (eqCB_ok 5) h
def isShift : BinOp → Bool
 | .shl | .shr => true
 | _ => false
def intBinB : BinOp → Int → List Prop
 | .quo, b | .rem, b => [b ≠ 0]
 | .shl, b | .shr, b => [0 ≤ b]
 | _, _ => []
def eqAB (T : Tab) (e : TypeId) (n : Nat) (xs ys : List AV) (is : List Nat) : Bool := eqAsB (eqCB T 5 e) n xs ys is
theorem eqAB_ok {e : TypeId} {n : Nat} {xs ys : List AV} {is : List Nat} (h : eqAB T e n xs ys is = true) : (eqA T e n xs ys is).1 := eqAsB_ok (fun xs ys => eqCB_ok 5 _ xs ys) h
def binB (T : Tab) (op : BinOp) (xT : TypeId) : AV → AV → OB
 | .pv (.raw (.int k a)), .pv (.raw (.int k' b)) => ⟨isShift op || decide (k = k'), intBinB op b⟩
 | .pv (.raw (.bool a)), .pv (.raw (.bool b)) => match T xT, op with
  | some { under := .bool, .. }, .eql => .is true
  | some { under := .bool, .. }, .neq => .is true
  | _, _ => .no
 | .pv (.raw (.string a)), .pv (.raw (.string b)) => match op with
  | .eql => .is true
  | .neq => .is true
  | .add => ⟨true, [a.size + b.size ≤ 9223372036854775807]⟩
  | _ => .no
 | .agg xs, .agg ys => match T xT, op with
  | some { under := .struct fs, cmp := true, .. }, .eql => .is (eqFB T xs ys fs.toList)
  | some { under := .struct fs, cmp := true, .. }, .neq => .is (eqFB T xs ys fs.toList)
  | some { under := .array m e, cmp := true, .. }, .eql => match T e with
   | some ti => .is (eqAB T e ti.size xs ys (List.range m))
   | none => .no
  | some { under := .array m e, cmp := true, .. }, .neq => match T e with
   | some ti => .is (eqAB T e ti.size xs ys (List.range m))
   | none => .no
  | _, _ => .no
 | .ptr _ _, .pv (.raw (.pointer none)) => match T xT, op with
  | some { under := .pointer _, .. }, .eql => .is true
  | some { under := .pointer _, .. }, .neq => .is true
  | _, _ => .no
 | .pv (.raw (.pointer none)), .pv (.raw (.pointer none)) => match T xT, op with
  | some { under := .pointer _, .. }, .eql => .is true
  | some { under := .pointer _, .. }, .neq => .is true
  | _, _ => .no
 | _, _ => .no
theorem binB_ok {op : BinOp} {xT : TypeId} {x y : AV} (h : (binB T op xT x y).holds) : (binAV T op xT x y).1 := by
 unfold binB at h
 split at h
 ·rename_i k a k' b
  obtain ⟨h1, h2⟩ := h
  refine ⟨?_, ?_⟩
  ·simp only [Bool.or_eq_true, decide_eq_true_eq] at h1
   rcases h1 with h1 | h1
   ·cases op <;> simp_all [isShift]
   ·exact .inr h1
  ·cases op <;> simp_all [intBinB, intBin, allP]
 ·unfold binAV
  split at h <;> simp_all [OB.holds]
 ·unfold binAV
  cases op <;> simp_all [OB.holds, allP]
 ·unfold binAV
  rename_i xs ys
  have e := fun fs => eqFB_ok (T := T) (xs := xs) (ys := ys) (fs := fs)
  have e2 := fun e n is => eqAB_ok (T := T) (e := e) (n := n) (xs := xs) (ys := ys) (is := is)
  split at h <;> first
   | (split at h <;> simp_all [OB.holds]; done)
   | simp_all [OB.holds]
 ·unfold binAV
  split at h <;> simp_all [OB.holds]
 ·unfold binAV
  split at h <;> simp_all [OB.holds]
 ·simp [OB.holds] at h
def unB (op : UnOp) : AV → OB
 | .pv (.raw (.bool b)) => match op with | .not => .is true | _ => .no
 | .pv (.raw (.int k n)) => match op with | .neg => .is true | .xor => .is true | _ => .no
 | _ => .no
theorem unB_ok {op : UnOp} {x : AV} (h : (unB op x).holds) : (unAV op x).1 := by
 unfold unB at h
 unfold unAV
 split at h
 ·cases op <;> simp_all [OB.holds]
 ·cases op <;> simp_all [OB.holds]
 ·simp [OB.holds] at h
def fieldAddrB (T : Tab) (s : TypeId) (f : Nat) (x : AV) : OB :=
 match T s with
 | some { under := .struct fs, .. } => match fs[f]? with
  | some fd => match T fd.type, x with
   | some ti, .ptr id off => .is (decide (ti.size ≠ 0))
   | some ti, .pix id off => .is (decide (ti.size ≠ 0))
   | some ti, .roat n cell => .is (decide (ti.size ≠ 0))
   | _, _ => .no
  | none => .no
 | _ => .no
theorem fieldAddrB_ok {s : TypeId} {f : Nat} {x : AV} (h : (fieldAddrB T s f x).holds) : (fieldAddrAV T s f x).1 := by
 unfold fieldAddrB at h
 unfold fieldAddrAV
 repeat' split at h
 all_goals simp_all [OB.holds]
def indexAddrB (T : Tab) (t : TypeId) (x ix : AV) : OB :=
 match ix with
 | .pv (.raw (.int k i)) => match T t with
  | some { under := .slice e, .. } => match T e, x with
   | some ti, .pv (.ro s n cell) => ⟨decide (ti.size = s), [0 ≤ i ∧ i < n]⟩
   | some ti, .row id s off len => ⟨decide (ti.size = s), [0 ≤ i ∧ i < len]⟩
   | _, _ => .no
  | some { under := .array m e, .. } => match T e, x with
   | some ti, .ptr id off => ⟨true, [0 ≤ i ∧ i < m]⟩
   | some ti, .pix id off => ⟨true, [0 ≤ i ∧ i < m]⟩
   | some ti, .roat n cell => ⟨true, [0 ≤ i ∧ i < m]⟩
   | _, _ => .no
  | _ => .no
 | _ => .no
theorem indexAddrB_ok {t : TypeId} {x ix : AV} (h : (indexAddrB T t x ix).holds) : (indexAddrAV T t x ix).1 := by
 unfold indexAddrB at h
 unfold indexAddrAV
 repeat' split at h
 all_goals simp_all [OB.holds, allP]
def boundB (d : Nat) : Option AV → Option (List Prop × Nat)
 | none => some ([], d)
 | some (.pv (.raw (.int _ i))) => some ([0 ≤ i], i.toNat)
 | _ => none
def sliceB2 (len : Nat) (lo hi : Option AV) : OB :=
 match boundB 0 lo, boundB len hi with
 | some (a, l), some (b, h) => ⟨true, a ++ b ++ (if lo.isSome then [l ≤ h] else []) ++ (if hi.isSome then [h ≤ len] else [])⟩
 | _, _ => .no
theorem boundB_ok {d : Nat} {x : Option AV} {a : List Prop} {l : Nat} (h : boundB d x = some (a, l)) (ha : allP a) : (boundAV d x).1 ∧ (boundAV d x).2 = l ∧ (x.isSome = false → l = d) := by
 unfold boundB at h
 split at h
 ·cases h; exact ⟨trivial, rfl, fun _ => rfl⟩
 ·cases h; exact ⟨ha.1, rfl, fun h => by cases h⟩
 ·cases h
theorem sliceB2_ok {len : Nat} {lo hi : Option AV} (h : (sliceB2 len lo hi).holds) : (boundAV 0 lo).1 ∧ (boundAV len hi).1 ∧ (boundAV 0 lo).2 ≤ (boundAV len hi).2 ∧ (boundAV len hi).2 ≤ len := by
 unfold sliceB2 at h
 split at h
 ·rename_i a l b u hl hu
  obtain ⟨_, h⟩ := h
  simp only [allP_append] at h
  obtain ⟨⟨⟨ha, hb⟩, h1⟩, h2⟩ := h
  obtain ⟨p1, p2, p3⟩ := boundB_ok hl ha
  obtain ⟨q1, q2, q3⟩ := boundB_ok hu hb
  rw [p2, q2]
  refine ⟨p1, q1, ?_, ?_⟩
  ·cases hs : lo.isSome with
   | true => rw [hs] at h1; exact h1.1
   | false => rw [p3 hs]; exact Nat.zero_le _
  ·cases hs : hi.isSome with
   | true => rw [hs] at h2; exact h2.1
   | false => rw [q3 hs]; exact Nat.le_refl _
 ·simp [OB.holds] at h
def sliceB3 (len : Nat) (lo hi : Option AV) (m : AV) : OB :=
 match boundB 0 lo, boundB len hi, boundB 0 (some m) with
 | some (a, l), some (b, h), some (c, q) => ⟨hi.isSome, a ++ b ++ c ++ [l ≤ h, h ≤ q, q ≤ len]⟩
 | _, _, _ => .no
theorem sliceB3_ok {len : Nat} {lo hi : Option AV} {m : AV} (h : (sliceB3 len lo hi m).holds) : hi.isSome = true ∧ (boundAV 0 lo).1 ∧ (boundAV len hi).1 ∧ (boundAV 0 (some m)).1 ∧ (boundAV 0 lo).2 ≤ (boundAV len hi).2 ∧ (boundAV len hi).2 ≤ (boundAV 0 (some m)).2 ∧ (boundAV 0 (some m)).2 ≤ len := by
 unfold sliceB3 at h
 split at h
 ·rename_i a l b u c q hl hu hq
  obtain ⟨hs, h⟩ := h
  simp only [allP_append] at h
  obtain ⟨⟨⟨ha, hb⟩, hc⟩, h1, h2, h3, _⟩ := h
  obtain ⟨p1, p2, _⟩ := boundB_ok hl ha
  obtain ⟨q1, q2, _⟩ := boundB_ok hu hb
  obtain ⟨r1, r2, _⟩ := boundB_ok hq hc
  rw [p2, q2, r2]
  exact ⟨hs, p1, q1, r1, h1, h2, h3⟩
 ·simp [OB.holds] at h
def sliceB (T : Tab) (t : TypeId) (x : AV) (lo hi mx : Option AV) : OB :=
 match mx with
 | some m => match T t with
  | some { under := .slice e, .. } => match T e, x with
   | some ti, .pv (.ro s n cell) => ⟨decide (ti.size = s) && (sliceB3 n lo hi m).chk, (sliceB3 n lo hi m).phi⟩
   | _, _ => .no
  | _ => .no
 | none => match T t with
  | some { under := .slice e, .. } => match T e, x with
   | some ti, .pv (.ro s n cell) => ⟨decide (ti.size = s) && (sliceB2 n lo hi).chk, (sliceB2 n lo hi).phi⟩
   | some ti, .row id s off len => ⟨decide (ti.size = s) && (sliceB2 len lo hi).chk, (sliceB2 len lo hi).phi⟩
   | _, _ => .no
  | some { under := .string, .. } => match x with
   | .pv (.raw (.string s)) => sliceB2 s.size lo hi
   | _ => .no
  | _ => .no
theorem sliceB_ok {t : TypeId} {x : AV} {lo hi mx : Option AV} (h : (sliceB T t x lo hi mx).holds) : (sliceAV T t x lo hi mx).1 := by
 unfold sliceB at h
 unfold sliceAV
 split at h
 ·split at h
  ·rename_i ht
   split at h
   ·rename_i ti s n cell he
    have h1 := h.1
    simp only [Bool.and_eq_true, decide_eq_true_eq] at h1
    simp only [ht, he]
    exact ⟨h1.1, sliceB3_ok ⟨h1.2, h.2⟩⟩
   ·simp [OB.holds] at h
  ·simp [OB.holds] at h
 ·split at h
  ·rename_i ht
   split at h
   ·rename_i ti s n cell he
    have h1 := h.1
    simp only [Bool.and_eq_true, decide_eq_true_eq] at h1
    simp only [ht, he]
    exact ⟨h1.1, sliceB2_ok ⟨h1.2, h.2⟩⟩
   ·rename_i ti id s off len he
    have h1 := h.1
    simp only [Bool.and_eq_true, decide_eq_true_eq] at h1
    simp only [ht, he]
    exact ⟨h1.1, sliceB2_ok ⟨h1.2, h.2⟩⟩
   ·simp [OB.holds] at h
  ·rename_i ht
   split at h
   ·simp only [ht]
    exact sliceB2_ok h
   ·simp [OB.holds] at h
  ·simp [OB.holds] at h
def fillB (place : Nat → Option (Nat × Nat)) : List AV → List (Nat × AV) → Bool
 | cells, [] => true
 | cells, (i, v) :: rest => match place i with
  | none => false
  | some (off, size) => (v.one || v.isAgg) && decide (v.cells.length = size) && decide (off + size ≤ cells.length) && fillB place (setCells cells off v.cells) rest
theorem fillB_ok {place : Nat → Option (Nat × Nat)} : ∀ {ps : List (Nat × AV)} {cells : List AV}, fillB place cells ps = true → (fillAV place cells ps).1
 | [], _, _ => trivial
 | (i, v) :: rest, cells, h => by
  unfold fillB at h
  unfold fillAV
  split at h
  ·cases h
  ·rename_i hp
   simp only [Bool.and_eq_true, decide_eq_true_eq] at h
   simp only [hp]
   exact ⟨h.1.1.1, h.1.1.2, h.1.2, fillB_ok h.2⟩
def buildB (T : Tab) (t : TypeId) (parts : List (Nat × AV)) : OB :=
 match T t with
 | some { under := .struct fs, zero := z, .. } => .is (fs.toList.all (fun f => (T f.type).isSome) && fillB (placesAV T fs) (zeroAV z).cells parts)
 | some { under := .array _ e, zero := z, .. } => match T e with
  | some ti => .is (fillB (fun i => some (i * ti.size, ti.size)) (zeroAV z).cells parts)
  | none => .no
 | _ => .no
theorem buildB_ok {t : TypeId} {parts : List (Nat × AV)} (h : (buildB T t parts).holds) : (buildAV T t parts).1 := by
 unfold buildB at h
 unfold buildAV
 split at h
 ·rename_i ht
  have h1 := h.1
  simp only [Bool.and_eq_true, List.all_eq_true] at h1
  simp only [ht]
  refine ⟨fun f hf hn => ?_, fillB_ok h1.2⟩
  have := h1.1 f hf
  rw [hn] at this
  cases this
 ·rename_i ht
  split at h
  ·rename_i he
   simp only [ht, he]
   exact fillB_ok h.1
  ·simp [OB.holds] at h
 ·simp [OB.holds] at h
def partB (T : Tab) (t : TypeId) (cells : List AV) (off : Nat) : Bool :=
 match T t with
 | some { under := .struct _, .. } => true
 | some { under := .array _ _, .. } => true
 | some _ => (cells[off]?).isSome
 | none => false
theorem partB_ok {t : TypeId} {cells : List AV} {off : Nat} (h : partB T t cells off = true) : (partAV T t cells off).1 := by
 unfold partB at h
 unfold partAV
 cases hc : cells[off]? with
 | none => rw [hc] at h; split at h <;> simp_all
 | some c => split at h <;> simp_all
def fieldB (T : Tab) (t : TypeId) (f : Nat) : AV → OB
 | .agg xs => match T t with
  | some { under := .struct fs, .. } => match fs[f]? with | some fd => .is (partB T fd.type xs fd.offset) | none => .no
  | _ => .no
 | _ => .no
theorem fieldB_ok {t : TypeId} {f : Nat} {x : AV} (h : (fieldB T t f x).holds) : (fieldAV T t f x).1 := by
 unfold fieldB at h
 unfold fieldAV
 split at h
 ·split at h
  ·rename_i ht
   split at h
   ·rename_i hf
    simp only [ht, hf]
    exact partB_ok h.1
   ·simp [OB.holds] at h
  ·simp [OB.holds] at h
 ·simp [OB.holds] at h
def extractB (i : Nat) : AV → OB
 | .tup xs => .is (xs[i]?).isSome
 | _ => .no
theorem extractB_ok {i : Nat} {x : AV} (h : (extractB i x).holds) : (extractAV i x).1 := by
 unfold extractB at h
 unfold extractAV
 split at h
 ·rename_i xs
  cases hc : xs[i]? with
  | none => have := h.1; simp [hc] at this
  | some c => simp [hc]
 ·simp [OB.holds] at h
def lenB (T : Tab) (t : TypeId) (x : AV) : OB :=
 match T t with
 | some { under := .slice _, .. } => match x with
  | .pv (.ro _ n _) => .is true
  | .row _ _ _ n => .is true
  | .pv (.raw (.slice _ n _)) => .is true
  | _ => .no
 | some { under := .array n _, .. } => .is true
 | some { under := .string, .. } => match x with
  | .pv (.raw (.string s)) => .is true
  | _ => .no
 | _ => .no
theorem lenB_ok {t : TypeId} {x : AV} (h : (lenB T t x).holds) : (lenAV T t x).1 := by
 unfold lenB at h
 unfold lenAV
 split at h
 ·rename_i ht
  simp only [ht]
  split at h <;> simp_all [OB.holds]
 ·simp_all
 ·rename_i ht
  simp only [ht]
  split at h <;> simp_all [OB.holds]
 ·simp [OB.holds] at h
def minmaxB : AV → AV → OB
 | .pv (.raw (.int k a)), .pv (.raw (.int k' b)) => .is true
 | _, _ => .no
theorem minmaxB_ok {mx : Bool} {x y : AV} (h : (minmaxB x y).holds) : (minmaxAV mx x y).1 := by
 unfold minmaxB at h
 unfold minmaxAV
 split at h
 ·trivial
 ·simp [OB.holds] at h
def mm3B : AV → AV → AV → OB
 | .pv (.raw (.int k a)), .pv (.raw (.int k' b)), .pv (.raw (.int k'' c)) => .is true
 | _, _, _ => .no
theorem mm3B_ok {mx : Bool} {x y z : AV} (h : (mm3B x y z).holds) : (mm3AV mx x y z).1 := by
 unfold mm3B at h
 unfold mm3AV
 split at h
 ·exact ⟨trivial, trivial⟩
 ·simp [OB.holds] at h
def convB (T : Tab) (src dst : TypeId) : AV → OB
 | .pv (.raw (.int k n)) => match T src, T dst with
  | some { under := .int _, .. }, some { under := .int k', .. } => .is true
  | _, _ => .no
 | _ => .no
theorem convB_ok {s d : TypeId} {x : AV} (h : (convB T s d x).holds) : (convAV T s d x).1 := by
 unfold convB at h
 unfold convAV
 split at h
 ·split at h
  ·simp_all
  ·simp [OB.holds] at h
 ·simp [OB.holds] at h
def pickB : AV → AV → OB
 | .pv (.raw (.bool a)), .pv (.raw (.bool b)) => .is true
 | .gd p (.pv (.raw (.bool a))), .pv (.raw (.bool b)) => ⟨true, []⟩
 | .pv (.raw (.bool a)), .gd q (.pv (.raw (.bool b))) => ⟨true, []⟩
 | .gd p (.pv (.raw (.bool a))), .gd q (.pv (.raw (.bool b))) => ⟨true, []⟩
 | _, _ => .no
def pickPhi (t : Bool) (a b : AV) : List Prop :=
 (match a with | .gd p _ => [t = true → p = true] | _ => []) ++ (match b with | .gd q _ => [t = false → q = true] | _ => [])
theorem pickB_ok {t : Bool} {a b : AV} (h : (pickB a b).holds) (hp : allP (pickPhi t a b)) : (pickAV (.pv (.raw (.bool t))) a b).1 := by
 unfold pickB at h
 split at h
 ·trivial
 ·exact hp.1
 ·exact hp.1
 ·exact ⟨hp.1, hp.2.1⟩
 ·simp [OB.holds] at h
end Go.Ab
set_option linter.unusedVariables false
set_option linter.unusedSimpArgs false
namespace Go.Ab
open Go.RowKit
variable {P : Program} {T : Tab}
def loadB (T : Tab) (H : Heap) (t : TypeId) (x : AV) : Bool :=
 match T t with
 | none => false
 | some ti => match x with
  | .ptr id off => match H id with
   | some b => match isAggT ti.under with
    | true => decide (off + ti.size ≤ b.cells.length)
    | false => (b.cells[off]?).isSome
   | none => false
  | .roat n cell => match isAggT ti.under with
   | true => decide (ti.size ≤ n)
   | false => decide (0 < n)
  | _ => false
theorem loadB_ok {H : Heap} {t : TypeId} {x : AV} (h : loadB T H t x = true) : (loadAV T H t x).1 := by
 unfold loadB at h
 unfold loadAV
 split at h
 ·cases h
 ·rename_i ti ht
  simp only [ht]
  split at h
  ·split at h
   ·rename_i b hb
    simp only [AV.unpix, hb]
    split at h
    ·rename_i hg; simp only [AV.unpix, hg]; exact of_decide_eq_true h
    ·rename_i hg
     simp only [hg]
     split <;> simp_all
   ·cases h
  ·split at h
   ·rename_i hg; simp only [AV.unpix, hg]; exact of_decide_eq_true h
   ·rename_i hg; simp only [AV.unpix, hg]; exact of_decide_eq_true h
  ·cases h
def pureB (T : Tab) (ev : Operand → AV) : Op → OB
 | .move x | .assign x => .is true
 | .binOp op xT x y _ => binB T op xT (ev x) (ev y)
 | .unOp op _ x => unB op (ev x)
 | .fieldAddr s x f => fieldAddrB T s f (ev x)
 | .indexAddr t x ix => indexAddrB T t (ev x) (ev ix)
 | .slice t x lo hi mx => sliceB T t (ev x) (lo.map ev) (hi.map ev) (mx.map ev)
 | .build t parts => buildB T t (parts.toList.map fun p => (p.1, ev p.2))
 | .field t x f => fieldB T t f (ev x)
 | .extract x i => extractB i (ev x)
 | .convert s d x => convB T s d (ev x)
 | .makeFunc (.func f) first caps => .is first.isEmpty
 | .nilCheck x => match ev x with | .ptr id off => .is true | .pix id off => .is true | .roat n c => .is true | _ => .no
 | .call { callee := .builtin .len, args := args, argTypes := ts } => match args.toList, ts.toList with | [x], [t] => lenB T t (ev x) | _, _ => .no
 | .call { callee := .builtin .max, args := args, .. } => match args.toList with | [x, y] => minmaxB (ev x) (ev y) | [x, y, z] => mm3B (ev x) (ev y) (ev z) | _ => .no
 | .call { callee := .builtin .min, args := args, .. } => match args.toList with | [x, y] => minmaxB (ev x) (ev y) | [x, y, z] => mm3B (ev x) (ev y) (ev z) | _ => .no
 | _ => .no
theorem no_not {p : Prop} (h : OB.no.holds) : p := by simp [OB.holds] at h
theorem pureB_ok {ev : Operand → AV} {op : Op} (h : (pureB T ev op).holds) : ∃ out, pureOut T ev op = some out ∧ out.1 := by
 unfold pureB at h
 split at h
 ·exact ⟨_, rfl, trivial⟩
 ·exact ⟨_, rfl, trivial⟩
 ·exact ⟨_, rfl, binB_ok h⟩
 ·exact ⟨_, rfl, unB_ok h⟩
 ·exact ⟨_, rfl, fieldAddrB_ok h⟩
 ·exact ⟨_, rfl, indexAddrB_ok h⟩
 ·exact ⟨_, rfl, sliceB_ok h⟩
 ·exact ⟨_, rfl, buildB_ok h⟩
 ·exact ⟨_, rfl, fieldB_ok h⟩
 ·exact ⟨_, rfl, extractB_ok h⟩
 ·exact ⟨_, rfl, convB_ok h⟩
 ·rename_i f first caps
  refine ⟨_, rfl, ?_⟩
  have := h.1
  simpa using this
 ·rename_i x
  split at h
  ·rename_i id off he
   exact ⟨(True, .ptr id off), by unfold pureOut; simp only [he], trivial⟩
  ·rename_i id off he
   exact ⟨(True, .pix id off), by unfold pureOut; simp only [he], trivial⟩
  ·rename_i n c he
   exact ⟨(True, .roat n c), by unfold pureOut; simp only [he], trivial⟩
  ·exact no_not h
 ·rename_i args ts
  split at h
  ·rename_i x t hx ht
   exact ⟨lenAV T t (ev x), by unfold pureOut; simp only [hx, ht], lenB_ok h⟩
  ·exact no_not h
 ·rename_i args _
  split at h
  ·rename_i x y hx
   exact ⟨minmaxAV true (ev x) (ev y), by unfold pureOut; simp only [hx], minmaxB_ok h⟩
  ·rename_i x y z hx
   exact ⟨mm3AV true (ev x) (ev y) (ev z), by unfold pureOut; simp only [hx], mm3B_ok h⟩
  ·exact no_not h
 ·rename_i args _
  split at h
  ·rename_i x y hx
   exact ⟨minmaxAV false (ev x) (ev y), by unfold pureOut; simp only [hx], minmaxB_ok h⟩
  ·rename_i x y z hx
   exact ⟨mm3AV false (ev x) (ev y) (ev z), by unfold pureOut; simp only [hx], mm3B_ok h⟩
  ·exact no_not h
 ·exact no_not h
def isRowAt (σ : AS) (x : Operand) : Bool :=
 match σ.bev x with
 | .pix _ _ => true
 | .ptr id _ => match σ.heap id with | some (.row _ _ _) => true | _ => false
 | _ => false
def isHard (σ : AS) : Op → Bool
 | .load _ x => isRowAt σ x
 | .store _ a _ => isRowAt σ a
 | .call { callee := .value _, .. } => true
 | .call { callee := .builtin .append, .. } => true
 | .call { callee := .builtin .copy, .. } => true
 | .buildSlice _ _ _ => true
 | .makeSlice _ _ _ => true
 | .index _ _ _ => true
 | .makeMap _ _ => true
 | .lookup _ _ _ _ => true
 | .mapUpdate _ _ _ _ => true
 | .insert _ _ _ _ => true
 | .call { callee := .builtin .delete, .. } => true
 | .call { callee := .builtin .clear, .. } => true
 | .call { callee := .builtin .len, args := args, .. } => match args.toList with | [x] => (match σ.bev x with | .map _ => true | _ => false) | _ => false
 | .slice _ x _ _ _ => match σ.bev x with
  | .roat _ _ => true
  | _ => false
 | .indexAddr _ x _ => match σ.bev x with
  | .roat _ _ => true
  | _ => false
 | .convert _ _ x => match σ.bev x with
  | .pv (.ro _ _ _) => true
  | .row _ _ _ _ => true
  | _ => false
 | _ => false
def bareP : AV → List Prop
 | .gd p _ => [p = true]
 | _ => []
def okOp (T : Tab) (σ : AS) : Op → OB
 | .pick c a b => match (σ.ev c).bare with
  | .pv (.raw (.bool t)) => ⟨(pickB (σ.ev a) (σ.ev b)).chk, bareP (σ.ev c) ++ pickPhi t (σ.ev a) (σ.ev b)⟩
  | _ => .no
 | .load t x => .is (loadB T σ.heap t (σ.bev x))
 | .box t x => .is ((σ.bev x).cells.all AV.one && ((σ.bev x).one || (σ.bev x).isAgg))
 | .alloc t => match T t with
  | some ti => .is ((zeroAV ti.zero).cells.all AV.one)
  | none => .no
 | .store t a x => match T t with
  | some ti => match σ.bev a with
   | .ptr id off => match σ.heap id with
    | some (.box cs) => .is ((σ.bev x).cells.all AV.one && ((σ.bev x).one || (σ.bev x).isAgg) && decide ((σ.bev x).cells.length = ti.size) && decide (off + ti.size ≤ cs.length))
    | _ => .no
   | _ => .no
  | none => .no
 | op => pureB T σ.bev op
def effP (T : Tab) (σ : AS) (o : Oper) : Eff :=
 match o.op with
 | .pick c a b => pickEff (σ.ev c) (σ.ev a) (σ.ev b)
 | op => effOf T σ.bev σ.heap o.dst op
theorem bareP_ok {x : AV} (h : allP (bareP x)) : x.when = true := by
 cases x <;> first | rfl | exact h.1
theorem effOf_pure_ok {ev : Operand → AV} {H : Heap} {dst : Option Nat} {op : Op} (h : (pureB T ev op).holds) : (effOf T ev H dst op).ok := by
 obtain ⟨out, h1, h2⟩ := pureB_ok h
 unfold effOf
 split
 all_goals first
  | (simp [pureOut] at h1; done)
  | (simp only [h1]; exact h2)
  | skip
 ·rename_i args ts
  split
  ·rename_i hmt
   exfalso
   unfold pureB at h
   simp only at h
   split at h
   ·rename_i x t hx ht
    unfold isMapT at hmt
    rw [ht] at hmt
    simp only at hmt
    split at hmt
    ·rename_i htt
     unfold lenB at h
     rw [htt] at h
     exact no_not h
    ·cases hmt
   ·exact no_not h
  ·simp only [h1]; exact h2
 ·rename_i s d x
  have hc : (convAV T s d (ev x)).1 := convB_ok h
  split
  ·split
   ·rename_i hx
    have h' : (convB T s d (ev x)).holds := h
    rw [hx] at h'
    exact no_not h'
   ·exact hc
  ·exact hc
theorem okOp_ok {σ : AS} {o : Oper} (h : (okOp T σ o.op).holds) : (effP T σ o).ok := by
 unfold okOp at h
 unfold effP
 split at h
 ·rename_i c a b hop
  simp only [hop]
  split at h
  ·rename_i t ht
   obtain ⟨h1, h2⟩ := h
   rw [allP_append] at h2
   unfold pickEff
   rw [ht]
   exact ⟨bareP_ok h2.1, pickB_ok ⟨h1, by
    have : (pickB (σ.ev a) (σ.ev b)).phi = [] := by unfold pickB; split <;> rfl
    rw [this]; trivial⟩ h2.2⟩
  ·exact no_not h
 ·rename_i t x hop
  simp only [hop]
  exact loadB_ok h.1
 ·rename_i t x hop
  simp only [hop]
  have h1 := h.1
  simp only [Bool.and_eq_true] at h1
  exact h1
 ·rename_i t hop
  simp only [hop]
  split at h
  ·rename_i ti ht
   unfold effOf
   simp only [ht]
   exact h.1
  ·exact no_not h
 ·rename_i t a x hop
  simp only [hop]
  split at h
  ·rename_i ti ht
   split at h
   ·rename_i id off ha
    split at h
    ·rename_i cs hid
     unfold effOf
     simp only [ht, ha, AV.unpix, hid]
     have h1 := h.1
     simp only [Bool.and_eq_true, decide_eq_true_eq] at h1
     exact ⟨h1.1.1.1, h1.1.1.2, h1.1.2, h1.2⟩
    ·exact no_not h
   ·exact no_not h
  ·exact no_not h
 ·rename_i hn1 _ _ _ _
  have := effOf_pure_ok (H := σ.heap) (dst := o.dst) h
  split
  ·rename_i c a b hop; exact absurd hop (hn1 c a b)
  ·exact this
inductive Fr where
 | code (c : Code)
 | ops (all : Array Oper) (os : List Oper)
 | blk (id : Nat)
 | back (p : AS → Prop)
def VS (P : Program) (T : Tab) (Q : Exit → AS → Prop) : List Fr → Exit → AS → Prop
 | [] => Q
 | .code c :: r => thenA (AWp P c (VS P T Q r)) (VS P T Q r)
 | .ops all os :: r => thenA (sxOps P T all os (VS P T Q r .normal)) (VS P T Q r)
 | .blk id :: r => blockQ id (VS P T Q r)
 | .back p :: r => thenA p (VS P T Q r)
structure Lf where
 σ : AS
 k : List Fr
 e : Exit
def V (P : Program) (T : Tab) (Q : Exit → AS → Prop) (l : Lf) : Prop := VS P T Q l.k l.e l.σ
inductive Tr where
 | leaf (l : Lf)
 | and (φ : Prop) (t : Tr)
 | br (c : Bool) (t e : Tr)
 | bad
inductive Sk where
 | leaf (i : Nat)
 | and (φ : Prop) (t : Sk)
 | br (c : Bool) (t e : Sk)
 | bad
def Tr.n : Tr → Nat
 | .leaf _ => 1
 | .and _ t => t.n
 | .br _ t e => t.n + e.n
 | .bad => 0
def Tr.sk : Tr → Nat → Sk
 | .leaf _, i => .leaf i
 | .and φ t, i => .and φ (t.sk i)
 | .br c t e, i => .br c (t.sk i) (e.sk (i + t.n))
 | .bad, _ => .bad
def Lf.no : Lf := ⟨{ n := 0, slots := fun _ => .junk, heap := fun _ => none, seen := fun _ => true }, [], .normal⟩
def Tr.get : Tr → Nat → Lf
 | .leaf l, _ => l
 | .and _ t, i => t.get i
 | .br _ t e, i => bif Nat.blt i t.n then t.get i else e.get (i - t.n)
 | .bad, _ => .no
def Tr.Holds (q : Lf → Prop) : Tr → Prop
 | .leaf l => q l
 | .and φ t => φ ∧ t.Holds q
 | .br c t e => (c = true → t.Holds q) ∧ (c = false → e.Holds q)
 | .bad => False
def Sk.Holds (p : Nat → Prop) : Sk → Prop
 | .leaf i => p i
 | .and φ t => φ ∧ t.Holds p
 | .br c t e => (c = true → t.Holds p) ∧ (c = false → e.Holds p)
 | .bad => False
theorem sk_holds {p : Nat → Prop} {q : Lf → Prop} : ∀ {t : Tr} {i : Nat}, (t.sk i).Holds p → (∀ j, j < t.n → p (i + j) → q (t.get j)) → t.Holds q
 | .leaf l, i, h, hq => hq 0 (by simp [Tr.n]) h
 | .and φ t, i, h, hq => ⟨h.1, sk_holds h.2 hq⟩
 | .br c t e, i, h, hq => by
  refine ⟨fun hc => sk_holds (h.1 hc) fun j hj hp => ?_, fun hc => sk_holds (h.2 hc) fun j hj hp => ?_⟩
  ·have := hq j (by simp only [Tr.n]; omega) hp
   unfold Tr.get at this
   rw [show Nat.blt j t.n = true from Nat.ble_eq_true_of_le hj] at this
   exact this
  ·have := hq (t.n + j) (by simp only [Tr.n]; omega) (by rw [← Nat.add_assoc]; exact hp)
   unfold Tr.get at this
   rw [show Nat.blt (t.n + j) t.n = false by unfold Nat.blt; rw [← Bool.not_eq_true, Nat.ble_eq]; omega, show t.n + j - t.n = j by omega] at this
   exact this
 | .bad, _, h, _ => h.elim
def Tr.ands : List Prop → Tr → Tr
 | [], t => t
 | φ :: r, t => .and φ (Tr.ands r t)
theorem ands_holds {q : Lf → Prop} : ∀ {l : List Prop} {t : Tr}, (Tr.ands l t).Holds q → allP l ∧ t.Holds q
 | [], t, h => ⟨trivial, h⟩
 | φ :: r, t, h => ⟨⟨h.1, (ands_holds h.2).1⟩, (ands_holds h.2).2⟩
def isPick : Op → Bool
 | .pick _ _ _ => true
 | _ => false
def whenL (σ : AS) : List Operand → List Prop
 | [] => []
 | x :: xs => bareP (σ.ev x) ++ whenL σ xs
theorem whenL_ok {σ : AS} : ∀ {xs : List Operand}, allP (whenL σ xs) → whens σ xs
 | [], _ => trivial
 | x :: xs, h => by
  unfold whenL at h
  rw [allP_append] at h
  exact ⟨bareP_ok h.1, whenL_ok h.2⟩
def dstB (n : Nat) : Option Nat → Bool
 | none => true
 | some d => Nat.blt d n
def freshB (σ : AS) : List (Nat × Blk) → Bool
 | [] => true
 | x :: xs => !(σ.seen x.1) && freshB σ xs
theorem freshB_ok {σ : AS} : ∀ {l : List (Nat × Blk)}, freshB σ l = true → freshS σ l
 | [], _ => trivial
 | x :: xs, h => by
  simp only [freshB, Bool.and_eq_true, Bool.not_eq_true'] at h
  exact ⟨h.1, freshB_ok h.2⟩
def gOf (σ : AS) (all : Array Oper) (j : Nat) (want : Bool) : Option Bool :=
 match (all[j]?).bind (·.dst) with
 | none => none
 | some d => match σ.slots d with
  | .pv (.raw (.bool b)) => some (match want with | true => b | false => !b)
  | .gd p (.pv (.raw (.bool b))) => some (match want with | true => p && b | false => p && !b)
  | _ => none
def stepTr (T : Tab) (all : Array Oper) (o : Oper) (σ : AS) (next : AS → Tr) : Tr :=
 match (okOp T σ o.op).chk && dstB σ.n o.dst with
 | false => .bad
 | true => match o.guard with
  | none => match isStore o.op || freshB σ (effP T σ o).set with
   | false => .bad
   | true => Tr.ands ((bif isPick o.op then [] else whenL σ o.op.operands.toList) ++ (okOp T σ o.op).phi) (next (σ.eff o.dst (effP T σ o).v (effP T σ o).set (effP T σ o).del))
  | some (j, want) => match gOf σ all j want with
   | none => .bad
   | some g => match (effP T σ o).set, (effP T σ o).del with
    | [], [] => Tr.ands (((bif isPick o.op then [] else whenL σ o.op.operands.toList) ++ (okOp T σ o.op).phi).map fun φ => (g = true → φ)) (next (σ.put o.dst (.gd g (effP T σ o).v)))
    | _, _ => match isStore o.op || freshB σ (effP T σ o).set with
     | false => .bad
     | true => .br g (Tr.ands ((bif isPick o.op then [] else whenL σ o.op.operands.toList) ++ (okOp T σ o.op).phi) (next (σ.eff o.dst (.gd true (effP T σ o).v) (effP T σ o).set (effP T σ o).del))) (next (σ.put o.dst (.gd false (.raw undef))))
theorem allP_map {g : Bool} : ∀ {l : List Prop}, allP (l.map fun φ => (g = true → φ)) → g = true → allP l
 | [], _, _ => trivial
 | φ :: r, h, hg => ⟨h.1 hg, allP_map h.2 hg⟩
theorem gOf_guard {σ : AS} {all : Array Oper} {j : Nat} {want g : Bool} (h : gOf σ all j want = some g) : guardOf σ all (some (j, want)) = (True, g) := by
 unfold gOf at h
 unfold guardOf
 split at h
 ·cases h
 ·rename_i d hd
  simp only [hd]
  split at h
  ·cases h
   rename_i b hb
   simp only [hb]
   cases want <;> cases b <;> rfl
  ·cases h
   rename_i p b hb
   simp only [hb]
   cases want <;> cases b <;> rfl
  ·cases h
theorem stepTr_ok {all : Array Oper} {o : Oper} {σ : AS} {next : AS → Tr} {q : Lf → Prop} {K : AS → Prop} (hh : isHard σ o.op = false) (h : (stepTr T all o σ next).Holds q) (hK : ∀ σ', (next σ').Holds q → K σ') : sxOp P T all o σ K := by
 have hcall : callOf o.op = none := by
  unfold callOf
  split
  ·rename_i he; rw [he] at hh; simp [isHard] at hh
  ·rfl
 unfold stepTr at h
 split at h
 ·exact h.elim
 rename_i hchk
 simp only [Bool.and_eq_true] at hchk
 obtain ⟨hchk, hdst⟩ := hchk
 have hd : dstOk σ.n o.dst := by
  cases hd : o.dst with
  | none => trivial
  | some d => rw [hd] at hdst; exact Nat.le_of_ble_eq_true hdst
 have body : ∀ g : Bool, (g = true → allP ((bif isPick o.op then [] else whenL σ o.op.operands.toList) ++ (okOp T σ o.op).phi)) → (g = true → isStore o.op = false → freshS σ (effP T σ o).set) →
   (match o.guard.isSome with
    | false => K (σ.eff o.dst (effP T σ o).v (effP T σ o).set (effP T σ o).del)
    | true => match (effP T σ o).set, (effP T σ o).del with
     | [], [] => K (σ.put o.dst (.gd g (effP T σ o).v))
     | _, _ => (g = true → K (σ.eff o.dst (.gd true (effP T σ o).v) (effP T σ o).set (effP T σ o).del)) ∧ (g = false → K (σ.put o.dst (.gd false (.raw undef))))) →
   match o.op with
   | .pick c a b => sxEff (pickEff (σ.ev c) (σ.ev a) (σ.ev b)) false o.dst σ o.guard.isSome g K
   | op => (g = true → whens σ op.operands.toList) ∧
    match callOf op with
    | some (f, xs) => match isMC σ.fz op with
     | false => sxCall P f xs o.dst σ o.guard.isSome g K
     | true => sxM P f xs o.dst σ o.guard.isSome g K
    | none => sxEff (effOf T σ.bev σ.heap o.dst op) (isStore op) o.dst σ o.guard.isSome g K ∨
     (isStore op = false ∧ sxFrz (effOf T σ.bev σ.heap o.dst op) o.dst σ o.guard.isSome g K) := by
  intro g h1 h2 h3
  have hok : g = true → (effP T σ o).ok := fun hg => okOp_ok ⟨hchk, by have := h1 hg; rw [allP_append] at this; exact this.2⟩
  split
  ·rename_i c a b hop
   have e : effP T σ o = pickEff (σ.ev c) (σ.ev a) (σ.ev b) := by unfold effP; rw [hop]
   rw [e] at h3 hok h2
   exact ⟨fun hg => ⟨hok hg, fun _ => h2 hg (by rw [hop]; rfl)⟩, h3⟩
  ·rename_i hnp
   have e : effP T σ o = effOf T σ.bev σ.heap o.dst o.op := by
    unfold effP; split
    ·rename_i c a b hop; exact absurd hop (hnp c a b)
    ·rfl
   have hp : isPick o.op = false := by
    cases ho : o.op <;> first | rfl | exact absurd ho (hnp _ _ _)
   rw [e] at h3 hok h2
   rw [hcall]
   refine ⟨fun hg => ?_, .inl ⟨fun hg => ⟨hok hg, fun hs => h2 hg hs⟩, h3⟩⟩
   have := h1 hg
   rw [hp, cond_false, allP_append] at this
   exact whenL_ok this.1
 unfold sxOp
 cases hg : o.guard with
 | none =>
  rw [hg] at h
  simp only at h
  split at h
  ·exact h.elim
  ·rename_i hfr
   obtain ⟨h1, h2⟩ := ands_holds h
   refine ⟨trivial, hd, ?_⟩
   have := body true (fun _ => h1) (fun _ hs => by rw [hs, Bool.false_or] at hfr; exact freshB_ok hfr) (by rw [hg]; exact hK _ h2)
   rw [hg] at this
   exact this
 | some jw =>
  obtain ⟨j, want⟩ := jw
  rw [hg] at h
  simp only at h
  split at h
  ·exact h.elim
  ·rename_i g hgo
   have hgg := gOf_guard hgo
   rw [hgg]
   refine ⟨trivial, hd, ?_⟩
   split at h
   ·rename_i hs hdl
    obtain ⟨h1, h2⟩ := ands_holds h
    have := body g (fun hgt => allP_map h1 hgt) (fun _ _ => by rw [hs]; trivial) (by rw [hg]; simp only [Option.isSome_some, hs, hdl]; exact hK _ h2)
    rw [hg] at this
    exact this
   ·rename_i hne
    split at h
    ·exact h.elim
    ·rename_i hfr
     have := body g (fun hgt => (ands_holds (h.1 hgt)).1) (fun _ hs => by rw [hs, Bool.false_or] at hfr; exact freshB_ok hfr) (by
      rw [hg]
      simp only [Option.isSome_some]
      exact ⟨fun hgt => hK _ (ands_holds (h.1 hgt)).2, fun hgf => hK _ (h.2 hgf)⟩)
     rw [hg] at this
     exact this
def popTo (id : Nat) : List Fr → Option (List Fr)
 | [] => none
 | .blk i :: k => bif Nat.beq i id then some k else popTo id k
 | .code _ :: k => popTo id k
 | .ops _ _ :: k => popTo id k
 | .back _ :: k => popTo id k
theorem popTo_ok {Q : Exit → AS → Prop} {id : Nat} {σ : AS} : ∀ {k k' : List Fr}, popTo id k = some k' → VS P T Q k' .normal σ → VS P T Q k (.exit id) σ
 | [], k', h, _ => by cases h
 | .blk i :: k, k', h, hv => by
  simp only [popTo] at h
  show (if id = i then VS P T Q k .normal σ else VS P T Q k (.exit id) σ)
  cases hb : Nat.beq i id with
  | true =>
   rw [hb, cond_true] at h
   cases h
   rw [if_pos (Nat.eq_of_beq_eq_true hb).symm]
   exact hv
  | false =>
   rw [hb, cond_false] at h
   rw [if_neg (fun e => by subst e; simp at hb)]
   exact popTo_ok h hv
 | .code _ :: k, k', h, hv => popTo_ok (k := k) h hv
 | .ops _ _ :: k, k', h, hv => popTo_ok (k := k) h hv
 | .back _ :: k, k', h, hv => popTo_ok (k := k) h hv
theorem ret_ok {Q : Exit → AS → Prop} {σ : AS} : ∀ {k : List Fr}, Q .ret σ → VS P T Q k .ret σ
 | [], h => h
 | .blk i :: k, h => ret_ok (k := k) h
 | .code _ :: k, h => ret_ok (k := k) h
 | .ops _ _ :: k, h => ret_ok (k := k) h
 | .back _ :: k, h => ret_ok (k := k) h
def drawAt (T : Tab) (σ : AS) (ops : Array Oper) : Bool → Option (Array Oper)
 | false => some ops
 | true => bif orderAt T σ ops then some ops else none
theorem drawAt_true {σ : AS} {ops ops' : Array Oper} (h : drawAt T σ ops true = some ops') : orderAt T σ ops = true ∧ ops = ops' := by
 unfold drawAt at h
 simp only at h
 cases ho : orderAt T σ ops with
 | true => rw [ho] at h; exact ⟨rfl, Option.some.inj h⟩
 | false => rw [ho] at h; cases h
def hasRange : Code → Bool
 | .region _ ops _ => ops.toList.any fun o => match o.op with | .range _ _ => true | _ => false
 | _ => false
noncomputable def runS (T : Tab) (stops : List Nat) (fuel : Nat) : AS → List Fr → Tr :=
 @Nat.rec (fun _ => AS → List Fr → Tr) (fun _ _ => .bad) (fun n ih σ k => match k with
  | [] => .leaf ⟨σ, [], .normal⟩
  | .back p :: r => .leaf ⟨σ, .back p :: r, .normal⟩
  | .blk id :: r => ih σ r
  | .ops all [] :: r => ih σ r
  | .ops all (o :: os) :: r => match isHard σ o.op with
   | true => .leaf ⟨σ, .ops all (o :: os) :: r, .normal⟩
   | false => stepTr T all o σ fun σ' => ih σ' (.ops all os :: r)
  | .code c :: r => match c with
   | .skip => ih σ r
   | .region id ops d => match stops.contains id with
    | true => .leaf ⟨σ, .code (.region id ops d) :: r, .normal⟩
    | false => match drawAt T σ ops d with
     | some ops' => ih σ (.ops ops' ops'.toList :: r)
     | none => .bad
   | .seq x y => match hasRange x with
    | true => .leaf ⟨σ, .code (.seq x y) :: r, .normal⟩
    | false => ih σ (.code x :: .code y :: r)
   | .cond c x y => match σ.ev c with
    | .pv (.raw (.bool t)) => .br t (ih σ (.code x :: r)) (ih σ (.code y :: r))
    | _ => .bad
   | .block id c => ih σ (.code c :: .blk id :: r)
   | .exit id => match popTo id r with
    | some r' => ih σ r'
    | none => .bad
   | .ret => .leaf ⟨σ, [], .ret⟩
   | .loop c => .leaf ⟨σ, .code (.loop c) :: r, .normal⟩
   | _ => .bad) fuel
theorem runS_ok (hT : TabOk P T) (hm : P.follows .mixedOrders = true) {Q : Exit → AS → Prop} : ∀ {ss : List Nat} {n : Nat} {σ : AS} {k : List Fr}, (runS T ss n σ k).Holds (V P T Q) → VS P T Q k .normal σ
 | ss, 0, σ, k, h => h.elim
 | ss, n + 1, σ, k, h => by
  have ih := fun σ k => runS_ok hT hm (Q := Q) (ss := ss) (n := n) (σ := σ) (k := k)
  match k, h with
  | [], h => exact h
  | .back p :: r, h => exact h
  | .blk id :: r, h => exact ih σ r h
  | .ops all [] :: r, h => exact ih σ r h
  | .ops all (o :: os) :: r, h =>
   change (match isHard σ o.op with | true => Tr.leaf ⟨σ, .ops all (o :: os) :: r, .normal⟩ | false => stepTr T all o σ fun σ' => runS T ss n σ' (.ops all os :: r)).Holds _ at h
   split at h
   ·exact h
   ·rename_i hh
    exact .inl (stepTr_ok hh h fun σ' h' => ih σ' _ h')
  | .code .skip :: r, h => exact awp_skip (ih σ r h)
  | .code (.region id ops d) :: r, h =>
   change (match ss.contains id with | true => Tr.leaf ⟨σ, .code (.region id ops d) :: r, .normal⟩ | false => match drawAt T σ ops d with | some ops' => runS T ss n σ (.ops ops' ops'.toList :: r) | none => Tr.bad).Holds _ at h
   split at h
   ·exact h
   split at h
   ·rename_i ops' hd
    have h' := ih σ _ h
    cases d with
    | false => cases hd; exact awp_region hT h'
    | true =>
     obtain ⟨ho, rfl⟩ := drawAt_true hd
     exact awp_region_at hT hm ho h'
   ·exact h.elim
  | .code (.seq x y) :: r, h =>
   change (match hasRange x with | true => Tr.leaf ⟨σ, .code (.seq x y) :: r, .normal⟩ | false => runS T ss n σ (.code x :: .code y :: r)).Holds _ at h
   split at h
   ·exact h
   have h' := ih σ (.code x :: .code y :: r) h
   refine awp_seq (awp_mono h' ?_)
   intro e σ' hq
   cases e <;> exact hq
  | .code (.cond c x y) :: r, h =>
   change (match σ.ev c with | .pv (.raw (.bool t)) => Tr.br t (runS T ss n σ (.code x :: r)) (runS T ss n σ (.code y :: r)) | _ => Tr.bad).Holds _ at h
   split at h
   ·rename_i t ht
    exact awp_cond ht (fun e => ih σ (.code x :: r) (h.1 e)) (fun e => ih σ (.code y :: r) (h.2 e))
   ·exact h.elim
  | .code (.block id c) :: r, h => exact awp_block (ih σ (.code c :: .blk id :: r) h)
  | .code (.exit id) :: r, h =>
   change (match popTo id r with | some r' => runS T ss n σ r' | none => Tr.bad).Holds _ at h
   split at h
   ·rename_i r' hr
    exact awp_exit (popTo_ok hr (ih σ r' h))
   ·exact h.elim
  | .code .ret :: r, h => exact awp_ret (ret_ok h)
  | .code (.loop c) :: r, h => exact h
  | .code (.rangeFunc ..) :: r, h => exact h.elim
  | .code (.scope _) :: r, h => exact h.elim
  | .code (.label _) :: r, h => exact h.elim
  | .code (.goto _) :: r, h => exact h.elim
  | .code (.refuse _) :: r, h => exact h.elim
theorem segs (ss : List Nat) (hT : TabOk P T) (hm : P.follows .mixedOrders = true) {Q : Exit → AS → Prop} {σ : AS} {k : List Fr} (n : Nat) {S : Sk} (hs : (runS T ss n σ k).sk 0 = S) (h : S.Holds fun j => V P T Q ((runS T ss n σ k).get j)) : VS P T Q k .normal σ := by
 refine runS_ok hT hm (ss := ss) (n := n) (sk_holds (i := 0) (p := fun j => V P T Q ((runS T ss n σ k).get j)) (by rw [hs]; exact h) fun j _ hj => ?_)
 rw [Nat.zero_add] at hj
 exact hj
theorem seg (hT : TabOk P T) (hm : P.follows .mixedOrders = true) {Q : Exit → AS → Prop} {σ : AS} {k : List Fr} (n : Nat) {S : Sk} (hs : (runS T [] n σ k).sk 0 = S) (h : S.Holds fun j => V P T Q ((runS T [] n σ k).get j)) : VS P T Q k .normal σ :=
 segs [] hT hm n hs h
end Go.Ab
