/- A loop that is unrolled: a round, and what follows it. -/
import Derived.Test.YtnbjjhhgpcpbgaaAbY
set_option linter.unusedVariables false
set_option linter.unusedSectionVars false
namespace Go.Ab
variable {P : Program} {T : Tab}

/-- At most so many rounds of a loop, one by one. -/
def Unr (P : Program) (T : Tab) (Q : Exit → AS → Prop) (body : Code) (tail : List Fr) : Nat → AS → Prop
  | 0, _ => False
  | n + 1, σ => VS P T Q (.code body :: .back (Unr P T Q body tail n) :: tail) .normal σ

theorem unr_ok {Q : Exit → AS → Prop} {body : Code} {tail : List Fr} {n : Nat} {σ : AS} (h : VS P T Q (.code body :: .back (Unr P T Q body tail n) :: tail) .normal σ) : Unr P T Q body tail (n + 1) σ := h

theorem unroll_ok {Q : Exit → AS → Prop} {l : Lf} (hl : l.isLoop = true) (n : Nat) (h : Unr P T Q l.body l.tail n l.σ) : V P T Q l := by
  obtain ⟨σ, k, e⟩ := l
  unfold Lf.isLoop at hl
  simp only at hl
  split at hl
  · rename_i c r
    show AWp P (.loop c) (VS P T Q r) σ
    intro A _ W a w hst
    refine wp_loop_ghost (fun m a w => ∃ σ, Unr P T Q c r m σ ∧ St A W w a σ) n ⟨σ, h, hst⟩ ?_
    rintro m a w ⟨σ, hu, hst⟩
    cases m with
    | zero => exact hu.elim
    | succ m =>
      refine wp_mono ((show AWp P c _ σ from hu) A W a w hst) ?_
      rintro e a' w' ⟨σ', hst', hq⟩
      cases e with
      | normal => exact ⟨m, Nat.lt_succ_self m, σ', hq, hst'⟩
      | _ => exact ⟨σ', hst', hq⟩
  · cases hl

/-- A load at a place that is told outright. -/
def ldlV (T : Tab) (l : Lf) : Option (Nat × AV) :=
  match hardV l with
  | some (d, o) => match o.op with
    | .load t x => match T t with
      | some ti => match isAggT ti.under, (l.σ.bev x).unpix with
        | false, .ptr id off => match l.σ.heap id with
          | some b => match b.cells[off]? with
            | some c => some (d, c)
            | none => none
          | none => none
        | _, _ => none
      | none => none
    | _ => none
  | none => none

theorem ldl_ok {Q : Exit → AS → Prop} {l : Lf} {d : Nat} {v : AV} (hv : ldlV T l = some (d, v)) (hk : VS P T Q l.rest .normal (l.σ.eff (some d) v [] [])) : V P T Q l := by
  unfold ldlV at hv
  split at hv
  · rename_i d' o hh
    split at hv
    · rename_i t x hop
      split at hv
      · rename_i ti ht
        split at hv
        · rename_i id off ha hx
          split at hv
          · rename_i b hid
            split at hv
            · rename_i c hc
              cases hv
              refine hard_ok (T := T) hh (e := .of (True, v)) ?_ trivial (.inr trivial) hk
              unfold effOf loadAV
              simp only [hop, ht, hx, hid, ha, hc]
            · cases hv
          · cases hv
        · cases hv
      · cases hv
    · cases hv
  · cases hv

/-- A row of pointers, told cell by cell. -/
def blkP (ρ : Ren) (D : Nat → Option Blk) (H : Heap) (i : Nat) (b : Blk) : Option (List Prop) :=
  match renB ρ i with
  | none => none
  | some id => match b, H id with
    | .row e s cs, some (.row e' s' cs') => bif Nat.beq e e' && Nat.beq s s' then wkEL ρ D H cs' cs else none
    | _, _ => none

def heapP (ps : List Nat) (ρ : Ren) (D : Nat → Option Blk) (H : Heap) : List (Nat × Blk) → Option (List Prop)
  | [] => some []
  | (i, b) :: r => bif Nat.blt i 16384 then optAnd (bif ps.contains i then blkP ρ D H i b else blkE ρ D H i b) (heapP ps ρ D H r) else none

def allSub (ρ : Ren) (σ τ : AS) : List (Nat × Blk) → Prop
  | [] => True
  | (i, b) :: r => i < 16384 ∧ SubB (renOf ρ) (freeOf ρ) σ τ i b ∧ allSub ρ σ τ r

theorem allSub_mem {ρ : Ren} {σ τ : AS} : ∀ {l : List (Nat × Blk)}, allSub ρ σ τ l → ∀ i b, lookH l i = some b → i < 16384 ∧ SubB (renOf ρ) (freeOf ρ) σ τ i b
  | [], _, i, b, h => by simp [lookH] at h
  | (j, c) :: r, hl, i, b, h => by
    unfold lookH at h
    split at h
    · rename_i e
      cases h
      have e : i = j := by first | exact e | exact beq_t e | simpa using e
      subst e
      exact ⟨hl.1, hl.2.1⟩
    · exact allSub_mem hl.2.2 i b h

theorem blkP_ok {ρ : Ren} {σ τ : AS} {i : Nat} {b : Blk} {l : List Prop} (h : blkP ρ τ.heap σ.heap i b = some l) (hl : allP l) : SubB (renOf ρ) (freeOf ρ) σ τ i b := by
  unfold blkP at h
  rw [renB_eq] at h
  unfold SubB
  cases hr : renOf ρ i with
  | none => rw [hr] at h; cases h
  | some id =>
    rw [hr] at h
    simp only at h ⊢
    refine ⟨fun hf => notImg_ne hr hf, ?_⟩
    split at h
    · rename_i e s cs e' s' cs' hH
      rw [hH]
      cases hb : Nat.beq e e' && Nat.beq s s' with
      | false => rw [hb] at h; cases h
      | true =>
        rw [hb] at h
        simp only [Bool.and_eq_true] at hb
        exact ⟨beq_t hb.1, beq_t hb.2, (wkL_sound (wkEL_ok h hl)).1⟩
    · cases h

theorem heapP_ok {ps : List Nat} {ρ : Ren} {σ τ : AS} : ∀ {h : List (Nat × Blk)} {l : List Prop}, heapP ps ρ τ.heap σ.heap h = some l → allP l → allSub ρ σ τ h
  | [], _, _, _ => trivial
  | (i, b) :: r, l, h, hl => by
    unfold heapP at h
    cases hb : Nat.blt i 16384 with
    | false => rw [hb] at h; cases h
    | true =>
      rw [hb] at h
      obtain ⟨x, y, hx, hy, px, py⟩ := optAnd_ok h hl
      refine ⟨Nat.le_of_ble_eq_true hb, ?_, heapP_ok hy py⟩
      cases hc : ps.contains i with
      | true => rw [hc] at hx; exact blkP_ok hx px
      | false => rw [hc] at hx; exact subB_sound (blkE_ok hx px)

theorem subQ_mk {σ : AS} (ρ : Ren) {n : Nat} {l : List (Nat × AV)} {h : List (Nat × Blk)} {fz : List Nat} {pins : Nat} (hn : n = σ.n) (h1 : subSlots ρ (lookH h) σ l) (h2 : allSub ρ σ (mk n l h fz pins) h) (h3 : distinctImg ρ) (h4 : pinsB ρ h σ.pins pins = true) : Sub σ (mk n l h fz pins) := by
  refine ⟨renOf ρ, freeOf ρ, hn, fun t => ?_, fun i b hb => ?_, fun i hi => pinsB_ok h4 i hi, fun i j b c k _ _ e1 e2 => renOf_inj h3 e1 e2⟩
  · rcases subSlots_mem h1 t with h | ⟨hw, hk⟩
    · exact .inl h
    · exact .inr ⟨hw, wk1_sound hk⟩
  · obtain ⟨hi, hb'⟩ := allSub_mem h2 i b hb
    exact ⟨decide_eq_true hi, hb'⟩

theorem subP_ok (ps : List Nat) {ρ : Ren} {σ : AS} {n : Nat} {s : List (Nat × AV)} {h : List (Nat × Blk)} {fz : List Nat} {pins : Nat} {l : List Prop}
    (he : (bif Nat.beq n σ.n && distinctB ρ && pinsB ρ h σ.pins pins then optAnd (slotsE ρ (lookH h) σ s) (heapP ps ρ (lookH h) σ.heap h) else none) = some l) (hl : allP l) : Sub σ (mk n s h fz pins) := by
  cases hb : Nat.beq n σ.n && distinctB ρ && pinsB ρ h σ.pins pins with
  | false => rw [hb] at he; cases he
  | true =>
    rw [hb] at he
    simp only [Bool.and_eq_true] at hb
    obtain ⟨x, y, hx, hy, px, py⟩ := optAnd_ok he hl
    have hH : allSub ρ σ (mk n s h fz pins) h := heapP_ok (τ := mk n s h fz pins) hy py
    have hS := slotsE_ok hx px
    exact subQ_mk ρ (beq_t hb.1.1) hS hH (distinctB_ok hb.1.2) hb.2

theorem unrollp_ok {Q : Exit → AS → Prop} {l : Lf} (hl : l.isLoop = true) (n : Nat) (h : ∀ p : Nat → AS → Prop, (∀ m σ, VS P T Q (.code l.body :: .back (p m) :: l.tail) .normal σ → p (m + 1) σ) → p n l.σ) : V P T Q l :=
  unroll_ok hl n (h (Unr P T Q l.body l.tail) fun m σ hm => hm)
end Go.Ab
