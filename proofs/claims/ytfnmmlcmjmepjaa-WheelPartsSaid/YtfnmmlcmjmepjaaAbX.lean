import Derived.Test.YtfnmmlcmjmepjaaAbW
set_option linter.unusedVariables false
set_option linter.unusedSimpArgs false
namespace Go.Ab
open Go.RowKit
variable {P : Program} {T : Tab}
structure Elem (α : Type) where
 s : Nat
 cf : α → Nat → PV
 z : α
variable {α : Type}
def Elem.ro (E : Elem α) (xs : List α) : PV := .ro E.s xs.length (fun i j => E.cf (xs.getD i E.z) j)
def Elem.cs (E : Elem α) (x : α) : List AV := firstPV (E.cf x) 0 E.s
def Elem.cR (E : Elem α) (xs : List α) : List AV := xs.flatMap E.cs
theorem firstPV_get (f : Nat → PV) : ∀ (n s j : Nat), j < n → (firstPV f s n)[j]? = some (.pv (f (s + j)))
 | n + 1, s, 0, _ => by simp [firstPV]
 | n + 1, s, j + 1, h => by
  simp only [firstPV, List.getElem?_cons_succ]
  rw [firstPV_get f n (s + 1) j (by omega), show s + 1 + j = s + (j + 1) by omega]
theorem Elem.cs_length (E : Elem α) (x : α) : (E.cs x).length = E.s := firstPV_length _ _ _
theorem Elem.cR_cons (E : Elem α) (x : α) (xs : List α) : E.cR (x :: xs) = E.cs x ++ E.cR xs := rfl
theorem Elem.cR_append (E : Elem α) (xs ys : List α) : E.cR (xs ++ ys) = E.cR xs ++ E.cR ys := by simp [Elem.cR]
theorem Elem.cR_length (E : Elem α) : ∀ xs : List α, (E.cR xs).length = xs.length * E.s
 | [] => by simp [Elem.cR]
 | x :: xs => by rw [E.cR_cons, List.length_append, E.cs_length, E.cR_length xs, List.length_cons, Nat.add_mul]; omega
theorem Elem.cR_get (E : Elem α) : ∀ (xs : List α) {i j : Nat}, i < xs.length → j < E.s → (E.cR xs)[i * E.s + j]? = some (.pv (E.cf (xs.getD i E.z) j))
 | x :: xs, 0, j, _, hj => by
  rw [E.cR_cons, List.getElem?_append_left (by rw [E.cs_length]; omega)]
  unfold Elem.cs
  rw [firstPV_get _ _ _ _ (by omega)]
  simp
 | x :: xs, i + 1, j, hi, hj => by
  rw [E.cR_cons, List.getElem?_append_right (by rw [E.cs_length, Nat.add_mul]; omega), E.cs_length, Nat.add_mul, show i * E.s + 1 * E.s + j - E.s = i * E.s + j by omega, E.cR_get xs (by simpa using hi) hj]
  simp
theorem Elem.cR_pv (E : Elem α) : ∀ xs : List α, AllPv (E.cR xs)
 | [] => by intro c hc; simp [Elem.cR] at hc
 | x :: xs => by
  intro c hc
  rw [E.cR_cons] at hc
  rcases List.mem_append.1 hc with hc | hc
  ·exact firstPV_pv _ _ _ c hc
  ·exact E.cR_pv xs c hc
theorem Elem.roL_cR (E : Elem α) (xs : List α) : roL E.s xs.length (fun i j => E.cf (xs.getD i E.z) j) = E.cR xs := by
 apply List.ext_getElem?
 intro k
 rcases Nat.eq_zero_or_pos E.s with h0 | h0
 ·have h1 : (roL E.s xs.length (fun i j => E.cf (xs.getD i E.z) j)).length = 0 := by rw [roL_length, h0]; rfl
  have h2 : (E.cR xs).length = 0 := by rw [E.cR_length, h0]; rfl
  rw [List.eq_nil_of_length_eq_zero h1, List.eq_nil_of_length_eq_zero h2]
 ·by_cases hk : k < xs.length * E.s
  ·have hi : k / E.s < xs.length := (Nat.div_lt_iff_lt_mul h0).2 hk
   have hj : k % E.s < E.s := Nat.mod_lt _ h0
   have e : k = k / E.s * E.s + k % E.s := by rw [Nat.mul_comm]; exact (Nat.div_add_mod k E.s).symm
   rw [e, roL_get hi hj, E.cR_get xs hi hj]
  ·rw [List.getElem?_eq_none (by rw [roL_length]; omega), List.getElem?_eq_none (by rw [E.cR_length]; omega)]
theorem Elem.cR_drop (E : Elem α) : ∀ (a : Nat) (xs : List α), (E.cR xs).drop (a * E.s) = E.cR (xs.drop a)
 | 0, xs => by simp
 | a + 1, [] => by simp [Elem.cR]
 | a + 1, x :: xs => by
  rw [E.cR_cons, List.drop_succ_cons, ← E.cR_drop a xs, Nat.add_mul, Nat.one_mul, Nat.add_comm, ← List.drop_drop]
  have : List.drop E.s (E.cs x ++ E.cR xs) = E.cR xs := by
   have h := List.drop_left (l₁ := E.cs x) (l₂ := E.cR xs)
   rw [E.cs_length] at h
   exact h
  rw [this]
theorem Elem.cR_take (E : Elem α) : ∀ (a : Nat) (xs : List α), (E.cR xs).take (a * E.s) = E.cR (xs.take a)
 | 0, xs => by simp [Elem.cR]
 | a + 1, [] => by simp [Elem.cR]
 | a + 1, x :: xs => by
  rw [E.cR_cons, List.take_succ_cons, E.cR_cons, ← E.cR_take a xs, Nat.add_mul, Nat.one_mul, List.take_append, E.cs_length, List.take_of_length_le (by rw [E.cs_length]; omega)]
  simp
theorem Elem.cR_up (E : Elem α) (k : Nat) (xs : List α) : AV.upL k (E.cR xs) = E.cR xs := upL_pv k (E.cR_pv xs)
theorem Elem.row_up (E : Elem α) (k e s : Nat) (xs : List α) : (Blk.row e s (E.cR xs)).up k = .row e s (E.cR xs) := by simp only [Blk.up, E.cR_up]
def Elem.Raw (E : Elem α) : Prop := ∀ x j, ∃ v, E.cf x j = .raw v
theorem Elem.cs_bald {E : Elem α} (h : E.Raw) (x : α) : AV.baldL (E.cs x) = true := firstPV_bald fun j _ => h x j
theorem Elem.cR_bald {E : Elem α} (h : E.Raw) : ∀ xs : List α, AV.baldL (E.cR xs) = true
 | [] => rfl
 | x :: xs => by rw [E.cR_cons]; exact baldL_append (E.cs_bald h x) (E.cR_bald h xs)
theorem setCells_get' {cs cells : List AV} {off j : Nat} (h : off + cs.length ≤ cells.length) : (setCells cells off cs)[j]? = if j < off then cells[j]? else if j < off + cs.length then cs[j - off]? else cells[j]? := setCells_get cs cells off j h
theorem Elem.cR_set (E : Elem α) (xs : List α) {i j : Nat} {vs : List AV} {y : α} (hi : i < xs.length) (hj : j + vs.length ≤ E.s) (hy : E.cs y = setCells (E.cs (xs.getD i E.z)) j vs) :
  setCells (E.cR xs) (i * E.s + j) vs = E.cR (xs.set i y) := by
 have hle : i * E.s + E.s ≤ xs.length * E.s := by
  have : (i + 1) * E.s ≤ xs.length * E.s := Nat.mul_le_mul_right _ hi
  rw [Nat.add_mul] at this; omega
 apply List.ext_getElem?
 intro k
 rw [setCells_get' (by rw [E.cR_length]; omega)]
 rcases Nat.eq_zero_or_pos E.s with h0 | h0
 ·have hv : vs.length = 0 := by omega
  have h2 : (E.cR (xs.set i y)).length = 0 := by rw [E.cR_length, h0]; rfl
  have h3 : (E.cR xs).length = 0 := by rw [E.cR_length, h0]; rfl
  rw [List.eq_nil_of_length_eq_zero h2, List.eq_nil_of_length_eq_zero h3]
  have : vs = [] := List.eq_nil_of_length_eq_zero hv
  subst this
  simp
 by_cases hk : k < xs.length * E.s
 ·have ha : k / E.s < xs.length := (Nat.div_lt_iff_lt_mul h0).2 hk
  have hb : k % E.s < E.s := Nat.mod_lt _ h0
  have e : k = k / E.s * E.s + k % E.s := by rw [Nat.mul_comm]; exact (Nat.div_add_mod k E.s).symm
  generalize k / E.s = a at *
  generalize k % E.s = b at *
  subst e
  rw [E.cR_get (xs.set i y) (by simpa using ha) hb, E.cR_get xs ha hb]
  by_cases hai : a = i
  ·subst hai
   have hcy : (E.cs y)[b]? = some (.pv (E.cf y b)) := by unfold Elem.cs; rw [firstPV_get _ _ _ _ hb]; simp
   have hcx : (E.cs (xs.getD a E.z))[b]? = some (.pv (E.cf (xs.getD a E.z) b)) := by unfold Elem.cs; rw [firstPV_get _ _ _ _ hb]; simp
   rw [hy, setCells_get' (by rw [E.cs_length]; exact hj)] at hcy
   have hg : (xs.set a y).getD a E.z = y := by simp [List.getElem?_set, hi]
   rw [hg]
   by_cases h1 : b < j
   ·rw [if_pos (by omega)]
    rw [if_pos h1, hcx] at hcy
    exact hcy
   ·rw [if_neg (by omega)]
    rw [if_neg h1] at hcy
    by_cases h2 : b < j + vs.length
    ·rw [if_pos (by omega), show a * E.s + b - (a * E.s + j) = b - j by omega]
     rw [if_pos h2] at hcy
     exact hcy
    ·rw [if_neg (by omega)]
     rw [if_neg h2, hcx] at hcy
     exact hcy
  ·have hne : a * E.s + b < i * E.s + j ∨ i * E.s + E.s ≤ a * E.s + b := by
    rcases Nat.lt_or_gt_of_ne hai with hlt | hgt
    ·left
     have : (a + 1) * E.s ≤ i * E.s := Nat.mul_le_mul_right _ hlt
     rw [Nat.add_mul] at this; omega
    ·right
     have : (i + 1) * E.s ≤ a * E.s := Nat.mul_le_mul_right _ hgt
     rw [Nat.add_mul] at this; omega
   have hg : (xs.set i y).getD a E.z = xs.getD a E.z := by simp [List.getElem?_set, Ne.symm hai]
   rw [hg]
   rcases hne with h | h
   ·rw [if_pos h]
   ·rw [if_neg (by omega), if_neg (by omega)]
 ·rw [List.getElem?_eq_none (l := E.cR xs) (by rw [E.cR_length]; omega), List.getElem?_eq_none (l := E.cR (xs.set i y)) (by rw [E.cR_length]; simp; omega), if_neg (by omega), if_neg (by omega)]
def pvE : PV → PV → Option (List Prop)
 | .raw (.int k a), .raw (.int k' b) => bif decide (k = k') then some [a = b] else none
 | .raw (.bool a), .raw (.bool b) => some [a = b]
 | .raw (.string a), .raw (.string b) => some [a = b]
 | .raw (.slice none 0 0), .raw (.slice none 0 0) => some []
 | .raw (.slice none 0 0), .ro _ n _ => some [n = 0]
 | .raw (.pointer none), .raw (.pointer none) => some []
 | .raw (.map none), .raw (.map none) => some []
 | .raw (.map (some a)), .raw (.map (some b)) => some [a = b]
 | .raw (.pointer (some ⟨a, 0, none⟩)), .raw (.pointer (some ⟨b, 0, none⟩)) => some [a = b]
 | .ro s n c, .ro s' n' c' => bif Nat.beq s s' then some [n = n', ∀ i, i < n → ∀ j, j < s → c i j = c' i j] else none
 | _, _ => none
theorem pvE_ok {p q : PV} {l : List Prop} (h : pvE p q = some l) (hl : allP l) : pvEq p q := by
 unfold pvE at h
 split at h
 ·rename_i k a k' b
  cases hk : decide (k = k') with
  | false => rw [hk] at h; cases h
  | true =>
   rw [hk] at h
   cases h
   obtain rfl := of_decide_eq_true hk
   obtain ⟨rfl, _⟩ := hl
   rfl
 ·cases h; obtain ⟨rfl, _⟩ := hl; rfl
 ·cases h; obtain ⟨rfl, _⟩ := hl; rfl
 ·rfl
 ·cases h; exact ⟨rfl, hl.1⟩
 ·rfl
 ·rfl
 ·cases h; obtain ⟨rfl, _⟩ := hl; rfl
 ·cases h; obtain ⟨rfl, _⟩ := hl; rfl
 ·rename_i s n c s' n' c'
  cases hk : Nat.beq s s' with
  | false => rw [hk] at h; cases h
  | true =>
   rw [hk] at h
   cases h
   exact ⟨Nat.eq_of_beq_eq_true hk, hl.1, hl.2.1⟩
 ·cases h
def renB : Ren → Nat → Option Nat
 | [], _ => none
 | (i, x) :: r, id => bif Nat.beq i id then x else renB r id
theorem renB_eq : ∀ (ρ : Ren) (id : Nat), renB ρ id = renOf ρ id
 | [], id => rfl
 | (i, x) :: r, id => by
  unfold renB renOf
  rw [renB_eq r id]
  cases hb : Nat.beq i id with
  | true => have := Nat.eq_of_beq_eq_true hb; simp [this]
  | false => rw [cond_false, if_neg]; intro e; subst e; simp at hb
def notImgB : Ren → Nat → Bool
 | [], _ => true
 | (_, none) :: r, k => notImgB r k
 | (_, some b) :: r, k => !(Nat.beq b k) && notImgB r k
theorem notImgB_ok : ∀ {ρ : Ren} {k : Nat}, notImgB ρ k = true → notImg ρ k
 | [], k, _ => trivial
 | (_, none) :: r, k, h => by unfold notImg; exact notImgB_ok (ρ := r) h
 | (_, some b) :: r, k, h => by
  simp only [notImgB, Bool.and_eq_true, Bool.not_eq_true'] at h
  unfold notImg
  refine ⟨?_, notImgB_ok h.2⟩
  intro e
  subst e
  simp at h
def distinctB : Ren → Bool
 | [] => true
 | (_, none) :: r => distinctB r
 | (_, some b) :: r => notImgB r b && distinctB r
theorem distinctB_ok : ∀ {ρ : Ren}, distinctB ρ = true → distinctImg ρ
 | [], _ => trivial
 | (_, none) :: r, h => by unfold distinctImg; exact distinctB_ok (ρ := r) h
 | (_, some b) :: r, h => by
  simp only [distinctB, Bool.and_eq_true] at h
  unfold distinctImg
  exact ⟨notImgB_ok h.1, distinctB_ok h.2⟩
def optAnd (a b : Option (List Prop)) : Option (List Prop) :=
 match a, b with
 | some x, some y => some (x ++ y)
 | _, _ => none
theorem optAnd_ok {a b : Option (List Prop)} {l : List Prop} (h : optAnd a b = some l) (hl : allP l) : ∃ x y, a = some x ∧ b = some y ∧ allP x ∧ allP y := by
 unfold optAnd at h
 split at h
 ·cases h
  rw [allP_append] at hl
  exact ⟨_, _, rfl, rfl, hl.1, hl.2⟩
 ·cases h
def rowQ (cells : List AV) (s off len : Nat) (c : Nat → Nat → PV) : Prop := ∀ i, i < len → ∀ j, j < s → cells[(off + i) * s + j]? = some (.pv (c i j))
def wkE0 (ρ : Ren) (H : Heap) : AV → PV → Option (List Prop)
 | .pv p, q => pvE p q
 | .row id s off len, .ro s' n c => bif Nat.beq s s' && notImgB ρ id then (match H id with
   | some (.row _ s2 cells) => bif Nat.beq s2 s then some [len = n, rowQ cells s off len c] else none
   | _ => none) else none
 | _, _ => none
def boxE (ρ : Ren) (H : Heap) (cell : Nat → PV) : List AV → Nat → Nat → Option (List Prop)
 | _, _, 0 => some []
 | x :: xs, k, n + 1 => optAnd (wkE0 ρ H x (cell k)) (boxE ρ H cell xs (k + 1) n)
 | [], _, _ + 1 => none
def roatE (c c' : Nat → PV) : Nat → Option (List Prop)
 | 0 => some []
 | n + 1 => optAnd (roatE c c' n) (pvE (c n) (c' n))
mutual
def wkE (ρ : Ren) (D : Nat → Option Blk) (H : Heap) : AV → AV → Option (List Prop)
 | .pv p, .pv q => pvE p q
 | .pv (.raw (.slice none 0 0)), .row i _ off len => bif (renB ρ i).isNone && (D i).isSome then some [off = 0, len = 0] else none
 | .row id s off len, .pv (.ro s' n c) => bif Nat.beq s s' && notImgB ρ id then (match H id with
   | some (.row _ s2 cells) => bif Nat.beq s2 s then some [len = n, rowQ cells s off len c] else none
   | _ => none) else none
 | .row id s off len, .row i s' off' len' => match renB ρ i with
   | some k => bif Nat.beq k id && (D i).isSome && Nat.beq s s' then some [off = off', len = len'] else none
   | none => none
 | .ptr id off, .ptr i off' => match renB ρ i with
   | some k => bif Nat.beq k id && (D i).isSome then some [off = off'] else none
   | none => none
 | .pix id off, .pix i off' => match renB ρ i with
   | some k => bif Nat.beq k id && (D i).isSome then some [off = off'] else none
   | none => none
 | .ptr id off, .roat n cell => bif notImgB ρ id then (match H id with
   | some (.box cells) => boxE ρ H cell (cells.drop off) 0 n
   | some (.row _ _ cells) => some [∀ j, j < n → cells[off + j]? = some (.pv (cell j))]
   | _ => none) else none
 | .map id, .map i => match renB ρ i with
   | some k => bif Nat.beq k id && (D i).isSome then some [] else none
   | none => none
 | .roat n c, .roat n' c' => bif Nat.ble n' n then roatE c c' n' else none
 | .agg xs, .agg ys => wkEL ρ D H xs ys
 | .tup xs, .tup ys => wkEL ρ D H xs ys
 | .fn f xs, .fn f' ys => bif Nat.beq f f' then wkEL ρ D H xs ys else none
 | _, .junk => some []
 | _, _ => none
def wkEL (ρ : Ren) (D : Nat → Option Blk) (H : Heap) : List AV → List AV → Option (List Prop)
 | [], [] => some []
 | x :: xs, y :: ys => optAnd (wkE ρ D H x y) (wkEL ρ D H xs ys)
 | _, _ => none
end
theorem beq_t {a b : Nat} (h : Nat.beq a b = true) : a = b := Nat.eq_of_beq_eq_true h
theorem pvEq_refl (p : PV) : pvEq p p := by cases p <;> simp [pvEq]
theorem wkE0_ok {ρ : Ren} {H : Heap} {x : AV} {q : PV} {l : List Prop} (h : wkE0 ρ H x q = some l) (hl : allP l) : wk0 ρ H x q := by
 unfold wkE0 at h
 split at h
 ·unfold wk0; exact pvE_ok h hl
 ·rename_i id s off len s' n c
  cases hb : Nat.beq s s' && notImgB ρ id with
  | false => rw [hb] at h; cases h
  | true =>
   rw [hb, cond_true] at h
   simp only [Bool.and_eq_true] at hb
   split at h
   ·rename_i e s2 cells hH
    cases hb2 : Nat.beq s2 s with
    | false => rw [hb2] at h; cases h
    | true =>
     rw [hb2] at h
     cases h
     unfold wk0
     refine ⟨Nat.eq_of_beq_eq_true hb.1, hl.1, notImgB_ok hb.2, ?_⟩
     unfold rowEq
     rw [hH]
     exact ⟨Nat.eq_of_beq_eq_true hb2, hl.2.1⟩
   ·cases h
 ·cases h
theorem boxE_ok {ρ : Ren} {H : Heap} {cell : Nat → PV} : ∀ {n k : Nat} {cs : List AV} {l : List Prop}, boxE ρ H cell cs k n = some l → allP l → ∃ x : Nat → AV, (∀ j, j < n → cs[j]? = some (x j)) ∧ ∀ j, j < n → wk0 ρ H (x j) (cell (k + j))
 | 0, k, cs, l, _, _ => ⟨fun _ => .junk, fun j hj => absurd hj (Nat.not_lt_zero _), fun j hj => absurd hj (Nat.not_lt_zero _)⟩
 | n + 1, k, [], l, h, _ => by simp [boxE] at h
 | n + 1, k, y :: cs, l, h, hl => by
  simp only [boxE] at h
  obtain ⟨a, b, ha, hb, pa, pb⟩ := optAnd_ok h hl
  obtain ⟨x, h1, h2⟩ := boxE_ok hb pb
  refine ⟨fun j => match j with | 0 => y | j + 1 => x j, fun j hj => ?_, fun j hj => ?_⟩
  ·cases j with
   | zero => rfl
   | succ j => simpa using h1 j (by omega)
  ·cases j with
   | zero => exact wkE0_ok ha pa
   | succ j => have := h2 j (by omega); rw [show k + 1 + j = k + (j + 1) by omega] at this; exact this
theorem roatE_ok {c c' : Nat → PV} : ∀ {n : Nat} {l : List Prop}, roatE c c' n = some l → allP l → ∀ j, j < n → pvEq (c j) (c' j)
 | 0, _, _, _, j, hj => absurd hj (Nat.not_lt_zero _)
 | n + 1, l, h, hl, j, hj => by
  unfold roatE at h
  obtain ⟨a, b, ha, hb, pa, pb⟩ := optAnd_ok h hl
  by_cases he : j = n
  ·subst he; exact pvE_ok hb pb
  ·exact roatE_ok ha pa j (by omega)
mutual
theorem wkE_ok {ρ : Ren} {D : Nat → Option Blk} {H : Heap} : ∀ {x y : AV} {l : List Prop}, wkE ρ D H x y = some l → allP l → wk1 ρ D H x y
 | .pv p, .pv q, l, h, hl => by
  unfold wkE at h
  unfold wk1
  exact pvE_ok h hl
 | x, y, l, h, hl => by
  unfold wkE at h
  split at h
  ·rename_i p q
   unfold wk1
   exact pvE_ok h hl
  ·rename_i i a off len
   cases hb : (renB ρ i).isNone && (D i).isSome with
   | false => rw [hb] at h; cases h
   | true =>
    rw [hb] at h
    cases h
    simp only [Bool.and_eq_true, Option.isNone_iff_eq_none] at hb
    unfold wk1
    exact ⟨rfl, by rw [← renB_eq]; exact hb.1, hb.2, hl.1, hl.2.1⟩
  ·rename_i id s off len s' n c
   cases hb : Nat.beq s s' && notImgB ρ id with
   | false => rw [hb] at h; cases h
   | true =>
    rw [hb, cond_true] at h
    simp only [Bool.and_eq_true] at hb
    split at h
    ·rename_i e s2 cells hH
     cases hb2 : Nat.beq s2 s with
     | false => rw [hb2] at h; cases h
     | true =>
      rw [hb2] at h
      cases h
      unfold wk1
      refine ⟨beq_t hb.1, hl.1, notImgB_ok hb.2, ?_⟩
      unfold rowEq
      rw [hH]
      exact ⟨beq_t hb2, hl.2.1⟩
    ·cases h
  ·rename_i id s off len i s' off' len'
   split at h
   ·rename_i k hk
    cases hb : Nat.beq k id && (D i).isSome && Nat.beq s s' with
    | false => rw [hb] at h; cases h
    | true =>
     rw [hb] at h
     cases h
     simp only [Bool.and_eq_true] at hb
     unfold wk1
     exact ⟨by rw [← renB_eq, hk, beq_t hb.1.1], hb.1.2, beq_t hb.2, hl.1, hl.2.1⟩
   ·cases h
  ·rename_i id off i off'
   split at h
   ·rename_i k hk
    cases hb : Nat.beq k id && (D i).isSome with
    | false => rw [hb] at h; cases h
    | true =>
     rw [hb] at h
     cases h
     simp only [Bool.and_eq_true] at hb
     unfold wk1
     exact ⟨by rw [← renB_eq, hk, beq_t hb.1], hb.2, hl.1⟩
   ·cases h
  ·rename_i id off i off'
   split at h
   ·rename_i k hk
    cases hb : Nat.beq k id && (D i).isSome with
    | false => rw [hb] at h; cases h
    | true =>
     rw [hb] at h
     cases h
     simp only [Bool.and_eq_true] at hb
     unfold wk1
     exact ⟨by rw [← renB_eq, hk, beq_t hb.1], hb.2, hl.1⟩
   ·cases h
  ·rename_i id off n cell
   cases hb : notImgB ρ id with
   | false => rw [hb] at h; cases h
   | true =>
    rw [hb, cond_true] at h
    unfold wk1
    refine ⟨notImgB_ok hb, ?_⟩
    unfold boxEq
    split at h
    ·rename_i cells hH
     rw [hH]
     obtain ⟨x, h1, h2⟩ := boxE_ok h hl
     exact ⟨x, fun j hj => by have := h1 j hj; rw [List.getElem?_drop] at this; exact this, fun j hj => by have := h2 j hj; rw [Nat.zero_add] at this; exact this⟩
    ·rename_i e s cells hH
     rw [hH]
     cases h
     refine ⟨fun j => .pv (cell j), fun j hj => hl.1 j hj, fun j hj => ?_⟩
     unfold wk0
     exact pvEq_refl _
    ·cases h
  ·rename_i id i
   split at h
   ·rename_i k hk
    cases hb : Nat.beq k id && (D i).isSome with
    | false => rw [hb] at h; cases h
    | true =>
     simp only [Bool.and_eq_true] at hb
     unfold wk1
     exact ⟨by rw [← renB_eq, hk, beq_t hb.1], hb.2⟩
   ·cases h
  ·rename_i n c n' c'
   cases hb : Nat.ble n' n with
   | false => rw [hb] at h; cases h
   | true =>
    rw [hb, cond_true] at h
    unfold wk1
    exact ⟨Nat.le_of_ble_eq_true hb, roatE_ok h hl⟩
  ·rename_i xs ys
   unfold wk1
   exact wkEL_ok h hl
  ·rename_i xs ys
   unfold wk1
   exact wkEL_ok h hl
  ·rename_i f xs f' ys
   cases hb : Nat.beq f f' with
   | false => rw [hb] at h; cases h
   | true =>
    rw [hb] at h
    unfold wk1
    exact ⟨beq_t hb, wkEL_ok h hl⟩
  ·cases x <;> (unfold wk1; trivial)
  ·cases h
theorem wkEL_ok {ρ : Ren} {D : Nat → Option Blk} {H : Heap} : ∀ {xs ys : List AV} {l : List Prop}, wkEL ρ D H xs ys = some l → allP l → wkL ρ D H xs ys
 | [], [], l, _, _ => by unfold wkL; trivial
 | x :: xs, y :: ys, l, h, hl => by
  unfold wkEL at h
  obtain ⟨a, b, ha, hb, pa, pb⟩ := optAnd_ok h hl
  unfold wkL
  exact ⟨wkE_ok ha pa, wkEL_ok hb pb⟩
 | [], _ :: _, l, h, _ => by simp [wkEL] at h
 | _ :: _, [], l, h, _ => by simp [wkEL] at h
end
def argsE (H : Heap) : List AV → List AV → Option (List Prop)
 | [], [] => some []
 | x :: xs, y :: ys => optAnd (wkE [] (fun _ => none) H x y) (argsE H xs ys)
 | _, _ => none
theorem argsE_ok {H : Heap} : ∀ {xs ys : List AV} {l : List Prop}, argsE H xs ys = some l → allP l → args1 H xs ys
 | [], [], l, _, _ => trivial
 | x :: xs, y :: ys, l, h, hl => by
  unfold argsE at h
  obtain ⟨a, b, ha, hb, pa, pb⟩ := optAnd_ok h hl
  exact ⟨wkE_ok ha pa, argsE_ok hb pb⟩
 | [], _ :: _, l, h, _ => by simp [argsE] at h
 | _ :: _, [], l, h, _ => by simp [argsE] at h
def isPv : AV → Bool
 | .pv _ => true
 | _ => false
def plainB : List AV → Bool
 | [] => true
 | .pv _ :: r => plainB r
 | .agg xs :: r => xs.all isPv && plainB r
 | _ => false
theorem pvs_of : ∀ {xs : List AV}, xs.all isPv = true → pvs xs
 | [], _ => trivial
 | x :: xs, h => by
  simp only [List.all_cons, Bool.and_eq_true] at h
  cases x <;> first | exact pvs_of (xs := xs) h.2 | (simp [isPv] at h; done)
theorem plainB_ok : ∀ {xs : List AV}, plainB xs = true → plainL xs
 | [], _ => trivial
 | x :: xs, h => by
  cases x <;> first
   | exact plainB_ok (xs := xs) h
   | (simp only [plainB, Bool.and_eq_true] at h; exact ⟨pvs_of h.1, plainB_ok h.2⟩)
   | (simp [plainB] at h; done)
def blkE (ρ : Ren) (D : Nat → Option Blk) (H : Heap) (i : Nat) (b : Blk) : Option (List Prop) :=
 match renB ρ i with
 | none => match b with
  | .row e s cs => bif Nat.blt 0 s then some [cs = []] else none
  | _ => none
 | some id => match b, H id with
  | .box cs, some (.box cs') => wkEL ρ D H cs' cs
  | .row e s cs, some (.row e' s' cs') => bif Nat.beq e e' && Nat.beq s s' then some [cs' = cs, AllPv cs] else none
  | .map ks xs, some (.map ks' xs') => some [ks = ks', xs' = xs, AllPv xs]
  | _, _ => none
theorem blkE_ok {ρ : Ren} {D : Nat → Option Blk} {H : Heap} {i : Nat} {b : Blk} {l : List Prop} (h : blkE ρ D H i b = some l) (hl : allP l) : subB ρ D H i b := by
 unfold blkE at h
 unfold subB
 rw [renB_eq] at h
 split at h
 ·rename_i hr
  rw [hr]
  split at h
  ·rename_i e s cs
   cases hb : Nat.blt 0 s with
   | false => rw [hb] at h; cases h
   | true =>
    rw [hb] at h
    cases h
    obtain ⟨rfl, _⟩ := hl
    exact Nat.le_of_ble_eq_true hb
  ·cases h
 ·rename_i id hr
  rw [hr]
  simp only
  split at h
  ·rename_i cs cs' hH
   rw [hH]
   exact wkEL_ok h hl
  ·rename_i e s cs e' s' cs' hH
   rw [hH]
   cases hb : Nat.beq e e' && Nat.beq s s' with
   | false => rw [hb] at h; cases h
   | true =>
    rw [hb] at h
    cases h
    simp only [Bool.and_eq_true] at hb
    exact ⟨beq_t hb.1, beq_t hb.2, hl.1, hl.2.1⟩
  ·rename_i ks xs ks' xs' hH
   rw [hH]
   cases h
   exact ⟨hl.1, hl.2.1, hl.2.2.1⟩
  ·cases h
def heapE (ρ : Ren) (D : Nat → Option Blk) (H : Heap) : List (Nat × Blk) → Option (List Prop)
 | [] => some []
 | (i, b) :: r => bif Nat.blt i 16384 then optAnd (blkE ρ D H i b) (heapE ρ D H r) else none
theorem heapE_ok {ρ : Ren} {D : Nat → Option Blk} {H : Heap} : ∀ {h : List (Nat × Blk)} {l : List Prop}, heapE ρ D H h = some l → allP l → subHeap ρ D H h
 | [], _, _, _ => trivial
 | (i, b) :: r, l, h, hl => by
  unfold heapE at h
  cases hb : Nat.blt i 16384 with
  | false => rw [hb] at h; cases h
  | true =>
   rw [hb] at h
   obtain ⟨x, y, hx, hy, px, py⟩ := optAnd_ok h hl
   exact ⟨Nat.le_of_ble_eq_true hb, blkE_ok hx px, heapE_ok hy py⟩
def slotsE (ρ : Ren) (D : Nat → Option Blk) (σ : AS) : List (Nat × AV) → Option (List Prop)
 | [] => some []
 | (t, y) :: r => optAnd (optAnd (some (bareP (σ.slots t))) (wkE ρ D σ.heap (σ.slots t).bare y)) (slotsE ρ D σ r)
theorem slotsE_ok {ρ : Ren} {D : Nat → Option Blk} {σ : AS} : ∀ {s : List (Nat × AV)} {l : List Prop}, slotsE ρ D σ s = some l → allP l → subSlots ρ D σ s
 | [], _, _, _ => trivial
 | (t, y) :: r, l, h, hl => by
  unfold slotsE at h
  obtain ⟨x, z, hx, hz, px, pz⟩ := optAnd_ok h hl
  obtain ⟨x1, x2, h1, h2, p1, p2⟩ := optAnd_ok hx px
  cases h1
  exact ⟨⟨bareP_ok p1, wkE_ok h2 p2⟩, slotsE_ok hz pz⟩
def subE (ρ : Ren) (σ : AS) (n : Nat) (s : List (Nat × AV)) (h : List (Nat × Blk)) (pins : Nat := 0) : Option (List Prop) :=
 bif Nat.beq n σ.n && distinctB ρ && pinsB ρ h σ.pins pins then optAnd (slotsE ρ (lookH h) σ s) (heapE ρ (lookH h) σ.heap h) else none
theorem sub_ok {ρ : Ren} {σ : AS} {n : Nat} {s : List (Nat × AV)} {h : List (Nat × Blk)} {fz : List Nat} {pins : Nat} {l : List Prop} (he : subE ρ σ n s h pins = some l) (hl : allP l) : Sub σ (mk n s h fz pins) := by
 unfold subE at he
 cases hb : Nat.beq n σ.n && distinctB ρ && pinsB ρ h σ.pins pins with
 | false => rw [hb] at he; cases he
 | true =>
  rw [hb] at he
  simp only [Bool.and_eq_true] at hb
  obtain ⟨x, y, hx, hy, px, py⟩ := optAnd_ok he hl
  exact sub_mk ρ (beq_t hb.1.1) (slotsE_ok hx px) (heapE_ok hy py) (distinctB_ok hb.1.2) hb.2
theorem sk_and {p : Nat → Prop} {φ : Prop} {t : Sk} (h1 : φ) (h2 : t.Holds p) : (Sk.and φ t).Holds p := ⟨h1, h2⟩
theorem sk_leaf {p : Nat → Prop} {i : Nat} (h : p i) : (Sk.leaf i).Holds p := h
def Lf.rest (l : Lf) : List Fr :=
 match l.k with
 | .ops all (_ :: os) :: k => .ops all os :: k
 | _ => []
def Lf.body (l : Lf) : Code :=
 match l.k with
 | .code (.loop c) :: _ => c
 | _ => .skip
def Lf.tail (l : Lf) : List Fr := l.k.tail
def Lf.isLoop (l : Lf) : Bool :=
 match l.k, l.e with
 | .code (.loop _) :: _, .normal => true
 | _, _ => false
theorem loop_ok {Q : Exit → AS → Prop} {l : Lf} (hl : l.isLoop = true) {X : Type} (C : X → Prop) (μ : X → Nat) (τ : X → AS) (x0 : X) (h0 : C x0) (hs : Sub l.σ (τ x0))
  (round : ∀ x, C x → ∀ p : AS → Prop, (∀ x' σ', C x' → μ x' < μ x → Sub σ' (τ x') → p σ') → VS P T Q (.code l.body :: .back p :: l.tail) .normal (τ x)) : V P T Q l := by
 obtain ⟨σ, k, e⟩ := l
 unfold Lf.isLoop at hl
 simp only at hl
 split at hl
 ·rename_i c r
  refine awp_loop (X := X) C μ τ x0 h0 hs ?_
  intro x hx
  refine awp_mono (round x hx (fun σ' => ∃ x', C x' ∧ μ x' < μ x ∧ Sub σ' (τ x')) fun x' σ' h1 h2 h3 => ⟨x', h1, h2, h3⟩) ?_
  intro e σ' hq
  cases e <;> exact hq
 ·cases hl
def backOf (l : Lf) : Option (AS → Prop) :=
 match l.k, l.e with
 | .back p :: _, .normal => some p
 | _, _ => none
theorem back_ok {Q : Exit → AS → Prop} {l : Lf} {p : AS → Prop} (h : backOf l = some p) (hp : p l.σ) : V P T Q l := by
 obtain ⟨σ, k, e⟩ := l
 unfold backOf at h
 simp only at h
 split at h
 ·cases h; exact hp
 ·cases h
def isGd : AV → Bool
 | .gd _ _ => true
 | _ => false
def callV (l : Lf) : Option (Option Nat × FuncId × List AV) :=
 match l.k, l.e with
 | .ops all (o :: os) :: r, .normal => match callOf o.op, o.guard.isNone && dstB l.σ.n o.dst && !(o.op.operands.toList.any fun x => isGd (l.σ.ev x)) && !(isMC l.σ.fz o.op) with
  | some (f, xs), true => match l.σ.bev f with
   | .fn fn caps => some (o.dst, fn, xs.map l.σ.bev ++ caps)
   | _ => none
  | _, _ => none
 | _, _ => none
theorem whens_none {σ : AS} : ∀ {xs : List Operand}, (xs.any fun x => isGd (σ.ev x)) = false → whens σ xs
 | [], _ => trivial
 | x :: xs, h => by
  simp only [List.any_cons, Bool.or_eq_false_iff] at h
  refine ⟨?_, whens_none h.2⟩
  have h1 := h.1
  cases hx : σ.ev x <;> rw [hx] at h1 <;> first | rfl | (simp [isGd] at h1; done)
theorem callOf_pick {op : Op} {q : Operand × List Operand} (h : callOf op = some q) : (∀ c a b, op ≠ .pick c a b) ∧ isStore op = false := by
 unfold callOf at h
 split at h
 ·exact ⟨fun _ _ _ e => (by cases e), rfl⟩
 ·cases h
theorem call_ok {Q : Exit → AS → Prop} {l : Lf} {d : Option Nat} {fn : FuncId} {ax args : List AV} {al : Bool} {res : AV} {hb hb' : List Blk} {ps : List Prop} (hv : callV l = some (d, fn, ax)) (hp : PCalls P fn args al res hb)
  (ha : argsE l.σ.heap ax args = some ps) (hps : allP ps) (hal : al = true → plainB ax = true) (hn : hb.length ≤ 64) (hu : hb.map (Blk.up (fid d 0)) = hb') (hf : freshB l.σ (numbered (fid d 0) hb') = true)
  (hk : VS P T Q l.rest .normal (l.σ.eff d (res.up (fid d 0)) (numbered (fid d 0) hb') [])) : V P T Q l := by
 obtain ⟨σ, k, e⟩ := l
 subst hu
 unfold callV at hv
 simp only at hv
 split at hv
 ·rename_i all o os r
  split at hv
  ·rename_i f xs hc hg
   split at hv
   ·rename_i fn' caps hfn
    cases hv
    simp only [Bool.and_eq_true, Bool.not_eq_true', Option.isNone_iff_eq_none] at hg
    obtain ⟨⟨⟨hg, hd⟩, hw⟩, hmc⟩ := hg
    refine .inl ?_
    show sxOp P T all o σ _
    obtain ⟨hnp, hns⟩ := callOf_pick hc
    unfold sxOp
    rw [hg]
    refine ⟨trivial, ?_, ?_⟩
    ·revert hd
     cases o.dst with
     | none => intro _; trivial
     | some d => intro hd; exact Nat.le_of_ble_eq_true hd
    ·split
     ·rename_i c a b hop; exact absurd hop (hnp c a b)
     ·rw [hc]
      refine ⟨fun _ => whens_none hw, ?_⟩
      simp only [Option.isSome_none, show isMC σ.fz o.op = false from hmc]
      unfold sxCall
      rw [show σ.bev f = .fn fn caps from hfn]
      simp only [Bool.false_eq_true, if_false]
      exact ⟨args, al, res, hb, args1_sound (argsE_ok ha hps), fun h => plainL_mem (plainB_ok (hal h)), hp, hn, freshB_ok hf, .inl hk⟩
   ·cases hv
  ·cases hv
 ·cases hv
def callG (l : Lf) : Option (Option Nat × FuncId × List AV × Bool × List Prop) :=
 match l.k, l.e with
 | .ops all (o :: os) :: r, .normal => match callOf o.op, o.guard, dstB l.σ.n o.dst && !(isMC l.σ.fz o.op) with
  | some (f, xs), some (j, want), true => match l.σ.bev f, gOf l.σ all j want with
   | .fn fn caps, some g => some (o.dst, fn, xs.map l.σ.bev ++ caps, g, whenL l.σ o.op.operands.toList)
   | _, _ => none
  | _, _, _ => none
 | _, _ => none
theorem callG_ok {Q : Exit → AS → Prop} {l : Lf} {d : Option Nat} {fn : FuncId} {ax args : List AV} {g : Bool} {ws : List Prop} {al : Bool} {res : AV} {ps : List Prop} (hv : callG l = some (d, fn, ax, g, ws)) (hw : g = true → allP ws) (hp : g = true → PCalls P fn args al res [])
  (ha : argsE l.σ.heap ax args = some ps) (hps : g = true → allP ps) (hal : al = true → plainB ax = true)
  (hk : VS P T Q l.rest .normal (l.σ.put d (.gd g (res.up (fid d 0))))) : V P T Q l := by
 obtain ⟨σ, k, e⟩ := l
 unfold callG at hv
 simp only at hv
 split at hv
 ·rename_i all o os r
  split at hv
  ·rename_i f xs j want hc hg hd
   simp only [Bool.and_eq_true, Bool.not_eq_true'] at hd
   obtain ⟨hd, hmc⟩ := hd
   split at hv
   ·rename_i fn' caps g' hfn hgo
    cases hv
    refine .inl ?_
    show sxOp P T all o σ _
    obtain ⟨hnp, hns⟩ := callOf_pick hc
    unfold sxOp
    rw [hg, gOf_guard hgo]
    refine ⟨trivial, ?_, ?_⟩
    ·revert hd
     cases o.dst with
     | none => intro _; trivial
     | some d => intro hd; exact Nat.le_of_ble_eq_true hd
    ·split
     ·rename_i c a b hop; exact absurd hop (hnp c a b)
     ·rw [hc]
      refine ⟨fun hgt => whenL_ok (hw hgt), ?_⟩
      simp only [Option.isSome_some, show isMC σ.fz o.op = false from hmc]
      unfold sxCall
      rw [show σ.bev f = .fn fn caps from hfn]
      simp only [if_true]
      exact ⟨args, al, res, fun hgt => ⟨args1_sound (argsE_ok ha (hps hgt)), fun h => plainL_mem (plainB_ok (hal h)), hp hgt⟩, hk⟩
   ·cases hv
  ·cases hv
 ·cases hv
def Lf.isEnd (l : Lf) : Bool :=
 match l.k, l.e with
 | [], .normal => true
 | [], .ret => true
 | _, _ => false
def resE (T : Tab) (σ : AS) : List ResultVar → Option (List Prop × List AV)
 | [] => some ([], [])
 | .tmp t :: rs => match resE T σ rs with
  | some (p, l) => some (bareP (σ.slots t) ++ p, (σ.slots t).bare :: l)
  | none => none
 | .cell a t :: rs => match resE T σ rs, loadB T σ.heap t (σ.slots a).bare with
  | some (p, l), true => some (bareP (σ.slots a) ++ p, (loadAV T σ.heap t (σ.slots a).bare).2 :: l)
  | _, _ => none
theorem resE_ok {σ : AS} : ∀ {rs : List ResultVar} {p : List Prop} {l : List AV}, resE T σ rs = some (p, l) → allP p → (resAll T σ rs).1 ∧ (resAll T σ rs).2 = l
 | [], p, l, h, _ => by cases h; exact ⟨trivial, rfl⟩
 | .tmp t :: rs, p, l, h, hp => by
  unfold resE at h
  split at h
  ·rename_i p' l' hr
   cases h
   rw [allP_append] at hp
   obtain ⟨h1, h2⟩ := resE_ok hr hp.2
   unfold resAll
   simp only [resOne]
   exact ⟨⟨bareP_ok hp.1, h1⟩, by rw [h2]⟩
  ·cases h
 | .cell a t :: rs, p, l, h, hp => by
  unfold resE at h
  split at h
  ·rename_i p' l' hr hb
   cases h
   rw [allP_append] at hp
   obtain ⟨h1, h2⟩ := resE_ok hr hp.2
   unfold resAll
   simp only [resOne]
   exact ⟨⟨⟨bareP_ok hp.1, loadB_ok hb⟩, h1⟩, by rw [h2]⟩
  ·cases h
def hbE (ρ : Ren) (D : Nat → Option Blk) (H : Heap) : Nat → List Blk → Option (List Prop)
 | _, [] => some []
 | i, b :: r => optAnd (blkE ρ D H i b) (hbE ρ D H (i + 1) r)
theorem hbE_ok {ρ : Ren} {D : Nat → Option Blk} {H : Heap} : ∀ {hb : List Blk} {i : Nat} {l : List Prop}, hbE ρ D H i hb = some l → allP l → subHb ρ D H i hb
 | [], _, _, _, _ => trivial
 | b :: r, i, l, h, hl => by
  unfold hbE at h
  obtain ⟨x, y, hx, hy, px, py⟩ := optAnd_ok h hl
  exact ⟨blkE_ok hx px, hbE_ok hy py⟩
def retE (T : Tab) (ρ : Ren) (l : Lf) (rs : List ResultVar) (res : AV) (hb : List Blk) : Option (List Prop) :=
 match l.isEnd && distinctB ρ, resE T l.σ rs with
 | true, some (p, xs) => optAnd (some p) (optAnd (wkE ρ (hbHeap hb) l.σ.heap (asTup xs) res) (hbE ρ (hbHeap hb) l.σ.heap 0 hb))
 | _, _ => none
theorem end_ok {fn : Func} {al : Bool} {res : AV} {hb : List Blk} {l : Lf} (ρ : Ren) {rs : Array ResultVar} {ps : List Prop} (hrs : fn.results = rs) (he : retE T ρ l rs.toList res hb = some ps) (hps : allP ps)
  (hal : al = false → res.bald = true ∧ ∀ b ∈ hb, AV.baldL b.all = true) : V P T (retQ T fn al res hb) l := by
 obtain ⟨σ, k, e⟩ := l
 unfold retE at he
 split at he
 ·rename_i p xs hb' hr
  simp only [Bool.and_eq_true] at hb'
  obtain ⟨x, y, hx, hy, px, py⟩ := optAnd_ok he hps
  obtain ⟨u, v, hu, hv, pu, pv⟩ := optAnd_ok hy py
  cases hx
  obtain ⟨r1, r2⟩ := resE_ok hr px
  have hq : ∀ e, (e = .ret ∨ e = .normal) → retQ T fn al res hb e σ := fun e hee =>
   retQ_of ρ hee hrs r1 hal (by rw [r2]; exact wkE_ok hu pu) (hbE_ok hv pv) (distinctB_ok hb'.2)
  have h1 := hb'.1
  unfold Lf.isEnd at h1
  simp only at h1
  split at h1
  ·exact hq _ (.inr rfl)
  ·exact hq _ (.inl rfl)
  ·cases h1
 ·cases he
mutual
def nz : AV → AV → Bool
 | .row .., .pv _ => false
 | .ptr .., .roat .. => false
 | .agg xs, .agg ys => nzL xs ys
 | .tup xs, .tup ys => nzL xs ys
 | .fn _ xs, .fn _ ys => nzL xs ys
 | _, _ => true
def nzL : List AV → List AV → Bool
 | x :: xs, y :: ys => nz x y && nzL xs ys
 | _, _ => true
end
theorem Wk.noF {ρ : Nat → Option Nat} {D F F' : Nat → Prop} {H : Heap} {x y : AV} (h : Wk ρ D F H x y) : nz x y = true → Wk ρ D F' H x y := by
 induction h with
 | pv p => intro _; exact .pv p
 | roro s n c c' h ih => intro _; exact .roro s n c c' fun i hi j hj => ih i hi j hj (by unfold nz; rfl)
 | nil s c => intro _; exact .nil s c
 | row id e s off len cells c x hF hHi hx h ih => intro hn; unfold nz at hn; cases hn
 | ptr id id' off hρ hD => intro _; exact .ptr id id' off hρ hD
 | pixs id id' off hρ hD => intro _; exact .pixs id id' off hρ hD
 | rows id id' s off len hρ hD => intro _; exact .rows id id' s off len hρ hD
 | nilrow id s hρ hD => intro _; exact .nilrow id s hρ hD
 | maps id id' hρ hD => intro _; exact .maps id id' hρ hD
 | ptro id off n b cell x hF hHi hx h ih => intro hn; unfold nz at hn; cases hn
 | roats n n' c c' hn h ih => intro _; exact .roats n n' c c' hn fun j hj => ih j hj (by unfold nz; rfl)
 | agg0 => intro _; exact .agg0
 | agg x y xs ys h t ih1 ih2 =>
  intro hn
  unfold nz at hn
  unfold nzL at hn
  rw [Bool.and_eq_true] at hn
  exact .agg x y xs ys (ih1 hn.1) (ih2 (by unfold nz; exact hn.2))
 | tup0 => intro _; exact .tup0
 | tup x y xs ys h t ih1 ih2 =>
  intro hn
  unfold nz at hn
  unfold nzL at hn
  rw [Bool.and_eq_true] at hn
  exact .tup x y xs ys (ih1 hn.1) (ih2 (by unfold nz; exact hn.2))
 | fn0 f => intro _; exact .fn0 f
 | fn f x y xs ys h t ih1 ih2 =>
  intro hn
  unfold nz at hn
  unfold nzL at hn
  rw [Bool.and_eq_true] at hn
  exact .fn f x y xs ys (ih1 hn.1) (ih2 (by unfold nz; exact hn.2))
 | junk x => intro _; exact .junk x
def nzH (ρ : Ren) (H : Heap) : Nat → List Blk → Bool
 | _, [] => true
 | i, b :: r => (match renB ρ i with
   | some id => match b, H id with
    | .box cs, some (.box cs') => nzL cs' cs
    | _, _ => true
   | none => true) && nzH ρ H (i + 1) r
theorem nzH_get {ρ : Ren} {H : Heap} : ∀ {hin : List Blk} {k : Nat}, nzH ρ H k hin = true → ∀ (i id : Nat) (cs cs' : List AV), hin[i]? = some (.box cs) → renOf ρ (k + i) = some id → H id = some (.box cs') → nzL cs' cs = true
 | [], k, _, i, id, cs, cs', h, _, _ => by simp at h
 | b :: r, k, hn, 0, id, cs, cs', h, hr, hh => by
  simp at h
  subst h
  unfold nzH at hn
  rw [Bool.and_eq_true] at hn
  have h1 := hn.1
  rw [renB_eq, show k = k + 0 from rfl, hr] at h1
  simp only [hh] at h1
  exact h1
 | b :: r, k, hn, i + 1, id, cs, cs', h, hr, hh => by
  unfold nzH at hn
  rw [Bool.and_eq_true] at hn
  exact nzH_get hn.2 i id cs cs' (by simpa using h) (by rw [show k + 1 + i = k + (i + 1) by omega]; exact hr) hh
def mE (ρ : Ren) (σ : AS) (ax args : List AV) (hin : List Blk) (al : Bool) : Option (List Prop) :=
 bif distinctB ρ && (!al || (nzL ax args && nzH ρ σ.heap 0 hin)) then optAnd (wkEL ρ (hbHeap hin) σ.heap ax args) (hbE ρ (hbHeap hin) σ.heap 0 hin) else none
theorem mE_ok {ρ : Ren} {σ : AS} {ax args : List AV} {hin : List Blk} {al : Bool} {l : List Prop} (h : mE ρ σ ax args hin al = some l) (hl : allP l) :
  ∃ F, Wk (renOf ρ) (fun id => hbHeap hin id ≠ none) F σ.heap (.agg ax) (.agg args) ∧ SubC (renOf ρ) F σ { n := σ.n, slots := fun _ => .junk, heap := hbHeap hin, seen := fun _ => true } ∧ (al = true → ∀ id, ¬ F id) := by
 unfold mE at h
 cases hb : distinctB ρ && (!al || (nzL ax args && nzH ρ σ.heap 0 hin)) with
 | false => rw [hb] at h; cases h
 | true =>
  rw [hb, cond_true] at h
  rw [Bool.and_eq_true] at hb
  obtain ⟨a, b, ha, hbb, pa, pb⟩ := optAnd_ok h hl
  have hargs := (wkL_sound (wkEL_ok ha pa)).1
  have hblk := hbE_ok hbb pb
  cases al with
  | false =>
   refine ⟨freeOf ρ, hargs, ⟨rfl, fun t => .inl rfl, fun i b hib => ⟨rfl, ?_⟩, fun i hi => absurd hi (Nat.not_lt_zero _), fun i j b c k _ _ e1 e2 => renOf_inj (distinctB_ok hb.1) e1 e2⟩, fun h => by cases h⟩
   have := subHb_get hblk i b hib
   rw [Nat.zero_add] at this
   exact subB_sound (τ := { n := σ.n, slots := fun _ => .junk, heap := hbHeap hin, seen := fun _ => true }) this
  | true =>
   have hb2 := hb.2
   simp only [Bool.not_true, Bool.false_or, Bool.and_eq_true] at hb2
   refine ⟨fun _ => False, hargs.noF (by unfold nz; exact hb2.1), ⟨rfl, fun t => .inl rfl, fun i b hib => ⟨rfl, ?_⟩, fun i hi => absurd hi (Nat.not_lt_zero _), fun i j b c k _ _ e1 e2 => renOf_inj (distinctB_ok hb.1) e1 e2⟩, fun _ _ h => h⟩
   have h1 := subHb_get hblk i b hib
   rw [Nat.zero_add] at h1
   have h2 := subB_sound (σ := σ) (τ := { n := σ.n, slots := fun _ => .junk, heap := hbHeap hin, seen := fun _ => true }) h1
   unfold SubB at h2 ⊢
   cases hr : renOf ρ i with
   | none => rw [hr] at h2; exact h2
   | some id =>
    rw [hr] at h2
    simp only at h2 ⊢
    refine ⟨fun h => h, ?_⟩
    unfold subB at h1
    rw [hr] at h1
    simp only at h1
    cases hh : σ.heap id with
    | none => rw [hh] at h1; cases b <;> exact h1.elim
    | some b' =>
     rw [hh] at h1 h2
     cases b <;> cases b' <;> simp only at h1 h2 ⊢
     ·exact h2.2.noF (by unfold nz; exact nzH_get hb2.2 i id _ _ hib (by rw [Nat.zero_add]; exact hr) hh)
     ·obtain ⟨rfl, rfl, rfl, hp⟩ := h1
      exact ⟨rfl, rfl, allPv_wk hp⟩
     ·obtain ⟨rfl, rfl, hp⟩ := h1
      exact ⟨rfl, allPv_wk hp⟩
def isBox : Option Blk → Bool
 | some (.box _) => true
 | _ => false
def boxesB (hout : List Blk) (nk : Nat) : Nat → List Blk → Bool
 | _, [] => true
 | i, b :: r => (match b with | .box _ => Nat.blt i nk && isBox hout[i]? | _ => true) && boxesB hout nk (i + 1) r
theorem boxesB_get {hout : List Blk} {nk : Nat} : ∀ {hin : List Blk} {k : Nat}, boxesB hout nk k hin = true → ∀ (i : Nat) (cs : List AV), hin[i]? = some (.box cs) → k + i < nk ∧ ∃ cs', hout[k + i]? = some (.box cs')
 | [], k, _, i, cs, h => by simp at h
 | b :: r, k, hb, 0, cs, h => by
  simp at h
  subst h
  unfold boxesB at hb
  simp only [Bool.and_eq_true] at hb
  refine ⟨Nat.le_of_ble_eq_true hb.1.1, ?_⟩
  have := hb.1.2
  show ∃ cs', hout[k]? = some (.box cs')
  cases hh : hout[k]? with
  | none => rw [hh] at this; cases this
  | some b' => rw [hh] at this; cases b' with
   | box cs' => exact ⟨cs', rfl⟩
   | row _ _ _ => cases this
   | map _ _ => cases this
 | b :: r, k, hb, i + 1, cs, h => by
  unfold boxesB at hb
  rw [Bool.and_eq_true] at hb
  have := boxesB_get hb.2 i cs (by simpa using h)
  rw [show k + 1 + i = k + (i + 1) by omega] at this
  exact this
def someB (ρ : Ren) : Nat → Bool
 | 0 => true
 | n + 1 => (renB ρ n).isSome && someB ρ n
theorem someB_get {ρ : Ren} : ∀ {n : Nat}, someB ρ n = true → ∀ i, i < n → ∃ id, renOf ρ i = some id
 | 0, _, i, hi => absurd hi (Nat.not_lt_zero _)
 | n + 1, h, i, hi => by
  simp only [someB, Bool.and_eq_true] at h
  by_cases he : i = n
  ·subst he
   rw [renB_eq] at h
   exact Option.isSome_iff_exists.1 h.1
  ·exact someB_get h.2 i (by omega)
def freshK (σ : AS) (k nk : Nat) : Nat → Bool
 | 0 => true
 | n + 1 => (Nat.blt n nk || !(σ.seen (k + n))) && freshK σ k nk n
theorem freshK_get {σ : AS} {k nk : Nat} : ∀ {n : Nat}, freshK σ k nk n = true → ∀ i, nk ≤ i → i < n → σ.seen (k + i) = false
 | 0, _, i, _, hi => absurd hi (Nat.not_lt_zero _)
 | n + 1, h, i, h1, hi => by
  simp only [freshK, Bool.and_eq_true] at h
  by_cases he : i = n
  ·subst he
   have h2 := h.1
   rw [show Nat.blt i nk = false by unfold Nat.blt; rw [← Bool.not_eq_true, Nat.ble_eq]; omega] at h2
   simpa using h2
  ·exact freshK_get h.2 i h1 (by omega)
def mchk (ρ : Ren) (σ : AS) (k nk : Nat) (hin hout : List Blk) : Bool :=
 Nat.ble nk hin.length && Nat.ble nk hout.length && boxesB hout nk 0 hin && someB ρ nk && freshK σ k nk hout.length
def callM (l : Lf) : Option (Option Nat × FuncId × List AV) :=
 match l.k, l.e with
 | .ops all (o :: os) :: r, .normal => match callOf o.op, o.guard.isNone && dstB l.σ.n o.dst && !(o.op.operands.toList.any fun x => isGd (l.σ.ev x)) && (isMC l.σ.fz o.op) with
  | some (f, xs), true => match l.σ.bev f with
   | .fn fn caps => some (o.dst, fn, xs.map l.σ.bev ++ caps)
   | _ => none
  | _, _ => none
 | _, _ => none
theorem mcall_ok {Q : Exit → AS → Prop} {l : Lf} {d : Option Nat} {fn : FuncId} {ax args : List AV} {hin : List Blk} {nk : Nat} {al : Bool} {res : AV} {hout : List Blk} {hs : List (Nat × Blk)} {del : List Nat} {ps : List Prop} (ρ : Ren) (hv : callM l = some (d, fn, ax)) (hp : MCalls P fn args hin nk al res hout)
  (ha : mE ρ l.σ ax args hin al = some ps) (hps : allP ps) (hc : mchk ρ l.σ (fid d 0) nk hin hout = true) (hu : mset (mren (renOf ρ) nk (fid d 0)) 0 hout = hs) (hdl : mdel (renOf ρ) nk hin.length = del)
  (hk : VS P T Q l.rest .normal (l.σ.eff d (res.ren (mren (renOf ρ) nk (fid d 0))) hs del)) : V P T Q l := by
 obtain ⟨σ, k, e⟩ := l
 subst hu
 subst hdl
 unfold callM at hv
 simp only at hv
 split at hv
 ·rename_i all o os r
  split at hv
  ·rename_i f xs hcl hg
   split at hv
   ·rename_i fn' caps hfn
    cases hv
    simp only [Bool.and_eq_true, Bool.not_eq_true', Option.isNone_iff_eq_none] at hg
    obtain ⟨⟨⟨hg, hd⟩, hw⟩, hmc⟩ := hg
    refine .inl ?_
    show sxOp P T all o σ _
    obtain ⟨hnp, hns⟩ := callOf_pick hcl
    simp only [mchk, Bool.and_eq_true] at hc
    obtain ⟨⟨⟨⟨c1, c2⟩, c3⟩, c4⟩, c5⟩ := hc
    obtain ⟨F, w1, w2, w3⟩ := mE_ok ha hps
    unfold sxOp
    rw [hg]
    refine ⟨trivial, ?_, ?_⟩
    ·revert hd
     cases o.dst with
     | none => intro _; trivial
     | some d => intro hd; exact Nat.le_of_ble_eq_true hd
    ·split
     ·rename_i c a b hop; exact absurd hop (hnp c a b)
     ·rw [hcl]
      refine ⟨fun _ => whens_none hw, ?_⟩
      simp only [Option.isSome_none, show isMC σ.fz o.op = true from hmc]
      exact ⟨fn, caps, args, hin, nk, al, res, hout, renOf ρ, F, fun _ => ⟨hfn, w1, w2, w3, someB_get c4, Nat.le_of_ble_eq_true c1, Nat.le_of_ble_eq_true c2, fun i cs hi => by have := boxesB_get c3 i cs hi; rw [Nat.zero_add] at this; exact this, hp, freshK_get c5⟩, hk⟩
   ·cases hv
  ·cases hv
 ·cases hv
theorem mset_nil (f : Nat → Nat) (i : Nat) : mset f i [] = [] := rfl
theorem mset_box (f : Nat → Nat) (i : Nat) (cs : List AV) (r : List Blk) : mset f i (.box cs :: r) = (f i, .box (AV.renL f cs)) :: mset f (i + 1) r := rfl
theorem renL_pv (k : Nat → Nat) : ∀ {cs : List AV}, AllPv cs → AV.renL k cs = cs
 | [], _ => rfl
 | c :: cs, h => by
  obtain ⟨p, rfl⟩ := h c (by simp)
  simp only [AV.renL, AV.ren]
  rw [renL_pv k fun d hd => h d (by simp [hd])]
theorem mset_row (E : Elem α) (f : Nat → Nat) (i e s : Nat) (xs : List α) (r : List Blk) : mset f i (.row e s (E.cR xs) :: r) = (f i, .row e s (E.cR xs)) :: mset f (i + 1) r := by
 show (f i, Blk.row e s (AV.renL f (E.cR xs))) :: _ = _
 rw [renL_pv f (E.cR_pv xs)]
def retME (T : Tab) (ρ : Ren) (l : Lf) (rs : List ResultVar) (nk : Nat) (res : AV) (hb : List Blk) : Option (List Prop) :=
 match l.isEnd && distinctB ρ && pinsO ρ hb.length l.σ.pins nk, resE T l.σ rs with
 | true, some (p, xs) => optAnd (some p) (optAnd (wkE ρ (hbHeap hb) l.σ.heap (asTup xs) res) (hbE ρ (hbHeap hb) l.σ.heap 0 hb))
 | _, _ => none
theorem endT_ok {fn : Func} {nk : Nat} {al : Bool} {res : AV} {hb : List Blk} {l : Lf} (ρ : Ren) {rs : Array ResultVar} {ps : List Prop} (hrs : fn.results = rs) (he : retME T ρ l rs.toList nk res hb = some ps) (hps : allP ps)
  (hal : al = false → res.bald = true ∧ ∀ b ∈ hb, AV.baldL b.all = true) : ∀ (τ : AS), (∀ A W w a, St A W w a τ → St A W w a l.σ) → V P T (retM T fn nk al res hb) { l with σ := τ } := by
 obtain ⟨σ, k, e⟩ := l
 intro τ hτ
 unfold retME at he
 split at he
 ·rename_i p xs hb' hr
  simp only [Bool.and_eq_true] at hb'
  obtain ⟨x, y, hx, hy, px, py⟩ := optAnd_ok he hps
  obtain ⟨u, v, hu, hv, pu, pv⟩ := optAnd_ok hy py
  cases hx
  obtain ⟨r1, r2⟩ := resE_ok hr px
  have hq : ∀ e, (e = .ret ∨ e = .normal) → retM T fn nk al res hb e τ := fun e hee => ⟨σ, hτ,
   retM_of ρ hee hrs r1 hal (by rw [r2]; exact wkE_ok hu pu) (hbE_ok hv pv) (distinctB_ok hb'.1.2) hb'.2⟩
  have h1 := hb'.1.1
  unfold Lf.isEnd at h1
  simp only at h1
  split at h1
  ·exact hq _ (.inr rfl)
  ·exact hq _ (.inl rfl)
  ·cases h1
 ·cases he
def bodyOf (f : Func) : Code := f.body.getD .skip
theorem endM_ok {fn : Func} {nk : Nat} {al : Bool} {res : AV} {hb : List Blk} {l : Lf} (ρ : Ren) {rs : Array ResultVar} {ps : List Prop} (hrs : fn.results = rs) (he : retME T ρ l rs.toList nk res hb = some ps) (hps : allP ps)
  (hal : al = false → res.bald = true ∧ ∀ b ∈ hb, AV.baldL b.all = true) : V P T (retM T fn nk al res hb) l :=
 endT_ok ρ hrs he hps hal l.σ (fun _ _ _ _ h => h)
theorem endR_ok {fn : Func} {nk : Nat} {al : Bool} {res : AV} {hb : List Blk} {l : Lf} (E : Elem α) {xs : List α} (id off f n e s : Nat) (hs : E.s = s) (hid : l.σ.heap id = some (.row e s (E.cR xs))) (hl : off + n ≤ xs.length) (hf : (!l.σ.seen f && (l.σ.heap f).isNone) = true)
  (ρ : Ren) {rs : Array ResultVar} {ps : List Prop} (hrs : fn.results = rs) (he : retME T ρ { l with σ := l.σ.rb id off f e s (E.cR ((xs.drop off).take n)) } rs.toList nk res hb = some ps) (hps : allP ps)
  (hal : al = false → res.bald = true ∧ ∀ b ∈ hb, AV.baldL b.all = true) : V P T (retM T fn nk al res hb) l := by
 subst hs
 simp only [Bool.and_eq_true, Bool.not_eq_true', Option.isNone_iff_eq_none] at hf
 refine endT_ok ρ hrs he hps hal l.σ (fun A W w a h => ?_)
 have := h.rb (f := f) (off := off) (n := n) hid (by rw [E.cR_length]; exact Nat.mul_le_mul_right _ hl) hf.1 hf.2
 rw [E.cR_drop, E.cR_take] at this
 exact this
theorem fn_ok (hT : TabOk P T) {f : FuncId} {fn : Func} {args : List AV} {al : Bool} {res : AV} {hb : List Blk} (hf : P.funcs[f]? = some fn) (hb' : fn.body = some (bodyOf fn)) (hn : (fn.name == "runtime.NumGoroutine") = false) {m : Nat}
  (hm : fn.ntmps = m) (hle : args.length ≤ m) (h : VS P T (retQ T fn al res hb) [.code (bodyOf fn)] .normal (entry m args)) : PCalls P f args al res hb :=
 pcalls_intro hT hf hb' hn hm hle h
def argSlots : Nat → List AV → List (Nat × AV)
 | _, [] => []
 | i, x :: xs => (i, x) :: argSlots (i + 1) xs
def numb : Nat → List Blk → List (Nat × Blk)
 | _, [] => []
 | i, x :: xs => (i, x) :: numb (i + 1) xs
theorem lookS_args : ∀ (args : List AV) (i t : Nat), lookS (argSlots i args) (i + t) = argsAt args t
 | [], i, t => by cases t <;> rfl
 | x :: xs, i, 0 => by simp [argSlots, lookS, argsAt]
 | x :: xs, i, t + 1 => by
  simp only [argSlots, lookS, argsAt]
  rw [if_neg (by omega), show i + (t + 1) = i + 1 + t by omega]
  exact lookS_args xs (i + 1) t
theorem lookH_numb : ∀ (hb : List Blk) (i t : Nat), lookH (numb i hb) (i + t) = hb[t]?
 | [], i, t => by simp [numb, lookH]
 | x :: xs, i, 0 => by simp [numb, lookH]
 | x :: xs, i, t + 1 => by
  simp only [numb, lookH]
  rw [if_neg (by omega), show i + (t + 1) = i + 1 + t by omega, lookH_numb xs (i + 1) t]
  simp
theorem fnM_ok (hT : TabOk P T) {f : FuncId} {fn : Func} {args : List AV} {hin : List Blk} {nk : Nat} {fz : List Nat} {al : Bool} {res : AV} {hout : List Blk} (hf : P.funcs[f]? = some fn) (hb' : fn.body = some (bodyOf fn)) (hn : (fn.name == "runtime.NumGoroutine") = false) {m : Nat}
  (hm : fn.ntmps = m) (hle : args.length ≤ m) (hl16 : hin.length ≤ 16384) (h : VS P T (retM T fn nk al res hout) [.code (bodyOf fn)] .normal (mk m (argSlots 0 args) (numb 0 hin) fz nk)) : MCalls P f args hin nk al res hout :=
 mcalls_intro hT hf hb' hn hm hle hl16 (fz := fz) ⟨rfl, funext fun t => (by have := lookS_args args 0 t; rw [Nat.zero_add] at this; exact this), fun i => (by have := lookH_numb hin 0 i; rw [Nat.zero_add] at this; exact this), fun i hi => decide_eq_true hi, rfl⟩ h
theorem fnZ_ok (hT : TabOk P T) (fz : List Nat) {f : FuncId} {fn : Func} {args : List AV} {al : Bool} {res : AV} {hb : List Blk} (hf : P.funcs[f]? = some fn) (hb' : fn.body = some (bodyOf fn)) (hn : (fn.name == "runtime.NumGoroutine") = false) {m : Nat}
  (hm : fn.ntmps = m) (hle : args.length ≤ m) (h : VS P T (retQ T fn al res hb) [.code (bodyOf fn)] .normal (mk m (argSlots 0 args) [] fz)) : PCalls P f args al res hb := by
 refine pcalls_intro hT hf hb' hn hm hle ?_
 intro A _ W a w hst
 refine h A W a w ?_
 obtain ⟨ι, R, h⟩ := hst
 refine ⟨ι, R, h.below, h.size, h.defers, fun id x hx => ?_, fun t => ?_, fun id b hb => (by cases hb), fun i j b b' g c c' h1 => (by cases h1), fun id b g c h1 => (by cases h1), h.lt, fun id b g c h1 => (by cases h1), h.arg, fun i x hi => absurd hi (Nat.not_lt_zero _), h.glob⟩
 ·have := h.seen id x hx
  cases this
 ·have := h.slots t
  have e := lookS_args args 0 t
  rw [Nat.zero_add] at e
  show RelA ι R w (lookS (argSlots 0 args) t) _
  rw [e]
  exact this
end Go.Ab

