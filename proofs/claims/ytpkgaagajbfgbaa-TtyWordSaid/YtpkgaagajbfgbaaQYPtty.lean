/- Plain laws of tty. -/
import Derived.Test.YtpkgaagajbfgbaaQYM
import Derived.Test.YtpkgaagajbfgbaaPLib
import Derived.Test.YtpkgaagajbfgbaaQYK
set_option linter.unusedSimpArgs false
set_option linter.unusedVariables false
namespace Go.Proofs.Ytpkgaagajbfgbaa
open Go Go.Ab

theorem alive17_eq : keep_alive17 = some true := by decide +kernel
abbrev T := Api_Tty
abbrev TZ : T := ⟨[], []⟩
def RightT (t : T) : Prop := t.Edit.length ≤ 64 ∧ t.Lines.length ≤ 400 ∧ ∀ l ∈ t.Lines, l.length ≤ 65
instance (t : T) : Decidable (RightT t) := by unfold RightT; infer_instance
theorem beqT {a b : Int} (h : a = b) : ((a : Int) == b) = true := by simpa using h
theorem beqF {a b : Int} (h : ¬ a = b) : ((a : Int) == b) = false := by simpa using h
theorem Right_eq (t : T) (hl : t.Lines.length ≤ 140737488355328) : tty_Right t = some (decide (RightT t)) := by
  unfold tty_Right
  have hf : ∀ x, tty_Right_1 x = some (decide ((((x.length : Nat) : Int) : Int) > 65)) := fun x => rfl
  rw [slices_ContainsFunc_slbyte_tty_Right_1_eq hf t.Lines hl]
  by_cases h : t.Edit.length ≤ 64 ∧ t.Lines.length ≤ 400
  · have : ((decide ((((t.Edit.length : Nat) : Int) : Int) ≤ 64)) && (decide ((((t.Lines.length : Nat) : Int) : Int) ≤ 400))) = true := by
      simp only [Bool.and_eq_true, decide_eq_true_eq]; omega
    rw [this, cond_true, Option.bind_some, Bool.true_and]
    congr 1
    rw [Bool.eq_iff_iff, decide_eq_true_iff]
    simp only [Bool.not_eq_true', List.any_eq_false, decide_eq_true_eq]
    constructor
    · intro h'; exact ⟨h.1, h.2, fun l hl => by have := h' l hl; omega⟩
    · intro h' l hl; have := h'.2.2 l hl; omega
  · have : ((decide ((((t.Edit.length : Nat) : Int) : Int) ≤ 64)) && (decide ((((t.Lines.length : Nat) : Int) : Int) ≤ 400))) = false := by
      rw [Bool.eq_false_iff]; simp only [ne_eq, Bool.and_eq_true, decide_eq_true_eq]; omega
    rw [this, cond_false, Option.bind_some, Bool.false_and, decide_eq_false (fun h' => h ⟨h'.1, h'.2.1⟩)]
theorem own_l1_eq (t : T) (r1 : List Int) (hl : t.Lines.length ≤ 1000) (hb : ∀ l ∈ t.Lines, l.length ≤ 1000) : ∀ n k (acc : List (List Int)), k ≤ t.Lines.length → t.Lines.length - k < n → acc = t.Lines.take k → tty_own_l1 t r1 n k acc = some ⟨t.Lines, r1⟩ := by
  intro n
  induction n with
  | zero => intro k acc h1 h2; omega
  | succ n ih =>
    intro k acc h1 h2 h3
    subst h3
    unfold tty_own_l1
    rcases Nat.lt_or_ge k t.Lines.length with hlt | hge
    · unfold bytes_Clone
      have := hb t.Lines[k] (List.getElem_mem _)
      rw [dec_lt hlt, cond_true, getD_lt _ _ hlt, if_pos (by omega), Option.bind_some, if_pos (by simp; omega)]
      exact ih (k + 1) _ (by omega) (by omega) (List.take_succ_eq_append_getElem hlt).symm
    · rw [dec_ge hge, cond_false, List.take_of_length_le hge]
theorem own_eq (t : T) (hl : t.Lines.length ≤ 1000) (hb : ∀ l ∈ t.Lines, l.length ≤ 1000) (he : t.Edit.length ≤ 1000) : tty_own t = some t := by
  unfold tty_own bytes_Clone
  rw [if_pos (by omega), Option.bind_some]
  exact own_l1_eq t t.Edit hl hb FUEL 0 [] (by omega) (fuel_gt (by omega)) rfl

def wordR2 (r : List Int) : Nat := (r.dropWhile fun x => x != 32).length
def wordR (r : List Int) : Nat := wordR2 (r.dropWhile fun x => x == 32)
theorem wordR2_le (r : List Int) : wordR2 r ≤ r.length := by
  unfold wordR2
  exact (List.dropWhile_suffix _).length_le
theorem wordR_le (r : List Int) : wordR r ≤ r.length := Nat.le_trans (wordR2_le _) ((List.dropWhile_suffix _).length_le)
theorem take_rev {l : List Int} {k : Nat} (h : k < l.length) : (l.take (k + 1)).reverse = l[k] :: (l.take k).reverse := by
  rw [List.take_succ_eq_append_getElem h, List.reverse_append]; rfl
theorem word_l2_eq (l : List Int) (x1 : Int) (hl : l.length ≤ 1000) : ∀ n k, k ≤ l.length → k < n → tty_word_l2 l x1 n (k : Int) = some ((wordR2 (l.take k).reverse : Nat) : Int) := by
  intro n
  induction n with
  | zero => intro k h1 h2; omega
  | succ n ih =>
    intro k h1 h2
    unfold tty_word_l2
    cases k with
    | zero =>
      rw [if_pos (fun h => by simp at h)]
      rfl
    | succ k =>
      have hw : IntKind.i64.wrap (((k + 1 : Nat) : Int) - 1) = (k : Int) := by rw [wrap_id (by omega) (by omega)]; omega
      have hd : decide ((((k + 1 : Nat) : Int) : Int) > 0) = true := by simp
      rw [hw, if_pos (fun _ => by omega), hd, Bool.true_and, Int.toNat_natCast, getD_lt _ _ (by omega), take_rev (by omega)]
      unfold wordR2
      by_cases hc : l[k] = 32
      · have : ((l[k] : Int) != 32) = false := by simp [hc]
        rw [this, cond_false, List.dropWhile_cons_of_neg (by simp [hc])]
        simp; omega
      · have : ((l[k] : Int) != 32) = true := by simp [hc]
        rw [this, cond_true, List.dropWhile_cons_of_pos (by simp [hc])]
        exact ih k (by omega) (by omega)
theorem word_l1_eq (l : List Int) (hl : l.length ≤ 1000) : ∀ n k, k ≤ l.length → k < n → tty_word_l1 l n (k : Int) = some ((wordR (l.take k).reverse : Nat) : Int) := by
  intro n
  induction n with
  | zero => intro k h1 h2; omega
  | succ n ih =>
    intro k h1 h2
    unfold tty_word_l1
    cases k with
    | zero =>
      rw [if_pos (fun h => by simp at h)]
      have := word_l2_eq l 0 hl FUEL 0 (by omega) (fuel_gt (by omega))
      simpa [wordR] using this
    | succ k =>
      have hw : IntKind.i64.wrap (((k + 1 : Nat) : Int) - 1) = (k : Int) := by rw [wrap_id (by omega) (by omega)]; omega
      have hd : decide ((((k + 1 : Nat) : Int) : Int) > 0) = true := by simp
      rw [hw, if_pos (fun _ => by omega), hd, Bool.true_and, Int.toNat_natCast, getD_lt _ _ (by omega)]
      by_cases hc : l[k] = 32
      · have e : wordR (l.take (k + 1)).reverse = wordR (l.take k).reverse := by
          unfold wordR
          rw [take_rev (by omega), List.dropWhile_cons_of_pos (by simp [hc])]
        rw [beqT hc, cond_true, e]
        exact ih k (by omega) (by omega)
      · have e : wordR (l.take (k + 1)).reverse = wordR2 (l.take (k + 1)).reverse := by
          unfold wordR
          rw [take_rev (by omega), List.dropWhile_cons_of_neg (by simp [hc])]
        rw [beqF hc, cond_false, e]
        exact word_l2_eq l _ hl FUEL (k + 1) h1 (fuel_gt (by omega))
theorem word_eq (l : List Int) (hl : l.length ≤ 1000) : tty_word l = some ((wordR l.reverse : Nat) : Int) := by
  unfold tty_word
  rw [word_l1_eq l hl FUEL l.length (Nat.le_refl _) (fuel_gt (by omega)), List.take_length]

def keyF (t : T) (b : Int) : T × Int :=
  if (b = 10 ∨ b = 4) ∧ t.Lines.length = 400 then (TZ, 4)
  else if b = 10 then (⟨t.Lines ++ [t.Edit ++ [b]], []⟩, 0)
  else if b = 4 then (⟨t.Lines ++ [t.Edit ++ []], []⟩, 0)
  else if b = 8 then (⟨t.Lines, t.Edit.take (t.Edit.length - 1)⟩, 0)
  else if b = 21 then (⟨t.Lines, []⟩, 0)
  else if b = 23 then (⟨t.Lines, t.Edit.take (wordR t.Edit.reverse)⟩, 0)
  else if t.Edit.length = 64 then (TZ, 4)
  else (⟨t.Lines, t.Edit ++ [b]⟩, 0)
theorem told_eq (t : T) (h : RightT t) (e : List Int) (he : e.length ≤ 1) : tty_told_roro t e = some ⟨t.Lines ++ [t.Edit ++ e], []⟩ := by
  obtain ⟨h1, h2, h3⟩ := h
  unfold tty_told_roro slices_Clone_slbyte slices_Clone_byte
  rw [if_pos (by omega), Option.bind_some, if_pos (by omega), Option.bind_some, if_pos (by omega), if_pos (by simp only [List.length_cons, List.length_nil]; omega)]
theorem Key_eq (t : T) (h : RightT t) (b : Int) : tty_Key t b = some (keyF t b) := by
  have h' := h
  obtain ⟨h1, h2, h3⟩ := h'
  unfold tty_Key keyF
  rw [Right_eq t (by omega), Option.bind_some, decide_eq_true h, Bool.not_true, cond_false]
  have hown : ∀ e : List Int, e.length ≤ 1000 → tty_own ⟨t.Lines, e⟩ = some ⟨t.Lines, e⟩ := fun e he => own_eq ⟨t.Lines, e⟩ (by simp only; omega) (fun l hl => by have := h3 l hl; omega) he
  have hown2 : ∀ e : List Int, e.length ≤ 1 → tty_own ⟨t.Lines ++ [t.Edit ++ e], []⟩ = some ⟨t.Lines ++ [t.Edit ++ e], []⟩ := fun e he => own_eq _ (by simp; omega) (fun l hl => by
      simp only [List.mem_append, List.mem_singleton] at hl
      rcases hl with hl | rfl
      · have := h3 l hl; omega
      · simp; omega) (by simp)
  by_cases hf : (b = 10 ∨ b = 4) ∧ t.Lines.length = 400
  · have : ((((b : Int) == 10) || ((b : Int) == 4)) && ((((t.Lines.length : Nat) : Int) : Int) == 400)) = true := by
      simp only [Bool.and_eq_true, Bool.or_eq_true, beq_iff_eq]; omega
    rw [this, cond_true, if_pos hf]
  have : ((((b : Int) == 10) || ((b : Int) == 4)) && ((((t.Lines.length : Nat) : Int) : Int) == 400)) = false := by
    rw [Bool.eq_false_iff]; simp only [ne_eq, Bool.and_eq_true, Bool.or_eq_true, beq_iff_eq]; omega
  rw [this, cond_false, if_neg hf]
  by_cases h10 : b = 10
  · rw [beqT h10, cond_true, if_pos h10, told_eq t h [b] (by simp), Option.bind_some, hown2 _ (by simp), Option.bind_some]
  rw [beqF h10, cond_false, if_neg h10]
  by_cases h4 : b = 4
  · rw [beqT h4, cond_true, if_pos h4, told_eq t h [] (by simp), Option.bind_some, hown2 _ (by simp), Option.bind_some]
  rw [beqF h4, cond_false, if_neg h4]
  by_cases h8 : b = 8
  · have hm : (if (0 : Int) > (IntKind.i64.wrap (((t.Edit.length : Nat) : Int) - 1)) then 0 else (IntKind.i64.wrap (((t.Edit.length : Nat) : Int) - 1))) = ((t.Edit.length - 1 : Nat) : Int) := by
      rw [wrap_id (by omega) (by omega)]; split <;> omega
    rw [beqT h8, cond_true, if_pos h8, hm, if_pos (by omega), if_pos (by omega), Int.toNat_natCast, List.drop_zero, Nat.sub_zero, hown _ (by simp; omega), Option.bind_some]
  rw [beqF h8, cond_false, if_neg h8]
  by_cases h21 : b = 21
  · rw [beqT h21, cond_true, if_pos h21, hown _ (by simp), Option.bind_some]
  rw [beqF h21, cond_false, if_neg h21]
  by_cases h23 : b = 23
  · have hw := wordR_le t.Edit.reverse
    rw [List.length_reverse] at hw
    rw [beqT h23, cond_true, if_pos h23, word_eq _ (by omega), Option.bind_some, if_pos (by omega), Int.toNat_natCast, if_pos hw, List.drop_zero, Nat.sub_zero, hown _ (by simp; omega), Option.bind_some]
  rw [beqF h23, cond_false, if_neg h23]
  by_cases h64 : t.Edit.length = 64
  · rw [beqT (by omega), cond_true, if_pos h64]
  · unfold bytes_Clone
    rw [beqF (by omega), cond_false, if_neg h64, if_pos (by omega), Option.bind_some, if_pos (by simp; omega), hown _ (by simp; omega), Option.bind_some]

def typS (t : T) (b : Int) : T := if (keyF t b).2 = 0 then (keyF t b).1 else t
theorem keyF_right (t : T) (h : RightT t) (b : Int) : RightT (keyF t b).1 := by
  obtain ⟨h1, h2, h3⟩ := h
  unfold keyF
  have hin : ∀ e : List Int, e.length ≤ 1 → t.Lines.length ≠ 400 → RightT ⟨t.Lines ++ [t.Edit ++ e], []⟩ := fun e he hb => ⟨by simp, by simp; omega, fun l hl => by
      simp only [List.mem_append, List.mem_singleton] at hl
      rcases hl with hl | rfl
      · exact h3 l hl
      · simp; omega⟩
  split
  · decide
  split
  · exact hin _ (by simp) (by omega)
  split
  · exact hin _ (by simp) (by omega)
  split
  · exact ⟨by simp; omega, h2, h3⟩
  split
  · exact ⟨by simp, h2, h3⟩
  split
  · exact ⟨by simp; omega, h2, h3⟩
  split
  · decide
  · exact ⟨by simp; omega, h2, h3⟩
theorem typS_right (t : T) (h : RightT t) (b : Int) : RightT (typS t b) := by
  unfold typS
  split
  · exact keyF_right t h b
  · exact h
def typF (ks : List Int) (t : T) : T := ks.foldl typS t
theorem typF_right (ks : List Int) : ∀ t, RightT t → RightT (typF ks t) := by
  induction ks with
  | nil => intro t h; exact h
  | cons b r ih => intro t h; exact ih _ (typS_right t h b)
theorem TZ_right : RightT TZ := by decide
theorem Type_l1_eq (ks : List Int) : ∀ n k t, RightT t → k ≤ ks.length → ks.length - k < n → tty_Type_l1 ks n k t.Lines t.Edit = some (typF (ks.drop k) t) := by
  intro n
  induction n with
  | zero => intro k t hr h1 h2; omega
  | succ n ih =>
    intro k t hr h1 h2
    unfold tty_Type_l1
    rcases Nat.lt_or_ge k ks.length with hlt | hge
    · rw [dec_lt hlt, cond_true, getD_lt _ _ hlt, Key_eq t hr, Option.bind_some, List.drop_eq_getElem_cons hlt]
      have ih' := ih (k + 1) (typS t ks[k]) (typS_right t hr _) (by omega) (by omega)
      show _ = some (typF (ks.drop (k + 1)) (typS t ks[k]))
      rw [← ih']
      unfold typS
      by_cases he : (keyF t ks[k]).2 = 0
      · rw [beqT he, cond_true, if_pos he]
      · rw [beqF he, cond_false, if_neg he]
    · rw [dec_ge hge, cond_false, List.drop_of_length_le hge]; rfl
theorem Type_eq (ks : List Int) (h : ks.length ≤ 140737488355328) : tty_Type ks = some (typF ks TZ) := by
  unfold tty_Type
  exact Type_l1_eq ks FUEL 0 TZ TZ_right (by omega) (fuel_gt (by omega))
theorem typF_append (a b : List Int) (t : T) : typF (a ++ b) t = typF b (typF a t) := List.foldl_append

def plainB (b : Int) : Prop := b ≠ 8 ∧ b ≠ 21 ∧ b ≠ 4 ∧ b ≠ 10 ∧ b ≠ 23
instance (b : Int) : Decidable (plainB b) := by unfold plainB; infer_instance
theorem plain_eq (b : Int) : keep_plain b = some (decide (plainB b)) := by
  unfold keep_plain
  congr 1
  rw [Bool.eq_iff_iff, decide_eq_true_iff]
  unfold plainB
  simp only [Bool.and_eq_true, bne_iff_ne, ne_eq, and_assoc]
theorem typS_plain (t : T) (b : Int) (hb : plainB b) (hl : t.Edit.length < 64) : typS t b = ⟨t.Lines, t.Edit ++ [b]⟩ := by
  obtain ⟨h1, h2, h3, h4, h5⟩ := hb
  have hk : keyF t b = (⟨t.Lines, t.Edit ++ [b]⟩, 0) := by
    unfold keyF
    rw [if_neg (by omega), if_neg h4, if_neg h3, if_neg h1, if_neg h2, if_neg h5, if_neg (by omega)]
  unfold typS
  rw [hk, if_pos rfl]
theorem typF_plain (w : List Int) : ∀ t, (∀ b ∈ w, plainB b) → t.Edit.length + w.length ≤ 64 → typF w t = ⟨t.Lines, t.Edit ++ w⟩ := by
  induction w with
  | nil => intro t _ _; simp [typF]
  | cons b r ih =>
    intro t hp hl
    rw [List.length_cons] at hl
    show typF r (typS t b) = _
    rw [typS_plain t b (hp b (by simp)) (by omega), ih _ (fun x hx => hp x (by simp [hx])) (by simp; omega)]
    simp
theorem same_l1 (a : T) : ∀ n k, k ≤ a.Lines.length → a.Lines.length - k < n → ref_SameTty_l1 a a n k = some true := by
  intro n
  induction n with
  | zero => intro k h1 h2; omega
  | succ n ih =>
    intro k h1 h2
    unfold ref_SameTty_l1
    rcases Nat.lt_or_ge k a.Lines.length with hlt | hge
    · rw [dec_lt hlt, cond_true, if_pos (idx_ok hlt), beq_self_eq_true, Bool.not_true, cond_false]
      exact ih (k + 1) (by omega) (by omega)
    · rw [dec_ge hge, cond_false]
theorem same_self (a : T) (h : RightT a) : ref_SameTty a a = some true := by
  unfold ref_SameTty
  have : (((a.Lines.length : Nat) : Int) != ((a.Lines.length : Nat) : Int)) = false := by simp
  rw [beq_self_eq_true, Bool.not_true, Bool.false_or, this, cond_false]
  exact same_l1 a FUEL 0 (by omega) (fuel_gt (by have := h.2.1; omega))

theorem TtyErase_trueU (a0 : List Int) (a1 : Int) (a2 : List Int) (h0 : a0.length ≤ 1048576 ∧ ∀ y ∈ a0, (0 ≤ y ∧ y ≤ 255)) (h1 : 0 ≤ a1 ∧ a1 ≤ 255) (h2 : a2.length ≤ 1048576 ∧ ∀ y ∈ a2, (0 ≤ y ∧ y ≤ 255)) : keep_TtyErase a0 a1 a2 = some true := by
  unfold keep_TtyErase
  have l0 := h0.1
  have l2 := h2.1
  rw [alive17_eq, Option.bind_some, Bool.not_true, cond_false, Type_eq a0 (by omega), Option.bind_some, plain_eq, Option.bind_some]
  have hr := typF_right a0 TZ TZ_right
  have hcat := fun r => typF_append a0 r TZ
  generalize typF a0 TZ = t at *
  by_cases hc : ¬ plainB a1 ∨ t.Edit.length = 64
  · have : ((!(decide (plainB a1))) || ((((t.Edit.length : Nat) : Int) : Int) == 64)) = true := by
      simp only [Bool.or_eq_true, Bool.not_eq_true', decide_eq_false_iff_not, beq_iff_eq]
      rcases hc with h | h
      · exact .inl h
      · exact .inr (by omega)
    rw [this]; rfl
  have : ((!(decide (plainB a1))) || ((((t.Edit.length : Nat) : Int) : Int) == 64)) = false := by
    rw [Bool.eq_false_iff]; simp only [ne_eq, Bool.or_eq_true, Bool.not_eq_true', decide_eq_false_iff_not, beq_iff_eq]
    rintro (h | h)
    · exact hc (.inl h)
    · exact hc (.inr (by omega))
  rw [this, cond_false]
  have hp : plainB a1 := by
    rcases Classical.em (plainB a1) with h | h
    · exact h
    · exact absurd (.inl h) hc
  have hE : t.Edit.length < 64 := by have := hr.1; omega
  have f1 : [a0, [a1, 8], a2].flatten = a0 ++ ([a1, 8] ++ a2) := by simp
  have f2 : [a0, a2].flatten = a0 ++ a2 := by simp
  have f3 : [a0, a2, [21]].flatten = a0 ++ (a2 ++ [21]) := by simp
  have hR := typF_right a2 t hr
  rw [slices_Concat_byte_eq _ (by simp) (by rw [f1]; simp; omega), Option.bind_some, f1, Type_eq _ (by simp; omega), Option.bind_some, hcat,
    slices_Concat_byte_eq _ (by simp) (by rw [f2]; simp; omega), Option.bind_some, f2, Type_eq _ (by simp; omega), Option.bind_some, hcat]
  have e8 : typF ([a1, 8] ++ a2) t = typF a2 t := by
    rw [typF_append]
    congr 1
    show typS (typS t a1) 8 = t
    rw [typS_plain t a1 hp hE]
    unfold typS keyF
    simp
  rw [e8, same_self _ hR, Option.bind_some, Bool.not_true, cond_false]
  by_cases hq : t.Edit.length > 0 ∨ a2.length > 64
  · have : ((decide ((((t.Edit.length : Nat) : Int) : Int) > 0)) || (decide ((((a2.length : Nat) : Int) : Int) > 64))) = true := by
      simp only [Bool.or_eq_true, decide_eq_true_eq]; omega
    rw [this]; rfl
  have : ((decide ((((t.Edit.length : Nat) : Int) : Int) > 0)) || (decide ((((a2.length : Nat) : Int) : Int) > 64))) = false := by
    rw [Bool.eq_false_iff]; simp only [ne_eq, Bool.or_eq_true, decide_eq_true_eq]; omega
  have hf : ∀ x, keep_TtyErase_1 x = some (!decide (plainB x)) := fun x => by unfold keep_TtyErase_1; rw [plain_eq]; rfl
  rw [this, Bool.not_false, cond_true, slices_ContainsFunc_byte_keep_TtyErase_1_eq hf a2 (by omega), Option.bind_some, Bool.false_or]
  cases ha : a2.any (fun x => !decide (plainB x)) with
  | true => rfl
  | false =>
    have hall : ∀ b ∈ a2, plainB b := fun b hb => by
      have := List.any_eq_false.1 ha b hb
      simpa using this
    have hE0 : t.Edit = [] := List.eq_nil_of_length_eq_zero (by omega)
    rw [cond_false, slices_Concat_byte_eq _ (by simp) (by rw [f3]; simp; omega), Option.bind_some, f3, Type_eq _ (by simp; omega), Option.bind_some, hcat, typF_append, typF_plain a2 t hall (by omega)]
    have : typF [21] ⟨t.Lines, t.Edit ++ a2⟩ = t := by
      show typS _ 21 = t
      unfold typS keyF
      obtain ⟨L, E⟩ := t
      simp only at hE0
      subst hE0
      simp
    rw [this, same_self _ hr]; rfl

theorem last_get {l : List Int} (h : 0 < l.length) : l.getD (l.length - 1) 0 = l.getLast (List.ne_nil_of_length_pos h) := by
  rw [getD_lt _ _ (by omega), List.getLast_eq_getElem]
theorem drop32 (k : Nat) (r : List Int) : (List.replicate k (32 : Int) ++ r).dropWhile (fun x => x == 32) = r.dropWhile (fun x => x == 32) := by
  induction k with
  | zero => rfl
  | succ k ih => rw [List.replicate_succ, List.cons_append, List.dropWhile_cons_of_pos (by simp)]; exact ih
theorem dropw (w r : List Int) (h : ∀ x ∈ w, x ≠ 32) : (w ++ r).dropWhile (fun x => x != 32) = r.dropWhile (fun x => x != 32) := by
  induction w with
  | nil => rfl
  | cons a w ih => rw [List.cons_append, List.dropWhile_cons_of_pos (by simpa using h a (by simp))]; exact ih fun x hx => h x (by simp [hx])
theorem wordR_word (E w : List Int) (k : Nat) (hE : ∀ h : E ≠ [], E.getLast h = 32) (hw : w ≠ []) (hp : ∀ x ∈ w, x ≠ 32) : wordR (E ++ w ++ List.replicate k 32).reverse = E.length := by
  rw [List.reverse_append, List.reverse_append, List.reverse_replicate]
  unfold wordR wordR2
  rw [drop32]
  have hw' : w.reverse ≠ [] := by simpa using hw
  obtain ⟨x, xs, hx⟩ := List.exists_cons_of_ne_nil hw'
  have hxm : x ∈ w := by have : x ∈ w.reverse := by rw [hx]; simp
                         simpa using this
  rw [hx, List.cons_append, List.dropWhile_cons_of_neg (by simpa using hp x hxm), ← List.cons_append, ← hx, dropw _ _ (fun y hy => hp y (by simpa using hy))]
  rcases Classical.em (E = []) with rfl | hne
  · rfl
  · have hr' : E.reverse ≠ [] := by simpa using hne
    obtain ⟨y, ys, hy⟩ := List.exists_cons_of_ne_nil hr'
    have : y = 32 := by
      rw [← hE hne]
      have := List.head_reverse (l := E) hr'
      simp only [hy, List.head_cons] at this
      exact this
    rw [hy, List.dropWhile_cons_of_neg (by simp [this]), ← hy, List.length_reverse]
theorem Repeat_eq (a : Int) (h : 0 ≤ a ∧ a ≤ 9) : slices_Repeat_byte [32] a = some (List.replicate a.toNat 32) := by
  have : a = 0 ∨ a = 1 ∨ a = 2 ∨ a = 3 ∨ a = 4 ∨ a = 5 ∨ a = 6 ∨ a = 7 ∨ a = 8 ∨ a = 9 := by omega
  rcases this with rfl | rfl | rfl | rfl | rfl | rfl | rfl | rfl | rfl | rfl <;> decide +kernel

theorem TtyWord_true (a0 a1 : List Int) (a2 : Int) (h0 : a0.length * 1 ≤ 140737488351232 ∧ ∀ y ∈ a0, (0 ≤ y ∧ y ≤ 255)) (h1 : a1.length * 1 ≤ 140737488351232 ∧ ∀ y ∈ a1, (0 ≤ y ∧ y ≤ 255)) (h2 : -9223372036854775808 ≤ a2 ∧ a2 ≤ 9223372036854775807) : keep_TtyWord a0 a1 a2 = some true := by
  unfold keep_TtyWord
  have l0 := h0.1
  have l1 := h1.1
  rw [alive17_eq, Option.bind_some, Bool.not_true, cond_false, Type_eq a0 (by omega), Option.bind_some]
  have hr := typF_right a0 TZ TZ_right
  have hcat := fun r => typF_append a0 r TZ
  generalize typF a0 TZ = t at *
  have hE := hr.1
  have hw : t.Edit.length > 0 → IntKind.i64.wrap (((t.Edit.length : Nat) : Int) - 1) = ((t.Edit.length - 1 : Nat) : Int) := fun h => by rw [wrap_id (by omega) (by omega)]; omega
  rw [if_pos (fun h => by
    have := of_decide_eq_true h
    rw [hw (by omega)]; omega)]
  generalize hC : ((((((decide ((((t.Edit.length : Nat) : Int) : Int) > 0)) && (((t.Edit.getD (Int.toNat (IntKind.i64.wrap (((t.Edit.length : Nat) : Int) - 1))) 0) : Int) != 32)) || ((((a1.length : Nat) : Int) : Int) == 0)) || (decide ((a2 : Int) < 0))) || (decide ((a2 : Int) > 9))) || (decide (((IntKind.i64.wrap ((IntKind.i64.wrap (((t.Edit.length : Nat) : Int) + ((a1.length : Nat) : Int))) + a2)) : Int) > 64))) = C
  cases C with
  | true => simp
  | false =>
    have hf : ∀ x, keep_TtyWord_1 x = some ((!decide (plainB x)) || ((x : Int) == 32)) := fun x => by unfold keep_TtyWord_1; rw [plain_eq]; rfl
    rw [Bool.not_false, cond_true, slices_ContainsFunc_byte_keep_TtyWord_1_eq hf a1 (by omega), Option.bind_some, Bool.false_or]
    cases ha : a1.any (fun x => (!decide (plainB x)) || ((x : Int) == 32)) with
    | true => rfl
    | false =>
      have hall : ∀ b ∈ a1, plainB b ∧ b ≠ 32 := fun b hb => by
        have := List.any_eq_false.1 ha b hb
        simpa using this
      rw [Bool.eq_false_iff] at hC
      simp only [ne_eq, Bool.or_eq_true, Bool.and_eq_true, decide_eq_true_eq, beq_iff_eq, bne_iff_ne, not_or, not_and] at hC
      obtain ⟨⟨⟨⟨c1, c2⟩, c3⟩, c4⟩, c5⟩ := hC
      rw [wrap_id (x := ((t.Edit.length : Nat) : Int) + ((a1.length : Nat) : Int)) (by omega) (by omega), wrap_id (by omega) (by omega)] at c5
      rw [cond_false, Repeat_eq a2 (by omega), Option.bind_some]
      have f1 : [a0, a1, List.replicate a2.toNat 32, [23]].flatten = a0 ++ ((a1 ++ List.replicate a2.toNat 32) ++ [23]) := by simp
      have hpl : ∀ b ∈ a1 ++ List.replicate a2.toNat (32 : Int), plainB b := by
        intro b hb
        rcases List.mem_append.1 hb with hb | hb
        · exact (hall b hb).1
        · rw [List.eq_of_mem_replicate hb]; decide
      rw [slices_Concat_byte_eq _ (by simp) (by rw [f1]; simp; omega), Option.bind_some, f1, Type_eq _ (by simp; omega), Option.bind_some, hcat, typF_append, typF_plain _ t hpl (by simp; omega)]
      have hlast : ∀ h : t.Edit ≠ [], t.Edit.getLast h = 32 := fun h => by
        have hpos : 0 < t.Edit.length := List.length_pos_iff.2 h
        have := Classical.not_not.1 (c1 (by omega))
        rw [hw hpos, Int.toNat_natCast, last_get hpos] at this
        exact this
      have e : typF [23] ⟨t.Lines, t.Edit ++ (a1 ++ List.replicate a2.toNat 32)⟩ = t := by
        show typS _ 23 = t
        unfold typS keyF
        have := wordR_word t.Edit a1 a2.toNat hlast (fun h => c2 (by rw [h]; rfl)) (fun x hx => (hall x hx).2)
        rw [List.append_assoc] at this
        simp only [this]
        simp
      rw [e, same_self _ hr]; rfl

def readF (t : T) (m : Int) : T × List Int × Int :=
  if ¬ RightT t then (TZ, [], 1) else if m < 1 then (TZ, [], 2) else
    match t.Lines with
    | [] => (TZ, [], 7)
    | l :: r => if l.length ≤ m.toNat then (⟨r, t.Edit⟩, l, 0) else (⟨l.drop m.toNat :: r, t.Edit⟩, l.take m.toNat, 0)
theorem Read_eq (t : T) (hl : t.Lines.length ≤ 140737488355328) (m : Int) : tty_Read t m = some (readF t m) := by
  unfold tty_Read readF
  rw [Right_eq t hl, Option.bind_some]
  by_cases hr : RightT t
  · have hr' := hr
    obtain ⟨h1, h2, h3⟩ := hr'
    rw [decide_eq_true hr, if_neg (fun h => h hr), Bool.not_true, cond_false]
    by_cases hm : m < 1
    · rw [decide_eq_true hm, if_pos hm]; rfl
    rw [decide_eq_false hm, if_neg hm, cond_false, own_eq t (by omega) (fun l hl => by have := h3 l hl; omega) (by omega)]
    obtain ⟨L, E⟩ := t
    simp only at *
    cases L with
    | nil => rfl
    | cons l r =>
      have hll := h3 l (by simp)
      simp only [List.length_cons] at h2
      rw [beqF (by simp; omega), cond_false, Option.bind_some]
      simp only [Nat.add_zero, List.getD_cons_zero]
      rw [if_pos (by simp)]
      unfold bytes_Clone
      by_cases hc : l.length ≤ m.toNat
      · have hmm : (if ((l.length : Nat) : Int) < m then ((l.length : Nat) : Int) else m) = ((l.length : Nat) : Int) := by split <;> omega
        simp only [hmm]
        rw [if_pos (by omega), if_pos (by omega), if_pos (by simp; omega), Option.bind_some, beq_self_eq_true, cond_true, if_pos (by simp), if_pos hc]
        simp
      · have hmm : (if ((l.length : Nat) : Int) < m then ((l.length : Nat) : Int) else m) = m := by split <;> omega
        simp only [hmm]
        rw [if_pos (by omega), if_pos (by omega), if_pos (by simp; omega), Option.bind_some, beqF (by omega), cond_false, if_pos (by omega), if_pos (by omega), if_pos (by simp; omega), Option.bind_some, if_pos (by simp), if_neg hc]
        simp
        rw [List.take_of_length_le (by simp)]
  · rw [decide_eq_false hr, if_pos hr]; rfl
theorem readF_right (t : T) (h : RightT t) (m : Int) : RightT (readF t m).1 := by
  have h' := h
  obtain ⟨h1, h2, h3⟩ := h'
  unfold readF
  rw [if_neg (fun h' => h' h)]
  split
  · exact TZ_right
  split
  · exact TZ_right
  · rename_i l r hl
    rw [hl] at h2 h3
    simp only [List.length_cons] at h2
    split
    · exact ⟨h1, by simp only; omega, fun x hx => h3 x (by simp [hx])⟩
    · refine ⟨h1, by simp; omega, fun x hx => ?_⟩
      rcases List.mem_cons.1 hx with rfl | hx
      · have := h3 l (by simp); simp; omega
      · exact h3 x (by simp [hx])

theorem TtyReads_true (a0 : T) (a1 a2 : Int) (h0 : Ok_Api_Tty a0) (h1 : -9223372036854775808 ≤ a1 ∧ a1 ≤ 9223372036854775807) (h2 : -9223372036854775808 ≤ a2 ∧ a2 ≤ 9223372036854775807) : keep_TtyReads a0 a1 a2 = some true := by
  unfold keep_TtyReads
  have hL := h0.1.1
  rw [alive17_eq, Option.bind_some, Bool.not_true, cond_false]
  rw [if_pos (fun h => by
    simp only [Bool.not_eq_true', Bool.or_eq_false_iff, decide_eq_false_iff_not, beq_eq_false_iff_ne, ne_eq] at h
    omega)]
  generalize hC : ((((((decide ((a1 : Int) < 1)) || (decide ((a2 : Int) < 1))) || (decide ((a1 : Int) > 100))) || (decide ((a2 : Int) > 100))) || ((((a0.Lines.length : Nat) : Int) : Int) == 0)) || (decide ((a1 : Int) ≥ (((a0.Lines.getD 0 []).length : Nat) : Int)))) = C
  cases C with
  | true => rfl
  | false =>
    rw [Bool.eq_false_iff] at hC
    simp only [ne_eq, Bool.or_eq_true, decide_eq_true_eq, beq_iff_eq, not_or] at hC
    obtain ⟨⟨⟨⟨⟨c1, c2⟩, c3⟩, c4⟩, c5⟩, c6⟩ := hC
    rw [cond_false, Read_eq a0 (by omega), Option.bind_some, wrap_id (by omega) (by omega)]
    have hrl : (readF a0 a1).1.Lines.length ≤ 140737488355328 := by
      unfold readF
      repeat' split
      all_goals simp
      all_goals (rename_i hl _; rw [hl] at hL; simp only [List.length_cons] at hL; omega)
    rw [Read_eq _ hrl, Option.bind_some, Read_eq a0 (by omega), Option.bind_some]
    by_cases hr : RightT a0
    · obtain ⟨L, E⟩ := a0
      cases L with
      | nil => simp at c5
      | cons l r =>
        simp only [List.getD_cons_zero] at c6
        have hr1 := readF_right _ hr a1
        have hr2 := readF_right _ hr (a1 + a2)
        have e1 : readF ⟨l :: r, E⟩ a1 = (⟨l.drop a1.toNat :: r, E⟩, l.take a1.toNat, 0) := by
          unfold readF
          rw [if_neg (fun h => h hr), if_neg c1]
          show (if l.length ≤ a1.toNat then _ else _) = _
          rw [if_neg (by omega)]
        rw [e1] at hr1 ⊢
        simp only at hr1 ⊢
        have e2 : readF ⟨l.drop a1.toNat :: r, E⟩ a2 = ((readF ⟨l :: r, E⟩ (a1 + a2)).1, (l.drop a1.toNat).take a2.toNat, 0) ∧ (readF ⟨l :: r, E⟩ (a1 + a2)).2.2 = 0 ∧ (readF ⟨l :: r, E⟩ (a1 + a2)).2.1 = l.take (a1 + a2).toNat := by
          unfold readF
          rw [if_neg (fun h => h hr1), if_neg c2, if_neg (fun h => h hr), if_neg (show ¬ a1 + a2 < 1 by omega)]
          show (if (l.drop a1.toNat).length ≤ a2.toNat then _ else _) = ((if l.length ≤ (a1 + a2).toNat then _ else _ : T × List Int × Int).1, _, _) ∧ (if l.length ≤ (a1 + a2).toNat then _ else _ : T × List Int × Int).2.2 = 0 ∧ (if l.length ≤ (a1 + a2).toNat then _ else _ : T × List Int × Int).2.1 = _
          rw [List.length_drop]
          have ht : (a1 + a2).toNat = a1.toNat + a2.toNat := by omega
          by_cases hc : l.length ≤ (a1 + a2).toNat
          · rw [if_pos (by omega), if_pos hc]
            exact ⟨by rw [List.take_of_length_le (by simp; omega)], rfl, (List.take_of_length_le hc).symm⟩
          · rw [if_neg (by omega), if_neg hc, List.drop_drop, ht]
            exact ⟨rfl, rfl, rfl⟩
        obtain ⟨e2, e3, e4⟩ := e2
        have hll := hr.2.2 l (by simp)
        rw [e2]
        simp only [e3, show ((0 : Int) != 0) = false by decide, cond_false, beq_self_eq_true, Bool.and_self, cond_true, Bool.true_and]
        have f1 : [l.take a1.toNat, (l.drop a1.toNat).take a2.toNat].flatten = l.take (a1 + a2).toNat := by
          have ht : (a1 + a2).toNat = a1.toNat + a2.toNat := by omega
          rw [ht, List.take_add]; simp
        rw [slices_Concat_byte_eq _ (by simp) (by rw [f1]; simp; omega), Option.bind_some, f1, e4, beq_self_eq_true, cond_true, same_self _ hr2]
        rfl
    · have e1 : ∀ m, readF a0 m = (TZ, [], 1) := fun m => by unfold readF; rw [if_pos hr]
      rw [e1, e1]; rfl

def keysF (L : List (List Int)) : List Int := L.flatMap fun l => l ++ [10]
theorem keysF_len (L : List (List Int)) (h : ∀ l ∈ L, l.length ≤ 64) : (keysF L).length ≤ 65 * L.length := by
  induction L with
  | nil => simp [keysF]
  | cons l r ih =>
    have := ih fun x hx => h x (by simp [hx])
    have := h l (by simp)
    simp only [keysF, List.flatMap_cons, List.length_append, List.length_cons, List.length_nil] at *
    omega
theorem typF_lines (L : List (List Int)) : ∀ acc : List (List Int), (∀ l ∈ L, l.length ≤ 64 ∧ ∀ b ∈ l, plainB b) → acc.length + L.length ≤ 400 → typF (keysF L) ⟨acc, []⟩ = ⟨acc ++ L.map (· ++ [10]), []⟩ := by
  induction L with
  | nil => intro acc _ _; simp [keysF, typF]
  | cons l r ih =>
    intro acc h hl
    rw [List.length_cons] at hl
    obtain ⟨p1, p2⟩ := h l (by simp)
    have : keysF (l :: r) = l ++ ([10] ++ keysF r) := by simp [keysF]
    rw [this, typF_append, typF_plain l _ p2 (by simpa using p1), typF_append]
    have : typF [10] ⟨acc, [] ++ l⟩ = ⟨acc ++ [l ++ [10]], []⟩ := by
      show typS _ 10 = _
      have hk : keyF ⟨acc, [] ++ l⟩ 10 = (⟨acc ++ [l ++ [10]], []⟩, 0) := by
        unfold keyF
        rw [if_neg (by simp only; omega), if_pos rfl]
        simp
      unfold typS
      rw [hk, if_pos rfl]
    rw [this, ih _ (fun x hx => h x (by simp [hx])) (by simp; omega)]
    simp
theorem plain_l2_eq (a1 : Int) (l8 : List Int) (r18 : T) (hm : 1 ≤ a1) (hk : l8.length ≤ 10000) : ∀ n (x : Nat) (got : List Int) (L : List (List Int)), L.length ≤ 400 → (∀ l ∈ L, l.length ≤ 65 ∧ l ≠ []) → got ++ L.flatten = l8 → x + L.flatten.length ≤ l8.length → l8.length - x < n →
    keep_TtyPlain_l2 a1 l8 r18 n got (x : Int) L [] = some true := by
  intro n
  induction n with
  | zero => intro x got L _ _ _ h2 h1; omega
  | succ n ih =>
    intro x got L h1 h2 h3 h4 h5
    unfold keep_TtyPlain_l2
    have hr : RightT ⟨L, []⟩ := ⟨by simp, h1, fun l hl => (h2 l hl).1⟩
    have hd : decide ((x : Int) < IntKind.i64.wrap (((l8.length : Nat) : Int) + 1)) = true := by
      rw [wrap_id (by omega) (by omega)]; simp; omega
    rw [hd, cond_true, Read_eq _ (by simp only; omega), Option.bind_some]
    have hlen := congrArg List.length h3
    rw [List.length_append] at hlen
    cases L with
    | nil =>
      have e : readF ⟨[], []⟩ a1 = (TZ, [], 7) := by
        unfold readF
        rw [if_neg (fun h => h hr), if_neg (by omega)]
      rw [e]
      simp only [List.flatten_nil, List.append_nil] at h3
      subst h3
      simp only [beq_self_eq_true, cond_true]
      rw [same_self _ TZ_right]; rfl
    | cons l r =>
      obtain ⟨p1, p2⟩ := h2 l (by simp)
      have hpos : 0 < l.length := List.length_pos_iff.2 p2
      rw [List.flatten_cons] at h3 h4 hlen
      rw [List.length_append] at h4 hlen
      simp only [List.length_cons] at h1
      by_cases hc : l.length ≤ a1.toNat
      · have e : readF ⟨l :: r, []⟩ a1 = (⟨r, []⟩, l, 0) := by
          unfold readF
          rw [if_neg (fun h => h hr), if_neg (by omega)]
          show (if l.length ≤ a1.toNat then _ else _) = _
          rw [if_pos hc]
        rw [e]
        have b : (((0 : Int) != 0) || (decide ((((l.length : Nat) : Int) : Int) > a1))) = false := by
          rw [Bool.eq_false_iff]; simp; omega
        simp only [b, show ((0 : Int) == 7) = false by decide, cond_false]
        rw [if_pos (by omega), wrap_id (by omega) (by omega)]
        exact ih (x + 1) _ r (by omega) (fun y hy => h2 y (by simp [hy])) (by rw [List.append_assoc]; exact h3) (by omega) (by omega)
      · have e : readF ⟨l :: r, []⟩ a1 = (⟨l.drop a1.toNat :: r, []⟩, l.take a1.toNat, 0) := by
          unfold readF
          rw [if_neg (fun h => h hr), if_neg (by omega)]
          show (if l.length ≤ a1.toNat then _ else _) = _
          rw [if_neg hc]
        have hlt : (l.take a1.toNat).length = a1.toNat := by simp; omega
        rw [e]
        have b : (((0 : Int) != 0) || (decide (((((l.take a1.toNat).length : Nat) : Int) : Int) > a1))) = false := by
          rw [Bool.eq_false_iff, hlt]; simp; omega
        simp only [b, show ((0 : Int) == 7) = false by decide, cond_false]
        rw [hlt, if_pos (by omega), wrap_id (by omega) (by omega)]
        refine ih (x + 1) _ (l.drop a1.toNat :: r) (by simp; omega) (fun y hy => ?_) ?_ ?_ (by omega)
        · rcases List.mem_cons.1 hy with rfl | hy
          · exact ⟨by simp; omega, fun h => by have := congrArg List.length h; simp at this; omega⟩
          · exact h2 y (by simp [hy])
        · rw [List.flatten_cons, List.append_assoc, ← List.append_assoc (l.take _), List.take_append_drop]; exact h3
        · rw [List.flatten_cons, List.length_append, List.length_drop]; omega
theorem plain_l1_eq (L : List (List Int)) (a1 : Int) (hm : 1 ≤ a1) (hL : L.length ≤ 50) (hb : ∀ l ∈ L, l.length ≤ 140737488355328) : ∀ n k, k ≤ L.length → L.length - k < n → (∀ l ∈ L.take k, l.length ≤ 64 ∧ ∀ b ∈ l, plainB b) →
    keep_TtyPlain_l1 L a1 n (keysF (L.take k)) k = some true := by
  intro n
  induction n with
  | zero => intro k h1 h2; omega
  | succ n ih =>
    intro k h1 h2 h3
    unfold keep_TtyPlain_l1
    rcases Nat.lt_or_ge k L.length with hlt | hge
    · simp only [dec_lt hlt, cond_true, getD_lt _ _ hlt]
      have hbl := hb L[k] (List.getElem_mem _)
      by_cases h64 : L[k].length > 64
      · have : decide ((((L[k].length : Nat) : Int) : Int) > 64) = true := by simp; omega
        rw [this]; rfl
      · have : decide ((((L[k].length : Nat) : Int) : Int) > 64) = false := by simp; omega
        have hf : ∀ x, keep_TtyPlain_1 x = some (!decide (plainB x)) := fun x => by unfold keep_TtyPlain_1; rw [plain_eq]; rfl
        rw [this, Bool.not_false, cond_true, slices_ContainsFunc_byte_keep_TtyPlain_1_eq hf _ hbl, Option.bind_some, Bool.false_or]
        cases ha : L[k].any (fun x => !decide (plainB x)) with
        | true => rfl
        | false =>
          have hall : ∀ b ∈ L[k], plainB b := fun b hb => by
            have := List.any_eq_false.1 ha b hb
            simpa using this
          have hkl := keysF_len (L.take k) (fun l hl => (h3 l hl).1)
          rw [List.length_take] at hkl
          rw [cond_false, if_pos (by omega), if_pos (by simp; omega)]
          have e : keysF (L.take k) ++ L[k] ++ [10] = keysF (L.take (k + 1)) := by
            rw [List.take_succ_eq_append_getElem hlt]
            simp only [keysF, List.flatMap_append, List.flatMap_cons, List.flatMap_nil, List.append_nil, List.append_assoc]
          rw [e]
          refine ih (k + 1) (by omega) (by omega) fun l hl => ?_
          rw [List.take_succ_eq_append_getElem hlt] at hl
          rcases List.mem_append.1 hl with hl | hl
          · exact h3 l hl
          · rw [List.mem_singleton] at hl
            rw [hl]
            exact ⟨by omega, hall⟩
    · rw [dec_ge hge, cond_false]
      rw [List.take_of_length_le hge] at h3 ⊢
      have hkl := keysF_len L (fun l hl => (h3 l hl).1)
      rw [Type_eq _ (by omega), Option.bind_some, typF_lines L [] h3 (by simp; omega)]
      simp only [List.nil_append]
      have hfl : (L.map (· ++ [(10 : Int)])).flatten = keysF L := by simp [keysF, List.flatMap]
      refine plain_l2_eq a1 _ _ hm (by omega) FUEL 0 [] _ (by simp; omega) (fun l hl => ?_) (by rw [List.nil_append, hfl]) (by rw [hfl]; omega) (fuel_gt (by omega))
      obtain ⟨x, hx, rfl⟩ := List.mem_map.1 hl
      exact ⟨by have := (h3 x hx).1; simp; omega, by simp⟩
theorem TtyPlain_true (a0 : List (List Int)) (a1 : Int) (h0 : a0.length * 24 ≤ 140737488351232 ∧ ∀ y ∈ a0, (y.length * 1 ≤ 140737488351232 ∧ ∀ z ∈ y, (0 ≤ z ∧ z ≤ 255))) (h1 : -9223372036854775808 ≤ a1 ∧ a1 ≤ 9223372036854775807) : keep_TtyPlain a0 a1 = some true := by
  unfold keep_TtyPlain
  rw [alive17_eq, Option.bind_some, Bool.not_true, cond_false]
  by_cases hc : a1 < 1 ∨ a0.length > 50
  · have : ((decide ((a1 : Int) < 1)) || (decide ((((a0.length : Nat) : Int) : Int) > 50))) = true := by
      simp only [Bool.or_eq_true, decide_eq_true_eq]; omega
    rw [this]; rfl
  · have : ((decide ((a1 : Int) < 1)) || (decide ((((a0.length : Nat) : Int) : Int) > 50))) = false := by
      rw [Bool.eq_false_iff]; simp only [ne_eq, Bool.or_eq_true, decide_eq_true_eq]; omega
    rw [this, cond_false]
    exact plain_l1_eq a0 a1 (by omega) (by omega) (fun l hl => by have := (h0.2 l hl).1; omega) FUEL 0 (by omega) (fuel_gt (by omega)) (by simp)
end Go.Proofs.Ytpkgaagajbfgbaa
