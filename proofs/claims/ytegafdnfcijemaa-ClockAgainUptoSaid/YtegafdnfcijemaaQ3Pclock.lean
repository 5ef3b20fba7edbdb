/- Plain laws of clock. -/
import Derived.Test.YtegafdnfcijemaaQ3M
import Derived.Test.YtegafdnfcijemaaPLib
set_option linter.unusedSimpArgs false
set_option linter.unusedVariables false
namespace Go.Proofs.Ytegafdnfcijemaa
open Go Go.Ab

theorem alive23_eq : keep_alive23 = some true := by decide +kernel
def nx (at_ r : Int) : Int := at_ + (r - at_ % 65536 + 65536) % 65536
def extF (at_ : Int) : List Int → List Int
  | [] => []
  | r :: rs => nx at_ r :: extF (nx at_ r) rs
def lastF (at_ : Int) (rs : List Int) : Int := rs.foldl nx at_
theorem extF_len (rs : List Int) : ∀ x, (extF x rs).length = rs.length := by
  induction rs with
  | nil => intro x; rfl
  | cons r rs ih => intro x; simp [extF, ih]
theorem extF_snoc (r : Int) (rs : List Int) : ∀ x, extF x (rs ++ [r]) = extF x rs ++ [nx (lastF x rs) r] := by
  induction rs with
  | nil => intro x; rfl
  | cons q rs ih => intro x; simp [extF, lastF, ih]
theorem lastF_snoc (r : Int) (rs : List Int) (x : Int) : lastF x (rs ++ [r]) = nx (lastF x rs) r := by simp [lastF]
def valid (r : Int) : Bool := decide (0 ≤ r) && decide (r < 65536)
theorem nx_eq {x r : Int} (h0 : 0 ≤ x) (h1 : x ≤ 9223372036854710000) (hr : valid r = true) : IntKind.i64.wrap (x + Int.tmod (IntKind.i64.wrap (IntKind.i64.wrap (r - Int.tmod x 65536) + 65536)) 65536) = nx x r ∧ 0 ≤ nx x r ∧ nx x r ≤ x + 65535 := by
  simp only [valid, Bool.and_eq_true, decide_eq_true_eq] at hr
  rw [Int.tmod_eq_emod_of_nonneg h0, wrap_id (x := r - x % 65536) (by omega) (by omega), wrap_id (x := r - x % 65536 + 65536) (by omega) (by omega), Int.tmod_eq_emod_of_nonneg (by omega), wrap_id (by omega) (by omega)]
  unfold nx
  exact ⟨rfl, by omega, by omega⟩
theorem ext_l1 (rs : List Int) (hn : rs.length ≤ 17592186044416) : ∀ n out x k, 1 ≤ k → k ≤ rs.length → rs.length - k < n → out.length = k → 0 ≤ x → x ≤ 65536 * (k : Int) →
    clock_Extend_l1 rs n out x k = some (if (rs.drop k).all valid then (out ++ extF x (rs.drop k), 0) else ([], 2)) := by
  intro n
  induction n with
  | zero => intro out x k h1 hk h; omega
  | succ n ih =>
    intro out x k h1 hk h ho hx0 hx1
    unfold clock_Extend_l1
    rcases Nat.lt_or_ge k rs.length with hlt | hge
    · rw [dec_lt hlt, cond_true, List.drop_eq_getElem_cons hlt, getD_lt _ _ hlt]
      cases hv : valid rs[k] with
      | false =>
        have : (decide (rs[k] < 0) || decide (rs[k] ≥ 65536)) = true := by simp [valid] at hv ⊢; omega
        rw [this, List.all_cons, hv]
        rfl
      | true =>
        have hb : (decide (rs[k] < 0) || decide (rs[k] ≥ 65536)) = false := by simp [valid] at hv ⊢; omega
        have hk0 : (((k : Nat) : Int) == 0) = false := by simp; omega
        obtain ⟨e, n0, n1⟩ := nx_eq (x := x) (r := rs[k]) hx0 (by omega) hv
        rw [hb, cond_false, hk0, cond_false, e, if_pos (by simp; omega), ih _ _ _ (by omega) (by omega) (by omega) (by simp; omega) n0 (by omega), List.all_cons, hv, Bool.true_and, extF, List.append_assoc]
        rfl
    · rw [dec_ge hge, cond_false, List.drop_of_length_le hge]; simp [extF]
def extend : List Int → List Int
  | [] => []
  | r :: rs => r :: extF r rs
theorem Extend_eq (rs : List Int) (hn : rs.length ≤ 17592186044416) : clock_Extend rs = some (if rs.all valid then (extend rs, 0) else ([], 2)) := by
  unfold clock_Extend
  cases rs with
  | nil => decide +kernel
  | cons r rs =>
    have : FUEL = 999999999999999 + 1 := rfl
    rw [this]
    unfold clock_Extend_l1
    have hlt : 0 < (r :: rs).length := by simp
    rw [dec_lt hlt, cond_true]
    have e0 : (r :: rs).getD 0 0 = r := rfl
    rw [e0]
    cases hv : valid r with
    | false =>
      have : (decide (r < 0) || decide (r ≥ 65536)) = true := by simp [valid] at hv ⊢; omega
      rw [this]
      simp [hv]
    | true =>
      have hb : (decide (r < 0) || decide (r ≥ 65536)) = false := by simp [valid] at hv ⊢; omega
      rw [hb, cond_false]
      have hv' := hv
      simp only [valid, Bool.and_eq_true, decide_eq_true_eq] at hv'
      have hk0 : (((0 : Nat) : Int) == 0) = true := rfl
      rw [hk0, cond_true, if_pos (by simp), ext_l1 (r :: rs) hn _ _ _ _ (by omega) (by simp) (by simp at hn ⊢; omega) (by simp) (by omega) (by omega)]
      simp [hv, extend]
def dbl (xs : List Int) : List Int := xs.flatMap fun r => [r, r]
theorem dbl_cons (r : Int) (xs : List Int) : dbl (r :: xs) = r :: r :: dbl xs := by simp [dbl]
theorem dbl_snoc (r : Int) (xs : List Int) : dbl (xs ++ [r]) = dbl xs ++ [r, r] := by simp [dbl]
theorem dbl_len (xs : List Int) : (dbl xs).length = 2 * xs.length := by
  induction xs with
  | nil => rfl
  | cons r xs ih => rw [dbl_cons]; simp [ih]; omega
theorem dbl_all (xs : List Int) : (dbl xs).all valid = xs.all valid := by
  induction xs with
  | nil => rfl
  | cons r xs ih => rw [dbl_cons]; simp only [List.all_cons, ih]; cases valid r <;> simp
theorem dbl_get (xs : List Int) : ∀ k, k < xs.length → (dbl xs).getD (2 * k) 0 = xs.getD k 0 ∧ (dbl xs).getD (2 * k + 1) 0 = xs.getD k 0 := by
  induction xs with
  | nil => intro k h; simp at h
  | cons r xs ih =>
    intro k h
    rw [dbl_cons]
    cases k with
    | zero => exact ⟨rfl, rfl⟩
    | succ k =>
      have := ih k (by simpa using h)
      rw [show 2 * (k + 1) = 2 * k + 1 + 1 by omega]
      simpa only [List.getD_cons_succ] using this
theorem nx_mod {x r : Int} (h0 : 0 ≤ x) (hr : valid r = true) : nx x r % 65536 = r ∧ x ≤ nx x r ∧ nx x r ≤ x + 65535 := by
  simp only [valid, Bool.and_eq_true, decide_eq_true_eq] at hr
  unfold nx
  omega
theorem nx_same {x r : Int} (h0 : 0 ≤ x) (hr : valid r = true) (h : x % 65536 = r) : nx x r = x := by
  simp only [valid, Bool.and_eq_true, decide_eq_true_eq] at hr
  unfold nx
  omega
theorem extF_dbl (xs : List Int) : ∀ x, 0 ≤ x → xs.all valid = true → extF x (dbl xs) = dbl (extF x xs) := by
  induction xs with
  | nil => intro x _ _; rfl
  | cons r xs ih =>
    intro x h0 hv
    simp only [List.all_cons, Bool.and_eq_true] at hv
    obtain ⟨h1, h2, h3⟩ := nx_mod h0 hv.1
    rw [dbl_cons]
    simp only [extF]
    rw [dbl_cons, nx_same (by omega) hv.1 h1, ih _ (by omega) hv.2]
theorem extend_dbl (xs : List Int) (hv : xs.all valid = true) : extend (dbl xs) = dbl (extend xs) := by
  cases xs with
  | nil => rfl
  | cons r xs =>
    simp only [List.all_cons, Bool.and_eq_true] at hv
    have hr := hv.1
    simp only [valid, Bool.and_eq_true, decide_eq_true_eq] at hr
    rw [dbl_cons]
    simp only [extend, extF]
    rw [dbl_cons, nx_same (by omega) hv.1 (by omega), extF_dbl _ _ (by omega) hv.2]
theorem ext_props (rs : List Int) : ∀ x, 0 ≤ x → rs.all valid = true → ∀ k, k < rs.length →
    0 ≤ (x :: extF x rs).getD k 0 ∧ (x :: extF x rs).getD (k + 1) 0 % 65536 = rs.getD k 0 ∧ (x :: extF x rs).getD k 0 ≤ (x :: extF x rs).getD (k + 1) 0 ∧ (x :: extF x rs).getD (k + 1) 0 ≤ (x :: extF x rs).getD k 0 + 65535 := by
  induction rs with
  | nil => intro x _ _ k h; simp at h
  | cons r rs ih =>
    intro x h0 hv k h
    simp only [List.all_cons, Bool.and_eq_true] at hv
    obtain ⟨h1, h2, h3⟩ := nx_mod h0 hv.1
    cases k with
    | zero => simp only [extF, List.getD_cons_succ, List.getD_cons_zero]; exact ⟨h0, h1, h2, h3⟩
    | succ k =>
      have := ih (nx x r) (by omega) hv.2 k (by simpa using h)
      simp only [extF, List.getD_cons_succ] at this ⊢
      exact this
theorem extend_props (rs : List Int) (hv : rs.all valid = true) (k : Nat) (h : k < rs.length) :
    0 ≤ (extend rs).getD k 0 ∧ (extend rs).getD k 0 % 65536 = rs.getD k 0 ∧ (0 < k → (extend rs).getD (k - 1) 0 ≤ (extend rs).getD k 0 ∧ (extend rs).getD k 0 ≤ (extend rs).getD (k - 1) 0 + 65535) := by
  cases rs with
  | nil => simp at h
  | cons r rs =>
    simp only [List.all_cons, Bool.and_eq_true] at hv
    have hr := hv.1
    simp only [valid, Bool.and_eq_true, decide_eq_true_eq] at hr
    simp only [extend]
    cases k with
    | zero => simp only [List.getD_cons_zero]; exact ⟨hr.1, by omega, fun h => absurd h (by omega)⟩
    | succ k =>
      have := ext_props rs r hr.1 hv.2 k (by simpa using h)
      rw [Nat.add_sub_cancel]
      refine ⟨by omega, ?_, fun _ => ⟨this.2.2.1, this.2.2.2⟩⟩
      rw [this.2.1]; rfl
theorem extend_len (rs : List Int) : (extend rs).length = rs.length := by
  cases rs with
  | nil => rfl
  | cons r rs => simp [extend, extF_len]
theorem again_l2 (rs : List Int) (hn : rs.length ≤ 1048576) (hv : rs.all valid = true) (r1 : Bool) (l4 : List Int) (k5 : Nat) : ∀ n k, k ≤ rs.length → rs.length - k < n → keep_ClockAgain_l2 rs r1 l4 k5 (extend rs, 0) (dbl (extend rs), 0) n k = some true := by
  intro n
  induction n with
  | zero => intro k hk h; omega
  | succ n ih =>
    intro k hk h
    unfold keep_ClockAgain_l2
    have hel : (extend rs).length = rs.length := extend_len rs
    have hdl : (dbl (extend rs)).length = 2 * rs.length := by rw [dbl_len, hel]
    rcases Nat.lt_or_ge k rs.length with hlt | hge
    · obtain ⟨p0, p1, p2⟩ := extend_props rs hv k hlt
      obtain ⟨d1, d2⟩ := dbl_get (extend rs) k (by omega)
      have w1 : IntKind.i64.wrap (2 * ((k : Nat) : Int)) = ((2 * k : Nat) : Int) := by rw [wrap_id (by omega) (by omega)]; omega
      have w2 : IntKind.i64.wrap (((2 * k : Nat) : Int) + 1) = ((2 * k + 1 : Nat) : Int) := by rw [wrap_id (by omega) (by omega)]; omega
      have hc : decide ((((k : Nat) : Int) : Int) < (((extend rs).length : Nat) : Int)) = true := by simp; omega
      simp only [hc, cond_true, w1, w2, Int.toNat_natCast, Nat.zero_add, d1, d2, bne_self_eq_false, Int.tmod_eq_emod_of_nonneg p0, p1, Bool.false_or, Bool.not_false, Bool.true_and]
      rw [if_pos (by omega), if_pos (fun _ => by rw [hdl]; omega), if_pos (fun _ => by rw [hdl]; omega)]
      rcases Nat.eq_zero_or_pos k with rfl | hpos
      · have hz : decide (((0 : Nat) : Int) > 0) = false := by decide
        rw [if_pos (by rw [hz]; simp), if_pos (by rw [hz]; simp)]
        simp only [hz, Bool.false_and, cond_false]
        exact ih _ (by omega) (by omega)
      · have w3 : IntKind.i64.wrap (((k : Nat) : Int) - 1) = ((k - 1 : Nat) : Int) := by rw [wrap_id (by omega) (by omega)]; omega
        obtain ⟨q1, q2⟩ := p2 hpos
        have hx : decide ((extend rs).getD k 0 < (extend rs).getD (k - 1) 0) = false := by simp only [decide_eq_false_iff_not]; omega
        have hy : decide (IntKind.i64.wrap ((extend rs).getD k 0 - (extend rs).getD (k - 1) 0) > 65535) = false := by
          rw [wrap_id (by omega) (by omega)]; simp only [decide_eq_false_iff_not]; omega
        simp only [w3, Int.toNat_natCast]
        rw [if_pos (fun _ => by omega), if_pos (fun _ => by omega), hx, hy]
        simp only [Bool.or_self, Bool.and_false, cond_false]
        exact ih _ (by omega) (by omega)
    · have hc : decide ((((k : Nat) : Int) : Int) < (((extend rs).length : Nat) : Int)) = false := by simp; omega
      simp only [hc, cond_false]
theorem again_l1 (rs : List Int) (hn : rs.length ≤ 1048576) (r1 : Bool) : ∀ n l k, k ≤ rs.length → rs.length - k < n → l = dbl (rs.take k) → keep_ClockAgain_l1 rs r1 n l k = some true := by
  intro n
  induction n with
  | zero => intro l k hk h; omega
  | succ n ih =>
    intro l k hk h hl
    unfold keep_ClockAgain_l1
    have hll : l.length = 2 * k := by rw [hl, dbl_len, List.length_take]; omega
    rcases Nat.lt_or_ge k rs.length with hlt | hge
    · rw [dec_lt hlt, cond_true, if_pos (by simp; omega)]
      refine ih _ _ (by omega) (by omega) ?_
      rw [hl, List.take_succ_eq_append_getElem hlt, dbl_snoc, getD_lt _ _ hlt]
    · rw [dec_ge hge, cond_false]
      rw [List.take_of_length_le hge] at hl
      subst hl
      rw [Extend_eq _ (by omega), Extend_eq _ (by rw [dbl_len]; omega), dbl_all]
      cases hv : rs.all valid with
      | false => rfl
      | true =>
        simp only [if_true, Option.bind_some, extend_dbl rs hv, extend_len, dbl_len, bne_self_eq_false, cond_false, Bool.or_self]
        exact again_l2 rs hn hv _ _ _ _ _ (by omega) (fuel_gt (by omega))
theorem ClockAgain_trueU (rs : List Int) (h : rs.length ≤ 1048576 ∧ ∀ y ∈ rs, (-9223372036854775808 ≤ y ∧ y ≤ 9223372036854775807)) : keep_ClockAgain rs = some true := by
  unfold keep_ClockAgain
  rw [alive23_eq, Option.bind_some]
  simp only [Bool.not_true, cond_false]
  exact again_l1 rs h.1 _ _ _ _ (by omega) (fuel_gt (by omega)) rfl
end Go.Proofs.Ytegafdnfcijemaa
