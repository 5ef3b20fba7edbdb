/- Plain laws of clock. -/
import Derived.Test.YtegafdnfcijemaaQ1M
import Derived.Test.YtegafdnfcijemaaPLib
set_option linter.unusedSimpArgs false
set_option linter.unusedVariables false
namespace Go.Proofs.Ytegafdnfcijemaa
open Go Go.Ab

theorem alive23_eq : keep_alive23 = some true := by decide +kernel
def okR (r : Api_Rate) : Prop := 1 ≤ r.Num ∧ r.Num ≤ 1048576 ∧ 1 ≤ r.Den ∧ r.Den ≤ 1048576
instance (r : Api_Rate) : Decidable (okR r) := by unfold okR; infer_instance
theorem Wrong_ok {r : Api_Rate} (h : okR r) : clock_Wrong r = some 0 := by
  unfold clock_Wrong
  unfold okR at h
  simp only [Bool.cond_eq_ite, Bool.or_eq_true, decide_eq_true_eq]
  rw [if_neg (by omega)]
theorem Wrong_no {r : Api_Rate} (h : ¬ okR r) : clock_Wrong r = some 2 := by
  unfold clock_Wrong
  unfold okR at h
  simp only [Bool.cond_eq_ite, Bool.or_eq_true, decide_eq_true_eq]
  rw [if_pos (by omega)]
theorem div_split (t n d : Int) (hd : 0 < d) : t / d * n + t % d * n / d = t * n / d := by
  have e : t * n = t % d * n + t / d * n * d := by
    have := Int.emod_add_mul_ediv t d
    calc t * n = (t % d + d * (t / d)) * n := by rw [this]
      _ = t % d * n + t / d * n * d := by rw [Int.add_mul, Int.mul_comm d, Int.mul_assoc, Int.mul_assoc, Int.mul_comm d n]
  rw [e, Int.add_mul_ediv_right _ _ (by omega)]
  omega
theorem Scale_no {r : Api_Rate} {t : Int} (h : ¬ (okR r ∧ 0 ≤ t ∧ t ≤ 1099511627776)) : clock_Scale r t = some (0, 2) := by
  unfold clock_Scale
  have e : (⟨r.Num, r.Den⟩ : Api_Rate) = r := rfl
  by_cases hr : okR r
  · have h' : ¬ (0 ≤ t ∧ t ≤ 1099511627776) := fun h2 => h ⟨hr, h2⟩
    rw [e, Wrong_ok hr, Option.bind_some]
    simp only [Bool.cond_eq_ite, Bool.or_eq_true, decide_eq_true_eq, bne_iff_ne]
    rw [if_pos (by omega)]
  · rw [e, Wrong_no hr, Option.bind_some]
    rfl
theorem Scale_ok {r : Api_Rate} {t : Int} (hr : okR r) (h0 : 0 ≤ t) (h1 : t ≤ 1099511627776) : clock_Scale r t = some (t * r.Num / r.Den, 0) := by
  unfold clock_Scale
  have e : (⟨r.Num, r.Den⟩ : Api_Rate) = r := rfl
  rw [e, Wrong_ok hr, Option.bind_some]
  simp only [Bool.cond_eq_ite, Bool.or_eq_true, decide_eq_true_eq, bne_iff_ne]
  have hr' := hr
  unfold okR at hr'
  obtain ⟨n1, n2, d1, d2⟩ := hr'
  have hd0 : r.Den ≠ 0 := by omega
  have q0 : 0 ≤ t / r.Den := Int.ediv_nonneg h0 (by omega)
  have q1 : t / r.Den ≤ t := Int.ediv_le_self _ h0
  have m0 : 0 ≤ t % r.Den := Int.emod_nonneg _ hd0
  have m1 : t % r.Den < r.Den := Int.emod_lt_of_pos _ (by omega)
  have p0 : 0 ≤ t / r.Den * r.Num := Int.mul_nonneg q0 (by omega)
  have p1 : t / r.Den * r.Num ≤ 1099511627776 * 1048576 := Int.mul_le_mul (by omega) n2 (by omega) (by omega)
  have s0 : 0 ≤ t % r.Den * r.Num := Int.mul_nonneg m0 (by omega)
  have s1 : t % r.Den * r.Num ≤ 1048576 * 1048576 := Int.mul_le_mul (by omega) n2 (by omega) (by omega)
  have u0 : 0 ≤ t % r.Den * r.Num / r.Den := Int.ediv_nonneg s0 (by omega)
  have u1 : t % r.Den * r.Num / r.Den ≤ t % r.Den * r.Num := Int.ediv_le_self _ s0
  rw [if_neg (by omega)]
  simp only [hd0, ne_eq, not_false_eq_true, if_true]
  rw [Int.tdiv_eq_ediv_of_nonneg h0, Int.tmod_eq_emod_of_nonneg h0, wrap_id (x := t / r.Den) (by omega) (by omega), wrap_id (x := t / r.Den * r.Num) (by omega) (by omega), wrap_id (x := t % r.Den * r.Num) (by omega) (by omega), Int.tdiv_eq_ediv_of_nonneg s0,
    wrap_id (x := t % r.Den * r.Num / r.Den) (by omega) (by omega), wrap_id (by omega) (by omega), div_split _ _ _ (by omega)]
theorem ClockRises_true (r : Api_Rate) (a b : Int) (hr : Ok_Api_Rate r) (ha : (-9223372036854775808 ≤ a ∧ a ≤ 9223372036854775807)) (hb : (-9223372036854775808 ≤ b ∧ b ≤ 9223372036854775807)) : keep_ClockRises r a b = some true := by
  unfold keep_ClockRises
  rw [alive23_eq, Option.bind_some]
  have e : (⟨r.Num, r.Den⟩ : Api_Rate) = r := rfl
  rw [e, Bool.not_true, cond_false]
  by_cases h : ((a < 0 ∨ b < 0) ∨ a > 549755813888) ∨ b > 549755813888
  · have : (((decide (a < 0) || decide (b < 0)) || decide (a > 549755813888)) || decide (b > 549755813888)) = true := by simpa using h
    rw [this]; rfl
  · have : (((decide (a < 0) || decide (b < 0)) || decide (a > 549755813888)) || decide (b > 549755813888)) = false := by simp; omega
    rw [this, cond_false]
    have h0 : 0 ≤ a ∧ 0 ≤ b ∧ a ≤ 549755813888 ∧ b ≤ 549755813888 := by omega
    rw [wrap_id (x := a + b) (by omega) (by omega)]
    by_cases hr : okR r
    · rw [Scale_ok hr (by omega) (by omega), Scale_ok hr (by omega) (by omega), Scale_ok hr (by omega) (by omega), Option.bind_some, Option.bind_some, Option.bind_some]
      unfold okR at hr
      obtain ⟨n1, n2, d1, d2⟩ := hr
      have ha' : a * r.Num / r.Den * r.Den ≤ a * r.Num := Int.ediv_mul_le _ (by omega)
      have ha2 : a * r.Num < (a * r.Num / r.Den + 1) * r.Den := Int.lt_ediv_add_one_mul_self _ (by omega)
      have hb' : b * r.Num / r.Den * r.Den ≤ b * r.Num := Int.ediv_mul_le _ (by omega)
      have hb2 : b * r.Num < (b * r.Num / r.Den + 1) * r.Den := Int.lt_ediv_add_one_mul_self _ (by omega)
      have e1 : (a + b) * r.Num = a * r.Num + b * r.Num := Int.add_mul ..
      have y0 : 0 ≤ b * r.Num / r.Den := Int.ediv_nonneg (Int.mul_nonneg (by omega) (by omega)) (by omega)
      have pa0 : 0 ≤ a * r.Num := Int.mul_nonneg (by omega) (by omega)
      have pb0 : 0 ≤ b * r.Num := Int.mul_nonneg (by omega) (by omega)
      have pa : a * r.Num ≤ 549755813888 * 1048576 := Int.mul_le_mul (by omega) n2 (by omega) (by omega)
      have pb : b * r.Num ≤ 549755813888 * 1048576 := Int.mul_le_mul (by omega) n2 (by omega) (by omega)
      have x0 : 0 ≤ a * r.Num / r.Den := Int.ediv_nonneg pa0 (by omega)
      have x1 : a * r.Num / r.Den ≤ a * r.Num := Int.ediv_le_self _ pa0
      have y1 : b * r.Num / r.Den ≤ b * r.Num := Int.ediv_le_self _ pb0
      have z1 : a * r.Num / r.Den + b * r.Num / r.Den ≤ (a + b) * r.Num / r.Den := by
        rw [Int.le_ediv_iff_mul_le (by omega), e1, Int.add_mul]; omega
      have z2 : (a + b) * r.Num / r.Den < a * r.Num / r.Den + b * r.Num / r.Den + 2 := by
        rw [Int.ediv_lt_iff_lt_mul (by omega), e1]
        rw [Int.add_mul, Int.one_mul] at ha2 hb2
        rw [Int.add_mul, Int.add_mul]
        omega
      simp only [wrap_id (x := a * r.Num / r.Den + b * r.Num / r.Den) (by omega) (by omega), wrap_id (x := a * r.Num / r.Den + b * r.Num / r.Den + 1) (by omega) (by omega)]
      simp
      omega
    · rw [Scale_no (fun h => hr h.1), Scale_no (fun h => hr h.1), Scale_no (fun h => hr h.1)]
      rfl
theorem ClockBack_true (r : Api_Rate) (u : Int) (hr : Ok_Api_Rate r) (hu : (-9223372036854775808 ≤ u ∧ u ≤ 9223372036854775807)) : keep_ClockBack r u = some true := by
  unfold keep_ClockBack clock_Ticks
  have e : (⟨r.Num, r.Den⟩ : Api_Rate) = r := rfl
  rw [alive23_eq, Option.bind_some, Bool.not_true, cond_false, e]
  by_cases h : okR r ∧ 0 ≤ u ∧ u ≤ 1099511627776
  · obtain ⟨hr, h0, h1⟩ := h
    rw [Wrong_ok hr, Option.bind_some]
    have hc : ((((0 : Int) != 0) || decide (u < 0)) || decide (u > 1099511627776)) = false := by simp; omega
    rw [hc, cond_false]
    have hr' := hr
    unfold okR at hr'
    obtain ⟨n1, n2, d1, d2⟩ := hr'
    have hd0 : r.Num ≠ 0 := by omega
    have q0 : 0 ≤ u / r.Num := Int.ediv_nonneg h0 (by omega)
    have q1 : u / r.Num ≤ u := Int.ediv_le_self _ h0
    have m0 : 0 ≤ u % r.Num := Int.emod_nonneg _ hd0
    have m1 : u % r.Num < r.Num := Int.emod_lt_of_pos _ (by omega)
    have p0 : 0 ≤ u / r.Num * r.Den := Int.mul_nonneg q0 (by omega)
    have p1 : u / r.Num * r.Den ≤ 1099511627776 * 1048576 := Int.mul_le_mul (by omega) d2 (by omega) (by omega)
    have s0 : 0 ≤ u % r.Num * r.Den := Int.mul_nonneg m0 (by omega)
    have s1 : u % r.Num * r.Den ≤ 1048576 * 1048576 := Int.mul_le_mul (by omega) d2 (by omega) (by omega)
    have u0 : 0 ≤ (u % r.Num * r.Den + r.Num - 1) / r.Num := Int.ediv_nonneg (by omega) (by omega)
    have u1 : (u % r.Num * r.Den + r.Num - 1) / r.Num ≤ u % r.Num * r.Den + r.Num - 1 := Int.ediv_le_self _ (by omega)
    simp only [hd0, ne_eq, not_false_eq_true, if_true, Option.bind_some]
    rw [Int.tdiv_eq_ediv_of_nonneg h0, Int.tmod_eq_emod_of_nonneg h0, wrap_id (x := u / r.Num) (by omega) (by omega), wrap_id (x := u / r.Num * r.Den) (by omega) (by omega), wrap_id (x := u % r.Num * r.Den) (by omega) (by omega), wrap_id (x := u % r.Num * r.Den + r.Num) (by omega) (by omega),
      wrap_id (x := u % r.Num * r.Den + r.Num - 1) (by omega) (by omega), Int.tdiv_eq_ediv_of_nonneg (by omega), wrap_id (x := (u % r.Num * r.Den + r.Num - 1) / r.Num) (by omega) (by omega), wrap_id (by omega) (by omega)]
    generalize hn : u / r.Num * r.Den + (u % r.Num * r.Den + r.Num - 1) / r.Num = n
    -- n is the least number with n * Num at least u * Den
    have e1 : u * r.Den = u % r.Num * r.Den + u / r.Num * r.Den * r.Num := by
      have := Int.emod_add_mul_ediv u r.Num
      calc u * r.Den = (u % r.Num + r.Num * (u / r.Num)) * r.Den := by rw [this]
        _ = _ := by rw [Int.add_mul, Int.mul_comm r.Num, Int.mul_assoc, Int.mul_assoc, Int.mul_comm r.Num r.Den]
    have c1 : (u % r.Num * r.Den + r.Num - 1) / r.Num * r.Num ≤ u % r.Num * r.Den + r.Num - 1 := Int.ediv_mul_le _ (by omega)
    have c2 : u % r.Num * r.Den + r.Num - 1 < ((u % r.Num * r.Den + r.Num - 1) / r.Num + 1) * r.Num := Int.lt_ediv_add_one_mul_self _ (by omega)
    have en : n * r.Num = u / r.Num * r.Den * r.Num + (u % r.Num * r.Den + r.Num - 1) / r.Num * r.Num := by rw [← hn, Int.add_mul]
    rw [Int.add_mul, Int.one_mul] at c2
    have lo : u * r.Den ≤ n * r.Num := by omega
    have hi : (n - 1) * r.Num < u * r.Den := by rw [Int.sub_mul, Int.one_mul]; omega
    have hn0 : 0 ≤ n := by omega
    by_cases hle : n ≤ 1099511627776
    · have hc2 : (((0 : Int) != 0) || decide (n > 1099511627776)) = false := by simp; omega
      rw [hc2, cond_false, wrap_id (x := n - 1) (by omega) (by omega), Scale_ok hr hn0 hle, Option.bind_some]
      have g1 : u ≤ n * r.Num / r.Den := by rw [Int.le_ediv_iff_mul_le (by omega)]; exact lo
      by_cases hz : n = 0
      · subst hz
        rw [Scale_no (by omega)]
        simp at g1 ⊢
        omega
      · rw [Scale_ok hr (by omega) (by omega)]
        have g2 : (n - 1) * r.Num / r.Den < u := by rw [Int.ediv_lt_iff_lt_mul (by omega)]; exact hi
        simp
        omega
    · have hc2 : (((0 : Int) != 0) || decide (n > 1099511627776)) = true := by simp; omega
      rw [hc2]; rfl
  · by_cases hr : okR r
    · have h' : ¬ (0 ≤ u ∧ u ≤ 1099511627776) := fun h2 => h ⟨hr, h2⟩
      rw [Wrong_ok hr, Option.bind_some]
      have hc : ((((0 : Int) != 0) || decide (u < 0)) || decide (u > 1099511627776)) = true := by simp; omega
      rw [hc]; rfl
    · rw [Wrong_no hr]; rfl

theorem Equal_l1_eq (a b : List Int) (hl : a.length = b.length) : ∀ n k, k ≤ a.length → a.length - k < n → slices_Equal_int_l1 a b n k = some (decide (a.drop k = b.drop k)) := by
  intro n
  induction n with
  | zero => intro k hk h; omega
  | succ n ih =>
    intro k hk h
    unfold slices_Equal_int_l1
    rcases Nat.lt_or_ge k a.length with hlt | hge
    · have hlt2 : k < b.length := by omega
      rw [dec_lt hlt, cond_true, if_pos (idx_ok hlt2), getD_lt _ _ hlt, getD_lt _ _ hlt2, ih _ (by omega) (by omega), List.drop_eq_getElem_cons hlt, List.drop_eq_getElem_cons hlt2]
      simp only [Bool.cond_eq_ite, bne_iff_ne, List.cons.injEq]
      split <;> simp_all
    · rw [dec_ge hge, cond_false, List.drop_of_length_le hge, List.drop_of_length_le (by omega)]; simp
theorem Equal_self (a : List Int) (h : a.length ≤ 140737488355328) : slices_Equal_int a a = some true := by
  unfold slices_Equal_int
  rw [Equal_l1_eq a a rfl _ _ (by omega) (fuel_gt (by omega))]
  simp

/-- The time behind a reading. -/
def nx (at_ r : Int) : Int := at_ + (r - at_ % 65536 + 65536) % 65536
def extF (at_ : Int) : List Int → List Int
  | [] => []
  | r :: rs => nx at_ r :: extF (nx at_ r) rs
def lastF (at_ : Int) (rs : List Int) : Int := rs.foldl nx at_
theorem extF_len (rs : List Int) : ∀ x, (extF x rs).length = rs.length := by
  induction rs with
  | nil => intro x; rfl
  | cons r rs ih => intro x; simp [extF, ih]
theorem extF_snoc (r : Int) (rs : List Int) : ∀ x, extF x (rs ++ [r]) = extF x rs ++ [nx (lastF x rs) r] := by
  induction rs with
  | nil => intro x; rfl
  | cons q rs ih => intro x; simp [extF, lastF, ih]
theorem lastF_snoc (r : Int) (rs : List Int) (x : Int) : lastF x (rs ++ [r]) = nx (lastF x rs) r := by simp [lastF]
def valid (r : Int) : Bool := decide (0 ≤ r) && decide (r < 65536)
theorem nx_eq {x r : Int} (h0 : 0 ≤ x) (h1 : x ≤ 9223372036854710000) (hr : valid r = true) : IntKind.i64.wrap (x + Int.tmod (IntKind.i64.wrap (IntKind.i64.wrap (r - Int.tmod x 65536) + 65536)) 65536) = nx x r ∧ 0 ≤ nx x r ∧ nx x r ≤ x + 65535 := by
  simp only [valid, Bool.and_eq_true, decide_eq_true_eq] at hr
  rw [Int.tmod_eq_emod_of_nonneg h0, wrap_id (x := r - x % 65536) (by omega) (by omega), wrap_id (x := r - x % 65536 + 65536) (by omega) (by omega), Int.tmod_eq_emod_of_nonneg (by omega), wrap_id (by omega) (by omega)]
  unfold nx
  exact ⟨rfl, by omega, by omega⟩
theorem ext_l1 (rs : List Int) (hn : rs.length ≤ 17592186044416) : ∀ n out x k, 1 ≤ k → k ≤ rs.length → rs.length - k < n → out.length = k → 0 ≤ x → x ≤ 65536 * (k : Int) →
    clock_Extend_l1 rs n out x k = some (if (rs.drop k).all valid then (out ++ extF x (rs.drop k), 0) else ([], 2)) := by
  intro n
  induction n with
  | zero => intro out x k h1 hk h; omega
  | succ n ih =>
    intro out x k h1 hk h ho hx0 hx1
    unfold clock_Extend_l1
    rcases Nat.lt_or_ge k rs.length with hlt | hge
    · rw [dec_lt hlt, cond_true, List.drop_eq_getElem_cons hlt, getD_lt _ _ hlt]
      cases hv : valid rs[k] with
      | false =>
        have : (decide (rs[k] < 0) || decide (rs[k] ≥ 65536)) = true := by simp [valid] at hv ⊢; omega
        rw [this, List.all_cons, hv]
        rfl
      | true =>
        have hb : (decide (rs[k] < 0) || decide (rs[k] ≥ 65536)) = false := by simp [valid] at hv ⊢; omega
        have hk0 : (((k : Nat) : Int) == 0) = false := by simp; omega
        obtain ⟨e, n0, n1⟩ := nx_eq (x := x) (r := rs[k]) hx0 (by omega) hv
        rw [hb, cond_false, hk0, cond_false, e, if_pos (by simp; omega), ih _ _ _ (by omega) (by omega) (by omega) (by simp; omega) n0 (by omega), List.all_cons, hv, Bool.true_and, extF, List.append_assoc]
        rfl
    · rw [dec_ge hge, cond_false, List.drop_of_length_le hge]; simp [extF]
def extend : List Int → List Int
  | [] => []
  | r :: rs => r :: extF r rs
theorem Extend_eq (rs : List Int) (hn : rs.length ≤ 17592186044416) : clock_Extend rs = some (if rs.all valid then (extend rs, 0) else ([], 2)) := by
  unfold clock_Extend
  cases rs with
  | nil => decide +kernel
  | cons r rs =>
    have : FUEL = 999999999999999 + 1 := rfl
    rw [this]
    unfold clock_Extend_l1
    have hlt : 0 < (r :: rs).length := by simp
    rw [dec_lt hlt, cond_true]
    have e0 : (r :: rs).getD 0 0 = r := rfl
    rw [e0]
    cases hv : valid r with
    | false =>
      have : (decide (r < 0) || decide (r ≥ 65536)) = true := by simp [valid] at hv ⊢; omega
      rw [this]
      simp [hv]
    | true =>
      have hb : (decide (r < 0) || decide (r ≥ 65536)) = false := by simp [valid] at hv ⊢; omega
      rw [hb, cond_false]
      have hv' := hv
      simp only [valid, Bool.and_eq_true, decide_eq_true_eq] at hv'
      have hk0 : (((0 : Nat) : Int) == 0) = true := rfl
      rw [hk0, cond_true, if_pos (by simp), ext_l1 (r :: rs) hn _ _ _ _ (by omega) (by simp) (by simp at hn ⊢; omega) (by simp) (by omega) (by omega)]
      simp [hv, extend]
theorem true_l1 (a0 : Int) (gs : List Int) (h0 : 0 ≤ a0) (h1 : a0 ≤ 65535) (hn : gs.length ≤ 1000) : ∀ n (rs : List Int) x k, k ≤ gs.length → gs.length - k < n → rs.length = k → rs.all valid = true → x = lastF a0 rs → 0 ≤ x → x ≤ 65535 + 65536 * (k : Int) →
    keep_ClockTrue_l1 a0 gs true n x (a0 :: rs) (a0 :: extF a0 rs) k = some true := by
  intro n
  induction n with
  | zero => intro rs x k hk h; omega
  | succ n ih =>
    intro rs x k hk h hl hv hx hx0 hx1
    unfold keep_ClockTrue_l1
    rcases Nat.lt_or_ge k gs.length with hlt | hge
    · rw [dec_lt hlt, cond_true, getD_lt _ _ hlt]
      by_cases hg : gs[k] < 0 ∨ gs[k] > 65535
      · have : (decide (gs[k] < 0) || decide (gs[k] > 65535)) = true := by simpa using hg
        rw [this]; rfl
      · have : (decide (gs[k] < 0) || decide (gs[k] > 65535)) = false := by simp; omega
        rw [this, cond_false, wrap_id (x := x + gs[k]) (by omega) (by omega), Int.tmod_eq_emod_of_nonneg (by omega)]
        have hnx : nx x ((x + gs[k]) % 65536) = x + gs[k] := by unfold nx; omega
        rw [if_pos (by simp; omega), if_pos (by simp [extF_len]; omega)]
        have e1 : (a0 :: rs) ++ [(x + gs[k]) % 65536] = a0 :: (rs ++ [(x + gs[k]) % 65536]) := rfl
        have e2 : (a0 :: extF a0 rs) ++ [x + gs[k]] = a0 :: extF a0 (rs ++ [(x + gs[k]) % 65536]) := by rw [extF_snoc, ← hx, hnx]; rfl
        rw [e1, e2]
        exact ih _ _ _ (by omega) (by omega) (by simp; omega) (by simp [hv, valid]; omega) (by rw [lastF_snoc, ← hx, hnx]) (by omega) (by omega)
    · rw [dec_ge hge, cond_false, Extend_eq _ (by simp; omega)]
      have hv2 : (a0 :: rs).all valid = true := by simp [hv, valid]; omega
      rw [hv2, if_pos rfl, Option.bind_some]
      simp only [extend, beq_self_eq_true, cond_true]
      rw [Equal_self _ (by simp [extF_len]; omega)]
      rfl
theorem ClockTrue_true (a : Int) (gs : List Int) (ha : (-9223372036854775808 ≤ a ∧ a ≤ 9223372036854775807)) (hg : gs.length * 8 ≤ 140737488351232 ∧ ∀ y ∈ gs, (-9223372036854775808 ≤ y ∧ y ≤ 9223372036854775807)) : keep_ClockTrue a gs = some true := by
  unfold keep_ClockTrue
  rw [alive23_eq, Option.bind_some, Bool.not_true, cond_false]
  by_cases h : (a < 0 ∨ a > 65535) ∨ (gs.length : Int) > 1000
  · have : ((decide (a < 0) || decide (a > 65535)) || decide ((gs.length : Int) > 1000)) = true := by simpa using h
    rw [this]; rfl
  · have : ((decide (a < 0) || decide (a > 65535)) || decide ((gs.length : Int) > 1000)) = false := by simp; omega
    rw [this, cond_false]
    exact true_l1 a gs (by omega) (by omega) (by omega) _ [] _ _ (by omega) (by unfold FUEL; omega) rfl rfl rfl (by omega) (by omega)

/-- Spells. -/
theorem IndexFunc_eq (xs : List Int) : ∀ n k, k ≤ xs.length → xs.length - k < n → ∃ i, slices_IndexFunc_int_clock_Steps_1_l1 xs n k = some i ∧ (0 ≤ i ↔ ∃ y ∈ xs.drop k, y < 0 ∨ y > 1073741824) := by
  intro n
  induction n with
  | zero => intro k hk h; omega
  | succ n ih =>
    intro k hk h
    unfold slices_IndexFunc_int_clock_Steps_1_l1
    rcases Nat.lt_or_ge k xs.length with hlt | hge
    · rw [dec_lt hlt, cond_true, getD_lt _ _ hlt, List.drop_eq_getElem_cons hlt]
      simp only [clock_Steps_1, Option.bind_some]
      by_cases hg : xs[k] < 0 ∨ xs[k] > 1073741824
      · have : (decide (xs[k] < 0) || decide (xs[k] > 1073741824)) = true := by simpa using hg
        rw [this]
        refine ⟨_, rfl, ?_⟩
        exact ⟨fun _ => ⟨xs[k], List.mem_cons_self .., hg⟩, fun _ => by omega⟩
      · have : (decide (xs[k] < 0) || decide (xs[k] > 1073741824)) = false := by simp; omega
        rw [this, cond_false]
        obtain ⟨i, h1, h2⟩ := ih (k + 1) (by omega) (by omega)
        refine ⟨i, h1, h2.trans ⟨fun ⟨y, hy, hq⟩ => ⟨y, List.mem_cons_of_mem _ hy, hq⟩, fun ⟨y, hy, hq⟩ => ?_⟩⟩
        rcases List.mem_cons.1 hy with rfl | hy
        · exact absurd hq hg
        · exact ⟨y, hy, hq⟩
    · rw [dec_ge hge, cond_false, List.drop_of_length_le hge]
      exact ⟨_, rfl, by simp⟩
theorem Contains_eq (xs : List Int) (h : xs.length ≤ 140737488355328) : ∃ b, slices_ContainsFunc_int_clock_Steps_1 xs = some b ∧ (b = true ↔ ∃ y ∈ xs, y < 0 ∨ y > 1073741824) := by
  unfold slices_ContainsFunc_int_clock_Steps_1 slices_IndexFunc_int_clock_Steps_1
  obtain ⟨i, h1, h2⟩ := IndexFunc_eq xs FUEL 0 (by omega) (fuel_gt (by omega))
  rw [h1]
  exact ⟨_, rfl, by simpa using h2⟩
def outF (N D over : Int) : List Int → List Int
  | [] => []
  | n :: ns => (n * N + over) / D :: outF N D ((n * N + over) % D) ns
theorem outF_len (N D : Int) (ns : List Int) : ∀ o, (outF N D o ns).length = ns.length := by
  induction ns with
  | nil => intro o; rfl
  | cons n ns ih => intro o; simp [outF, ih]
theorem steps_l1 (r : Api_Rate) (hr : okR r) (xs : List Int) (hn : xs.length ≤ 400) (hx : ∀ y ∈ xs, 0 ≤ y ∧ y ≤ 1073741824) : ∀ n out o k, k ≤ xs.length → xs.length - k < n → out.length = k → 0 ≤ o → o < r.Den →
    clock_Steps_l1 r xs 0 false n out o k = some (out ++ outF r.Num r.Den o (xs.drop k), 0) := by
  have hr' := hr
  unfold okR at hr'
  intro n
  induction n with
  | zero => intro out o k hk h; omega
  | succ n ih =>
    intro out o k hk h ho h0 h1
    unfold clock_Steps_l1
    rcases Nat.lt_or_ge k xs.length with hlt | hge
    · have hd : r.Den ≠ 0 := by omega
      obtain ⟨y0, y1⟩ := hx xs[k] (List.getElem_mem hlt)
      have p0 : 0 ≤ xs[k] * r.Num := Int.mul_nonneg y0 (by omega)
      have p1 : xs[k] * r.Num ≤ 1073741824 * 1048576 := Int.mul_le_mul y1 hr'.2.1 (by omega) (by omega)
      have q0 : 0 ≤ (xs[k] * r.Num + o) / r.Den := Int.ediv_nonneg (by omega) (by omega)
      have q1 : (xs[k] * r.Num + o) / r.Den ≤ xs[k] * r.Num + o := Int.ediv_le_self _ (by omega)
      rw [dec_lt hlt, cond_true, List.drop_eq_getElem_cons hlt, getD_lt _ _ hlt, wrap_id (x := xs[k] * r.Num) (by omega) (by omega), wrap_id (x := xs[k] * r.Num + o) (by omega) (by omega), Int.tdiv_eq_ediv_of_nonneg (by omega), Int.tmod_eq_emod_of_nonneg (by omega), wrap_id (by omega) (by omega),
        if_pos hd, if_pos (by simp; omega), if_pos hd, ih _ _ _ (by omega) (by omega) (by simp; omega) (Int.emod_nonneg _ hd) (Int.emod_lt_of_pos _ (by omega))]
      simp [outF]
    · rw [dec_ge hge, cond_false, List.drop_of_length_le hge]; simp [outF]
theorem lost_l1 (r : Api_Rate) (hr : okR r) (xs : List Int) (hn : xs.length ≤ 400) (hx : ∀ y ∈ xs, 0 ≤ y ∧ y ≤ 1073741824) (l : List Int) (hl : l.length = xs.length) : ∀ n t u o k, k ≤ xs.length → xs.length - k < n → 0 ≤ o → o < r.Den → l.drop k = outF r.Num r.Den o (xs.drop k) →
    0 ≤ t → t ≤ 1073741824 * (k : Int) → t * r.Num = u * r.Den + o → keep_ClockNothingLost_l1 r xs true (l, 0) n t u k = some true := by
  have hr' := hr
  unfold okR at hr'
  intro n
  induction n with
  | zero => intro t u o k hk h; omega
  | succ n ih =>
    intro t u o k hk h h0 h1 hd ht0 ht1 he
    unfold keep_ClockNothingLost_l1
    rcases Nat.lt_or_ge k xs.length with hlt | hge
    · have hlt2 : k < l.length := by omega
      have hd0 : r.Den ≠ 0 := by omega
      have hg : decide (((k : Nat) : Int) ≥ ((l.length : Nat) : Int)) = false := by simp; omega
      rw [List.drop_eq_getElem_cons hlt, List.drop_eq_getElem_cons hlt2] at hd
      simp only [outF, List.cons.injEq] at hd
      obtain ⟨e1, e2⟩ := hd
      obtain ⟨y0, y1⟩ := hx xs[k] (List.getElem_mem hlt)
      have p0 : 0 ≤ xs[k] * r.Num := Int.mul_nonneg y0 (by omega)
      have q0 : 0 ≤ (xs[k] * r.Num + o) / r.Den := Int.ediv_nonneg (by omega) (by omega)
      have eg : l.getD (0 + k) 0 = (xs[k] * r.Num + o) / r.Den := by rw [Nat.zero_add, getD_lt _ _ hlt2, e1]
      have hneg : decide ((xs[k] * r.Num + o) / r.Den < 0) = false := by simp; omega
      simp only
      rw [dec_lt hlt, cond_true, if_pos (fun _ => idx_ok hlt2), hg, eg, hneg, Bool.or_false, cond_false, if_pos (idx_ok hlt2), getD_lt _ _ hlt]
      have hdm := Int.emod_add_mul_ediv (xs[k] * r.Num + o) r.Den
      have he2 : (t + xs[k]) * r.Num = (u + (xs[k] * r.Num + o) / r.Den) * r.Den + (xs[k] * r.Num + o) % r.Den := by
        rw [Int.add_mul, Int.add_mul, he]
        rw [Int.mul_comm r.Den] at hdm
        omega
      have m0 := Int.emod_nonneg (xs[k] * r.Num + o) hd0
      have m1 := Int.emod_lt_of_pos (xs[k] * r.Num + o) (show 0 < r.Den by omega)
      have hq : (t + xs[k]) * r.Num / r.Den = u + (xs[k] * r.Num + o) / r.Den := by
        rw [he2, Int.add_comm, Int.add_mul_ediv_right _ _ hd0, Int.ediv_eq_zero_of_lt m0 m1]; omega
      have tb : (t + xs[k]) * r.Num ≤ 1099511627776 * 1048576 := Int.mul_le_mul (by omega) hr'.2.1 (by omega) (by omega)
      have tb0 : 0 ≤ (t + xs[k]) * r.Num := Int.mul_nonneg (by omega) (by omega)
      have ub0 : 0 ≤ (t + xs[k]) * r.Num / r.Den := Int.ediv_nonneg tb0 (by omega)
      have ub1 : (t + xs[k]) * r.Num / r.Den ≤ (t + xs[k]) * r.Num := Int.ediv_le_self _ tb0
      have e : (⟨r.Num, r.Den⟩ : Api_Rate) = r := rfl
      rw [wrap_id (x := t + xs[k]) (by omega) (by omega), wrap_id (x := u + (xs[k] * r.Num + o) / r.Den) (by omega) (by omega), e, Scale_ok hr (by omega) (by omega), Option.bind_some, hq]
      simp only [bne_self_eq_false, Bool.or_self, cond_false]
      exact ih _ _ _ _ (by omega) (by omega) m0 m1 e2 (by omega) (by omega) he2
    · rw [dec_ge hge, cond_false]
      simp [hl]
theorem ClockNothingLost_true (r : Api_Rate) (xs : List Int) (hr : Ok_Api_Rate r) (hx : xs.length * 8 ≤ 140737488351232 ∧ ∀ y ∈ xs, (-9223372036854775808 ≤ y ∧ y ≤ 9223372036854775807)) : keep_ClockNothingLost r xs = some true := by
  have hx1 := hx.1
  unfold keep_ClockNothingLost clock_Steps
  have e : (⟨r.Num, r.Den⟩ : Api_Rate) = r := rfl
  rw [alive23_eq, Option.bind_some, Bool.not_true, cond_false, e]
  by_cases hr : okR r
  · rw [Wrong_ok hr, Option.bind_some]
    obtain ⟨b, hb1, hb2⟩ := Contains_eq xs (by omega)
    by_cases hn : (xs.length : Int) > 400
    · have : decide ((xs.length : Int) > 400) = true := by simpa using hn
      rw [this]
      rfl
    · have : decide ((xs.length : Int) > 400) = false := by simpa using hn
      rw [this, Bool.not_false, cond_true, hb1, Option.bind_some]
      cases b with
      | true => rfl
      | false =>
        have hy : ∀ y ∈ xs, 0 ≤ y ∧ y ≤ 1073741824 := by
          intro y hy
          have := fun h => (hb2.2 ⟨y, hy, h⟩)
          simp at this
          omega
        have hs := steps_l1 r hr xs (by omega) hy FUEL [] 0 0 (by omega) (fuel_gt (by omega)) rfl (by omega) (by unfold okR at hr; omega)
        simp only [bne_self_eq_false, cond_false, Bool.or_self]
        rw [hs, Option.bind_some]
        simp only [bne_self_eq_false, cond_false, List.nil_append, List.drop_zero]
        exact lost_l1 r hr xs (by omega) hy _ (outF_len _ _ _ _) _ _ _ 0 _ (by omega) (fuel_gt (by omega)) (by omega) (by unfold okR at hr; omega) rfl (by omega) (by omega) (by omega)
  · rw [Wrong_no hr]; rfl
end Go.Proofs.Ytegafdnfcijemaa
