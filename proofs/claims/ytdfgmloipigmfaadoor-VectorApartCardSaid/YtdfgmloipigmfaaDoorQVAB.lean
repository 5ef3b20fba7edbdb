/- Plain facts of sets of bits: what the functions of bits come to. -/
import Derived.Test.YtdfgmloipigmfaaDoorQVAM
import Derived.Test.YtdfgmloipigmfaaDoorPLib
import Derived.Lib.TrailingZeros
import Derived.Lib.ItoaNum
set_option linter.unusedSimpArgs false
set_option linter.unusedVariables false
namespace Go.Proofs.YtdfgmloipigmfaaDoor
open Go Go.Ab

abbrev U64 (x : Int) : Prop := 0 ≤ x ∧ x ≤ 18446744073709551615
def okB (b : Nat → Int) : Prop := ∀ i, i < 4 → U64 (b i)
def tb (x : Int) (k : Nat) : Bool := x.toNat.testBit k
def mem (b : Nat → Int) (n : Nat) : Bool := tb (b (n / 64)) (n % 64)

theorem u64_wrap (n : Int) (h : U64 n) : IntKind.u64.wrap n = n := by
  have : IntKind.u64.wrap n = n % 18446744073709551616 := by simp [IntKind.wrap, IntKind.signed, IntKind.bits]
  rw [this]; omega
theorem bv_tb (v : BitVec 64) (k : Nat) : tb (IntKind.u64.wrap (v.toNat : Int)) k = v.getLsbD k := by
  have := v.isLt
  rw [u64_wrap _ (by constructor <;> omega)]
  unfold tb
  rw [Int.toNat_natCast, BitVec.testBit_toNat]
theorem bv_u64 (v : BitVec 64) : U64 (IntKind.u64.wrap (v.toNat : Int)) := by
  have := v.isLt
  rw [u64_wrap _ (by constructor <;> omega)]
  constructor <;> omega
theorem ofInt_tb (x : Int) (h : U64 x) (k : Nat) : (BitVec.ofInt 64 x).getLsbD k = tb x k := by
  unfold tb
  rw [← BitVec.testBit_toNat, BitVec.toNat_ofInt]
  congr 1
  rw [show ((2 ^ 64 : Nat) : Int) = 18446744073709551616 by rfl, Int.emod_eq_of_lt h.1 (by omega)]
theorem tb_hi (x : Int) (h : U64 x) (k : Nat) (hk : 64 ≤ k) : tb x k = false := by
  unfold tb
  exact Nat.testBit_lt_two_pow (Nat.lt_of_lt_of_le (show x.toNat < 2 ^ 64 by omega) (Nat.pow_le_pow_right (by omega) hk))
theorem tb_ext (x y : Int) (hx : U64 x) (hy : U64 y) (h : ∀ k, k < 64 → tb x k = tb y k) : x = y := by
  have : x.toNat = y.toNat := Nat.eq_of_testBit_eq fun k => by
    rcases Nat.lt_or_ge k 64 with hk | hk
    · exact h k hk
    · exact (tb_hi x hx k hk).trans (tb_hi y hy k hk).symm
  omega
theorem or_tb (x y : Int) (hx : U64 x) (hy : U64 y) (k : Nat) : tb (bitsOf .or .u64 x y) k = (tb x k || tb y k) := by
  show tb (IntKind.u64.wrap ((BitVec.ofInt 64 x ||| BitVec.ofInt 64 y).toNat : Int)) k = _
  rw [bv_tb, BitVec.getLsbD_or, ofInt_tb x hx, ofInt_tb y hy]
theorem and_tb (x y : Int) (hx : U64 x) (hy : U64 y) (k : Nat) : tb (bitsOf .and .u64 x y) k = (tb x k && tb y k) := by
  show tb (IntKind.u64.wrap ((BitVec.ofInt 64 x &&& BitVec.ofInt 64 y).toNat : Int)) k = _
  rw [bv_tb, BitVec.getLsbD_and, ofInt_tb x hx, ofInt_tb y hy]
theorem andNot_tb (x y : Int) (hx : U64 x) (hy : U64 y) (k : Nat) : tb (bitsOf .andNot .u64 x y) k = (tb x k && !tb y k) := by
  show tb (IntKind.u64.wrap ((BitVec.ofInt 64 x &&& ~~~BitVec.ofInt 64 y).toNat : Int)) k = _
  rw [bv_tb, BitVec.getLsbD_and, BitVec.getLsbD_not, ofInt_tb x hx, ofInt_tb y hy]
  rcases Nat.lt_or_ge k 64 with hk | hk
  · simp [hk]
  · rw [tb_hi x hx k hk]; rfl
theorem or_u64 (x y : Int) : U64 (bitsOf .or .u64 x y) := bv_u64 _
theorem and_u64 (x y : Int) : U64 (bitsOf .and .u64 x y) := bv_u64 _
theorem andNot_u64 (x y : Int) : U64 (bitsOf .andNot .u64 x y) := bv_u64 _

/- one bit, and the bits below one -/
theorem one_eq (r : Nat) (hr : r < 64) : IntKind.u64.wrap (1 * 2 ^ (min r IntKind.u64.bits)) = ((2 ^ r : Nat) : Int) := by
  have hb : IntKind.u64.bits = 64 := rfl
  have h1 : min r IntKind.u64.bits = r := by rw [hb]; omega
  have h2 : 2 ^ r < 2 ^ 64 := Nat.pow_lt_pow_right (by omega) hr
  have h3 : (2 : Int) ^ r = ((2 ^ r : Nat) : Int) := by simp
  rw [h1, Int.one_mul, h3]
  generalize 2 ^ r = q at *
  exact u64_wrap _ (by constructor <;> omega)
theorem one_u64 (r : Nat) (hr : r < 64) : U64 ((2 ^ r : Nat) : Int) := by
  have h2 : 2 ^ r < 2 ^ 64 := Nat.pow_lt_pow_right (by omega) hr
  generalize 2 ^ r = q at *
  constructor <;> omega
theorem one_tb (r k : Nat) : tb ((2 ^ r : Nat) : Int) k = decide (r = k) := by
  unfold tb
  rw [Int.toNat_natCast, Nat.testBit_two_pow]
theorem low_eq (r : Nat) (hr : r < 64) : IntKind.u64.wrap (((2 ^ r : Nat) : Int) - 1) = ((2 ^ r - 1 : Nat) : Int) := by
  have h2 : 2 ^ r < 2 ^ 64 := Nat.pow_lt_pow_right (by omega) hr
  have h3 : 0 < 2 ^ r := Nat.two_pow_pos r
  generalize 2 ^ r = q at *
  rw [u64_wrap _ (by constructor <;> omega)]
  omega
theorem low_u64 (r : Nat) (hr : r < 64) : U64 ((2 ^ r - 1 : Nat) : Int) := by
  have h2 : 2 ^ r < 2 ^ 64 := Nat.pow_lt_pow_right (by omega) hr
  generalize 2 ^ r = q at *
  constructor <;> omega
theorem low_tb (r k : Nat) : tb ((2 ^ r - 1 : Nat) : Int) k = decide (k < r) := by
  unfold tb
  rw [Int.toNat_natCast, Nat.testBit_two_pow_sub_one]

theorem place (n : Nat) (h : n < 256) : IntKind.i64.wrap (Int.tdiv (n : Int) 64) = ((n / 64 : Nat) : Int) ∧ Int.tmod (n : Int) 64 = ((n % 64 : Nat) : Int) := by
  have h1 : Int.tdiv (n : Int) 64 = ((n / 64 : Nat) : Int) := by rw [Int.tdiv_eq_ediv_of_nonneg (by omega)]; omega
  refine ⟨by rw [h1, wrap_id (by omega) (by omega)], ?_⟩
  rw [Int.tmod_eq_emod_of_nonneg (by omega)]; omega

theorem fits_eq (n : Int) : bits_fits n = some (decide (0 ≤ n ∧ n < 256)) := by
  unfold bits_fits
  by_cases h1 : 0 ≤ n <;> by_cases h2 : n < 256 <;> simp [h1, h2]
theorem fits_nat (n : Nat) (h : n < 256) : bits_fits n = some true := by rw [fits_eq]; simp; omega
theorem fits_out (n : Int) (h : ¬ (0 ≤ n ∧ n < 256)) : bits_fits n = some false := by rw [fits_eq]; simp; omega

def withF (b : Nat → Int) (n : Nat) : Nat → Int := upd b (n / 64) (bitsOf .or .u64 (b (n / 64)) ((2 ^ (n % 64) : Nat) : Int))
def withoutF (b : Nat → Int) (n : Nat) : Nat → Int := upd b (n / 64) (bitsOf .andNot .u64 (b (n / 64)) ((2 ^ (n % 64) : Nat) : Int))
theorem okB_upd {b : Nat → Int} (h : okB b) (i : Nat) {x : Int} (hx : U64 x) : okB (upd b i x) := by
  intro j hj
  unfold upd
  split
  · exact hx
  · exact h j hj
theorem withF_ok {b : Nat → Int} (h : okB b) (n : Nat) : okB (withF b n) := okB_upd h _ (or_u64 _ _)
theorem withoutF_ok {b : Nat → Int} (h : okB b) (n : Nat) : okB (withoutF b n) := okB_upd h _ (andNot_u64 _ _)
theorem withF_mem {b : Nat → Int} (h : okB b) (n k : Nat) (hn : n < 256) : mem (withF b n) k = (mem b k || decide (k = n)) := by
  unfold mem withF upd
  by_cases e : k / 64 = n / 64
  · rw [if_pos e, or_tb _ _ (h _ (by omega)) (one_u64 _ (by omega)), one_tb, e]
    congr 1
    simp only [decide_eq_decide]
    omega
  · rw [if_neg e]
    have : k ≠ n := fun x => e (by rw [x])
    simp [this]
theorem withoutF_mem {b : Nat → Int} (h : okB b) (n k : Nat) (hn : n < 256) : mem (withoutF b n) k = (mem b k && !decide (k = n)) := by
  unfold mem withoutF upd
  by_cases e : k / 64 = n / 64
  · rw [if_pos e, andNot_tb _ _ (h _ (by omega)) (one_u64 _ (by omega)), one_tb, e]
    congr 2
    simp only [decide_eq_decide]
    omega
  · rw [if_neg e]
    have : k ≠ n := fun x => e (by rw [x])
    simp [this]
theorem mem_ext {a b : Nat → Int} (ha : okB a) (hb : okB b) (h : ∀ n, n < 256 → mem a n = mem b n) (i : Nat) (hi : i < 4) : a i = b i := by
  refine tb_ext _ _ (ha i hi) (hb i hi) fun k hk => ?_
  have := h (64 * i + k) (by omega)
  unfold mem at this
  rw [show (64 * i + k) / 64 = i by omega, show (64 * i + k) % 64 = k by omega] at this
  exact this

theorem With_eq (b : Nat → Int) (n : Nat) (h : n < 256) : bits_With b n = some (withF b n) := by
  unfold bits_With
  obtain ⟨h1, h2⟩ := place n h
  rw [fits_nat n h, Option.bind_some, cond_true, h1, h2, if_pos (by omega), if_pos (by omega), if_pos (by omega), Int.toNat_natCast, Int.toNat_natCast, one_eq _ (by omega)]
  rfl
theorem With_out (b : Nat → Int) (n : Int) (h : ¬ (0 ≤ n ∧ n < 256)) : bits_With b n = some b := by
  unfold bits_With
  rw [fits_out n h, Option.bind_some, cond_false]
theorem Has_eq (b : Nat → Int) (n : Nat) (h : n < 256) (hb : okB b) : bits_Has b n = some (mem b n) := by
  unfold bits_Has
  obtain ⟨h1, h2⟩ := place n h
  rw [fits_nat n h, Option.bind_some, h1, h2, if_pos (by intro _; omega), if_pos (by intro _; omega), Int.toNat_natCast, Int.toNat_natCast, Bool.true_and]
  congr 1
  have hx := hb (n / 64) (by omega)
  unfold mem
  generalize b (n / 64) = x at *
  have hr : n % 64 < 64 := by omega
  generalize n % 64 = r at *
  have hm : min r IntKind.u64.bits = r := by rw [show IntKind.u64.bits = 64 from rfl]; omega
  have hf : Int.fdiv x (2 ^ r) = ((x.toNat / 2 ^ r : Nat) : Int) := by
    obtain ⟨m, rfl⟩ := Int.eq_ofNat_of_zero_le hx.1
    have h3 : (2 : Int) ^ r = ((2 ^ r : Nat) : Int) := by simp
    rw [h3, Int.fdiv_eq_ediv_of_nonneg _ (Int.natCast_nonneg _), Int.toNat_natCast]
    rfl
  have hlt : x.toNat / 2 ^ r ≤ x.toNat := Nat.div_le_self _ _
  have hu : U64 ((x.toNat / 2 ^ r : Nat) : Int) := by
    have := hx.2
    generalize x.toNat / 2 ^ r = q at *
    constructor <;> omega
  rw [hm, hf]
  have h1u : U64 (1 : Int) := by decide
  have key : bitsOf .and .u64 ((x.toNat / 2 ^ r : Nat) : Int) 1 = if tb x r then 1 else 0 := by
    refine tb_ext _ _ (and_u64 _ _) (by split <;> decide) fun k hk => ?_
    rw [and_tb _ _ hu h1u]
    have e1 : tb ((x.toNat / 2 ^ r : Nat) : Int) k = tb x (k + r) := by
      unfold tb
      rw [Int.toNat_natCast, Nat.testBit_div_two_pow]
    rw [e1]
    rcases Nat.eq_zero_or_pos k with rfl | hk0
    · rw [Nat.zero_add]
      cases tb x r <;> rfl
    · have e2 : tb 1 k = false := by
        unfold tb
        exact Nat.testBit_lt_two_pow (Nat.one_lt_two_pow (by omega))
      rw [e2, Bool.and_false]
      split
      · exact e2.symm
      · unfold tb; simp
  rw [key]
  cases tb x r <;> rfl
theorem Has_out (b : Nat → Int) (n : Int) (h : ¬ (0 ≤ n ∧ n < 256)) : bits_Has b n = some false := by
  unfold bits_Has
  rw [fits_out n h, Option.bind_some, if_pos (by intro h; cases h), if_pos (by intro h; cases h), Bool.false_and]

/- the least one from one on -/
def NextIs (b : Nat → Int) (f : Nat) (r : Int) : Prop :=
  (r = -1 ∧ ∀ m, f ≤ m → m < 256 → mem b m = false) ∨ ∃ n : Nat, r = n ∧ n < 256 ∧ f ≤ n ∧ mem b n = true ∧ ∀ m, f ≤ m → m < n → mem b m = false
theorem ctz_spec (x : Int) (h : U64 x) (h0 : x ≠ 0) : Lib.ctz 64 x.toNat < 64 ∧ tb x (Lib.ctz 64 x.toNat) = true ∧ ∀ k, k < Lib.ctz 64 x.toNat → tb x k = false := by
  have hx : x.toNat ≠ 0 := by omega
  obtain ⟨m, e, hlt⟩ := Lib.ctzFrom_spec 64 x.toNat (by omega) (by omega)
  unfold Lib.ctz tb
  rw [if_neg hx]
  generalize Lib.ctzFrom 64 x.toNat = c at *
  rw [e]
  refine ⟨hlt, ?_, fun k hk => ?_⟩
  · rw [Nat.testBit_two_pow_mul]
    simp
  · rw [Nat.testBit_two_pow_mul]
    have : ¬ (k ≥ c) := by omega
    simp [this]
theorem tb_zero_of (x : Int) (h : x = 0) (k : Nat) : tb x k = false := by
  subst h; unfold tb; simp
theorem if_max (a : Int) (f : Nat) (h : a = f ∨ (a < 0 ∧ f = 0)) : (if (0 : Int) > a then 0 else a) = (f : Int) := by
  split <;> omega
def maskF (b : Nat → Int) (f : Nat) : Nat → Int := upd b (f / 64) (bitsOf .andNot .u64 (b (f / 64)) ((2 ^ (f % 64) - 1 : Nat) : Int))
theorem maskF_ok {b : Nat → Int} (h : okB b) (f : Nat) : okB (maskF b f) := okB_upd h _ (andNot_u64 _ _)
theorem maskF_mem {b : Nat → Int} (h : okB b) (f m : Nat) (hm : m < 256) (hf : f / 64 ≤ m / 64) : mem (maskF b f) m = (mem b m && decide (f ≤ m)) := by
  unfold mem maskF upd
  by_cases e : m / 64 = f / 64
  · rw [if_pos e, andNot_tb _ _ (h _ (by omega)) (low_u64 _ (by omega)), low_tb, e]
    congr 1
    rw [← decide_not]
    simp only [decide_eq_decide]
    omega
  · rw [if_neg e]
    have : f ≤ m := by omega
    simp [this]
theorem next_l1_eq (b : Nat → Int) (a1 : Int) (f : Nat) (hif : (if (0 : Int) > a1 then 0 else a1) = (f : Int)) (hf : f < 256) (hb : okB b) : ∀ n (x : Nat), f / 64 ≤ x → x ≤ 4 → 4 - x < n → (∀ m, f ≤ m → m < 64 * x → mem b m = false) →
    ∃ r, bits_Next_l1 b a1 n (x : Int) = some r ∧ NextIs b f r := by
  intro n
  induction n with
  | zero => intro x h1 h2 h3; omega
  | succ n ih =>
    intro x h1 h2 h3 h4
    obtain ⟨p1, p2⟩ := place f hf
    unfold bits_Next_l1
    rcases Nat.lt_or_ge x 4 with hx | hx
    · have e0 : upd b (f / 64) (bitsOf .andNot .u64 (b (f / 64)) ((2 ^ (f % 64) - 1 : Nat) : Int)) = maskF b f := rfl
      have d4 : decide (((x : Nat) : Int) < 4) = true := decide_eq_true (by omega)
      simp only [hif, p1, p2, Int.toNat_natCast, one_eq _ (show f % 64 < 64 by omega), low_eq _ (show f % 64 < 64 by omega)]
      rw [d4, cond_true, if_pos (by omega), e0]
      have hcu := maskF_ok hb f x hx
      by_cases hz : maskF b f x = 0
      · rw [show (maskF b f x != 0) = false by simp [hz], cond_false, show IntKind.i64.wrap ((x : Int) + 1) = ((x + 1 : Nat) : Int) by rw [wrap_id (by omega) (by omega)]; omega]
        refine ih (x + 1) (by omega) (by omega) (by omega) fun m m1 m2 => ?_
        rcases Nat.lt_or_ge m (64 * x) with m3 | m3
        · exact h4 m m1 m3
        · have := maskF_mem hb f m (by omega) (by omega)
          unfold mem at this ⊢
          rw [show m / 64 = x by omega, tb_zero_of _ hz] at this
          rw [show m / 64 = x by omega]
          simpa [m1] using this.symm
      · obtain ⟨c1, c2, c3⟩ := ctz_spec _ hcu hz
        rw [show (maskF b f x != 0) = true by simpa using hz, cond_true, if_pos (by omega)]
        unfold bits_TrailingZeros64
        rw [if_pos ⟨hcu.1, by have := hcu.2; omega⟩, Option.bind_some]
        generalize Lib.ctz 64 (maskF b f x).toNat = c at *
        refine ⟨_, rfl, .inr ⟨64 * x + c, ?_, by omega, ?_, ?_, ?_⟩⟩
        · rw [wrap_id (x := 64 * (x : Int)) (by omega) (by omega), wrap_id (by omega) (by omega)]; omega
        · have := maskF_mem hb f (64 * x + c) (by omega) (by omega)
          unfold mem at this
          rw [show (64 * x + c) / 64 = x by omega, show (64 * x + c) % 64 = c by omega, c2] at this
          have := this.symm
          simp only [Bool.and_eq_true, decide_eq_true_eq] at this
          exact this.2
        · have := maskF_mem hb f (64 * x + c) (by omega) (by omega)
          rw [show mem (maskF b f) (64 * x + c) = true by unfold mem; rw [show (64 * x + c) / 64 = x by omega, show (64 * x + c) % 64 = c by omega, c2]] at this
          have := this.symm
          simp only [Bool.and_eq_true, decide_eq_true_eq] at this
          exact this.1
        · intro m m1 m2
          rcases Nat.lt_or_ge m (64 * x) with m3 | m3
          · exact h4 m m1 m3
          · have := maskF_mem hb f m (by omega) (by omega)
            rw [show mem (maskF b f) m = false by unfold mem; rw [show m / 64 = x by omega]; exact c3 _ (by omega)] at this
            simpa [m1] using this.symm
    · have d4 : decide (((x : Nat) : Int) < 4) = false := decide_eq_false (by omega)
      rw [d4, cond_false]
      exact ⟨_, rfl, .inl ⟨rfl, fun m m1 m2 => h4 m m1 (by omega)⟩⟩
theorem Next_eq (b : Nat → Int) (a : Int) (f : Nat) (h : a = f ∨ (a < 0 ∧ f = 0)) (hf : f < 256) (hb : okB b) : ∃ r, bits_Next b a = some r ∧ NextIs b f r := by
  have hif := if_max a f h
  obtain ⟨p1, p2⟩ := place f hf
  unfold bits_Next
  rw [hif, fits_nat f hf, Option.bind_some, Bool.not_true, cond_false, p1, p2, if_pos (by omega), if_pos (by omega), if_pos (by omega)]
  exact next_l1_eq b a f hif hf hb FUEL (f / 64) (by omega) (by omega) (fuel_gt (by omega)) (fun m m1 m2 => by omega)
theorem Next_out (b : Nat → Int) (a : Int) (h : 256 ≤ a) : bits_Next b a = some (-1) := by
  unfold bits_Next
  rw [show (if (0 : Int) > a then 0 else a) = a by split <;> omega, fits_out a (by omega), Option.bind_some]
  rfl
theorem Next_le (b : Nat → Int) (f : Nat) (hf : f ≤ 256) (hb : okB b) : ∃ r, bits_Next b (f : Int) = some r ∧ NextIs b f r := by
  rcases Nat.lt_or_ge f 256 with h | h
  · exact Next_eq b f f (.inl rfl) h hb
  · exact ⟨-1, Next_out b f (by omega), .inl ⟨rfl, fun m m1 m2 => by omega⟩⟩

/- all, rising -/
def elems (b : Nat → Int) : List Int := ((List.range 256).filter (mem b)).map (fun n : Nat => (n : Int))
theorem range_skip (b : Nat → Int) (p : Nat) : ∀ n, p ≤ n → (∀ m, p ≤ m → m < n → mem b m = false) → (List.range n).filter (mem b) = (List.range p).filter (mem b) := by
  intro n
  induction n with
  | zero => intro h _; rw [show p = 0 by omega]
  | succ n ih =>
    intro h hm
    rcases Nat.lt_or_ge n p with hlt | hge
    · rw [show p = n + 1 by omega]
    · rw [List.range_succ, List.filter_append, ih hge (fun m m1 m2 => hm m m1 (by omega))]
      simp [hm n hge (by omega)]
theorem all_l1_eq (b : Nat → Int) (r1 : Int) (hb : okB b) : ∀ n (l : List Int) (x : Int) (p : Nat), p ≤ 256 → 256 - p < n → l = ((List.range p).filter (mem b)).map (fun n : Nat => (n : Int)) → NextIs b p x →
    bits_All_l1 b r1 n l x = some (elems b) := by
  intro n
  induction n with
  | zero => intro l x p h1 h2; omega
  | succ n ih =>
    intro l x p h1 h2 hl hx
    unfold bits_All_l1
    rcases hx with ⟨rfl, hx⟩ | ⟨k, rfl, hk, hpk, hmk, hx⟩
    · rw [show decide ((-1 : Int) ≥ 0) = false by decide, cond_false, hl]
      unfold elems
      rw [range_skip b p 256 h1 hx]
    · have hll : l.length ≤ 256 := by
        rw [hl, List.length_map]
        exact Nat.le_trans (List.length_filter_le _ _) (by rw [List.length_range]; exact h1)
      rw [show decide (((k : Nat) : Int) ≥ 0) = true by simp, cond_true, if_pos (by simp only [List.length_singleton]; omega), show IntKind.i64.wrap ((k : Int) + 1) = ((k + 1 : Nat) : Int) by rw [wrap_id (by omega) (by omega)]; omega]
      obtain ⟨r, hr, hn⟩ := Next_le b (k + 1) (by omega) hb
      rw [hr, Option.bind_some]
      refine ih _ r (k + 1) (by omega) (by omega) ?_ hn
      rw [List.range_succ, List.filter_append, range_skip b p k hpk hx, List.map_append, hl]
      simp [hmk]
theorem All_eq (b : Nat → Int) (hb : okB b) : bits_All b = some (elems b) := by
  unfold bits_All
  obtain ⟨r, hr, hn⟩ := Next_le b 0 (by omega) hb
  rw [show bits_Next b 0 = bits_Next b ((0 : Nat) : Int) from rfl, hr, Option.bind_some]
  exact all_l1_eq b r hb FUEL [] r 0 (by omega) (fuel_gt (by omega)) (by simp) hn
theorem elems_len (b : Nat → Int) : (elems b).length ≤ 256 := by
  unfold elems
  rw [List.length_map]
  exact Nat.le_trans (List.length_filter_le _ _) (by rw [List.length_range]; omega)
theorem mem_elems (b : Nat → Int) (x : Int) : x ∈ elems b ↔ ∃ n : Nat, x = n ∧ n < 256 ∧ mem b n = true := by
  unfold elems
  simp only [List.mem_map, List.mem_filter, List.mem_range]
  constructor
  · rintro ⟨n, ⟨h1, h2⟩, rfl⟩; exact ⟨n, rfl, h1, h2⟩
  · rintro ⟨n, rfl, h1, h2⟩; exact ⟨n, ⟨h1, h2⟩, rfl⟩
theorem elems_lt (b : Nat → Int) : (elems b).Pairwise (· < ·) := by
  unfold elems
  rw [List.pairwise_map]
  refine ((List.pairwise_lt_range).filter _).imp ?_
  intro x y h
  omega


theorem Without_eq (b : Nat → Int) (n : Nat) (h : n < 256) : bits_Without b n = some (withoutF b n) := by
  unfold bits_Without
  obtain ⟨h1, h2⟩ := place n h
  rw [fits_nat n h, Option.bind_some, cond_true, h1, h2, if_pos (by omega), if_pos (by omega), if_pos (by omega), Int.toNat_natCast, Int.toNat_natCast, one_eq _ (by omega)]
  rfl
theorem eqW {a b : Nat → Int} (h : ∀ i, i < 4 → a i = b i) : ((((a 0) : Int) == (b 0)) && ((((a 1) : Int) == (b 1)) && ((((a 2) : Int) == (b 2)) && ((((a 3) : Int) == (b 3)) && true)))) = true := by
  simp [h]
theorem next_unique {b : Nat → Int} {f : Nat} {r s : Int} (h : NextIs b f r) (k : NextIs b f s) : r = s := by
  rcases h with ⟨rfl, h⟩ | ⟨n, rfl, h1, h2, h3, h4⟩ <;> rcases k with ⟨rfl, k⟩ | ⟨m, rfl, k1, k2, k3, k4⟩
  · rfl
  · rw [h m k2 k1] at k3; cases k3
  · rw [k n h2 h1] at h3; cases h3
  · rcases Nat.lt_trichotomy n m with e | e | e
    · rw [k4 n h2 e] at h3; cases h3
    · rw [e]
    · rw [h4 m k2 e] at k3; cases k3
def tailsOf (b : Nat → Int) (f : Nat) : List Int := ((List.range' f (256 - f)).filter (mem b)).map (fun n : Nat => (n : Int))
theorem tails_zero (b : Nat → Int) : tailsOf b 0 = elems b := by
  unfold tailsOf elems
  rw [List.range_eq_range']
theorem tails_cases (b : Nat → Int) : ∀ (j f : Nat), f ≤ 256 → 256 - f = j → (tailsOf b f = [] ∧ NextIs b f (-1)) ∨ ∃ n : Nat, tailsOf b f = (n : Int) :: tailsOf b (n + 1) ∧ NextIs b f n ∧ n < 256 := by
  intro j
  induction j with
  | zero =>
    intro f h1 h2
    refine .inl ⟨?_, .inl ⟨rfl, fun m m1 m2 => by omega⟩⟩
    unfold tailsOf
    rw [h2]; rfl
  | succ j ih =>
    intro f h1 h2
    have hr : List.range' f (256 - f) = f :: List.range' (f + 1) (256 - (f + 1)) := by
      rw [h2, List.range'_succ, show 256 - (f + 1) = j by omega]
    cases hm : mem b f with
    | true =>
      refine .inr ⟨f, ?_, .inr ⟨f, rfl, by omega, by omega, hm, fun m m1 m2 => by omega⟩, by omega⟩
      unfold tailsOf
      rw [hr, List.filter_cons_of_pos hm, List.map_cons]
    | false =>
      have e : tailsOf b f = tailsOf b (f + 1) := by
        unfold tailsOf
        rw [hr, List.filter_cons_of_neg (by simp [hm])]
      have ext : ∀ r, NextIs b (f + 1) r → NextIs b f r := by
        rintro r (⟨rfl, h⟩ | ⟨n, rfl, h3, h4, h5, h6⟩)
        · refine .inl ⟨rfl, fun m m1 m2 => ?_⟩
          by_cases hmf : m = f
          · rw [hmf]; exact hm
          · exact h m (by omega) m2
        · refine .inr ⟨n, rfl, h3, by omega, h5, fun m m1 m2 => ?_⟩
          by_cases hmf : m = f
          · rw [hmf]; exact hm
          · exact h6 m (by omega) m2
      rcases ih (f + 1) (by omega) (by omega) with ⟨h3, h4⟩ | ⟨n, h3, h4, h5⟩
      · exact .inl ⟨e.trans h3, ext _ h4⟩
      · exact .inr ⟨n, e.trans h3, ext _ h4, h5⟩
theorem elems_count (b : Nat → Int) : (elems b).length = (List.range 256).countP (mem b) := by
  unfold elems
  rw [List.length_map, List.countP_eq_length_filter]
/- one more, one less -/
theorem count_one (p q : Nat → Bool) (n : Nat) (hp : p n = false) (hq : ∀ k, q k = (p k || decide (k = n))) : ∀ N, (List.range N).countP q = (List.range N).countP p + if n < N then 1 else 0 := by
  intro N
  induction N with
  | zero => rfl
  | succ N ih =>
    rw [List.range_succ, List.countP_append, List.countP_append, ih, List.countP_singleton, List.countP_singleton, hq N]
    by_cases e : N = n
    · subst e
      rw [hp]
      simp
    · have : decide (N = n) = false := decide_eq_false e
      rw [this, Bool.or_false]
      by_cases h2 : n < N
      · rw [if_pos h2, if_pos (show n < N + 1 by omega)]; omega
      · rw [if_neg h2, if_neg (show ¬ n < N + 1 by omega)]; omega
theorem with_len {b : Nat → Int} (h : okB b) (n : Nat) (hn : n < 256) (hm : mem b n = false) : (elems (withF b n)).length = (elems b).length + 1 := by
  rw [elems_count, elems_count, count_one (mem b) (mem (withF b n)) n hm (fun k => withF_mem h n k hn), if_pos hn]
theorem without_len {b : Nat → Int} (h : okB b) (n : Nat) (hn : n < 256) (hm : mem b n = true) : (elems (withoutF b n)).length + 1 = (elems b).length := by
  rw [elems_count, elems_count, count_one (mem (withoutF b n)) (mem b) n (by rw [withoutF_mem h n n hn]; simp) (fun k => by
    rw [withoutF_mem h n k hn]
    by_cases e : k = n
    · subst e; rw [hm]; simp
    · simp [e]), if_pos hn]
end Go.Proofs.YtdfgmloipigmfaaDoor
