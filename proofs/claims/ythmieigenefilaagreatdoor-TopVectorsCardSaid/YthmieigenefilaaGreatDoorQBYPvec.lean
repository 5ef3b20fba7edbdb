import Derived.Test.YthmieigenefilaaGreatDoorQBYM
import Derived.Test.YthmieigenefilaaGreatDoorPLib
import Derived.Lib.TrailingZeros
import Derived.Lib.ItoaNum
set_option linter.unusedSimpArgs false
set_option linter.unusedVariables false
namespace Go.Proofs.YthmieigenefilaaGreatDoor
open Go Go.Ab
abbrev U64 (x : Int) : Prop := 0 ≤ x ∧ x ≤ 18446744073709551615
def okB (b : Nat → Int) : Prop := ∀ i, i < 4 → U64 (b i)
def tb (x : Int) (k : Nat) : Bool := x.toNat.testBit k
def mem (b : Nat → Int) (n : Nat) : Bool := tb (b (n / 64)) (n % 64)
theorem u64_wrap (n : Int) (h : U64 n) : IntKind.u64.wrap n = n := by
 have : IntKind.u64.wrap n = n % 18446744073709551616 := by simp [IntKind.wrap, IntKind.signed, IntKind.bits]
 rw [this]; omega
theorem bv_tb (v : BitVec 64) (k : Nat) : tb (IntKind.u64.wrap (v.toNat : Int)) k = v.getLsbD k := by
 have := v.isLt
 rw [u64_wrap _ (by constructor <;> omega)]
 unfold tb
 rw [Int.toNat_natCast, BitVec.testBit_toNat]
theorem bv_u64 (v : BitVec 64) : U64 (IntKind.u64.wrap (v.toNat : Int)) := by
 have := v.isLt
 rw [u64_wrap _ (by constructor <;> omega)]
 constructor <;> omega
theorem ofInt_tb (x : Int) (h : U64 x) (k : Nat) : (BitVec.ofInt 64 x).getLsbD k = tb x k := by
 unfold tb
 rw [← BitVec.testBit_toNat, BitVec.toNat_ofInt]
 congr 1
 rw [show ((2 ^ 64 : Nat) : Int) = 18446744073709551616 by rfl, Int.emod_eq_of_lt h.1 (by omega)]
theorem tb_hi (x : Int) (h : U64 x) (k : Nat) (hk : 64 ≤ k) : tb x k = false := by
 unfold tb
 exact Nat.testBit_lt_two_pow (Nat.lt_of_lt_of_le (show x.toNat < 2 ^ 64 by omega) (Nat.pow_le_pow_right (by omega) hk))
theorem tb_ext (x y : Int) (hx : U64 x) (hy : U64 y) (h : ∀ k, k < 64 → tb x k = tb y k) : x = y := by
 have : x.toNat = y.toNat := Nat.eq_of_testBit_eq fun k => by
  rcases Nat.lt_or_ge k 64 with hk | hk
  ·exact h k hk
  ·exact (tb_hi x hx k hk).trans (tb_hi y hy k hk).symm
 omega
theorem or_tb (x y : Int) (hx : U64 x) (hy : U64 y) (k : Nat) : tb (bitsOf .or .u64 x y) k = (tb x k || tb y k) := by
 show tb (IntKind.u64.wrap ((BitVec.ofInt 64 x ||| BitVec.ofInt 64 y).toNat : Int)) k = _
 rw [bv_tb, BitVec.getLsbD_or, ofInt_tb x hx, ofInt_tb y hy]
theorem and_tb (x y : Int) (hx : U64 x) (hy : U64 y) (k : Nat) : tb (bitsOf .and .u64 x y) k = (tb x k && tb y k) := by
 show tb (IntKind.u64.wrap ((BitVec.ofInt 64 x &&& BitVec.ofInt 64 y).toNat : Int)) k = _
 rw [bv_tb, BitVec.getLsbD_and, ofInt_tb x hx, ofInt_tb y hy]
theorem andNot_tb (x y : Int) (hx : U64 x) (hy : U64 y) (k : Nat) : tb (bitsOf .andNot .u64 x y) k = (tb x k && !tb y k) := by
 show tb (IntKind.u64.wrap ((BitVec.ofInt 64 x &&& ~~~BitVec.ofInt 64 y).toNat : Int)) k = _
 rw [bv_tb, BitVec.getLsbD_and, BitVec.getLsbD_not, ofInt_tb x hx, ofInt_tb y hy]
 rcases Nat.lt_or_ge k 64 with hk | hk
 ·simp [hk]
 ·rw [tb_hi x hx k hk]; rfl
theorem or_u64 (x y : Int) : U64 (bitsOf .or .u64 x y) := bv_u64 _
theorem and_u64 (x y : Int) : U64 (bitsOf .and .u64 x y) := bv_u64 _
theorem andNot_u64 (x y : Int) : U64 (bitsOf .andNot .u64 x y) := bv_u64 _
theorem one_eq (r : Nat) (hr : r < 64) : IntKind.u64.wrap (1 * 2 ^ (min r IntKind.u64.bits)) = ((2 ^ r : Nat) : Int) := by
 have hb : IntKind.u64.bits = 64 := rfl
 have h1 : min r IntKind.u64.bits = r := by rw [hb]; omega
 have h2 : 2 ^ r < 2 ^ 64 := Nat.pow_lt_pow_right (by omega) hr
 have h3 : (2 : Int) ^ r = ((2 ^ r : Nat) : Int) := by simp
 rw [h1, Int.one_mul, h3]
 generalize 2 ^ r = q at *
 exact u64_wrap _ (by constructor <;> omega)
theorem one_u64 (r : Nat) (hr : r < 64) : U64 ((2 ^ r : Nat) : Int) := by
 have h2 : 2 ^ r < 2 ^ 64 := Nat.pow_lt_pow_right (by omega) hr
 generalize 2 ^ r = q at *
 constructor <;> omega
theorem one_tb (r k : Nat) : tb ((2 ^ r : Nat) : Int) k = decide (r = k) := by
 unfold tb
 rw [Int.toNat_natCast, Nat.testBit_two_pow]
theorem low_eq (r : Nat) (hr : r < 64) : IntKind.u64.wrap (((2 ^ r : Nat) : Int) - 1) = ((2 ^ r - 1 : Nat) : Int) := by
 have h2 : 2 ^ r < 2 ^ 64 := Nat.pow_lt_pow_right (by omega) hr
 have h3 : 0 < 2 ^ r := Nat.two_pow_pos r
 generalize 2 ^ r = q at *
 rw [u64_wrap _ (by constructor <;> omega)]
 omega
theorem low_u64 (r : Nat) (hr : r < 64) : U64 ((2 ^ r - 1 : Nat) : Int) := by
 have h2 : 2 ^ r < 2 ^ 64 := Nat.pow_lt_pow_right (by omega) hr
 generalize 2 ^ r = q at *
 constructor <;> omega
theorem low_tb (r k : Nat) : tb ((2 ^ r - 1 : Nat) : Int) k = decide (k < r) := by
 unfold tb
 rw [Int.toNat_natCast, Nat.testBit_two_pow_sub_one]
theorem place (n : Nat) (h : n < 256) : IntKind.i64.wrap (Int.tdiv (n : Int) 64) = ((n / 64 : Nat) : Int) ∧ Int.tmod (n : Int) 64 = ((n % 64 : Nat) : Int) := by
 have h1 : Int.tdiv (n : Int) 64 = ((n / 64 : Nat) : Int) := by rw [Int.tdiv_eq_ediv_of_nonneg (by omega)]; omega
 refine ⟨by rw [h1, wrap_id (by omega) (by omega)], ?_⟩
 rw [Int.tmod_eq_emod_of_nonneg (by omega)]; omega
theorem fits_eq (n : Int) : bits_fits n = some (decide (0 ≤ n ∧ n < 256)) := by
 unfold bits_fits
 by_cases h1 : 0 ≤ n <;> by_cases h2 : n < 256 <;> simp [h1, h2]
theorem fits_nat (n : Nat) (h : n < 256) : bits_fits n = some true := by rw [fits_eq]; simp; omega
theorem fits_out (n : Int) (h : ¬ (0 ≤ n ∧ n < 256)) : bits_fits n = some false := by rw [fits_eq]; simp; omega
def withF (b : Nat → Int) (n : Nat) : Nat → Int := upd b (n / 64) (bitsOf .or .u64 (b (n / 64)) ((2 ^ (n % 64) : Nat) : Int))
def withoutF (b : Nat → Int) (n : Nat) : Nat → Int := upd b (n / 64) (bitsOf .andNot .u64 (b (n / 64)) ((2 ^ (n % 64) : Nat) : Int))
theorem okB_upd {b : Nat → Int} (h : okB b) (i : Nat) {x : Int} (hx : U64 x) : okB (upd b i x) := by
 intro j hj
 unfold upd
 split
 ·exact hx
 ·exact h j hj
theorem withF_ok {b : Nat → Int} (h : okB b) (n : Nat) : okB (withF b n) := okB_upd h _ (or_u64 _ _)
theorem withoutF_ok {b : Nat → Int} (h : okB b) (n : Nat) : okB (withoutF b n) := okB_upd h _ (andNot_u64 _ _)
theorem withF_mem {b : Nat → Int} (h : okB b) (n k : Nat) (hn : n < 256) : mem (withF b n) k = (mem b k || decide (k = n)) := by
 unfold mem withF upd
 by_cases e : k / 64 = n / 64
 ·rw [if_pos e, or_tb _ _ (h _ (by omega)) (one_u64 _ (by omega)), one_tb, e]
  congr 1
  simp only [decide_eq_decide]
  omega
 ·rw [if_neg e]
  have : k ≠ n := fun x => e (by rw [x])
  simp [this]
theorem withoutF_mem {b : Nat → Int} (h : okB b) (n k : Nat) (hn : n < 256) : mem (withoutF b n) k = (mem b k && !decide (k = n)) := by
 unfold mem withoutF upd
 by_cases e : k / 64 = n / 64
 ·rw [if_pos e, andNot_tb _ _ (h _ (by omega)) (one_u64 _ (by omega)), one_tb, e]
  congr 2
  simp only [decide_eq_decide]
  omega
 ·rw [if_neg e]
  have : k ≠ n := fun x => e (by rw [x])
  simp [this]
theorem With_eq (b : Nat → Int) (n : Nat) (h : n < 256) : bits_With b n = some (withF b n) := by
 unfold bits_With
 obtain ⟨h1, h2⟩ := place n h
 rw [fits_nat n h, Option.bind_some, cond_true, h1, h2, if_pos (by omega), if_pos (by omega), if_pos (by omega), Int.toNat_natCast, Int.toNat_natCast, one_eq _ (by omega)]
 rfl
theorem Has_eq (b : Nat → Int) (n : Nat) (h : n < 256) (hb : okB b) : bits_Has b n = some (mem b n) := by
 unfold bits_Has
 obtain ⟨h1, h2⟩ := place n h
 rw [fits_nat n h, Option.bind_some, h1, h2, if_pos (by intro _; omega), if_pos (by intro _; omega), Int.toNat_natCast, Int.toNat_natCast, Bool.true_and]
 congr 1
 have hx := hb (n / 64) (by omega)
 unfold mem
 generalize b (n / 64) = x at *
 have hr : n % 64 < 64 := by omega
 generalize n % 64 = r at *
 have hm : min r IntKind.u64.bits = r := by rw [show IntKind.u64.bits = 64 from rfl]; omega
 have hf : Int.fdiv x (2 ^ r) = ((x.toNat / 2 ^ r : Nat) : Int) := by
  obtain ⟨m, rfl⟩ := Int.eq_ofNat_of_zero_le hx.1
  have h3 : (2 : Int) ^ r = ((2 ^ r : Nat) : Int) := by simp
  rw [h3, Int.fdiv_eq_ediv_of_nonneg _ (Int.natCast_nonneg _), Int.toNat_natCast]
  rfl
 have hlt : x.toNat / 2 ^ r ≤ x.toNat := Nat.div_le_self _ _
 have hu : U64 ((x.toNat / 2 ^ r : Nat) : Int) := by
  have := hx.2
  generalize x.toNat / 2 ^ r = q at *
  constructor <;> omega
 rw [hm, hf]
 have h1u : U64 (1 : Int) := by decide
 have key : bitsOf .and .u64 ((x.toNat / 2 ^ r : Nat) : Int) 1 = if tb x r then 1 else 0 := by
  refine tb_ext _ _ (and_u64 _ _) (by split <;> decide) fun k hk => ?_
  rw [and_tb _ _ hu h1u]
  have e1 : tb ((x.toNat / 2 ^ r : Nat) : Int) k = tb x (k + r) := by
   unfold tb
   rw [Int.toNat_natCast, Nat.testBit_div_two_pow]
  rw [e1]
  rcases Nat.eq_zero_or_pos k with rfl | hk0
  ·rw [Nat.zero_add]
   cases tb x r <;> rfl
  ·have e2 : tb 1 k = false := by
    unfold tb
    exact Nat.testBit_lt_two_pow (Nat.one_lt_two_pow (by omega))
   rw [e2, Bool.and_false]
   split
   ·exact e2.symm
   ·unfold tb; simp
 rw [key]
 cases tb x r <;> rfl
def NextIs (b : Nat → Int) (f : Nat) (r : Int) : Prop :=
 (r = -1 ∧ ∀ m, f ≤ m → m < 256 → mem b m = false) ∨ ∃ n : Nat, r = n ∧ n < 256 ∧ f ≤ n ∧ mem b n = true ∧ ∀ m, f ≤ m → m < n → mem b m = false
theorem ctz_spec (x : Int) (h : U64 x) (h0 : x ≠ 0) : Lib.ctz 64 x.toNat < 64 ∧ tb x (Lib.ctz 64 x.toNat) = true ∧ ∀ k, k < Lib.ctz 64 x.toNat → tb x k = false := by
 have hx : x.toNat ≠ 0 := by omega
 obtain ⟨m, e, hlt⟩ := Lib.ctzFrom_spec 64 x.toNat (by omega) (by omega)
 unfold Lib.ctz tb
 rw [if_neg hx]
 generalize Lib.ctzFrom 64 x.toNat = c at *
 rw [e]
 refine ⟨hlt, ?_, fun k hk => ?_⟩
 ·rw [Nat.testBit_two_pow_mul]
  simp
 ·rw [Nat.testBit_two_pow_mul]
  have : ¬ (k ≥ c) := by omega
  simp [this]
theorem tb_zero_of (x : Int) (h : x = 0) (k : Nat) : tb x k = false := by
 subst h; unfold tb; simp
theorem if_max (a : Int) (f : Nat) (h : a = f ∨ (a < 0 ∧ f = 0)) : (if (0 : Int) > a then 0 else a) = (f : Int) := by
 split <;> omega
def maskF (b : Nat → Int) (f : Nat) : Nat → Int := upd b (f / 64) (bitsOf .andNot .u64 (b (f / 64)) ((2 ^ (f % 64) - 1 : Nat) : Int))
theorem maskF_ok {b : Nat → Int} (h : okB b) (f : Nat) : okB (maskF b f) := okB_upd h _ (andNot_u64 _ _)
theorem maskF_mem {b : Nat → Int} (h : okB b) (f m : Nat) (hm : m < 256) (hf : f / 64 ≤ m / 64) : mem (maskF b f) m = (mem b m && decide (f ≤ m)) := by
 unfold mem maskF upd
 by_cases e : m / 64 = f / 64
 ·rw [if_pos e, andNot_tb _ _ (h _ (by omega)) (low_u64 _ (by omega)), low_tb, e]
  congr 1
  rw [← decide_not]
  simp only [decide_eq_decide]
  omega
 ·rw [if_neg e]
  have : f ≤ m := by omega
  simp [this]
theorem next_l1_eq (b : Nat → Int) (a1 : Int) (f : Nat) (hif : (if (0 : Int) > a1 then 0 else a1) = (f : Int)) (hf : f < 256) (hb : okB b) : ∀ n (x : Nat), f / 64 ≤ x → x ≤ 4 → 4 - x < n → (∀ m, f ≤ m → m < 64 * x → mem b m = false) →
  ∃ r, bits_Next_l1 b a1 n (x : Int) = some r ∧ NextIs b f r := by
 intro n
 induction n with
 | zero => intro x h1 h2 h3; omega
 | succ n ih =>
  intro x h1 h2 h3 h4
  obtain ⟨p1, p2⟩ := place f hf
  unfold bits_Next_l1
  rcases Nat.lt_or_ge x 4 with hx | hx
  ·have e0 : upd b (f / 64) (bitsOf .andNot .u64 (b (f / 64)) ((2 ^ (f % 64) - 1 : Nat) : Int)) = maskF b f := rfl
   have d4 : decide (((x : Nat) : Int) < 4) = true := decide_eq_true (by omega)
   simp only [hif, p1, p2, Int.toNat_natCast, one_eq _ (show f % 64 < 64 by omega), low_eq _ (show f % 64 < 64 by omega)]
   rw [d4, cond_true, if_pos (by omega), e0]
   have hcu := maskF_ok hb f x hx
   by_cases hz : maskF b f x = 0
   ·rw [show (maskF b f x != 0) = false by simp [hz], cond_false, show IntKind.i64.wrap ((x : Int) + 1) = ((x + 1 : Nat) : Int) by rw [wrap_id (by omega) (by omega)]; omega]
    refine ih (x + 1) (by omega) (by omega) (by omega) fun m m1 m2 => ?_
    rcases Nat.lt_or_ge m (64 * x) with m3 | m3
    ·exact h4 m m1 m3
    ·have := maskF_mem hb f m (by omega) (by omega)
     unfold mem at this ⊢
     rw [show m / 64 = x by omega, tb_zero_of _ hz] at this
     rw [show m / 64 = x by omega]
     simpa [m1] using this.symm
   ·obtain ⟨c1, c2, c3⟩ := ctz_spec _ hcu hz
    rw [show (maskF b f x != 0) = true by simpa using hz, cond_true, if_pos (by omega)]
    unfold bits_TrailingZeros64
    rw [if_pos ⟨hcu.1, by have := hcu.2; omega⟩, Option.bind_some]
    generalize Lib.ctz 64 (maskF b f x).toNat = c at *
    refine ⟨_, rfl, .inr ⟨64 * x + c, ?_, by omega, ?_, ?_, ?_⟩⟩
    ·rw [wrap_id (x := 64 * (x : Int)) (by omega) (by omega), wrap_id (by omega) (by omega)]; omega
    ·have := maskF_mem hb f (64 * x + c) (by omega) (by omega)
     unfold mem at this
     rw [show (64 * x + c) / 64 = x by omega, show (64 * x + c) % 64 = c by omega, c2] at this
     have := this.symm
     simp only [Bool.and_eq_true, decide_eq_true_eq] at this
     exact this.2
    ·have := maskF_mem hb f (64 * x + c) (by omega) (by omega)
     rw [show mem (maskF b f) (64 * x + c) = true by unfold mem; rw [show (64 * x + c) / 64 = x by omega, show (64 * x + c) % 64 = c by omega, c2]] at this
     have := this.symm
     simp only [Bool.and_eq_true, decide_eq_true_eq] at this
     exact this.1
    ·intro m m1 m2
     rcases Nat.lt_or_ge m (64 * x) with m3 | m3
     ·exact h4 m m1 m3
     ·have := maskF_mem hb f m (by omega) (by omega)
      rw [show mem (maskF b f) m = false by unfold mem; rw [show m / 64 = x by omega]; exact c3 _ (by omega)] at this
      simpa [m1] using this.symm
  ·have d4 : decide (((x : Nat) : Int) < 4) = false := decide_eq_false (by omega)
   rw [d4, cond_false]
   exact ⟨_, rfl, .inl ⟨rfl, fun m m1 m2 => h4 m m1 (by omega)⟩⟩
theorem Next_eq (b : Nat → Int) (a : Int) (f : Nat) (h : a = f ∨ (a < 0 ∧ f = 0)) (hf : f < 256) (hb : okB b) : ∃ r, bits_Next b a = some r ∧ NextIs b f r := by
 have hif := if_max a f h
 obtain ⟨p1, p2⟩ := place f hf
 unfold bits_Next
 rw [hif, fits_nat f hf, Option.bind_some, Bool.not_true, cond_false, p1, p2, if_pos (by omega), if_pos (by omega), if_pos (by omega)]
 exact next_l1_eq b a f hif hf hb FUEL (f / 64) (by omega) (by omega) (fuel_gt (by omega)) (fun m m1 m2 => by omega)
theorem Next_out (b : Nat → Int) (a : Int) (h : 256 ≤ a) : bits_Next b a = some (-1) := by
 unfold bits_Next
 rw [show (if (0 : Int) > a then 0 else a) = a by split <;> omega, fits_out a (by omega), Option.bind_some]
 rfl
theorem Next_le (b : Nat → Int) (f : Nat) (hf : f ≤ 256) (hb : okB b) : ∃ r, bits_Next b (f : Int) = some r ∧ NextIs b f r := by
 rcases Nat.lt_or_ge f 256 with h | h
 ·exact Next_eq b f f (.inl rfl) h hb
 ·exact ⟨-1, Next_out b f (by omega), .inl ⟨rfl, fun m m1 m2 => by omega⟩⟩
def elems (b : Nat → Int) : List Int := ((List.range 256).filter (mem b)).map (fun n : Nat => (n : Int))
theorem range_skip (b : Nat → Int) (p : Nat) : ∀ n, p ≤ n → (∀ m, p ≤ m → m < n → mem b m = false) → (List.range n).filter (mem b) = (List.range p).filter (mem b) := by
 intro n
 induction n with
 | zero => intro h _; rw [show p = 0 by omega]
 | succ n ih =>
  intro h hm
  rcases Nat.lt_or_ge n p with hlt | hge
  ·rw [show p = n + 1 by omega]
  ·rw [List.range_succ, List.filter_append, ih hge (fun m m1 m2 => hm m m1 (by omega))]
   simp [hm n hge (by omega)]
theorem all_l1_eq (b : Nat → Int) (r1 : Int) (hb : okB b) : ∀ n (l : List Int) (x : Int) (p : Nat), p ≤ 256 → 256 - p < n → l = ((List.range p).filter (mem b)).map (fun n : Nat => (n : Int)) → NextIs b p x →
  bits_All_l1 b r1 n l x = some (elems b) := by
 intro n
 induction n with
 | zero => intro l x p h1 h2; omega
 | succ n ih =>
  intro l x p h1 h2 hl hx
  unfold bits_All_l1
  rcases hx with ⟨rfl, hx⟩ | ⟨k, rfl, hk, hpk, hmk, hx⟩
  ·rw [show decide ((-1 : Int) ≥ 0) = false by decide, cond_false, hl]
   unfold elems
   rw [range_skip b p 256 h1 hx]
  ·have hll : l.length ≤ 256 := by
    rw [hl, List.length_map]
    exact Nat.le_trans (List.length_filter_le _ _) (by rw [List.length_range]; exact h1)
   rw [show decide (((k : Nat) : Int) ≥ 0) = true by simp, cond_true, if_pos (by simp only [List.length_singleton]; omega), show IntKind.i64.wrap ((k : Int) + 1) = ((k + 1 : Nat) : Int) by rw [wrap_id (by omega) (by omega)]; omega]
   obtain ⟨r, hr, hn⟩ := Next_le b (k + 1) (by omega) hb
   rw [hr, Option.bind_some]
   refine ih _ r (k + 1) (by omega) (by omega) ?_ hn
   rw [List.range_succ, List.filter_append, range_skip b p k hpk hx, List.map_append, hl]
   simp [hmk]
theorem All_eq (b : Nat → Int) (hb : okB b) : bits_All b = some (elems b) := by
 unfold bits_All
 obtain ⟨r, hr, hn⟩ := Next_le b 0 (by omega) hb
 rw [show bits_Next b 0 = bits_Next b ((0 : Nat) : Int) from rfl, hr, Option.bind_some]
 exact all_l1_eq b r hb FUEL [] r 0 (by omega) (fuel_gt (by omega)) (by simp) hn
theorem Without_eq (b : Nat → Int) (n : Nat) (h : n < 256) : bits_Without b n = some (withoutF b n) := by
 unfold bits_Without
 obtain ⟨h1, h2⟩ := place n h
 rw [fits_nat n h, Option.bind_some, cond_true, h1, h2, if_pos (by omega), if_pos (by omega), if_pos (by omega), Int.toNat_natCast, Int.toNat_natCast, one_eq _ (by omega)]
 rfl
theorem elems_count (b : Nat → Int) : (elems b).length = (List.range 256).countP (mem b) := by
 unfold elems
 rw [List.length_map, List.countP_eq_length_filter]
theorem count_one (p q : Nat → Bool) (n : Nat) (hp : p n = false) (hq : ∀ k, q k = (p k || decide (k = n))) : ∀ N, (List.range N).countP q = (List.range N).countP p + if n < N then 1 else 0 := by
 intro N
 induction N with
 | zero => rfl
 | succ N ih =>
  rw [List.range_succ, List.countP_append, List.countP_append, ih, List.countP_singleton, List.countP_singleton, hq N]
  by_cases e : N = n
  ·subst e
   rw [hp]
   simp
  ·have : decide (N = n) = false := decide_eq_false e
   rw [this, Bool.or_false]
   by_cases h2 : n < N
   ·rw [if_pos h2, if_pos (show n < N + 1 by omega)]; omega
   ·rw [if_neg h2, if_neg (show ¬ n < N + 1 by omega)]; omega
theorem with_len {b : Nat → Int} (h : okB b) (n : Nat) (hn : n < 256) (hm : mem b n = false) : (elems (withF b n)).length = (elems b).length + 1 := by
 rw [elems_count, elems_count, count_one (mem b) (mem (withF b n)) n hm (fun k => withF_mem h n k hn), if_pos hn]
theorem without_len {b : Nat → Int} (h : okB b) (n : Nat) (hn : n < 256) (hm : mem b n = true) : (elems (withoutF b n)).length + 1 = (elems b).length := by
 rw [elems_count, elems_count, count_one (mem (withoutF b n)) (mem b) n (by rw [withoutF_mem h n n hn]; simp) (fun k => by
  rw [withoutF_mem h n k hn]
  by_cases e : k = n
  ·subst e; rw [hm]; simp
  ·simp [e]), if_pos hn]
abbrev T := Vector_table
abbrev S0 : Api_Slot := ⟨0, 0⟩
abbrev Z4 : Nat → Int := fun (_ : Nat) => (0 : Int)
def core (t : T) (c : Nat) : Nat → Int := t.taken_.getD c Z4
def slot (t : T) (i : Nat) : Api_Slot := t.of_.getD i S0
def load (t : T) (c : Nat) : Nat := (elems (core t c)).length
def onCore (c : Nat) (s : Api_Slot) : Bool := decide (s.Vec > 0) && (s.Core == (c : Int))
structure Inv (t : T) (cs ls : Nat) : Prop where
 c : 1 ≤ cs ∧ cs ≤ 8
 cores : t.cores_ = cs
 tl : t.taken_.length = cs
 ol : t.of_.length = ls
 l : ls ≤ 2000
 ok : ∀ c, c < cs → okB (core t c)
 low : ∀ c v, c < cs → v < 256 → mem (core t c) v = true → 32 ≤ v
 sl : ∀ i, i < ls → slot t i = S0 ∨ ∃ c v : Nat, slot t i = ⟨c, v⟩ ∧ c < cs ∧ 32 ≤ v ∧ v < 256 ∧ mem (core t c) v = true
 inj : ∀ i j, i < ls → j < ls → (slot t i).Vec > 0 → slot t i = slot t j → i = j
 cnt : ∀ c, c < cs → load t c = t.of_.countP (onCore c)
def bitI (m : Int) (c : Nat) : Bool := (bitsOf .and .i64 (Int.fdiv m (2 ^ (min c IntKind.i64.bits))) 1 : Int) == 1
theorem load_eq {t : T} {cs ls : Nat} (h : Inv t cs ls) (c : Nat) (hc : c < cs) : vector_table_load t c = some ((load t c : Nat) : Int) := by
 unfold vector_table_load
 rw [if_pos (by rw [h.tl]; omega), Int.toNat_natCast]
 have := All_eq _ (h.ok c hc)
 unfold core at this
 rw [this]
 rfl
def Can (t : T) (m : Int) (but : Int) (c : Nat) : Prop := bitI m c = true ∧ (c : Int) ≠ but ∧ load t c < 224
def BestIs (t : T) (cs : Nat) (m but r : Int) : Prop :=
 (r = -1 ∧ ∀ c, c < cs → ¬ Can t m but c) ∨ ∃ c : Nat, r = c ∧ c < cs ∧ Can t m but c ∧ ∀ d, d < cs → Can t m but d → load t c ≤ load t d
theorem best_l1_eq {t : T} {cs ls : Nat} (h : Inv t cs ls) (m but : Int) : ∀ n (r : Int) (k : Nat), k ≤ cs → cs - k < n → BestIs t k m but r →
  ∃ r', vector_table_best_l1 t m but n r (k : Int) = some r' ∧ BestIs t cs m but r' := by
 have hc := h.c
 intro n
 induction n with
 | zero => intro r k h1 h2; omega
 | succ n ih =>
  intro r k h1 h2 hr
  unfold vector_table_best_l1
  rw [h.cores]
  rcases Nat.lt_or_ge k cs with hlt | hge
  ·rw [show decide (((k : Nat) : Int) < ((cs : Nat) : Int)) = true from decide_eq_true (by omega), cond_true, if_pos (by omega), Int.toNat_natCast]
   have hbit : ((bitsOf .and .i64 (Int.fdiv m (2 ^ (min k IntKind.i64.bits))) 1 : Int) == 1) = bitI m k := rfl
   rw [hbit, load_eq h k hlt, show IntKind.i64.wrap ((k : Int) + 1) = ((k + 1 : Nat) : Int) by rw [wrap_id (by omega) (by omega)]; omega]
   have hstep : ∀ r', BestIs t (k + 1) m but r' → ∃ r'', vector_table_best_l1 t m but n r' ((k + 1 : Nat) : Int) = some r'' ∧ BestIs t cs m but r'' := fun r' h' => ih r' (k + 1) (by omega) (by omega) h'
   have hno : ¬ Can t m but k → BestIs t (k + 1) m but r := by
    intro hn
    rcases hr with ⟨rfl, hr⟩ | ⟨c, rfl, c1, c2, c3⟩
    ·refine .inl ⟨rfl, fun d hd => ?_⟩
     by_cases e : d = k
     ·rw [e]; exact hn
     ·exact hr d (by omega)
    ·refine .inr ⟨c, rfl, by omega, c2, fun d hd hcd => ?_⟩
     by_cases e : d = k
     ·rw [e] at hcd; exact absurd hcd hn
     ·exact c3 d (by omega) hcd
   by_cases hb : bitI m k = true ∧ (k : Int) ≠ but
   ·have e1 : (bitI m k && (((k : Nat) : Int) != but)) = true := by simp [hb.1, hb.2]
    rw [e1]
    simp only [cond_true, Option.bind_some, Bool.true_and]
    by_cases hl : load t k < 224
    ·have hcan : Can t m but k := ⟨hb.1, hb.2, hl⟩
     rw [show decide (((load t k : Nat) : Int) < 224) = true from decide_eq_true (by omega)]
     simp only [Bool.true_and]
     rcases hr with ⟨rfl, hr⟩ | ⟨c, rfl, c1, c2, c3⟩
     ·simp only [show decide ((-1 : Int) < 0) = true by decide, Bool.not_true, cond_false, Option.bind_some, Bool.true_or, cond_true]
      refine hstep _ (.inr ⟨k, rfl, by omega, hcan, fun d hd hcd => ?_⟩)
      by_cases e : d = k
      ·rw [e]; exact Nat.le_refl _
      ·exact absurd hcd (hr d (by omega))
     ·rw [show decide (((c : Nat) : Int) < 0) = false from decide_eq_false (by omega)]
      simp only [Bool.not_false, cond_true, Option.bind_some, Bool.false_or]
      rw [load_eq h c (by omega), Option.bind_some]
      by_cases hle : load t k < load t c
      ·rw [show decide (((load t k : Nat) : Int) < ((load t c : Nat) : Int)) = true from decide_eq_true (by omega), cond_true]
       refine hstep _ (.inr ⟨k, rfl, by omega, hcan, fun d hd hcd => ?_⟩)
       by_cases e : d = k
       ·rw [e]; exact Nat.le_refl _
       ·have := c3 d (by omega) hcd; omega
      ·rw [show decide (((load t k : Nat) : Int) < ((load t c : Nat) : Int)) = false from decide_eq_false (by omega), cond_false]
       refine hstep _ (.inr ⟨c, rfl, by omega, c2, fun d hd hcd => ?_⟩)
       by_cases e : d = k
       ·rw [e]; omega
       ·exact c3 d (by omega) hcd
    ·rw [show decide (((load t k : Nat) : Int) < 224) = false from decide_eq_false (by omega)]
     simp only [Bool.false_and, cond_false, Option.bind_some]
     exact hstep r (hno fun hcn => hl hcn.2.2)
   ·have e1 : (bitI m k && (((k : Nat) : Int) != but)) = false := by
     rw [Bool.and_eq_false_iff]
     by_cases hb1 : bitI m k = true
     ·right
      simp only [bne_eq_false_iff_eq]
      exact Classical.byContradiction fun hx => hb ⟨hb1, hx⟩
     ·left; simpa using hb1
    rw [e1]
    simp only [cond_false, Option.bind_some, Bool.false_and]
    exact hstep r (hno fun hcn => hb ⟨hcn.1, hcn.2.1⟩)
  ·rw [show decide (((k : Nat) : Int) < ((cs : Nat) : Int)) = false from decide_eq_false (by omega), cond_false]
   have : k = cs := by omega
   subst this
   exact ⟨_, rfl, hr⟩
theorem best_eq {t : T} {cs ls : Nat} (h : Inv t cs ls) (m but : Int) : ∃ r, vector_table_best t m but = some r ∧ BestIs t cs m but r := by
 unfold vector_table_best
 have hc := h.c
 exact best_l1_eq h m but FUEL (-1) 0 (by omega) (fuel_gt (by omega)) (.inl ⟨rfl, fun c hc => by omega⟩)
theorem free_one {t : T} {cs ls : Nat} (h : Inv t cs ls) (c : Nat) (hc : c < cs) (hl : load t c < 224) : ∃ v, 32 ≤ v ∧ v < 256 ∧ mem (core t c) v = false := by
 refine Classical.byContradiction fun hn => ?_
 have hall : ∀ v, 32 ≤ v → v < 256 → mem (core t c) v = true := by
  intro v h1 h2
  cases hm : mem (core t c) v with
  | true => rfl
  | false => exact absurd ⟨v, h1, h2, hm⟩ hn
 unfold load at hl
 rw [elems_count] at hl
 have e : List.range 256 = List.range 32 ++ List.range' 32 224 := by decide +kernel
 rw [e, List.countP_append] at hl
 have : (List.range' 32 224).countP (mem (core t c)) = (List.range' 32 224).length := by
  rw [List.countP_eq_length]
  intro v hv
  rw [List.mem_range'_1] at hv
  exact hall v hv.1 (by omega)
 rw [this, List.length_range'] at hl
 omega
theorem least_l1_eq {t : T} {cs ls : Nat} (h : Inv t cs ls) (c : Nat) (hc : c < cs) (w : Nat) (hw : w < 256) (hwm : mem (core t c) w = false) : ∀ n (x : Nat), x ≤ w → w - x < n → 32 ≤ x →
  ∃ v : Nat, vector_table_least_l1 t c n (x : Int) = some (v : Int) ∧ 32 ≤ v ∧ v < 256 ∧ mem (core t c) v = false := by
 intro n
 induction n with
 | zero => intro x h1 h2; omega
 | succ n ih =>
  intro x h1 h2 h3
  unfold vector_table_least_l1
  rw [if_pos (by rw [h.tl]; omega), Int.toNat_natCast]
  have := Has_eq (core t c) x (by omega) (h.ok c hc)
  unfold core at this
  rw [this, Option.bind_some]
  have hm' : mem (t.taken_.getD c Z4) x = mem (core t c) x := rfl
  rw [hm']
  cases hm : mem (core t c) x with
  | false => exact ⟨x, rfl, h3, by omega, hm⟩
  | true =>
   rw [cond_true, show IntKind.i64.wrap ((x : Int) + 1) = ((x + 1 : Nat) : Int) by rw [wrap_id (by omega) (by omega)]; omega]
   have : x ≠ w := by
    intro e; rw [e, hwm] at hm; cases hm
   exact ih (x + 1) (by omega) (by omega) (by omega)
theorem least_eq {t : T} {cs ls : Nat} (h : Inv t cs ls) (c : Nat) (hc : c < cs) (hl : load t c < 224) : ∃ v : Nat, vector_table_least t c = some (v : Int) ∧ 32 ≤ v ∧ v < 256 ∧ mem (core t c) v = false := by
 obtain ⟨w, w1, w2, w3⟩ := free_one h c hc hl
 exact least_l1_eq h c hc w w2 w3 FUEL 32 w1 (fuel_gt (by omega)) (by omega)
def takeT (t : T) (i c v : Nat) : T := ⟨t.cores_, t.of_.set i ⟨c, v⟩, t.taken_.set c (withF (core t c) v)⟩
def giveT (t : T) (i c v : Nat) : T := ⟨t.cores_, t.of_.set i S0, t.taken_.set c (withoutF (core t c) v)⟩
theorem get_set {α : Type} (l : List α) (i k : Nat) (x d : α) (hi : i < l.length) : (l.set i x).getD k d = if k = i then x else l.getD k d := by
 rw [List.getD_eq_getElem?_getD, List.getElem?_set, List.getD_eq_getElem?_getD]
 by_cases h : i = k
 ·subst h; simp [hi]
 ·rw [if_neg h, if_neg (fun e => h e.symm)]
theorem count_set {α : Type} (p : α → Bool) (d : α) : ∀ (l : List α) (i : Nat) (x : α), i < l.length → (l.set i x).countP p + (if p (l.getD i d) then 1 else 0) = l.countP p + (if p x then 1 else 0)
 | [], i, x, h => by simp at h
 | y :: l, 0, x, _ => by
  simp only [List.set_cons_zero, List.countP_cons, List.getD_cons_zero]
  omega
 | y :: l, i + 1, x, h => by
  have := count_set p d l i x (by simpa using h)
  simp only [List.set_cons_succ, List.countP_cons, List.getD_cons_succ]
  omega
theorem take_inv {t : T} {cs ls : Nat} (h : Inv t cs ls) (i c v : Nat) (hi : i < ls) (hs : slot t i = S0) (hc : c < cs) (h32 : 32 ≤ v) (h256 : v < 256) (hm : mem (core t c) v = false) : Inv (takeT t i c v) cs ls ∧ load (takeT t i c v) c = load t c + 1 ∧ (∀ d, d < cs → d ≠ c → load (takeT t i c v) d = load t d) := by
 have hok := h.ok c hc
 have hcore : ∀ d, core (takeT t i c v) d = if d = c then withF (core t c) v else core t d := fun d => by
  unfold core takeT
  exact get_set _ _ _ _ _ (by rw [h.tl]; exact hc)
 have hslot : ∀ j, slot (takeT t i c v) j = if j = i then ⟨(c : Int), (v : Int)⟩ else slot t j := fun j => by
  unfold slot takeT
  exact get_set _ _ _ _ _ (by rw [h.ol]; exact hi)
 have hmem : ∀ d u, mem (core t d) u = true → mem (core (takeT t i c v) d) u = true := by
  intro d u hu
  rw [hcore]
  by_cases e : d = c
  ·subst e; rw [if_pos rfl, withF_mem hok v u h256, hu]; rfl
  ·rw [if_neg e]; exact hu
 have hload1 : load (takeT t i c v) c = load t c + 1 := by
  unfold load
  rw [hcore, if_pos rfl]
  exact with_len hok v h256 hm
 have hload2 : ∀ d, d ≠ c → load (takeT t i c v) d = load t d := by
  intro d hd
  unfold load
  rw [hcore, if_neg hd]
 refine ⟨⟨h.c, h.cores, by simp [takeT, h.tl], by simp [takeT, h.ol], h.l, fun d hd => ?_, fun d u hd hu hmu => ?_, fun j hj => ?_, fun j k hj hk hv he => ?_, fun d hd => ?_⟩, hload1, fun d _ hd => hload2 d hd⟩
 ·rw [hcore]
  split
  ·exact withF_ok hok v
  ·exact h.ok d hd
 ·rw [hcore] at hmu
  by_cases e : d = c
  ·subst e
   rw [if_pos rfl, withF_mem hok v u h256, Bool.or_eq_true, decide_eq_true_eq] at hmu
   rcases hmu with hmu | rfl
   ·exact h.low d u hd hu hmu
   ·exact h32
  ·rw [if_neg e] at hmu; exact h.low d u hd hu hmu
 ·rw [hslot]
  by_cases e : j = i
  ·rw [if_pos e]
   refine .inr ⟨c, v, rfl, hc, h32, h256, ?_⟩
   rw [hcore, if_pos rfl, withF_mem hok v v h256]
   simp
  ·rw [if_neg e]
   rcases h.sl j hj with h1 | ⟨c', v', h1, h2, h3, h4, h5⟩
   ·exact .inl h1
   ·exact .inr ⟨c', v', h1, h2, h3, h4, hmem _ _ h5⟩
 ·rw [hslot] at hv
  rw [hslot, hslot] at he
  have other : ∀ k, k < ls → (⟨(c : Int), (v : Int)⟩ : Api_Slot) ≠ slot t k := by
   intro k hk e2
   rcases h.sl k hk with h1 | ⟨c', v', h1, h2, h3, h4, h5⟩
   ·rw [h1] at e2
    simp only [Api_Slot.mk.injEq] at e2
    omega
   ·rw [h1] at e2
    simp only [Api_Slot.mk.injEq] at e2
    have e3 : c' = c := by omega
    have e4 : v' = v := by omega
    subst e3 e4
    rw [h5] at hm; cases hm
  by_cases e1 : j = i <;> by_cases e2 : k = i
  ·omega
  ·rw [if_pos e1, if_neg e2] at he; exact absurd he (other k hk)
  ·rw [if_neg e1, if_pos e2] at he; exact absurd he.symm (other j hj)
  ·rw [if_neg e1, if_neg e2] at he
   rw [if_neg e1] at hv
   exact h.inj j k hj hk hv he
 ·have hcs := count_set (onCore d) S0 t.of_ i ⟨(c : Int), (v : Int)⟩ (by rw [h.ol]; exact hi)
  have h0 : t.of_.getD i S0 = S0 := hs
  rw [h0] at hcs
  have e0 : onCore d S0 = false := rfl
  rw [e0] at hcs
  have hcn := h.cnt d hd
  show load (takeT t i c v) d = (t.of_.set i ⟨(c : Int), (v : Int)⟩).countP (onCore d)
  by_cases e : d = c
  ·subst e
   have e1 : onCore d ⟨(d : Int), (v : Int)⟩ = true := by
    unfold onCore; simp; omega
   rw [e1] at hcs
   simp only [Bool.false_eq_true, if_false, if_true] at hcs
   omega
  ·have e1 : onCore d ⟨(c : Int), (v : Int)⟩ = false := by
    unfold onCore
    rw [Bool.and_eq_false_iff]
    right
    simp; omega
   rw [e1] at hcs
   simp only [Bool.false_eq_true, if_false] at hcs
   rw [hload2 d e]
   omega
theorem give_inv {t : T} {cs ls : Nat} (h : Inv t cs ls) (i c v : Nat) (hi : i < ls) (hs : slot t i = ⟨c, v⟩) (hc : c < cs) (h32 : 32 ≤ v) (h256 : v < 256) (hm : mem (core t c) v = true) : Inv (giveT t i c v) cs ls := by
 have hok := h.ok c hc
 have hcore : ∀ d, core (giveT t i c v) d = if d = c then withoutF (core t c) v else core t d := fun d => by
  unfold core giveT
  exact get_set _ _ _ _ _ (by rw [h.tl]; exact hc)
 have hslot : ∀ j, slot (giveT t i c v) j = if j = i then S0 else slot t j := fun j => by
  unfold slot giveT
  exact get_set _ _ _ _ _ (by rw [h.ol]; exact hi)
 refine ⟨h.c, h.cores, by simp [giveT, h.tl], by simp [giveT, h.ol], h.l, fun d hd => ?_, fun d u hd hu hmu => ?_, fun j hj => ?_, fun j k hj hk hv he => ?_, fun d hd => ?_⟩
 ·rw [hcore]
  split
  ·exact withoutF_ok hok v
  ·exact h.ok d hd
 ·rw [hcore] at hmu
  by_cases e : d = c
  ·subst e
   rw [if_pos rfl, withoutF_mem hok v u h256, Bool.and_eq_true] at hmu
   exact h.low d u hd hu hmu.1
  ·rw [if_neg e] at hmu; exact h.low d u hd hu hmu
 ·rw [hslot]
  by_cases e : j = i
  ·rw [if_pos e]; exact .inl rfl
  ·rw [if_neg e]
   rcases h.sl j hj with h1 | ⟨c', v', h1, h2, h3, h4, h5⟩
   ·exact .inl h1
   ·refine .inr ⟨c', v', h1, h2, h3, h4, ?_⟩
    rw [hcore]
    by_cases e2 : c' = c
    ·subst e2
     rw [if_pos rfl, withoutF_mem hok v v' h256, h5]
     have : v' ≠ v := by
      intro e3; subst e3
      exact e (h.inj j i hj hi (by rw [h1]; simp only; omega) (h1.trans hs.symm))
     simp [this]
    ·rw [if_neg e2]; exact h5
 ·rw [hslot] at hv
  rw [hslot, hslot] at he
  by_cases e1 : j = i <;> by_cases e2 : k = i
  ·omega
  ·rw [if_pos e1] at hv; simp at hv
  ·rw [if_neg e1, if_pos e2] at he
   rw [if_neg e1, he] at hv; simp at hv
  ·rw [if_neg e1, if_neg e2] at he
   rw [if_neg e1] at hv
   exact h.inj j k hj hk hv he
 ·have hcs := count_set (onCore d) S0 t.of_ i S0 (by rw [h.ol]; exact hi)
  have h0 : t.of_.getD i S0 = ⟨(c : Int), (v : Int)⟩ := hs
  rw [h0] at hcs
  have e0 : onCore d S0 = false := rfl
  rw [e0] at hcs
  have hcn := h.cnt d hd
  show load (giveT t i c v) d = (t.of_.set i S0).countP (onCore d)
  unfold load at hcn ⊢
  rw [hcore]
  by_cases e : d = c
  ·subst e
   have e1 : onCore d ⟨(d : Int), (v : Int)⟩ = true := by
    unfold onCore; simp; omega
   rw [e1] at hcs
   simp only [Bool.false_eq_true, if_false, if_true] at hcs
   have := without_len hok v h256 hm
   rw [if_pos rfl]
   omega
  ·have e1 : onCore d ⟨(c : Int), (v : Int)⟩ = false := by
    unfold onCore
    rw [Bool.and_eq_false_iff]
    right
    simp; omega
   rw [e1] at hcs
   simp only [Bool.false_eq_true, if_false] at hcs
   rw [if_neg e]
   omega
theorem take_eq {t : T} {cs ls : Nat} (h : Inv t cs ls) (i c : Nat) (hi : i < ls) (hc : c < cs) (hl : load t c < 224) : ∃ v : Nat, vector_table_take t i c = some (takeT t i c v) ∧ 32 ≤ v ∧ v < 256 ∧ mem (core t c) v = false := by
 obtain ⟨v, hv, h1, h2, h3⟩ := least_eq h c hc hl
 refine ⟨v, ?_, h1, h2, h3⟩
 unfold vector_table_take
 rw [hv, Option.bind_some, if_pos (by rw [h.ol]; omega), if_pos (by rw [h.tl]; omega), Nat.zero_add, Int.toNat_natCast, With_eq _ v h2, Option.bind_some, if_pos (by rw [h.tl]; omega), Nat.zero_add, Int.toNat_natCast]
 rfl
theorem give_eq {t : T} {cs ls : Nat} (h : Inv t cs ls) (i c v : Nat) (hi : i < ls) (hs : slot t i = ⟨c, v⟩) (hc : c < cs) (h256 : v < 256) : vector_table_give t i = some (giveT t i c v) := by
 have h0 : t.of_.getD i S0 = ⟨(c : Int), (v : Int)⟩ := hs
 unfold vector_table_give
 rw [if_pos (by rw [h.ol]; omega), Nat.zero_add, Int.toNat_natCast, h0]
 simp only [Nat.zero_add, Int.toNat_natCast]
 rw [if_pos (by rw [h.tl]; omega), Without_eq _ v h256, Option.bind_some, if_pos (by rw [h.tl]; omega), if_pos (by rw [h.ol]; omega)]
 rfl
inductive DoOf (t : T) (cs ls : Nat) (o : Api_VecOp) : Int → T → Prop
 | err (e : Int) : e ≠ 0 → (o.Kind = 1 → 0 ≤ o.Line → o.Line < ls → (slot t o.Line.toNat).Vec = 0 → e = 4 ∧ ∀ c, c < cs → ¬ Can t o.Mask (-1) c) → DoOf t cs ls o e t
 | take (i c v : Nat) : o.Kind = 1 → o.Line = i → i < ls → slot t i = S0 → c < cs → Can t o.Mask (-1) c → (∀ d, d < cs → Can t o.Mask (-1) d → load t c ≤ load t d) → 32 ≤ v → v < 256 → mem (core t c) v = false → DoOf t cs ls o 0 (takeT t i c v)
 | give (i c v : Nat) : o.Kind = 2 → o.Line = i → i < ls → slot t i = ⟨c, v⟩ → c < cs → 32 ≤ v → v < 256 → mem (core t c) v = true → DoOf t cs ls o 0 (giveT t i c v)
 | move (i c v c' v' : Nat) : o.Kind = 3 → o.Line = i → i < ls → slot t i = ⟨c, v⟩ → c < cs → 32 ≤ v → v < 256 → mem (core t c) v = true → c' < cs → Can t o.Mask c c' → 32 ≤ v' → v' < 256 → mem (core (giveT t i c v) c') v' = false → DoOf t cs ls o 0 (takeT (giveT t i c v) i c' v')
theorem Do_cases {t : T} {cs ls : Nat} (h : Inv t cs ls) (o : Api_VecOp) : ∃ e t', vector_table_do t o = some (e, t') ∧ DoOf t cs ls o e t' := by
 unfold vector_table_do
 by_cases hk : o.Kind < 1 ∨ o.Kind > 3
 ·rw [show ((decide ((o.Kind : Int) < 1)) || (decide ((o.Kind : Int) > 3))) = true by simpa using hk, cond_true]
  exact ⟨_, _, rfl, .err _ (by decide) (fun hk1 => by omega)⟩
 rw [show ((decide ((o.Kind : Int) < 1)) || (decide ((o.Kind : Int) > 3))) = false by simp; omega, cond_false, h.ol]
 by_cases hr : o.Line < 0 ∨ o.Line ≥ (ls : Int)
 ·rw [show ((decide ((o.Line : Int) < 0)) || (decide ((o.Line : Int) ≥ ((ls : Nat) : Int)))) = true by simpa using hr, cond_true]
  exact ⟨_, _, rfl, .err _ (by decide) (fun _ h1 h2 => by omega)⟩
 rw [show ((decide ((o.Line : Int) < 0)) || (decide ((o.Line : Int) ≥ ((ls : Nat) : Int)))) = false by simp; omega, cond_false, if_pos (by omega)]
 obtain ⟨i, hi⟩ := Int.eq_ofNat_of_zero_le (show 0 ≤ o.Line by omega)
 have hil : i < ls := by omega
 rw [hi]
 simp only [Nat.zero_add, Int.toNat_natCast]
 have hsl : t.of_.getD i S0 = slot t i := rfl
 rw [hsl]
 rcases h.sl i hil with hs | ⟨c, v, hs, h1, h2, h3, h4⟩
 ·rw [hs]
  by_cases k1 : o.Kind = 1
  ·rw [show (((o.Kind : Int) == 1) == decide ((0 : Int) > 0)) = false by simp [k1], cond_false, show ((o.Kind : Int) == 1) = true by simp [k1], cond_true]
   obtain ⟨r, hr, hb⟩ := best_eq h o.Mask (-1)
   rw [hr, Option.bind_some]
   rcases hb with ⟨rfl, hb⟩ | ⟨c, rfl, c1, c2, c3⟩
   ·exact ⟨_, _, rfl, .err _ (by decide) (fun _ _ _ _ => ⟨rfl, hb⟩)⟩
   ·rw [show decide (((c : Nat) : Int) < 0) = false by simp, cond_false]
    obtain ⟨v, hv, v1, v2, v3⟩ := take_eq h i c hil c1 c2.2.2
    rw [hv, Option.bind_some]
    exact ⟨_, _, rfl, .take i c v k1 hi hil hs c1 c2 c3 v1 v2 v3⟩
  ·rw [show (((o.Kind : Int) == 1) == decide ((0 : Int) > 0)) = true by simp [k1], cond_true, show ((o.Kind : Int) == 1) = false by simp [k1], cond_false]
   exact ⟨_, _, rfl, .err _ (by decide) (fun hk1 => absurd hk1 k1)⟩
 ·rw [hs]
  have hvec : decide ((v : Int) > 0) = true := decide_eq_true (by omega)
  simp only [hvec]
  by_cases k1 : o.Kind = 1
  ·rw [show (((o.Kind : Int) == 1) == true) = true by simp [k1], cond_true, show ((o.Kind : Int) == 1) = true by simp [k1], cond_true]
   refine ⟨_, _, rfl, .err _ (by decide) (fun _ _ _ hv => ?_)⟩
   rw [show o.Line.toNat = i by omega, hs] at hv
   simp only at hv
   omega
  ·rw [show (((o.Kind : Int) == 1) == true) = false by simp [k1], cond_false, show ((o.Kind : Int) == 1) = false by simp [k1], cond_false]
   by_cases k2 : o.Kind = 2
   ·rw [show ((o.Kind : Int) == 2) = true by simp [k2], cond_true, give_eq h i c v hil hs h1 h3, Option.bind_some]
    exact ⟨_, _, rfl, .give i c v k2 hi hil hs h1 h2 h3 h4⟩
   ·have k3 : o.Kind = 3 := by omega
    rw [show ((o.Kind : Int) == 2) = false by simp [k2], cond_false, show ((o.Kind : Int) == 3) = true by simp [k3], cond_true, if_pos (by omega)]
    obtain ⟨r, hr, hb⟩ := best_eq h o.Mask c
    rw [hr, Option.bind_some]
    rcases hb with ⟨rfl, hb⟩ | ⟨c', rfl, c1, c2, c3⟩
    ·exact ⟨_, _, rfl, .err _ (by decide) (fun hk1 => absurd hk1 k1)⟩
    ·have hg := give_inv h i c v hil hs h1 h2 h3 h4
     have hne : c' ≠ c := by
      intro e; exact c2.2.1 (by rw [e])
     have hld : load (giveT t i c v) c' = load t c' := by
      unfold load core giveT
      rw [get_set _ _ _ _ _ (by rw [h.tl]; exact h1), if_neg hne]
     rw [show decide (((c' : Nat) : Int) < 0) = false by simp, cond_false, give_eq h i c v hil hs h1 h3, Option.bind_some]
     obtain ⟨v', hv, v1, v2, v3⟩ := take_eq hg i c' hil c1 (by rw [hld]; exact c2.2.2)
     rw [hv, Option.bind_some]
     exact ⟨_, _, rfl, .move i c v c' v' k3 hi hil hs h1 h2 h3 h4 c1 c2 v1 v2 v3⟩
theorem give_slot {t : T} {cs ls : Nat} (h : Inv t cs ls) (i c v : Nat) (hi : i < ls) : slot (giveT t i c v) i = S0 := by
 unfold slot giveT
 rw [get_set _ _ _ _ _ (by rw [h.ol]; exact hi), if_pos rfl]
theorem do_inv {t t' : T} {cs ls : Nat} {o : Api_VecOp} {e : Int} (h : Inv t cs ls) (hd : DoOf t cs ls o e t') : Inv t' cs ls := by
 cases hd with
 | err _ _ _ => exact h
 | take i c v _ _ hi hs hc _ _ h32 h256 hm => exact (take_inv h i c v hi hs hc h32 h256 hm).1
 | give i c v _ _ hi hs hc h32 h256 hm => exact give_inv h i c v hi hs hc h32 h256 hm
 | move i c v c' v' _ _ hi hs hc h32 h256 hm hc' _ h32' h256' hm' => exact (take_inv (give_inv h i c v hi hs hc h32 h256 hm) i c' v' hi (give_slot h i c v hi) hc' h32' h256' hm').1
def stepF (q : List Int × T) (o : Api_VecOp) : List Int × T :=
 match vector_table_do q.2 o with
 | some (e, t) => (q.1 ++ [e], t)
 | none => q
theorem stepF_eq {t t' : T} {o : Api_VecOp} {e : Int} (h : vector_table_do t o = some (e, t')) (l : List Int) : stepF (l, t) o = (l ++ [e], t') := by
 unfold stepF
 rw [h]
theorem play_l1_eq (a0 a1 : Int) (ops : List Api_VecOp) (hops : ops.length * 8 + 8 ≤ 140737488355328) {cs ls : Nat} : ∀ n k (l : List Int) (t : T), k ≤ ops.length → ops.length - k < n → l.length = k → Inv t cs ls →
  vector_Play_l1 a0 a1 ops n l k t.cores_ t.of_ t.taken_ = some (((ops.drop k).foldl stepF (l, t)).1, ((ops.drop k).foldl stepF (l, t)).2.of_, 0) ∧ Inv ((ops.drop k).foldl stepF (l, t)).2 cs ls ∧ ((ops.drop k).foldl stepF (l, t)).1.length = ops.length := by
 intro n
 induction n with
 | zero => intro k l t h1 h2; omega
 | succ n ih =>
  intro k l t h1 h2 h3 h
  unfold vector_Play_l1
  rcases Nat.lt_or_ge k ops.length with hlt | hge
  ·rw [dec_lt hlt, cond_true, getD_lt _ _ hlt, List.drop_eq_getElem_cons hlt, List.foldl_cons]
   obtain ⟨e, t', hd, hdo⟩ := Do_cases h ops[k]
   have hd' : vector_table_do (⟨t.cores_, t.of_, t.taken_⟩ : Vector_table) ops[k] = some (e, t') := hd
   rw [hd', Option.bind_some, stepF_eq hd, if_pos (by simp only [List.length_singleton]; omega)]
   exact ih (k + 1) _ t' (by omega) (by omega) (by simp [h3]) (do_inv h hdo)
  ·rw [dec_ge hge, cond_false, List.drop_of_length_le hge]
   unfold slices_Clone_api_Slot
   have := h.l
   rw [if_pos (by rw [h.ol]; omega), Option.bind_some]
   exact ⟨rfl, h, by simp only [List.foldl_nil]; omega⟩
def init (c l : Nat) : T := ⟨c, List.replicate l S0, List.replicate c Z4⟩
theorem init_inv (c l : Nat) (hc : 1 ≤ c ∧ c ≤ 8) (hl : l ≤ 2000) : Inv (init c l) c l := by
 have hz : ∀ n, mem Z4 n = false := fun n => tb_zero_of _ rfl _
 have hcore : ∀ d, core (init c l) d = Z4 := by
  intro d
  unfold core init
  simp only
  rw [List.getD_eq_getElem?_getD, List.getElem?_replicate]
  split <;> rfl
 have hslot : ∀ i, slot (init c l) i = S0 := by
  intro i
  unfold slot init
  simp only
  rw [List.getD_eq_getElem?_getD, List.getElem?_replicate]
  split <;> rfl
 have he : elems Z4 = [] := by
  unfold elems
  rw [List.filter_eq_nil_iff.2 (fun n _ => by simp [hz])]
  rfl
 refine ⟨hc, rfl, by simp [init], by simp [init], hl, fun d hd => ?_, fun d v hd hv hm => ?_, fun i hi => .inl (hslot i), fun i j _ _ hv _ => ?_, fun d hd => ?_⟩
 ·rw [hcore]; exact fun i _ => (by decide : U64 0)
 ·rw [hcore, hz] at hm; cases hm
 ·rw [hslot] at hv; simp at hv
 ·unfold load
  rw [hcore, he]
  show 0 = (List.replicate l S0).countP (onCore d)
  rw [List.countP_replicate]
  rfl
theorem Play_eq (a0 a1 : Int) (ops : List Api_VecOp) (hops : ops.length * 8 + 8 ≤ 140737488355328) (hf : ops.length ≤ 17592186044000) : vector_Play a0 a1 ops = some ([], [], 2) ∧ ¬ ((1 ≤ a0 ∧ a0 ≤ 8) ∧ 0 ≤ a1 ∧ a1 ≤ 2000) ∨
  ∃ c l : Nat, a0 = c ∧ a1 = l ∧ (1 ≤ c ∧ c ≤ 8) ∧ l ≤ 2000 ∧ vector_Play a0 a1 ops = some ((ops.foldl stepF ([], init c l)).1, (ops.foldl stepF ([], init c l)).2.of_, 0) ∧ Inv (ops.foldl stepF ([], init c l)).2 c l ∧ (ops.foldl stepF ([], init c l)).1.length = ops.length := by
 unfold vector_Play
 by_cases h : (1 ≤ a0 ∧ a0 ≤ 8) ∧ 0 ≤ a1 ∧ a1 ≤ 2000
 ·obtain ⟨c, rfl⟩ := Int.eq_ofNat_of_zero_le (show 0 ≤ a0 by omega)
  obtain ⟨l, rfl⟩ := Int.eq_ofNat_of_zero_le (show 0 ≤ a1 by omega)
  rw [show ((((decide (((c : Nat) : Int) < 1)) || (decide (((c : Nat) : Int) > 8))) || (decide (((l : Nat) : Int) < 0))) || (decide (((l : Nat) : Int) > 2000))) = false by simp; omega, cond_false]
  rw [Int.toNat_natCast, Int.toNat_natCast, if_pos (by omega), if_pos (by omega)]
  obtain ⟨h1, h2, h3⟩ := play_l1_eq (c : Int) (l : Int) ops hops FUEL 0 [] (init c l) (by omega) (fuel_gt (by omega)) rfl (init_inv c l (by omega) (by omega))
  rw [List.drop_zero] at h1 h2 h3
  exact .inr ⟨c, l, rfl, rfl, by omega, by omega, h1, h2, h3⟩
 ·rw [show ((((decide (((a0 : Int)) < 1)) || (decide ((a0 : Int) > 8))) || (decide ((a1 : Int) < 0))) || (decide ((a1 : Int) > 2000))) = true by simp; omega, cond_true]
  exact .inl ⟨rfl, h⟩
theorem kget_put {κ α : Type} [DecidableEq κ] (x y : κ) (v : α) : ∀ m : List (κ × α), kget y (kput x v m) = if y = x then some v else kget y m
 | [] => by
  unfold kput kget
  by_cases h : y = x <;> simp [h, kget]
 | p :: r => by
  unfold kput
  by_cases h : x = p.1
  ·subst h
   simp only [decide_true, cond_true]
   unfold kget
   by_cases h' : y = p.1 <;> simp [h']
  ·simp only [h, decide_false, cond_false]
   unfold kget
   by_cases h' : y = p.1
   ·simp only [h', decide_true, cond_true]
    rw [if_neg (fun e => h e.symm)]
   ·simp only [h', decide_false, cond_false]
    exact kget_put x y v r
end Go.Proofs.YthmieigenefilaaGreatDoor
