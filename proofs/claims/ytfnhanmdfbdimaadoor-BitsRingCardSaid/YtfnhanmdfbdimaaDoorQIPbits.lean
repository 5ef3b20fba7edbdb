/- Plain laws of bits. -/
import Derived.Test.YtfnhanmdfbdimaaDoorQIB
import Derived.Test.YtfnhanmdfbdimaaDoorQIK
set_option linter.unusedSimpArgs false
set_option linter.unusedVariables false
namespace Go.Proofs.YtfnhanmdfbdimaaDoor
open Go Go.Ab

theorem alive1_eq : keep_alive1 = some true := by decide +kernel

theorem eqW {a b : Nat → Int} (h : ∀ i, i < 4 → a i = b i) : ((((a 0) : Int) == (b 0)) && ((((a 1) : Int) == (b 1)) && ((((a 2) : Int) == (b 2)) && ((((a 3) : Int) == (b 3)) && true)))) = true := by
  simp [h]

/- both, either -/
def bothF (a b : Nat → Int) : Nat → Int := fun i => if i < 4 then bitsOf .and .u64 (a i) (b i) else a i
def eitherF (a b : Nat → Int) : Nat → Int := fun i => if i < 4 then bitsOf .or .u64 (a i) (b i) else a i
theorem both_l1_eq (a b : Nat → Int) : ∀ n k (f : Nat → Int), k ≤ 4 → 4 - k < n → (f = fun i => if i < k then bitsOf .and .u64 (a i) (b i) else a i) → bits_Both_l1 a b n k f = some (bothF a b) := by
  intro n
  induction n with
  | zero => intro k f h1 h2; omega
  | succ n ih =>
    intro k f h1 h2 hf
    unfold bits_Both_l1
    by_cases hk : k < 4
    · rw [show decide (((k : Nat) : Int) < 4) = true from decide_eq_true (by omega), cond_true, if_pos (by omega), if_pos (by omega), if_pos (by omega)]
      refine ih (k + 1) _ (by omega) (by omega) ?_
      subst hf
      funext i
      unfold upd
      by_cases e : i = k
      · subst e; simp
      · rw [if_neg e]
        by_cases e2 : i < k
        · simp only [if_pos e2, if_pos (show i < k + 1 by omega)]
        · simp only [if_neg e2, if_neg (show ¬ i < k + 1 by omega)]
    · rw [show decide (((k : Nat) : Int) < 4) = false from decide_eq_false (by omega), cond_false, hf, show k = 4 by omega]
      rfl
theorem Both_eq (a b : Nat → Int) : bits_Both a b = some (bothF a b) := both_l1_eq a b FUEL 0 a (by omega) (fuel_gt (by omega)) (by simp)
theorem either_l1_eq (a b : Nat → Int) : ∀ n k (f : Nat → Int), k ≤ 4 → 4 - k < n → (f = fun i => if i < k then bitsOf .or .u64 (a i) (b i) else a i) → bits_Either_l1 a b n k f = some (eitherF a b) := by
  intro n
  induction n with
  | zero => intro k f h1 h2; omega
  | succ n ih =>
    intro k f h1 h2 hf
    unfold bits_Either_l1
    by_cases hk : k < 4
    · rw [show decide (((k : Nat) : Int) < 4) = true from decide_eq_true (by omega), cond_true, if_pos (by omega), if_pos (by omega), if_pos (by omega)]
      refine ih (k + 1) _ (by omega) (by omega) ?_
      subst hf
      funext i
      unfold upd
      by_cases e : i = k
      · subst e; simp
      · rw [if_neg e]
        by_cases e2 : i < k
        · simp only [if_pos e2, if_pos (show i < k + 1 by omega)]
        · simp only [if_neg e2, if_neg (show ¬ i < k + 1 by omega)]
    · rw [show decide (((k : Nat) : Int) < 4) = false from decide_eq_false (by omega), cond_false, hf, show k = 4 by omega]
      rfl
theorem Either_eq (a b : Nat → Int) : bits_Either a b = some (eitherF a b) := either_l1_eq a b FUEL 0 a (by omega) (fuel_gt (by omega)) (by simp)
theorem bothF_ok (a b : Nat → Int) : okB (bothF a b) := by
  intro i hi
  unfold bothF
  rw [if_pos hi]
  exact and_u64 _ _
theorem eitherF_ok (a b : Nat → Int) : okB (eitherF a b) := by
  intro i hi
  unfold eitherF
  rw [if_pos hi]
  exact or_u64 _ _
theorem bothF_mem {a b : Nat → Int} (ha : okB a) (hb : okB b) (n : Nat) (hn : n < 256) : mem (bothF a b) n = (mem a n && mem b n) := by
  unfold mem bothF
  rw [if_pos (by omega), and_tb _ _ (ha _ (by omega)) (hb _ (by omega))]
theorem eitherF_mem {a b : Nat → Int} (ha : okB a) (hb : okB b) (n : Nat) (hn : n < 256) : mem (eitherF a b) n = (mem a n || mem b n) := by
  unfold mem eitherF
  rw [if_pos (by omega), or_tb _ _ (ha _ (by omega)) (hb _ (by omega))]

theorem BitsRing_true (a0 a1 a2 : Nat → Int) (h0 : ∀ i, i < 4 → (0 ≤ (a0 i) ∧ (a0 i) ≤ 18446744073709551615)) (h1 : ∀ i, i < 4 → (0 ≤ (a1 i) ∧ (a1 i) ≤ 18446744073709551615)) (h2 : ∀ i, i < 4 → (0 ≤ (a2 i) ∧ (a2 i) ≤ 18446744073709551615)) : keep_BitsRing a0 a1 a2 = some true := by
  have z : okB (fun _ => 0) := fun i _ => (by decide : U64 0)
  have o0 : okB a0 := h0
  have o1 : okB a1 := h1
  have o2 : okB a2 := h2
  have zm : ∀ n, mem (fun _ => (0 : Int)) n = false := fun n => tb_zero_of _ rfl _
  have e1 := eqW (mem_ext (bothF_ok a0 a1) (bothF_ok a1 a0) fun n hn => by rw [bothF_mem o0 o1 n hn, bothF_mem o1 o0 n hn, Bool.and_comm])
  have e2 := eqW (mem_ext (eitherF_ok a0 a1) (eitherF_ok a1 a0) fun n hn => by rw [eitherF_mem o0 o1 n hn, eitherF_mem o1 o0 n hn, Bool.or_comm])
  have e3 := eqW (mem_ext (bothF_ok a0 (eitherF a1 a2)) (eitherF_ok (bothF a0 a1) (bothF a0 a2)) fun n hn => by
    rw [bothF_mem o0 (eitherF_ok _ _) n hn, eitherF_mem o1 o2 n hn, eitherF_mem (bothF_ok _ _) (bothF_ok _ _) n hn, bothF_mem o0 o1 n hn, bothF_mem o0 o2 n hn, Bool.and_or_distrib_left])
  have e4 := eqW (mem_ext (eitherF_ok a0 (bothF a1 a2)) (bothF_ok (eitherF a0 a1) (eitherF a0 a2)) fun n hn => by
    rw [eitherF_mem o0 (bothF_ok _ _) n hn, bothF_mem o1 o2 n hn, bothF_mem (eitherF_ok _ _) (eitherF_ok _ _) n hn, eitherF_mem o0 o1 n hn, eitherF_mem o0 o2 n hn, Bool.or_and_distrib_left])
  have e5 := eqW (mem_ext (bothF_ok a0 (eitherF a0 a1)) o0 fun n hn => by
    rw [bothF_mem o0 (eitherF_ok _ _) n hn, eitherF_mem o0 o1 n hn]; cases mem a0 n <;> simp)
  have e6 := eqW (mem_ext (eitherF_ok a0 (bothF a0 a1)) o0 fun n hn => by
    rw [eitherF_mem o0 (bothF_ok _ _) n hn, bothF_mem o0 o1 n hn]; cases mem a0 n <;> simp)
  have e7 := eqW (mem_ext (eitherF_ok a0 (fun _ => 0)) o0 fun n hn => by
    rw [eitherF_mem o0 z n hn, zm, Bool.or_false])
  unfold keep_BitsRing
  rw [alive1_eq, Option.bind_some, Bool.not_true, cond_false]
  simp only [Both_eq, Either_eq, Option.bind_some, e1, Bool.true_and, cond_true]
  simp only [e2, Option.bind_some, cond_true, Bool.true_and]
  simp only [e3, Option.bind_some, cond_true, Bool.true_and]
  simp only [e4, Option.bind_some, cond_true, Bool.true_and]
  simp only [e5, Option.bind_some, cond_true, Bool.true_and]
  simp only [e6, Option.bind_some, cond_true, Bool.true_and]
  simp only [e7]

end Go.Proofs.YtfnhanmdfbdimaaDoor
