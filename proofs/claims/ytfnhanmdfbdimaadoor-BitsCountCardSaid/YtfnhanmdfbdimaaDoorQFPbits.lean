/- Plain laws of bits. -/
import Derived.Test.YtfnhanmdfbdimaaDoorQFB
import Derived.Test.YtfnhanmdfbdimaaDoorQFK
set_option linter.unusedSimpArgs false
set_option linter.unusedVariables false
namespace Go.Proofs.YtfnhanmdfbdimaaDoor
open Go Go.Ab

theorem alive1_eq : keep_alive1 = some true := by decide +kernel

theorem Without_eq (b : Nat → Int) (n : Nat) (h : n < 256) : bits_Without b n = some (withoutF b n) := by
  unfold bits_Without
  obtain ⟨h1, h2⟩ := place n h
  rw [fits_nat n h, Option.bind_some, cond_true, h1, h2, if_pos (by omega), if_pos (by omega), if_pos (by omega), Int.toNat_natCast, Int.toNat_natCast, one_eq _ (by omega)]
  rfl
theorem Without_out (b : Nat → Int) (n : Int) (h : ¬ (0 ≤ n ∧ n < 256)) : bits_Without b n = some b := by
  unfold bits_Without
  rw [fits_out n h, Option.bind_some, cond_false]

theorem eqW {a b : Nat → Int} (h : ∀ i, i < 4 → a i = b i) : ((((a 0) : Int) == (b 0)) && ((((a 1) : Int) == (b 1)) && ((((a 2) : Int) == (b 2)) && ((((a 3) : Int) == (b 3)) && true)))) = true := by
  simp [h]

/- both, either -/
def bothF (a b : Nat → Int) : Nat → Int := fun i => if i < 4 then bitsOf .and .u64 (a i) (b i) else a i
def eitherF (a b : Nat → Int) : Nat → Int := fun i => if i < 4 then bitsOf .or .u64 (a i) (b i) else a i
theorem both_l1_eq (a b : Nat → Int) : ∀ n k (f : Nat → Int), k ≤ 4 → 4 - k < n → (f = fun i => if i < k then bitsOf .and .u64 (a i) (b i) else a i) → bits_Both_l1 a b n k f = some (bothF a b) := by
  intro n
  induction n with
  | zero => intro k f h1 h2; omega
  | succ n ih =>
    intro k f h1 h2 hf
    unfold bits_Both_l1
    by_cases hk : k < 4
    · rw [show decide (((k : Nat) : Int) < 4) = true from decide_eq_true (by omega), cond_true, if_pos (by omega), if_pos (by omega), if_pos (by omega)]
      refine ih (k + 1) _ (by omega) (by omega) ?_
      subst hf
      funext i
      unfold upd
      by_cases e : i = k
      · subst e; simp
      · rw [if_neg e]
        by_cases e2 : i < k
        · simp only [if_pos e2, if_pos (show i < k + 1 by omega)]
        · simp only [if_neg e2, if_neg (show ¬ i < k + 1 by omega)]
    · rw [show decide (((k : Nat) : Int) < 4) = false from decide_eq_false (by omega), cond_false, hf, show k = 4 by omega]
      rfl
theorem Both_eq (a b : Nat → Int) : bits_Both a b = some (bothF a b) := both_l1_eq a b FUEL 0 a (by omega) (fuel_gt (by omega)) (by simp)
theorem either_l1_eq (a b : Nat → Int) : ∀ n k (f : Nat → Int), k ≤ 4 → 4 - k < n → (f = fun i => if i < k then bitsOf .or .u64 (a i) (b i) else a i) → bits_Either_l1 a b n k f = some (eitherF a b) := by
  intro n
  induction n with
  | zero => intro k f h1 h2; omega
  | succ n ih =>
    intro k f h1 h2 hf
    unfold bits_Either_l1
    by_cases hk : k < 4
    · rw [show decide (((k : Nat) : Int) < 4) = true from decide_eq_true (by omega), cond_true, if_pos (by omega), if_pos (by omega), if_pos (by omega)]
      refine ih (k + 1) _ (by omega) (by omega) ?_
      subst hf
      funext i
      unfold upd
      by_cases e : i = k
      · subst e; simp
      · rw [if_neg e]
        by_cases e2 : i < k
        · simp only [if_pos e2, if_pos (show i < k + 1 by omega)]
        · simp only [if_neg e2, if_neg (show ¬ i < k + 1 by omega)]
    · rw [show decide (((k : Nat) : Int) < 4) = false from decide_eq_false (by omega), cond_false, hf, show k = 4 by omega]
      rfl
theorem Either_eq (a b : Nat → Int) : bits_Either a b = some (eitherF a b) := either_l1_eq a b FUEL 0 a (by omega) (fuel_gt (by omega)) (by simp)
theorem bothF_ok (a b : Nat → Int) : okB (bothF a b) := by
  intro i hi
  unfold bothF
  rw [if_pos hi]
  exact and_u64 _ _
theorem eitherF_ok (a b : Nat → Int) : okB (eitherF a b) := by
  intro i hi
  unfold eitherF
  rw [if_pos hi]
  exact or_u64 _ _
theorem bothF_mem {a b : Nat → Int} (ha : okB a) (hb : okB b) (n : Nat) (hn : n < 256) : mem (bothF a b) n = (mem a n && mem b n) := by
  unfold mem bothF
  rw [if_pos (by omega), and_tb _ _ (ha _ (by omega)) (hb _ (by omega))]
theorem eitherF_mem {a b : Nat → Int} (ha : okB a) (hb : okB b) (n : Nat) (hn : n < 256) : mem (eitherF a b) n = (mem a n || mem b n) := by
  unfold mem eitherF
  rw [if_pos (by omega), or_tb _ _ (ha _ (by omega)) (hb _ (by omega))]

theorem countP_both {α : Type} (p q : α → Bool) : ∀ l : List α, l.countP (fun x => p x || q x) + l.countP (fun x => p x && q x) = l.countP p + l.countP q
  | [] => rfl
  | x :: l => by
    have := countP_both p q l
    simp only [List.countP_cons]
    cases p x <;> cases q x <;> simp <;> omega
theorem elems_count (b : Nat → Int) : (elems b).length = (List.range 256).countP (mem b) := by
  unfold elems
  rw [List.length_map, List.countP_eq_length_filter]
theorem BitsCount_true (a0 a1 : Nat → Int) (h0 : ∀ i, i < 4 → (0 ≤ (a0 i) ∧ (a0 i) ≤ 18446744073709551615)) (h1 : ∀ i, i < 4 → (0 ≤ (a1 i) ∧ (a1 i) ≤ 18446744073709551615)) : keep_BitsCount a0 a1 = some true := by
  have o0 : okB a0 := h0
  have o1 : okB a1 := h1
  unfold keep_BitsCount
  rw [alive1_eq, Option.bind_some, Bool.not_true, cond_false, Either_eq, Option.bind_some, All_eq _ (eitherF_ok _ _), Option.bind_some, Both_eq, Option.bind_some, All_eq _ (bothF_ok _ _), Option.bind_some, All_eq _ o0, Option.bind_some, All_eq _ o1, Option.bind_some]
  have l1 := elems_len a0
  have l2 := elems_len a1
  have l3 := elems_len (eitherF a0 a1)
  have l4 := elems_len (bothF a0 a1)
  have key : (elems (eitherF a0 a1)).length + (elems (bothF a0 a1)).length = (elems a0).length + (elems a1).length := by
    rw [elems_count, elems_count, elems_count, elems_count, ← countP_both (mem a0) (mem a1)]
    congr 1
    · exact List.countP_congr fun n hn => by rw [eitherF_mem o0 o1 n (List.mem_range.1 hn)]
    · exact List.countP_congr fun n hn => by rw [bothF_mem o0 o1 n (List.mem_range.1 hn)]
  rw [wrap_id (by omega) (by omega), wrap_id (by omega) (by omega)]
  simp
  omega

theorem BitsBack_true (a0 : Nat → Int) (a1 a2 : Int) (h0 : ∀ i, i < 4 → (0 ≤ (a0 i) ∧ (a0 i) ≤ 18446744073709551615)) (h1 : -9223372036854775808 ≤ a1 ∧ a1 ≤ 9223372036854775807) (h2 : -9223372036854775808 ≤ a2 ∧ a2 ≤ 9223372036854775807) : keep_BitsBack a0 a1 a2 = some true := by
  have o0 : okB a0 := h0
  unfold keep_BitsBack
  rw [alive1_eq, Option.bind_some, Bool.not_true, cond_false]
  by_cases hn : 0 ≤ a1 ∧ a1 < 256
  · obtain ⟨n, rfl⟩ := Int.eq_ofNat_of_zero_le hn.1
    have hn : n < 256 := by omega
    have ow := withF_ok o0 n
    have ou := withoutF_ok o0 n
    have od : ((decide (((n : Nat) : Int) < 0)) || (decide (((n : Nat) : Int) ≥ 256))) = false := by simp; omega
    have hb : ∀ k, k < 256 → mem (withoutF (withF a0 n) n) k = mem (withoutF a0 n) k := fun k hk => by
      rw [withoutF_mem ow n k hn, withoutF_mem o0 n k hn, withF_mem o0 n k hn]
      cases mem a0 k <;> cases decide (k = n) <;> rfl
    have e1 := eqW (mem_ext (withoutF_ok ow n) ou hb)
    rw [With_eq a0 n hn, Option.bind_some, Without_eq a0 n hn, Option.bind_some, od, cond_false, Without_eq _ n hn]
    have hHas : ∀ (b : Nat → Int), okB b → ∃ q, bits_Has b a2 = some q ∧ (q = if 0 ≤ a2 ∧ a2 < 256 then mem b a2.toNat else false) := by
      intro b ob
      by_cases hk : 0 ≤ a2 ∧ a2 < 256
      · obtain ⟨k, rfl⟩ := Int.eq_ofNat_of_zero_le hk.1
        exact ⟨_, Has_eq b k (by omega) ob, by rw [if_pos hk, Int.toNat_natCast]⟩
      · exact ⟨_, Has_out b a2 hk, by rw [if_neg hk]⟩
    obtain ⟨q1, hq1, e2⟩ := hHas _ ow
    obtain ⟨q2, hq2, e3⟩ := hHas _ o0
    obtain ⟨q3, hq3, e4⟩ := hHas _ ou
    have hsame : (((n : Int) == a2) || ((q1 == q2) && (q3 == q2))) = true := by
      by_cases hna : (n : Int) = a2
      · simp [hna]
      · have : q1 = q2 ∧ q3 = q2 := by
          rw [e2, e3, e4]
          by_cases hk : 0 ≤ a2 ∧ a2 < 256
          · have hd : decide (a2.toNat = n) = false := decide_eq_false (by omega)
            rw [if_pos hk, if_pos hk, if_pos hk, withF_mem o0 n _ hn, withoutF_mem o0 n _ hn, hd]
            simp
          · rw [if_neg hk, if_neg hk, if_neg hk]; exact ⟨rfl, rfl⟩
        rw [this.1, this.2]; simp
    have m1 : mem (withF a0 n) n = true := by rw [withF_mem o0 n n hn]; simp
    have m2 : mem (withoutF a0 n) n = false := by rw [withoutF_mem o0 n n hn]; simp
    rw [hq1, Option.bind_some, hq2, Option.bind_some, hq3]
    have s1 : ∀ c : Bool, (bif c then some q3 else some false) = some (c && q3) := fun c => by cases c <;> rfl
    have s2 : ∀ c : Bool, (bif c then some q2 else some false) = some (c && q2) := fun c => by cases c <;> rfl
    rw [s1, Option.bind_some, s2, Option.bind_some, Option.bind_some, Has_eq _ n hn ow, m1, Option.bind_some, cond_true, Has_eq _ n hn ou, m2, Option.bind_some]
    have hsame2 : (((n : Int) == a2) || ((q1 == q2) && (((q1 == q2) && q3) == ((q1 == q2) && q2)))) = true := by
      rw [← hsame]
      cases (q1 == q2) <;> simp
    simp only [Bool.and_true] at e1
    simp only [hsame2, e1, Bool.true_and, Bool.and_true, Bool.not_false, cond_true]
    rw [Has_eq _ n hn o0, Option.bind_some]
    cases hm : mem a0 n with
    | true => rfl
    | false =>
      have e5 := eqW (mem_ext (withoutF_ok ow n) o0 fun k hk => by
        rw [hb k hk, withoutF_mem o0 n k hn]
        by_cases e : k = n
        · subst e; rw [hm]; rfl
        · simp [e])
      simp only [Bool.and_true] at e5
      simp only [e5, Bool.or_true]
  · have od : ((decide (((a1 : Int)) < 0)) || (decide ((a1 : Int) ≥ 256))) = true := by simp; omega
    rw [With_out a0 a1 hn, Option.bind_some, Without_out a0 a1 hn, Option.bind_some, od, cond_true]
    simp only [beq_self_eq_true, Bool.and_true]

/- the rest, from one on -/
def tailsOf (b : Nat → Int) (f : Nat) : List Int := ((List.range' f (256 - f)).filter (mem b)).map (fun n : Nat => (n : Int))
theorem tails_zero (b : Nat → Int) : tailsOf b 0 = elems b := by
  unfold tailsOf elems
  rw [List.range_eq_range']
theorem tails_cases (b : Nat → Int) : ∀ (j f : Nat), f ≤ 256 → 256 - f = j → (tailsOf b f = [] ∧ NextIs b f (-1)) ∨ ∃ n : Nat, tailsOf b f = (n : Int) :: tailsOf b (n + 1) ∧ NextIs b f n ∧ n < 256 := by
  intro j
  induction j with
  | zero =>
    intro f h1 h2
    refine .inl ⟨?_, .inl ⟨rfl, fun m m1 m2 => by omega⟩⟩
    unfold tailsOf
    rw [h2]; rfl
  | succ j ih =>
    intro f h1 h2
    have hr : List.range' f (256 - f) = f :: List.range' (f + 1) (256 - (f + 1)) := by
      rw [h2, List.range'_succ, show 256 - (f + 1) = j by omega]
    cases hm : mem b f with
    | true =>
      refine .inr ⟨f, ?_, .inr ⟨f, rfl, by omega, by omega, hm, fun m m1 m2 => by omega⟩, by omega⟩
      unfold tailsOf
      rw [hr, List.filter_cons_of_pos hm, List.map_cons]
    | false =>
      have e : tailsOf b f = tailsOf b (f + 1) := by
        unfold tailsOf
        rw [hr, List.filter_cons_of_neg (by simp [hm])]
      have ext : ∀ r, NextIs b (f + 1) r → NextIs b f r := by
        rintro r (⟨rfl, h⟩ | ⟨n, rfl, h3, h4, h5, h6⟩)
        · refine .inl ⟨rfl, fun m m1 m2 => ?_⟩
          by_cases hmf : m = f
          · rw [hmf]; exact hm
          · exact h m (by omega) m2
        · refine .inr ⟨n, rfl, h3, by omega, h5, fun m m1 m2 => ?_⟩
          by_cases hmf : m = f
          · rw [hmf]; exact hm
          · exact h6 m (by omega) m2
      rcases ih (f + 1) (by omega) (by omega) with ⟨h3, h4⟩ | ⟨n, h3, h4, h5⟩
      · exact .inl ⟨e.trans h3, ext _ h4⟩
      · exact .inr ⟨n, e.trans h3, ext _ h4, h5⟩
theorem next_unique {b : Nat → Int} {f : Nat} {r s : Int} (h : NextIs b f r) (k : NextIs b f s) : r = s := by
  rcases h with ⟨rfl, h⟩ | ⟨n, rfl, h1, h2, h3, h4⟩ <;> rcases k with ⟨rfl, k⟩ | ⟨m, rfl, k1, k2, k3, k4⟩
  · rfl
  · rw [h m k2 k1] at k3; cases k3
  · rw [k n h2 h1] at h3; cases h3
  · rcases Nat.lt_trichotomy n m with e | e | e
    · rw [k4 n h2 e] at h3; cases h3
    · rw [e]
    · rw [h4 m k2 e] at k3; cases k3
theorem order_l1_eq (b : Nat → Int) (hb : okB b) : ∀ n k (f : Nat), k ≤ (elems b).length → (elems b).length - k < n → f ≤ 256 → (elems b).drop k = tailsOf b f →
    keep_BitsOrder_l1 b (elems b) n f k = some true := by
  have hll := elems_len b
  intro n
  induction n with
  | zero => intro k f h1 h2; omega
  | succ n ih =>
    intro k f h1 h2 hf hd
    unfold keep_BitsOrder_l1
    obtain ⟨r, hr, hn⟩ := Next_le b f hf hb
    rw [hr]
    rcases Nat.lt_or_ge k (elems b).length with hlt | hge
    · rw [List.drop_eq_getElem_cons hlt] at hd
      rcases tails_cases b _ f hf rfl with ⟨h3, h4⟩ | ⟨m, h3, h4, h5⟩
      · rw [h3] at hd; cases hd
      · rw [h3, List.cons.injEq] at hd
        obtain ⟨hd1, hd2⟩ := hd
        have hrm := next_unique hn h4
        obtain ⟨m', e', _, _, hmem, _⟩ : ∃ m' : Nat, (m : Int) = m' ∧ m' < 256 ∧ f ≤ m' ∧ mem b m' = true ∧ True := by
          rcases h4 with ⟨h, _⟩ | ⟨m', e', q1, q2, q3, _⟩
          · omega
          · exact ⟨m', e', q1, q2, q3, trivial⟩
        have e' : m = m' := by omega
        subst e'
        rw [dec_lt hlt, cond_true, Option.bind_some, Nat.zero_add, getD_lt _ _ hlt, hd1, hrm, Has_eq b m h5 hb, hmem]
        simp only [bne_self_eq_false, Bool.not_false, cond_true, Option.bind_some, Bool.not_true, Bool.or_self, cond_false]
        rw [show IntKind.i64.wrap ((m : Int) + 1) = ((m + 1 : Nat) : Int) by rw [wrap_id (by omega) (by omega)]; omega]
        exact ih (k + 1) (m + 1) (by omega) (by omega) (by omega) hd2
    · rw [dec_ge hge, cond_false, Option.bind_some]
      rw [List.drop_of_length_le hge] at hd
      have hr1 : r = -1 := by
        rcases tails_cases b _ f hf rfl with ⟨_, h4⟩ | ⟨m, h3, _, _⟩
        · exact next_unique hn h4
        · rw [h3] at hd; cases hd
      obtain ⟨t, ht, htop⟩ := Top_eq b hb
      rw [hr1, ht]
      by_cases h0 : (elems b).length = 0
      · have he : elems b = [] := List.eq_nil_of_length_eq_zero h0
        have htm : t = -1 := by
          rcases htop with ⟨h, _⟩ | ⟨m, _, q1, q2, _⟩
          · exact h
          · have : (m : Int) ∈ elems b := (mem_elems b m).2 ⟨m, rfl, q1, q2⟩
            rw [he] at this; cases this
        subst htm
        rw [he]
        rfl
      · have hd1 : (((((elems b).length : Nat) : Int) : Int) == 0) = false := by simp; exact fun h => h0 (by rw [h]; rfl)
        have hd2 : decide ((((elems b).length : Nat) : Int) > 0) = true := decide_eq_true (by omega)
        simp only [beq_self_eq_true, Bool.true_and, hd1, Bool.false_and, cond_false, Option.bind_some, Bool.not_false, hd2, cond_true, Bool.false_or]
        have hw : IntKind.i64.wrap ((((elems b).length : Nat) : Int) - 1) = (((elems b).length - 1 : Nat) : Int) := by rw [wrap_id (by omega) (by omega)]; omega
        have hlt : (elems b).length - 1 < (elems b).length := by omega
        rw [hw, if_pos (by intro _; omega), Nat.zero_add, Int.toNat_natCast, getD_lt _ _ hlt]
        have hmem : (elems b)[(elems b).length - 1] ∈ elems b := List.getElem_mem hlt
        obtain ⟨m, hm, hm1, hm2⟩ := (mem_elems b _).1 hmem
        have : t = (elems b)[(elems b).length - 1] := by
          rcases htop with ⟨_, h⟩ | ⟨j, rfl, q1, q2, q3⟩
          · rw [h m hm1] at hm2; cases hm2
          · rw [hm]
            obtain ⟨i, hi, hij⟩ := List.getElem_of_mem ((mem_elems b j).2 ⟨j, rfl, q1, q2⟩)
            rcases Nat.lt_trichotomy j m with e | e | e
            · rw [q3 m e hm1] at hm2; cases hm2
            · rw [e]
            · have hp := List.pairwise_iff_getElem.1 (elems_lt b)
              rcases Nat.lt_or_ge i ((elems b).length - 1) with hi2 | hi2
              · have := hp i _ hi hlt hi2
                rw [hij, hm] at this
                omega
              · have : i = (elems b).length - 1 := by omega
                subst this
                rw [hm] at hij
                omega
        rw [this]
        simp
theorem BitsOrder_true (a0 : Nat → Int) (h0 : ∀ i, i < 4 → (0 ≤ (a0 i) ∧ (a0 i) ≤ 18446744073709551615)) : keep_BitsOrder a0 = some true := by
  have o0 : okB a0 := h0
  have hll := elems_len a0
  unfold keep_BitsOrder
  rw [alive1_eq, Option.bind_some, Bool.not_true, cond_false, All_eq _ o0, Option.bind_some]
  exact order_l1_eq a0 o0 FUEL 0 0 (by omega) (fuel_gt (by omega)) (by omega) (by rw [List.drop_zero, tails_zero])
end Go.Proofs.YtfnhanmdfbdimaaDoor
