/- What Way, Sweep and Short come to, in plain Lean. -/
import Derived.Test.YtkccegeejlbhnaaQLFK
set_option linter.unusedSimpArgs false
set_option linter.unusedVariables false
namespace Go.Proofs.Ytkccegeejlbhnaa
open Go Go.Ab

/- numbers of blocks -/
def okB (x : Int) : Bool := decide (0 ≤ x) && decide (x ≤ 1099511627776)
def good (l : List Int) : Bool := decide (l.length ≤ 400) && l.all okB
theorem good_iff {l : List Int} : good l = true ↔ l.length ≤ 400 ∧ ∀ x ∈ l, 0 ≤ x ∧ x ≤ 1099511627776 := by
  simp [good, okB]
theorem good_perm {a b : List Int} (h : a.Perm b) (hb : good b = true) : good a = true := by
  rw [good_iff] at *
  exact ⟨by rw [h.length_eq]; exact hb.1, fun x hx => hb.2 x (h.mem_iff.1 hx)⟩

theorem Wrong_1_eq (x : Int) : lift_Wrong_1 x = some (!okB x) := by
  unfold lift_Wrong_1 okB
  congr 1
  have h1 : decide ((x : Int) < 0) = !decide (0 ≤ x) := by rw [Bool.eq_iff_iff]; simp
  have h2 : decide ((x : Int) > 1099511627776) = !decide (x ≤ 1099511627776) := by rw [Bool.eq_iff_iff]; simp
  rw [h1, h2, Bool.not_and]

theorem Wrong_eq (l : List Int) : lift_Wrong l = some (bif good l then 0 else 2) := by
  unfold lift_Wrong
  by_cases h : l.length ≤ 400
  · have e1 : decide ((((l.length : Nat) : Int) : Int) > 400) = false := by simp; omega
    have e2 : decide (l.length ≤ 400) = true := by simpa using h
    have e3 : (l.any fun x => !okB x) = !(l.all okB) := by rw [List.not_all_eq_any_not]
    rw [e1, Bool.not_false, cond_true, slices_ContainsFunc_int_lift_Wrong_1_eq Wrong_1_eq l (by omega), Option.bind_some, Bool.false_or, e3]
    unfold good
    rw [e2, Bool.true_and]
    cases l.all okB <;> rfl
  · have e1 : decide ((((l.length : Nat) : Int) : Int) > 400) = true := by simp; omega
    have e2 : decide (l.length ≤ 400) = false := by simpa using h
    rw [e1, Bool.not_true, cond_false, Option.bind_some, Bool.true_or]
    unfold good
    rw [e2]
    rfl

/- the way -/
def dist (a b : Int) : Int := if a - b > b - a then a - b else b - a
def wayOf : Int → List Int → Int
  | _, [] => 0
  | h, b :: t => dist h b + wayOf b t
theorem dist_bd {a b : Int} (ha : 0 ≤ a ∧ a ≤ 1099511627776) (hb : 0 ≤ b ∧ b ≤ 1099511627776) : 0 ≤ dist a b ∧ dist a b ≤ 1099511627776 := by
  unfold dist; split <;> omega

theorem Way_l1 (a0 : Int) (a1 : List Int) (hl : a1.length ≤ 400) (hg : ∀ x ∈ a1, 0 ≤ x ∧ x ≤ 1099511627776) : ∀ n (x8 x9 : Int) (k : Nat), k ≤ a1.length → a1.length - k < n → (0 ≤ x8 ∧ x8 ≤ 1099511627776) → (0 ≤ x9 ∧ x9 ≤ (k : Int) * 1099511627776) →
    lift_Way_l1 a0 a1 n x8 x9 k = some (x9 + wayOf x8 (a1.drop k), 0) := by
  intro n
  induction n with
  | zero => intro x8 x9 k h1 h2; omega
  | succ n ih =>
    intro x8 x9 k h1 h2 h3 h4
    unfold lift_Way_l1
    rcases Nat.lt_or_ge k a1.length with hlt | hge
    · have hb := hg _ (List.getElem_mem hlt)
      have hd := dist_bd h3 hb
      rw [dec_lt hlt, cond_true, getD_lt _ _ hlt, List.drop_eq_getElem_cons hlt]
      generalize a1[k] = b at hb hd ⊢
      rw [wrap_id (x := x8 - b) (by omega) (by omega), wrap_id (x := b - x8) (by omega) (by omega)]
      show lift_Way_l1 a0 a1 n b (IntKind.i64.wrap (x9 + dist x8 b)) (k + 1) = some (x9 + (dist x8 b + wayOf b _), 0)
      rw [wrap_id (by omega) (by omega), ih b _ (k + 1) (by omega) (by omega) hb (by omega), Int.add_assoc]
    · rw [dec_ge hge, cond_false, List.drop_of_length_le hge]
      simp [wayOf]

theorem Way_eq (h : Int) (l : List Int) : lift_Way h l = some (bif good l && good [h] then (wayOf h l, 0) else (0, 2)) := by
  unfold lift_Way
  rw [Wrong_eq, Option.bind_some]
  cases hg : good l with
  | false => rfl
  | true =>
    rw [cond_true]
    have e : (!((0 : Int) != 0)) = true := by decide
    rw [e, cond_true, Wrong_eq, Option.bind_some]
    cases hh : good [h] with
    | false => rfl
    | true =>
      rw [good_iff] at hg hh
      have e2 : (((0 : Int) != 0) || ((bif true then (0 : Int) else 2) != 0)) = false := by decide
      rw [e2, cond_false, Way_l1 h l hg.1 hg.2 FUEL h 0 0 (by omega) (fuel_gt (by omega)) (hh.2 h (by simp)) (by omega)]
      simp

/- sorting -/
def ins (x : Int) : List Int → List Int
  | [] => [x]
  | y :: r => if x ≤ y then x :: y :: r else y :: ins x r
def sorted : List Int → List Int
  | [] => []
  | x :: r => ins x (sorted r)
theorem ins_perm (x : Int) : ∀ l : List Int, (ins x l).Perm (x :: l)
  | [] => .refl _
  | y :: r => by
    unfold ins
    split
    · exact .refl _
    · exact ((ins_perm x r).cons y).trans (.swap x y r)
theorem ins_sorted (x : Int) : ∀ l : List Int, l.Pairwise (· ≤ ·) → (ins x l).Pairwise (· ≤ ·)
  | [], _ => by simp [ins]
  | y :: r, h => by
    obtain ⟨h1, h2⟩ := List.pairwise_cons.1 h
    unfold ins
    split
    · rename_i hxy
      refine List.pairwise_cons.2 ⟨fun z hz => ?_, h⟩
      rcases List.mem_cons.1 hz with rfl | hz
      · exact hxy
      · exact Int.le_trans hxy (h1 z hz)
    · rename_i hxy
      refine List.pairwise_cons.2 ⟨fun z hz => ?_, ins_sorted x r h2⟩
      rcases List.mem_cons.1 ((ins_perm x r).mem_iff.1 hz) with rfl | hz
      · omega
      · exact h1 z hz
theorem sorted_perm : ∀ ids : List Int, (sorted ids).Perm ids
  | [] => .refl _
  | x :: r => (ins_perm x _).trans ((sorted_perm r).cons x)
theorem sorted_sorted : ∀ ids : List Int, (sorted ids).Pairwise (· ≤ ·)
  | [] => .nil
  | x :: r => ins_sorted x _ (sorted_sorted r)
theorem sorted_eq (ids : List Int) : (ids.mergeSort fun x y => decide (x ≤ y)) = sorted ids := by
  have h1 : (ids.mergeSort fun x y => decide (x ≤ y)).Pairwise (· ≤ ·) := by
    have := List.pairwise_mergeSort (le := fun x y : Int => decide (x ≤ y)) (by intro a b c; simp; omega) (by intro a b; simp; omega) ids
    exact this.imp (by intro a b h; simpa using h)
  exact List.Perm.eq_of_pairwise (le := (· ≤ ·)) (fun a b _ _ h h' => Int.le_antisymm h h') h1 (sorted_sorted ids) ((List.mergeSort_perm _ _).trans (sorted_perm ids).symm)
theorem sorted_congr {a b : List Int} (h : a.Perm b) : sorted a = sorted b :=
  List.Perm.eq_of_pairwise (le := (· ≤ ·)) (fun a b _ _ h h' => Int.le_antisymm h h') (sorted_sorted a) (sorted_sorted b) ((sorted_perm a).trans (h.trans (sorted_perm b).symm))
theorem Sorted_eq (l : List Int) (h : l.length ≤ 400) : slices_Sorted_int l = some (sorted l) := by
  unfold slices_Sorted_int
  rw [if_pos (by omega), sorted_eq]

/- the search -/
theorem isNaN_eq (x : Int) : slices_isNaN_int x = some false := by unfold slices_isNaN_int; simp
theorem Less_eq (x y : Int) : cmp_Less_int x y = some (decide (x < y)) := by
  unfold cmp_Less_int cmp_isNaN_int
  have e : (x != x) = false := by simp
  rw [Option.bind_some, e, cond_false, Option.bind_some, Bool.false_and, Bool.false_or]
theorem mid_eq (a b : Nat) (h : a + b ≤ 140737488355328) : IntKind.i64.wrap (Int.fdiv (IntKind.u64.wrap (IntKind.i64.wrap ((a : Int) + b))) (2 ^ (min (Int.toNat 1) IntKind.u64.bits))) = (((a + b) / 2 : Nat) : Int) := by
  rw [wrap_id (x := (a : Int) + b) (by omega) (by omega)]
  have e1 : IntKind.u64.wrap ((a : Int) + b) = (a : Int) + b := by simp [IntKind.wrap, IntKind.bits, IntKind.signed]; omega
  have e2 : ((2 : Int) ^ (min (Int.toNat 1) IntKind.u64.bits)) = 2 := by decide
  rw [e1, e2, Int.fdiv_eq_ediv_of_nonneg _ (by omega), wrap_id (by omega) (by omega)]
  omega

theorem BS_l1 (s : List Int) (h : Int) (hs : s.Pairwise (· ≤ ·)) (hl : s.length ≤ 400) : ∀ n (a b : Nat), a ≤ b → b ≤ s.length → b - a < n → (∀ i (hi : i < s.length), i < a → s[i] < h) → (∀ i (hi : i < s.length), b ≤ i → h ≤ s[i]) →
    ∃ (k : Nat) (f : Bool), slices_BinarySearch_int_l1 s h n a b = some ((k : Int), f) ∧ k ≤ s.length ∧ (∀ i (hi : i < s.length), i < k → s[i] < h) ∧ (∀ i (hi : i < s.length), k ≤ i → h ≤ s[i]) := by
  intro n
  induction n with
  | zero => intro a b h1 h2 h3; omega
  | succ n ih =>
    intro a b h1 h2 h3 h4 h5
    unfold slices_BinarySearch_int_l1
    by_cases hab : a < b
    · rw [show decide ((a : Int) < (b : Int)) = true by simpa using hab, cond_true, mid_eq a b (by omega)]
      obtain ⟨m, hm⟩ : ∃ m, m = (a + b) / 2 := ⟨_, rfl⟩
      rw [← hm]
      have hm1 : a ≤ m := by omega
      have hm2 : m < b := by omega
      have hml : m < s.length := by omega
      rw [if_pos (by omega), Less_eq, Option.bind_some, Int.toNat_natCast, getD_lt _ _ hml, wrap_id (by omega) (by omega)]
      by_cases hc : s[m] < h
      · rw [show decide (s[m] < h) = true by simpa using hc, cond_true]
        have := ih (m + 1) b (by omega) h2 (by omega) (fun i hi him => by
          rcases Nat.lt_or_ge i m with h6 | h6
          · have := List.pairwise_iff_getElem.1 hs i m hi hml h6
            omega
          · obtain rfl : i = m := by omega
            exact hc) h5
        simpa using this
      · rw [show decide (s[m] < h) = false by simpa using hc, cond_false]
        exact ih a m hm1 (by omega) (by omega) h4 (fun i hi him => by
          rcases Nat.lt_or_ge m i with h6 | h6
          · have := List.pairwise_iff_getElem.1 hs m i hml hi h6
            omega
          · obtain rfl : i = m := by omega
            omega)
    · obtain rfl : a = b := by omega
      rw [show decide ((a : Int) < (a : Int)) = false by simp, cond_false]
      rw [if_pos (fun hh => by have := of_decide_eq_true hh; omega)]
      rw [if_pos (fun hh => by
        have := of_decide_eq_true (Bool.and_eq_true_iff.1 hh).1; omega)]
      have hn : ∀ (c : Bool) (x : Int), (bif c then slices_isNaN_int x else some false) = some false := by
        intro c x
        rw [isNaN_eq]
        cases c <;> rfl
      rw [hn, Option.bind_some, hn, Option.bind_some]
      exact ⟨a, _, rfl, h2, h4, h5⟩

theorem take_filter {s : List Int} {h : Int} {k : Nat} (hk : k ≤ s.length) (h1 : ∀ i (hi : i < s.length), i < k → s[i] < h) (h2 : ∀ i (hi : i < s.length), k ≤ i → h ≤ s[i]) :
    s.take k = s.filter (fun x => decide (x < h)) ∧ s.drop k = s.filter (fun x => decide (h ≤ x)) := by
  have t1 : ∀ x ∈ s.take k, x < h := by
    intro x hx
    obtain ⟨i, hi, rfl⟩ := List.getElem_of_mem hx
    rw [List.length_take] at hi
    rw [List.getElem_take]
    exact h1 i (by omega) (by omega)
  have t2 : ∀ x ∈ s.drop k, h ≤ x := by
    intro x hx
    obtain ⟨i, hi, rfl⟩ := List.getElem_of_mem hx
    rw [List.length_drop] at hi
    rw [List.getElem_drop]
    exact h2 (k + i) (by omega) (by omega)
  have e := List.take_append_drop k s
  constructor
  · conv => rhs; rw [← e]
    rw [List.filter_append, List.filter_eq_self.2 (fun x hx => by simpa using t1 x hx), List.filter_eq_nil_iff.2 (fun x hx => by have := t2 x hx; simp; omega), List.append_nil]
  · conv => rhs; rw [← e]
    rw [List.filter_append, List.filter_eq_nil_iff.2 (fun x hx => by have := t1 x hx; simp; omega), List.filter_eq_self.2 (fun x hx => by simpa using t2 x hx), List.nil_append]

def downOf (h : Int) (l : List Int) : List Int := (sorted l).filter fun x => decide (x < h)
def upOf (h : Int) (l : List Int) : List Int := (sorted l).filter fun x => decide (h ≤ x)

theorem BS_eq (l : List Int) (h : Int) (hl : l.length ≤ 400) : ∃ (k : Nat) (f : Bool), slices_BinarySearch_int (sorted l) h = some ((k : Int), f) ∧ k ≤ (sorted l).length ∧ (sorted l).take k = downOf h l ∧ (sorted l).drop k = upOf h l := by
  have hsl : (sorted l).length = l.length := (sorted_perm l).length_eq
  obtain ⟨k, f, h1, h2, h3, h4⟩ := BS_l1 (sorted l) h (sorted_sorted l) (by omega) FUEL 0 (sorted l).length (Nat.zero_le _) (Nat.le_refl _) (fuel_gt (by omega)) (fun i hi h0 => by omega) (fun i hi h0 => by omega)
  refine ⟨k, f, h1, h2, ?_⟩
  exact take_filter h2 h3 h4

theorem up_down_perm (h : Int) (l : List Int) : (upOf h l ++ downOf h l).Perm l := by
  unfold upOf downOf
  have e : (fun x : Int => decide (x < h)) = fun x => !decide (h ≤ x) := by
    funext x
    rw [Bool.eq_iff_iff]; simp
  rw [e]
  exact (List.filter_append_perm _ _).trans (sorted_perm l)

theorem ud_len (h : Int) (l : List Int) : (upOf h l).length + (downOf h l).length = l.length := by
  have := (up_down_perm h l).length_eq
  rwa [List.length_append] at this

theorem Sweep_eq (h : Int) (l : List Int) : lift_Sweep h l = some (bif good l && good [h] then (upOf h l ++ downOf h l, 0) else ([], 2)) := by
  unfold lift_Sweep
  rw [Way_eq, Option.bind_some]
  cases hg : good l && good [h] with
  | false => rfl
  | true =>
    rw [Bool.and_eq_true] at hg
    obtain ⟨hg, hh⟩ := hg
    rw [good_iff] at hg
    have e : (((wayOf h l, (0 : Int)).2 : Int) != 0) = false := rfl
    rw [cond_true, cond_true, e, cond_false]
    unfold slices_Values_int
    obtain ⟨k, f, h1, h2, h3, h4⟩ := BS_eq l h hg.1
    have hud := ud_len h l
    rw [Option.bind_some, Sorted_eq l hg.1, Option.bind_some, h1, Option.bind_some]
    simp only [Int.toNat_natCast]
    rw [if_pos (by omega), if_pos h2, if_pos (by omega), if_pos h2]
    rw [List.drop_zero, Nat.sub_zero, h3, h4, List.take_of_length_le (by rw [← h4, List.length_drop]; exact Nat.le_refl _)]
    rw [slices_Concat_int_eq _ (by simp) (by simp; omega), Option.bind_some]
    simp

/- turning round -/
theorem Reverse_l1 (l : List Int) (hl : l.length ≤ 140737488355328) : ∀ n (i : Nat) (m : List Int), m.length = l.length → 2 * i ≤ l.length + 1 → l.length + 1 < 2 * i + 2 * n →
    (∀ k, k < l.length → m.getD k 0 = if k < i ∨ l.length ≤ k + i then l.getD (l.length - 1 - k) 0 else l.getD k 0) →
    slices_Reverse_int_h0_l1 l n (i : Int) ((l.length : Int) - 1 - i) m = some l.reverse := by
  intro n
  induction n with
  | zero => intro i m h1 h2 h3; omega
  | succ n ih =>
    intro i m h1 h2 h3 h4
    unfold slices_Reverse_int_h0_l1
    by_cases hc : 2 * i + 1 < l.length
    · have hd : decide ((i : Int) < (l.length : Int) - 1 - i) = true := by simp; omega
      obtain ⟨j, hj⟩ : ∃ j : Nat, (l.length : Int) - 1 - i = (j : Int) := ⟨l.length - 1 - i, by omega⟩
      rw [hd, cond_true, hj, if_pos (by omega), if_pos (by omega), if_pos (by omega), if_pos (by omega), Int.toNat_natCast, Int.toNat_natCast, Nat.zero_add, Nat.zero_add, wrap_id (x := (i : Int) + 1) (by omega) (by omega), wrap_id (x := (j : Int) - 1) (by omega) (by omega)]
      have := ih (i + 1) ((m.set i (m.getD j 0)).set j (m.getD i 0)) (by simp [h1]) (by omega) (by omega) (fun k hk => ?_)
      · rw [show ((i + 1 : Nat) : Int) = (i : Int) + 1 by omega, show (l.length : Int) - 1 - ((i : Int) + 1) = (j : Int) - 1 by omega] at this
        exact this
      · have hi := h4 i (by omega)
        have hjj := h4 j (by omega)
        rw [if_neg (by omega)] at hi hjj
        rw [List.getD_eq_getElem?_getD, List.getElem?_set, List.getElem?_set, List.length_set]
        by_cases e1 : j = k
        · subst e1
          rw [if_pos rfl, if_pos (by omega), if_pos (by omega), Option.getD_some, hi]
          congr 1; omega
        · rw [if_neg e1]
          by_cases e2 : i = k
          · subst e2
            rw [if_pos rfl, if_pos (by omega), if_pos (by omega), Option.getD_some, hjj]
            congr 1; omega
          · rw [if_neg e2, ← List.getD_eq_getElem?_getD, h4 k hk]
            by_cases e3 : k < i ∨ l.length ≤ k + i
            · rw [if_pos e3, if_pos (by omega)]
            · rw [if_neg e3, if_neg (by omega)]
    · have hd : decide ((i : Int) < (l.length : Int) - 1 - i) = false := by simp; omega
      rw [hd, cond_false]
      congr 1
      apply List.ext_getElem (by simp [h1])
      intro k hk1 hk2
      have hk : k < l.length := by omega
      have := h4 k hk
      rw [getD_lt _ _ hk1] at this
      rw [this, List.getElem_reverse]
      by_cases e3 : k < i ∨ l.length ≤ k + i
      · rw [if_pos e3, getD_lt _ _ (by omega)]
      · rw [if_neg e3, getD_lt _ _ hk]
        congr 1; omega
theorem Reverse_eq (l : List Int) (hl : l.length ≤ 140737488355328) : slices_Reverse_int_h0 l = some l.reverse := by
  unfold slices_Reverse_int_h0
  rw [wrap_id (by omega) (by omega)]
  have hfu : l.length < FUEL := fuel_gt hl
  have := Reverse_l1 l (by omega) FUEL 0 l rfl (Nat.zero_le _) (show l.length + 1 < 2 * 0 + 2 * FUEL by omega) (fun k hk => by rw [if_neg (show ¬ (k < 0 ∨ l.length ≤ k + 0) by omega)])
  simpa using this

def shortOf (h : Int) (l : List Int) : List Int :=
  if l = [] then [] else if (sorted l).getD ((sorted l).length - 1) 0 - h ≤ h - (sorted l).getD 0 0 then upOf h l ++ (downOf h l).reverse else (downOf h l).reverse ++ upOf h l

theorem Short_eq (h : Int) (l : List Int) : lift_Short h l = some (bif good l && good [h] then (shortOf h l, 0) else ([], 2)) := by
  unfold lift_Short
  rw [Way_eq, Option.bind_some]
  cases hg : good l && good [h] with
  | false => rfl
  | true =>
    rw [Bool.and_eq_true] at hg
    obtain ⟨hg, hh⟩ := hg
    rw [good_iff] at hg hh
    have e : (((wayOf h l, (0 : Int)).2 : Int) != 0) = false := rfl
    rw [cond_true, cond_true, e, cond_false]
    unfold shortOf
    by_cases h0 : l = []
    · subst h0
      rfl
    · have hpos : 0 < l.length := List.length_pos_iff.2 h0
      have e0 : ((((l.length : Nat) : Int) : Int) == 0) = false := by simp; omega
      have hsl : (sorted l).length = l.length := (sorted_perm l).length_eq
      rw [e0, cond_false, if_neg h0]
      unfold slices_Values_int
      obtain ⟨k, f, h1, h2, h3, h4⟩ := BS_eq l h hg.1
      have hud := ud_len h l
      rw [Option.bind_some, Sorted_eq l hg.1, Option.bind_some, h1, Option.bind_some]
      simp only [Int.toNat_natCast, Nat.zero_add, Nat.add_zero]
      rw [if_pos (by omega), if_pos h2, if_pos (by omega), if_pos h2]
      rw [List.drop_zero, Nat.sub_zero, h3, h4, show (upOf h l).take ((sorted l).length - k) = upOf h l from List.take_of_length_le (by rw [← h4, List.length_drop]; exact Nat.le_refl _)]
      unfold slices_Clone_int
      rw [if_pos (by omega), Option.bind_some, Reverse_eq _ (by omega), Option.bind_some, if_pos (by simp), wrap_id (by omega) (by omega), if_pos (by omega), if_pos (by omega)]
      have hl1 : Int.toNat ((((sorted l).length : Nat) : Int) - 1) = (sorted l).length - 1 := by omega
      rw [hl1]
      have hm1 : (sorted l).getD ((sorted l).length - 1) 0 ∈ l := by
        rw [getD_lt _ _ (by omega)]
        exact (sorted_perm l).mem_iff.1 (List.getElem_mem _)
      have hm2 : (sorted l).getD 0 0 ∈ l := by
        rw [getD_lt _ _ (by omega)]
        exact (sorted_perm l).mem_iff.1 (List.getElem_mem _)
      have b1 := hg.2 _ hm1
      have b2 := hg.2 _ hm2
      have b3 := hh.2 h (by simp)
      rw [wrap_id (by omega) (by omega), wrap_id (by omega) (by omega)]
      rw [slices_Concat_int_eq _ (by simp) (by simp; omega), slices_Concat_int_eq _ (by simp) (by simp; omega), Option.bind_some, Option.bind_some]
      by_cases hc : (sorted l).getD ((sorted l).length - 1) 0 - h ≤ h - (sorted l).getD 0 0
      · rw [if_pos hc, decide_eq_true hc, cond_true]; simp
      · rw [if_neg hc, decide_eq_false hc, cond_false]; simp

theorem short_perm (h : Int) (l : List Int) : (shortOf h l).Perm l := by
  unfold shortOf
  split
  · rename_i h0; rw [h0]
  · split
    · exact ((List.reverse_perm _).append_left _).trans (up_down_perm h l)
    · exact (List.perm_append_comm.trans ((List.reverse_perm _).append_left _)).trans (up_down_perm h l)

/- ways, in plain words -/
def endOf : Int → List Int → Int
  | h, [] => h
  | _, b :: t => endOf b t
theorem way_append : ∀ (p : List Int) (h : Int) (q : List Int), wayOf h (p ++ q) = wayOf h p + wayOf (endOf h p) q
  | [], h, q => by simp [wayOf, endOf]
  | b :: t, h, q => by simp only [List.cons_append, wayOf, endOf, way_append t b q]; omega
theorem way_asc : ∀ (p : List Int) (h : Int), p.Pairwise (· ≤ ·) → (∀ x ∈ p, h ≤ x) → wayOf h p = endOf h p - h
  | [], h, _, _ => by simp [wayOf, endOf]
  | b :: t, h, hp, hh => by
    obtain ⟨h1, h2⟩ := List.pairwise_cons.1 hp
    have hb := hh b (by simp)
    simp only [wayOf, endOf, way_asc t b h2 h1]
    unfold dist
    split <;> omega
theorem way_desc : ∀ (p : List Int) (h : Int), p.Pairwise (fun a b => b ≤ a) → (∀ x ∈ p, x ≤ h) → wayOf h p = h - endOf h p
  | [], h, _, _ => by simp [wayOf, endOf]
  | b :: t, h, hp, hh => by
    obtain ⟨h1, h2⟩ := List.pairwise_cons.1 hp
    have hb := hh b (by simp)
    simp only [wayOf, endOf, way_desc t b h2 h1]
    unfold dist
    split <;> omega
theorem end_mem : ∀ (p : List Int) (h : Int), p ≠ [] → endOf h p ∈ p
  | [], _, h => absurd rfl h
  | [b], _, _ => by simp [endOf]
  | b :: c :: t, h, _ => by
    have := end_mem (c :: t) b (by simp)
    show endOf b (c :: t) ∈ _
    exact List.mem_cons_of_mem _ this
theorem end_asc : ∀ (p : List Int) (h : Int), p.Pairwise (· ≤ ·) → ∀ x ∈ p, x ≤ endOf h p
  | [], _, _, x, hx => by simp at hx
  | [b], _, _, x, hx => by simp at hx; simp [endOf, hx]
  | b :: c :: t, h, hp, x, hx => by
    obtain ⟨h1, h2⟩ := List.pairwise_cons.1 hp
    have ih := end_asc (c :: t) b h2
    show x ≤ endOf b (c :: t)
    rcases List.mem_cons.1 hx with rfl | hx
    · exact Int.le_trans (h1 c (by simp)) (ih c (by simp))
    · exact ih x hx
theorem end_desc : ∀ (p : List Int) (h : Int), p.Pairwise (fun a b => b ≤ a) → ∀ x ∈ p, endOf h p ≤ x
  | [], _, _, x, hx => by simp at hx
  | [b], _, _, x, hx => by simp at hx; simp [endOf, hx]
  | b :: c :: t, h, hp, x, hx => by
    obtain ⟨h1, h2⟩ := List.pairwise_cons.1 hp
    have ih := end_desc (c :: t) b h2
    show endOf b (c :: t) ≤ x
    rcases List.mem_cons.1 hx with rfl | hx
    · exact Int.le_trans (ih c (by simp)) (h1 c (by simp))
    · exact ih x hx

theorem way_nonneg : ∀ (p : List Int) (h : Int), 0 ≤ wayOf h p
  | [], _ => Int.le_refl _
  | b :: t, h => by
    have := way_nonneg t b
    simp only [wayOf]
    unfold dist
    split <;> omega
theorem way_one : ∀ (p : List Int) (h x : Int), x ∈ p → dist h x ≤ wayOf h p
  | [], _, _, hx => by simp at hx
  | b :: t, h, x, hx => by
    simp only [wayOf]
    rcases List.mem_cons.1 hx with rfl | hx
    · have := way_nonneg t x; omega
    · have := way_one t b x hx
      unfold dist at *
      split at this <;> split <;> split <;> omega
theorem way_two : ∀ (p : List Int) (h x y : Int), x ∈ p → y ∈ p → dist x y + (if dist h x ≤ dist h y then dist h x else dist h y) ≤ wayOf h p
  | [], _, _, _, hx, _ => by simp at hx
  | b :: t, h, x, y, hx, hy => by
    simp only [wayOf]
    rcases List.mem_cons.1 hx with rfl | hx'
    · rcases List.mem_cons.1 hy with rfl | hy'
      · have := way_nonneg t y
        unfold dist
        split <;> split <;> split <;> omega
      · have := way_one t x y hy'
        split <;> omega
    · rcases List.mem_cons.1 hy with rfl | hy'
      · have := way_one t y x hx'
        have e : dist x y = dist y x := by unfold dist; split <;> split <;> omega
        split <;> omega
      · have := way_two t b x y hx' hy'
        have t1 : dist h x ≤ dist h b + dist b x := by unfold dist; split <;> split <;> split <;> omega
        have t2 : dist h y ≤ dist h b + dist b y := by unfold dist; split <;> split <;> split <;> omega
        split at this <;> split <;> omega

theorem sorted_last {l : List Int} (h0 : l ≠ []) : (sorted l).getD ((sorted l).length - 1) 0 ∈ l ∧ ∀ x ∈ l, x ≤ (sorted l).getD ((sorted l).length - 1) 0 := by
  have hpos : 0 < l.length := List.length_pos_iff.2 h0
  have hsl : (sorted l).length = l.length := (sorted_perm l).length_eq
  rw [getD_lt _ _ (by omega)]
  refine ⟨(sorted_perm l).mem_iff.1 (List.getElem_mem _), fun x hx => ?_⟩
  obtain ⟨i, hi, rfl⟩ := List.getElem_of_mem ((sorted_perm l).mem_iff.2 hx)
  rcases Nat.lt_or_ge i ((sorted l).length - 1) with h | h
  · exact List.pairwise_iff_getElem.1 (sorted_sorted l) i _ hi (by omega) h
  · obtain rfl : i = (sorted l).length - 1 := by omega
    exact Int.le_refl _
theorem sorted_first {l : List Int} (h0 : l ≠ []) : (sorted l).getD 0 0 ∈ l ∧ ∀ x ∈ l, (sorted l).getD 0 0 ≤ x := by
  have hpos : 0 < l.length := List.length_pos_iff.2 h0
  have hsl : (sorted l).length = l.length := (sorted_perm l).length_eq
  rw [getD_lt _ _ (by omega)]
  refine ⟨(sorted_perm l).mem_iff.1 (List.getElem_mem _), fun x hx => ?_⟩
  obtain ⟨i, hi, rfl⟩ := List.getElem_of_mem ((sorted_perm l).mem_iff.2 hx)
  rcases Nat.eq_zero_or_pos i with rfl | h
  · exact Int.le_refl _
  · exact List.pairwise_iff_getElem.1 (sorted_sorted l) 0 i (by omega) hi h

theorem mem_up {h x : Int} {l : List Int} : x ∈ upOf h l ↔ x ∈ l ∧ h ≤ x := by
  unfold upOf
  rw [List.mem_filter, (sorted_perm l).mem_iff]; simp
theorem mem_down {h x : Int} {l : List Int} : x ∈ downOf h l ↔ x ∈ l ∧ x < h := by
  unfold downOf
  rw [List.mem_filter, (sorted_perm l).mem_iff]; simp
theorem up_sorted (h : Int) (l : List Int) : (upOf h l).Pairwise (· ≤ ·) := (sorted_sorted l).sublist List.filter_sublist
theorem down_sorted (h : Int) (l : List Int) : (downOf h l).Pairwise (· ≤ ·) := (sorted_sorted l).sublist List.filter_sublist
theorem down_rev (h : Int) (l : List Int) : (downOf h l).reverse.Pairwise (fun a b => b ≤ a) := List.pairwise_reverse.2 (down_sorted h l)

/-- how far Short goes -/
theorem short_way {h lo hi : Int} {l : List Int} (h1 : lo ∈ l) (h2 : ∀ x ∈ l, lo ≤ x) (h3 : hi ∈ l) (h4 : ∀ x ∈ l, x ≤ hi) :
    wayOf h (shortOf h l) = if h ≤ lo then hi - h else if hi < h then h - lo else if hi - h ≤ h - lo then (hi - h) + (hi - lo) else (h - lo) + (hi - lo) := by
  have h0 : l ≠ [] := by rintro rfl; simp at h1
  have hlast := sorted_last h0
  have hfirst := sorted_first h0
  have el : (sorted l).getD ((sorted l).length - 1) 0 = hi := Int.le_antisymm (h4 _ hlast.1) (hlast.2 _ h3)
  have ef : (sorted l).getD 0 0 = lo := Int.le_antisymm (hfirst.2 _ h1) (h2 _ hfirst.1)
  unfold shortOf
  rw [if_neg h0, el, ef]
  by_cases c1 : h ≤ lo
  · have ed : downOf h l = [] := by
      apply List.eq_nil_iff_forall_not_mem.2
      intro x hx
      have := mem_down.1 hx
      have := h2 x this.1
      omega
    have hiu : hi ∈ upOf h l := mem_up.2 ⟨h3, by have := h2 hi h3; omega⟩
    have e1 : endOf h (upOf h l) = hi := Int.le_antisymm (h4 _ (mem_up.1 (end_mem _ h (by rintro e; rw [e] at hiu; simp at hiu))).1) (end_asc _ h (up_sorted h l) _ hiu)
    have e2 := way_asc (upOf h l) h (up_sorted h l) (fun x hx => (mem_up.1 hx).2)
    rw [ed, if_pos c1]
    simp only [List.reverse_nil, List.append_nil, List.nil_append, ite_self]
    rw [e2, e1]
  · have hld : lo ∈ (downOf h l).reverse := List.mem_reverse.2 (mem_down.2 ⟨h1, by omega⟩)
    have hdne : (downOf h l).reverse ≠ [] := by rintro e; rw [e] at hld; simp at hld
    have e1 : ∀ z, endOf z (downOf h l).reverse = lo := fun z => Int.le_antisymm (end_desc _ z (down_rev h l) _ hld) (h2 _ (mem_down.1 (List.mem_reverse.1 (end_mem _ z hdne))).1)
    rw [if_neg c1]
    by_cases c2 : hi < h
    · have eu : upOf h l = [] := by
        apply List.eq_nil_iff_forall_not_mem.2
        intro x hx
        have := mem_up.1 hx
        have := h4 x this.1
        omega
      have e2 := way_desc (downOf h l).reverse h (down_rev h l) (fun x hx => by have := (mem_down.1 (List.mem_reverse.1 hx)).2; omega)
      rw [eu, if_pos c2]
      simp only [List.append_nil, List.nil_append, ite_self]
      rw [e2, e1]
    · have hiu : hi ∈ upOf h l := mem_up.2 ⟨h3, by omega⟩
      have hune : upOf h l ≠ [] := by rintro e; rw [e] at hiu; simp at hiu
      have e2 : ∀ z, endOf z (upOf h l) = hi := fun z => Int.le_antisymm (h4 _ (mem_up.1 (end_mem _ z hune)).1) (end_asc _ z (up_sorted h l) _ hiu)
      rw [if_neg c2]
      by_cases c3 : hi - h ≤ h - lo
      · rw [if_pos c3, if_pos c3, way_append, e2, way_asc _ _ (up_sorted h l) (fun x hx => (mem_up.1 hx).2), e2, way_desc _ _ (down_rev h l) (fun x hx => h4 _ (mem_down.1 (List.mem_reverse.1 hx)).1), e1]
      · rw [if_neg c3, if_neg c3, way_append, e1, way_desc _ _ (down_rev h l) (fun x hx => by have := (mem_down.1 (List.mem_reverse.1 hx)).2; omega), e1, way_asc _ _ (up_sorted h l) (fun x hx => h2 _ (mem_up.1 hx).1), e2]

/-- no order is shorter -/
theorem short_least (h : Int) (l p : List Int) (hp : p.Perm l) : wayOf h (shortOf h l) ≤ wayOf h p := by
  by_cases h0 : l = []
  · subst h0
    exact way_nonneg p h
  · have hlast := sorted_last h0
    have hfirst := sorted_first h0
    generalize (sorted l).getD ((sorted l).length - 1) 0 = hi at hlast
    generalize (sorted l).getD 0 0 = lo at hfirst
    rw [short_way hfirst.1 hfirst.2 hlast.1 hlast.2]
    have hlh := hfirst.2 hi hlast.1
    have a1 := way_one p h lo (hp.mem_iff.2 hfirst.1)
    have a2 := way_one p h hi (hp.mem_iff.2 hlast.1)
    have a3 := way_two p h lo hi (hp.mem_iff.2 hfirst.1) (hp.mem_iff.2 hlast.1)
    generalize wayOf h p = w at a1 a2 a3 ⊢
    unfold dist at a1 a2 a3
    split
    · split at a2 <;> omega
    · split
      · split at a1 <;> omega
      · rw [if_neg (show ¬ (lo - hi > hi - lo) by omega), if_pos (show h - lo > lo - h by omega)] at a3
        by_cases c4 : h - hi > hi - h
        · omega
        · rw [if_neg c4] at a3
          split at a3 <;> split <;> omega

end Go.Proofs.Ytkccegeejlbhnaa
