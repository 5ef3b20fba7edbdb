/- Wheel: an add taken back. -/
import Derived.Test.YtjfadbefmhokeaaQJPwheel
set_option linter.unusedVariables false
set_option linter.unusedSimpArgs false
namespace Go.Proofs.Ytjfadbefmhokeaa
open Go Go.Ab

theorem eq_self_l1 (l : List Api_Fired) : ∀ (n k : Nat), k ≤ l.length → l.length < n + k → slices_Equal_api_Fired_l1 l l n k = some true
  | 0, k, h, h2 => by omega
  | n + 1, k, h, h2 => by
    unfold slices_Equal_api_Fired_l1
    by_cases hk : k < l.length
    · rw [dec_lt hk, cond_true, if_pos (idx_ok hk)]
      simp only [beq_self_eq_true, Bool.and_self, Bool.not_true, cond_false]
      exact eq_self_l1 l n (k + 1) (by omega) (by omega)
    · rw [dec_ge (by omega), cond_false]
theorem eq_self (l : List Api_Fired) (h : l.length < FUEL) : slices_Equal_api_Fired l l = some true := by
  unfold slices_Equal_api_Fired
  rw [show ((((l.length : Nat) : Int) : Int) != ((l.length : Nat) : Int)) = false by simp, cond_false]
  exact eq_self_l1 l _ 0 (by omega) (by omega)

theorem runA_append (a : AW) (l l' : List Api_TimerOp) : runA a (l ++ l') = runA (runA a l) l' := by unfold runA; rw [List.foldl_append]
theorem errsA_append : ∀ (l : List Api_TimerOp) (a : AW) (l' : List Api_TimerOp), errsA a (l ++ l') = errsA a l ++ errsA (runA a l) l'
  | [], _, _ => rfl
  | o :: r, a, l' => by
    show (doA a o).1 :: errsA (doA a o).2 (r ++ l') = (doA a o).1 :: (errsA (doA a o).2 r ++ errsA (runA (doA a o).2 r) l')
    rw [errsA_append r]
theorem errsA_length : ∀ (ops : List Api_TimerOp) (a : AW), (errsA a ops).length = ops.length
  | [], _ => rfl
  | o :: r, a => by unfold errsA; rw [List.length_cons, List.length_cons, errsA_length r]

/-- How much there is, at most an op each. -/
def size (a : AW) : Nat := a.fi.length + a.pl.length
theorem size_tick (a : AW) : size (tickA a) = size a := by
  have h1 : ((sorted (due (a.now + 1) a.pl)).map fun i => (⟨a.now + 1, i⟩ : Api_Fired)).length = (a.pl.filter fun p => decide (p.2 = a.now + 1)).length := by
    rw [List.length_map, (sorted_perm _).length_eq]; unfold due; rw [List.length_map]
  have h2 : ∀ (l : List (Int × Int)), (l.filter fun p => decide (p.2 = a.now + 1)).length + (l.filter fun p => decide (p.2 ≠ a.now + 1)).length = l.length := by
    intro l
    induction l with
    | nil => rfl
    | cons p l ih =>
      by_cases hc : p.2 = a.now + 1
      · simp only [List.filter_cons, hc, decide_true, if_true, ne_eq, not_true_eq_false, decide_false, Bool.false_eq_true, if_false, List.length_cons]; simp only [ne_eq] at ih; omega
      · simp only [List.filter_cons, hc, decide_true, if_true, ne_eq, not_false_eq_true, decide_false, Bool.false_eq_true, if_false, List.length_cons]; simp only [ne_eq] at ih; omega
  have h2 := h2 a.pl
  unfold size tickA
  simp only [List.length_append]
  rw [h1]
  omega
theorem size_ticks : ∀ (d : Nat) (a : AW), size (ticksA d a) = size a
  | 0, _ => rfl
  | d + 1, a => by show size (ticksA d (tickA a)) = _; rw [size_ticks d, size_tick]
theorem len_mdel {α : Type} (k : Int) : ∀ m : List (Int × α), (mdelete k m).length ≤ m.length
  | [] => by simp [mdelete]
  | p :: r => by
    unfold mdelete
    cases (k == p.1) with
    | true => simp
    | false => have := len_mdel k r; simp; omega
theorem size_do (a : AW) (o : Api_TimerOp) : size (doA a o).2 ≤ size a + 1 := by
  unfold doA
  split
  · split
    · show size a ≤ _; omega
    · cases hg : mget o.Id a.pl with
      | some v => show size a ≤ _; omega
      | none =>
        show a.fi.length + (mput o.Id (a.now + o.Ticks) a.pl).length ≤ a.fi.length + a.pl.length + 1
        rw [mput_new _ _ _ hg]; simp; omega
  · split
    · split
      · have := len_mdel o.Id a.pl
        show a.fi.length + (mdelete o.Id a.pl).length ≤ a.fi.length + a.pl.length + 1
        omega
      · show size a ≤ _; omega
    · split
      · split
        · show size a ≤ _; omega
        · show size (ticksA _ a) ≤ _; rw [size_ticks]; omega
      · show size a ≤ _; omega
theorem size_run : ∀ (l : List Api_TimerOp) (a : AW), size (runA a l) ≤ size a + l.length
  | [], a => by simp [runA]
  | o :: r, a => by
    have h1 := size_do a o
    have h2 := size_run r (doA a o).2
    show size (runA (doA a o).2 r) ≤ _
    simp only [List.length_cons]; omega
theorem fi_run (l : List Api_TimerOp) (h : l.length ≤ 400) : (runA a0A l).fi.length < FUEL := by
  have h1 := size_run l a0A
  have h2 : size a0A = 0 := rfl
  have h3 : (runA a0A l).fi.length ≤ size (runA a0A l) := by unfold size; omega
  have h4 : 400 < FUEL := by unfold FUEL; omega
  omega

theorem mdel_last {α : Type} (k : Int) (v : α) : ∀ m : List (Int × α), mget k m = none → mdelete k (m ++ [(k, v)]) = m
  | [], _ => by simp [mdelete]
  | q :: r, h => by
    unfold mget at h
    cases hk : (k == q.1) with
    | true => rw [hk, cond_true] at h; cases h
    | false =>
      rw [hk, cond_false] at h
      show mdelete k (q :: (r ++ [(k, v)])) = _
      unfold mdelete
      rw [hk, cond_false, mdel_last k v r h]
theorem mget_last {α : Type} (k : Int) (v : α) : ∀ m : List (Int × α), mget k m = none → mget k (m ++ [(k, v)]) = some v
  | [], _ => by simp [mget]
  | q :: r, h => by
    unfold mget at h
    cases hk : (k == q.1) with
    | true => rw [hk, cond_true] at h; cases h
    | false =>
      rw [hk, cond_false] at h
      show mget k (q :: (r ++ [(k, v)])) = _
      unfold mget
      rw [hk, cond_false, mget_last k v r h]

theorem play_some (ops : List Api_TimerOp) : ∃ r, wheel_Play ops = some r := by
  by_cases h : ops.length ≤ 400
  · exact ⟨_, play_abs ops h⟩
  · exact ⟨_, play_big ops h⟩

/-- An add that is accepted, and its cancelling. -/
theorem add_cancel (A : AW) (id d : Int) (h : (doA A ⟨1, id, d⟩).1 = 0) :
    (doA A ⟨1, id, d⟩).2.pl.length = A.pl.length + 1 ∧ (doA (doA A ⟨1, id, d⟩).2 ⟨2, id, 0⟩).2 = A := by
  have e : doA A ⟨1, id, d⟩ = if d < 1 ∨ d > 511 then (2, A) else if (mget id A.pl).isSome then (6, A) else (0, ⟨A.now, mput id (A.now + d) A.pl, A.fi⟩) := rfl
  rw [e] at h ⊢
  by_cases hr : d < 1 ∨ d > 511
  · rw [if_pos hr] at h; cases h
  · rw [if_neg hr] at h ⊢
    cases hg : mget id A.pl with
    | some v => rw [hg] at h; cases h
    | none =>
      show (mput id (A.now + d) A.pl).length = _ ∧ (doA ⟨A.now, mput id (A.now + d) A.pl, A.fi⟩ ⟨2, id, 0⟩).2 = A
      rw [mput_new _ _ _ hg]
      refine ⟨by simp, ?_⟩
      have e2 : doA ⟨A.now, A.pl ++ [(id, A.now + d)], A.fi⟩ ⟨2, id, 0⟩ = if (mget id (A.pl ++ [(id, A.now + d)])).isSome then (0, ⟨A.now, mdelete id (A.pl ++ [(id, A.now + d)]), A.fi⟩) else (3, ⟨A.now, A.pl ++ [(id, A.now + d)], A.fi⟩) := rfl
      rw [e2, mget_last _ _ _ hg, mdel_last _ _ _ hg]
      rfl

theorem WheelCancel_true (a0 : List Api_TimerOp) (a1 a2 a3 : Int) (h0 : a0.length * 24 ≤ 140737488351232 ∧ ∀ y ∈ a0, (Ok_Api_TimerOp y))
    (h1 : -9223372036854775808 ≤ a1 ∧ a1 ≤ 9223372036854775807) (h2 : -9223372036854775808 ≤ a2 ∧ a2 ≤ 9223372036854775807) (h3 : -9223372036854775808 ≤ a3 ∧ a3 ≤ 9223372036854775807) :
    keep_WheelCancel a0 a1 a2 a3 = some true := by
  unfold keep_WheelCancel
  rw [alive, Option.bind_some, show (!true) = false from rfl, cond_false]
  by_cases hb : a1 < 0 ∨ a1 > ((a0.length : Nat) : Int)
  · rw [show ((decide ((a1 : Int) < 0)) || (decide ((a1 : Int) > ((a0.length : Nat) : Int)))) = true by
      rcases hb with hb | hb <;> simp [hb], cond_true]
  · rw [show ((decide ((a1 : Int) < 0)) || (decide ((a1 : Int) > ((a0.length : Nat) : Int)))) = false by simp; omega, cond_false]
    obtain ⟨i, rfl⟩ : ∃ i : Nat, a1 = (i : Int) := ⟨a1.toNat, by omega⟩
    have hi : i ≤ a0.length := by omega
    have hL := h0.1
    simp only [Int.toNat_natCast, List.drop_zero, Nat.sub_zero, Nat.zero_add]
    rw [if_pos (by omega), if_pos hi]
    generalize hP : a0.take i = P
    have hPl : P.length = i := by rw [← hP]; simp; omega
    obtain ⟨r11, e11⟩ := play_some P
    rw [e11, Option.bind_some, if_pos (by omega), if_pos hi]
    unfold slices_Clone_api_TimerOp
    rw [if_pos (by omega), Option.bind_some, if_pos (by simp; omega)]
    obtain ⟨r18, e18⟩ := play_some (P ++ [(⟨1, a2, a3⟩ : Api_TimerOp)])
    rw [e18, Option.bind_some, if_pos (by omega), Option.bind_some]
    unfold slices_Insert_api_TimerOp
    rw [if_pos (by simp; omega), Option.bind_some, Int.toNat_natCast, hP]
    obtain ⟨r24, e24⟩ := play_some a0
    rw [e24, Option.bind_some]
    by_cases hs : a0.length + 2 ≤ 400
    · have hsplit : a0 = P ++ a0.drop i := by rw [← hP, List.take_append_drop]
      have hdl : (a0.drop i).length = a0.length - i := List.length_drop
      rw [play_abs P (by omega)] at e11
      rw [play_abs _ (by simp; omega)] at e18
      rw [play_abs a0 (by omega)] at e24
      rw [play_abs (P ++ [(⟨1, a2, a3⟩ : Api_TimerOp), (⟨2, a2, 0⟩ : Api_TimerOp)] ++ a0.drop i) (by simp; omega), Option.bind_some]
      have e11 := Option.some.inj e11; have e18 := Option.some.inj e18; have e24 := Option.some.inj e24
      subst e11 e18 e24
      simp only
      have hA := errsA_length (P ++ [(⟨1, a2, a3⟩ : Api_TimerOp)]) a0A
      rw [List.length_append, hPl, List.length_singleton] at hA
      rw [hA]
      have hw : IntKind.i64.wrap ((i : Int) + 1) = ((i + 1 : Nat) : Int) := by rw [wrapb (by omega) (by omega)]; omega
      rw [hw, if_pos (fun _ => by omega)]
      have hget : (errsA a0A (P ++ [(⟨1, a2, a3⟩ : Api_TimerOp)])).getD i 0 = (doA (runA a0A P) ⟨1, a2, a3⟩).1 := by
        rw [errsA_append, List.getD_eq_getElem?_getD, List.getElem?_append_right (by rw [errsA_length, hPl]; omega), errsA_length, hPl, Nat.sub_self]
        rfl
      rw [hget]
      simp only [bne_self_eq_false, Bool.or_self, Bool.false_or]
      cases hc : (doA (runA a0A P) ⟨1, a2, a3⟩).1 != 0 with
      | true => rw [cond_true]
      | false =>
        rw [cond_false]
        have hz : (doA (runA a0A P) ⟨1, a2, a3⟩).1 = 0 := by simpa using hc
        obtain ⟨q1, q2⟩ := add_cancel _ _ _ hz
        have hrun : runA a0A (P ++ [(⟨1, a2, a3⟩ : Api_TimerOp), (⟨2, a2, 0⟩ : Api_TimerOp)] ++ a0.drop i) = runA a0A a0 := by
          rw [runA_append, runA_append]
          conv => rhs; rw [hsplit, runA_append]
          show runA ((doA (doA (runA a0A P) ⟨1, a2, a3⟩).2 ⟨2, a2, 0⟩).2) _ = _
          rw [q2]
        have hrun1 : (runA a0A (P ++ [(⟨1, a2, a3⟩ : Api_TimerOp)])).pl.length = (runA a0A P).pl.length + 1 := by
          rw [runA_append]; exact q1
        have hsz := size_run P a0A
        have hsz2 : (runA a0A P).pl.length ≤ size (runA a0A P) := by unfold size; omega
        have h00 : size a0A = 0 := rfl
        rw [hrun, hrun1, wrapb (by omega) (by omega)]
        rw [show ((((((runA a0A P).pl.length + 1 : Nat) : Int)) : Int) == (((runA a0A P).pl.length : Nat) : Int) + 1) = true by simp]
        simp only [beq_self_eq_true, Bool.and_self, cond_true]
        rw [eq_self _ (fi_run a0 (by omega)), Option.bind_some]
        rfl
    · rw [play_big (P ++ [(⟨1, a2, a3⟩ : Api_TimerOp), (⟨2, a2, 0⟩ : Api_TimerOp)] ++ a0.drop i) (by simp; omega), Option.bind_some]
      simp only
      rw [show ((2 : Int) != 0) = true from rfl]
      simp

end Go.Proofs.Ytjfadbefmhokeaa
