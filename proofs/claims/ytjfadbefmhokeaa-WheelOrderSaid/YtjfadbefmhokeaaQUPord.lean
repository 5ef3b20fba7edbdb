/- Wheel: the order of adds. -/
import Derived.Test.YtjfadbefmhokeaaQUPwheel
set_option linter.unusedVariables false
set_option linter.unusedSimpArgs false
namespace Go.Proofs.Ytjfadbefmhokeaa
open Go Go.Ab

theorem eq_self_l1 (l : List Api_Fired) : ∀ (n k : Nat), k ≤ l.length → l.length < n + k → slices_Equal_api_Fired_l1 l l n k = some true
  | 0, k, h, h2 => by omega
  | n + 1, k, h, h2 => by
    unfold slices_Equal_api_Fired_l1
    by_cases hk : k < l.length
    · rw [dec_lt hk, cond_true, if_pos (idx_ok hk)]
      simp only [beq_self_eq_true, Bool.and_self, Bool.not_true, cond_false]
      exact eq_self_l1 l n (k + 1) (by omega) (by omega)
    · rw [dec_ge (by omega), cond_false]
theorem eq_self (l : List Api_Fired) (h : l.length < FUEL) : slices_Equal_api_Fired l l = some true := by
  unfold slices_Equal_api_Fired
  rw [show ((((l.length : Nat) : Int) : Int) != ((l.length : Nat) : Int)) = false by simp, cond_false]
  exact eq_self_l1 l _ 0 (by omega) (by omega)

theorem runA_append (a : AW) (l l' : List Api_TimerOp) : runA a (l ++ l') = runA (runA a l) l' := by unfold runA; rw [List.foldl_append]
theorem errsA_append : ∀ (l : List Api_TimerOp) (a : AW) (l' : List Api_TimerOp), errsA a (l ++ l') = errsA a l ++ errsA (runA a l) l'
  | [], _, _ => rfl
  | o :: r, a, l' => by
    show (doA a o).1 :: errsA (doA a o).2 (r ++ l') = (doA a o).1 :: (errsA (doA a o).2 r ++ errsA (runA (doA a o).2 r) l')
    rw [errsA_append r]
theorem errsA_length : ∀ (ops : List Api_TimerOp) (a : AW), (errsA a ops).length = ops.length
  | [], _ => rfl
  | o :: r, a => by unfold errsA; rw [List.length_cons, List.length_cons, errsA_length r]

/-- How much there is, at most an op each. -/
def size (a : AW) : Nat := a.fi.length + a.pl.length
theorem size_tick (a : AW) : size (tickA a) = size a := by
  have h1 : ((sorted (due (a.now + 1) a.pl)).map fun i => (⟨a.now + 1, i⟩ : Api_Fired)).length = (a.pl.filter fun p => decide (p.2 = a.now + 1)).length := by
    rw [List.length_map, (sorted_perm _).length_eq]; unfold due; rw [List.length_map]
  have h2 : ∀ (l : List (Int × Int)), (l.filter fun p => decide (p.2 = a.now + 1)).length + (l.filter fun p => decide (p.2 ≠ a.now + 1)).length = l.length := by
    intro l
    induction l with
    | nil => rfl
    | cons p l ih =>
      by_cases hc : p.2 = a.now + 1
      · simp only [List.filter_cons, hc, decide_true, if_true, ne_eq, not_true_eq_false, decide_false, Bool.false_eq_true, if_false, List.length_cons]; simp only [ne_eq] at ih; omega
      · simp only [List.filter_cons, hc, decide_true, if_true, ne_eq, not_false_eq_true, decide_false, Bool.false_eq_true, if_false, List.length_cons]; simp only [ne_eq] at ih; omega
  have h2 := h2 a.pl
  unfold size tickA
  simp only [List.length_append]
  rw [h1]
  omega
theorem size_ticks : ∀ (d : Nat) (a : AW), size (ticksA d a) = size a
  | 0, _ => rfl
  | d + 1, a => by show size (ticksA d (tickA a)) = _; rw [size_ticks d, size_tick]
theorem len_mdel {α : Type} (k : Int) : ∀ m : List (Int × α), (mdelete k m).length ≤ m.length
  | [] => by simp [mdelete]
  | p :: r => by
    unfold mdelete
    cases (k == p.1) with
    | true => simp
    | false => have := len_mdel k r; simp; omega
theorem size_do (a : AW) (o : Api_TimerOp) : size (doA a o).2 ≤ size a + 1 := by
  unfold doA
  split
  · split
    · show size a ≤ _; omega
    · cases hg : mget o.Id a.pl with
      | some v => show size a ≤ _; omega
      | none =>
        show a.fi.length + (mput o.Id (a.now + o.Ticks) a.pl).length ≤ a.fi.length + a.pl.length + 1
        rw [mput_new _ _ _ hg]; simp; omega
  · split
    · split
      · have := len_mdel o.Id a.pl
        show a.fi.length + (mdelete o.Id a.pl).length ≤ a.fi.length + a.pl.length + 1
        omega
      · show size a ≤ _; omega
    · split
      · split
        · show size a ≤ _; omega
        · show size (ticksA _ a) ≤ _; rw [size_ticks]; omega
      · show size a ≤ _; omega
theorem size_run : ∀ (l : List Api_TimerOp) (a : AW), size (runA a l) ≤ size a + l.length
  | [], a => by simp [runA]
  | o :: r, a => by
    have h1 := size_do a o
    have h2 := size_run r (doA a o).2
    show size (runA (doA a o).2 r) ≤ _
    simp only [List.length_cons]; omega
theorem fi_run (l : List Api_TimerOp) (h : l.length ≤ 400) : (runA a0A l).fi.length < FUEL := by
  have h1 := size_run l a0A
  have h2 : size a0A = 0 := rfl
  have h3 : (runA a0A l).fi.length ≤ size (runA a0A l) := by unfold size; omega
  have h4 : 400 < FUEL := by unfold FUEL; omega
  omega


theorem play_some (ops : List Api_TimerOp) : ∃ r, wheel_Play ops = some r := by
  by_cases h : ops.length ≤ 400
  · exact ⟨_, play_abs ops h⟩
  · exact ⟨_, play_big ops h⟩

/-- The same, but for the order in the map. -/
structure PA (a b : AW) : Prop where
  now : a.now = b.now
  pl : a.pl.Perm b.pl
  fi : a.fi = b.fi

theorem pa_tick {a b : AW} (h : PA a b) : PA (tickA a) (tickA b) := by
  refine ⟨?_, ?_, ?_⟩
  · show a.now + 1 = b.now + 1; rw [h.now]
  · show (a.pl.filter _).Perm (b.pl.filter _); rw [h.now]; exact h.pl.filter _
  · show a.fi ++ _ = b.fi ++ _
    have : sorted (due (a.now + 1) a.pl) = sorted (due (b.now + 1) b.pl) := by
      apply sorted_congr
      unfold due
      rw [h.now]
      exact (h.pl.filter _).map _
    rw [this, h.fi, h.now]
theorem pa_ticks : ∀ (d : Nat) {a b : AW}, PA a b → PA (ticksA d a) (ticksA d b)
  | 0, _, _, h => h
  | d + 1, _, _, h => pa_ticks d (pa_tick h)
theorem pa_do3 {a b : AW} (h : PA a b) (d : Int) : PA (doA a ⟨3, 0, d⟩).2 (doA b ⟨3, 0, d⟩).2 := by
  have e : ∀ c : AW, doA c ⟨3, 0, d⟩ = if d < 0 ∨ d > 2000 then (2, c) else (0, ticksA d.toNat c) := fun _ => rfl
  rw [e, e]
  split
  · exact h
  · exact pa_ticks _ h

def good (o : Api_TimerOp) : Bool := decide (1 ≤ o.Ticks ∧ o.Ticks ≤ 511)
theorem run_adds : ∀ (ops : List Api_TimerOp) (a : AW), (∀ o ∈ ops, o.Kind = 1) → (ops.map (·.Id)).Nodup → (∀ o ∈ ops, mget o.Id a.pl = none) →
    runA a ops = ⟨a.now, a.pl ++ (ops.filter good).map (fun o => (o.Id, a.now + o.Ticks)), a.fi⟩
  | [], a, _, _, _ => by show a = ⟨a.now, a.pl ++ [], a.fi⟩; rw [List.append_nil]
  | o :: r, a, hk, hn, hm => by
    obtain ⟨n1, n2⟩ := List.nodup_cons.1 (show (o.Id :: r.map (·.Id)).Nodup from hn)
    have hg := hm o List.mem_cons_self
    show runA (doA a o).2 r = _
    by_cases hr : 1 ≤ o.Ticks ∧ o.Ticks ≤ 511
    · have e : (doA a o).2 = ⟨a.now, a.pl ++ [(o.Id, a.now + o.Ticks)], a.fi⟩ := by
        unfold doA
        rw [if_pos (hk o List.mem_cons_self), if_neg (by omega), hg]
        show (⟨a.now, mput o.Id (a.now + o.Ticks) a.pl, a.fi⟩ : AW) = _
        rw [mput_new _ _ _ hg]
      rw [e, run_adds r _ (fun p hp => hk p (List.mem_cons_of_mem _ hp)) n2 (by
        intro p hp
        show mget p.Id (a.pl ++ [(o.Id, a.now + o.Ticks)]) = none
        rw [← mput_new _ _ _ hg, mget_mput, if_neg (by rintro he; exact n1 (by rw [← he]; exact List.mem_map.2 ⟨p, hp, rfl⟩))]
        exact hm p (List.mem_cons_of_mem _ hp))]
      rw [List.filter_cons, show good o = true by simpa [good] using hr, if_pos rfl]
      simp
    · have e : (doA a o).2 = a := by
        unfold doA
        rw [if_pos (hk o List.mem_cons_self), if_pos (by omega)]
      rw [e, run_adds r _ (fun p hp => hk p (List.mem_cons_of_mem _ hp)) n2 (fun p hp => hm p (List.mem_cons_of_mem _ hp))]
      rw [List.filter_cons, show good o = false by simpa [good] using hr, if_neg (by simp)]

theorem pa_adds {l l' : List Api_TimerOp} (h : l.Perm l') (hk : ∀ o ∈ l, o.Kind = 1) (hn : (l.map (·.Id)).Nodup) : PA (runA a0A l) (runA a0A l') := by
  rw [run_adds l a0A hk hn (fun _ _ => rfl), run_adds l' a0A (fun o ho => hk o (h.mem_iff.2 ho)) ((h.map _).nodup_iff.1 hn) (fun _ _ => rfl)]
  exact ⟨rfl, ((h.filter _).map _).append_left _, rfl⟩

theorem index_l1 (l : List Int) (x : Int) : ∀ (n k : Nat), l.length < n + k → k ≤ l.length → ∃ r, slices_Index_int_l1 l x n k = some r ∧ ((0 ≤ r) ↔ x ∈ l.drop k)
  | 0, k, h, h2 => by omega
  | n + 1, k, h, h2 => by
    unfold slices_Index_int_l1
    by_cases hk : k < l.length
    · rw [dec_lt hk, cond_true]
      rw [List.drop_eq_getElem_cons hk, getD_lt l 0 hk]
      by_cases hx : x = l[k]
      · rw [show (x == l[k]) = true by simpa using hx, cond_true]
        exact ⟨_, rfl, by constructor <;> intro _ <;> first | (rw [← hx]; exact List.mem_cons_self) | omega⟩
      · rw [show (x == l[k]) = false by simpa using hx, cond_false]
        obtain ⟨r, h3, h4⟩ := index_l1 l x n (k + 1) (by omega) (by omega)
        refine ⟨r, h3, h4.trans ⟨fun h => List.mem_cons_of_mem _ h, fun h => ?_⟩⟩
        rcases List.mem_cons.1 h with h | h
        · exact absurd h hx
        · exact h
    · rw [dec_ge (by omega), cond_false]
      refine ⟨-1, rfl, ?_⟩
      rw [List.drop_eq_nil_of_le (by omega)]
      constructor
      · intro h; omega
      · intro h; cases h
theorem contains_spec (l : List Int) (x : Int) (h : l.length < FUEL) : slices_Contains_int l x = some (decide (x ∈ l)) := by
  unfold slices_Contains_int slices_Index_int
  obtain ⟨r, h1, h2⟩ := index_l1 l x FUEL 0 (by omega) (by omega)
  rw [h1, Option.bind_some]
  rw [List.drop_zero] at h2
  congr 1
  exact decide_eq_decide.2 h2

theorem last (l l' : List Api_TimerOp) (d : Int) (h : l.Perm l') (hk : ∀ o ∈ l, o.Kind = 1) (hn : (l.map (·.Id)).Nodup) (hl : l.length ≤ 100) :
    PA (runA a0A (l ++ [⟨3, 0, d⟩])) (runA a0A (l' ++ [⟨3, 0, d⟩])) := by
  rw [runA_append, runA_append]
  exact pa_do3 (pa_adds h hk hn) d

theorem order_l1 (a0 a1 : List Int) (a2 : Int) (N : Nat) (hN : (if (100 : Int) < (if (((a1.length : Nat) : Int) : Int) < ((a0.length : Nat) : Int) then ((a1.length : Nat) : Int) else ((a0.length : Nat) : Int)) then 100 else (if (((a1.length : Nat) : Int) : Int) < ((a0.length : Nat) : Int) then ((a1.length : Nat) : Int) else ((a0.length : Nat) : Int))) = (N : Int))
    (hN1 : N ≤ 100) (hN2 : N ≤ a0.length) (hN3 : N ≤ a1.length) : ∀ (m n i : Nat) (l l' : List Api_TimerOp), i + m = N → l.length = i → l' = l.reverse → (∀ o ∈ l, o.Kind = 1) → l.map (·.Id) = a0.take i → (l.map (·.Id)).Nodup →
    keep_WheelOrder_l1 a0 a1 a2 (n + 1 + m) l l' (i : Int) = some true
  | 0, n, i, l, l', hi, hl, hr, hk, hd, hn => by
    unfold keep_WheelOrder_l1
    rw [hN, show decide (((i : Nat) : Int) < (N : Int)) = false by simp; omega, cond_false]
    have hl' : l'.length = i := by rw [hr, List.length_reverse, hl]
    rw [if_pos (by simp; omega), play_abs _ (by simp; omega), Option.bind_some, if_pos (by simp; omega), play_abs _ (by simp; omega), Option.bind_some]
    have hp : l.Perm l' := by rw [hr]; exact (List.reverse_perm l).symm
    obtain ⟨-, p2, p3⟩ := last l l' a2 hp hk hn (by omega)
    have hf := fi_run (l ++ [⟨3, 0, a2⟩]) (by simp; omega)
    generalize runA a0A (l ++ [⟨3, 0, a2⟩]) = x at *
    generalize runA a0A (l' ++ [⟨3, 0, a2⟩]) = y at *
    simp only
    rw [p2.length_eq, ← p3]
    simp only [beq_self_eq_true, Bool.and_self, cond_true]
    rw [eq_self _ hf, Option.bind_some]
    rfl
  | m + 1, n, i, l, l', hi, hl, hr, hk, hd, hn => by
    rw [show n + 1 + (m + 1) = (n + 1 + m) + 1 by omega]
    unfold keep_WheelOrder_l1
    have hl' : l'.length = i := by rw [hr, List.length_reverse, hl]
    rw [hN, show decide (((i : Nat) : Int) < (N : Int)) = true by simp; omega, cond_true]
    rw [if_pos (by omega), Int.toNat_natCast, if_pos (by omega), if_pos (by omega), List.drop_zero, Nat.sub_zero]
    rw [contains_spec _ _ (by rw [List.length_take]; unfold FUEL; omega), Option.bind_some]
    by_cases hc : a0.getD i 0 ∈ a0.take i
    · rw [decide_eq_true hc, cond_true]
    · rw [decide_eq_false hc, cond_false, if_pos (by omega), if_pos (by omega), if_pos (by simp; omega)]
      unfold slices_Insert_api_TimerOp
      rw [if_pos (by simp; omega), Option.bind_some, wrapb (by omega) (by omega), show ((i : Int) + 1) = ((i + 1 : Nat) : Int) by omega]
      have hin : i < a0.length := by omega
      refine order_l1 a0 a1 a2 N hN hN1 hN2 hN3 m n (i + 1) _ _ (by omega) (by simp; omega) ?_ ?_ ?_ ?_
      · rw [hr]; simp
      · intro o ho
        rcases List.mem_append.1 ho with ho | ho
        · exact hk o ho
        · rw [List.mem_singleton.1 ho]
      · rw [List.map_append, hd, List.map_singleton, List.take_succ_eq_append_getElem hin, getD_lt a0 0 hin]
      · rw [List.map_append, hd, List.map_singleton]
        rw [List.nodup_append]
        rw [hd] at hn
        exact ⟨hn, by simp, fun x hx y hy => by rw [List.mem_singleton.1 hy]; rintro rfl; exact hc hx⟩

theorem WheelOrder_true (a0 a1 : List Int) (a2 : Int) (h0 : a0.length * 8 ≤ 140737488351232 ∧ ∀ y ∈ a0, (-9223372036854775808 ≤ y ∧ y ≤ 9223372036854775807))
    (h1 : a1.length * 8 ≤ 140737488351232 ∧ ∀ y ∈ a1, (-9223372036854775808 ≤ y ∧ y ≤ 9223372036854775807)) (h2 : -9223372036854775808 ≤ a2 ∧ a2 ≤ 9223372036854775807) :
    keep_WheelOrder a0 a1 a2 = some true := by
  unfold keep_WheelOrder
  rw [alive, Option.bind_some, show (!true) = false from rfl, cond_false]
  obtain ⟨N, hN, hN1, hN2, hN3⟩ : ∃ N : Nat, (if (100 : Int) < (if (((a1.length : Nat) : Int) : Int) < ((a0.length : Nat) : Int) then ((a1.length : Nat) : Int) else ((a0.length : Nat) : Int)) then 100 else (if (((a1.length : Nat) : Int) : Int) < ((a0.length : Nat) : Int) then ((a1.length : Nat) : Int) else ((a0.length : Nat) : Int))) = (N : Int) ∧ N ≤ 100 ∧ N ≤ a0.length ∧ N ≤ a1.length := by
    refine ⟨min 100 (min a1.length a0.length), ?_, by omega, by omega, by omega⟩
    split <;> split <;> omega
  obtain ⟨n, hF⟩ : ∃ n, FUEL = n + 1 + N := ⟨FUEL - 1 - N, by unfold FUEL; omega⟩
  rw [hF]
  exact order_l1 a0 a1 a2 N hN hN1 hN2 hN3 N n 0 [] [] (by omega) rfl rfl (by simp) rfl (by simp)

end Go.Proofs.Ytjfadbefmhokeaa
