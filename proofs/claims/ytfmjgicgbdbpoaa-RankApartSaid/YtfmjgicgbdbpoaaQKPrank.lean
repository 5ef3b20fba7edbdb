/- Plain laws of rank. -/
import Derived.Test.YtfmjgicgbdbpoaaQKM
import Derived.Test.YtfmjgicgbdbpoaaPLib
import Derived.Test.YtfmjgicgbdbpoaaQKK
set_option linter.unusedSimpArgs false
set_option linter.unusedVariables false
namespace Go.Proofs.Ytfmjgicgbdbpoaa
open Go Go.Ab

theorem alive8_eq : keep_alive8 = some true := by decide +kernel
theorem rep_eq : ∀ n : Fin 17, slices_Repeat_int [(-1)] (n.val : Int) = some (List.replicate n.val (-1)) := by decide +kernel

abbrev Q := Rank_state
def ho (s : Q) (l : Nat) : Int := s.holder_.getD l 0
def wa (s : Q) (t : Nat) : Int := s.waits_.getD t 0
structure Inv (s : Q) (N L : Nat) : Prop where
  n : 1 ≤ N ∧ N ≤ 16
  l : 1 ≤ L ∧ L ≤ 16
  hl : s.holder_.length = L
  wl : s.waits_.length = N
  h : ∀ l, l < L → ho s l = -1 ∨ (0 ≤ ho s l ∧ ho s l < N)
  w : ∀ t, t < N → wa s t = -1 ∨ (0 ≤ wa s t ∧ wa s t < L)
def Ranked (s : Q) (N L : Nat) : Prop := ∀ t l, t < N → l < L → ho s l = (t : Int) → 0 ≤ wa s t → (l : Int) < wa s t

theorem get_set (l : List Int) (i k : Nat) (x : Int) (hi : i < l.length) : (l.set i x).getD k 0 = if k = i then x else l.getD k 0 := by
  rw [List.getD_eq_getElem?_getD, List.getElem?_set, List.getD_eq_getElem?_getD]
  by_cases h : i = k
  · subst h; simp [hi]
  · rw [if_neg h, if_neg (fun e => h e.symm)]

/- whose locks -/
def mineF (s : Q) (t : Int) (k : Nat) : List Int := ((List.range k).filter (fun l => s.holder_.getD l 0 == t)).map (fun l : Nat => (l : Int))
theorem held_l1_eq (s : Q) (t : Int) (hl : s.holder_.length ≤ 16) : ∀ n k, k ≤ s.holder_.length → s.holder_.length - k < n → rank_state_held_l1 s t n (mineF s t k) k = some (mineF s t s.holder_.length) := by
  intro n
  induction n with
  | zero => intro k h1 h2; omega
  | succ n ih =>
    intro k h1 h2
    have hml : (mineF s t k).length ≤ k := by
      unfold mineF
      rw [List.length_map]
      exact Nat.le_trans (List.length_filter_le _ _) (by rw [List.length_range]; exact Nat.le_refl _)
    unfold rank_state_held_l1
    rcases Nat.lt_or_ge k s.holder_.length with hlt | hge
    · rw [dec_lt hlt, cond_true]
      have hs : mineF s t (k + 1) = if s.holder_.getD k 0 == t then mineF s t k ++ [(k : Int)] else mineF s t k := by
        unfold mineF
        rw [List.range_succ, List.filter_append, List.map_append]
        cases hb : s.holder_.getD k 0 == t with
        | true => rw [List.filter_cons_of_pos (p := fun l => s.holder_.getD l 0 == t) hb]; simp
        | false => rw [List.filter_cons_of_neg (p := fun l => s.holder_.getD l 0 == t) (by simp only [hb]; decide)]; simp
      cases hb : ((s.holder_.getD k 0) : Int) == t with
      | true =>
        rw [cond_true, if_pos (by simp only [List.length_singleton]; omega)]
        have := ih (k + 1) (by omega) (by omega)
        rw [hs, hb, if_pos rfl] at this
        exact this
      | false =>
        rw [cond_false]
        have := ih (k + 1) (by omega) (by omega)
        rw [hs, hb, if_neg (by decide)] at this
        exact this
    · rw [dec_ge hge, cond_false, show k = s.holder_.length by omega]
theorem held_eq (s : Q) (t : Int) (hl : s.holder_.length ≤ 16) : rank_state_held s t = some (mineF s t s.holder_.length) := by
  unfold rank_state_held
  exact held_l1_eq s t hl FUEL 0 (by omega) (fuel_gt (by omega))
theorem mem_mine (s : Q) (t : Int) (k : Nat) (x : Int) : x ∈ mineF s t k ↔ ∃ l : Nat, x = l ∧ l < k ∧ ho s l = t := by
  unfold mineF ho
  simp only [List.mem_map, List.mem_filter, List.mem_range, beq_iff_eq]
  constructor
  · rintro ⟨l, ⟨h1, h2⟩, rfl⟩; exact ⟨l, rfl, h1, h2⟩
  · rintro ⟨l, rfl, h1, h2⟩; exact ⟨l, ⟨h1, h2⟩, rfl⟩
theorem mine_len (s : Q) (t : Int) (k : Nat) : (mineF s t k).length ≤ k := by
  unfold mineF
  rw [List.length_map]
  exact Nat.le_trans (List.length_filter_le _ _) (by rw [List.length_range]; exact Nat.le_refl _)

theorem max_l1_eq (a : List Int) (hl : a.length ≤ 16) : ∀ n (m : Int) (k : Nat), k ≤ a.length → a.length - k < n → (∀ x ∈ a.take k, x ≤ m) → ∃ r, slices_Max_int_l1 a n m (k : Int) = some r ∧ (∀ x ∈ a, x ≤ r) := by
  intro n
  induction n with
  | zero => intro m k h1 h2; omega
  | succ n ih =>
    intro m k h1 h2 h3
    unfold slices_Max_int_l1
    rcases Nat.lt_or_ge k a.length with hlt | hge
    · rw [dec_lt hlt, cond_true, Int.toNat_natCast, getD_lt _ _ hlt, show IntKind.i64.wrap ((k : Int) + 1) = ((k + 1 : Nat) : Int) by rw [wrap_id (by omega) (by omega)]; omega]
      rw [if_pos (show (0 : Int) ≤ (k : Int) ∧ (k : Int) < ((a.length : Nat) : Int) by omega)]
      refine ih _ (k + 1) (by omega) (by omega) fun x hx => ?_
      rw [List.take_add_one, List.getElem?_eq_getElem hlt] at hx
      rcases List.mem_append.1 hx with hx | hx
      · have := h3 x hx
        split <;> omega
      · have : x = a[k] := by simpa using hx
        subst this
        split <;> omega
    · rw [dec_ge hge, cond_false]
      rw [List.take_of_length_le hge] at h3
      exact ⟨_, rfl, h3⟩
theorem max_eq (a : List Int) (hl : a.length ≤ 16) (h0 : 0 < a.length) : ∃ r, slices_Max_int a = some r ∧ (∀ x ∈ a, x ≤ r) := by
  unfold slices_Max_int
  rw [show decide ((((a.length : Nat) : Int) : Int) < 1) = false from decide_eq_false (by omega), cond_false, if_pos (by omega)]
  refine max_l1_eq a hl FUEL _ 1 (by omega) (fuel_gt (by omega)) fun x hx => ?_
  rw [List.take_one] at hx
  have h1 : a.head? = some a[0] := by
    rw [List.head?_eq_getElem?, List.getElem?_eq_getElem h0]
  rw [h1] at hx
  have : x = a[0] := by simpa using hx
  rw [this, getD_lt _ _ h0]
  exact Int.le_refl _

inductive DoOf (s : Q) (N L : Nat) (o : Api_RankOp) (rk : Bool) : Int → Q → Prop
  | err (e : Int) : e ≠ 0 → DoOf s N L o rk e s
  | wait (t l : Nat) : o.Kind = 1 → o.Thread = t → o.Lock = l → t < N → l < L → 0 ≤ ho s l → (rk = true → ∀ m, m < L → ho s m = t → m < l) → DoOf s N L o rk 7 ⟨s.holder_, s.waits_.set t l⟩
  | take (t l : Nat) : o.Kind = 1 → o.Thread = t → o.Lock = l → t < N → l < L → ho s l < 0 → DoOf s N L o rk 0 ⟨s.holder_.set l t, s.waits_.set t (-1)⟩
  | give (t l : Nat) : o.Kind = 2 → o.Thread = t → o.Lock = l → t < N → l < L → ho s l = t → wa s t < 0 → DoOf s N L o rk 0 ⟨s.holder_.set l (-1), s.waits_⟩
theorem Do_cases {s : Q} {N L : Nat} (h : Inv s N L) (o : Api_RankOp) (rk : Bool) : ∃ e s', rank_state_do s o rk = some (e, s') ∧ DoOf s N L o rk e s' := by
  obtain ⟨hn, hl, hhl, hwl, -, -⟩ := h
  unfold rank_state_do
  by_cases hk : o.Kind = 1 ∨ o.Kind = 2
  · rw [show (((o.Kind : Int) != 1) && ((o.Kind : Int) != 2)) = false by rcases hk with hk | hk <;> simp [hk], cond_false, hwl, hhl]
    by_cases hr : (0 ≤ o.Thread ∧ o.Thread < N) ∧ 0 ≤ o.Lock ∧ o.Lock < L
    · rw [show ((((decide ((o.Thread : Int) < 0)) || (decide ((o.Thread : Int) ≥ ((N : Nat) : Int)))) || (decide ((o.Lock : Int) < 0))) || (decide ((o.Lock : Int) ≥ ((L : Nat) : Int)))) = false by simp; omega, cond_false]
      obtain ⟨t, ht⟩ := Int.eq_ofNat_of_zero_le hr.1.1
      obtain ⟨l, hlk⟩ := Int.eq_ofNat_of_zero_le hr.2.1
      have htN : t < N := by omega
      have hlL : l < L := by omega
      rw [held_eq s o.Thread (by omega), Option.bind_some, hhl, ht, hlk]
      simp only [Nat.zero_add, Int.toNat_natCast]
      have hho : s.holder_.getD l 0 = ho s l := rfl
      have hwa : s.waits_.getD t 0 = wa s t := rfl
      rw [hho, hwa]
      by_cases k2 : o.Kind = 2
      · rw [show ((o.Kind : Int) == 2) = true by simp [k2], cond_true, if_pos (by omega), if_pos (by intro _; omega)]
        by_cases hc : ho s l = t ∧ wa s t < 0
        · rw [show (((ho s l : Int) != (t : Int)) || (decide ((wa s t : Int) ≥ 0))) = false by simp [hc.1]; omega, cond_false, if_pos (by omega)]
          exact ⟨_, _, rfl, .give t l k2 ht hlk htN hlL hc.1 hc.2⟩
        · rw [show (((ho s l : Int) != (t : Int)) || (decide ((wa s t : Int) ≥ 0))) = true by
            rw [Bool.or_eq_true, bne_iff_ne, decide_eq_true_eq]
            by_cases h1 : ho s l = t
            · right
              exact Classical.byContradiction fun hx => hc ⟨h1, by omega⟩
            · left; exact h1, cond_true]
          exact ⟨_, _, rfl, .err _ (by decide)⟩
      · have k1 : o.Kind = 1 := by omega
        have hml := mine_len s (t : Int) L
        rw [show ((o.Kind : Int) == 2) = false by simp [k2], cond_false, slices_Contains_int_eq _ _ (by omega), Option.bind_some]
        by_cases hin : (l : Int) ∈ mineF s (t : Int) L
        · rw [decide_eq_true hin, cond_true]
          exact ⟨_, _, rfl, .err _ (by decide)⟩
        · rw [decide_eq_false hin, cond_false]
          -- the greatest of its own
          have hmax : ∃ r, (bif (rk && (decide (((((mineF s (t : Int) L).length : Nat) : Int) : Int) > 0))) then slices_Max_int (mineF s (t : Int) L) else some 0) = some r ∧ (((rk && (decide (((((mineF s (t : Int) L).length : Nat) : Int) : Int) > 0))) && (decide ((r : Int) > (l : Int)))) = false → rk = true → ∀ m, m < L → ho s m = t → m < l) := by
            cases rk with
            | false => exact ⟨0, rfl, fun _ h => by cases h⟩
            | true =>
              by_cases h0 : 0 < (mineF s (t : Int) L).length
              · obtain ⟨r, hr, hle⟩ := max_eq (mineF s (t : Int) L) (by omega) h0
                have hd : decide (((((mineF s (t : Int) L).length : Nat) : Int) : Int) > 0) = true := decide_eq_true (by omega)
                refine ⟨r, by rw [hd]; exact hr, fun hf _ m hm hmt => ?_⟩
                rw [hd] at hf
                simp only [Bool.and_self, Bool.true_and, decide_eq_false_iff_not] at hf
                have hmem : (m : Int) ∈ mineF s (t : Int) L := (mem_mine s t L m).2 ⟨m, rfl, hm, hmt⟩
                have := hle _ hmem
                have hne : m ≠ l := by intro e; subst e; exact hin hmem
                omega
              · have hd : decide (((((mineF s (t : Int) L).length : Nat) : Int) : Int) > 0) = false := decide_eq_false (by omega)
                refine ⟨0, by rw [hd]; rfl, fun _ _ m hm hmt => ?_⟩
                have hmem : (m : Int) ∈ mineF s (t : Int) L := (mem_mine s t L m).2 ⟨m, rfl, hm, hmt⟩
                have := List.length_pos_of_mem hmem
                omega
          obtain ⟨r, hr, hrk⟩ := hmax
          rw [hr, Option.bind_some]
          cases hb : ((rk && (decide (((((mineF s (t : Int) L).length : Nat) : Int) : Int) > 0))) && (decide ((r : Int) > (l : Int)))) with
          | true => exact ⟨_, _, rfl, .err _ (by decide)⟩
          | false =>
            rw [cond_false, if_pos (by omega), if_pos (by intro _; omega)]
            cases hb2 : ((decide ((wa s t : Int) ≥ 0)) && ((wa s t : Int) != (l : Int))) with
            | true => exact ⟨_, _, rfl, .err _ (by decide)⟩
            | false =>
              rw [cond_false, if_pos (by omega)]
              by_cases hh : 0 ≤ ho s l
              · rw [show decide ((ho s l : Int) ≥ 0) = true from decide_eq_true hh, cond_true, if_pos (by omega)]
                exact ⟨_, _, rfl, .wait t l k1 ht hlk htN hlL hh (hrk hb)⟩
              · rw [show decide ((ho s l : Int) ≥ 0) = false from decide_eq_false hh, cond_false, if_pos (by omega), if_pos (by omega)]
                exact ⟨_, _, rfl, .take t l k1 ht hlk htN hlL (by omega)⟩
    · rw [show ((((decide ((o.Thread : Int) < 0)) || (decide ((o.Thread : Int) ≥ ((N : Nat) : Int)))) || (decide ((o.Lock : Int) < 0))) || (decide ((o.Lock : Int) ≥ ((L : Nat) : Int)))) = true by simp; omega, cond_true]
      exact ⟨_, _, rfl, .err _ (by decide)⟩
  · rw [show (((o.Kind : Int) != 1) && ((o.Kind : Int) != 2)) = true by simp; omega, cond_true]
    exact ⟨_, _, rfl, .err _ (by decide)⟩

theorem do_inv {s s' : Q} {N L : Nat} {o : Api_RankOp} {rk : Bool} {e : Int} (h : Inv s N L) (hd : DoOf s N L o rk e s') : Inv s' N L ∧ (rk = true → Ranked s N L → Ranked s' N L) := by
  cases hd with
  | err _ _ => exact ⟨h, fun _ h => h⟩
  | wait t l _ _ _ ht hl hh hrk =>
    have hw : ∀ u, wa ⟨s.holder_, s.waits_.set t l⟩ u = if u = t then (l : Int) else wa s u := fun u => get_set _ _ _ _ (by rw [h.wl]; exact ht)
    refine ⟨⟨h.n, h.l, h.hl, by simp [h.wl], h.h, fun u hu => ?_⟩, fun hr hR u m hu hm hum huw => ?_⟩
    · rw [hw]
      split
      · right; omega
      · exact h.w u hu
    · rw [hw] at huw ⊢
      by_cases eu : u = t
      · subst eu
        rw [if_pos rfl]
        have := hrk hr m hm hum
        omega
      · rw [if_neg eu] at huw ⊢
        exact hR u m hu hm hum huw
  | take t l _ _ _ ht hl hh =>
    have hw : ∀ u, wa ⟨s.holder_.set l t, s.waits_.set t (-1)⟩ u = if u = t then (-1 : Int) else wa s u := fun u => get_set _ _ _ _ (by rw [h.wl]; exact ht)
    have hh' : ∀ m, ho ⟨s.holder_.set l t, s.waits_.set t (-1)⟩ m = if m = l then (t : Int) else ho s m := fun m => get_set _ _ _ _ (by rw [h.hl]; exact hl)
    refine ⟨⟨h.n, h.l, by simp [h.hl], by simp [h.wl], fun m hm => ?_, fun u hu => ?_⟩, fun hr hR u m hu hm hum huw => ?_⟩
    · rw [hh']
      split
      · right; omega
      · exact h.h m hm
    · rw [hw]
      split
      · left; rfl
      · exact h.w u hu
    · rw [hw] at huw ⊢
      rw [hh'] at hum
      by_cases eu : u = t
      · rw [if_pos eu] at huw; omega
      · rw [if_neg eu] at huw ⊢
        by_cases em : m = l
        · rw [if_pos em] at hum; omega
        · rw [if_neg em] at hum
          exact hR u m hu hm hum huw
  | give t l _ _ _ ht hl hh hwt =>
    have hh' : ∀ m, ho ⟨s.holder_.set l (-1), s.waits_⟩ m = if m = l then (-1 : Int) else ho s m := fun m => get_set _ _ _ _ (by rw [h.hl]; exact hl)
    refine ⟨⟨h.n, h.l, by simp [h.hl], h.wl, fun m hm => ?_, h.w⟩, fun hr hR u m hu hm hum huw => ?_⟩
    · rw [hh']
      split
      · left; rfl
      · exact h.h m hm
    · rw [hh'] at hum
      by_cases em : m = l
      · rw [if_pos em] at hum; omega
      · rw [if_neg em] at hum
        exact hR u m hu hm hum huw

def stepF (rk : Bool) (q : List Int × Q) (o : Api_RankOp) : List Int × Q :=
  match rank_state_do q.2 o rk with
  | some (e, s) => (q.1 ++ [e], s)
  | none => q
theorem stepF_eq {rk : Bool} {s s' : Q} {o : Api_RankOp} {e : Int} (h : rank_state_do s o rk = some (e, s')) (l : List Int) : stepF rk (l, s) o = (l ++ [e], s') := by
  unfold stepF
  rw [h]
theorem play_l1_eq (rk : Bool) (ops : List Api_RankOp) (r8 r10 : List Int) (hops : ops.length * 8 + 8 ≤ 140737488355328) {N L : Nat} : ∀ n k (l : List Int) (s : Q), k ≤ ops.length → ops.length - k < n → l.length = k → Inv s N L → (rk = true → Ranked s N L) →
    rank_Play_l1 rk ops r8 r10 n l k s.holder_ s.waits_ = some (((ops.drop k).foldl (stepF rk) (l, s)).1, ((ops.drop k).foldl (stepF rk) (l, s)).2.holder_, ((ops.drop k).foldl (stepF rk) (l, s)).2.waits_, 0) ∧
      Inv ((ops.drop k).foldl (stepF rk) (l, s)).2 N L ∧ ((ops.drop k).foldl (stepF rk) (l, s)).1.length = ops.length ∧ (rk = true → Ranked ((ops.drop k).foldl (stepF rk) (l, s)).2 N L) := by
  intro n
  induction n with
  | zero => intro k l s h1 h2; omega
  | succ n ih =>
    intro k l s h1 h2 h3 h hR
    unfold rank_Play_l1
    rcases Nat.lt_or_ge k ops.length with hlt | hge
    · rw [dec_lt hlt, cond_true, getD_lt _ _ hlt, List.drop_eq_getElem_cons hlt, List.foldl_cons]
      obtain ⟨e, s', hd, hdo⟩ := Do_cases h ops[k] rk
      have hd' : rank_state_do (⟨s.holder_, s.waits_⟩ : Rank_state) ops[k] rk = some (e, s') := hd
      rw [hd', Option.bind_some, stepF_eq hd, if_pos (by simp only [List.length_singleton]; omega)]
      obtain ⟨hi, hr⟩ := do_inv h hdo
      exact ih (k + 1) _ s' (by omega) (by omega) (by simp [h3]) hi (fun e => hr e (hR e))
    · rw [dec_ge hge, cond_false, List.drop_of_length_le hge]
      exact ⟨rfl, h, by simp only [List.foldl_nil]; omega, hR⟩
def init (N L : Nat) : Q := ⟨List.replicate L (-1), List.replicate N (-1)⟩
theorem rep_get (n k : Nat) (hk : k < n) : (List.replicate n (-1 : Int)).getD k 0 = -1 := by
  rw [List.getD_eq_getElem?_getD, List.getElem?_replicate, if_pos hk]
  rfl
theorem init_inv (N L : Nat) (hN : 1 ≤ N ∧ N ≤ 16) (hL : 1 ≤ L ∧ L ≤ 16) : Inv (init N L) N L ∧ Ranked (init N L) N L := by
  have hw : ∀ t, t < N → wa (init N L) t = -1 := fun t ht => rep_get N t ht
  have hh : ∀ l, l < L → ho (init N L) l = -1 := fun l hl => rep_get L l hl
  refine ⟨⟨hN, hL, by simp [init], by simp [init], fun l hl => .inl (hh l hl), fun t ht => .inl (hw t ht)⟩, fun t l ht hl _ h2 => ?_⟩
  rw [hw t ht] at h2
  omega
theorem Play_eq (a0 a1 : Int) (rk : Bool) (ops : List Api_RankOp) (hops : ops.length * 8 + 8 ≤ 140737488355328) (hf : ops.length ≤ 17592186044000) : (rank_Play a0 a1 rk ops = some ([], [], [], 2) ∧ ¬ ((1 ≤ a0 ∧ a0 ≤ 16) ∧ 1 ≤ a1 ∧ a1 ≤ 16)) ∨
    ∃ N L : Nat, a0 = N ∧ a1 = L ∧ rank_Play a0 a1 rk ops = some ((ops.foldl (stepF rk) ([], init N L)).1, (ops.foldl (stepF rk) ([], init N L)).2.holder_, (ops.foldl (stepF rk) ([], init N L)).2.waits_, 0) ∧ Inv (ops.foldl (stepF rk) ([], init N L)).2 N L ∧ (ops.foldl (stepF rk) ([], init N L)).1.length = ops.length ∧ (rk = true → Ranked (ops.foldl (stepF rk) ([], init N L)).2 N L) := by
  unfold rank_Play
  by_cases h : (1 ≤ a0 ∧ a0 ≤ 16) ∧ 1 ≤ a1 ∧ a1 ≤ 16
  · obtain ⟨N, rfl⟩ := Int.eq_ofNat_of_zero_le (show 0 ≤ a0 by omega)
    obtain ⟨L, rfl⟩ := Int.eq_ofNat_of_zero_le (show 0 ≤ a1 by omega)
    rw [show ((((decide (((N : Nat) : Int) < 1)) || (decide (((N : Nat) : Int) > 16))) || (decide (((L : Nat) : Int) < 1))) || (decide (((L : Nat) : Int) > 16))) = false by simp; omega, cond_false]
    have e1 := rep_eq ⟨L, by omega⟩
    have e2 := rep_eq ⟨N, by omega⟩
    simp only at e1 e2
    rw [e1, Option.bind_some, e2, Option.bind_some]
    obtain ⟨hi, hr⟩ := init_inv N L (by omega) (by omega)
    obtain ⟨h1, h2, h3, h4⟩ := play_l1_eq rk ops (List.replicate L (-1)) (List.replicate N (-1)) hops FUEL 0 [] (init N L) (by omega) (fuel_gt (by omega)) rfl hi (fun _ => hr)
    rw [List.drop_zero] at h1 h2 h3 h4
    exact .inr ⟨N, L, rfl, rfl, h1, h2, h3, h4⟩
  · rw [show ((((decide ((a0 : Int) < 1)) || (decide ((a0 : Int) > 16))) || (decide ((a1 : Int) < 1))) || (decide ((a1 : Int) > 16))) = true by simp; omega, cond_true]
    exact .inl ⟨rfl, h⟩

/- the next one -/
def nx (h w : List Int) (t : Int) : Int :=
  if 0 ≤ w.getD t.toNat 0 ∧ w.getD t.toNat 0 < h.length ∧ 0 ≤ h.getD (w.getD t.toNat 0).toNat 0 ∧ h.getD (w.getD t.toNat 0).toNat 0 < w.length then h.getD (w.getD t.toNat 0).toNat 0 else -1
theorem next_eq (h w : List Int) (t : Int) (ht : 0 ≤ t ∧ t < w.length) : rank_Circle_1 t w h = some (nx h w t) := by
  unfold rank_Circle_1 nx
  rw [if_pos (by omega)]
  generalize w.getD t.toNat 0 = l
  by_cases h1 : 0 ≤ l ∧ l < h.length
  · have e1 : ((decide (l ≥ 0)) && (decide (l < ((h.length : Nat) : Int)))) = true := by simp; omega
    rw [e1, if_pos (by intro _; omega), Bool.true_and]
    generalize h.getD l.toNat 0 = u
    rw [if_pos (by intro _; omega)]
    by_cases h2 : 0 ≤ u ∧ u < w.length
    · rw [show ((decide (u ≥ 0)) && (decide (u < ((w.length : Nat) : Int)))) = true by simp; omega, cond_true, if_pos (by omega), if_pos ⟨h1.1, h1.2, h2.1, h2.2⟩]
    · rw [show ((decide (u ≥ 0)) && (decide (u < ((w.length : Nat) : Int)))) = false by simp; omega, cond_false, if_neg (fun hx => h2 ⟨hx.2.2.1, hx.2.2.2⟩)]
  · have e1 : ((decide (l ≥ 0)) && (decide (l < ((h.length : Nat) : Int)))) = false := by simp; omega
    rw [e1, if_pos (by intro h; cases h), Bool.false_and, if_pos (by intro h; cases h), Bool.false_and, cond_false, if_neg (fun hx => h1 ⟨hx.1, hx.2.1⟩)]
theorem nx_spec {h w : List Int} {t : Int} (hn : 0 ≤ nx h w t) : (0 ≤ w.getD t.toNat 0 ∧ w.getD t.toNat 0 < h.length) ∧ nx h w t = h.getD (w.getD t.toNat 0).toNat 0 ∧ nx h w t < w.length := by
  unfold nx at hn ⊢
  split at hn
  · rename_i hc
    rw [if_pos hc]
    exact ⟨⟨hc.1, hc.2.1⟩, rfl, hc.2.2.2⟩
  · omega
def it (h w : List Int) (f : Int) : Nat → Int
  | 0 => f
  | n + 1 => nx h w (it h w f n)
structure Ring (h w : List Int) (r : List Int) (f : Int) (m : Nat) : Prop where
  one : 1 ≤ m
  eq : r = (List.range m).map (it h w f)
  c : it h w f m = f
  d : ∀ j, 0 < j → j < m → it h w f j ≠ f
  b : ∀ j, j < m → 0 ≤ it h w f j ∧ it h w f j < w.length
  le : m ≤ w.length
theorem circle_l2_eq (h w : List Int) (hw : w.length * 8 ≤ 140737488351232) (k1 : Nat) (r3 : Int) (K : List Int → Int → Option (List Int)) (hk1 : k1 < w.length) : ∀ n (m : Nat), 1 ≤ m → m ≤ w.length + 1 → w.length + 1 - m < n → (∀ j, 0 < j → j < m → it h w k1 j ≠ k1) → (∀ j, j < m → 0 ≤ it h w k1 j ∧ it h w k1 j < w.length) →
    (∃ m', rank_Circle_l2 h w k1 r3 K n ((List.range m).map (it h w k1)) (it h w k1 m) = some ((List.range m').map (it h w k1)) ∧ Ring h w ((List.range m').map (it h w k1)) k1 m') ∨
    ∃ l x, rank_Circle_l2 h w k1 r3 K n ((List.range m).map (it h w k1)) (it h w k1 m) = K l x := by
  intro n
  induction n with
  | zero => intro m h1 h2 h3; omega
  | succ n ih =>
    intro m h1 h2 h3 hd hb
    have hlen : ((List.range m).map (it h w k1)).length = m := by simp
    rw [rank_Circle_l2, hlen]
    by_cases hc : 0 ≤ it h w k1 m ∧ m ≤ w.length
    · rw [show ((decide ((it h w k1 m : Int) ≥ 0)) && (decide ((((m : Nat) : Int) : Int) ≤ ((w.length : Nat) : Int)))) = true by simp; omega, cond_true]
      by_cases he : it h w k1 m = k1
      · rw [show ((it h w k1 m : Int) == ((k1 : Nat) : Int)) = true by simp [he], cond_true]
        exact .inl ⟨m, rfl, h1, rfl, he, hd, hb, hc.2⟩
      · rw [show ((it h w k1 m : Int) == ((k1 : Nat) : Int)) = false by simpa using he, cond_false, if_pos (by simp only [List.length_singleton]; omega)]
        have hlt : it h w k1 m < w.length := by
          obtain ⟨m0, rfl⟩ : ∃ m0, m = m0 + 1 := ⟨m - 1, by omega⟩
          exact (nx_spec (h := h) (w := w) (t := it h w k1 m0) hc.1).2.2
        rw [next_eq h w _ ⟨hc.1, hlt⟩, Option.bind_some]
        have e1 : (List.range m).map (it h w k1) ++ [it h w k1 m] = (List.range (m + 1)).map (it h w k1) := by
          rw [List.range_succ, List.map_append]; rfl
        rw [e1]
        exact ih (m + 1) (by omega) (by omega) (by omega) (fun j j1 j2 => by
          by_cases e : j = m
          · rw [e]; exact he
          · exact hd j j1 (by omega)) (fun j j1 => by
          by_cases e : j = m
          · rw [e]; exact ⟨hc.1, hlt⟩
          · exact hb j (by omega))
    · rw [show ((decide ((it h w k1 m : Int) ≥ 0)) && (decide ((((m : Nat) : Int) : Int) ≤ ((w.length : Nat) : Int)))) = false by
        rw [Bool.and_eq_false_iff, decide_eq_false_iff_not, decide_eq_false_iff_not]; omega, cond_false]
      exact .inr ⟨_, _, rfl⟩
theorem circle_l1_eq (h w : List Int) (hw : w.length * 8 ≤ 140737488351232) : ∀ n k, k ≤ w.length → w.length - k < n → rank_Circle_l1 h w n k = some [] ∨ ∃ r f m, rank_Circle_l1 h w n k = some r ∧ Ring h w r f m := by
  intro n
  induction n with
  | zero => intro k h1 h2; omega
  | succ n ih =>
    intro k h1 h2
    unfold rank_Circle_l1
    rcases Nat.lt_or_ge k w.length with hlt | hge
    · rw [dec_lt hlt, cond_true, next_eq h w _ (by omega), Option.bind_some]
      have e0 : [((k : Nat) : Int)] = (List.range 1).map (it h w (k : Int)) := rfl
      have e1 : nx h w (k : Int) = it h w (k : Int) 1 := rfl
      rw [e1, e0]
      rcases circle_l2_eq h w hw k (it h w (k : Int) 1) (fun (l5 : List Int) (x6 : Int) => rank_Circle_l1 h w n (k + 1)) hlt FUEL 1 (by omega) (by omega) (fuel_gt (by omega)) (fun j j1 j2 => by omega) (fun j j1 => by
        have : j = 0 := by omega
        subst this
        exact ⟨by show (0 : Int) ≤ (k : Int); omega, by show (k : Int) < _; omega⟩) with ⟨m', e, hr⟩ | ⟨l, x, e⟩
      · exact .inr ⟨_, _, _, e, hr⟩
      · rw [e]
        exact ih (k + 1) (by omega) (by omega)
    · rw [dec_ge hge, cond_false]
      exact .inl rfl
theorem Circle_cases (h w : List Int) (hw : w.length * 8 ≤ 140737488351232) : rank_Circle h w = some [] ∨ ∃ r f m, rank_Circle h w = some r ∧ Ring h w r f m := by
  unfold rank_Circle
  exact circle_l1_eq h w hw FUEL 0 (by omega) (fuel_gt (by omega))

theorem no_ring {s : Q} {N L : Nat} (h : Inv s N L) (hR : Ranked s N L) (r : List Int) (f : Int) (m : Nat) (hr : Ring s.holder_ s.waits_ r f m) : False := by
  have hstep : ∀ j, j < m → 0 ≤ it s.holder_ s.waits_ f (j + 1) := by
    intro j hj
    by_cases e : j + 1 = m
    · rw [e, hr.c]
      exact (hr.b 0 (by omega)).1
    · exact (hr.b (j + 1) (by omega)).1
  have hup : ∀ j, j < m → s.waits_.getD (it s.holder_ s.waits_ f j).toNat 0 < s.waits_.getD (it s.holder_ s.waits_ f (j + 1)).toNat 0 := by
    intro j hj
    have h1 := hstep j hj
    have hn : 0 ≤ nx s.holder_ s.waits_ (it s.holder_ s.waits_ f j) := h1
    obtain ⟨⟨a1, a2⟩, a3, a4⟩ := nx_spec hn
    have hnext : 0 ≤ nx s.holder_ s.waits_ (it s.holder_ s.waits_ f (j + 1)) := by
      by_cases e : j + 1 = m
      · rw [e, hr.c]
        exact hstep 0 (by omega)
      · exact hstep (j + 1) (by omega)
    obtain ⟨⟨b1, b2⟩, _, _⟩ := nx_spec hnext
    have e1 : it s.holder_ s.waits_ f (j + 1) = nx s.holder_ s.waits_ (it s.holder_ s.waits_ f j) := rfl
    rw [← e1] at a3 a4
    generalize it s.holder_ s.waits_ f (j + 1) = u at *
    generalize s.waits_.getD (it s.holder_ s.waits_ f j).toNat 0 = l at *
    have hu : ho s l.toNat = ((u.toNat : Nat) : Int) := by
      unfold ho
      rw [← a3]; omega
    have := hR u.toNat l.toNat (by rw [← h.wl]; omega) (by rw [← h.hl]; omega) hu b1
    unfold wa at this
    omega
  have hall : ∀ j, j ≤ m → s.waits_.getD f.toNat 0 + j ≤ s.waits_.getD (it s.holder_ s.waits_ f j).toNat 0 := by
    intro j
    induction j with
    | zero => intro _; show s.waits_.getD f.toNat 0 + ((0 : Nat) : Int) ≤ s.waits_.getD f.toNat 0; omega
    | succ j ih =>
      intro hj
      have := ih (by omega)
      have := hup j (by omega)
      omega
  have := hall m (Nat.le_refl _)
  rw [hr.c] at this
  have := hr.one
  omega
theorem RankNever_true (a0 a1 : Int) (a2 : List Api_RankOp) (h0 : -9223372036854775808 ≤ a0 ∧ a0 ≤ 9223372036854775807) (h1 : -9223372036854775808 ≤ a1 ∧ a1 ≤ 9223372036854775807) (h2 : a2.length * 24 ≤ 140737488351232 ∧ ∀ y ∈ a2, Ok_Api_RankOp y) : keep_RankNever a0 a1 a2 = some true := by
  have l2 := h2.1
  unfold keep_RankNever
  rw [alive8_eq, Option.bind_some, Bool.not_true, cond_false]
  rcases Play_eq a0 a1 true a2 (by omega) (by omega) with ⟨hp, _⟩ | ⟨N, L, rfl, rfl, hp, hi, hl, hR⟩
  · rw [hp]; rfl
  · rw [hp, Option.bind_some]
    generalize (a2.foldl (stepF true) ([], init N L)).2 = s at *
    simp only [hi.hl, hi.wl, bne_self_eq_false, Bool.false_and, Bool.not_false, Bool.true_and, beq_self_eq_true, Bool.and_self, cond_true, Bool.false_or]
    have := hi.n
    rcases Circle_cases s.holder_ s.waits_ (by rw [hi.wl]; omega) with h | ⟨r, f, m, _, hr⟩
    · rw [h]; rfl
    · exact (no_ring hi (hR rfl) r f m hr).elim

theorem RankTrue_l1 (h w r : List Int) (f : Int) (m : Nat) (hr : Ring h w r f m) (hm : m ≤ 17592186044416) : ∀ n k, k ≤ m → m - k < n → keep_RankTrue_l1 h w r n k = some true := by
  have hlen : r.length = m := by rw [hr.eq]; simp
  have hget : ∀ j, j < m → r.getD j 0 = it h w f j := fun j hj => by
    rw [hr.eq, List.getD_eq_getElem?_getD, List.getElem?_map, List.getElem?_range hj]
    rfl
  have hstep : ∀ j, j < m → 0 ≤ it h w f (j + 1) := by
    intro j hj
    by_cases e : j + 1 = m
    · rw [e, hr.c]
      exact (hr.b 0 (by have := hr.one; omega)).1
    · exact (hr.b (j + 1) (by omega)).1
  have hdist : ∀ i j, i < j → j < m → it h w f i ≠ it h w f j := by
    intro i j hij hj e
    have key : ∀ d, it h w f (i + d) = it h w f (j + d) := by
      intro d
      induction d with
      | zero => exact e
      | succ d ih =>
        show nx h w (it h w f (i + d)) = nx h w (it h w f (j + d))
        rw [ih]
    have := key (m - j)
    rw [show j + (m - j) = m by omega, hr.c] at this
    exact hr.d (i + (m - j)) (by omega) (by omega) this
  intro n
  induction n with
  | zero => intro k h1 h2; omega
  | succ n ih =>
    intro k h1 h2
    unfold keep_RankTrue_l1
    rw [hlen]
    rcases Nat.lt_or_ge k m with hlt | hge
    · have hb := hr.b k hlt
      have hn : 0 ≤ nx h w (it h w f k) := hstep k hlt
      obtain ⟨⟨a1, a2⟩, a3, a4⟩ := nx_spec hn
      have hidx : Int.tmod (IntKind.i64.wrap ((k : Int) + 1)) (m : Int) = (((k + 1) % m : Nat) : Int) := by
        rw [wrap_id (by omega) (by omega), Int.tmod_eq_emod_of_nonneg (by omega)]
        rfl
      have hmod : (k + 1) % m < m := Nat.mod_lt _ (by omega)
      have hnext : r.getD ((k + 1) % m) 0 = nx h w (it h w f k) := by
        rw [hget _ hmod]
        by_cases e : k + 1 = m
        · rw [e, Nat.mod_self]
          have := hr.c
          rw [← e] at this
          exact this.symm
        · rw [Nat.mod_eq_of_lt (by omega)]
          rfl
      rw [dec_lt hlt, cond_true, if_pos (by omega), hidx]
      simp only [Nat.zero_add, Nat.add_zero, List.drop_zero, Nat.sub_zero, Int.toNat_natCast]
      rw [hget k hlt, hnext]
      generalize htt : it h w f k = t at *
      rw [if_pos (by omega), if_pos (by intro _; omega), if_pos (by intro _; omega)]
      rw [show ((decide ((t : Int) < 0)) || (decide ((t : Int) ≥ ((w.length : Nat) : Int)))) = false by simp; omega]
      simp only [Bool.not_false, cond_true]
      have hcont : slices_Contains_int (r.take k) t = some false := by
        rw [slices_Contains_int_eq _ _ (by rw [List.length_take]; omega)]
        congr 1
        rw [decide_eq_false_iff_not]
        intro hmem
        obtain ⟨i, hi, hir⟩ := List.getElem_of_mem hmem
        rw [List.length_take] at hi
        rw [List.getElem_take] at hir
        have := hget i (by omega)
        rw [getD_lt _ _ (by omega), hir] at this
        exact hdist i k (by omega) hlt (by rw [← this, htt])
      rw [hcont, Option.bind_some]
      simp only [Bool.or_false, Bool.false_or, Bool.not_false]
      generalize w.getD t.toNat 0 = l at *
      rw [if_pos (by intro _; omega), show decide ((l : Int) < 0) = false from decide_eq_false (by omega)]
      simp only [Bool.or_false, Bool.false_or, Bool.not_false]
      rw [if_pos (by intro _; omega), show decide ((l : Int) ≥ ((h.length : Nat) : Int)) = false from decide_eq_false (by omega)]
      simp only [Bool.not_false]
      rw [if_pos (by intro _; omega), if_pos (by intro _; omega), ← a3]
      simp only [bne_self_eq_false, Bool.or_self, cond_false]
      exact ih (k + 1) (by omega) (by omega)
    · rw [dec_ge hge, cond_false]
theorem RankTrue_true (a0 a1 : List Int) (h0 : a0.length * 8 ≤ 140737488351232 ∧ ∀ y ∈ a0, (-9223372036854775808 ≤ y ∧ y ≤ 9223372036854775807)) (h1 : a1.length * 8 ≤ 140737488351232 ∧ ∀ y ∈ a1, (-9223372036854775808 ≤ y ∧ y ≤ 9223372036854775807)) : keep_RankTrue a0 a1 = some true := by
  have l0 := h0.1
  have l1 := h1.1
  unfold keep_RankTrue
  rw [alive8_eq, Option.bind_some, Bool.not_true, cond_false]
  rcases Circle_cases a0 a1 l1 with h | ⟨r, f, m, h, hr⟩
  · rw [h]; rfl
  · rw [h, Option.bind_some]
    have hm : m ≤ 17592186044416 := by
      have := hr.le
      omega
    exact RankTrue_l1 a0 a1 r f m hr hm FUEL 0 (by omega) (fuel_gt (by omega))

/- somebody can go on -/
def cand (s : Q) (t : Nat) : Prop := 0 ≤ wa s t ∧ 0 ≤ ho s (wa s t).toNat
def fre (s : Q) (t : Nat) : Prop := wa s (ho s (wa s t).toNat).toNat < 0 ∨ ho s (wa s (ho s (wa s t).toNat).toNat).toNat < 0
theorem some_free {s : Q} {N L : Nat} (h : Inv s N L) (hR : Ranked s N L) (t : Nat) (ht : t < N) (hc : cand s t) (hn : ∀ u, u < N → cand s u → ¬ fre s u) : False := by
  have key : ∀ (d : Nat) (u : Nat), u < N → cand s u → (L : Int) - wa s u ≤ d → False := by
    intro d
    induction d with
    | zero =>
      intro u hu hcu hd
      rcases h.w u hu with hw | hw
      · have := hcu.1; omega
      · omega
    | succ d ih =>
      intro u hu hcu hd
      have h1 := hn u hu hcu
      unfold fre at h1
      have hwu := hcu.1
      have hlu : (wa s u).toNat < L := by rcases h.w u hu with hw | hw <;> omega
      have hv : 0 ≤ ho s (wa s u).toNat ∧ ho s (wa s u).toNat < N := by
        have := hcu.2
        rcases h.h _ hlu with hh | hh
        · omega
        · exact hh
      generalize hvv : (ho s (wa s u).toNat).toNat = v at *
      have hv1 : 0 ≤ wa s v := by
        rcases Int.lt_or_le (wa s v) 0 with hx | hx
        · exact absurd (.inl hx) h1
        · exact hx
      have hv2 : 0 ≤ ho s (wa s v).toNat := by
        rcases Int.lt_or_le (ho s (wa s v).toNat) 0 with hx | hx
        · exact absurd (.inr hx) h1
        · exact hx
      have hup := hR v (wa s u).toNat (by omega) hlu (by omega) hv1
      exact ih v (by omega) ⟨hv1, hv2⟩ (by omega)
  exact key ((L : Int) - wa s t).toNat t ht hc (by omega)
theorem some_l2_eq {s : Q} {N L : Nat} (h : Inv s N L) (l : List Int) (x : Int) : ∀ n k b11 b12, k ≤ N → N - k < n →
    ∃ r, keep_RankSome_l2 (l, s.holder_, s.waits_, x) n b11 b12 k = some r ∧ (r = false → (b11 = true ∨ ∃ t, t < N ∧ cand s t) ∧ b12 = false ∧ ∀ t, k ≤ t → t < N → cand s t → ¬ fre s t) := by
  intro n
  induction n with
  | zero => intro k b11 b12 h1 h2; omega
  | succ n ih =>
    intro k b11 b12 h1 h2
    unfold keep_RankSome_l2
    simp only [h.wl, h.hl, Nat.zero_add]
    rcases Nat.lt_or_ge k N with hlt | hge
    · rw [dec_lt hlt, cond_true]
      have hwk := h.w k hlt
      have e1 : s.waits_.getD k 0 = wa s k := rfl
      rw [e1]
      generalize hq : wa s k = w at *
      have e2 : s.holder_.getD (Int.toNat w) 0 = ho s w.toNat := rfl
      rw [e2]
      by_cases hc : 0 ≤ w ∧ 0 ≤ ho s w.toNat
      · have hck : cand s k := by unfold cand; rw [hq]; exact hc
        have hlu : w.toNat < L := by omega
        have hhv := h.h _ hlu
        generalize hq2 : ho s w.toNat = u at *
        have hu : 0 ≤ u ∧ u < N := by omega
        have hwu := h.w u.toNat (by omega)
        have e3 : s.waits_.getD (Int.toNat u) 0 = wa s u.toNat := rfl
        rw [e3]
        generalize hq3 : wa s u.toNat = y at *
        have e4 : s.holder_.getD (Int.toNat y) 0 = ho s y.toNat := rfl
        rw [e4]
        rw [if_pos (by intro _; omega), show ((decide ((w : Int) < 0)) || (decide ((u : Int) < 0))) = false by simp; omega, cond_false, if_pos (by omega), show decide ((u : Int) ≥ ((N : Nat) : Int)) = false from decide_eq_false (by omega), cond_false]
        rw [if_pos (by intro _; omega), if_pos (by intro _; omega), if_pos (by intro _; omega), if_pos (by intro _; omega), if_pos (by
          intro hx
          simp only [Bool.not_eq_true', Bool.or_eq_false_iff, decide_eq_false_iff_not] at hx
          omega)]
        obtain ⟨r, hr, hf⟩ := ih (k + 1) true ((b12 || (decide ((y : Int) < 0))) || (decide ((ho s y.toNat : Int) < 0))) (by omega) (by omega)
        refine ⟨r, hr, fun hr0 => ?_⟩
        obtain ⟨-, g2, g3⟩ := hf hr0
        simp only [Bool.or_eq_false_iff, decide_eq_false_iff_not] at g2
        refine ⟨.inr ⟨k, hlt, hck⟩, g2.1.1, fun t t1 t2 t3 => ?_⟩
        by_cases e : t = k
        · subst e
          unfold fre
          rw [hq, hq2, hq3]
          rintro (hx | hx)
          · exact g2.1.2 hx
          · exact g2.2 hx
        · exact g3 t (by omega) t2 t3
      · have hck : ¬ cand s k := by unfold cand; rw [hq]; exact hc
        rw [if_pos (by
          intro hx
          simp only [Bool.not_eq_true', decide_eq_false_iff_not] at hx
          omega), show ((decide ((w : Int) < 0)) || (decide ((ho s w.toNat : Int) < 0))) = true by
            rw [Bool.or_eq_true, decide_eq_true_eq, decide_eq_true_eq]; omega, cond_true]
        obtain ⟨r, hr, hf⟩ := ih (k + 1) b11 b12 (by omega) (by omega)
        refine ⟨r, hr, fun hr0 => ?_⟩
        obtain ⟨g1, g2, g3⟩ := hf hr0
        refine ⟨g1, g2, fun t t1 t2 t3 => ?_⟩
        by_cases e : t = k
        · subst e
          exact absurd t3 hck
        · exact g3 t (by omega) t2 t3
    · rw [dec_ge hge, cond_false]
      refine ⟨_, rfl, fun hr0 => ?_⟩
      simp only [Bool.or_eq_false_iff, Bool.not_eq_false'] at hr0
      exact ⟨.inl hr0.1, hr0.2, fun t t1 t2 => by omega⟩
theorem some_l1_eq {s : Q} {N L : Nat} (h : Inv s N L) (l : List Int) (x : Int) : ∀ n k, k ≤ N → N - k < n →
    keep_RankSome_l1 (l, s.holder_, s.waits_, x) n k = keep_RankSome_l2 (l, s.holder_, s.waits_, x) FUEL false false 0 := by
  intro n
  induction n with
  | zero => intro k h1 h2; omega
  | succ n ih =>
    intro k h1 h2
    unfold keep_RankSome_l1
    simp only [h.wl, h.hl, Nat.zero_add]
    rcases Nat.lt_or_ge k N with hlt | hge
    · have hwk := h.w k hlt
      have e1 : s.waits_.getD k 0 = wa s k := rfl
      rw [dec_lt hlt, cond_true, e1, show decide ((wa s k : Int) ≥ ((L : Nat) : Int)) = false from decide_eq_false (by have := h.l; omega), cond_false]
      exact ih (k + 1) (by omega) (by omega)
    · rw [dec_ge hge, cond_false]
theorem RankSome_true (a0 a1 : Int) (a2 : List Api_RankOp) (h0 : -9223372036854775808 ≤ a0 ∧ a0 ≤ 9223372036854775807) (h1 : -9223372036854775808 ≤ a1 ∧ a1 ≤ 9223372036854775807) (h2 : a2.length * 24 ≤ 140737488351232 ∧ ∀ y ∈ a2, Ok_Api_RankOp y) : keep_RankSome a0 a1 a2 = some true := by
  have l2 := h2.1
  unfold keep_RankSome
  rw [alive8_eq, Option.bind_some, Bool.not_true, cond_false]
  rcases Play_eq a0 a1 true a2 (by omega) (by omega) with ⟨hp, _⟩ | ⟨N, L, rfl, rfl, hp, hi, hl, hR⟩
  · rw [hp]; rfl
  · rw [hp, Option.bind_some]
    generalize (a2.foldl (stepF true) ([], init N L)).2 = s at *
    simp only [bne_self_eq_false, cond_false]
    have hn := hi.n
    rw [some_l1_eq hi _ _ FUEL 0 (by omega) (fuel_gt (by omega))]
    obtain ⟨r, hr, hf⟩ := some_l2_eq hi ((a2.foldl (stepF true) ([], init N L)).1) 0 FUEL 0 false false (by omega) (fuel_gt (by omega))
    rw [hr]
    cases r with
    | true => rfl
    | false =>
      obtain ⟨g1, -, g3⟩ := hf rfl
      rcases g1 with g1 | ⟨t, t1, t2⟩
      · cases g1
      · exact (some_free hi (hR rfl) t t1 t2 (fun u => g3 u (by omega))).elim

/- no lock has two -/
theorem apart_l1_eq (o : Api_RankOp) (r4 r9 : (List Int) × (List Int) × (List Int) × Int) (L : Nat) (hL : L ≤ 16) (h4 : r4.2.1.length = L) (h9 : r9.2.1.length = L)
    (hne : ∀ k : Nat, k < L → (k : Int) ≠ o.Lock → r4.2.1.getD k 0 = r9.2.1.getD k 0) {v : Bool} (hfin : keep_RankApart_l1 o r4 r9 1 L = some v) : ∀ n k, k ≤ L → L - k < n → keep_RankApart_l1 o r4 r9 n k = some v := by
  intro n
  induction n with
  | zero => intro k h1 h2; omega
  | succ n ih =>
    intro k h1 h2
    rcases Nat.lt_or_ge k L with hlt | hge
    · unfold keep_RankApart_l1
      simp only [h4, h9, Nat.zero_add]
      rw [dec_lt hlt, cond_true, if_pos (by intro _; omega), if_pos (by intro _; omega)]
      by_cases e : (k : Int) = o.Lock
      · rw [show ((k : Int) != o.Lock) = false by simp [e], Bool.false_and, cond_false]
        exact ih (k + 1) (by omega) (by omega)
      · rw [hne k hlt e, bne_self_eq_false, Bool.and_false, cond_false]
        exact ih (k + 1) (by omega) (by omega)
    · have : k = L := by omega
      subst this
      unfold keep_RankApart_l1 at hfin ⊢
      rw [dec_ge (by rw [h4]; omega), cond_false] at hfin ⊢
      exact hfin
theorem RankApart_true (a0 a1 : Int) (a2 : Bool) (a3 : List Api_RankOp) (a4 : Api_RankOp) (h0 : -9223372036854775808 ≤ a0 ∧ a0 ≤ 9223372036854775807) (h1 : -9223372036854775808 ≤ a1 ∧ a1 ≤ 9223372036854775807) (h2 : True) (h3 : a3.length * 24 ≤ 140737488351232 ∧ ∀ y ∈ a3, Ok_Api_RankOp y) (h4 : Ok_Api_RankOp a4) : keep_RankApart a0 a1 a2 a3 a4 = some true := by
  have l3 := h3.1
  have hal : (a3 ++ [a4]).length = a3.length + 1 := by simp
  unfold keep_RankApart
  rw [alive8_eq, Option.bind_some, Bool.not_true, cond_false]
  have hcl : slices_Clone_api_RankOp a3 = some a3 := by
    unfold slices_Clone_api_RankOp
    rw [if_pos (by omega)]
  rcases Play_eq a0 a1 a2 a3 (by omega) (by omega) with ⟨hp, hbad⟩ | ⟨N, L, rfl, rfl, hp, hinv, hlen, -⟩
  · rcases Play_eq a0 a1 a2 (a3 ++ [a4]) (by omega) (by omega) with ⟨hp2, _⟩ | ⟨N, L, rfl, rfl, _, hinv2, _⟩
    · rw [hp, Option.bind_some, hcl, Option.bind_some, if_pos (by simp only [List.length_singleton]; omega), hp2]
      rfl
    · have g1 := hinv2.n
      have g2 := hinv2.l
      exact absurd (by omega) hbad
  · have g1 := hinv.n
    have g2 := hinv.l
    rcases Play_eq N L a2 (a3 ++ [a4]) (by omega) (by omega) with ⟨_, hbad⟩ | ⟨N', L', e1, e2, hp2, hinv2, hlen2, -⟩
    · exact absurd (by omega) hbad
    · have e1 : N' = N := by omega
      have e2 : L' = L := by omega
      subst e1 e2
      rw [hp, Option.bind_some, hcl, Option.bind_some, if_pos (by simp only [List.length_singleton]; omega), hp2, Option.bind_some]
      rw [List.foldl_append, List.foldl_cons, List.foldl_nil]
      generalize hq : a3.foldl (stepF a2) ([], init N' L') = q at *
      obtain ⟨es, t⟩ := q
      simp only at hinv hlen
      obtain ⟨e, t', hd, hdo⟩ := Do_cases hinv a4 a2
      rw [stepF_eq hd]
      simp only
      have hel : (es ++ [e]).length = a3.length + 1 := by simp [hlen]
      rw [hel, show IntKind.i64.wrap (((a3.length : Nat) : Int) + 1) = ((a3.length + 1 : Nat) : Int) by rw [wrap_id (by omega) (by omega)]; omega]
      simp only [bne_self_eq_false, Bool.or_self, cond_false]
      rw [if_pos (by omega), Nat.zero_add]
      have hge : (es ++ [e]).getD a3.length 0 = e := by
        rw [List.getD_eq_getElem?_getD, ← hlen, List.getElem?_append_right (Nat.le_refl _)]
        simp
      rw [hge]
      have hinv' := (do_inv hinv hdo).1
      cases hdo with
      | err _ he =>
        rw [show ((e : Int) != 0) = true by simp [he], cond_true, slices_Equal_int_eq _ _ (by rw [hinv.hl]; omega), Option.bind_some]
        cases h7 : ((e : Int) == 7) with
        | true => simp
        | false => simp [slices_Equal_int_eq _ _ (show t.waits_.length ≤ 140737488355328 by rw [hinv.wl]; omega)]
      | wait u m _ _ _ hu hm hh _ =>
        rw [show (((7 : Int)) != 0) = true from rfl, cond_true, slices_Equal_int_eq _ _ (by rw [hinv.hl]; omega), Option.bind_some]
        simp
      | take u m k1 eu em hu hm hh =>
        rw [show (((0 : Int)) != 0) = false from rfl, cond_false]
        have hset : ∀ k, (t.holder_.set m (u : Int)).getD k 0 = if k = m then (u : Int) else t.holder_.getD k 0 := fun k => get_set _ _ _ _ (by rw [hinv.hl]; exact hm)
        refine apart_l1_eq a4 _ _ L' g2.2 hinv.hl hinv'.hl (fun k hk hne => ?_) ?_ FUEL 0 (by omega) (fuel_gt (by omega))
        · show t.holder_.getD k 0 = (t.holder_.set m (u : Int)).getD k 0
          rw [hset, if_neg (by omega)]
        · unfold keep_RankApart_l1
          simp only [Nat.zero_add]
          have hlen' : (t.holder_.set m (u : Int)).length = L' := hinv'.hl
          rw [dec_ge (by rw [hinv.hl]; omega), cond_false, em, eu, Int.toNat_natCast, hset, if_pos (show m = m from rfl)]
          have hho : t.holder_.getD m 0 = ho t m := rfl
          rw [hho, k1, hinv.hl, hlen', if_pos (by intro _; omega), if_pos (by intro _; omega), if_pos (by intro _; omega), if_pos (by intro _; omega)]
          simp [hh]
      | give u m k2 eu em hu hm hh hw =>
        rw [show (((0 : Int)) != 0) = false from rfl, cond_false]
        have hset : ∀ k, (t.holder_.set m (-1)).getD k 0 = if k = m then (-1) else t.holder_.getD k 0 := fun k => get_set _ _ _ _ (by rw [hinv.hl]; exact hm)
        refine apart_l1_eq a4 _ _ L' g2.2 hinv.hl hinv'.hl (fun k hk hne => ?_) ?_ FUEL 0 (by omega) (fuel_gt (by omega))
        · show t.holder_.getD k 0 = (t.holder_.set m (-1)).getD k 0
          rw [hset, if_neg (by omega)]
        · unfold keep_RankApart_l1
          simp only [Nat.zero_add]
          have hlen' : (t.holder_.set m (-1)).length = L' := hinv'.hl
          rw [dec_ge (by rw [hinv.hl]; omega), cond_false, em, eu, Int.toNat_natCast, hset, if_pos (show m = m from rfl)]
          have hho : t.holder_.getD m 0 = ho t m := rfl
          rw [hho, k2, hinv.hl, hlen', if_pos (by intro _; omega), if_pos (by intro _; omega), if_pos (by intro _; omega), if_pos (by intro _; omega)]
          simp [hh]
end Go.Proofs.Ytfmjgicgbdbpoaa
