/- Plain laws of soft. -/
import Derived.Test.YtcbknmjbhjbifaaQ5M
import Derived.Test.YtcbknmjbhjbifaaPLib
import Derived.Test.YtcbknmjbhjbifaaQ5K
set_option linter.unusedSimpArgs false
set_option linter.unusedVariables false
namespace Go.Proofs.Ytcbknmjbhjbifaa
open Go Go.Ab

theorem alive10_eq : keep_alive10 = some true := by decide +kernel

abbrev Rs := List Api_Raise
def okS (n : Int) : Prop := 0 ≤ n ∧ n < 8

theorem right_l2_eq (rs : Rs) (hn : rs.length ≤ 140737488355328) : ∀ n k, k ≤ rs.length → rs.length - k < n →
    ∃ b, soft_Right_l2 rs n k = some b ∧ (b = true → rs.length ≤ 400 ∧ ∀ i (hi : i < rs.length), k ≤ i → okS rs[i].Soft ∧ 0 ≤ rs[i].When ∧ rs[i].When ≤ 400 ∧ (0 < i → (rs[i-1]'(by omega)).When ≤ rs[i].When)) := by
  intro n
  induction n with
  | zero => intro k h1 h2; omega
  | succ n ih =>
    intro k h1 h2
    unfold soft_Right_l2
    rcases Nat.lt_or_ge k rs.length with hlt | hge
    · rw [dec_lt hlt, cond_true]
      have hw : IntKind.i64.wrap ((k : Int) - 1) = (k : Int) - 1 := wrap_id (by omega) (by omega)
      have ht : ((k : Int) - 1).toNat = k - 1 := by omega
      simp only [soft_Right_1, Option.bind_some, getD_lt _ _ hlt, hw, ht, getD_lt _ _ (show k - 1 < rs.length by omega)]
      rw [if_pos (by
        intro hc
        simp only [Bool.and_eq_true, decide_eq_true_eq] at hc
        omega)]
      obtain ⟨b, hb, hb2⟩ := ih (k + 1) (by omega) (by omega)
      generalize hc : (!(decide (rs[k].Soft ≥ 0) && decide (rs[k].Soft < 8)) || decide (rs[k].When < 0) || decide (rs[k].When > 400) || decide ((k : Int) > 0) && decide (rs[k].When < rs[k-1].When)) = c
      cases c with
      | true => exact ⟨false, rfl, fun h => by cases h⟩
      | false =>
        refine ⟨b, hb, fun h => ⟨(hb2 h).1, fun i hi hk => ?_⟩⟩
        by_cases hik : i = k
        · subst hik
          simp only [Bool.or_eq_false_iff, Bool.and_eq_false_iff, Bool.not_eq_false', Bool.and_eq_true, decide_eq_true_eq, decide_eq_false_iff_not] at hc
          unfold okS
          omega
        · exact (hb2 h).2 i hi (by omega)
    · rw [dec_ge hge, cond_false]
      refine ⟨_, rfl, fun h => ⟨?_, fun i hi hk => by omega⟩⟩
      have := of_decide_eq_true h
      omega

theorem right_l1_eq (p : List Int) (rs : Rs) (hn : rs.length ≤ 140737488355328) : ∀ n k, k ≤ p.length → p.length - k < n →
    ∃ b, soft_Right_l1 p rs n k = some b ∧ (b = true → (∀ x ∈ p.drop k, okS x) ∧ rs.length ≤ 400 ∧ ∀ i (hi : i < rs.length), okS rs[i].Soft ∧ 0 ≤ rs[i].When ∧ rs[i].When ≤ 400 ∧ (0 < i → (rs[i-1]'(by omega)).When ≤ rs[i].When)) := by
  intro n
  induction n with
  | zero => intro k h1 h2; omega
  | succ n ih =>
    intro k h1 h2
    unfold soft_Right_l1
    rcases Nat.lt_or_ge k p.length with hlt | hge
    · rw [dec_lt hlt, cond_true, getD_lt _ _ hlt]
      simp only [soft_Right_1, Option.bind_some]
      obtain ⟨b, hb, hb2⟩ := ih (k + 1) (by omega) (by omega)
      cases hc : (decide (p[k] ≥ 0) && decide (p[k] < 8)) with
      | false => exact ⟨false, rfl, fun h => by cases h⟩
      | true =>
        refine ⟨b, hb, fun h => ⟨fun x hx => ?_, (hb2 h).2⟩⟩
        rw [List.drop_eq_getElem_cons hlt] at hx
        rcases List.mem_cons.1 hx with rfl | hx
        · simpa [okS] using hc
        · exact (hb2 h).1 x hx
    · rw [dec_ge hge, cond_false]
      obtain ⟨b, hb, hb2⟩ := right_l2_eq rs hn FUEL 0 (by omega) (fuel_gt (by omega))
      refine ⟨b, hb, fun h => ⟨fun x hx => ?_, (hb2 h).1, fun i hi => (hb2 h).2 i hi (by omega)⟩⟩
      rw [List.drop_of_length_le hge] at hx
      cases hx

theorem sorted_adj : ∀ (rs : Rs), (∀ i (hi : i < rs.length), 0 < i → (rs[i-1]'(by omega)).When ≤ rs[i].When) → rs.Pairwise (fun a b => a.When ≤ b.When)
  | [], _ => List.Pairwise.nil
  | [a], _ => by simp
  | a :: b :: l, h => by
    have ih := sorted_adj (b :: l) (fun i hi h0 => by
      have := h (i + 1) (by simpa using hi) (by omega)
      obtain _ | i := i
      · omega
      · simpa using this)
    refine List.Pairwise.cons ?_ ih
    have hab : a.When ≤ b.When := h 1 (by simp) (by omega)
    intro c hc
    rcases List.mem_cons.1 hc with rfl | hc
    · exact hab
    · have := (List.pairwise_cons.1 ih).1 c hc
      omega

structure RightP (p : List Int) (rs : Rs) : Prop where
  pend : ∀ x ∈ p, okS x
  len : rs.length ≤ 400
  ok : ∀ r ∈ rs, okS r.Soft ∧ 0 ≤ r.When ∧ r.When ≤ 400
  sorted : rs.Pairwise (fun a b => a.When ≤ b.When)

theorem right_eq (p : List Int) (rs : Rs) (hp : p.length ≤ 140737488355328) (hn : rs.length ≤ 140737488355328) : ∃ b, soft_Right p rs = some b ∧ (b = true → RightP p rs) := by
  obtain ⟨b, hb, h⟩ := right_l1_eq p rs hn FUEL 0 (by omega) (fuel_gt (by omega))
  refine ⟨b, hb, fun hbt => ?_⟩
  obtain ⟨h1, h2, h3⟩ := h hbt
  refine ⟨by simpa using h1, h2, fun r hr => ?_, sorted_adj rs fun i hi => (h3 i hi).2.2.2⟩
  obtain ⟨i, hi, rfl⟩ := List.getElem_of_mem hr
  exact ⟨(h3 i hi).1, (h3 i hi).2.1, (h3 i hi).2.2.1⟩

abbrev Pd := Nat → Bool
def raiseF (m : Nat) : Pd → Rs → Pd × Rs
  | f, [] => (f, [])
  | f, r :: l => if r.When ≤ (m : Int) then raiseF m (upd f r.Soft.toNat true) l else (f, r :: l)

theorem raise_l1_eq (a0 : Soft_runner) : ∀ n (f : Pd) (l : Rs), l.length < n → (∀ r ∈ l, okS r.Soft) →
    soft_runner_raise_roro_l1 a0 n f l = some ⟨(raiseF a0.ran_.length f l).1, (raiseF a0.ran_.length f l).2, a0.ran_⟩ := by
  intro n
  induction n with
  | zero => intro f l h; omega
  | succ n ih =>
    intro f l hl hok
    unfold soft_runner_raise_roro_l1
    cases l with
    | nil => simp [raiseF]
    | cons r l =>
      have hr := hok r (by simp)
      unfold okS at hr
      have e0 : ((r :: l).getD 0 (⟨0, 0⟩ : Api_Raise)) = r := rfl
      have hlen : (r :: l).length = l.length + 1 := rfl
      have e1 : ((r :: l).drop 1).take ((r :: l).length - 1) = l := by simp
      rw [e0, e1, if_pos (fun _ => by omega)]
      have d0 : decide ((((r :: l).length : Nat) : Int) > 0) = true := by rw [decide_eq_true_eq, hlen]; omega
      rw [d0, Bool.true_and]
      by_cases hw : r.When ≤ (a0.ran_.length : Int)
      · have d1 : decide (r.When ≤ ((a0.ran_.length : Nat) : Int)) = true := by simpa using hw
        rw [d1, cond_true, if_pos (by omega), if_pos (by omega), if_pos (by omega), ih _ _ (by omega) (fun x hx => hok x (by simp [hx]))]
        simp [raiseF, hw]
      · have d1 : decide (r.When ≤ ((a0.ran_.length : Nat) : Int)) = false := by simpa using hw
        rw [d1, cond_false]
        simp [raiseF, hw]

/-- The state: what is pending, what comes, what ran. -/
abbrev St := Soft_runner
def raiseS (s : St) : St := ⟨(raiseF s.ran_.length s.pending_ s.raises_).1, (raiseF s.ran_.length s.pending_ s.raises_).2, s.ran_⟩
theorem raise_eq (s : St) (hl : s.raises_.length ≤ 400) (hok : ∀ r ∈ s.raises_, okS r.Soft) : soft_runner_raise_roro s = some (raiseS s) := by
  unfold soft_runner_raise_roro
  rw [raise_l1_eq s FUEL _ _ (fuel_gt (by omega)) hok]
  rfl

/-- One that is run. -/
def oneS (s : St) (k : Nat) : St := raiseS ⟨s.pending_, s.raises_, s.ran_ ++ [(k : Int)]⟩
def roundF (now : Pd) (s : St) : Nat → Nat → St
  | k, 0 => s
  | k, j + 1 => roundF now (if now k then oneS s k else s) (k + 1) j
def roundS (s : St) : St := roundF s.pending_ ⟨fun _ => false, s.raises_, s.ran_⟩ 0 8

def Wf (s : St) : Prop := s.raises_.length ≤ 400 ∧ ∀ r ∈ s.raises_, okS r.Soft
theorem raiseF_suffix (m : Nat) : ∀ (f : Pd) (l : Rs), (raiseF m f l).2 <:+ l
  | f, [] => List.suffix_refl _
  | f, r :: l => by
    unfold raiseF
    split
    · exact (raiseF_suffix m _ l).trans (List.suffix_cons r l)
    · exact List.suffix_refl _
theorem Wf.suffix {s : St} (h : Wf s) {f : Pd} {l : Rs} {R : List Int} (hl : l <:+ s.raises_) : Wf ⟨f, l, R⟩ :=
  ⟨Nat.le_trans hl.length_le h.1, fun r hr => h.2 r (hl.subset hr)⟩
theorem Wf.one {s : St} (h : Wf s) (k : Nat) : Wf (oneS s k) := h.suffix (raiseF_suffix _ _ _)

theorem round_l1_eq (a0 : St) : ∀ j n k (s : St), k + j = 8 → j < n → Wf s → (s.ran_.length + j) * 8 ≤ 140737488355328 →
    soft_runner_round_roro_l1 a0 n k s.pending_ s.raises_ s.ran_ = some (roundF a0.pending_ s k j) := by
  intro j
  induction j with
  | zero =>
    intro n k s hk hn hw hb
    obtain rfl : k = 8 := by omega
    obtain _ | n := n
    · omega
    · unfold soft_runner_round_roro_l1
      have : decide ((((8 : Nat) : Int) : Int) < 8) = false := by decide
      rw [this]; rfl
  | succ j ih =>
    intro n k s hk hn hw hb
    obtain _ | n := n
    · omega
    · unfold soft_runner_round_roro_l1
      have : decide ((((k : Nat) : Int) : Int) < 8) = true := by simp <;> omega
      rw [this, cond_true, if_pos (by omega), roundF]
      cases hp : a0.pending_ k with
      | true =>
        rw [cond_true, if_pos (by simp only [List.length_cons, List.length_nil]; omega), if_pos rfl]
        have hw' : Wf ⟨s.pending_, s.raises_, s.ran_ ++ [(k : Int)]⟩ := hw
        rw [raise_eq _ hw'.1 hw'.2, Option.bind_some]
        exact ih n (k + 1) (oneS s k) (by omega) (by omega) (hw.one k) (by simp [oneS, raiseS]; omega)
      | false =>
        rw [cond_false, if_neg (by simp)]
        exact ih n (k + 1) s (by omega) (by omega) hw (by omega)

theorem round_eq (s : St) (h : Wf s) (hb : (s.ran_.length + 8) * 8 ≤ 140737488355328) : soft_runner_round_roro s = some (roundS s) := by
  unfold soft_runner_round_roro
  exact round_l1_eq s 8 FUEL 0 ⟨fun _ => false, s.raises_, s.ran_⟩ rfl (by unfold FUEL; omega) h hb

/-- How many are pending. -/
def cntP (f : Pd) : Nat → Nat → Nat
  | k, 0 => 0
  | k, j + 1 => (if f k then 1 else 0) + cntP f (k + 1) j
def someP (f : Pd) : Bool := decide (true ∈ arrList 8 f)
theorem some_eq (s : St) : soft_runner_some s = some (someP s.pending_) := by
  unfold soft_runner_some
  have : ∀ (l : List Bool) n k, k ≤ l.length → l.length - k < n → l.length ≤ 8 → ∃ x, slices_Index_bool_l1 l true n k = some x ∧ (decide ((x : Int) ≥ 0) = decide (true ∈ l.drop k)) := by
    intro l n
    induction n with
    | zero => intro k h1 h2; omega
    | succ n ih =>
      intro k h1 h2 h3
      unfold slices_Index_bool_l1
      rcases Nat.lt_or_ge k l.length with hlt | hge
      · rw [dec_lt hlt, cond_true, getD_lt _ _ hlt, List.drop_eq_getElem_cons hlt]
        cases hb : l[k] with
        | true => exact ⟨_, rfl, by simp⟩
        | false =>
          obtain ⟨x, hx, h⟩ := ih (k + 1) (by omega) (by omega) h3
          exact ⟨x, hx, by rw [h]; simp⟩
      · rw [dec_ge hge, cond_false, List.drop_of_length_le hge]
        exact ⟨_, rfl, by simp⟩
  unfold slices_Contains_bool slices_Index_bool
  obtain ⟨x, hx, h⟩ := this (arrList 8 s.pending_) FUEL 0 (by omega) (by rw [arrList_length]; unfold FUEL; omega) (by rw [arrList_length]; omega)
  rw [hx, Option.bind_some, h, Option.bind_some]
  rfl
theorem someP_iff (f : Pd) : someP f = true ↔ ∃ k, k < 8 ∧ f k = true := by
  rw [someP, decide_eq_true_eq, arrList, List.mem_map]
  constructor
  · rintro ⟨k, hk, h⟩; exact ⟨k, List.mem_range.1 hk, h⟩
  · rintro ⟨k, hk, h⟩; exact ⟨k, List.mem_range.2 hk, h⟩
theorem cntP_pos (f : Pd) : ∀ j k, (∃ i, k ≤ i ∧ i < k + j ∧ f i = true) → 0 < cntP f k j := by
  intro j
  induction j with
  | zero => intro k ⟨i, h1, h2, _⟩; omega
  | succ j ih =>
    intro k ⟨i, h1, h2, h3⟩
    unfold cntP
    by_cases hik : i = k
    · subst hik; simp [h3]; omega
    · have := ih (k + 1) ⟨i, by omega, by omega, h3⟩; omega
theorem cntP_upd (f : Pd) (i : Nat) : ∀ j k, cntP (upd f i true) k j ≤ cntP f k j + (if k ≤ i then 1 else 0) := by
  intro j
  induction j with
  | zero => intro k; simp [cntP]
  | succ j ih =>
    intro k
    have := ih (k + 1)
    unfold cntP
    by_cases hik : k = i
    · subst hik
      have e : upd f k true k = true := by simp [upd]
      rw [e]
      rw [if_neg (show ¬ k + 1 ≤ k by omega)] at this
      simp only [if_true, Nat.le_refl]
      split <;> omega
    · have e : upd f i true k = f k := by simp [upd, hik]
      rw [e]
      by_cases h : k ≤ i
      · rw [if_pos h]; rw [if_pos (show k + 1 ≤ i by omega)] at this; omega
      · rw [if_neg h]; rw [if_neg (show ¬ k + 1 ≤ i by omega)] at this; omega
theorem raiseF_cnt (m : Nat) : ∀ (l : Rs) (f : Pd), cntP (raiseF m f l).1 0 8 + (raiseF m f l).2.length ≤ cntP f 0 8 + l.length
  | [], f => by simp [raiseF]
  | r :: l, f => by
    unfold raiseF
    split
    · have := raiseF_cnt m l (upd f r.Soft.toNat true)
      have h2 := cntP_upd f r.Soft.toNat 8 0
      simp only [Nat.zero_le, if_true] at h2
      simp only [List.length_cons]; omega
    · simp
theorem roundF_cnt (now : Pd) : ∀ j k (s : St), cntP (roundF now s k j).pending_ 0 8 + (roundF now s k j).raises_.length ≤ cntP s.pending_ 0 8 + s.raises_.length ∧ (roundF now s k j).ran_.length = s.ran_.length + cntP now k j := by
  intro j
  induction j with
  | zero => intro k s; exact ⟨Nat.le_refl _, rfl⟩
  | succ j ih =>
    intro k s
    have ec : cntP now k (j + 1) = (if now k then 1 else 0) + cntP now (k + 1) j := rfl
    rw [ec]
    unfold roundF
    cases now k with
    | true =>
      have := ih (k + 1) (oneS s k)
      have h1 := raiseF_cnt (s.ran_ ++ [(k : Int)]).length s.raises_ s.pending_
      have e2 : (oneS s k).ran_.length = s.ran_.length + 1 := by simp [oneS, raiseS]
      rw [e2] at this
      simp only [if_true]
      constructor
      · exact Nat.le_trans this.1 h1
      · omega
    | false =>
      have := ih (k + 1) s
      simp only [Bool.false_eq_true, if_false]
      omega
theorem cntP_false : ∀ j k, cntP (fun _ => false) k j = 0 := by
  intro j
  induction j with
  | zero => intro k; rfl
  | succ j ih => intro k; unfold cntP; rw [ih]; rfl
theorem roundS_cnt (s : St) : (roundS s).ran_.length + cntP (roundS s).pending_ 0 8 + (roundS s).raises_.length ≤ s.ran_.length + cntP s.pending_ 0 8 + s.raises_.length ∧ (roundS s).ran_.length = s.ran_.length + cntP s.pending_ 0 8 := by
  have h := roundF_cnt s.pending_ 8 0 ⟨fun _ => false, s.raises_, s.ran_⟩
  simp only [cntP_false] at h
  unfold roundS
  omega
theorem cntP_le (f : Pd) : ∀ j k, cntP f k j ≤ j := by
  intro j
  induction j with
  | zero => intro k; exact Nat.le_refl _
  | succ j ih => intro k; have := ih (k + 1); unfold cntP; split <;> omega
theorem roundF_wf (now : Pd) : ∀ j k (s : St), Wf s → Wf (roundF now s k j) := by
  intro j
  induction j with
  | zero => intro k s h; exact h
  | succ j ih =>
    intro k s h
    unfold roundF
    apply ih
    split
    · exact h.one k
    · exact h
theorem Wf.round {s : St} (h : Wf s) : Wf (roundS s) := roundF_wf _ _ _ _ h

/-- All rounds: the end, and how many ran in the first so many rounds. -/
def runF (a : Int) : Nat → Int → Int → St → List Int × Int
  | 0, x, y, s => (s.ran_, x)
  | n + 1, x, y, s => if someP s.pending_ then runF a n (if y < a then ((roundS s).ran_.length : Int) else x) (y + 1) (roundS s) else (s.ran_, x)

def meas (s : St) : Nat := cntP s.pending_ 0 8 + s.raises_.length
theorem meas_round {s : St} (h : someP s.pending_ = true) : meas (roundS s) < meas s ∧ (roundS s).ran_.length + meas (roundS s) ≤ s.ran_.length + meas s := by
  have := roundS_cnt s
  have h2 := cntP_pos s.pending_ 8 0 (by obtain ⟨k, hk, hf⟩ := (someP_iff _).1 h; exact ⟨k, by omega, by omega, hf⟩)
  unfold meas
  omega

theorem Run_l2_eq (a : Int) (r12 : St) : ∀ n m (x y : Int) (s : St), meas s < n → meas s ≤ m → Wf s → s.ran_.length + meas s ≤ 1000 → 0 ≤ y → y + meas s ≤ 1000 →
    soft_Run_l2 a r12 n x y s.pending_ s.raises_ s.ran_ = some ((runF a m x y s).1, (runF a m x y s).2, 0) := by
  intro n
  induction n with
  | zero => intro m x y s h; omega
  | succ n ih =>
    intro m x y s h hm hw hb hy hyb
    unfold soft_Run_l2
    change ((soft_runner_some s).bind _) = _
    rw [some_eq, Option.bind_some]
    cases hs : someP s.pending_ with
    | false =>
      rw [cond_false]
      cases m with
      | zero => rfl
      | succ m => simp [runF, hs]
    | true =>
      obtain ⟨h1, h2⟩ := meas_round hs
      rw [cond_true]
      change ((soft_runner_round_roro s).bind _) = _
      rw [round_eq s hw (by omega), Option.bind_some]
      cases m with
      | zero => omega
      | succ m =>
        rw [wrap_id (by omega) (by omega)]
        by_cases hya : y < a
        · have : decide (y < a) = true := by simpa using hya
          rw [this, cond_true, ih m _ (y + 1) (roundS s) (by omega) (by omega) hw.round (by omega) (by omega) (by omega)]
          simp [runF, hs, hya]
        · have : decide (y < a) = false := by simpa using hya
          rw [this, cond_false, ih m _ (y + 1) (roundS s) (by omega) (by omega) hw.round (by omega) (by omega) (by omega)]
          simp [runF, hs, hya]

def pendF : Pd → List Int → Pd
  | f, [] => f
  | f, x :: l => pendF (upd f x.toNat true) l
def start (p : List Int) (rs : Rs) : St := raiseS ⟨pendF (fun _ => false) p, rs, []⟩

theorem start_meas (p : List Int) (rs : Rs) (h : RightP p rs) : meas (start p rs) ≤ 408 ∧ Wf (start p rs) ∧ (start p rs).ran_ = [] := by
  have h1 := raiseF_cnt ([] : List Int).length rs (pendF (fun _ => false) p)
  have h2 := cntP_le (pendF (fun _ => false) p) 8 0
  have h3 := h.len
  refine ⟨?_, ?_, rfl⟩
  · unfold meas start raiseS; simp only; omega
  · have hw : Wf ⟨pendF (fun _ => false) p, rs, []⟩ := ⟨h3, fun r hr => (h.ok r hr).1⟩
    exact hw.suffix (raiseF_suffix _ _ _)

theorem Run_l1_eq (p : List Int) (rs : Rs) (a : Int) (hp : ∀ x ∈ p, okS x) : ∀ n k f, k ≤ p.length → p.length - k < n →
    soft_Run_l1 p rs a n k f = (soft_runner_raise_roro ⟨pendF f (p.drop k), rs, []⟩).bind fun r12 => soft_Run_l2 a r12 FUEL 0 0 r12.pending_ r12.raises_ r12.ran_ := by
  intro n
  induction n with
  | zero => intro k f h1 h2; omega
  | succ n ih =>
    intro k f h1 h2
    unfold soft_Run_l1
    rcases Nat.lt_or_ge k p.length with hlt | hge
    · have hx := hp p[k] (List.getElem_mem hlt)
      rw [dec_lt hlt, cond_true, getD_lt _ _ hlt, if_pos (by unfold okS at hx; omega), ih (k + 1) _ (by omega) (by omega), List.drop_eq_getElem_cons hlt]
      rfl
    · rw [dec_ge hge, cond_false, List.drop_of_length_le hge]
      rfl

theorem Run_eq (p : List Int) (rs : Rs) (a : Int) (hp : p.length ≤ 140737488355328) (hn : rs.length ≤ 140737488355328) :
    (∃ e, e ≠ 0 ∧ soft_Run p rs a = some ([], 0, e)) ∨ (RightP p rs ∧ 0 ≤ a ∧ a ≤ 400 ∧ soft_Run p rs a = some ((runF a 1000 0 0 (start p rs)).1, (runF a 1000 0 0 (start p rs)).2, 0)) := by
  unfold soft_Run
  obtain ⟨b, hb, h⟩ := right_eq p rs hp hn
  rw [hb, Option.bind_some]
  cases b with
  | false => exact .inl ⟨1, by decide, rfl⟩
  | true =>
    have hr := h rfl
    by_cases ha : a < 0 ∨ a > 400
    · have : (decide (a < 0) || decide (a > 400)) = true := by simpa using ha
      rw [this]
      exact .inl ⟨2, by decide, rfl⟩
    · have : (decide (a < 0) || decide (a > 400)) = false := by simp at ha ⊢; omega
      rw [this]
      refine .inr ⟨hr, by omega, by omega, ?_⟩
      obtain ⟨h1, h2, h3⟩ := start_meas p rs hr
      simp only [Bool.not_true, cond_false]
      rw [Run_l1_eq p rs a hr.pend FUEL 0 _ (by omega) (fuel_gt (by omega)), raise_eq _ hr.len (fun r hr' => (hr.ok r hr').1), Option.bind_some, List.drop_zero]
      change soft_Run_l2 a (start p rs) FUEL 0 0 (start p rs).pending_ (start p rs).raises_ (start p rs).ran_ = _
      have h3' : (start p rs).ran_.length = 0 := by rw [h3]; rfl
      rw [Run_l2_eq a _ FUEL 1000 0 0 (start p rs) (by unfold FUEL; omega) (by omega) h2 (by omega) (by omega) (by omega)]

theorem runF_fst (a b : Int) : ∀ n x y x' y' (s : St), (runF a n x y s).1 = (runF b n x' y' s).1 := by
  intro n
  induction n with
  | zero => intro x y x' y' s; rfl
  | succ n ih =>
    intro x y x' y' s
    unfold runF
    split
    · exact ih _ _ _ _ _
    · rfl
theorem roundS_grows (s : St) : s.ran_.length ≤ (roundS s).ran_.length := by
  have := roundS_cnt s; omega
theorem runF_snd_ge (b : Int) : ∀ n x y (s : St), x ≤ (s.ran_.length : Int) → x ≤ (runF b n x y s).2 := by
  intro n
  induction n with
  | zero => intro x y s h; exact Int.le_refl _
  | succ n ih =>
    intro x y s h
    unfold runF
    have := roundS_grows s
    split
    · split
      · exact Int.le_trans (by omega) (ih _ _ (roundS s) (by omega))
      · exact ih _ _ _ (by omega)
    · exact Int.le_refl _
theorem runF_snd_le (b : Int) : ∀ n x y (s : St), x ≤ (s.ran_.length : Int) → (runF b n x y s).2 ≤ ((runF b n x y s).1.length : Int) := by
  intro n
  induction n with
  | zero => intro x y s h; exact h
  | succ n ih =>
    intro x y s h
    unfold runF
    have := roundS_grows s
    split
    · split
      · exact ih _ _ (roundS s) (by omega)
      · exact ih _ _ _ (by omega)
    · exact h
theorem runF_snd_mono (a b : Int) (hab : a ≤ b) : ∀ n x x' y (s : St), x ≤ x' → x' ≤ (s.ran_.length : Int) → (y < a → x = x') → (runF a n x y s).2 ≤ (runF b n x' y s).2 := by
  intro n
  induction n with
  | zero => intro x x' y s h _ _; exact h
  | succ n ih =>
    intro x x' y s h h' hxx
    unfold runF
    have := roundS_grows s
    split
    · apply ih
      · split <;> split <;> omega
      · split <;> omega
      · intro hy
        rw [if_pos (by omega), if_pos (by omega)]
    · exact h

theorem SoftWho_true (a0 : List Int) (a1 : Rs) (a2 a3 : Int) (h0 : a0.length * 8 ≤ 140737488351232 ∧ ∀ y ∈ a0, (-9223372036854775808 ≤ y ∧ y ≤ 9223372036854775807)) (h1 : a1.length * 16 ≤ 140737488351232 ∧ ∀ y ∈ a1, Ok_Api_Raise y) (h2 : -9223372036854775808 ≤ a2 ∧ a2 ≤ 9223372036854775807) (h3 : -9223372036854775808 ≤ a3 ∧ a3 ≤ 9223372036854775807) : keep_SoftWho a0 a1 a2 a3 = some true := by
  unfold keep_SoftWho
  have l0 := h0.1
  have l1 := h1.1
  rw [alive10_eq, Option.bind_some, Bool.not_true, cond_false]
  rcases Run_eq a0 a1 a2 (by omega) (by omega) with ⟨e, he, hr⟩ | ⟨hR, ha, ha', hr⟩
  · have he' : ((e : Int) != 0) = true := by simpa using he
    rcases Run_eq a0 a1 a3 (by omega) (by omega) with ⟨e2, he2, hr2⟩ | ⟨hR2, hb, hb', hr2⟩ <;> rw [hr, Option.bind_some, hr2, Option.bind_some, he', Bool.true_or, cond_true]
  · rcases Run_eq a0 a1 a3 (by omega) (by omega) with ⟨e2, he2, hr2⟩ | ⟨hR2, hb, hb', hr2⟩ <;> rw [hr, Option.bind_some, hr2, Option.bind_some]
    · have he' : ((e2 : Int) != 0) = true := by simpa using he2
      rw [he', Bool.or_true, cond_true]
    · obtain ⟨m1, m2, m3⟩ := start_meas a0 a1 hR
      have hlen : (runF a2 1000 0 0 (start a0 a1)).1.length ≤ 140737488355328 := by
        have : ∀ n x y (s : St), (runF a2 n x y s).1.length ≤ s.ran_.length + meas s := by
          intro n
          induction n with
          | zero => intro x y s; simp [runF]
          | succ n ih =>
            intro x y s
            unfold runF
            split
            · rename_i hs
              have := meas_round hs
              exact Nat.le_trans (ih _ _ _) this.2
            · simp
        have := this 1000 0 0 (start a0 a1)
        rw [m3] at this
        simp only [List.length_nil] at this
        omega
      simp only [show ((0 : Int) != 0) = false by decide, Bool.or_self, cond_false]
      rw [slices_Equal_int_eq _ _ hlen, Option.bind_some, runF_fst a2 a3 1000 0 0 0 0]
      by_cases hab : a2 ≤ a3
      · have := runF_snd_mono a2 a3 hab 1000 0 0 0 (start a0 a1) (by omega) (by omega) (fun _ => rfl)
        simp [this]
      · simp; left; omega

/- Nobody foresees one more. -/
theorem raiseF_append (m : Nat) (r : Api_Raise) : ∀ (l : Rs) (f : Pd), (raiseF m f (l ++ [r]) = ((raiseF m f l).1, (raiseF m f l).2 ++ [r])) ∨ r.When ≤ (m : Int)
  | [], f => by
    by_cases h : r.When ≤ (m : Int)
    · exact .inr h
    · left; simp [raiseF, h]
  | x :: l, f => by
    by_cases h : x.When ≤ (m : Int)
    · have := raiseF_append m r l (upd f x.Soft.toNat true)
      simpa [raiseF, h] using this
    · left; simp [raiseF, h]

def SimA (r : Api_Raise) (s t : St) : Prop := s.pending_ = t.pending_ ∧ t.raises_ = s.raises_ ++ [r] ∧ s.ran_ = t.ran_
def SimB (r : Api_Raise) (s t : St) : Prop := ∃ c : List Int, c.length = r.When.toNat ∧ c <+: s.ran_ ∧ c <+: t.ran_
theorem SimB.grows {r : Api_Raise} {s t s' t' : St} (h : SimB r s t) (h1 : s.ran_ <+: s'.ran_) (h2 : t.ran_ <+: t'.ran_) : SimB r s' t' := by
  obtain ⟨c, hc, a, b⟩ := h
  exact ⟨c, hc, a.trans h1, b.trans h2⟩
theorem SimA.raise {r : Api_Raise} {s t : St} (h : SimA r s t) : SimA r (raiseS s) (raiseS t) ∨ SimB r (raiseS s) (raiseS t) := by
  obtain ⟨h1, h2, h3⟩ := h
  rcases raiseF_append s.ran_.length r s.raises_ s.pending_ with hh | hh
  · left
    unfold SimA raiseS
    rw [h2, ← h3, ← h1, hh]
    exact ⟨rfl, rfl, rfl⟩
  · right
    refine ⟨s.ran_.take r.When.toNat, by rw [List.length_take]; omega, List.take_prefix _ _, ?_⟩
    rw [h3]
    exact List.take_prefix _ _
theorem one_grows (s : St) (k : Nat) : s.ran_ <+: (oneS s k).ran_ := List.prefix_append _ _
theorem roundF_grows (now : Pd) : ∀ j k (s : St), s.ran_ <+: (roundF now s k j).ran_ := by
  intro j
  induction j with
  | zero => intro k s; exact List.prefix_refl _
  | succ j ih =>
    intro k s
    unfold roundF
    split
    · exact (one_grows s k).trans (ih _ _)
    · exact ih _ _
theorem roundS_pre (s : St) : s.ran_ <+: (roundS s).ran_ := roundF_grows s.pending_ 8 0 ⟨fun _ => false, s.raises_, s.ran_⟩
theorem roundF_sim (r : Api_Raise) (now : Pd) : ∀ j k (s t : St), SimA r s t ∨ SimB r s t → SimA r (roundF now s k j) (roundF now t k j) ∨ SimB r (roundF now s k j) (roundF now t k j) := by
  intro j
  induction j with
  | zero => intro k s t h; exact h
  | succ j ih =>
    intro k s t h
    unfold roundF
    apply ih
    split
    · rcases h with h | h
      · refine SimA.raise ⟨h.1, h.2.1, ?_⟩
        show s.ran_ ++ [(k : Int)] = t.ran_ ++ [(k : Int)]
        rw [h.2.2]
      · exact .inr (h.grows (one_grows s k) (one_grows t k))
    · exact h
theorem roundS_sim (r : Api_Raise) (s t : St) (h : SimA r s t ∨ SimB r s t) : SimA r (roundS s) (roundS t) ∨ SimB r (roundS s) (roundS t) := by
  rcases h with h | h
  · unfold roundS
    rw [← h.1]
    exact roundF_sim r _ _ _ _ _ (.inl ⟨rfl, h.2.1, h.2.2⟩)
  · exact .inr (h.grows (roundS_pre _) (roundS_pre _))
theorem runF_grows (a : Int) : ∀ n x y (s : St), s.ran_ <+: (runF a n x y s).1 := by
  intro n
  induction n with
  | zero => intro x y s; exact List.prefix_refl _
  | succ n ih =>
    intro x y s
    unfold runF
    split
    · exact (roundS_pre s).trans (ih _ _ _)
    · exact List.prefix_refl _
theorem runF_sim (r : Api_Raise) (a : Int) : ∀ n x y x' y' (s t : St), SimA r s t ∨ SimB r s t → r.When ≤ ((runF a n x y s).1.length : Int) →
    ∃ c : List Int, c.length = r.When.toNat ∧ c <+: (runF a n x y s).1 ∧ c <+: (runF a n x' y' t).1 := by
  intro n
  induction n with
  | zero =>
    intro x y x' y' s t h hw
    rcases h with h | ⟨c, hc, h1, h2⟩
    · refine ⟨s.ran_.take r.When.toNat, ?_, List.take_prefix _ _, ?_⟩
      · rw [List.length_take]; change r.When ≤ (s.ran_.length : Int) at hw; omega
      · show _ <+: t.ran_
        rw [← h.2.2]; exact List.take_prefix _ _
    · exact ⟨c, hc, h1, h2⟩
  | succ n ih =>
    intro x y x' y' s t h hw
    rcases h with h | ⟨c, hc, h1, h2⟩
    · cases hs : someP s.pending_ with
      | true =>
        have ht : someP t.pending_ = true := by rw [← h.1]; exact hs
        unfold runF at hw ⊢
        rw [if_pos hs] at hw ⊢
        rw [if_pos ht]
        exact ih _ _ _ _ _ _ (roundS_sim r s t (.inl h)) hw
      | false =>
        have ht : ¬ someP t.pending_ = true := by rw [← h.1, hs]; simp
        have hs' : ¬ someP s.pending_ = true := by rw [hs]; simp
        unfold runF at hw ⊢
        rw [if_neg hs'] at hw ⊢
        rw [if_neg ht]
        refine ⟨s.ran_.take r.When.toNat, ?_, List.take_prefix _ _, ?_⟩
        · rw [List.length_take]; change r.When ≤ (s.ran_.length : Int) at hw; omega
        · show _ <+: t.ran_
          rw [← h.2.2]; exact List.take_prefix _ _
    · exact ⟨c, hc, h1.trans (runF_grows _ _ _ _ _), h2.trans (runF_grows _ _ _ _ _)⟩
theorem runF_len (a : Int) : ∀ n x y (s : St), (runF a n x y s).1.length ≤ s.ran_.length + meas s := by
  intro n
  induction n with
  | zero => intro x y s; simp [runF]
  | succ n ih =>
    intro x y s
    unfold runF
    split
    · rename_i hs
      have := meas_round hs
      exact Nat.le_trans (ih _ _ _) this.2
    · simp
theorem run_len (a : Int) (p : List Int) (rs : Rs) (h : RightP p rs) : (runF a 1000 0 0 (start p rs)).1.length ≤ 408 := by
  have := runF_len a 1000 0 0 (start p rs)
  obtain ⟨m1, m2, m3⟩ := start_meas p rs h
  rw [m3] at this
  simp only [List.length_nil] at this
  omega

theorem SoftPart_true (a0 : List Int) (a1 : Rs) (a2 : Api_Raise) (h0 : a0.length * 8 ≤ 140737488351232 ∧ ∀ y ∈ a0, (-9223372036854775808 ≤ y ∧ y ≤ 9223372036854775807)) (h1 : a1.length * 16 ≤ 140737488351232 ∧ ∀ y ∈ a1, Ok_Api_Raise y) (h2 : Ok_Api_Raise a2) : keep_SoftPart a0 a1 a2 = some true := by
  unfold keep_SoftPart slices_Clone_api_Raise
  have l0 := h0.1
  have l1 := h1.1
  rw [alive10_eq, Option.bind_some, Bool.not_true, cond_false, if_pos (by omega)]
  have hlen : (a1 ++ [a2]).length = a1.length + 1 := by simp
  have hg : (a1.length + [a2].length) * 16 ≤ 140737488355328 ∧ a1.length + [a2].length ≤ 140737488355328 := by simp only [List.length_cons, List.length_nil]; omega
  rcases Run_eq a0 a1 1 (by omega) (by omega) with ⟨e, he, hr⟩ | ⟨hR, _, _, hr⟩ <;> rcases Run_eq a0 (a1 ++ [a2]) 1 (by omega) (by omega) with ⟨e2, he2, hr2⟩ | ⟨hR2, _, _, hr2⟩ <;> rw [hr, Option.bind_some, Option.bind_some, if_pos hg, hr2, Option.bind_some]
  · have he' : ((e : Int) != 0) = true := by simpa using he
    rw [he', Bool.true_or, Bool.true_or, cond_true]
  · have he' : ((e : Int) != 0) = true := by simpa using he
    rw [he', Bool.true_or, Bool.true_or, cond_true]
  · have he' : ((e2 : Int) != 0) = true := by simpa using he2
    rw [he', Bool.or_true, Bool.true_or, cond_true]
  · have hl1 := run_len 1 a0 a1 hR
    have hl2 := run_len 1 a0 (a1 ++ [a2]) hR2
    have hw0 := (hR2.ok a2 (by simp)).2.1
    have hsim : SimA a2 (start a0 a1) (start a0 (a1 ++ [a2])) ∨ SimB a2 (start a0 a1) (start a0 (a1 ++ [a2])) :=
      SimA.raise (s := ⟨pendF (fun _ => false) a0, a1, []⟩) (t := ⟨pendF (fun _ => false) a0, a1 ++ [a2], []⟩) ⟨rfl, rfl, rfl⟩
    have key := runF_sim a2 1 1000 0 0 0 0 _ _ hsim
    generalize (runF 1 1000 0 0 (start a0 a1)).1 = l at *
    generalize (runF 1 1000 0 0 (start a0 (a1 ++ [a2]))).1 = m at *
    simp only [show ((0 : Int) != 0) = false by decide, Bool.or_self, Bool.false_or]
    by_cases hw : a2.When > (l.length : Int)
    · have : decide (a2.When > ((l.length : Nat) : Int)) = true := by simpa using hw
      rw [this, cond_true]
    · have : decide (a2.When > ((l.length : Nat) : Int)) = false := by simpa using hw
      obtain ⟨c, hc, ⟨u, hu⟩, ⟨v, hv⟩⟩ := key (by omega)
      have hm : a2.When.toNat ≤ m.length := by rw [← hv]; simp <;> omega
      have hd : decide (((m.length : Nat) : Int) ≥ a2.When) = true := by simp <;> omega
      rw [this, cond_false, hd, if_pos (fun _ => hw0), if_pos (fun _ => by omega), if_pos (fun _ => hw0), if_pos (fun _ => hm), cond_true, slices_Equal_int_eq _ _ (by rw [List.length_take, List.length_drop]; omega), Option.bind_some]
      have e1 : ((l.drop (0 + 0)).take (a2.When.toNat - 0)) = c := by rw [← hu, ← hc]; simp
      have e2 : ((m.drop (0 + 0)).take (a2.When.toNat - 0)) = c := by rw [← hv, ← hc]; simp
      rw [e1, e2]
      simp

/- All that was raised runs. -/
def rst (now : Pd) (k : Nat) (x : Nat) : Bool := now x && decide (k ≤ x)
structure Inv (p0 : List Int) (rs0 : Rs) (rest : Pd) (s : St) (C : Rs) : Prop where
  all : rs0 = C ++ s.raises_
  live : ∀ r ∈ C, r.When ≤ (s.ran_.length : Int) ∧ (r.Soft ∈ s.ran_.drop r.When.toNat ∨ s.pending_ r.Soft.toNat = true ∨ rest r.Soft.toNat = true)
  pend : ∀ x ∈ p0, x ∈ s.ran_ ∨ s.pending_ x.toNat = true ∨ rest x.toNat = true
  cnt : ∀ x : Nat, x < 8 → s.ran_.count (x : Int) + (if s.pending_ x then 1 else 0) + (if rest x then 1 else 0) ≤ (if (x : Int) ∈ p0 then 1 else 0) + C.countP (fun r => r.Soft == (x : Int))

def Later (s : St) : Prop := ∀ r ∈ s.raises_, (s.ran_.length : Int) < r.When

theorem upd_same {α : Type} (f : Nat → α) (d : Nat) (v : α) : upd f d v d = v := by simp [upd]
theorem upd_other {α : Type} (f : Nat → α) {d t : Nat} (v : α) (h : t ≠ d) : upd f d v t = f t := by simp [upd, h]
theorem upd_mono (f : Pd) (d t : Nat) (h : f t = true) : upd f d true t = true := by
  by_cases hh : t = d
  · subst hh; exact upd_same _ _ _
  · rw [upd_other _ _ hh]; exact h

theorem Inv.raise {p0 : List Int} {rs0 : Rs} {rest : Pd} {R : List Int} (hok : ∀ r ∈ rs0, okS r.Soft ∧ 0 ≤ r.When ∧ r.When ≤ 400) (hsort : rs0.Pairwise (fun a b => a.When ≤ b.When)) :
    ∀ (l : Rs) (f : Pd) (C : Rs), Inv p0 rs0 rest ⟨f, l, R⟩ C → ∃ C', Inv p0 rs0 rest (raiseS ⟨f, l, R⟩) C' ∧ Later (raiseS ⟨f, l, R⟩)
  | [], f, C, h => ⟨C, h, fun r hr => by cases hr⟩
  | r :: l, f, C, h => by
    by_cases hw : r.When ≤ (R.length : Int)
    · have e : raiseS ⟨f, r :: l, R⟩ = raiseS ⟨upd f r.Soft.toNat true, l, R⟩ := by simp [raiseS, raiseF, hw]
      rw [e]
      apply Inv.raise hok hsort l _ (C ++ [r])
      have hr := hok r (by rw [h.all]; simp)
      have hr1 := hr.1
      unfold okS at hr1
      refine ⟨by rw [h.all]; simp, fun q hq => ?_, fun x hx => ?_, fun x hx => ?_⟩
      · rcases List.mem_append.1 hq with hq | hq
        · obtain ⟨h1, h2⟩ := h.live q hq
          refine ⟨h1, ?_⟩
          rcases h2 with h2 | h2 | h2
          · exact .inl h2
          · exact .inr (.inl (upd_mono _ _ _ h2))
          · exact .inr (.inr h2)
        · rw [List.mem_singleton] at hq
          subst hq
          exact ⟨hw, .inr (.inl (upd_same _ _ _))⟩
      · rcases h.pend x hx with h2 | h2 | h2
        · exact .inl h2
        · exact .inr (.inl (upd_mono _ _ _ h2))
        · exact .inr (.inr h2)
      · have hc := h.cnt x hx
        simp only at hc ⊢
        rw [List.countP_append]
        by_cases hx' : x = r.Soft.toNat
        · have e1 : [r].countP (fun r => r.Soft == (x : Int)) = 1 := by
            have : r.Soft = (x : Int) := by omega
            simp [this]
          rw [e1]
          have : (if upd f r.Soft.toNat true x = true then 1 else 0) ≤ 1 := by split <;> omega
          omega
        · simp only [upd_other _ _ hx']
          omega
    · have e : raiseS ⟨f, r :: l, R⟩ = ⟨f, r :: l, R⟩ := by simp [raiseS, raiseF, hw]
      rw [e]
      refine ⟨C, h, fun q hq => ?_⟩
      have hs : (r :: l).Pairwise (fun a b => a.When ≤ b.When) := by
        have := h.all
        simp only at this
        rw [this] at hsort
        exact (List.pairwise_append.1 hsort).2.1
      show (R.length : Int) < q.When
      rcases List.mem_cons.1 hq with rfl | hq
      · omega
      · have := (List.pairwise_cons.1 hs).1 q hq
        omega

theorem Inv.one {p0 : List Int} {rs0 : Rs} {now : Pd} {s : St} {C : Rs} (hok : ∀ r ∈ rs0, okS r.Soft ∧ 0 ≤ r.When ∧ r.When ≤ 400) (hp0 : ∀ x ∈ p0, okS x) (hsort : rs0.Pairwise (fun a b => a.When ≤ b.When))
    {k : Nat} (hk : k < 8) (hn : now k = true) (h : Inv p0 rs0 (rst now k) s C) : ∃ C', Inv p0 rs0 (rst now (k + 1)) (oneS s k) C' ∧ Later (oneS s k) := by
  apply Inv.raise hok hsort s.raises_ s.pending_ C
  have hrest : ∀ x, rst now k x = true → x = k ∨ rst now (k + 1) x = true := by
    intro x hx
    simp only [rst, Bool.and_eq_true, decide_eq_true_eq] at hx ⊢
    by_cases hxk : x = k
    · exact .inl hxk
    · exact .inr ⟨hx.1, by omega⟩
  refine ⟨h.all, fun q hq => ?_, fun x hx => ?_, fun x hx => ?_⟩
  · obtain ⟨h1, h2⟩ := h.live q hq
    have hqo := hok q (by rw [h.all]; simp [hq])
    have hqs := hqo.1
    unfold okS at hqs
    have hd : (s.ran_ ++ [(k : Int)]).drop q.When.toNat = s.ran_.drop q.When.toNat ++ [(k : Int)] := by
      rw [List.drop_append_of_le_length (by omega)]
    refine ⟨by simp <;> omega, ?_⟩
    show q.Soft ∈ (s.ran_ ++ [(k : Int)]).drop q.When.toNat ∨ _
    rw [hd]
    rcases h2 with h2 | h2 | h2
    · exact .inl (by simp [h2])
    · exact .inr (.inl h2)
    · rcases hrest _ h2 with h3 | h3
      · exact .inl (by have : q.Soft = (k : Int) := by omega
                       simp [this])
      · exact .inr (.inr h3)
  · have hxo := hp0 x hx
    unfold okS at hxo
    show x ∈ s.ran_ ++ [(k : Int)] ∨ _
    rcases h.pend x hx with h2 | h2 | h2
    · exact .inl (by simp [h2])
    · exact .inr (.inl h2)
    · rcases hrest _ h2 with h3 | h3
      · exact .inl (by have : x = (k : Int) := by omega
                       simp [this])
      · exact .inr (.inr h3)
  · have hc := h.cnt x hx
    show (s.ran_ ++ [(k : Int)]).count (x : Int) + _ + _ ≤ _
    rw [List.count_append]
    by_cases hxk : x = k
    · subst hxk
      have e1 : rst now x x = true := by simp [rst, hn]
      have e2 : rst now (x + 1) x = false := by simp [rst]
      rw [e1] at hc
      rw [e2]
      simp at hc ⊢
      omega
    · have e1 : [(k : Int)].count (x : Int) = 0 := by
        rw [List.count_singleton]
        have : ((k : Int) == (x : Int)) = false := by simp <;> omega
        simp [this]
      have e2 : rst now (k + 1) x = rst now k x := by
        simp only [rst]
        congr 1 <;> simp
        omega
      rw [e1, e2]
      exact hc

theorem Inv.skip {p0 : List Int} {rs0 : Rs} {now : Pd} {s : St} {C : Rs} {k : Nat} (hn : now k = false) (h : Inv p0 rs0 (rst now k) s C) : Inv p0 rs0 (rst now (k + 1)) s C := by
  have e : rst now (k + 1) = rst now k := by
    funext x
    simp only [rst]
    by_cases hxk : x = k
    · subst hxk; simp [hn]
    · congr 1; simp <;> omega
  rw [e]; exact h

theorem Inv.roundF {p0 : List Int} {rs0 : Rs} {now : Pd} (hok : ∀ r ∈ rs0, okS r.Soft ∧ 0 ≤ r.When ∧ r.When ≤ 400) (hp0 : ∀ x ∈ p0, okS x) (hsort : rs0.Pairwise (fun a b => a.When ≤ b.When)) :
    ∀ j k (s : St) (C : Rs), k + j = 8 → Inv p0 rs0 (rst now k) s C → Later s → ∃ C', Inv p0 rs0 (rst now 8) (roundF now s k j) C' ∧ Later (roundF now s k j) := by
  intro j
  induction j with
  | zero =>
    intro k s C hk h hl
    obtain rfl : k = 8 := by omega
    exact ⟨C, h, hl⟩
  | succ j ih =>
    intro k s C hk h hl
    unfold Go.Proofs.Ytcbknmjbhjbifaa.roundF
    cases hn : now k with
    | true =>
      obtain ⟨C', h', hl'⟩ := Inv.one hok hp0 hsort (by omega) hn h
      exact ih (k + 1) (oneS s k) C' (by omega) h' hl'
    | false => exact ih (k + 1) s C (by omega) (h.skip hn) hl

theorem Inv.roundS {p0 : List Int} {rs0 : Rs} (hok : ∀ r ∈ rs0, okS r.Soft ∧ 0 ≤ r.When ∧ r.When ≤ 400) (hp0 : ∀ x ∈ p0, okS x) (hsort : rs0.Pairwise (fun a b => a.When ≤ b.When))
    {s : St} {C : Rs} (h : Inv p0 rs0 (fun _ => false) s C) (hl : Later s) : ∃ C', Inv p0 rs0 (fun _ => false) (roundS s) C' ∧ Later (roundS s) := by
  have e : rst s.pending_ 0 = s.pending_ := by funext x; simp [rst]
  have h0 : Inv p0 rs0 (rst s.pending_ 0) ⟨fun _ => false, s.raises_, s.ran_⟩ C := by
    rw [e]
    refine ⟨h.all, fun q hq => ?_, fun x hx => ?_, fun x hx => ?_⟩
    · obtain ⟨h1, h2⟩ := h.live q hq
      refine ⟨h1, ?_⟩
      rcases h2 with h2 | h2 | h2
      · exact .inl h2
      · exact .inr (.inr h2)
      · cases h2
    · rcases h.pend x hx with h2 | h2 | h2
      · exact .inl h2
      · exact .inr (.inr h2)
      · cases h2
    · have := h.cnt x hx
      simp only [Bool.false_eq_true, if_false] at this ⊢
      omega
  obtain ⟨C', h', hl'⟩ := Inv.roundF hok hp0 hsort 8 0 _ C rfl h0 hl
  refine ⟨C', ⟨h'.all, fun q hq => ?_, fun x hx => ?_, fun x hx => ?_⟩, hl'⟩
  · obtain ⟨h1, h2⟩ := h'.live q hq
    have hqo := (hok q (by rw [h'.all]; simp [hq])).1
    unfold okS at hqo
    refine ⟨h1, ?_⟩
    rcases h2 with h2 | h2 | h2
    · exact .inl h2
    · exact .inr (.inl h2)
    · simp only [rst, Bool.and_eq_true, decide_eq_true_eq] at h2; omega
  · have hxo := hp0 x hx
    unfold okS at hxo
    rcases h'.pend x hx with h2 | h2 | h2
    · exact .inl h2
    · exact .inr (.inl h2)
    · simp only [rst, Bool.and_eq_true, decide_eq_true_eq] at h2; omega
  · have := h'.cnt x hx
    simp only [Bool.false_eq_true, if_false]
    unfold Go.Proofs.Ytcbknmjbhjbifaa.roundS
    omega

theorem Inv.runF {p0 : List Int} {rs0 : Rs} (hok : ∀ r ∈ rs0, okS r.Soft ∧ 0 ≤ r.When ∧ r.When ≤ 400) (hp0 : ∀ x ∈ p0, okS x) (hsort : rs0.Pairwise (fun a b => a.When ≤ b.When)) (a : Int) :
    ∀ n x y (s : St) (C : Rs), meas s ≤ n → Inv p0 rs0 (fun _ => false) s C → Later s → ∃ (t : St) (C' : Rs), (runF a n x y s).1 = t.ran_ ∧ Inv p0 rs0 (fun _ => false) t C' ∧ Later t ∧ ∀ k, k < 8 → t.pending_ k = false := by
  have stop : ∀ (s : St), someP s.pending_ = false → ∀ k, k < 8 → s.pending_ k = false := by
    intro s hs k hk
    cases hp : s.pending_ k with
    | false => rfl
    | true => have := (someP_iff s.pending_).2 ⟨k, hk, hp⟩; rw [hs] at this; cases this
  intro n
  induction n with
  | zero =>
    intro x y s C hm h hl
    refine ⟨s, C, rfl, h, hl, stop s ?_⟩
    cases hs : someP s.pending_ with
    | false => rfl
    | true => have := meas_round hs; omega
  | succ n ih =>
    intro x y s C hm h hl
    cases hs : someP s.pending_ with
    | true =>
      obtain ⟨C', h', hl'⟩ := h.roundS hok hp0 hsort hl
      have hm' := meas_round hs
      have := ih (if y < a then ((Go.Proofs.Ytcbknmjbhjbifaa.roundS s).ran_.length : Int) else x) (y + 1) (Go.Proofs.Ytcbknmjbhjbifaa.roundS s) C' (by omega) h' hl'
      unfold Go.Proofs.Ytcbknmjbhjbifaa.runF
      rw [if_pos hs]
      exact this
    | false =>
      have hs' : ¬ someP s.pending_ = true := by rw [hs]; simp
      unfold Go.Proofs.Ytcbknmjbhjbifaa.runF
      rw [if_neg hs']
      exact ⟨s, C, rfl, h, hl, stop s hs⟩

theorem pendF_true : ∀ (p : List Int) (f : Pd) (k : Nat), f k = true → pendF f p k = true
  | [], f, k, h => h
  | x :: p, f, k, h => pendF_true p _ k (upd_mono _ _ _ h)
theorem pendF_mem : ∀ (p : List Int) (f : Pd) (x : Int), x ∈ p → pendF f p x.toNat = true
  | y :: p, f, x, h => by
    rcases List.mem_cons.1 h with rfl | h
    · exact pendF_true p _ _ (upd_same _ _ _)
    · exact pendF_mem p _ x h
theorem pendF_only : ∀ (p : List Int) (f : Pd) (k : Nat), (∀ x ∈ p, okS x) → pendF f p k = true → f k = true ∨ (k : Int) ∈ p
  | [], f, k, _, h => .inl h
  | y :: p, f, k, hp, h => by
    rcases pendF_only p _ k (fun x hx => hp x (by simp [hx])) h with h | h
    · by_cases hk : k = y.toNat
      · have := hp y (by simp)
        unfold okS at this
        have : (k : Int) = y := by omega
        exact .inr (by simp [this])
      · rw [upd_other _ _ hk] at h; exact .inl h
    · exact .inr (by simp [h])

theorem start_inv (p : List Int) (rs : Rs) (h : RightP p rs) : ∃ C, Inv p rs (fun _ => false) (start p rs) C ∧ Later (start p rs) := by
  apply Inv.raise h.ok h.sorted rs _ []
  refine ⟨rfl, fun q hq => (by cases hq), fun x hx => .inr (.inl (pendF_mem p _ x hx)), fun x hx => ?_⟩
  simp only [List.count_nil, Bool.false_eq_true, if_false, List.countP_nil]
  by_cases hp : pendF (fun _ => false) p x = true
  · rcases pendF_only p _ x h.pend hp with hh | hh
    · cases hh
    · simp only [hh, if_true]; split <;> omega
  · simp [hp]

/-- What is known of a run that ends. -/
structure Fin (p : List Int) (rs : Rs) (l : List Int) : Prop where
  pend : ∀ x ∈ p, x ∈ l
  live : ∀ r ∈ rs, r.When ≤ (l.length : Int) → r.Soft ∈ l.drop r.When.toNat
  cnt : ∀ x : Nat, x < 8 → l.count (x : Int) ≤ (if (x : Int) ∈ p then 1 else 0) + rs.countP (fun r => r.Soft == (x : Int) && decide (r.When ≤ (l.length : Int)))
theorem fin_of (p : List Int) (rs : Rs) (h : RightP p rs) (a : Int) : Fin p rs (runF a 1000 0 0 (start p rs)).1 := by
  obtain ⟨C, hi, hl⟩ := start_inv p rs h
  obtain ⟨m1, m2, m3⟩ := start_meas p rs h
  obtain ⟨t, D, e, ht, hlt, hz⟩ := Inv.runF h.ok h.pend h.sorted a 1000 0 0 (start p rs) C (by omega) hi hl
  rw [e]
  have hzz : ∀ x : Int, okS x → t.pending_ x.toNat = false := fun x hx => hz _ (by unfold okS at hx; omega)
  refine ⟨fun x hx => ?_, fun r hr hw => ?_, fun x hx => ?_⟩
  · rcases ht.pend x hx with h2 | h2 | h2
    · exact h2
    · rw [hzz x (h.pend x hx)] at h2; cases h2
    · cases h2
  · have hr' := hr
    rw [ht.all] at hr'
    rcases List.mem_append.1 hr' with hr' | hr'
    · rcases (ht.live r hr').2 with h2 | h2 | h2
      · exact h2
      · rw [hzz r.Soft (h.ok r hr).1] at h2; cases h2
      · cases h2
    · have := hlt r hr'; omega
  · have hc := ht.cnt x hx
    rw [hz x hx] at hc
    simp only [Bool.false_eq_true, if_false] at hc
    have hcc : D.countP (fun r => r.Soft == (x : Int)) ≤ rs.countP (fun r => r.Soft == (x : Int) && decide (r.When ≤ (t.ran_.length : Int))) := by
      rw [ht.all, List.countP_append]
      refine Nat.le_trans (Nat.le_of_eq ?_) (Nat.le_add_right _ _)
      apply List.countP_congr
      intro r hr
      have := (ht.live r hr).1
      simp [this]
    omega

def hit (l : List Int) (k9 : Nat) (r : Api_Raise) : Bool := r.Soft == (k9 : Int) && decide (r.When ≤ (l.length : Int))
theorem all_l2_eq (a1 : Rs) (r4 : List Int × Int × Int) (k9 : Nat) (K : Int → Nat → Option Bool) (ha : a1.length ≤ 400) (hl : r4.1.length ≤ 408) (hok : ∀ r ∈ a1, 0 ≤ r.When)
    (hlive : ∀ r ∈ a1, r.When ≤ (r4.1.length : Int) → r.Soft ∈ r4.1.drop r.When.toNat) : ∀ n k (x : Int), k ≤ a1.length → a1.length - k < n → 0 ≤ x → x ≤ 1000 + k →
    keep_SoftAll_l2 a1 r4 k9 K n x k = K (x + ((a1.drop k).countP (hit r4.1 k9) : Nat)) a1.length := by
  intro n
  induction n with
  | zero => intro k x h1 h2; omega
  | succ n ih =>
    intro k x h1 h2 hx hx2
    unfold keep_SoftAll_l2
    rcases Nat.lt_or_ge k a1.length with hlt | hge
    · rw [dec_lt hlt, cond_true, List.drop_eq_getElem_cons hlt, getD_lt _ _ hlt, List.countP_cons]
      have hm := List.getElem_mem hlt
      generalize a1[k] = r at *
      change (bif hit r4.1 k9 r then _ else _) = _
      cases hh : hit r4.1 k9 r with
      | true =>
        have hh' := hh
        simp only [hit, Bool.and_eq_true, beq_iff_eq, decide_eq_true_eq] at hh'
        have hlv := hlive r hm hh'.2
        have h0 := hok r hm
        rw [cond_true, if_pos (fun _ => h0), if_pos (fun hc => by omega)]
        have hcc : ∀ c : Bool, ((bif c then slices_Contains_int ((r4.1.drop (0 + r.When.toNat)).take (r4.1.length - r.When.toNat)) ((k9 : Nat) : Int) else some false).bind fun r37 => bif c && (!r37) then some false else keep_SoftAll_l2 a1 r4 k9 K n (IntKind.i64.wrap (x + 1)) (k + 1)) = keep_SoftAll_l2 a1 r4 k9 K n (x + 1) (k + 1) := by
          intro c
          rw [wrap_id (by omega) (by omega)]
          cases c with
          | false => rfl
          | true =>
            rw [cond_true, slices_Contains_int_eq _ _ (by rw [List.length_take, List.length_drop]; omega), Option.bind_some]
            have : decide (((k9 : Nat) : Int) ∈ ((r4.1.drop (0 + r.When.toNat)).take (r4.1.length - r.When.toNat))) = true := by
              rw [decide_eq_true_eq, Nat.zero_add, List.take_of_length_le (by rw [List.length_drop]; omega), ← hh'.1]
              exact hlv
            rw [this]; rfl
        rw [hcc, ih (k + 1) _ (by omega) (by omega) (by omega) (by omega)]
        congr 1 <;> first | (simp <;> omega) | omega
      | false =>
        rw [cond_false, ih (k + 1) _ (by omega) (by omega) (by omega) (by omega)]
        congr 1 <;> simp
    · rw [dec_ge hge, cond_false]
      have : k = a1.length := by omega
      rw [List.drop_of_length_le hge, this]
      simp

theorem all_l3_eq (r4 : List Int × Int × Int) (k9 : Nat) (x17 : Int) (K : Int → Nat → Option Bool) (hl : r4.1.length ≤ 408) : ∀ n k (x : Int), k ≤ r4.1.length → r4.1.length - k < n → -1000 - k ≤ x → x ≤ 10000 →
    keep_SoftAll_l3 r4 k9 x17 K n x k = K (x - ((r4.1.drop k).count (k9 : Int) : Nat)) r4.1.length := by
  intro n
  induction n with
  | zero => intro k x h1 h2; omega
  | succ n ih =>
    intro k x h1 h2 hx hx2
    unfold keep_SoftAll_l3
    rcases Nat.lt_or_ge k r4.1.length with hlt | hge
    · rw [dec_lt hlt, cond_true, List.drop_eq_getElem_cons hlt, Nat.zero_add, getD_lt _ _ hlt, List.count_cons]
      generalize r4.1[k] = y
      cases hh : (y == (k9 : Int)) with
      | true =>
        rw [cond_true, wrap_id (by omega) (by omega), ih (k + 1) _ (by omega) (by omega) (by omega) (by omega)]
        congr 1 <;> first | (simp <;> omega) | omega
      | false =>
        rw [cond_false, ih (k + 1) _ (by omega) (by omega) (by omega) (by omega)]
        congr 1 <;> simp
    · rw [dec_ge hge, cond_false]
      have : k = r4.1.length := by omega
      rw [List.drop_of_length_le hge, this]
      simp
theorem all_l4_eq (a1 : Rs) (r4 : List Int × Int × Int) (k9 : Nat) (K : Int → Nat → Option Bool) (ha : a1.length ≤ 400) (hl : r4.1.length ≤ 408) (hok : ∀ r ∈ a1, 0 ≤ r.When)
    (hlive : ∀ r ∈ a1, r.When ≤ (r4.1.length : Int) → r.Soft ∈ r4.1.drop r.When.toNat) : ∀ n k (x : Int), k ≤ a1.length → a1.length - k < n → 0 ≤ x → x ≤ 1000 + k →
    keep_SoftAll_l4 a1 r4 k9 K n x k = K (x + ((a1.drop k).countP (hit r4.1 k9) : Nat)) a1.length := by
  intro n
  induction n with
  | zero => intro k x h1 h2; omega
  | succ n ih =>
    intro k x h1 h2 hx hx2
    unfold keep_SoftAll_l4
    rcases Nat.lt_or_ge k a1.length with hlt | hge
    · rw [dec_lt hlt, cond_true, List.drop_eq_getElem_cons hlt, getD_lt _ _ hlt, List.countP_cons]
      have hm := List.getElem_mem hlt
      generalize a1[k] = r at *
      change (bif hit r4.1 k9 r then _ else _) = _
      cases hh : hit r4.1 k9 r with
      | true =>
        have hh' := hh
        simp only [hit, Bool.and_eq_true, beq_iff_eq, decide_eq_true_eq] at hh'
        have hlv := hlive r hm hh'.2
        have h0 := hok r hm
        rw [cond_true, if_pos (fun _ => h0), if_pos (fun hc => by omega)]
        have hcc : ∀ c : Bool, ((bif c then slices_Contains_int ((r4.1.drop (0 + r.When.toNat)).take (r4.1.length - r.When.toNat)) ((k9 : Nat) : Int) else some false).bind fun r37 => bif c && (!r37) then some false else keep_SoftAll_l4 a1 r4 k9 K n (IntKind.i64.wrap (x + 1)) (k + 1)) = keep_SoftAll_l4 a1 r4 k9 K n (x + 1) (k + 1) := by
          intro c
          rw [wrap_id (by omega) (by omega)]
          cases c with
          | false => rfl
          | true =>
            rw [cond_true, slices_Contains_int_eq _ _ (by rw [List.length_take, List.length_drop]; omega), Option.bind_some]
            have : decide (((k9 : Nat) : Int) ∈ ((r4.1.drop (0 + r.When.toNat)).take (r4.1.length - r.When.toNat))) = true := by
              rw [decide_eq_true_eq, Nat.zero_add, List.take_of_length_le (by rw [List.length_drop]; omega), ← hh'.1]
              exact hlv
            rw [this]; rfl
        rw [hcc, ih (k + 1) _ (by omega) (by omega) (by omega) (by omega)]
        congr 1 <;> first | (simp <;> omega) | omega
      | false =>
        rw [cond_false, ih (k + 1) _ (by omega) (by omega) (by omega) (by omega)]
        congr 1 <;> simp
    · rw [dec_ge hge, cond_false]
      have : k = a1.length := by omega
      rw [List.drop_of_length_le hge, this]
      simp

theorem all_l5_eq (r4 : List Int × Int × Int) (k9 : Nat) (x48 : Int) (K : Int → Nat → Option Bool) (hl : r4.1.length ≤ 408) : ∀ n k (x : Int), k ≤ r4.1.length → r4.1.length - k < n → -1000 - k ≤ x → x ≤ 10000 →
    keep_SoftAll_l5 r4 k9 x48 K n x k = K (x - ((r4.1.drop k).count (k9 : Int) : Nat)) r4.1.length := by
  intro n
  induction n with
  | zero => intro k x h1 h2; omega
  | succ n ih =>
    intro k x h1 h2 hx hx2
    unfold keep_SoftAll_l5
    rcases Nat.lt_or_ge k r4.1.length with hlt | hge
    · rw [dec_lt hlt, cond_true, List.drop_eq_getElem_cons hlt, Nat.zero_add, getD_lt _ _ hlt, List.count_cons]
      generalize r4.1[k] = y
      cases hh : (y == (k9 : Int)) with
      | true =>
        rw [cond_true, wrap_id (by omega) (by omega), ih (k + 1) _ (by omega) (by omega) (by omega) (by omega)]
        congr 1 <;> first | (simp <;> omega) | omega
      | false =>
        rw [cond_false, ih (k + 1) _ (by omega) (by omega) (by omega) (by omega)]
        congr 1 <;> simp
    · rw [dec_ge hge, cond_false]
      have : k = r4.1.length := by omega
      rw [List.drop_of_length_le hge, this]
      simp

theorem all_l1_eq (a0 : List Int) (a1 : Rs) (r4 : List Int × Int × Int) (hR : RightP a0 a1) (ha0 : a0.length ≤ 140737488355328) (hl : r4.1.length ≤ 408) (hF : Fin a0 a1 r4.1) (h4 : 0 ≤ r4.2.1 ∧ r4.2.1 ≤ (r4.1.length : Int)) :
    ∀ j n k, k + j = 8 → j < n → keep_SoftAll_l1 a0 a1 r4 n k = some true := by
  have ha1 := hR.len
  have hok : ∀ r ∈ a1, 0 ≤ r.When := fun r hr => (hR.ok r hr).2.1
  intro j
  induction j with
  | zero =>
    intro n k hk hn
    obtain rfl : k = 8 := by omega
    obtain _ | n := n
    · omega
    · unfold keep_SoftAll_l1
      have : decide ((((8 : Nat) : Int) : Int) < 8) = false := by decide
      rw [this, cond_false]
      simp [h4]
  | succ j ih =>
    intro n k hk hn
    obtain _ | n := n
    · omega
    · unfold keep_SoftAll_l1
      have : decide ((((k : Nat) : Int) : Int) < 8) = true := by simp <;> omega
      rw [this, cond_true, slices_Contains_int_eq _ _ ha0, Option.bind_some]
      have hc := hF.cnt k (by omega)
      have e8 : a1.countP (fun r => r.Soft == (k : Int) && decide (r.When ≤ (r4.1.length : Int))) = a1.countP (hit r4.1 k) := rfl
      rw [e8] at hc
      have hle : a1.countP (hit r4.1 k) ≤ a1.length := List.countP_le_length
      have hle2 : r4.1.count (k : Int) ≤ r4.1.length := List.count_le_length
      by_cases hp : (k : Int) ∈ a0
      · have hd : decide ((k : Int) ∈ a0) = true := by simpa using hp
        have hd2 : decide ((k : Int) ∈ r4.1) = true := by simpa using hF.pend _ hp
        rw [hd, cond_true, slices_Contains_int_eq _ _ (by omega), Option.bind_some, hd2, Bool.not_true, cond_false]
        rw [wrap_id (by omega) (by omega), all_l2_eq a1 r4 k _ ha1 hl hok hF.live FUEL 0 _ (by omega) (fuel_gt (by omega)) (by omega) (by omega), List.drop_zero, all_l3_eq r4 k _ _ hl FUEL 0 _ (by omega) (fuel_gt (by omega)) (by omega) (by omega), List.drop_zero]
        rw [if_pos hp] at hc
        have : decide (0 + 1 + ((a1.countP (hit r4.1 k) : Nat) : Int) - ((r4.1.count (k : Int) : Nat) : Int) < 0) = false := by simp <;> omega
        rw [this, cond_false]
        exact ih n (k + 1) (by omega) (by omega)
      · have hd : decide ((k : Int) ∈ a0) = false := by simpa using hp
        rw [hd, cond_false]
        rw [all_l4_eq a1 r4 k _ ha1 hl hok hF.live FUEL 0 _ (by omega) (fuel_gt (by omega)) (by omega) (by omega), List.drop_zero, all_l5_eq r4 k _ _ hl FUEL 0 _ (by omega) (fuel_gt (by omega)) (by omega) (by omega), List.drop_zero]
        rw [if_neg hp] at hc
        have : decide (0 + ((a1.countP (hit r4.1 k) : Nat) : Int) - ((r4.1.count (k : Int) : Nat) : Int) < 0) = false := by simp <;> omega
        rw [this, cond_false]
        exact ih n (k + 1) (by omega) (by omega)

theorem SoftAll_true (a0 : List Int) (a1 : Rs) (a2 : Int) (h0 : a0.length * 8 ≤ 140737488351232 ∧ ∀ y ∈ a0, (-9223372036854775808 ≤ y ∧ y ≤ 9223372036854775807)) (h1 : a1.length * 16 ≤ 140737488351232 ∧ ∀ y ∈ a1, Ok_Api_Raise y) (h2 : -9223372036854775808 ≤ a2 ∧ a2 ≤ 9223372036854775807) : keep_SoftAll a0 a1 a2 = some true := by
  unfold keep_SoftAll
  have l0 := h0.1
  have l1 := h1.1
  rw [alive10_eq, Option.bind_some, Bool.not_true, cond_false]
  rcases Run_eq a0 a1 a2 (by omega) (by omega) with ⟨e, he, hr⟩ | ⟨hR, _, _, hr⟩ <;> rw [hr, Option.bind_some]
  · have he' : ((e : Int) != 0) = true := by simpa using he
    rw [he', cond_true]; rfl
  · have hge := runF_snd_ge a2 1000 0 0 (start a0 a1) (by omega)
    have hle := runF_snd_le a2 1000 0 0 (start a0 a1) (by omega)
    exact all_l1_eq a0 a1 _ hR (by omega) (run_len a2 a0 a1 hR) (fin_of a0 a1 hR a2) ⟨hge, hle⟩ 8 FUEL 0 rfl (by unfold FUEL; omega)

end Go.Proofs.Ytcbknmjbhjbifaa
