/- Plain law of soft: quiet. -/
import Derived.Test.YtdfgmloipigmfaaQVQM
import Derived.Test.YtdfgmloipigmfaaPLib
import Derived.Test.YtdfgmloipigmfaaQVQK
set_option linter.unusedSimpArgs false
set_option linter.unusedVariables false
namespace Go.Proofs.Ytdfgmloipigmfaa
open Go Go.Ab

theorem alive10_eq : keep_alive10 = some true := by decide +kernel

abbrev Rs := List Api_Raise
def okS (n : Int) : Prop := 0 ≤ n ∧ n < 8

theorem right_l2_eq (rs : Rs) (hn : rs.length ≤ 140737488355328) : ∀ n k, k ≤ rs.length → rs.length - k < n →
    ∃ b, soft_Right_l2 rs n k = some b ∧ (b = true → rs.length ≤ 400 ∧ ∀ i (hi : i < rs.length), k ≤ i → okS rs[i].Soft ∧ 0 ≤ rs[i].When ∧ rs[i].When ≤ 400 ∧ (0 < i → (rs[i-1]'(by omega)).When ≤ rs[i].When)) := by
  intro n
  induction n with
  | zero => intro k h1 h2; omega
  | succ n ih =>
    intro k h1 h2
    unfold soft_Right_l2
    rcases Nat.lt_or_ge k rs.length with hlt | hge
    · rw [dec_lt hlt, cond_true]
      have hw : IntKind.i64.wrap ((k : Int) - 1) = (k : Int) - 1 := wrap_id (by omega) (by omega)
      have ht : ((k : Int) - 1).toNat = k - 1 := by omega
      simp only [soft_Right_1, Option.bind_some, getD_lt _ _ hlt, hw, ht, getD_lt _ _ (show k - 1 < rs.length by omega)]
      rw [if_pos (by
        intro hc
        simp only [Bool.and_eq_true, decide_eq_true_eq] at hc
        omega)]
      obtain ⟨b, hb, hb2⟩ := ih (k + 1) (by omega) (by omega)
      generalize hc : (!(decide (rs[k].Soft ≥ 0) && decide (rs[k].Soft < 8)) || decide (rs[k].When < 0) || decide (rs[k].When > 400) || decide ((k : Int) > 0) && decide (rs[k].When < rs[k-1].When)) = c
      cases c with
      | true => exact ⟨false, rfl, fun h => by cases h⟩
      | false =>
        refine ⟨b, hb, fun h => ⟨(hb2 h).1, fun i hi hk => ?_⟩⟩
        by_cases hik : i = k
        · subst hik
          simp only [Bool.or_eq_false_iff, Bool.and_eq_false_iff, Bool.not_eq_false', Bool.and_eq_true, decide_eq_true_eq, decide_eq_false_iff_not] at hc
          unfold okS
          omega
        · exact (hb2 h).2 i hi (by omega)
    · rw [dec_ge hge, cond_false]
      refine ⟨_, rfl, fun h => ⟨?_, fun i hi hk => by omega⟩⟩
      have := of_decide_eq_true h
      omega

theorem right_l1_eq (p : List Int) (rs : Rs) (hn : rs.length ≤ 140737488355328) : ∀ n k, k ≤ p.length → p.length - k < n →
    ∃ b, soft_Right_l1 p rs n k = some b ∧ (b = true → (∀ x ∈ p.drop k, okS x) ∧ rs.length ≤ 400 ∧ ∀ i (hi : i < rs.length), okS rs[i].Soft ∧ 0 ≤ rs[i].When ∧ rs[i].When ≤ 400 ∧ (0 < i → (rs[i-1]'(by omega)).When ≤ rs[i].When)) := by
  intro n
  induction n with
  | zero => intro k h1 h2; omega
  | succ n ih =>
    intro k h1 h2
    unfold soft_Right_l1
    rcases Nat.lt_or_ge k p.length with hlt | hge
    · rw [dec_lt hlt, cond_true, getD_lt _ _ hlt]
      simp only [soft_Right_1, Option.bind_some]
      obtain ⟨b, hb, hb2⟩ := ih (k + 1) (by omega) (by omega)
      cases hc : (decide (p[k] ≥ 0) && decide (p[k] < 8)) with
      | false => exact ⟨false, rfl, fun h => by cases h⟩
      | true =>
        refine ⟨b, hb, fun h => ⟨fun x hx => ?_, (hb2 h).2⟩⟩
        rw [List.drop_eq_getElem_cons hlt] at hx
        rcases List.mem_cons.1 hx with rfl | hx
        · simpa [okS] using hc
        · exact (hb2 h).1 x hx
    · rw [dec_ge hge, cond_false]
      obtain ⟨b, hb, hb2⟩ := right_l2_eq rs hn FUEL 0 (by omega) (fuel_gt (by omega))
      refine ⟨b, hb, fun h => ⟨fun x hx => ?_, (hb2 h).1, fun i hi => (hb2 h).2 i hi (by omega)⟩⟩
      rw [List.drop_of_length_le hge] at hx
      cases hx

theorem sorted_adj : ∀ (rs : Rs), (∀ i (hi : i < rs.length), 0 < i → (rs[i-1]'(by omega)).When ≤ rs[i].When) → rs.Pairwise (fun a b => a.When ≤ b.When)
  | [], _ => List.Pairwise.nil
  | [a], _ => by simp
  | a :: b :: l, h => by
    have ih := sorted_adj (b :: l) (fun i hi h0 => by
      have := h (i + 1) (by simpa using hi) (by omega)
      obtain _ | i := i
      · omega
      · simpa using this)
    refine List.Pairwise.cons ?_ ih
    have hab : a.When ≤ b.When := h 1 (by simp) (by omega)
    intro c hc
    rcases List.mem_cons.1 hc with rfl | hc
    · exact hab
    · have := (List.pairwise_cons.1 ih).1 c hc
      omega

structure RightP (p : List Int) (rs : Rs) : Prop where
  pend : ∀ x ∈ p, okS x
  len : rs.length ≤ 400
  ok : ∀ r ∈ rs, okS r.Soft ∧ 0 ≤ r.When ∧ r.When ≤ 400
  sorted : rs.Pairwise (fun a b => a.When ≤ b.When)

theorem right_eq (p : List Int) (rs : Rs) (hp : p.length ≤ 140737488355328) (hn : rs.length ≤ 140737488355328) : ∃ b, soft_Right p rs = some b ∧ (b = true → RightP p rs) := by
  obtain ⟨b, hb, h⟩ := right_l1_eq p rs hn FUEL 0 (by omega) (fuel_gt (by omega))
  refine ⟨b, hb, fun hbt => ?_⟩
  obtain ⟨h1, h2, h3⟩ := h hbt
  refine ⟨by simpa using h1, h2, fun r hr => ?_, sorted_adj rs fun i hi => (h3 i hi).2.2.2⟩
  obtain ⟨i, hi, rfl⟩ := List.getElem_of_mem hr
  exact ⟨(h3 i hi).1, (h3 i hi).2.1, (h3 i hi).2.2.1⟩

abbrev Pd := Nat → Bool
def raiseF (m : Nat) : Pd → Rs → Pd × Rs
  | f, [] => (f, [])
  | f, r :: l => if r.When ≤ (m : Int) then raiseF m (upd f r.Soft.toNat true) l else (f, r :: l)

theorem raise_l1_eq (a0 : Soft_runner) : ∀ n (f : Pd) (l : Rs), l.length < n → (∀ r ∈ l, okS r.Soft) →
    soft_runner_raise_roro_l1 a0 n f l = some ⟨(raiseF a0.ran_.length f l).1, (raiseF a0.ran_.length f l).2, a0.ran_⟩ := by
  intro n
  induction n with
  | zero => intro f l h; omega
  | succ n ih =>
    intro f l hl hok
    unfold soft_runner_raise_roro_l1
    cases l with
    | nil => simp [raiseF]
    | cons r l =>
      have hr := hok r (by simp)
      unfold okS at hr
      have e0 : ((r :: l).getD 0 (⟨0, 0⟩ : Api_Raise)) = r := rfl
      have hlen : (r :: l).length = l.length + 1 := rfl
      have e1 : ((r :: l).drop 1).take ((r :: l).length - 1) = l := by simp
      rw [e0, e1, if_pos (fun _ => by omega)]
      have d0 : decide ((((r :: l).length : Nat) : Int) > 0) = true := by rw [decide_eq_true_eq, hlen]; omega
      rw [d0, Bool.true_and]
      by_cases hw : r.When ≤ (a0.ran_.length : Int)
      · have d1 : decide (r.When ≤ ((a0.ran_.length : Nat) : Int)) = true := by simpa using hw
        rw [d1, cond_true, if_pos (by omega), if_pos (by omega), if_pos (by omega), ih _ _ (by omega) (fun x hx => hok x (by simp [hx]))]
        simp [raiseF, hw]
      · have d1 : decide (r.When ≤ ((a0.ran_.length : Nat) : Int)) = false := by simpa using hw
        rw [d1, cond_false]
        simp [raiseF, hw]

/-- The state: what is pending, what comes, what ran. -/
abbrev St := Soft_runner
def raiseS (s : St) : St := ⟨(raiseF s.ran_.length s.pending_ s.raises_).1, (raiseF s.ran_.length s.pending_ s.raises_).2, s.ran_⟩
theorem raise_eq (s : St) (hl : s.raises_.length ≤ 400) (hok : ∀ r ∈ s.raises_, okS r.Soft) : soft_runner_raise_roro s = some (raiseS s) := by
  unfold soft_runner_raise_roro
  rw [raise_l1_eq s FUEL _ _ (fuel_gt (by omega)) hok]
  rfl

/-- One that is run. -/
def oneS (s : St) (k : Nat) : St := raiseS ⟨s.pending_, s.raises_, s.ran_ ++ [(k : Int)]⟩
def roundF (now : Pd) (s : St) : Nat → Nat → St
  | k, 0 => s
  | k, j + 1 => roundF now (if now k then oneS s k else s) (k + 1) j
def roundS (s : St) : St := roundF s.pending_ ⟨fun _ => false, s.raises_, s.ran_⟩ 0 8

def Wf (s : St) : Prop := s.raises_.length ≤ 400 ∧ ∀ r ∈ s.raises_, okS r.Soft
theorem raiseF_suffix (m : Nat) : ∀ (f : Pd) (l : Rs), (raiseF m f l).2 <:+ l
  | f, [] => List.suffix_refl _
  | f, r :: l => by
    unfold raiseF
    split
    · exact (raiseF_suffix m _ l).trans (List.suffix_cons r l)
    · exact List.suffix_refl _
theorem Wf.suffix {s : St} (h : Wf s) {f : Pd} {l : Rs} {R : List Int} (hl : l <:+ s.raises_) : Wf ⟨f, l, R⟩ :=
  ⟨Nat.le_trans hl.length_le h.1, fun r hr => h.2 r (hl.subset hr)⟩
theorem Wf.one {s : St} (h : Wf s) (k : Nat) : Wf (oneS s k) := h.suffix (raiseF_suffix _ _ _)

theorem round_l1_eq (a0 : St) : ∀ j n k (s : St), k + j = 8 → j < n → Wf s → (s.ran_.length + j) * 8 ≤ 140737488355328 →
    soft_runner_round_roro_l1 a0 n k s.pending_ s.raises_ s.ran_ = some (roundF a0.pending_ s k j) := by
  intro j
  induction j with
  | zero =>
    intro n k s hk hn hw hb
    obtain rfl : k = 8 := by omega
    obtain _ | n := n
    · omega
    · unfold soft_runner_round_roro_l1
      have : decide ((((8 : Nat) : Int) : Int) < 8) = false := by decide
      rw [this]; rfl
  | succ j ih =>
    intro n k s hk hn hw hb
    obtain _ | n := n
    · omega
    · unfold soft_runner_round_roro_l1
      have : decide ((((k : Nat) : Int) : Int) < 8) = true := by simp <;> omega
      rw [this, cond_true, if_pos (by omega), roundF]
      cases hp : a0.pending_ k with
      | true =>
        rw [cond_true, if_pos (by simp only [List.length_cons, List.length_nil]; omega), if_pos rfl]
        have hw' : Wf ⟨s.pending_, s.raises_, s.ran_ ++ [(k : Int)]⟩ := hw
        rw [raise_eq _ hw'.1 hw'.2, Option.bind_some]
        exact ih n (k + 1) (oneS s k) (by omega) (by omega) (hw.one k) (by simp [oneS, raiseS]; omega)
      | false =>
        rw [cond_false, if_neg (by simp)]
        exact ih n (k + 1) s (by omega) (by omega) hw (by omega)

theorem round_eq (s : St) (h : Wf s) (hb : (s.ran_.length + 8) * 8 ≤ 140737488355328) : soft_runner_round_roro s = some (roundS s) := by
  unfold soft_runner_round_roro
  exact round_l1_eq s 8 FUEL 0 ⟨fun _ => false, s.raises_, s.ran_⟩ rfl (by unfold FUEL; omega) h hb

/-- How many are pending. -/
def cntP (f : Pd) : Nat → Nat → Nat
  | k, 0 => 0
  | k, j + 1 => (if f k then 1 else 0) + cntP f (k + 1) j
def someP (f : Pd) : Bool := decide (true ∈ arrList 8 f)
theorem some_eq (s : St) : soft_runner_some s = some (someP s.pending_) := by
  unfold soft_runner_some
  have : ∀ (l : List Bool) n k, k ≤ l.length → l.length - k < n → l.length ≤ 8 → ∃ x, slices_Index_bool_l1 l true n k = some x ∧ (decide ((x : Int) ≥ 0) = decide (true ∈ l.drop k)) := by
    intro l n
    induction n with
    | zero => intro k h1 h2; omega
    | succ n ih =>
      intro k h1 h2 h3
      unfold slices_Index_bool_l1
      rcases Nat.lt_or_ge k l.length with hlt | hge
      · rw [dec_lt hlt, cond_true, getD_lt _ _ hlt, List.drop_eq_getElem_cons hlt]
        cases hb : l[k] with
        | true => exact ⟨_, rfl, by simp⟩
        | false =>
          obtain ⟨x, hx, h⟩ := ih (k + 1) (by omega) (by omega) h3
          exact ⟨x, hx, by rw [h]; simp⟩
      · rw [dec_ge hge, cond_false, List.drop_of_length_le hge]
        exact ⟨_, rfl, by simp⟩
  unfold slices_Contains_bool slices_Index_bool
  obtain ⟨x, hx, h⟩ := this (arrList 8 s.pending_) FUEL 0 (by omega) (by rw [arrList_length]; unfold FUEL; omega) (by rw [arrList_length]; omega)
  rw [hx, Option.bind_some, h, Option.bind_some]
  rfl
theorem someP_iff (f : Pd) : someP f = true ↔ ∃ k, k < 8 ∧ f k = true := by
  rw [someP, decide_eq_true_eq, arrList, List.mem_map]
  constructor
  · rintro ⟨k, hk, h⟩; exact ⟨k, List.mem_range.1 hk, h⟩
  · rintro ⟨k, hk, h⟩; exact ⟨k, List.mem_range.2 hk, h⟩
theorem cntP_pos (f : Pd) : ∀ j k, (∃ i, k ≤ i ∧ i < k + j ∧ f i = true) → 0 < cntP f k j := by
  intro j
  induction j with
  | zero => intro k ⟨i, h1, h2, _⟩; omega
  | succ j ih =>
    intro k ⟨i, h1, h2, h3⟩
    unfold cntP
    by_cases hik : i = k
    · subst hik; simp [h3]; omega
    · have := ih (k + 1) ⟨i, by omega, by omega, h3⟩; omega
theorem cntP_upd (f : Pd) (i : Nat) : ∀ j k, cntP (upd f i true) k j ≤ cntP f k j + (if k ≤ i then 1 else 0) := by
  intro j
  induction j with
  | zero => intro k; simp [cntP]
  | succ j ih =>
    intro k
    have := ih (k + 1)
    unfold cntP
    by_cases hik : k = i
    · subst hik
      have e : upd f k true k = true := by simp [upd]
      rw [e]
      rw [if_neg (show ¬ k + 1 ≤ k by omega)] at this
      simp only [if_true, Nat.le_refl]
      split <;> omega
    · have e : upd f i true k = f k := by simp [upd, hik]
      rw [e]
      by_cases h : k ≤ i
      · rw [if_pos h]; rw [if_pos (show k + 1 ≤ i by omega)] at this; omega
      · rw [if_neg h]; rw [if_neg (show ¬ k + 1 ≤ i by omega)] at this; omega
theorem raiseF_cnt (m : Nat) : ∀ (l : Rs) (f : Pd), cntP (raiseF m f l).1 0 8 + (raiseF m f l).2.length ≤ cntP f 0 8 + l.length
  | [], f => by simp [raiseF]
  | r :: l, f => by
    unfold raiseF
    split
    · have := raiseF_cnt m l (upd f r.Soft.toNat true)
      have h2 := cntP_upd f r.Soft.toNat 8 0
      simp only [Nat.zero_le, if_true] at h2
      simp only [List.length_cons]; omega
    · simp
theorem roundF_cnt (now : Pd) : ∀ j k (s : St), cntP (roundF now s k j).pending_ 0 8 + (roundF now s k j).raises_.length ≤ cntP s.pending_ 0 8 + s.raises_.length ∧ (roundF now s k j).ran_.length = s.ran_.length + cntP now k j := by
  intro j
  induction j with
  | zero => intro k s; exact ⟨Nat.le_refl _, rfl⟩
  | succ j ih =>
    intro k s
    have ec : cntP now k (j + 1) = (if now k then 1 else 0) + cntP now (k + 1) j := rfl
    rw [ec]
    unfold roundF
    cases now k with
    | true =>
      have := ih (k + 1) (oneS s k)
      have h1 := raiseF_cnt (s.ran_ ++ [(k : Int)]).length s.raises_ s.pending_
      have e2 : (oneS s k).ran_.length = s.ran_.length + 1 := by simp [oneS, raiseS]
      rw [e2] at this
      simp only [if_true]
      constructor
      · exact Nat.le_trans this.1 h1
      · omega
    | false =>
      have := ih (k + 1) s
      simp only [Bool.false_eq_true, if_false]
      omega
theorem cntP_false : ∀ j k, cntP (fun _ => false) k j = 0 := by
  intro j
  induction j with
  | zero => intro k; rfl
  | succ j ih => intro k; unfold cntP; rw [ih]; rfl
theorem roundS_cnt (s : St) : (roundS s).ran_.length + cntP (roundS s).pending_ 0 8 + (roundS s).raises_.length ≤ s.ran_.length + cntP s.pending_ 0 8 + s.raises_.length ∧ (roundS s).ran_.length = s.ran_.length + cntP s.pending_ 0 8 := by
  have h := roundF_cnt s.pending_ 8 0 ⟨fun _ => false, s.raises_, s.ran_⟩
  simp only [cntP_false] at h
  unfold roundS
  omega
theorem cntP_le (f : Pd) : ∀ j k, cntP f k j ≤ j := by
  intro j
  induction j with
  | zero => intro k; exact Nat.le_refl _
  | succ j ih => intro k; have := ih (k + 1); unfold cntP; split <;> omega
theorem roundF_wf (now : Pd) : ∀ j k (s : St), Wf s → Wf (roundF now s k j) := by
  intro j
  induction j with
  | zero => intro k s h; exact h
  | succ j ih =>
    intro k s h
    unfold roundF
    apply ih
    split
    · exact h.one k
    · exact h
theorem Wf.round {s : St} (h : Wf s) : Wf (roundS s) := roundF_wf _ _ _ _ h

/-- All rounds: the end, and how many ran in the first so many rounds. -/
def runF (a : Int) : Nat → Int → Int → St → List Int × Int
  | 0, x, y, s => (s.ran_, x)
  | n + 1, x, y, s => if someP s.pending_ then runF a n (if y < a then ((roundS s).ran_.length : Int) else x) (y + 1) (roundS s) else (s.ran_, x)

def meas (s : St) : Nat := cntP s.pending_ 0 8 + s.raises_.length
theorem meas_round {s : St} (h : someP s.pending_ = true) : meas (roundS s) < meas s ∧ (roundS s).ran_.length + meas (roundS s) ≤ s.ran_.length + meas s := by
  have := roundS_cnt s
  have h2 := cntP_pos s.pending_ 8 0 (by obtain ⟨k, hk, hf⟩ := (someP_iff _).1 h; exact ⟨k, by omega, by omega, hf⟩)
  unfold meas
  omega

theorem Run_l2_eq (a : Int) (r12 : St) : ∀ n m (x y : Int) (s : St), meas s < n → meas s ≤ m → Wf s → s.ran_.length + meas s ≤ 1000 → 0 ≤ y → y + meas s ≤ 1000 →
    soft_Run_l2 a r12 n x y s.pending_ s.raises_ s.ran_ = some ((runF a m x y s).1, (runF a m x y s).2, 0) := by
  intro n
  induction n with
  | zero => intro m x y s h; omega
  | succ n ih =>
    intro m x y s h hm hw hb hy hyb
    unfold soft_Run_l2
    change ((soft_runner_some s).bind _) = _
    rw [some_eq, Option.bind_some]
    cases hs : someP s.pending_ with
    | false =>
      rw [cond_false]
      cases m with
      | zero => rfl
      | succ m => simp [runF, hs]
    | true =>
      obtain ⟨h1, h2⟩ := meas_round hs
      rw [cond_true]
      change ((soft_runner_round_roro s).bind _) = _
      rw [round_eq s hw (by omega), Option.bind_some]
      cases m with
      | zero => omega
      | succ m =>
        rw [wrap_id (by omega) (by omega)]
        by_cases hya : y < a
        · have : decide (y < a) = true := by simpa using hya
          rw [this, cond_true, ih m _ (y + 1) (roundS s) (by omega) (by omega) hw.round (by omega) (by omega) (by omega)]
          simp [runF, hs, hya]
        · have : decide (y < a) = false := by simpa using hya
          rw [this, cond_false, ih m _ (y + 1) (roundS s) (by omega) (by omega) hw.round (by omega) (by omega) (by omega)]
          simp [runF, hs, hya]

def pendF : Pd → List Int → Pd
  | f, [] => f
  | f, x :: l => pendF (upd f x.toNat true) l
def start (p : List Int) (rs : Rs) : St := raiseS ⟨pendF (fun _ => false) p, rs, []⟩

theorem start_meas (p : List Int) (rs : Rs) (h : RightP p rs) : meas (start p rs) ≤ 408 ∧ Wf (start p rs) ∧ (start p rs).ran_ = [] := by
  have h1 := raiseF_cnt ([] : List Int).length rs (pendF (fun _ => false) p)
  have h2 := cntP_le (pendF (fun _ => false) p) 8 0
  have h3 := h.len
  refine ⟨?_, ?_, rfl⟩
  · unfold meas start raiseS; simp only; omega
  · have hw : Wf ⟨pendF (fun _ => false) p, rs, []⟩ := ⟨h3, fun r hr => (h.ok r hr).1⟩
    exact hw.suffix (raiseF_suffix _ _ _)

theorem Run_l1_eq (p : List Int) (rs : Rs) (a : Int) (hp : ∀ x ∈ p, okS x) : ∀ n k f, k ≤ p.length → p.length - k < n →
    soft_Run_l1 p rs a n k f = (soft_runner_raise_roro ⟨pendF f (p.drop k), rs, []⟩).bind fun r12 => soft_Run_l2 a r12 FUEL 0 0 r12.pending_ r12.raises_ r12.ran_ := by
  intro n
  induction n with
  | zero => intro k f h1 h2; omega
  | succ n ih =>
    intro k f h1 h2
    unfold soft_Run_l1
    rcases Nat.lt_or_ge k p.length with hlt | hge
    · have hx := hp p[k] (List.getElem_mem hlt)
      rw [dec_lt hlt, cond_true, getD_lt _ _ hlt, if_pos (by unfold okS at hx; omega), ih (k + 1) _ (by omega) (by omega), List.drop_eq_getElem_cons hlt]
      rfl
    · rw [dec_ge hge, cond_false, List.drop_of_length_le hge]
      rfl

theorem Run_eq (p : List Int) (rs : Rs) (a : Int) (hp : p.length ≤ 140737488355328) (hn : rs.length ≤ 140737488355328) :
    (∃ e, e ≠ 0 ∧ soft_Run p rs a = some ([], 0, e)) ∨ (RightP p rs ∧ 0 ≤ a ∧ a ≤ 400 ∧ soft_Run p rs a = some ((runF a 1000 0 0 (start p rs)).1, (runF a 1000 0 0 (start p rs)).2, 0)) := by
  unfold soft_Run
  obtain ⟨b, hb, h⟩ := right_eq p rs hp hn
  rw [hb, Option.bind_some]
  cases b with
  | false => exact .inl ⟨1, by decide, rfl⟩
  | true =>
    have hr := h rfl
    by_cases ha : a < 0 ∨ a > 400
    · have : (decide (a < 0) || decide (a > 400)) = true := by simpa using ha
      rw [this]
      exact .inl ⟨2, by decide, rfl⟩
    · have : (decide (a < 0) || decide (a > 400)) = false := by simp at ha ⊢; omega
      rw [this]
      refine .inr ⟨hr, by omega, by omega, ?_⟩
      obtain ⟨h1, h2, h3⟩ := start_meas p rs hr
      simp only [Bool.not_true, cond_false]
      rw [Run_l1_eq p rs a hr.pend FUEL 0 _ (by omega) (fuel_gt (by omega)), raise_eq _ hr.len (fun r hr' => (hr.ok r hr').1), Option.bind_some, List.drop_zero]
      change soft_Run_l2 a (start p rs) FUEL 0 0 (start p rs).pending_ (start p rs).raises_ (start p rs).ran_ = _
      have h3' : (start p rs).ran_.length = 0 := by rw [h3]; rfl
      rw [Run_l2_eq a _ FUEL 1000 0 0 (start p rs) (by unfold FUEL; omega) (by omega) h2 (by omega) (by omega) (by omega)]

/- one round -/
def ranF (now : Pd) : Nat → Nat → List Int
  | _, 0 => []
  | k, j + 1 => (if now k then [(k : Int)] else []) ++ ranF now (k + 1) j
theorem roundF_quiet (now : Pd) : ∀ (j k : Nat) (f : Pd) (R : List Int), roundF now ⟨f, [], R⟩ k j = ⟨f, [], R ++ ranF now k j⟩
  | 0, k, f, R => by simp [roundF, ranF]
  | j + 1, k, f, R => by
    show roundF now (if now k then oneS ⟨f, [], R⟩ k else ⟨f, [], R⟩) (k + 1) j = ⟨f, [], R ++ ((if now k then [(k : Int)] else []) ++ ranF now (k + 1) j)⟩
    split
    · have e : oneS ⟨f, [], R⟩ k = ⟨f, [], R ++ [(k : Int)]⟩ := rfl
      rw [e, roundF_quiet now j (k + 1) f, List.append_assoc]
    · rw [roundF_quiet now j (k + 1) f, List.nil_append]
theorem mem_ranF (now : Pd) (x : Int) : ∀ (j k : Nat), x ∈ ranF now k j ↔ ∃ i, k ≤ i ∧ i < k + j ∧ now i = true ∧ x = (i : Int)
  | 0, k => by simp [ranF]; intro i h1 h2; omega
  | j + 1, k => by
    show x ∈ (if now k then [(k : Int)] else []) ++ ranF now (k + 1) j ↔ _
    rw [List.mem_append, mem_ranF now x j (k + 1)]
    constructor
    · rintro (h | ⟨i, h1, h2, h3, h4⟩)
      · split at h
        · rename_i hk; exact ⟨k, Nat.le_refl _, by omega, hk, List.mem_singleton.1 h⟩
        · cases h
      · exact ⟨i, by omega, by omega, h3, h4⟩
    · rintro ⟨i, h1, h2, h3, h4⟩
      by_cases hi : i = k
      · subst hi; rw [if_pos h3]; exact .inl (by rw [h4]; simp)
      · exact .inr ⟨i, by omega, by omega, h3, h4⟩
theorem ranF_sorted (now : Pd) : ∀ (j k : Nat), (ranF now k j).Pairwise (· < ·)
  | 0, k => List.Pairwise.nil
  | j + 1, k => by
    show ((if now k then [(k : Int)] else []) ++ ranF now (k + 1) j).Pairwise _
    rw [List.pairwise_append]
    refine ⟨by split <;> simp, ranF_sorted now j (k + 1), fun x hx y hy => ?_⟩
    obtain ⟨i, h1, -, -, rfl⟩ := (mem_ranF now y j (k + 1)).1 hy
    split at hx
    · rw [List.mem_singleton.1 hx]; omega
    · cases hx

theorem runF_quiet (a : Int) (f : Pd) : (runF a 1000 0 0 ⟨f, [], []⟩).1 = ranF f 0 8 ∧ ((runF a 1000 0 0 ⟨f, [], []⟩).2 = ((ranF f 0 8).length : Int) ∨ (¬ 0 < a ∧ (runF a 1000 0 0 ⟨f, [], []⟩).2 = 0)) := by
  have e1 : ∀ n x y, runF a (n + 1) x y ⟨f, [], []⟩ = if someP f then runF a n (if y < a then ((roundS ⟨f, [], []⟩).ran_.length : Int) else x) (y + 1) (roundS ⟨f, [], []⟩) else ([], x) := fun _ _ _ => rfl
  have e2 : roundS ⟨f, [], []⟩ = ⟨fun _ => false, [], ranF f 0 8⟩ := by
    show roundF f ⟨fun _ => false, [], []⟩ 0 8 = _
    rw [roundF_quiet]; simp
  have e3 : ∀ n x y, runF a (n + 1) x y ⟨fun _ => false, [], ranF f 0 8⟩ = (ranF f 0 8, x) := fun n x y => rfl
  rw [e1 999 0 0, e2]
  by_cases hs : someP f = true
  · rw [if_pos hs, e3 998]
    refine ⟨rfl, ?_⟩
    by_cases h0 : 0 < a
    · rw [if_pos h0]; exact .inl rfl
    · rw [if_neg h0]; exact .inr ⟨h0, rfl⟩
  · rw [if_neg hs]
    have : ranF f 0 8 = [] := by
      rw [List.eq_nil_iff_forall_not_mem]
      intro x hx
      obtain ⟨i, -, h2, h3, -⟩ := (mem_ranF f x 8 0).1 hx
      exact hs ((someP_iff f).2 ⟨i, by omega, h3⟩)
    rw [this]
    exact ⟨rfl, .inl rfl⟩

/- what Compact leaves -/
def ddn (a : List Int) : Nat → List Int
  | 0 => []
  | 1 => a.take 1
  | n + 2 => if a.getD (n + 1) 0 = a.getD n 0 then ddn a (n + 1) else ddn a (n + 1) ++ [a.getD (n + 1) 0]
theorem ddn_len (a : List Int) : ∀ n, (ddn a n).length ≤ n
  | 0 => Nat.le_refl _
  | 1 => by simp [ddn]; omega
  | n + 2 => by
    have := ddn_len a (n + 1)
    unfold ddn
    split
    · omega
    · simp; omega
theorem ddn_ok (a : List Int) (hs : a.Pairwise (· ≤ ·)) : ∀ n, n + 1 ≤ a.length → (∃ l, ddn a (n + 1) = l ++ [a.getD n 0]) ∧ (ddn a (n + 1)).Pairwise (· < ·) ∧ ∀ x, x ∈ ddn a (n + 1) ↔ x ∈ a.take (n + 1)
  | 0, h => by
    have e : ddn a 1 = [a.getD 0 0] := by
      show a.take 1 = _
      cases a with
      | nil => simp at h
      | cons x r => rfl
    rw [e]
    refine ⟨⟨[], rfl⟩, by simp, fun x => ?_⟩
    rw [← e]; rfl
  | n + 1, h => by
    obtain ⟨⟨l, h1⟩, h2, h3⟩ := ddn_ok a hs n (by omega)
    have hn : n + 1 < a.length := by omega
    have htk : a.take (n + 1 + 1) = a.take (n + 1) ++ [a.getD (n + 1) 0] := by
      rw [List.take_succ_eq_append_getElem hn, getD_lt a 0 hn]
    have hle : a.getD n 0 ≤ a.getD (n + 1) 0 := by
      rw [getD_lt a 0 hn, getD_lt a 0 (by omega : n < a.length)]
      exact List.pairwise_iff_getElem.1 hs n (n + 1) (by omega) hn (by omega)
    show (∃ l, ddn a (n + 2) = l ++ [a.getD (n + 1) 0]) ∧ (ddn a (n + 2)).Pairwise (· < ·) ∧ ∀ x, x ∈ ddn a (n + 2) ↔ x ∈ a.take (n + 1 + 1)
    rw [htk]
    unfold ddn
    split
    · rename_i he
      refine ⟨⟨l, by rw [h1, he]⟩, h2, fun x => ?_⟩
      rw [h3, List.mem_append, List.mem_singleton, he]
      constructor
      · exact .inl
      · rintro (h | rfl)
        · exact h
        · rw [← h3, h1]; simp
    · rename_i he
      refine ⟨⟨_, rfl⟩, ?_, fun x => by rw [List.mem_append, List.mem_append, h3]⟩
      rw [List.pairwise_append]
      refine ⟨h2, by simp, fun x hx y hy => ?_⟩
      rw [List.mem_singleton.1 hy]
      have hxl : x ≤ a.getD n 0 := by
        rw [h1] at hx h2
        rcases List.mem_append.1 hx with hx | hx
        · have := (List.pairwise_append.1 h2).2.2 x hx _ (List.mem_singleton.2 rfl)
          omega
        · rw [List.mem_singleton.1 hx]; omega
      omega

theorem w64 {x : Int} (h1 : -9000000000000000000 ≤ x) (h2 : x ≤ 9000000000000000000) : IntKind.i64.wrap x = x := wrap_id (by omega) (by omega)

abbrev CK := Int → Int → (List Int) → Option (List Int)
def ckK : CK := fun (x9 : Int) (x10 : Int) (l11 : List Int) =>
            if 0 ≤ (x9 : Int) then
            if (Int.toNat x9) ≤ l11.length then
            if (0 + (Int.toNat x9)) + (l11.length - (Int.toNat x9)) ≤ l11.length then
            if 0 ≤ (x9 : Int) then
            if (Int.toNat x9) ≤ l11.length then
            some (((cpL l11 (0 + (Int.toNat x9)) (l11.length - (Int.toNat x9)) (List.replicate (l11.length - (Int.toNat x9)) (0 : Int))).drop (0 + 0)).take ((Int.toNat x9) - 0))
            else none
            else none
            else none
            else none
            else none
theorem ckK_eq (w : Nat) (x10 : Int) (l : List Int) (h : w ≤ l.length) : ckK (w : Int) x10 l = some (l.take w) := by
  unfold ckK
  simp only [Int.toNat_natCast, Nat.zero_add, Nat.sub_zero, List.drop_zero]
  rw [if_pos (by omega), if_pos h, if_pos (by omega), if_pos (by omega), if_pos h]
  unfold cpL
  simp [List.take_append, Nat.min_eq_left h]

theorem compact_l2 (a0 : List Int) (k : Nat) (hk : k < a0.length) (hb : a0.length ≤ 140737488355328) : ∀ (m n w i : Nat) (l : List Int), k + i + m = a0.length → 1 ≤ i → w + 1 ≤ k + i → l.length = a0.length → l.take w = ddn a0 (k + i) → l.drop (k + i - 1) = a0.drop (k + i - 1) →
    slices_Compact_int_h0_l2 a0 (k : Int) ckK (n + 1 + m) (w : Int) (i : Int) l = some (ddn a0 a0.length)
  | 0, n, w, i, l, hm, hi, hw, hl, ht, hd => by
    unfold slices_Compact_int_h0_l2
    rw [Int.toNat_natCast, show decide ((i : Int) < ((a0.length - k : Nat) : Int)) = false by simp; omega, cond_false, ckK_eq w _ l (by omega), ht, show k + i = a0.length by omega]
  | m + 1, n, w, i, l, hm, hi, hw, hl, ht, hd => by
    rw [show n + 1 + (m + 1) = (n + 1 + m) + 1 by omega]
    unfold slices_Compact_int_h0_l2
    simp only [Int.toNat_natCast, Nat.zero_add]
    have hget : ∀ j, k + i - 1 ≤ j → j < a0.length → l.getD j 0 = a0.getD j 0 := by
      intro j h1 h2
      have := congrArg (fun z => z[j - (k + i - 1)]?) hd
      simp only [List.getElem?_drop] at this
      rw [show k + i - 1 + (j - (k + i - 1)) = j by omega] at this
      rw [List.getD_eq_getElem?_getD, List.getD_eq_getElem?_getD, this]
    rw [show decide ((i : Int) < ((a0.length - k : Nat) : Int)) = true by simp; omega, cond_true, if_pos (by omega), if_pos (by omega), w64 (by omega) (by omega), if_pos (by omega)]
    rw [show Int.toNat ((i : Int) - 1) = i - 1 by omega, if_pos (by omega), hget (k + i) (by omega) (by omega), hget (k + (i - 1)) (by omega) (by omega)]
    have hstep : ddn a0 (k + i + 1) = if a0.getD (k + i) 0 = a0.getD (k + (i - 1)) 0 then ddn a0 (k + i) else ddn a0 (k + i) ++ [a0.getD (k + i) 0] := by
      obtain ⟨q, hq⟩ : ∃ q, k + i = q + 1 := ⟨k + i - 1, by omega⟩
      rw [hq, show k + (i - 1) = q by omega]; rfl
    have hdr : ∀ l' : List Int, l'.drop (k + i) = l.drop (k + i) → l'.drop (k + (i + 1) - 1) = a0.drop (k + (i + 1) - 1) := by
      intro l' h
      rw [show k + (i + 1) - 1 = k + i by omega, h]
      have := congrArg (List.drop 1) hd
      rw [List.drop_drop, List.drop_drop, show k + i - 1 + 1 = k + i by omega] at this
      exact this
    by_cases he : a0.getD (k + i) 0 = a0.getD (k + (i - 1)) 0
    · rw [show (a0.getD (k + i) 0 != a0.getD (k + (i - 1)) 0) = false by simpa using he, cond_false, w64 (by omega) (by omega), show ((i : Int) + 1) = ((i + 1 : Nat) : Int) by omega]
      refine compact_l2 a0 k hk hb m n w (i + 1) l (by omega) (by omega) (by omega) hl ?_ (hdr l rfl)
      rw [show k + (i + 1) = k + i + 1 by omega, hstep, if_pos he]; exact ht
    · rw [show (a0.getD (k + i) 0 != a0.getD (k + (i - 1)) 0) = true by simpa using he, cond_true, if_pos (by omega), if_pos (by omega), if_pos (by omega), w64 (by omega) (by omega), w64 (by omega) (by omega), show ((i : Int) + 1) = ((i + 1 : Nat) : Int) by omega, show ((w : Int) + 1) = ((w + 1 : Nat) : Int) by omega]
      refine compact_l2 a0 k hk hb m n (w + 1) (i + 1) _ (by omega) (by omega) (by omega) (by simpa using hl) ?_ (hdr _ (by rw [List.drop_set_of_lt (by omega)]))
      rw [show k + (i + 1) = k + i + 1 by omega, hstep, if_neg he, ← ht]
      have hwl : w < l.length := by omega
      rw [List.take_succ_eq_append_getElem (by simpa using hwl), List.take_set_of_le (Nat.le_refl _)]
      simp

theorem l1_step (a0 : List Int) (n1 : Nat) (x2 : Int) : slices_Compact_int_h0_l1 a0 (n1 + 1) x2 = bif (decide ((x2 : Int) < ((a0.length : Nat) : Int))) then
      if 0 ≤ (x2 : Int) ∧ x2 < ((a0.length : Nat) : Int) then
      if 0 ≤ ((IntKind.i64.wrap (x2 - 1)) : Int) ∧ (IntKind.i64.wrap (x2 - 1)) < ((a0.length : Nat) : Int) then
      bif (((a0.getD (0 + (Int.toNat x2)) 0) : Int) == (a0.getD (0 + (Int.toNat (IntKind.i64.wrap (x2 - 1)))) 0)) then
        if 0 ≤ (x2 : Int) then
        if (Int.toNat x2) ≤ a0.length then
        slices_Compact_int_h0_l2 a0 x2 ckK FUEL x2 1 a0
        else none
        else none
      else
        slices_Compact_int_h0_l1 a0 n1 (IntKind.i64.wrap (x2 + 1))
      else none
      else none
    else
      some a0 := rfl
theorem compact_l1 (a0 : List Int) (hb : a0.length ≤ 140737488355328) : ∀ (m n k : Nat), k + m = a0.length → 1 ≤ k → ddn a0 k = a0.take k → slices_Compact_int_h0_l1 a0 (n + 1 + m) (k : Int) = some (ddn a0 a0.length)
  | 0, n, k, hm, hk, hd => by
    rw [l1_step]
    rw [show decide ((k : Int) < ((a0.length : Nat) : Int)) = false by simp; omega, cond_false]
    rw [show k = a0.length by omega, List.take_of_length_le (Nat.le_refl _)] at hd
    rw [hd]
  | m + 1, n, k, hm, hk, hd => by
    rw [show n + 1 + (m + 1) = (n + 1 + m) + 1 by omega]
    rw [l1_step]
    have hkl : k < a0.length := by omega
    rw [show decide ((k : Int) < ((a0.length : Nat) : Int)) = true by simp; omega, cond_true, if_pos (by omega), w64 (by omega) (by omega), if_pos (by omega)]
    simp only [Int.toNat_natCast, Nat.zero_add]
    rw [show Int.toNat ((k : Int) - 1) = k - 1 by omega]
    have hstep : ddn a0 (k + 1) = if a0.getD k 0 = a0.getD (k - 1) 0 then ddn a0 k else ddn a0 k ++ [a0.getD k 0] := by
      obtain ⟨q, hq⟩ : ∃ q, k = q + 1 := ⟨k - 1, by omega⟩
      subst hq; rfl
    by_cases he : a0.getD k 0 = a0.getD (k - 1) 0
    · rw [show (a0.getD k 0 == a0.getD (k - 1) 0) = true by simpa using he, cond_true, if_pos (by omega), if_pos (by omega)]
      obtain ⟨q, hq⟩ : ∃ q, FUEL = q + 1 + m := ⟨FUEL - 1 - m, by unfold FUEL; omega⟩
      rw [hq]
      exact compact_l2 a0 k hkl hb m q k 1 a0 (by omega) (Nat.le_refl _) (by omega) rfl (by rw [hstep, if_pos he]; exact hd.symm) rfl
    · rw [show (a0.getD k 0 == a0.getD (k - 1) 0) = false by simpa using he, cond_false, w64 (by omega) (by omega), show ((k : Int) + 1) = ((k + 1 : Nat) : Int) by omega]
      refine compact_l1 a0 hb m n (k + 1) (by omega) (by omega) ?_
      rw [hstep, if_neg he, hd, List.take_succ_eq_append_getElem hkl, getD_lt a0 0 hkl]

theorem compact_spec (a : List Int) (hb : a.length ≤ 140737488355328) : slices_Compact_int_h0 a = some (ddn a a.length) := by
  unfold slices_Compact_int_h0
  by_cases h : a.length < 2
  · rw [show decide ((((a.length : Nat) : Int) : Int) < 2) = true by simp; omega, cond_true]
    congr 1
    match a, h with
    | [], _ => rfl
    | [x], _ => rfl
  · rw [show decide ((((a.length : Nat) : Int) : Int) < 2) = false by simp; omega, cond_false]
    obtain ⟨q, hq⟩ : ∃ q, FUEL = q + 1 + (a.length - 1) := ⟨FUEL - 1 - (a.length - 1), by unfold FUEL; omega⟩
    rw [hq]
    exact compact_l1 a hb (a.length - 1) q 1 (by omega) (Nat.le_refl _) rfl

theorem eq_self_l1 (l : List Int) : ∀ (n k : Nat), k ≤ l.length → l.length < n + k → slices_Equal_int_l1 l l n k = some true
  | 0, k, h, h2 => by omega
  | n + 1, k, h, h2 => by
    unfold slices_Equal_int_l1
    by_cases hk : k < l.length
    · rw [dec_lt hk, cond_true, if_pos (idx_ok hk), show ((l.getD k 0 : Int) != l.getD k 0) = false by simp, cond_false]
      exact eq_self_l1 l n (k + 1) (by omega) (by omega)
    · rw [dec_ge (by omega), cond_false]
theorem eq_self (l : List Int) (h : l.length < FUEL) : slices_Equal_int l l = some true := by
  unfold slices_Equal_int
  rw [show ((((l.length : Nat) : Int) : Int) != ((l.length : Nat) : Int)) = false by simp, cond_false]
  exact eq_self_l1 l _ 0 (by omega) (by omega)

theorem upd_same' {α : Type} (f : Nat → α) (d : Nat) (v : α) : upd f d v d = v := by simp [upd]
theorem upd_mono' (f : Pd) (d t : Nat) (h : f t = true) : upd f d true t = true := by
  unfold upd; split
  · rfl
  · exact h
theorem pend_iff (p : List Int) (hp : ∀ x ∈ p, okS x) : ∀ (f : Pd) (k : Nat), pendF f p k = true ↔ f k = true ∨ (k : Int) ∈ p := by
  induction p with
  | nil => intro f k; simp [pendF]
  | cons y p ih =>
    intro f k
    show pendF (upd f y.toNat true) p k = true ↔ _
    rw [ih (fun x hx => hp x (List.mem_cons_of_mem _ hx)), List.mem_cons]
    have hy := hp y List.mem_cons_self
    unfold okS at hy
    by_cases hk : k = y.toNat
    · rw [hk, upd_same']
      have : ((y.toNat : Nat) : Int) = y := by omega
      rw [this]; simp
    · have h1 : upd f y.toNat true k = f k := by unfold upd; rw [if_neg hk]
      have h2 : ¬ (k : Int) = y := by omega
      rw [h1]; simp [h2]

theorem SoftQuiet_true (a0 : List Int) (a1 : Int) (h0 : a0.length * 8 ≤ 140737488351232 ∧ ∀ y ∈ a0, (-9223372036854775808 ≤ y ∧ y ≤ 9223372036854775807)) (h1 : -9223372036854775808 ≤ a1 ∧ a1 ≤ 9223372036854775807) : keep_SoftQuiet a0 a1 = some true := by
  have hL := h0.1
  unfold keep_SoftQuiet
  rw [alive10_eq, Option.bind_some, show (!true) = false from rfl, cond_false]
  rcases Run_eq a0 [] a1 (by omega) (by simp) with ⟨e, he, hr⟩ | ⟨hR, h3, h4, hr⟩
  · rw [hr, Option.bind_some, show ((e : Int) != 0) = true by simpa using he, cond_true]
  · rw [hr, Option.bind_some]
    simp only
    rw [show ((0 : Int) != 0) = false from rfl, cond_false]
    unfold slices_Values_int slices_Sorted_int
    rw [Option.bind_some, if_pos (by omega), Option.bind_some]
    obtain ⟨s, hs⟩ : ∃ s, s = a0.mergeSort fun x y => decide (x ≤ y) := ⟨_, rfl⟩
    rw [← hs]
    have hsl : s.length = a0.length := by rw [hs]; simp
    have hsp : s.Perm a0 := by rw [hs]; exact List.mergeSort_perm _ _
    have hss : s.Pairwise (· ≤ ·) := by
      rw [hs]
      have := List.pairwise_mergeSort (le := fun x y : Int => decide (x ≤ y)) (fun a b c h1 h2 => by simp at *; omega) (fun a b => by simp; omega) a0
      simpa using this
    rw [compact_spec s (by omega), Option.bind_some]
    have est : start a0 [] = ⟨pendF (fun _ => false) a0, [], []⟩ := rfl
    rw [est]
    obtain ⟨r1, r2⟩ := runF_quiet a1 (pendF (fun _ => false) a0)
    have hmem : ∀ x, x ∈ ranF (pendF (fun _ => false) a0) 0 8 ↔ x ∈ a0 := by
      intro x
      rw [mem_ranF]
      constructor
      · rintro ⟨i, -, -, h, rfl⟩
        rcases (pend_iff a0 hR.pend _ i).1 h with h | h
        · cases h
        · exact h
      · intro hx
        have hok := hR.pend x hx
        unfold okS at hok
        refine ⟨x.toNat, by omega, by omega, (pend_iff a0 hR.pend _ _).2 (.inr ?_), by omega⟩
        rw [show ((x.toNat : Nat) : Int) = x by omega]; exact hx
    have heq : ranF (pendF (fun _ => false) a0) 0 8 = ddn s s.length := by
      have hd : (ddn s s.length).Pairwise (· < ·) ∧ ∀ x, x ∈ ddn s s.length ↔ x ∈ a0 := by
        cases hn : s.length with
        | zero =>
          have : s = [] := List.eq_nil_of_length_eq_zero hn
          have h2 : a0 = [] := List.eq_nil_of_length_eq_zero (by omega)
          rw [h2]
          exact ⟨List.Pairwise.nil, fun x => Iff.rfl⟩
        | succ n =>
          obtain ⟨-, h5, h6⟩ := ddn_ok s hss n (by omega)
          refine ⟨h5, fun x => ?_⟩
          rw [h6, List.take_of_length_le (by omega), hsp.mem_iff]
      have n1 : (ranF (pendF (fun _ => false) a0) 0 8).Nodup := (ranF_sorted _ 8 0).imp (fun h => by omega)
      have n2 : (ddn s s.length).Nodup := hd.1.imp (fun h => by omega)
      have hperm : (ranF (pendF (fun _ => false) a0) 0 8).Perm (ddn s s.length) := (List.perm_ext_iff_of_nodup n1 n2).2 fun x => by rw [hmem, hd.2]
      exact List.Perm.eq_of_pairwise (le := (· < ·)) (fun a b _ _ h h' => by omega) (ranF_sorted _ 8 0) hd.1 hperm
    have hlen := ddn_len s s.length
    have hF : 140737488355328 < FUEL := fuel_gt (Nat.le_refl _)
    rw [r1, heq, eq_self _ (by omega), Option.bind_some, Bool.true_and]
    rw [heq] at r2
    congr 1
    rcases r2 with h | ⟨h5, h⟩
    · rw [h]; simp
    · rw [h, show (a1 == 0) = true by simp; omega]; simp

end Go.Proofs.Ytdfgmloipigmfaa
