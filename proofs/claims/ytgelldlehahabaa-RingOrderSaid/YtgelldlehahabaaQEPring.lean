/- Plain laws of ring. -/
import Derived.Test.YtgelldlehahabaaQEM
import Derived.Test.YtgelldlehahabaaPLib
import Derived.Test.YtgelldlehahabaaQEK
set_option linter.unusedSimpArgs false
set_option linter.unusedVariables false
namespace Go.Proofs.Ytgelldlehahabaa
open Go Go.Ab

theorem alive18_eq : keep_alive18 = some true := by decide +kernel

/-- how far t is ahead of f, round n cells -/
def A (n f t : Int) : Int := if f ≤ t then t - f else t - f + n
abbrev CZ : Api_Cell := ⟨false, 0⟩
theorem ahead_eq (r : Api_Ring) (f t : Int) (hn : 2 ≤ r.Cells.length ∧ r.Cells.length ≤ 64) (hf : 0 ≤ f ∧ f < r.Cells.length) (ht : 0 ≤ t ∧ t < r.Cells.length) : ring_ahead r f t = some (A r.Cells.length f t) := by
  unfold ring_ahead A
  rw [if_pos (by omega)]
  generalize hm : ((r.Cells.length : Nat) : Int) = n at *
  rw [wrap_id (x := t - f) (by omega) (by omega), wrap_id (by omega) (by omega)]
  congr 1
  rw [Int.tmod_eq_emod_of_nonneg (by omega)]
  split
  · rw [Int.add_emod_right, Int.emod_eq_of_lt (by omega) (by omega)]
  · rw [Int.emod_eq_of_lt (by omega) (by omega)]
def up (n x : Int) : Int := if x + 1 = n then 0 else x + 1
theorem up_eq (n x : Int) (hn : 2 ≤ n ∧ n ≤ 64) (h : 0 ≤ x ∧ x < n) : Int.tmod (IntKind.i64.wrap (x + 1)) n = up n x := by
  rw [wrap_id (by omega) (by omega), Int.tmod_eq_emod_of_nonneg (by omega)]
  unfold up
  split
  · rename_i h; rw [h, Int.emod_self]
  · rw [Int.emod_eq_of_lt (by omega) (by omega)]

structure RightP (r : Api_Ring) : Prop where
  n : 2 ≤ r.Cells.length ∧ r.Cells.length ≤ 64
  g : 0 ≤ r.Give ∧ r.Give < r.Cells.length
  t : 0 ≤ r.Take ∧ r.Take < r.Cells.length
  w : 0 ≤ r.Work ∧ r.Work < r.Cells.length
  le : A r.Cells.length r.Take r.Work ≤ A r.Cells.length r.Take r.Give
  c : ∀ k : Nat, k < r.Cells.length → ((r.Cells.getD k CZ).Device = true ↔ (A r.Cells.length r.Take r.Work ≤ A r.Cells.length r.Take k ∧ A r.Cells.length r.Take k < A r.Cells.length r.Take r.Give)) ∧ (A r.Cells.length r.Take r.Give ≤ A r.Cells.length r.Take k → (r.Cells.getD k CZ).Data = 0)

theorem right_l1_eq (r : Api_Ring) (hn : 2 ≤ r.Cells.length ∧ r.Cells.length ≤ 64) (hg : 0 ≤ r.Give ∧ r.Give < r.Cells.length) (ht : 0 ≤ r.Take ∧ r.Take < r.Cells.length) (hw : 0 ≤ r.Work ∧ r.Work < r.Cells.length) : ∀ n k, k ≤ r.Cells.length → r.Cells.length - k < n →
    ∃ b, ring_Right_l1 r n k = some b ∧ (b = true ↔ ∀ j : Nat, k ≤ j → j < r.Cells.length → ((r.Cells.getD j CZ).Device = true ↔ (A r.Cells.length r.Take r.Work ≤ A r.Cells.length r.Take j ∧ A r.Cells.length r.Take j < A r.Cells.length r.Take r.Give)) ∧ (A r.Cells.length r.Take r.Give ≤ A r.Cells.length r.Take j → (r.Cells.getD j CZ).Data = 0)) := by
  intro n
  induction n with
  | zero => intro k h1 h2; omega
  | succ n ih =>
    intro k h1 h2
    unfold ring_Right_l1
    rcases Nat.lt_or_ge k r.Cells.length with hlt | hge
    · rw [dec_lt hlt, cond_true, ahead_eq r _ _ hn ht (by omega), Option.bind_some, ahead_eq r _ _ hn ht hw, Option.bind_some, ahead_eq r _ _ hn ht hg]
      generalize hc : r.Cells.getD k CZ = c
      have hsplit : ∀ P : Nat → Prop, (∀ j : Nat, k ≤ j → j < r.Cells.length → P j) ↔ (P k ∧ ∀ j : Nat, k + 1 ≤ j → j < r.Cells.length → P j) := by
        intro P
        refine ⟨fun h => ⟨h k (by omega) hlt, fun j hj => h j (by omega)⟩, fun h j hj hl => ?_⟩
        by_cases e : j = k
        · subst e; exact h.1
        · exact h.2 j (by omega) hl
      rw [hsplit, hc]
      obtain ⟨b, hb, hib⟩ := ih (k + 1) (by omega) (by omega)
      rw [hb, ← hib]
      generalize A r.Cells.length r.Take k = p
      generalize A r.Cells.length r.Take r.Work = q
      generalize A r.Cells.length r.Take r.Give = s
      have h5 : s ≤ p ↔ ¬ p < s := by omega
      refine ⟨b && decide ((c.Device = true ↔ q ≤ p ∧ p < s) ∧ (s ≤ p → c.Data = 0)), ?_, by rw [Bool.and_eq_true, decide_eq_true_eq]; exact and_comm⟩
      have h6 : (c.Data = 0) ↔ (c.Data != 0) = false := by simp
      simp only [h6, h5]
      generalize (c.Data != 0) = d
      by_cases h1 : q ≤ p <;> by_cases h2 : p < s <;> cases d <;> cases h4 : c.Device <;> simp [h1, h2, h4, h5]
    · rw [dec_ge hge, cond_false]
      exact ⟨true, rfl, by simp; intro j h1 h2; omega⟩
theorem Right_cases (r : Api_Ring) : ∃ b, ring_Right r = some b ∧ (b = true ↔ RightP r) := by
  unfold ring_Right
  generalize hmn : (if (r.Work : Int) < (if (r.Take : Int) < r.Give then r.Take else r.Give) then r.Work else (if (r.Take : Int) < r.Give then r.Take else r.Give)) = mn
  generalize hmx : (if (r.Work : Int) > (if (r.Take : Int) > r.Give then r.Take else r.Give) then r.Work else (if (r.Take : Int) > r.Give then r.Take else r.Give)) = mx
  by_cases hb : (2 ≤ r.Cells.length ∧ r.Cells.length ≤ 64) ∧ 0 ≤ mn ∧ mx < r.Cells.length
  · obtain ⟨hn, h1, h2⟩ := hb
    have e : ((((decide ((((r.Cells.length : Nat) : Int) : Int) < 2)) || (decide ((((r.Cells.length : Nat) : Int) : Int) > 64))) || (decide ((mn : Int) < 0))) || (decide ((mx : Int) ≥ ((r.Cells.length : Nat) : Int)))) = false := by
      simp; omega
    have hgg : 0 ≤ r.Give ∧ r.Give < r.Cells.length := by split at hmn <;> split at hmx <;> omega
    have htt : 0 ≤ r.Take ∧ r.Take < r.Cells.length := by split at hmn <;> split at hmx <;> omega
    have hww : 0 ≤ r.Work ∧ r.Work < r.Cells.length := by split at hmn <;> split at hmx <;> omega
    rw [e, Bool.not_false, cond_true, cond_true, ahead_eq r _ _ hn htt hww, Option.bind_some, ahead_eq r _ _ hn htt hgg, Option.bind_some, Bool.false_or]
    by_cases hle : A r.Cells.length r.Take r.Work ≤ A r.Cells.length r.Take r.Give
    · have : decide (A r.Cells.length r.Take r.Work > A r.Cells.length r.Take r.Give) = false := by simpa using hle
      rw [this, cond_false]
      obtain ⟨b, hb, hib⟩ := right_l1_eq r hn hgg htt hww FUEL 0 (by omega) (fuel_gt (by omega))
      refine ⟨b, hb, hib.trans ⟨fun h => ⟨hn, hgg, htt, hww, hle, fun k hk => h k (by omega) hk⟩, fun h j _ hj => h.c j hj⟩⟩
    · have : decide (A r.Cells.length r.Take r.Work > A r.Cells.length r.Take r.Give) = true := by simpa using hle
      rw [this, cond_true]
      exact ⟨false, rfl, by simp; exact fun h => hle h.le⟩
  · have e : ((((decide ((((r.Cells.length : Nat) : Int) : Int) < 2)) || (decide ((((r.Cells.length : Nat) : Int) : Int) > 64))) || (decide ((mn : Int) < 0))) || (decide ((mx : Int) ≥ ((r.Cells.length : Nat) : Int)))) = true := by
      simp; omega
    rw [e]
    refine ⟨false, rfl, ⟨fun h => absurd h (by decide), fun h => absurd ⟨h.n, ?_, ?_⟩ hb⟩⟩
    · have := h.g; have := h.t; have := h.w
      split at hmn <;> omega
    · have := h.g; have := h.t; have := h.w
      split at hmx <;> omega

def inv (x : Int) : Int := (bitsOf .xor .i64 (if IntKind.i64.signed then -1 else IntKind.i64.max) x)

/-- a ring with one cell set -/
def giveR (r : Api_Ring) (d : Int) : Api_Ring := ⟨r.Cells.set r.Give.toNat ⟨true, d⟩, up r.Cells.length r.Give, r.Take, r.Work⟩
def workR (r : Api_Ring) : Api_Ring := ⟨r.Cells.set r.Work.toNat ⟨false, inv (r.Cells.getD r.Work.toNat CZ).Data⟩, r.Give, r.Take, up r.Cells.length r.Work⟩
def takeR (r : Api_Ring) : Api_Ring := ⟨r.Cells.set r.Take.toNat CZ, r.Give, up r.Cells.length r.Take, r.Work⟩

theorem get_set (l : List Api_Cell) (i k : Nat) (c : Api_Cell) (hi : i < l.length) : (l.set i c).getD k CZ = if k = i then c else l.getD k CZ := by
  rw [List.getD_eq_getElem?_getD, List.getElem?_set, List.getD_eq_getElem?_getD]
  by_cases h : i = k
  · subst h; simp [hi]
  · rw [if_neg h, if_neg (fun e => h e.symm)]

theorem give_right {r : Api_Ring} (h : RightP r) (d : Int) (hf : A r.Cells.length r.Take r.Give ≠ r.Cells.length - 1) : RightP (giveR r d) := by
  obtain ⟨hn, hg, ht, hw, hle, hc⟩ := h
  unfold giveR
  refine ⟨?_, ?_, ?_, ?_, ?_, ?_⟩ <;> simp only [List.length_set] <;> (try assumption) <;> (try (unfold A at *; (try unfold up at *); omega))
  intro k hk
  rw [get_set _ _ _ _ (by omega)]
  have h1 := (hc k hk).1
  have h2 := (hc k hk).2
  by_cases e : k = r.Give.toNat
  · rw [if_pos e]
    simp only [true_iff]
    unfold A at *; (try unfold up at *); constructor <;> omega
  · rw [if_neg e, h1]
    refine ⟨?_, fun hx => h2 ?_⟩ <;> (clear h1 h2 hc; unfold A at *; (try unfold up at *); omega)
theorem work_right {r : Api_Ring} (h : RightP r) (hf : r.Work ≠ r.Give) : RightP (workR r) := by
  obtain ⟨hn, hg, ht, hw, hle, hc⟩ := h
  unfold workR
  generalize inv _ = dd
  refine ⟨?_, ?_, ?_, ?_, ?_, ?_⟩ <;> simp only [List.length_set] <;> (try assumption) <;> (try (unfold A at *; (try unfold up at *); omega))
  intro k hk
  rw [get_set _ _ _ _ (by omega)]
  have h1 := (hc k hk).1
  have h2 := (hc k hk).2
  by_cases e : k = r.Work.toNat
  · rw [if_pos e]
    simp only [Bool.false_eq_true, false_iff]
    clear h1 h2 hc
    unfold A at *; (try unfold up at *); constructor <;> omega
  · rw [if_neg e, h1]
    refine ⟨?_, fun hx => h2 ?_⟩ <;> (clear h1 h2 hc; unfold A at *; (try unfold up at *); omega)
theorem take_right {r : Api_Ring} (h : RightP r) (hf : r.Take ≠ r.Work) : RightP (takeR r) := by
  obtain ⟨hn, hg, ht, hw, hle, hc⟩ := h
  unfold takeR
  refine ⟨?_, ?_, ?_, ?_, ?_, ?_⟩ <;> simp only [List.length_set] <;> (try assumption) <;> (try (unfold A at *; (try unfold up at *); omega))
  intro k hk
  rw [get_set _ _ _ _ (by omega)]
  have h1 := (hc k hk).1
  have h2 := (hc k hk).2
  by_cases e : k = r.Take.toNat
  · rw [if_pos e]
    simp only [Bool.false_eq_true, false_iff]
    clear h1 h2 hc
    unfold A at *; (try unfold up at *); constructor
    · omega
    · intro; trivial
  · rw [if_neg e, h1]
    refine ⟨?_, fun hx => h2 ?_⟩ <;> (clear h1 h2 hc; unfold A at *; (try unfold up at *); omega)

inductive StepOf (r : Api_Ring) (o : Api_RingOp) : Api_Ring → Int → Int → Prop
  | bad (e : Int) : e ≠ 0 → (RightP r → (o.Kind = 1 → A r.Cells.length r.Take r.Give = r.Cells.length - 1) ∧ (o.Kind = 2 → r.Work = r.Give) ∧ (o.Kind = 3 → r.Take = r.Work)) → StepOf r o ⟨[], 0, 0, 0⟩ 0 e
  | give : RightP r → o.Kind = 1 → A r.Cells.length r.Take r.Give ≠ r.Cells.length - 1 → StepOf r o (giveR r o.Data) 0 0
  | work : RightP r → o.Kind = 2 → r.Work ≠ r.Give → StepOf r o (workR r) 0 0
  | take : RightP r → o.Kind = 3 → r.Take ≠ r.Work → StepOf r o (takeR r) (r.Cells.getD r.Take.toNat CZ).Data 0
theorem Step_cases (r : Api_Ring) (o : Api_RingOp) : ∃ r' g e, ring_Step r o = some (r', g, e) ∧ StepOf r o r' g e := by
  unfold ring_Step
  obtain ⟨b, hb, hbp⟩ := Right_cases r
  rw [hb, Option.bind_some]
  cases b with
  | false => exact ⟨_, _, _, rfl, .bad _ (by decide) (fun h => absurd (hbp.2 h) (by decide))⟩
  | true =>
    have hp := hbp.1 rfl
    obtain ⟨hn, hg, ht, hw, -, -⟩ := id hp
    rw [Bool.not_true, cond_false]
    unfold slices_Clone_api_Cell
    rw [if_pos (by omega), Option.bind_some]
    have hz : (((r.Cells.length : Nat) : Int) : Int) ≠ 0 := by omega
    by_cases k1 : o.Kind = 1
    · rw [show ((o.Kind : Int) == 1) = true by simp [k1], cond_true, ahead_eq r _ _ hn ht hg, Option.bind_some, wrap_id (by omega) (by omega)]
      by_cases hf : A r.Cells.length r.Take r.Give = r.Cells.length - 1
      · rw [show (A r.Cells.length r.Take r.Give == ((r.Cells.length : Nat) : Int) - 1) = true by simp [hf], cond_true]
        exact ⟨_, _, _, rfl, .bad _ (by decide) (fun _ => ⟨fun _ => hf, by omega, by omega⟩)⟩
      · rw [show (A r.Cells.length r.Take r.Give == ((r.Cells.length : Nat) : Int) - 1) = false by simpa using hf, cond_false, if_pos (by omega), if_pos hz, up_eq _ _ (by omega) hg, Nat.zero_add]
        exact ⟨_, _, _, rfl, .give hp k1 hf⟩
    rw [show ((o.Kind : Int) == 1) = false by simp [k1], cond_false]
    by_cases k2 : o.Kind = 2
    · rw [show ((o.Kind : Int) == 2) = true by simp [k2], cond_true]
      by_cases hf : r.Work = r.Give
      · rw [show (r.Work == r.Give) = true by simp [hf], cond_true]
        exact ⟨_, _, _, rfl, .bad _ (by decide) (fun _ => ⟨by omega, fun _ => hf, by omega⟩)⟩
      · rw [show (r.Work == r.Give) = false by simpa using hf, cond_false, if_pos (by omega), if_pos (by omega), if_pos hz, up_eq _ _ (by omega) hw, Nat.zero_add]
        exact ⟨_, _, _, rfl, .work hp k2 hf⟩
    rw [show ((o.Kind : Int) == 2) = false by simp [k2], cond_false]
    by_cases k3 : o.Kind = 3
    · rw [show ((o.Kind : Int) == 3) = true by simp [k3], cond_true]
      by_cases hf : r.Take = r.Work
      · rw [show (r.Take == r.Work) = true by simp [hf], cond_true]
        exact ⟨_, _, _, rfl, .bad _ (by decide) (fun _ => ⟨by omega, by omega, fun _ => hf⟩)⟩
      · rw [show (r.Take == r.Work) = false by simpa using hf, cond_false, if_pos (by omega), if_pos (by omega), if_pos hz, up_eq _ _ (by omega) ht, Nat.zero_add]
        exact ⟨_, _, _, rfl, .take hp k3 hf⟩
    rw [show ((o.Kind : Int) == 3) = false by simp [k3], cond_false]
    exact ⟨_, _, _, rfl, .bad _ (by decide) (fun _ => ⟨by omega, by omega, by omega⟩)⟩
theorem step_right {r r' : Api_Ring} {o : Api_RingOp} {g e : Int} (h : StepOf r o r' g e) (he : e = 0) : RightP r' ∧ r'.Cells.length = r.Cells.length := by
  cases h with
  | bad _ h => exact absurd he h
  | give h k f => exact ⟨give_right h _ f, by simp [giveR]⟩
  | work h k f => exact ⟨work_right h f, by simp [workR]⟩
  | take h k f => exact ⟨take_right h f, by simp [takeR]⟩

/- the one place that a step changes -/
theorem step_place {r r' : Api_Ring} {o : Api_RingOp} {g e : Int} (h : StepOf r o r' g e) (he : e = 0) : ∃ p : Nat, p < r.Cells.length ∧ (∀ k, k ≠ p → r'.Cells.getD k CZ = r.Cells.getD k CZ) ∧ (r.Cells.getD p CZ).Device = (o.Kind == 2) ∧ (r'.Cells.getD p CZ).Device = (o.Kind == 1) := by
  cases h with
  | bad _ h => exact absurd he h
  | give h k f =>
    have := h.g; have := h.t; have := h.w; have hle := h.le
    refine ⟨r.Give.toNat, by omega, fun k hk => ?_, ?_, ?_⟩
    · simp only [giveR]; rw [get_set _ _ _ _ (by omega), if_neg hk]
    · have := (h.c r.Give.toNat (by omega)).1
      rw [show ((r.Give.toNat : Nat) : Int) = r.Give by omega] at this
      rw [k]
      cases hd : (r.Cells.getD r.Give.toNat CZ).Device with
      | false => rfl
      | true => have := this.1 hd; omega
    · simp only [giveR]; rw [get_set _ _ _ _ (by omega), if_pos rfl, k]; rfl
  | work h k f =>
    have := h.g; have := h.t; have := h.w; have hle := h.le
    refine ⟨r.Work.toNat, by omega, fun k hk => ?_, ?_, ?_⟩
    · simp only [workR]; rw [get_set _ _ _ _ (by omega), if_neg hk]
    · have := (h.c r.Work.toNat (by omega)).1
      rw [show ((r.Work.toNat : Nat) : Int) = r.Work by omega] at this
      rw [k, this.2 (by unfold A at *; omega)]
      rfl
    · simp only [workR]; rw [get_set _ _ _ _ (by omega), if_pos rfl, k]; rfl
  | take h k f =>
    have := h.g; have := h.t; have := h.w; have hle := h.le
    refine ⟨r.Take.toNat, by omega, fun k hk => ?_, ?_, ?_⟩
    · simp only [takeR]; rw [get_set _ _ _ _ (by omega), if_neg hk]
    · have := (h.c r.Take.toNat (by omega)).1
      rw [show ((r.Take.toNat : Nat) : Int) = r.Take by omega] at this
      rw [k]
      cases hd : (r.Cells.getD r.Take.toNat CZ).Device with
      | false => rfl
      | true => have := this.1 hd; unfold A at *; omega
    · simp only [takeR]; rw [get_set _ _ _ _ (by omega), if_pos rfl, k]; rfl

theorem own_l1_eq (r : Api_Ring) (o : Api_RingOp) (q : Api_Ring × Int × Int) (hl : r.Cells.length ≤ 64) (hq : q.1.Cells.length = r.Cells.length) (p : Nat) (hne : ∀ k, k ≠ p → q.1.Cells.getD k CZ = r.Cells.getD k CZ) (h1 : (r.Cells.getD p CZ).Device = (o.Kind == 2)) (h2 : (q.1.Cells.getD p CZ).Device = (o.Kind == 1)) : ∀ n k x, k ≤ r.Cells.length → r.Cells.length - k < n → 0 ≤ x → x ≤ 1 → (k ≤ p → x = 0) →
    keep_RingOwn_l1 r o q n x k = some true := by
  intro n
  induction n with
  | zero => intro k x hk hn; omega
  | succ n ih =>
    intro k x hk hn hx0 hx1 hxp
    unfold keep_RingOwn_l1
    rcases Nat.lt_or_ge k r.Cells.length with hlt | hge
    · rw [dec_lt hlt, cond_true, if_pos (by rw [hq]; exact idx_ok hlt), Nat.zero_add]
      by_cases e : k = p
      · subst e
        rw [h1, h2, wrap_id (by omega) (by omega)]
        rw [if_pos (fun _ => by rw [hq]; exact idx_ok hlt)]
        cases hb : (_ && (_ && true)) with
        | true => rw [cond_true]; exact ih _ _ (by omega) (by omega) hx0 hx1 (by omega)
        | false =>
          have he : ((((o.Kind : Int) == 2) != ((o.Kind : Int) == 2)) || (((o.Kind : Int) == 1) != ((o.Kind : Int) == 1))) = false := by
            cases ((o.Kind : Int) == 2) <;> cases ((o.Kind : Int) == 1) <;> rfl
          rw [cond_false, he, cond_false]
          exact ih _ _ (by omega) (by omega) (by omega) (by have := hxp (by omega); omega) (by omega)
      · rw [hne k e]
        simp only [beq_self_eq_true, Bool.and_self, Bool.and_true, cond_true]
        exact ih _ _ (by omega) (by omega) hx0 hx1 (by omega)
    · rw [dec_ge hge, cond_false]
      simp; omega
theorem RingOwn_true (a0 : Api_Ring) (a1 : Api_RingOp) (h0 : Ok_Api_Ring a0) (h1 : Ok_Api_RingOp a1) : keep_RingOwn a0 a1 = some true := by
  unfold keep_RingOwn
  rw [alive18_eq, Option.bind_some, Bool.not_true, cond_false]
  obtain ⟨r', g, e, hs, hof⟩ := Step_cases a0 a1
  rw [hs, Option.bind_some]
  by_cases he : e = 0
  · have hb : (e != 0) = false := by simp [he]
    simp only [hb, cond_false]
    obtain ⟨hr, hl⟩ := step_right hof he
    obtain ⟨p, hp, hne, hd1, hd2⟩ := step_place hof he
    have hl64 : a0.Cells.length ≤ 64 := hl ▸ hr.n.2
    have hR : ring_Right r' = some true := by
      obtain ⟨b, hb, hbp⟩ := Right_cases r'
      rw [hb, hbp.2 hr]
    rw [hR, Option.bind_some]
    simp only [hl, Bool.not_true, Bool.false_or, bne_self_eq_false, cond_false]
    exact own_l1_eq a0 a1 (r', g, e) hl64 hl p hne hd1 hd2 FUEL 0 0 (by omega) (fuel_gt (by omega)) (by omega) (by omega) (fun _ => rfl)
  · have hb : (e != 0) = true := by simpa using he
    simp only [hb, cond_true]
    cases hof with
    | bad _ _ _ => rfl
    | give => exact absurd rfl he
    | work => exact absurd rfl he
    | take => exact absurd rfl he

/- what lies in the ring, in order -/
def idx (n T : Int) (j : Nat) : Nat := (if T + j < n then T + j else T + j - n).toNat
def cont (r : Api_Ring) : List Int := (List.range (A r.Cells.length r.Take r.Give).toNat).map (fun (j : Nat) => if (j : Int) < A r.Cells.length r.Take r.Work then (r.Cells.getD (idx r.Cells.length r.Take j) CZ).Data else inv (r.Cells.getD (idx r.Cells.length r.Take j) CZ).Data)
theorem cont_len (r : Api_Ring) : (cont r).length = (A r.Cells.length r.Take r.Give).toNat := by simp [cont]
theorem cont_give {r : Api_Ring} (h : RightP r) (d : Int) (hf : A r.Cells.length r.Take r.Give ≠ r.Cells.length - 1) : cont (giveR r d) = cont r ++ [inv d] := by
  obtain ⟨hn, hg, ht, hw, hle, -⟩ := h
  unfold cont giveR
  simp only [List.length_set]
  have hm : (A r.Cells.length r.Take (up r.Cells.length r.Give)).toNat = (A r.Cells.length r.Take r.Give).toNat + 1 := by ((try unfold idx at *); (try unfold A at *); (try unfold up at *); omega)
  rw [hm, List.range_succ, List.map_append, List.map_cons, List.map_nil]
  congr 1
  · apply List.map_congr_left
    intro j hj
    rw [List.mem_range] at hj
    have hne : idx r.Cells.length r.Take j ≠ r.Give.toNat := by ((try unfold idx at *); (try unfold A at *); (try unfold up at *); omega)
    rw [get_set _ _ _ _ (by omega), if_neg hne]
  · have h1 : idx r.Cells.length r.Take (A r.Cells.length r.Take r.Give).toNat = r.Give.toNat := by ((try unfold idx at *); (try unfold A at *); (try unfold up at *); omega)
    have h2 : ¬ (((A r.Cells.length r.Take r.Give).toNat : Nat) : Int) < A r.Cells.length r.Take r.Work := by ((try unfold idx at *); (try unfold A at *); (try unfold up at *); omega)
    rw [h1, get_set _ _ _ _ (by omega), if_pos rfl, if_neg h2]
theorem cont_work {r : Api_Ring} (h : RightP r) (hf : r.Work ≠ r.Give) : cont (workR r) = cont r := by
  obtain ⟨hn, hg, ht, hw, hle, -⟩ := h
  unfold cont workR
  simp only [List.length_set]
  apply List.map_congr_left
  intro j hj
  rw [List.mem_range] at hj
  rw [get_set _ _ _ _ (by omega)]
  by_cases e : idx r.Cells.length r.Take j = r.Work.toNat
  · have e3 : (j : Int) < A r.Cells.length r.Take (up r.Cells.length r.Work) := by ((try unfold idx at *); (try unfold A at *); (try unfold up at *); omega)
    have e4 : ¬ (j : Int) < A r.Cells.length r.Take r.Work := by ((try unfold idx at *); (try unfold A at *); (try unfold up at *); omega)
    rw [if_pos e, if_pos e3, if_neg e4, e]
  · rw [if_neg e]
    by_cases e2 : (j : Int) < A r.Cells.length r.Take r.Work
    · have e3 : (j : Int) < A r.Cells.length r.Take (up r.Cells.length r.Work) := by ((try unfold idx at *); (try unfold A at *); (try unfold up at *); omega)
      rw [if_pos e2, if_pos e3]
    · have e3 : ¬ (j : Int) < A r.Cells.length r.Take (up r.Cells.length r.Work) := by ((try unfold idx at *); (try unfold A at *); (try unfold up at *); omega)
      rw [if_neg e2, if_neg e3]
theorem cont_take {r : Api_Ring} (h : RightP r) (hf : r.Take ≠ r.Work) : cont r = (r.Cells.getD r.Take.toNat CZ).Data :: cont (takeR r) := by
  obtain ⟨hn, hg, ht, hw, hle, -⟩ := h
  unfold cont takeR
  simp only [List.length_set]
  have hm : (A r.Cells.length r.Take r.Give).toNat = (A r.Cells.length (up r.Cells.length r.Take) r.Give).toNat + 1 := by ((try unfold idx at *); (try unfold A at *); (try unfold up at *); omega)
  rw [hm, List.range_succ_eq_map, List.map_cons, List.map_map]
  congr 1
  · have h1 : idx r.Cells.length r.Take 0 = r.Take.toNat := by ((try unfold idx at *); (try unfold A at *); (try unfold up at *); omega)
    have h2 : ((0 : Nat) : Int) < A r.Cells.length r.Take r.Work := by ((try unfold idx at *); (try unfold A at *); (try unfold up at *); omega)
    rw [h1, if_pos h2]
  · apply List.map_congr_left
    intro j hj
    rw [List.mem_range] at hj
    have h1 : idx r.Cells.length r.Take (j + 1) = idx r.Cells.length (up r.Cells.length r.Take) j := by ((try unfold idx at *); (try unfold A at *); (try unfold up at *); omega)
    have hne : idx r.Cells.length (up r.Cells.length r.Take) j ≠ r.Take.toNat := by ((try unfold idx at *); (try unfold A at *); (try unfold up at *); omega)
    simp only [Function.comp_apply, Nat.succ_eq_add_one]
    rw [get_set _ _ _ _ (by omega), if_neg hne, h1]
    by_cases e2 : (j : Int) < A r.Cells.length (up r.Cells.length r.Take) r.Work
    · have e3 : ((j + 1 : Nat) : Int) < A r.Cells.length r.Take r.Work := by ((try unfold idx at *); (try unfold A at *); (try unfold up at *); omega)
      rw [if_pos e2, if_pos e3]
    · have e3 : ¬ ((j + 1 : Nat) : Int) < A r.Cells.length r.Take r.Work := by ((try unfold idx at *); (try unfold A at *); (try unfold up at *); omega)
      rw [if_neg e2, if_neg e3]

def givOf (p : Api_RingOp × Int) : List Int := if p.2 = 0 ∧ p.1.Kind = 1 then [inv p.1.Data] else []
structure Good (ops : List Api_RingOp) (q : List Int × List Int × Api_Ring) (m : Nat) : Prop where
  r : RightP q.2.2
  el : q.1.length = ops.length
  tl : q.2.1.length ≤ ops.length
  c : (ops.zip q.1).flatMap givOf = q.2.1 ++ cont q.2.2
  m : q.2.2.Cells.length = m
theorem play_l1_eq (ops : List Api_RingOp) (r1 : Api_Ring × Int) (m : Nat) (hops : ops.length * 16 ≤ 140737488351232) : ∀ n k errs taken (r : Api_Ring), k ≤ ops.length → ops.length - k < n → Good (ops.take k) (errs, taken, r) m →
    ∃ errs' taken' r', ring_Play_l1 ops r1 n errs taken k r.Cells r.Give r.Take r.Work = some (errs', taken', r', 0) ∧ Good ops (errs', taken', r') m := by
  intro n
  induction n with
  | zero => intro k errs taken r h1 h2; omega
  | succ n ih =>
    intro k errs taken r hk hn h
    obtain ⟨hr, hel, htl, hc, hm⟩ := h
    simp only at hr hel htl hc hm
    rw [List.length_take] at hel htl
    unfold ring_Play_l1
    rcases Nat.lt_or_ge k ops.length with hlt | hge
    · rw [dec_lt hlt, cond_true, getD_lt _ _ hlt]
      obtain ⟨r', g, e, hs, hof⟩ := Step_cases r ops[k]
      have hs' : ring_Step (⟨r.Cells, r.Give, r.Take, r.Work⟩ : Api_Ring) ops[k] = some (r', g, e) := hs
      rw [hs', Option.bind_some]
      have htk : ops.take (k + 1) = ops.take k ++ [ops[k]] := by rw [List.take_add_one, List.getElem?_eq_getElem hlt]; rfl
      have hz : ∀ e : Int, ((ops.take (k + 1)).zip (errs ++ [e])).flatMap givOf = taken ++ cont r ++ givOf (ops[k], e) := by
        intro e
        rw [htk, List.zip_append (by rw [List.length_take]; omega), List.flatMap_append, hc]
        simp
      by_cases he : e = 0
      · obtain ⟨hr', hl'⟩ := step_right hof he
        subst he
        simp only [beq_self_eq_true, cond_true]
        cases hof with
        | bad _ h => exact absurd rfl h
        | give h1 h2 h3 =>
          rw [show ((ops[k].Kind : Int) == 3) = false by simp [h2], cond_false, if_pos (by simp only [List.length_singleton]; omega)]
          refine ih (k + 1) _ _ _ (by omega) (by omega) ⟨hr', by simp; omega, by simp; omega, ?_, hl'.trans hm⟩
          rw [hz, cont_give h1 _ h3]
          simp [givOf, h2]
        | work h1 h2 h3 =>
          rw [show ((ops[k].Kind : Int) == 3) = false by simp [h2], cond_false, if_pos (by simp only [List.length_singleton]; omega)]
          refine ih (k + 1) _ _ _ (by omega) (by omega) ⟨hr', by simp; omega, by simp; omega, ?_, hl'.trans hm⟩
          rw [hz, cont_work h1 h3]
          simp [givOf, h2]
        | take h1 h2 h3 =>
          rw [show ((ops[k].Kind : Int) == 3) = true by simp [h2], cond_true, if_pos (by simp only [List.length_singleton]; omega), if_pos (by simp only [List.length_singleton]; omega)]
          refine ih (k + 1) _ _ _ (by omega) (by omega) ⟨hr', by simp; omega, by simp; omega, ?_, hl'.trans hm⟩
          rw [hz, cont_take h1 h3]
          simp [givOf, h2]
      · have : (e == 0) = false := by simpa using he
        simp only [this, cond_false]
        rw [if_pos (by simp only [List.length_singleton]; omega)]
        refine ih (k + 1) _ _ _ (by omega) (by omega) ⟨hr, by simp; omega, by simp; omega, ?_, hm⟩
        rw [hz]
        simp [givOf, he]
    · rw [dec_ge hge, cond_false]
      have hto : ops.take k = ops := List.take_of_length_le hge
      rw [hto] at hc
      exact ⟨_, _, _, rfl, hr, by simp only; omega, by simp only; omega, hc, hm⟩
theorem new_right (m : Nat) (hm : 2 ≤ m ∧ m ≤ 64) : RightP ⟨List.replicate m CZ, 0, 0, 0⟩ := by
  refine ⟨?_, ?_, ?_, ?_, ?_, ?_⟩ <;> simp only [List.length_replicate] <;> (try omega)
  intro k hk
  have : (List.replicate m CZ).getD k CZ = CZ := by
    rw [List.getD_eq_getElem?_getD, List.getElem?_replicate]
    split <;> rfl
  rw [this]
  unfold A
  simp
theorem Play_cases (c : Int) (ops : List Api_RingOp) (hops : ops.length * 16 ≤ 140737488351232) : (∃ r, ring_Play c ops = some ([], [], r, 2)) ∨ ((2 ≤ c ∧ c ≤ 64) ∧ ∃ errs taken r, ring_Play c ops = some (errs, taken, r, 0) ∧ Good ops (errs, taken, r) c.toNat) := by
  unfold ring_Play ring_New
  by_cases hc : 2 ≤ c ∧ c ≤ 64
  · have e : ((decide ((c : Int) < 2)) || (decide ((c : Int) > 64))) = false := by simp; omega
    rw [e, cond_false, if_pos (by omega), Option.bind_some]
    simp only [bne_self_eq_false, cond_false]
    refine .inr ⟨hc, ?_⟩
    refine play_l1_eq ops _ c.toNat hops FUEL 0 [] [] ⟨List.replicate c.toNat CZ, 0, 0, 0⟩ (by omega) (fuel_gt (by omega)) ⟨new_right _ (by omega), by simp, by simp, ?_, by simp⟩
    simp [cont, A]
  · have e : ((decide ((c : Int) < 2)) || (decide ((c : Int) > 64))) = true := by simp; omega
    rw [e, cond_true, Option.bind_some]
    exact .inl ⟨_, rfl⟩

/- one round: a work and a take -/
theorem round_eq (l43 : List Int) (x44 x45 x46 : Int) (l47 : List Api_Cell) (K : List Int → Nat → List Api_Cell → Int → Int → Int → Option Bool) (T : List Int) (r : Api_Ring) (h : RightP r) (hT : T.length + (cont r).length ≤ 17592186043904) :
    ∃ T' r', keep_RingOrder_l3 l43 x44 x45 x46 l47 K FUEL T 0 r.Cells r.Give r.Take r.Work = K T' 2 r'.Cells r'.Give r'.Take r'.Work ∧ RightP r' ∧ T' ++ cont r' = T ++ cont r ∧ (cont r').length = (cont r).length - 1 := by
  obtain ⟨F, hF⟩ : ∃ F, FUEL = F + 3 := ⟨FUEL - 3, by decide⟩
  rw [hF]
  -- the work
  obtain ⟨r1, hr1, hc1, hp1, e1⟩ : ∃ r1, RightP r1 ∧ cont r1 = cont r ∧ (0 < (cont r).length → r1.Take ≠ r1.Work) ∧ keep_RingOrder_l3 l43 x44 x45 x46 l47 K (F + 3) T 0 r.Cells r.Give r.Take r.Work = keep_RingOrder_l3 l43 x44 x45 x46 l47 K (F + 2) T 1 r1.Cells r1.Give r1.Take r1.Work := by
    obtain ⟨r', g, e, hs, hof⟩ := Step_cases r ⟨2, 0⟩
    have hs' : ring_Step (⟨r.Cells, r.Give, r.Take, r.Work⟩ : Api_Ring) (⟨([2, 3].getD (0 + 0) 0), 0⟩ : Api_RingOp) = some (r', g, e) := hs
    have hgg := h.g; have htt := h.t; have hww := h.w; have hle := h.le
    rw [keep_RingOrder_l3, dec_lt (by omega), cond_true, if_pos (by simp), hs', Option.bind_some]
    by_cases he : e = 0
    · cases hof with
      | bad _ h => exact absurd he h
      | give h1 h2 h3 => exact absurd h2 (by decide)
      | work h1 h2 h3 =>
        refine ⟨workR r, work_right h h3, cont_work h h3, fun _ => ?_, ?_⟩
        · unfold workR; simp only; unfold A up at *; omega
        · simp only [bne_self_eq_false, cond_false]
          rfl
      | take h1 h2 h3 => exact absurd h2 (by decide)
    · have hb : (e != 0) = true := by simpa using he
      simp only [hb, cond_true]
      cases hof with
      | bad _ _ hh =>
        have := (hh h).2.1 rfl
        refine ⟨r, h, rfl, fun hl => ?_, rfl⟩
        rw [cont_len] at hl
        unfold A at *; omega
      | give h1 h2 h3 => exact absurd rfl he
      | work h1 h2 h3 => exact absurd rfl he
      | take h1 h2 h3 => exact absurd rfl he
  rw [e1]
  obtain ⟨r', g, e, hs, hof⟩ := Step_cases r1 ⟨3, 0⟩
  have hs' : ring_Step (⟨r1.Cells, r1.Give, r1.Take, r1.Work⟩ : Api_Ring) (⟨([2, 3].getD (0 + 1) 0), 0⟩ : Api_RingOp) = some (r', g, e) := hs
  rw [keep_RingOrder_l3, dec_lt (by omega), cond_true, if_pos (by simp), hs', Option.bind_some]
  have hend : ∀ (T : List Int) (r : Api_Ring), keep_RingOrder_l3 l43 x44 x45 x46 l47 K (F + 1) T (1 + 1) r.Cells r.Give r.Take r.Work = K T 2 r.Cells r.Give r.Take r.Work := by
    intro T r
    rw [keep_RingOrder_l3, dec_ge (by omega), cond_false]
  by_cases he : e = 0
  · cases hof with
    | bad _ h => exact absurd he h
    | give h1 h2 h3 => exact absurd h2 (by decide)
    | work h1 h2 h3 => exact absurd h2 (by decide)
    | take h1 h2 h3 =>
      have hct := cont_take hr1 h3
      simp only [bne_self_eq_false, cond_false]
      rw [show (([2, 3].getD (0 + 1) 0 : Int) == 3) = true from rfl, cond_true, if_pos (by rw [← hc1, hct, List.length_cons] at hT; simp only [List.length_singleton]; omega), hend]
      refine ⟨_, _, rfl, take_right hr1 h3, ?_, ?_⟩
      · rw [← hc1, hct]; simp
      · rw [← hc1, hct]; simp
  · have hb : (e != 0) = true := by simpa using he
    simp only [hb, cond_true]
    rw [hend]
    cases hof with
    | bad _ _ hh =>
      have := (hh hr1).2.2 rfl
      refine ⟨T, r1, rfl, hr1, by rw [hc1], ?_⟩
      rw [hc1]
      have : ¬ 0 < (cont r).length := fun hl => hp1 hl this
      omega
    | give h1 h2 h3 => exact absurd rfl he
    | work h1 h2 h3 => exact absurd rfl he
    | take h1 h2 h3 => exact absurd rfl he

theorem rounds_eq (c : Int) (r4 : List Int × List Int × Api_Ring × Int) (G : List Int) (hc : 2 ≤ c ∧ c ≤ 64) (hG : G.length ≤ 17592186043904) : ∀ (n : Nat) (x : Int) (T : List Int) (r : Api_Ring), 0 ≤ x → x ≤ 3 * c → 3 * c - x < n → RightP r → T ++ cont r = G → ((cont r).length : Int) + x ≤ 3 * c →
    keep_RingOrder_l2 c r4 G n x T r.Give r.Take r.Work r.Cells = some true := by
  intro n
  induction n with
  | zero => intro x T r h1 h2 h3; omega
  | succ n ih =>
    intro x T r h1 h2 h3 hr hTG hl
    unfold keep_RingOrder_l2
    rw [wrap_id (x := 3 * c) (by omega) (by omega)]
    have hTl : T.length + (cont r).length = G.length := by rw [← hTG, List.length_append]
    by_cases hx : x < 3 * c
    · rw [show decide (x < 3 * c) = true by simpa using hx, cond_true]
      obtain ⟨T', r', e, hr', hc', hl'⟩ := round_eq T r.Give r.Take r.Work r.Cells (fun (l49 : List Int) (k50 : Nat) (l51 : List Api_Cell) (x52 : Int) (x53 : Int) (x54 : Int) =>
          keep_RingOrder_l2 c r4 G n (IntKind.i64.wrap (x + 1)) l49 x52 x53 x54 l51) T r hr (by omega)
      rw [e, wrap_id (by omega) (by omega)]
      exact ih (x + 1) T' r' (by omega) (by omega) (by omega) hr' (hc'.trans hTG) (by omega)
    · rw [show decide (x < 3 * c) = false by simpa using hx, cond_false]
      have h0 : cont r = [] := List.eq_nil_of_length_eq_zero (by omega)
      rw [h0, List.append_nil] at hTG
      rw [slices_Equal_int_eq _ _ (by omega), hTG]
      simp

theorem order_l1_eq (c : Int) (ops : List Api_RingOp) (hc : 2 ≤ c ∧ c ≤ 64) (hops : ops.length * 16 ≤ 140737488351232) (errs taken : List Int) (r : Api_Ring) (hg : Good ops (errs, taken, r) c.toNat) : ∀ n k (l : List Int), k ≤ ops.length → ops.length - k < n → l.length ≤ k → l ++ ((ops.drop k).zip (errs.drop k)).flatMap givOf = taken ++ cont r →
    keep_RingOrder_l1 c ops (errs, taken, r, 0) n l k = some true := by
  have hel : errs.length = ops.length := hg.el
  have htl : taken.length ≤ ops.length := hg.tl
  have hr : RightP r := hg.r
  have hm : r.Cells.length = c.toNat := hg.m
  intro n
  induction n with
  | zero => intro k l h1 h2; omega
  | succ n ih =>
    intro k l hk hn hl hz
    unfold keep_RingOrder_l1
    rcases Nat.lt_or_ge k ops.length with hlt | hge
    · have hlt2 : k < errs.length := by omega
      rw [dec_lt hlt, cond_true, if_pos (by simp only; exact idx_ok hlt2), Nat.zero_add, getD_lt _ _ hlt]
      simp only
      rw [getD_lt errs _ hlt2]
      rw [List.drop_eq_getElem_cons hlt, List.drop_eq_getElem_cons hlt2, List.zip_cons_cons, List.flatMap_cons] at hz
      by_cases hg2 : errs[k] = 0 ∧ ops[k].Kind = 1
      · have : ((errs[k] == 0) && (ops[k].Kind == 1)) = true := by simp [hg2]
        rw [this, cond_true, if_pos (by simp only [List.length_singleton]; omega)]
        rw [givOf, if_pos hg2] at hz
        exact ih (k + 1) _ (by omega) (by omega) (by simp; omega) (by rw [← hz, List.append_assoc]; rfl)
      · have : ((errs[k] == 0) && (ops[k].Kind == 1)) = false := by
          rw [Bool.and_eq_false_iff]
          simp
          by_cases h0 : errs[k] = 0
          · exact .inr fun h1 => hg2 ⟨h0, h1⟩
          · exact .inl h0
        rw [this, cond_false]
        rw [givOf, if_neg hg2, List.nil_append] at hz
        exact ih (k + 1) _ (by omega) (by omega) (by omega) hz
    · rw [dec_ge hge, cond_false]
      rw [List.drop_of_length_le hge, List.zip_nil_left, List.flatMap_nil, List.append_nil] at hz
      subst hz
      have hll : (taken ++ cont r).length = taken.length + (cont r).length := List.length_append
      obtain ⟨b, hb, hbp⟩ := Right_cases r
      simp only
      rw [hb, hbp.2 hr, Option.bind_some]
      have hd : decide ((((taken.length : Nat) : Int) : Int) > (((taken ++ cont r).length : Nat) : Int)) = false := by rw [hll]; simp; omega
      rw [hd]
      simp only [Bool.not_true, Bool.or_false, Bool.not_false, cond_true, Nat.add_zero, List.drop_zero, Nat.sub_zero]
      rw [if_pos (by intro; omega), if_pos (by intro; omega), slices_Equal_int_eq _ _ (by omega), Option.bind_some, List.take_left]
      simp only [decide_true, Bool.not_true, cond_false, Bool.or_self]
      refine rounds_eq c _ _ hc (by omega) FUEL 0 taken r (by omega) (by omega) ?_ hr rfl ?_
      · have := fuel_gt (n := 3 * c.toNat) (by omega); omega
      · have := cont_len r
        have := hr.g; have := hr.t
        unfold A at *
        omega
theorem RingOrder_true (a0 : Int) (a1 : List Api_RingOp) (h0 : -9223372036854775808 ≤ a0 ∧ a0 ≤ 9223372036854775807) (h1 : a1.length * 16 ≤ 140737488351232 ∧ ∀ y ∈ a1, Ok_Api_RingOp y) : keep_RingOrder a0 a1 = some true := by
  unfold keep_RingOrder
  have l1 := h1.1
  rw [alive18_eq, Option.bind_some, Bool.not_true, cond_false]
  rcases Play_cases a0 a1 l1 with ⟨r, h⟩ | ⟨hc, errs, taken, r, h, hg⟩
  · rw [h]; rfl
  · rw [h, Option.bind_some]
    have hel : errs.length = a1.length := hg.el
    simp only [hel, bne_self_eq_false, Bool.or_self, cond_false]
    refine order_l1_eq a0 a1 hc l1 errs taken r hg FUEL 0 [] (by omega) (fuel_gt (by omega)) (by simp) ?_
    simpa using hg.c
end Go.Proofs.Ytgelldlehahabaa
