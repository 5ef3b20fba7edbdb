/- Plain laws of ring. -/
import Derived.Test.YtgelldlehahabaaQLM
import Derived.Test.YtgelldlehahabaaPLib
import Derived.Test.YtgelldlehahabaaQLK
set_option linter.unusedSimpArgs false
set_option linter.unusedVariables false
namespace Go.Proofs.Ytgelldlehahabaa
open Go Go.Ab

theorem alive18_eq : keep_alive18 = some true := by decide +kernel

/-- how far t is ahead of f, round n cells -/
def A (n f t : Int) : Int := if f ≤ t then t - f else t - f + n
abbrev CZ : Api_Cell := ⟨false, 0⟩
theorem ahead_eq (r : Api_Ring) (f t : Int) (hn : 2 ≤ r.Cells.length ∧ r.Cells.length ≤ 64) (hf : 0 ≤ f ∧ f < r.Cells.length) (ht : 0 ≤ t ∧ t < r.Cells.length) : ring_ahead r f t = some (A r.Cells.length f t) := by
  unfold ring_ahead A
  rw [if_pos (by omega)]
  generalize hm : ((r.Cells.length : Nat) : Int) = n at *
  rw [wrap_id (x := t - f) (by omega) (by omega), wrap_id (by omega) (by omega)]
  congr 1
  rw [Int.tmod_eq_emod_of_nonneg (by omega)]
  split
  · rw [Int.add_emod_right, Int.emod_eq_of_lt (by omega) (by omega)]
  · rw [Int.emod_eq_of_lt (by omega) (by omega)]
def up (n x : Int) : Int := if x + 1 = n then 0 else x + 1
theorem up_eq (n x : Int) (hn : 2 ≤ n ∧ n ≤ 64) (h : 0 ≤ x ∧ x < n) : Int.tmod (IntKind.i64.wrap (x + 1)) n = up n x := by
  rw [wrap_id (by omega) (by omega), Int.tmod_eq_emod_of_nonneg (by omega)]
  unfold up
  split
  · rename_i h; rw [h, Int.emod_self]
  · rw [Int.emod_eq_of_lt (by omega) (by omega)]

structure RightP (r : Api_Ring) : Prop where
  n : 2 ≤ r.Cells.length ∧ r.Cells.length ≤ 64
  g : 0 ≤ r.Give ∧ r.Give < r.Cells.length
  t : 0 ≤ r.Take ∧ r.Take < r.Cells.length
  w : 0 ≤ r.Work ∧ r.Work < r.Cells.length
  le : A r.Cells.length r.Take r.Work ≤ A r.Cells.length r.Take r.Give
  c : ∀ k : Nat, k < r.Cells.length → ((r.Cells.getD k CZ).Device = true ↔ (A r.Cells.length r.Take r.Work ≤ A r.Cells.length r.Take k ∧ A r.Cells.length r.Take k < A r.Cells.length r.Take r.Give)) ∧ (A r.Cells.length r.Take r.Give ≤ A r.Cells.length r.Take k → (r.Cells.getD k CZ).Data = 0)

theorem right_l1_eq (r : Api_Ring) (hn : 2 ≤ r.Cells.length ∧ r.Cells.length ≤ 64) (hg : 0 ≤ r.Give ∧ r.Give < r.Cells.length) (ht : 0 ≤ r.Take ∧ r.Take < r.Cells.length) (hw : 0 ≤ r.Work ∧ r.Work < r.Cells.length) : ∀ n k, k ≤ r.Cells.length → r.Cells.length - k < n →
    ∃ b, ring_Right_l1 r n k = some b ∧ (b = true ↔ ∀ j : Nat, k ≤ j → j < r.Cells.length → ((r.Cells.getD j CZ).Device = true ↔ (A r.Cells.length r.Take r.Work ≤ A r.Cells.length r.Take j ∧ A r.Cells.length r.Take j < A r.Cells.length r.Take r.Give)) ∧ (A r.Cells.length r.Take r.Give ≤ A r.Cells.length r.Take j → (r.Cells.getD j CZ).Data = 0)) := by
  intro n
  induction n with
  | zero => intro k h1 h2; omega
  | succ n ih =>
    intro k h1 h2
    unfold ring_Right_l1
    rcases Nat.lt_or_ge k r.Cells.length with hlt | hge
    · rw [dec_lt hlt, cond_true, ahead_eq r _ _ hn ht (by omega), Option.bind_some, ahead_eq r _ _ hn ht hw, Option.bind_some, ahead_eq r _ _ hn ht hg]
      generalize hc : r.Cells.getD k CZ = c
      have hsplit : ∀ P : Nat → Prop, (∀ j : Nat, k ≤ j → j < r.Cells.length → P j) ↔ (P k ∧ ∀ j : Nat, k + 1 ≤ j → j < r.Cells.length → P j) := by
        intro P
        refine ⟨fun h => ⟨h k (by omega) hlt, fun j hj => h j (by omega)⟩, fun h j hj hl => ?_⟩
        by_cases e : j = k
        · subst e; exact h.1
        · exact h.2 j (by omega) hl
      rw [hsplit, hc]
      obtain ⟨b, hb, hib⟩ := ih (k + 1) (by omega) (by omega)
      rw [hb, ← hib]
      generalize A r.Cells.length r.Take k = p
      generalize A r.Cells.length r.Take r.Work = q
      generalize A r.Cells.length r.Take r.Give = s
      have h5 : s ≤ p ↔ ¬ p < s := by omega
      refine ⟨b && decide ((c.Device = true ↔ q ≤ p ∧ p < s) ∧ (s ≤ p → c.Data = 0)), ?_, by rw [Bool.and_eq_true, decide_eq_true_eq]; exact and_comm⟩
      have h6 : (c.Data = 0) ↔ (c.Data != 0) = false := by simp
      simp only [h6, h5]
      generalize (c.Data != 0) = d
      by_cases h1 : q ≤ p <;> by_cases h2 : p < s <;> cases d <;> cases h4 : c.Device <;> simp [h1, h2, h4, h5]
    · rw [dec_ge hge, cond_false]
      exact ⟨true, rfl, by simp; intro j h1 h2; omega⟩
theorem Right_cases (r : Api_Ring) : ∃ b, ring_Right r = some b ∧ (b = true ↔ RightP r) := by
  unfold ring_Right
  generalize hmn : (if (r.Work : Int) < (if (r.Take : Int) < r.Give then r.Take else r.Give) then r.Work else (if (r.Take : Int) < r.Give then r.Take else r.Give)) = mn
  generalize hmx : (if (r.Work : Int) > (if (r.Take : Int) > r.Give then r.Take else r.Give) then r.Work else (if (r.Take : Int) > r.Give then r.Take else r.Give)) = mx
  by_cases hb : (2 ≤ r.Cells.length ∧ r.Cells.length ≤ 64) ∧ 0 ≤ mn ∧ mx < r.Cells.length
  · obtain ⟨hn, h1, h2⟩ := hb
    have e : ((((decide ((((r.Cells.length : Nat) : Int) : Int) < 2)) || (decide ((((r.Cells.length : Nat) : Int) : Int) > 64))) || (decide ((mn : Int) < 0))) || (decide ((mx : Int) ≥ ((r.Cells.length : Nat) : Int)))) = false := by
      simp; omega
    have hgg : 0 ≤ r.Give ∧ r.Give < r.Cells.length := by split at hmn <;> split at hmx <;> omega
    have htt : 0 ≤ r.Take ∧ r.Take < r.Cells.length := by split at hmn <;> split at hmx <;> omega
    have hww : 0 ≤ r.Work ∧ r.Work < r.Cells.length := by split at hmn <;> split at hmx <;> omega
    rw [e, Bool.not_false, cond_true, cond_true, ahead_eq r _ _ hn htt hww, Option.bind_some, ahead_eq r _ _ hn htt hgg, Option.bind_some, Bool.false_or]
    by_cases hle : A r.Cells.length r.Take r.Work ≤ A r.Cells.length r.Take r.Give
    · have : decide (A r.Cells.length r.Take r.Work > A r.Cells.length r.Take r.Give) = false := by simpa using hle
      rw [this, cond_false]
      obtain ⟨b, hb, hib⟩ := right_l1_eq r hn hgg htt hww FUEL 0 (by omega) (fuel_gt (by omega))
      refine ⟨b, hb, hib.trans ⟨fun h => ⟨hn, hgg, htt, hww, hle, fun k hk => h k (by omega) hk⟩, fun h j _ hj => h.c j hj⟩⟩
    · have : decide (A r.Cells.length r.Take r.Work > A r.Cells.length r.Take r.Give) = true := by simpa using hle
      rw [this, cond_true]
      exact ⟨false, rfl, by simp; exact fun h => hle h.le⟩
  · have e : ((((decide ((((r.Cells.length : Nat) : Int) : Int) < 2)) || (decide ((((r.Cells.length : Nat) : Int) : Int) > 64))) || (decide ((mn : Int) < 0))) || (decide ((mx : Int) ≥ ((r.Cells.length : Nat) : Int)))) = true := by
      simp; omega
    rw [e]
    refine ⟨false, rfl, ⟨fun h => absurd h (by decide), fun h => absurd ⟨h.n, ?_, ?_⟩ hb⟩⟩
    · have := h.g; have := h.t; have := h.w
      split at hmn <;> omega
    · have := h.g; have := h.t; have := h.w
      split at hmx <;> omega

def inv (x : Int) : Int := (bitsOf .xor .i64 (if IntKind.i64.signed then -1 else IntKind.i64.max) x)

/-- a ring with one cell set -/
def giveR (r : Api_Ring) (d : Int) : Api_Ring := ⟨r.Cells.set r.Give.toNat ⟨true, d⟩, up r.Cells.length r.Give, r.Take, r.Work⟩
def workR (r : Api_Ring) : Api_Ring := ⟨r.Cells.set r.Work.toNat ⟨false, inv (r.Cells.getD r.Work.toNat CZ).Data⟩, r.Give, r.Take, up r.Cells.length r.Work⟩
def takeR (r : Api_Ring) : Api_Ring := ⟨r.Cells.set r.Take.toNat CZ, r.Give, up r.Cells.length r.Take, r.Work⟩

theorem get_set (l : List Api_Cell) (i k : Nat) (c : Api_Cell) (hi : i < l.length) : (l.set i c).getD k CZ = if k = i then c else l.getD k CZ := by
  rw [List.getD_eq_getElem?_getD, List.getElem?_set, List.getD_eq_getElem?_getD]
  by_cases h : i = k
  · subst h; simp [hi]
  · rw [if_neg h, if_neg (fun e => h e.symm)]

theorem give_right {r : Api_Ring} (h : RightP r) (d : Int) (hf : A r.Cells.length r.Take r.Give ≠ r.Cells.length - 1) : RightP (giveR r d) := by
  obtain ⟨hn, hg, ht, hw, hle, hc⟩ := h
  unfold giveR
  refine ⟨?_, ?_, ?_, ?_, ?_, ?_⟩ <;> simp only [List.length_set] <;> (try assumption) <;> (try (unfold A at *; (try unfold up at *); omega))
  intro k hk
  rw [get_set _ _ _ _ (by omega)]
  have h1 := (hc k hk).1
  have h2 := (hc k hk).2
  by_cases e : k = r.Give.toNat
  · rw [if_pos e]
    simp only [true_iff]
    unfold A at *; (try unfold up at *); constructor <;> omega
  · rw [if_neg e, h1]
    refine ⟨?_, fun hx => h2 ?_⟩ <;> (clear h1 h2 hc; unfold A at *; (try unfold up at *); omega)
theorem work_right {r : Api_Ring} (h : RightP r) (hf : r.Work ≠ r.Give) : RightP (workR r) := by
  obtain ⟨hn, hg, ht, hw, hle, hc⟩ := h
  unfold workR
  generalize inv _ = dd
  refine ⟨?_, ?_, ?_, ?_, ?_, ?_⟩ <;> simp only [List.length_set] <;> (try assumption) <;> (try (unfold A at *; (try unfold up at *); omega))
  intro k hk
  rw [get_set _ _ _ _ (by omega)]
  have h1 := (hc k hk).1
  have h2 := (hc k hk).2
  by_cases e : k = r.Work.toNat
  · rw [if_pos e]
    simp only [Bool.false_eq_true, false_iff]
    clear h1 h2 hc
    unfold A at *; (try unfold up at *); constructor <;> omega
  · rw [if_neg e, h1]
    refine ⟨?_, fun hx => h2 ?_⟩ <;> (clear h1 h2 hc; unfold A at *; (try unfold up at *); omega)
theorem take_right {r : Api_Ring} (h : RightP r) (hf : r.Take ≠ r.Work) : RightP (takeR r) := by
  obtain ⟨hn, hg, ht, hw, hle, hc⟩ := h
  unfold takeR
  refine ⟨?_, ?_, ?_, ?_, ?_, ?_⟩ <;> simp only [List.length_set] <;> (try assumption) <;> (try (unfold A at *; (try unfold up at *); omega))
  intro k hk
  rw [get_set _ _ _ _ (by omega)]
  have h1 := (hc k hk).1
  have h2 := (hc k hk).2
  by_cases e : k = r.Take.toNat
  · rw [if_pos e]
    simp only [Bool.false_eq_true, false_iff]
    clear h1 h2 hc
    unfold A at *; (try unfold up at *); constructor
    · omega
    · intro; trivial
  · rw [if_neg e, h1]
    refine ⟨?_, fun hx => h2 ?_⟩ <;> (clear h1 h2 hc; unfold A at *; (try unfold up at *); omega)

inductive StepOf (r : Api_Ring) (o : Api_RingOp) : Api_Ring → Int → Int → Prop
  | bad (e : Int) : e ≠ 0 → (RightP r → (o.Kind = 1 → A r.Cells.length r.Take r.Give = r.Cells.length - 1) ∧ (o.Kind = 2 → r.Work = r.Give) ∧ (o.Kind = 3 → r.Take = r.Work)) → StepOf r o ⟨[], 0, 0, 0⟩ 0 e
  | give : RightP r → o.Kind = 1 → A r.Cells.length r.Take r.Give ≠ r.Cells.length - 1 → StepOf r o (giveR r o.Data) 0 0
  | work : RightP r → o.Kind = 2 → r.Work ≠ r.Give → StepOf r o (workR r) 0 0
  | take : RightP r → o.Kind = 3 → r.Take ≠ r.Work → StepOf r o (takeR r) (r.Cells.getD r.Take.toNat CZ).Data 0
theorem Step_cases (r : Api_Ring) (o : Api_RingOp) : ∃ r' g e, ring_Step r o = some (r', g, e) ∧ StepOf r o r' g e := by
  unfold ring_Step
  obtain ⟨b, hb, hbp⟩ := Right_cases r
  rw [hb, Option.bind_some]
  cases b with
  | false => exact ⟨_, _, _, rfl, .bad _ (by decide) (fun h => absurd (hbp.2 h) (by decide))⟩
  | true =>
    have hp := hbp.1 rfl
    obtain ⟨hn, hg, ht, hw, -, -⟩ := id hp
    rw [Bool.not_true, cond_false]
    unfold slices_Clone_api_Cell
    rw [if_pos (by omega), Option.bind_some]
    have hz : (((r.Cells.length : Nat) : Int) : Int) ≠ 0 := by omega
    by_cases k1 : o.Kind = 1
    · rw [show ((o.Kind : Int) == 1) = true by simp [k1], cond_true, ahead_eq r _ _ hn ht hg, Option.bind_some, wrap_id (by omega) (by omega)]
      by_cases hf : A r.Cells.length r.Take r.Give = r.Cells.length - 1
      · rw [show (A r.Cells.length r.Take r.Give == ((r.Cells.length : Nat) : Int) - 1) = true by simp [hf], cond_true]
        exact ⟨_, _, _, rfl, .bad _ (by decide) (fun _ => ⟨fun _ => hf, by omega, by omega⟩)⟩
      · rw [show (A r.Cells.length r.Take r.Give == ((r.Cells.length : Nat) : Int) - 1) = false by simpa using hf, cond_false, if_pos (by omega), if_pos hz, up_eq _ _ (by omega) hg, Nat.zero_add]
        exact ⟨_, _, _, rfl, .give hp k1 hf⟩
    rw [show ((o.Kind : Int) == 1) = false by simp [k1], cond_false]
    by_cases k2 : o.Kind = 2
    · rw [show ((o.Kind : Int) == 2) = true by simp [k2], cond_true]
      by_cases hf : r.Work = r.Give
      · rw [show (r.Work == r.Give) = true by simp [hf], cond_true]
        exact ⟨_, _, _, rfl, .bad _ (by decide) (fun _ => ⟨by omega, fun _ => hf, by omega⟩)⟩
      · rw [show (r.Work == r.Give) = false by simpa using hf, cond_false, if_pos (by omega), if_pos (by omega), if_pos hz, up_eq _ _ (by omega) hw, Nat.zero_add]
        exact ⟨_, _, _, rfl, .work hp k2 hf⟩
    rw [show ((o.Kind : Int) == 2) = false by simp [k2], cond_false]
    by_cases k3 : o.Kind = 3
    · rw [show ((o.Kind : Int) == 3) = true by simp [k3], cond_true]
      by_cases hf : r.Take = r.Work
      · rw [show (r.Take == r.Work) = true by simp [hf], cond_true]
        exact ⟨_, _, _, rfl, .bad _ (by decide) (fun _ => ⟨by omega, by omega, fun _ => hf⟩)⟩
      · rw [show (r.Take == r.Work) = false by simpa using hf, cond_false, if_pos (by omega), if_pos (by omega), if_pos hz, up_eq _ _ (by omega) ht, Nat.zero_add]
        exact ⟨_, _, _, rfl, .take hp k3 hf⟩
    rw [show ((o.Kind : Int) == 3) = false by simp [k3], cond_false]
    exact ⟨_, _, _, rfl, .bad _ (by decide) (fun _ => ⟨by omega, by omega, by omega⟩)⟩
theorem step_right {r r' : Api_Ring} {o : Api_RingOp} {g e : Int} (h : StepOf r o r' g e) (he : e = 0) : RightP r' ∧ r'.Cells.length = r.Cells.length := by
  cases h with
  | bad _ h => exact absurd he h
  | give h k f => exact ⟨give_right h _ f, by simp [giveR]⟩
  | work h k f => exact ⟨work_right h f, by simp [workR]⟩
  | take h k f => exact ⟨take_right h f, by simp [takeR]⟩

/- the one place that a step changes -/
theorem step_place {r r' : Api_Ring} {o : Api_RingOp} {g e : Int} (h : StepOf r o r' g e) (he : e = 0) : ∃ p : Nat, p < r.Cells.length ∧ (∀ k, k ≠ p → r'.Cells.getD k CZ = r.Cells.getD k CZ) ∧ (r.Cells.getD p CZ).Device = (o.Kind == 2) ∧ (r'.Cells.getD p CZ).Device = (o.Kind == 1) := by
  cases h with
  | bad _ h => exact absurd he h
  | give h k f =>
    have := h.g; have := h.t; have := h.w; have hle := h.le
    refine ⟨r.Give.toNat, by omega, fun k hk => ?_, ?_, ?_⟩
    · simp only [giveR]; rw [get_set _ _ _ _ (by omega), if_neg hk]
    · have := (h.c r.Give.toNat (by omega)).1
      rw [show ((r.Give.toNat : Nat) : Int) = r.Give by omega] at this
      rw [k]
      cases hd : (r.Cells.getD r.Give.toNat CZ).Device with
      | false => rfl
      | true => have := this.1 hd; omega
    · simp only [giveR]; rw [get_set _ _ _ _ (by omega), if_pos rfl, k]; rfl
  | work h k f =>
    have := h.g; have := h.t; have := h.w; have hle := h.le
    refine ⟨r.Work.toNat, by omega, fun k hk => ?_, ?_, ?_⟩
    · simp only [workR]; rw [get_set _ _ _ _ (by omega), if_neg hk]
    · have := (h.c r.Work.toNat (by omega)).1
      rw [show ((r.Work.toNat : Nat) : Int) = r.Work by omega] at this
      rw [k, this.2 (by unfold A at *; omega)]
      rfl
    · simp only [workR]; rw [get_set _ _ _ _ (by omega), if_pos rfl, k]; rfl
  | take h k f =>
    have := h.g; have := h.t; have := h.w; have hle := h.le
    refine ⟨r.Take.toNat, by omega, fun k hk => ?_, ?_, ?_⟩
    · simp only [takeR]; rw [get_set _ _ _ _ (by omega), if_neg hk]
    · have := (h.c r.Take.toNat (by omega)).1
      rw [show ((r.Take.toNat : Nat) : Int) = r.Take by omega] at this
      rw [k]
      cases hd : (r.Cells.getD r.Take.toNat CZ).Device with
      | false => rfl
      | true => have := this.1 hd; unfold A at *; omega
    · simp only [takeR]; rw [get_set _ _ _ _ (by omega), if_pos rfl, k]; rfl

theorem new_right (m : Nat) (hm : 2 ≤ m ∧ m ≤ 64) : RightP ⟨List.replicate m CZ, 0, 0, 0⟩ := by
  refine ⟨?_, ?_, ?_, ?_, ?_, ?_⟩ <;> simp only [List.length_replicate] <;> (try omega)
  intro k hk
  have : (List.replicate m CZ).getD k CZ = CZ := by
    rw [List.getD_eq_getElem?_getD, List.getElem?_replicate]
    split <;> rfl
  rw [this]
  unfold A
  simp

theorem mul_eq : ∀ n : Fin 65, math_bits_Mul (IntKind.u64.wrap ((1 : Nat) : Int)) (IntKind.u64.wrap (n.val : Int)) = some (0, (n.val : Int)) := by decide +kernel
abbrev OZ : Api_RingOp := ⟨0, 0⟩
theorem cp_rep (v : Api_RingOp) (N x : Nat) (h1 : 1 ≤ x) (h2 : x < N) : cpL (List.replicate x v ++ List.replicate (N - x) OZ) x (min x (N - x)) (List.replicate x v) = List.replicate (x + min x (N - x)) v ++ List.replicate (N - (x + min x (N - x))) OZ := by
  unfold cpL
  have hm := Nat.min_le_left x (N - x)
  have hm2 := Nat.min_le_right x (N - x)
  generalize min x (N - x) = m at *
  rw [List.take_left' (by simp), List.take_replicate, Nat.min_eq_left hm, List.replicate_append_replicate]
  congr 1
  rw [List.drop_append, List.drop_of_length_le (by simp), List.length_replicate, List.drop_replicate, List.nil_append]
  congr 1
  omega
theorem rep_l1_eq (v : Api_RingOp) (a0 : List Api_RingOp) (r2 : Int × Int) (N : Nat) (hN : N ≤ 64) : ∀ n x, 1 ≤ x → x ≤ N → N - x < n →
    slices_Repeat_api_RingOp_l1 a0 r2 n (x : Int) (List.replicate x v ++ List.replicate (N - x) OZ) = some (List.replicate N v) := by
  intro n
  induction n with
  | zero => intro x h1 h2 h3; omega
  | succ n ih =>
    intro x h1 h2 h3
    have hlen : (List.replicate x v ++ List.replicate (N - x) OZ).length = N := by simp; omega
    unfold slices_Repeat_api_RingOp_l1
    rw [hlen]
    rcases Nat.lt_or_ge x N with hlt | hge
    · rw [dec_lt hlt, cond_true]
      have e1 : ((List.replicate x v ++ List.replicate (N - x) OZ).drop (0 + 0)).take (x - 0) = List.replicate x v := by
        rw [Nat.add_zero, List.drop_zero, Nat.sub_zero, List.take_left' (by simp)]
      simp only [Int.toNat_natCast, e1, List.length_replicate, Nat.zero_add]
      have hm := Nat.min_le_left x (N - x)
      have hm2 := Nat.min_le_right x (N - x)
      rw [if_pos (by omega), if_pos (by omega), if_pos (by omega), if_pos (by omega), if_pos (by omega), cp_rep v N x h1 hlt,
        show IntKind.i64.wrap ((x : Int) + ((min x (N - x) : Nat) : Int)) = ((x + min x (N - x) : Nat) : Int) by rw [wrap_id (by omega) (by omega)]; omega]
      exact ih (x + min x (N - x)) (by omega) (by omega) (by omega)
    · rw [dec_ge hge, cond_false]
      have : x = N := by omega
      subst this
      simp
theorem Repeat_eq (v : Api_RingOp) (N : Nat) (h : 1 ≤ N ∧ N ≤ 64) : slices_Repeat_api_RingOp [v] (N : Int) = some (List.replicate N v) := by
  unfold slices_Repeat_api_RingOp
  have hm := mul_eq ⟨N, by omega⟩
  simp only at hm
  rw [show decide (((N : Nat) : Int) < 0) = false from decide_eq_false (by omega), cond_false, List.length_singleton, hm, Option.bind_some]
  simp only
  rw [show ((decide ((0 : Int) > 0)) || (decide (((N : Nat) : Int) > 9223372036854775807))) = false by simp; omega, cond_false, wrap_id (by omega) (by omega), Int.toNat_natCast, if_pos (by omega), if_pos (by rw [List.length_replicate]; omega), show min 1 N = 1 by omega]
  have e : cpL (List.replicate N OZ) 0 1 [v] = List.replicate 1 v ++ List.replicate (N - 1) OZ := by
    unfold cpL
    rw [List.drop_replicate]
    simp
  rw [e]
  exact rep_l1_eq v _ _ N h.2 FUEL 1 (by omega) h.1 (fuel_gt (by omega))

theorem step_full {r : Api_Ring} (h : RightP r) (d : Int) (hf : A r.Cells.length r.Take r.Give = r.Cells.length - 1) : ring_Step r ⟨1, d⟩ = some (⟨[], 0, 0, 0⟩, 0, 7) := by
  obtain ⟨hn, hg, ht, hw, -, -⟩ := id h
  unfold ring_Step
  obtain ⟨b, hb, hbp⟩ := Right_cases r
  rw [hb, hbp.2 h, Option.bind_some, Bool.not_true, cond_false]
  unfold slices_Clone_api_Cell
  rw [if_pos (by omega), Option.bind_some]
  simp only [beq_self_eq_true, cond_true]
  rw [ahead_eq r _ _ hn ht hg, Option.bind_some, wrap_id (by omega) (by omega), show (A r.Cells.length r.Take r.Give == ((r.Cells.length : Nat) : Int) - 1) = true by simp [hf], cond_true]
theorem step_give {r : Api_Ring} (h : RightP r) (d : Int) (hf : A r.Cells.length r.Take r.Give ≠ r.Cells.length - 1) : ring_Step r ⟨1, d⟩ = some (giveR r d, 0, 0) := by
  obtain ⟨r', g, e, hs, hof⟩ := Step_cases r ⟨1, d⟩
  cases hof with
  | bad _ _ hh => exact absurd ((hh h).1 rfl) hf
  | give => exact hs
  | work _ k => exact absurd k (by simp)
  | take _ k => exact absurd k (by simp)
theorem step_work {r : Api_Ring} (h : RightP r) (hf : r.Work ≠ r.Give) : ring_Step r ⟨2, 0⟩ = some (workR r, 0, 0) := by
  obtain ⟨r', g, e, hs, hof⟩ := Step_cases r ⟨2, 0⟩
  cases hof with
  | bad _ _ hh => exact absurd ((hh h).2.1 rfl) hf
  | give _ k => exact absurd k (by decide)
  | work => exact hs
  | take _ k => exact absurd k (by decide)
theorem step_take {r : Api_Ring} (h : RightP r) (hf : r.Take ≠ r.Work) : ring_Step r ⟨3, 0⟩ = some (takeR r, (r.Cells.getD r.Take.toNat CZ).Data, 0) := by
  obtain ⟨r', g, e, hs, hof⟩ := Step_cases r ⟨3, 0⟩
  cases hof with
  | bad _ _ hh => exact absurd ((hh h).2.2 rfl) hf
  | give _ k => exact absurd k (by decide)
  | work _ k => exact absurd k (by decide)
  | take => exact hs
theorem giveR_A {r : Api_Ring} (h : RightP r) (d : Int) (hf : A r.Cells.length r.Take r.Give ≠ r.Cells.length - 1) : A (giveR r d).Cells.length (giveR r d).Take (giveR r d).Give = A r.Cells.length r.Take r.Give + 1 := by
  obtain ⟨hn, hg, ht, hw, -, -⟩ := h
  unfold giveR
  simp only [List.length_set]
  unfold A up at *
  omega

/- one thing behind the other -/
theorem play_one (ops : List Api_RingOp) (r1 : Api_Ring × Int) (hops : ops.length ≤ 100) (n k : Nat) (errs taken : List Int) (r r' : Api_Ring) (g e : Int) (hk : k < ops.length) (hel : errs.length ≤ 100) (htl : taken.length ≤ 100) (hs : ring_Step r (ops.getD k OZ) = some (r', g, e)) :
    ring_Play_l1 ops r1 (n + 1) errs taken k r.Cells r.Give r.Take r.Work =
      if e = 0 then ring_Play_l1 ops r1 n (errs ++ [e]) (if (ops.getD k OZ).Kind = 3 then taken ++ [g] else taken) (k + 1) r'.Cells r'.Give r'.Take r'.Work
      else ring_Play_l1 ops r1 n (errs ++ [e]) taken (k + 1) r.Cells r.Give r.Take r.Work := by
  rw [ring_Play_l1, dec_lt hk, cond_true]
  have hs' : ring_Step (⟨r.Cells, r.Give, r.Take, r.Work⟩ : Api_Ring) (ops.getD k OZ) = some (r', g, e) := hs
  rw [hs', Option.bind_some]
  by_cases he : e = 0
  · rw [if_pos he]
    simp only [show (e == 0) = true by simp [he], cond_true]
    by_cases hk3 : (ops.getD k OZ).Kind = 3
    · rw [show ((ops.getD k OZ).Kind == 3) = true from beq_iff_eq.2 hk3, cond_true, if_pos hk3, if_pos (by simp only [List.length_singleton]; omega), if_pos (by simp only [List.length_singleton]; omega)]
    · rw [show ((ops.getD k OZ).Kind == 3) = false from beq_eq_false_iff_ne.2 hk3, cond_false, if_neg hk3, if_pos (by simp only [List.length_singleton]; omega)]
  · rw [if_neg he]
    simp only [show (e == 0) = false by simp [he], cond_false]
    rw [if_pos (by simp only [List.length_singleton]; omega)]
theorem gives (N : Nat) (d : Int) (hN : 2 ≤ N ∧ N ≤ 64) (rest : List Api_RingOp) (hr : rest.length ≤ 10) (r1 : Api_Ring × Int) (n : Nat) : ∀ (j : Nat) (k : Nat) (r : Api_Ring), k + j = N - 1 → RightP r → r.Cells.length = N → A r.Cells.length r.Take r.Give = k → (0 < k → r.Work = r.Take) → r.Work = r.Take →
    ∃ r', ring_Play_l1 (List.replicate N ⟨1, d⟩ ++ rest) r1 (n + j) (List.replicate k 0) [] k r.Cells r.Give r.Take r.Work = ring_Play_l1 (List.replicate N ⟨1, d⟩ ++ rest) r1 n (List.replicate (N - 1) 0) [] (N - 1) r'.Cells r'.Give r'.Take r'.Work ∧ RightP r' ∧ r'.Cells.length = N ∧ A r'.Cells.length r'.Take r'.Give = N - 1 ∧ r'.Work = r'.Take := by
  intro j
  induction j with
  | zero =>
    intro k r h1 h2 h3 h4 _ h5
    have : k = N - 1 := by omega
    subst this
    exact ⟨r, rfl, h2, h3, by rw [h4]; omega, h5⟩
  | succ j ih =>
    intro k r h1 h2 h3 h4 _ h5
    have hget : (List.replicate N (⟨1, d⟩ : Api_RingOp) ++ rest).getD k OZ = ⟨1, d⟩ := by
      rw [List.getD_eq_getElem?_getD, List.getElem?_append_left (by simp; omega), List.getElem?_replicate, if_pos (by omega)]
      rfl
    have hne : A r.Cells.length r.Take r.Give ≠ r.Cells.length - 1 := by rw [h4, h3]; omega
    rw [show n + (j + 1) = (n + j) + 1 by omega, play_one _ r1 (by simp; omega) (n + j) k _ _ r (giveR r d) 0 0 (by simp; omega) (by simp; omega) (by simp) (by rw [hget]; exact step_give h2 d hne), if_pos rfl, hget]
    simp only [show ((1 : Int) = 3) = False by simp, if_false]
    rw [show List.replicate k (0 : Int) ++ [0] = List.replicate (k + 1) 0 by rw [List.replicate_succ']]
    obtain ⟨r', e, q⟩ := ih (k + 1) (giveR r d) (by omega) (give_right h2 d hne) (by simp [giveR, h3]) (by rw [giveR_A h2 d hne, h4]; omega) (fun _ => by simp [giveR, h5]) (by simp [giveR, h5])
    exact ⟨r', e, q⟩
abbrev REST : List Api_RingOp := [(⟨2, 0⟩ : Api_RingOp), (⟨1, 0⟩ : Api_RingOp), (⟨3, 0⟩ : Api_RingOp), (⟨1, 0⟩ : Api_RingOp)]
theorem RingRoom_true (a0 a1 : Int) (h0 : -9223372036854775808 ≤ a0 ∧ a0 ≤ 9223372036854775807) (h1 : -9223372036854775808 ≤ a1 ∧ a1 ≤ 9223372036854775807) : keep_RingRoom a0 a1 = some true := by
  unfold keep_RingRoom
  rw [alive18_eq, Option.bind_some, Bool.not_true, cond_false]
  by_cases hv : 2 ≤ a0 ∧ a0 ≤ 64
  · obtain ⟨N, rfl⟩ := Int.eq_ofNat_of_zero_le (show 0 ≤ a0 by omega)
    have hN : 2 ≤ N ∧ N ≤ 64 := by omega
    rw [show ((decide (((N : Nat) : Int) < 2)) || (decide (((N : Nat) : Int) > 64))) = false by simp; omega, cond_false, Repeat_eq _ N (by omega), Option.bind_some, if_pos (by simp; omega)]
    have hplay : ∃ r : List Int × Api_Ring, ring_Play N (List.replicate N (⟨1, a1⟩ : Api_RingOp) ++ REST) = some (List.replicate (N - 1) 0 ++ [7] ++ [0] ++ [7] ++ [0] ++ [0], r.1, r.2, 0) := by
      unfold ring_Play ring_New
      rw [show ((decide (((N : Nat) : Int) < 2)) || (decide (((N : Nat) : Int) > 64))) = false by simp; omega, cond_false, if_pos (by omega), Option.bind_some]
      simp only [bne_self_eq_false, cond_false, Int.toNat_natCast]
      obtain ⟨F, hF⟩ : ∃ F, FUEL = (F + 6) + (N - 1) := ⟨FUEL - (N - 1) - 6, by have := fuel_gt (n := N + 6) (by omega); omega⟩
      rw [hF]
      have hlen : (List.replicate N (⟨1, a1⟩ : Api_RingOp) ++ REST).length = N + 4 := by simp
      have hget : ∀ j, j < N → (List.replicate N (⟨1, a1⟩ : Api_RingOp) ++ REST).getD j OZ = ⟨1, a1⟩ := fun j hj => by
        rw [List.getD_eq_getElem?_getD, List.getElem?_append_left (by simp; omega), List.getElem?_replicate, if_pos hj]
        rfl
      have hget2 : ∀ j, (List.replicate N (⟨1, a1⟩ : Api_RingOp) ++ REST).getD (N + j) OZ = REST.getD j OZ := fun j => by
        rw [List.getD_eq_getElem?_getD, List.getElem?_append_right (by simp), List.length_replicate, Nat.add_sub_cancel_left, List.getD_eq_getElem?_getD]
      have hnew := new_right N hN
      obtain ⟨r, e, hr, hrl, hrA, hrw⟩ := gives N a1 hN REST (by simp) ((⟨List.replicate N CZ, 0, 0, 0⟩ : Api_Ring), 0) (F + 6) (N - 1) 0 ⟨List.replicate N CZ, 0, 0, 0⟩ (by omega) hnew (by simp) (by simp [A]) (fun _ => rfl) rfl
      simp only [List.replicate_zero] at e
      rw [e]
      generalize hops : List.replicate N (⟨1, a1⟩ : Api_RingOp) ++ REST = ops at *
      have hg := hr.g; have ht := hr.t; have hn := hr.n; have hle := hr.le
      have hf : A r.Cells.length r.Take r.Give = r.Cells.length - 1 := by rw [hrA, hrl]
      -- full
      rw [play_one ops _ (by omega) (F + 5) (N - 1) _ _ r ⟨[], 0, 0, 0⟩ 0 7 (by omega) (by simp; omega) (by simp) (by rw [hget (N - 1) (by omega)]; exact step_full hr a1 hf), if_neg (by decide), show N - 1 + 1 = N by omega]
      -- work
      have hwg : r.Work ≠ r.Give := by rw [hrw]; unfold A at hf; omega
      have hw := work_right hr hwg
      have hwf : A (workR r).Cells.length (workR r).Take (workR r).Give = (workR r).Cells.length - 1 := by
        unfold workR
        simp only [List.length_set]
        exact hf
      have g0 := hget2 0
      have g1 := hget2 1
      have g2 := hget2 2
      have g3 := hget2 3
      simp only [Nat.add_zero] at g0
      rw [play_one ops _ (by omega) (F + 4) N _ _ r (workR r) 0 0 (by omega) (by simp; omega) (by simp) (by rw [g0]; exact step_work hr hwg), if_pos rfl, g0]
      -- full yet
      rw [play_one ops _ (by omega) (F + 3) (N + 1) _ _ (workR r) ⟨[], 0, 0, 0⟩ 0 7 (by omega) (by simp; omega) (by simp) (by rw [g1]; exact step_full hw 0 hwf), if_neg (by decide)]
      -- take
      have htw : (workR r).Take ≠ (workR r).Work := by
        unfold workR
        simp only
        rw [hrw]
        unfold up
        omega
      have htk := take_right hw htw
      rw [play_one ops _ (by omega) (F + 2) (N + 1 + 1) _ _ (workR r) (takeR (workR r)) _ 0 (by omega) (by simp; omega) (by simp) (by rw [show N + 1 + 1 = N + 2 by omega, g2]; exact step_take hw htw), if_pos rfl]
      -- give
      have hgf : A (takeR (workR r)).Cells.length (takeR (workR r)).Take (takeR (workR r)).Give ≠ (takeR (workR r)).Cells.length - 1 := by
        unfold takeR workR
        simp only [List.length_set]
        unfold A up at *
        omega
      rw [play_one ops _ (by omega) (F + 1) (N + 1 + 1 + 1) _ _ (takeR (workR r)) (giveR (takeR (workR r)) 0) 0 0 (by omega) (by simp; omega) (by split <;> simp) (by rw [show N + 1 + 1 + 1 = N + 3 by omega, g3]; exact step_give htk 0 hgf), if_pos rfl]
      rw [ring_Play_l1, dec_ge (by omega), cond_false]
      exact ⟨(_, _), rfl⟩
    obtain ⟨r, hp⟩ := hplay
    have w1 : IntKind.i64.wrap ((N : Int) + 4) = ((N + 4 : Nat) : Int) := by rw [wrap_id (by omega) (by omega)]; omega
    have w2 : IntKind.i64.wrap ((N : Int) - 1) = ((N - 1 : Nat) : Int) := by rw [wrap_id (by omega) (by omega)]; omega
    have w3 : IntKind.i64.wrap ((N : Int) + 1) = ((N + 1 : Nat) : Int) := by rw [wrap_id (by omega) (by omega)]; omega
    rw [hp, Option.bind_some, w1, w2, w3]
    simp only [Int.toNat_natCast, Nat.zero_add]
    rw [if_pos (by omega), if_pos (by omega), if_pos (by omega)]
    have hwant : ((List.replicate (N + 4) (0 : Int)).set (N - 1) 7).set (N + 1) 7 = List.replicate (N - 1) 0 ++ [7] ++ [0] ++ [7] ++ [0] ++ [0] := by
      obtain ⟨M, rfl⟩ : ∃ M, N = M + 1 := ⟨N - 1, by omega⟩
      rw [show M + 1 + 4 = M + 5 by omega, show M + 1 - 1 = M by omega, show M + 1 + 1 = M + 2 by omega]
      rw [← List.replicate_append_replicate, List.set_append_right _ _ (by simp), List.set_append_right _ _ (by simp)]
      simp [List.replicate]
    rw [hwant]
    simp only [beq_self_eq_true, cond_true]
    rw [slices_Equal_api_Errno_eq _ _ (by simp; omega)]
    simp
  · rw [show ((decide ((a0 : Int) < 2)) || (decide ((a0 : Int) > 64))) = true by simp; omega, cond_true]
end Go.Proofs.Ytgelldlehahabaa
