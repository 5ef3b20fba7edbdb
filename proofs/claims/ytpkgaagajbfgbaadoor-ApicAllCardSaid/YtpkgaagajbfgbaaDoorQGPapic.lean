/- Plain laws of apic. -/
import Derived.Test.YtpkgaagajbfgbaaDoorQGB
import Derived.Test.YtpkgaagajbfgbaaDoorQGK
set_option linter.unusedSimpArgs false
set_option linter.unusedVariables false
namespace Go.Proofs.YtpkgaagajbfgbaaDoor
open Go Go.Ab

theorem alive2_eq : keep_alive2 = some true := by decide +kernel

structure okL (l : Api_Local) : Prop where
  a : okB l.Asked
  s : okB l.Served
structure RightP (l : Api_Local) : Prop where
  d : ∀ m n, m < n → n < 256 → mem l.Served m = true → mem l.Served n = true → m / 16 < n / 16
  s : ∀ n, n < 256 → mem l.Served n = true → 32 ≤ n
  c : 0 ≤ l.Class ∧ l.Class ≤ 15
  a : ∀ n, n < 256 → mem l.Asked n = true → 32 ≤ n

theorem tdiv16 (n : Nat) (h : n < 256) : IntKind.i64.wrap (Int.tdiv (n : Int) 16) = ((n / 16 : Nat) : Int) := by
  rw [Int.tdiv_eq_ediv_of_nonneg (by omega), wrap_id (by omega) (by omega)]; omega
theorem class_eq (n : Nat) (h : n < 256) : apic_class (n : Int) = some ((n / 16 : Nat) : Int) := by
  unfold apic_class
  rw [tdiv16 n h]

theorem right_l1_eq (l : Api_Local) (r1 : Int) (hl : okL l) : ∀ n (f : Nat) (last x : Int), f ≤ 256 → 256 - f < n → NextIs l.Served f x → (∀ m, f ≤ m → m < 256 → mem l.Served m = true → last ≤ ((m / 16 : Nat) : Int)) →
    ∃ b, apic_Right_l1 l r1 n last x = some b ∧ (b = true ↔ (∀ m, f ≤ m → m < 256 → mem l.Served m = true → 32 ≤ m ∧ last < ((m / 16 : Nat) : Int)) ∧
      (∀ m n, f ≤ m → m < n → n < 256 → mem l.Served m = true → mem l.Served n = true → m / 16 < n / 16) ∧ (0 ≤ l.Class ∧ l.Class ≤ 15) ∧ (∀ n, n < 256 → mem l.Asked n = true → 32 ≤ n)) := by
  intro n
  induction n with
  | zero => intro f last x h1 h2; omega
  | succ n ih =>
    intro f last x h1 h2 hx hlast
    unfold apic_Right_l1
    rcases hx with ⟨rfl, hx⟩ | ⟨k, rfl, hk, hfk, hmk, hx⟩
    · rw [show decide ((-1 : Int) ≥ 0) = false by decide, cond_false]
      obtain ⟨r, hr, hn⟩ := Next_le l.Asked 0 (by omega) hl.a
      have hr : bits_Next l.Asked 0 = some r := hr
      rw [hr]
      by_cases hc : 0 ≤ l.Class ∧ l.Class ≤ 15
      · have e : ((decide ((l.Class : Int) ≥ 0)) && (decide ((l.Class : Int) ≤ 15))) = true := by simp; omega
        rw [e]
        simp only [cond_true, Option.bind_some, Bool.true_and]
        rcases hn with ⟨rfl, hn⟩ | ⟨j, rfl, hj, _, hmj, hn⟩
        · refine ⟨_, rfl, ?_⟩
          simp only [show decide ((-1 : Int) < 0) = true by decide, Bool.true_or, true_iff]
          refine ⟨fun m m1 m2 m3 => ?_, fun m m' m1 m2 m3 m4 => ?_, hc, fun m m1 m2 => ?_⟩
          · rw [hx m m1 m2] at m3; cases m3
          · rw [hx m m1 (by omega)] at m4; cases m4
          · rw [hn m (by omega) m1] at m2; cases m2
        · have e2 : decide (((j : Nat) : Int) < 0) = false := by simp
          rw [e2]
          simp only [Bool.not_false, cond_true, Option.bind_some, Bool.false_or]
          refine ⟨_, rfl, ?_⟩
          rw [decide_eq_true_eq]
          constructor
          · intro h32
            refine ⟨fun m m1 m2 m3 => ?_, fun m m' m1 m2 m3 m4 => ?_, hc, fun m m1 m2 => ?_⟩
            · rw [hx m m1 m2] at m3; cases m3
            · rw [hx m m1 (by omega)] at m4; cases m4
            · rcases Nat.lt_or_ge m j with h | h
              · rw [hn m (by omega) h] at m2; cases m2
              · omega
          · rintro ⟨_, _, _, h⟩
            have := h j hj hmj
            omega
      · have e : ((decide ((l.Class : Int) ≥ 0)) && (decide ((l.Class : Int) ≤ 15))) = false := by simp; omega
        rw [e]
        simp only [cond_false, Option.bind_some, Bool.false_and]
        refine ⟨_, rfl, ?_⟩
        simp only [Bool.false_eq_true, false_iff]
        rintro ⟨_, _, h, _⟩
        exact hc h
    · rw [show decide (((k : Nat) : Int) ≥ 0) = true by simp, cond_true, class_eq k hk, Option.bind_some]
      have hlk := hlast k hfk hk hmk
      by_cases hb : ((k / 16 : Nat) : Int) = last ∨ k < 32
      · have e : (((((k / 16 : Nat) : Int) : Int) == last) || (decide (((k : Nat) : Int) < 32))) = true := by
          rw [Bool.or_eq_true, beq_iff_eq, decide_eq_true_eq]; omega
        rw [e, cond_true]
        refine ⟨_, rfl, ?_⟩
        simp only [Bool.false_eq_true, false_iff]
        rintro ⟨h, _⟩
        have := h k hfk hk hmk
        omega
      · have e : (((((k / 16 : Nat) : Int) : Int) == last) || (decide (((k : Nat) : Int) < 32))) = false := by
          rw [Bool.or_eq_false_iff, beq_eq_false_iff_ne, decide_eq_false_iff_not]; omega
        rw [e, cond_false, Option.bind_some, show IntKind.i64.wrap ((k : Int) + 1) = ((k + 1 : Nat) : Int) by rw [wrap_id (by omega) (by omega)]; omega]
        obtain ⟨r, hr, hn⟩ := Next_le l.Served (k + 1) (by omega) hl.s
        rw [hr, Option.bind_some]
        obtain ⟨b, hb', hiff⟩ := ih (k + 1) ((k / 16 : Nat) : Int) r (by omega) (by omega) hn (fun m m1 m2 m3 => by omega)
        refine ⟨b, hb', hiff.trans ⟨?_, ?_⟩⟩
        · rintro ⟨q1, q2, q3, q4⟩
          refine ⟨fun m m1 m2 m3 => ?_, fun m m' m1 m2 m3 m4 m5 => ?_, q3, q4⟩
          · rcases Nat.lt_trichotomy m k with h | h | h
            · rw [hx m m1 h] at m3; cases m3
            · subst h; omega
            · have := q1 m (by omega) m2 m3; omega
          · rcases Nat.lt_trichotomy m k with h | h | h
            · rw [hx m m1 h] at m4; cases m4
            · subst h
              have := q1 m' (by omega) m3 m5
              omega
            · exact q2 m m' (by omega) m2 m3 m4 m5
        · rintro ⟨q1, q2, q3, q4⟩
          refine ⟨fun m m1 m2 m3 => ?_, fun m m' m1 m2 m3 m4 m5 => q2 m m' (by omega) m2 m3 m4 m5, q3, q4⟩
          have h1 := q1 m (by omega) m2 m3
          have h2 := q2 k m hfk (by omega) m2 hmk m3
          omega
theorem Right_eq (l : Api_Local) (hl : okL l) : ∃ b, apic_Right l = some b ∧ (b = true ↔ RightP l) := by
  unfold apic_Right
  obtain ⟨r, hr, hn⟩ := Next_le l.Served 0 (by omega) hl.s
  have hr : bits_Next l.Served 0 = some r := hr
  rw [hr, Option.bind_some]
  obtain ⟨b, hb, hiff⟩ := right_l1_eq l r hl FUEL 0 (-1) r (by omega) (fuel_gt (by omega)) hn (fun m _ _ _ => by omega)
  refine ⟨b, hb, hiff.trans ⟨fun ⟨q1, q2, q3, q4⟩ => ⟨fun m n m1 m2 m3 m4 => q2 m n (by omega) m1 m2 m3 m4, fun n n1 n2 => (q1 n (by omega) n1 n2).1, q3, q4⟩, fun h => ⟨fun m _ m2 m3 => ⟨h.s m m2 m3, by omega⟩, fun m n _ m1 m2 m3 m4 => h.d m n m1 m2 m3 m4, h.c, h.a⟩⟩⟩

theorem top_nat {b : Nat → Int} {n : Nat} (h : TopIs b (n : Int)) : n < 256 ∧ mem b n = true ∧ ∀ m, n < m → m < 256 → mem b m = false := by
  rcases h with ⟨h, _⟩ | ⟨m, e, h⟩
  · omega
  · have : n = m := by omega
    subst this; exact h
theorem top_none {b : Nat → Int} (h : TopIs b (-1)) : ∀ m, m < 256 → mem b m = false := by
  rcases h with ⟨_, h⟩ | ⟨m, e, h⟩
  · exact h
  · omega
theorem top_cases {b : Nat → Int} {r : Int} (h : TopIs b r) : r = -1 ∨ ∃ n : Nat, r = n := by
  rcases h with ⟨h, _⟩ | ⟨n, h, _⟩
  · exact .inl h
  · exact .inr ⟨n, h⟩
def CanTake (l : Api_Local) (n : Nat) : Prop := n < 256 ∧ mem l.Asked n = true ∧ (∀ m, n < m → m < 256 → mem l.Asked m = false) ∧ l.Class < ((n / 16 : Nat) : Int) ∧ ∀ m, m < 256 → mem l.Served m = true → m / 16 < n / 16
theorem can_unique {l : Api_Local} {m n : Nat} (h : CanTake l m) (k : CanTake l n) : m = n := by
  rcases Nat.lt_trichotomy m n with e | e | e
  · have := h.2.2.1 n e k.1; rw [k.2.1] at this; cases this
  · exact e
  · have := k.2.2.1 m e h.1; rw [h.2.1] at this; cases this
theorem Would_eq (l : Api_Local) (hl : okL l) (hR : RightP l) : (∃ n : Nat, apic_Would l = some (n : Int) ∧ CanTake l n) ∨ (apic_Would l = some (-1) ∧ ∀ n, ¬ CanTake l n) := by
  unfold apic_Would
  obtain ⟨t, ht, htop⟩ := Top_eq l.Asked hl.a
  obtain ⟨b, hb, hbp⟩ := Right_eq l hl
  rw [ht, Option.bind_some, hb, hbp.2 hR, Option.bind_some]
  rcases top_cases htop with rfl | ⟨n, rfl⟩
  · refine .inr ⟨rfl, fun n h => ?_⟩
    have := top_none htop n h.1
    rw [h.2.1] at this; cases this
  · obtain ⟨h1, h2, h3⟩ := top_nat htop
    have h32 := hR.a n h1 h2
    obtain ⟨s, hs, hstop⟩ := Top_eq l.Served hl.s
    have hlev : ∃ q : Int, apic_level l = some q ∧ (q < ((n / 16 : Nat) : Int) ↔ l.Class < ((n / 16 : Nat) : Int) ∧ ∀ m, m < 256 → mem l.Served m = true → m / 16 < n / 16) := by
      unfold apic_level
      rw [hs, Option.bind_some]
      rcases top_cases hstop with rfl | ⟨k, rfl⟩
      · have hnone := top_none hstop
        rw [show (if (0 : Int) > -1 then 0 else (-1 : Int)) = ((0 : Nat) : Int) by rfl, class_eq 0 (by omega), Option.bind_some]
        refine ⟨_, rfl, ?_⟩
        constructor
        · intro h
          refine ⟨by split at h <;> omega, fun m m1 m2 => ?_⟩
          rw [hnone m m1] at m2; cases m2
        · rintro ⟨h, _⟩
          split <;> omega
      · obtain ⟨k1, k2, k3⟩ := top_nat hstop
        rw [show (if (0 : Int) > (k : Int) then 0 else (k : Int)) = ((k : Nat) : Int) by split <;> omega, class_eq k k1, Option.bind_some]
        refine ⟨_, rfl, ?_⟩
        constructor
        · intro h
          refine ⟨by split at h <;> omega, fun m m1 m2 => ?_⟩
          have hmk : m ≤ k := by
            rcases Nat.lt_or_ge k m with e | e
            · rw [k3 m e m1] at m2; cases m2
            · exact e
          split at h <;> omega
        · rintro ⟨h, h'⟩
          have := h' k k1 k2
          split <;> omega
    obtain ⟨q, hq, hiff⟩ := hlev
    rw [show decide (((n : Nat) : Int) ≥ 0) = true by simp]
    simp only [Bool.and_self, cond_true, Bool.true_and]
    rw [class_eq n h1, Option.bind_some, hq, Option.bind_some]
    by_cases hlt : q < ((n / 16 : Nat) : Int)
    · rw [show decide (((n / 16 : Nat) : Int) > q) = true by simpa using hlt, cond_true]
      exact .inl ⟨n, rfl, h1, h2, h3, hiff.1 hlt⟩
    · rw [show decide (((n / 16 : Nat) : Int) > q) = false by simpa using hlt, cond_false]
      refine .inr ⟨rfl, fun m hm => hlt (hiff.2 ?_)⟩
      have : m = n := by
        rcases Nat.lt_trichotomy m n with e | e | e
        · have := hm.2.2.1 n e h1; rw [h2] at this; cases this
        · exact e
        · have := h3 m e hm.1; rw [hm.2.1] at this; cases this
      subst this
      exact hm.2.2.2

abbrev zL : Api_Local := ⟨fun _ => 0, fun _ => 0, 0⟩
inductive StepOf (l : Api_Local) (o : Api_LocalOp) : Api_Local → Int → Int → Prop
  | bad (e : Int) : e ≠ 0 → (RightP l → (o.Kind = 1 → ¬ (32 ≤ o.N ∧ o.N < 256)) ∧ (o.Kind = 2 → ∀ n, ¬ CanTake l n) ∧ (o.Kind = 3 → TopIs l.Served (-1))) → StepOf l o zL 0 e
  | ask (n : Nat) : RightP l → o.Kind = 1 → o.N = n → 32 ≤ n → n < 256 → StepOf l o ⟨withF l.Asked n, l.Served, l.Class⟩ (-1) 0
  | take (n : Nat) : RightP l → o.Kind = 2 → CanTake l n → StepOf l o ⟨withoutF l.Asked n, withF l.Served n, l.Class⟩ n 0
  | fin (n : Nat) : RightP l → o.Kind = 3 → TopIs l.Served n → StepOf l o ⟨l.Asked, withoutF l.Served n, l.Class⟩ n 0
  | cls : RightP l → o.Kind = 4 → 0 ≤ o.N → o.N ≤ 15 → StepOf l o ⟨l.Asked, l.Served, o.N⟩ (-1) 0
theorem Step_cases (l : Api_Local) (o : Api_LocalOp) (hl : okL l) : ∃ l' n e, apic_Step l o = some (l', n, e) ∧ StepOf l o l' n e := by
  unfold apic_Step
  obtain ⟨b, hb, hbp⟩ := Right_eq l hl
  rw [hb, Option.bind_some]
  cases b with
  | false => exact ⟨_, _, _, rfl, .bad _ (by decide) (fun h => absurd (hbp.2 h) (by decide))⟩
  | true =>
    have hR := hbp.1 rfl
    rw [Bool.not_true, cond_false]
    by_cases k1 : o.Kind = 1
    · rw [show ((o.Kind : Int) == 1) = true by simp [k1], cond_true]
      by_cases hn : 32 ≤ o.N ∧ o.N < 256
      · rw [show ((decide ((o.N : Int) < 32)) || (decide ((o.N : Int) ≥ 256))) = false by simp; omega, cond_false]
        obtain ⟨n, hn'⟩ := Int.eq_ofNat_of_zero_le (show 0 ≤ o.N by omega)
        rw [hn', With_eq _ n (by omega), Option.bind_some]
        exact ⟨_, _, _, rfl, .ask n hR k1 hn' (by omega) (by omega)⟩
      · rw [show ((decide ((o.N : Int) < 32)) || (decide ((o.N : Int) ≥ 256))) = true by simp; omega, cond_true]
        exact ⟨_, _, _, rfl, .bad _ (by decide) (fun _ => ⟨fun _ => hn, by omega, by omega⟩)⟩
    rw [show ((o.Kind : Int) == 1) = false by simp [k1], cond_false]
    by_cases k2 : o.Kind = 2
    · rw [show ((o.Kind : Int) == 2) = true by simp [k2], cond_true]
      rcases Would_eq l hl hR with ⟨n, hw, hc⟩ | ⟨hw, hc⟩
      · rw [hw, Option.bind_some, show decide (((n : Nat) : Int) < 0) = false by simp, cond_false, Without_eq _ n hc.1, Option.bind_some, With_eq _ n hc.1, Option.bind_some]
        exact ⟨_, _, _, rfl, .take n hR k2 hc⟩
      · rw [hw, Option.bind_some]
        exact ⟨_, _, _, rfl, .bad _ (by decide) (fun _ => ⟨by omega, fun _ => hc, by omega⟩)⟩
    rw [show ((o.Kind : Int) == 2) = false by simp [k2], cond_false]
    by_cases k3 : o.Kind = 3
    · rw [show ((o.Kind : Int) == 3) = true by simp [k3], cond_true]
      obtain ⟨s, hs, hstop⟩ := Top_eq l.Served hl.s
      rw [hs, Option.bind_some]
      rcases top_cases hstop with rfl | ⟨n, rfl⟩
      · exact ⟨_, _, _, rfl, .bad _ (by decide) (fun _ => ⟨by omega, by omega, fun _ => hstop⟩)⟩
      · rw [show decide (((n : Nat) : Int) < 0) = false by simp, cond_false, Without_eq _ n (top_nat hstop).1, Option.bind_some]
        exact ⟨_, _, _, rfl, .fin n hR k3 hstop⟩
    rw [show ((o.Kind : Int) == 3) = false by simp [k3], cond_false]
    by_cases k4 : o.Kind = 4
    · rw [show ((o.Kind : Int) == 4) = true by simp [k4], cond_true]
      by_cases hn : 0 ≤ o.N ∧ o.N ≤ 15
      · rw [show ((decide ((o.N : Int) < 0)) || (decide ((o.N : Int) > 15))) = false by simp; omega, cond_false]
        exact ⟨_, _, _, rfl, .cls hR k4 hn.1 hn.2⟩
      · rw [show ((decide ((o.N : Int) < 0)) || (decide ((o.N : Int) > 15))) = true by simp; omega, cond_true]
        exact ⟨_, _, _, rfl, .bad _ (by decide) (fun _ => ⟨by omega, by omega, by omega⟩)⟩
    rw [show ((o.Kind : Int) == 4) = false by simp [k4], cond_false]
    exact ⟨_, _, _, rfl, .bad _ (by decide) (fun _ => ⟨by omega, by omega, by omega⟩)⟩

theorem zL_ok : okL zL := ⟨fun i _ => (by decide : U64 0), fun i _ => (by decide : U64 0)⟩
theorem take_right {l : Api_Local} (hl : okL l) (h : RightP l) {n : Nat} (hc : CanTake l n) : RightP ⟨withoutF l.Asked n, withF l.Served n, l.Class⟩ := by
  obtain ⟨c1, c2, c3, c4, c5⟩ := hc
  refine ⟨fun m k h1 h2 h3 h4 => ?_, fun k h1 h2 => ?_, h.c, fun k h1 h2 => ?_⟩
  · simp only at h3 h4
    rw [withF_mem hl.s n _ c1, Bool.or_eq_true, decide_eq_true_eq] at h3 h4
    rcases h3 with h3 | rfl <;> rcases h4 with h4 | rfl
    · exact h.d m k h1 h2 h3 h4
    · exact c5 m (by omega) h3
    · have := c5 k h2 h4; omega
    · omega
  · simp only at h2
    rw [withF_mem hl.s n _ c1, Bool.or_eq_true, decide_eq_true_eq] at h2
    rcases h2 with h2 | rfl
    · exact h.s k h1 h2
    · exact h.a k h1 c2
  · simp only at h2
    rw [withoutF_mem hl.a n _ c1, Bool.and_eq_true] at h2
    exact h.a k h1 h2.1
theorem fin_right {l : Api_Local} (hl : okL l) (h : RightP l) {n : Nat} (hn : n < 256) : RightP ⟨l.Asked, withoutF l.Served n, l.Class⟩ := by
  refine ⟨fun m k h1 h2 h3 h4 => ?_, fun k h1 h2 => ?_, h.c, h.a⟩
  · simp only at h3 h4
    rw [withoutF_mem hl.s n _ hn, Bool.and_eq_true] at h3 h4
    exact h.d m k h1 h2 h3.1 h4.1
  · simp only at h2
    rw [withoutF_mem hl.s n _ hn, Bool.and_eq_true] at h2
    exact h.s k h1 h2.1
theorem step_ok {l l' : Api_Local} {o : Api_LocalOp} {n e : Int} (hl : okL l) (h : StepOf l o l' n e) : okL l' ∧ (e = 0 → RightP l') := by
  cases h with
  | bad _ h => exact ⟨zL_ok, fun e => absurd e h⟩
  | ask n h k hn h1 h2 =>
    refine ⟨⟨withF_ok hl.a n, hl.s⟩, fun _ => ⟨h.d, h.s, h.c, fun k h3 h4 => ?_⟩⟩
    simp only at h4
    rw [withF_mem hl.a n _ h2, Bool.or_eq_true, decide_eq_true_eq] at h4
    rcases h4 with h4 | rfl
    · exact h.a k h3 h4
    · exact h1
  | take n h k hc => exact ⟨⟨withoutF_ok hl.a n, withF_ok hl.s n⟩, fun _ => take_right hl h hc⟩
  | fin n h k ht => exact ⟨⟨hl.a, withoutF_ok hl.s n⟩, fun _ => fin_right hl h (top_nat ht).1⟩
  | cls h k h1 h2 => exact ⟨⟨hl.a, hl.s⟩, fun _ => ⟨h.d, h.s, ⟨h1, h2⟩, h.a⟩⟩
theorem right_true {l : Api_Local} (hl : okL l) (h : RightP l) : apic_Right l = some true := by
  obtain ⟨b, hb, hbp⟩ := Right_eq l hl
  rw [hb, hbp.2 h]

theorem ApicRight_true (a0 : Api_Local) (a1 : Api_LocalOp) (h0 : Ok_Api_Local a0) (h1 : Ok_Api_LocalOp a1) : keep_ApicRight a0 a1 = some true := by
  have hl : okL a0 := ⟨h0.1, h0.2.1⟩
  unfold keep_ApicRight
  rw [alive2_eq, Option.bind_some, Bool.not_true, cond_false]
  obtain ⟨l', n, e, hs, hof⟩ := Step_cases a0 a1 hl
  rw [hs, Option.bind_some]
  by_cases he : e = 0
  · obtain ⟨h2, h3⟩ := step_ok hl hof
    simp only [he, bne_self_eq_false, cond_false]
    rw [right_true h2 (h3 he)]
    rfl
  · simp only [show (e != 0) = true by simpa using he, cond_true]
    cases hof with
    | bad _ _ _ => rfl
    | ask => exact absurd rfl he
    | take => exact absurd rfl he
    | fin => exact absurd rfl he
    | cls => exact absurd rfl he

theorem ApicClass_true (a0 : Api_Local) (a1 a2 : Int) (h0 : Ok_Api_Local a0) (h1 : -9223372036854775808 ≤ a1 ∧ a1 ≤ 9223372036854775807) (h2 : -9223372036854775808 ≤ a2 ∧ a2 ≤ 9223372036854775807) : keep_ApicClass a0 a1 a2 = some true := by
  have hl : okL a0 := ⟨h0.1, h0.2.1⟩
  unfold keep_ApicClass
  rw [alive2_eq, Option.bind_some, Bool.not_true, cond_false]
  obtain ⟨l1, n1, e1, hs1, hof1⟩ := Step_cases a0 ⟨4, a1⟩ hl
  obtain ⟨l2, n2, e2, hs2, hof2⟩ := Step_cases a0 ⟨4, a2⟩ hl
  rw [hs1, Option.bind_some, hs2, Option.bind_some]
  by_cases hc : e1 = 0 ∧ e2 = 0 ∧ a1 ≤ a2
  · obtain ⟨rfl, rfl, hle⟩ := hc
    have : (((((l1, n1, (0 : Int)) : Api_Local × Int × Int).2.2 : Int) != 0) || ((((l2, n2, (0 : Int)) : Api_Local × Int × Int).2.2 : Int) != 0) || (decide ((a1 : Int) > a2))) = false := by simp; omega
    rw [this, cond_false]
    obtain ⟨o1, r1⟩ := step_ok hl hof1
    obtain ⟨o2, r2⟩ := step_ok hl hof2
    have e1 : l1 = ⟨a0.Asked, a0.Served, a1⟩ := by
      cases hof1 with
      | bad _ h => exact absurd rfl h
      | ask n h k => exact absurd k (by simp)
      | take n h k => exact absurd k (by simp)
      | fin n h k => exact absurd k (by simp)
      | cls => rfl
    have e2 : l2 = ⟨a0.Asked, a0.Served, a2⟩ := by
      cases hof2 with
      | bad _ h => exact absurd rfl h
      | ask n h k => exact absurd k (by simp)
      | take n h k => exact absurd k (by simp)
      | fin n h k => exact absurd k (by simp)
      | cls => rfl
    subst e1 e2
    rcases Would_eq _ o2 (r2 rfl) with ⟨n, hw, hcn⟩ | ⟨hw, _⟩
    · have hcx : CanTake ⟨a0.Asked, a0.Served, a1⟩ n := by
        obtain ⟨q1, q2, q3, q4, q5⟩ := hcn
        exact ⟨q1, q2, q3, by simp only at q4 ⊢; omega, q5⟩
      have hwx : apic_Would ⟨a0.Asked, a0.Served, a1⟩ = some (n : Int) := by
        rcases Would_eq _ o1 (r1 rfl) with ⟨m, hm, hcm⟩ | ⟨_, hno⟩
        · rw [hm, can_unique hcm hcx]
        · exact absurd hcx (hno n)
      simp only [hw, hwx, Option.bind_some]
      rw [show ((n : Int) == -1) = false by simp]
      simp
    · simp only [hw, Option.bind_some, beq_self_eq_true, Bool.not_true, cond_false, Bool.true_or]
  · have : (((((l1, n1, e1) : Api_Local × Int × Int).2.2 : Int) != 0) || ((((l2, n2, e2) : Api_Local × Int × Int).2.2 : Int) != 0) || (decide ((a1 : Int) > a2))) = true := by
      rw [Bool.or_eq_true, Bool.or_eq_true, bne_iff_ne, bne_iff_ne, decide_eq_true_eq]
      simp only
      omega
    rw [this, cond_true]

theorem ApicOnce_true (a0 : Api_Local) (a1 : Int) (h0 : Ok_Api_Local a0) (h1 : -9223372036854775808 ≤ a1 ∧ a1 ≤ 9223372036854775807) : keep_ApicOnce a0 a1 = some true := by
  have hl : okL a0 := ⟨h0.1, h0.2.1⟩
  unfold keep_ApicOnce
  rw [alive2_eq, Option.bind_some, Bool.not_true, cond_false]
  obtain ⟨l1, n1, e1, hs1, hof1⟩ := Step_cases a0 ⟨1, a1⟩ hl
  obtain ⟨o1, r1⟩ := step_ok hl hof1
  obtain ⟨l2, n2, e2, hs2, hof2⟩ := Step_cases l1 ⟨1, a1⟩ o1
  rw [hs1, Option.bind_some]
  simp only [hs2, Option.bind_some]
  by_cases he : e1 = 0
  · subst he
    have hr1 := r1 rfl
    cases hof1 with
    | bad _ h => exact absurd rfl h
    | take n h k => exact absurd k (by simp)
    | fin n h k => exact absurd k (by simp)
    | cls h k => exact absurd k (by simp)
    | ask n h k hn h1 h2 =>
      have hn : a1 = n := hn
      have key : e2 = 0 ∧ l2 = ⟨withF (withF a0.Asked n) n, a0.Served, a0.Class⟩ := by
        cases hof2 with
        | bad _ _ hb => exact absurd ⟨by simp only; omega, by simp only; omega⟩ ((hb hr1).1 rfl)
        | take n h k => exact absurd k (by simp)
        | fin n h k => exact absurd k (by simp)
        | cls h k => exact absurd k (by simp)
        | ask m h k hm =>
          have hm : a1 = m := hm
          have : m = n := by omega
          subst this
          exact ⟨rfl, rfl⟩
      obtain ⟨rfl, rfl⟩ := key
      have e3 := eqW (mem_ext (withF_ok hl.a n) (withF_ok (withF_ok hl.a n) n) fun k hk => by
        rw [withF_mem (withF_ok hl.a n) n k h2, withF_mem hl.a n k h2]
        cases mem a0.Asked k <;> cases decide (k = n) <;> rfl)
      have hm : mem (withF a0.Asked n) n = true := by rw [withF_mem hl.a n n h2]; simp
      simp only [Bool.and_true] at e3
      simp only [bne_self_eq_false, cond_false, beq_self_eq_true, Bool.and_true, Bool.true_and, e3, cond_true, hn]
      rw [Has_eq _ n h2 (withF_ok hl.a n), hm]
      rfl
  · simp only [show (e1 != 0) = true by simpa using he, cond_true]

theorem graver_l1_eq (l : Api_Local) (hl : okL l) (hR : RightP l) (n : Nat) (hc : CanTake l n) : ∀ N k, k ≤ (elems l.Served).length → (elems l.Served).length - k < N →
    keep_ApicGraver_l1 l (⟨withoutF l.Asked n, withF l.Served n, l.Class⟩, (n : Int), 0) (elems l.Served) N k = some true := by
  intro N
  induction N with
  | zero => intro k h1 h2; omega
  | succ N ih =>
    intro k h1 h2
    unfold keep_ApicGraver_l1
    rcases Nat.lt_or_ge k (elems l.Served).length with hlt | hge
    · rw [dec_lt hlt, cond_true, Nat.zero_add, getD_lt _ _ hlt]
      obtain ⟨m, hm, hm1, hm2⟩ := (mem_elems l.Served _).1 (List.getElem_mem hlt)
      have := hc.2.2.2.2 m hm1 hm2
      rw [hm, tdiv16 m hm1]
      simp only
      rw [tdiv16 n hc.1, show decide (((n / 16 : Nat) : Int) ≤ ((m / 16 : Nat) : Int)) = false from decide_eq_false (by omega), cond_false]
      exact ih (k + 1) (by omega) (by omega)
    · rw [dec_ge hge, cond_false]
      have o1 : okL ⟨withoutF l.Asked n, withF l.Served n, l.Class⟩ := ⟨withoutF_ok hl.a n, withF_ok hl.s n⟩
      have r1 := take_right hl hR hc
      have hlow : ∀ m, n < m → m < 256 → mem (withF l.Served n) m = false := by
        intro m m1 m2
        rw [withF_mem hl.s n m hc.1, Bool.or_eq_false_iff]
        refine ⟨?_, decide_eq_false (by omega)⟩
        cases hm : mem l.Served m with
        | false => rfl
        | true => have := hc.2.2.2.2 m m2 hm; omega
      have hmn : mem (withF l.Served n) n = true := by rw [withF_mem hl.s n n hc.1]; simp
      have hnot : mem l.Served n = false := by
        cases hm : mem l.Served n with
        | false => rfl
        | true => have := hc.2.2.2.2 n hc.1 hm; omega
      have huniq : ∀ m : Nat, TopIs (withF l.Served n) m → m = n := by
        intro m hm
        obtain ⟨q1, q2, q3⟩ := top_nat hm
        rcases Nat.lt_trichotomy m n with e | e | e
        · rw [q3 n e hc.1] at hmn; cases hmn
        · exact e
        · rw [hlow m e q1] at q2; cases q2
      obtain ⟨l2, n2, e2, hs2, hof2⟩ := Step_cases _ ⟨3, 0⟩ o1
      obtain ⟨t, ht, htop⟩ := Top_eq _ o1.s
      have ht' : t = n := by
        rcases top_cases htop with rfl | ⟨m, rfl⟩
        · rw [top_none htop n hc.1] at hmn; cases hmn
        · rw [huniq m htop]
      simp only at ht
      rw [hs2, Option.bind_some]
      cases hof2 with
      | bad _ _ hb => rw [top_none ((hb r1).2.2 rfl) n hc.1] at hmn; cases hmn
      | ask m h k => exact absurd k (by simp)
      | take m h k => exact absurd k (by simp)
      | cls h k => exact absurd k (by simp)
      | fin m h k hm =>
        have : m = n := huniq m hm
        subst this
        have e3 := eqW (mem_ext (withoutF_ok (withF_ok hl.s m) m) hl.s fun k hk => by
          rw [withoutF_mem (withF_ok hl.s m) m k hc.1, withF_mem hl.s m k hc.1]
          by_cases e : k = m
          · subst e; rw [hnot]; simp
          · simp [e])
        simp only [Bool.and_true] at e3
        simp only [beq_self_eq_true, Bool.and_true, e3, cond_true, ht, Option.bind_some, ht', tdiv16 m hc.1]
        have := hc.2.2.2.1
        simpa using this
theorem ApicGraver_true (a0 : Api_Local) (h0 : Ok_Api_Local a0) : keep_ApicGraver a0 = some true := by
  have hl : okL a0 := ⟨h0.1, h0.2.1⟩
  have hll := elems_len a0.Served
  unfold keep_ApicGraver
  rw [alive2_eq, Option.bind_some, Bool.not_true, cond_false]
  obtain ⟨l1, n1, e1, hs1, hof1⟩ := Step_cases a0 ⟨2, 0⟩ hl
  rw [hs1, Option.bind_some]
  cases hof1 with
  | bad _ h => simp only [show (e1 != 0) = true by simpa using h, cond_true]
  | ask n h k => exact absurd k (by simp)
  | fin n h k => exact absurd k (by simp)
  | cls h k => exact absurd k (by simp)
  | take n h k hc =>
    simp only [bne_self_eq_false, cond_false]
    rw [All_eq _ hl.s, Option.bind_some]
    exact graver_l1_eq a0 hl h n hc FUEL 0 (by omega) (fuel_gt (by omega))

/- depth -/
theorem depth_list : ∀ (xs : List Int) (lo : Int), lo ≤ 16 → xs.Pairwise (fun x y => x / 16 < y / 16) → (∀ x ∈ xs, lo ≤ x / 16 ∧ x / 16 ≤ 15) → (xs.length : Int) ≤ 16 - lo
  | [], lo, hlo, _, _ => by simp; omega
  | x :: xs, lo, hlo, hp, hx => by
    rw [List.pairwise_cons] at hp
    have h1 := hx x (by simp)
    have := depth_list xs (x / 16 + 1) (by omega) hp.2 (fun y hy => ⟨by have := hp.1 y hy; omega, (hx y (by simp [hy])).2⟩)
    rw [List.length_cons]
    omega
theorem depth {l : Api_Local} (h : RightP l) : (elems l.Served).length ≤ 14 := by
  have := depth_list (elems l.Served) 2 (by omega) ?_ ?_
  · omega
  · refine List.Pairwise.imp_of_mem ?_ (elems_lt l.Served)
    intro x y hx hy hxy
    obtain ⟨m, rfl, m1, m2⟩ := (mem_elems _ _).1 hx
    obtain ⟨n, rfl, n1, n2⟩ := (mem_elems _ _).1 hy
    have := h.d m n (by omega) n1 m2 n2
    omega
  · intro x hx
    obtain ⟨m, rfl, m1, m2⟩ := (mem_elems _ _).1 hx
    have := h.s m m1 m2
    omega
theorem depth_l1_eq (ops : List Api_LocalOp) (hops : ops.length * 16 ≤ 140737488351232) : ∀ N k (l : Api_Local), k ≤ ops.length → ops.length - k < N → okL l → RightP l →
    keep_ApicDepth_l1 ops N ((elems l.Served).length : Int) k l.Asked l.Served l.Class = some true := by
  intro N
  induction N with
  | zero => intro k l h1 h2; omega
  | succ N ih =>
    intro k l h1 h2 hl hR
    unfold keep_ApicDepth_l1
    have hd := depth hR
    rcases Nat.lt_or_ge k ops.length with hlt | hge
    · rw [dec_lt hlt, cond_true, getD_lt _ _ hlt]
      generalize ops[k] = o
      obtain ⟨l', n, e, hs, hof⟩ := Step_cases l o hl
      have hs' : apic_Step (⟨l.Asked, l.Served, l.Class⟩ : Api_Local) o = some (l', n, e) := hs
      rw [hs', Option.bind_some]
      obtain ⟨o1, r1⟩ := step_ok hl hof
      by_cases he : e = 0
      · have hR' := r1 he
        have hd' := depth hR'
        simp only [he, bne_self_eq_false, cond_false]
        rw [All_eq _ o1.s]
        simp only [Option.bind_some]
        have fin : ∀ x : Int, x = ((elems l'.Served).length : Int) → (bif (((((elems l'.Served).length : Nat) : Int) : Int) != x) || (decide ((x : Int) > 14)) then some false else keep_ApicDepth_l1 ops N x (k + 1) l'.Asked l'.Served l'.Class) = some true := by
          rintro x rfl
          rw [show (((((elems l'.Served).length : Nat) : Int) != (((elems l'.Served).length : Nat) : Int)) || decide ((((elems l'.Served).length : Nat) : Int) > 14)) = false by simp; omega, cond_false]
          exact ih (k + 1) l' (by omega) (by omega) o1 hR'
        cases hof with
        | bad _ h => exact absurd he h
        | ask m h kk hm m1 m2 =>
          rw [show ((o.Kind : Int) == 2) = false by simp [kk], cond_false, show ((o.Kind : Int) == 3) = false by simp [kk], cond_false]
          exact fin _ rfl
        | take m h kk hc =>
          rw [show ((o.Kind : Int) == 2) = true by simp [kk], cond_true]
          refine fin _ ?_
          have hnot : mem l.Served m = false := by
            cases hm : mem l.Served m with
            | false => rfl
            | true => have := hc.2.2.2.2 m hc.1 hm; omega
          have := with_len hl.s m hc.1 hnot
          simp only at this ⊢
          rw [wrap_id (by omega) (by omega)]
          omega
        | fin m h kk ht =>
          rw [show ((o.Kind : Int) == 2) = false by simp [kk], cond_false, show ((o.Kind : Int) == 3) = true by simp [kk], cond_true]
          refine fin _ ?_
          obtain ⟨q1, q2, -⟩ := top_nat ht
          have := without_len hl.s m q1 q2
          simp only at this ⊢
          rw [wrap_id (by omega) (by omega)]
          omega
        | cls h kk h3 h4 =>
          rw [show ((o.Kind : Int) == 2) = false by simp [kk], cond_false, show ((o.Kind : Int) == 3) = false by simp [kk], cond_false]
          exact fin _ rfl
      · simp only [show (e != 0) = true by simpa using he, cond_true]
        exact ih (k + 1) l (by omega) (by omega) hl hR
    · rw [dec_ge hge, cond_false]
      have : apic_Right (⟨l.Asked, l.Served, l.Class⟩ : Api_Local) = some true := right_true hl hR
      rw [this]
      rfl
theorem ApicDepth_true (a0 : List Api_LocalOp) (h0 : a0.length * 16 ≤ 140737488351232 ∧ ∀ y ∈ a0, Ok_Api_LocalOp y) : keep_ApicDepth a0 = some true := by
  have l0 := h0.1
  unfold keep_ApicDepth
  rw [alive2_eq, Option.bind_some, Bool.not_true, cond_false]
  have hz : ∀ n, mem (fun _ => (0 : Int)) n = false := fun n => tb_zero_of _ rfl _
  have hR : RightP zL := ⟨fun m n _ _ h => by simp [hz] at h, fun n _ h => by simp [hz] at h, by decide, fun n _ h => by simp [hz] at h⟩
  have he : elems zL.Served = [] := by
    unfold elems
    rw [List.filter_eq_nil_iff.2 (fun n _ => by simp [hz])]
    rfl
  have := depth_l1_eq a0 l0 FUEL 0 zL (by omega) (fuel_gt (by omega)) zL_ok hR
  rw [he] at this
  exact this
/- all -/
def wantOf (C : Int) (b : Nat → Int) : List Int := (elems b).filter (fun x => decide (C < x / 16))
theorem mem_want (C : Int) (b : Nat → Int) (x : Int) : x ∈ wantOf C b ↔ ∃ n : Nat, x = n ∧ n < 256 ∧ mem b n = true ∧ C < ((n / 16 : Nat) : Int) := by
  unfold wantOf
  rw [List.mem_filter, mem_elems, decide_eq_true_eq]
  constructor
  · rintro ⟨⟨n, rfl, h1, h2⟩, h3⟩; exact ⟨n, rfl, h1, h2, by omega⟩
  · rintro ⟨n, rfl, h1, h2, h3⟩; exact ⟨⟨n, rfl, h1, h2⟩, by omega⟩
theorem want_lt (C : Int) (b : Nat → Int) : (wantOf C b).Pairwise (· < ·) := (elems_lt b).filter _
theorem elems_without {b : Nat → Int} (h : okB b) (n : Nat) (hn : n < 256) : elems (withoutF b n) = (elems b).filter (fun x => decide (x ≠ (n : Int))) := by
  unfold elems
  rw [List.filter_map, List.filter_filter]
  congr 1
  apply List.filter_congr
  intro k _
  rw [withoutF_mem h n k hn, Bool.and_comm]
  congr 1
  simp only [Function.comp_apply]
  by_cases e : k = n
  · subst e; simp
  · have : (k : Int) ≠ (n : Int) := by omega
    simp [e, this]
theorem want_without {b : Nat → Int} (h : okB b) (C : Int) (n : Nat) (hn : n < 256) : wantOf C (withoutF b n) = (wantOf C b).filter (fun x => decide (x ≠ (n : Int))) := by
  unfold wantOf
  rw [elems_without h n hn, List.filter_filter, List.filter_filter]
  apply List.filter_congr
  intro x _
  exact Bool.and_comm _ _
theorem want_last {b : Nat → Int} (h : okB b) (C : Int) (n : Nat) (hn : n < 256) (ys : List Int) (hw : wantOf C b = ys ++ [(n : Int)]) : wantOf C (withoutF b n) = ys := by
  have hp := want_lt C b
  rw [hw, List.pairwise_append] at hp
  rw [want_without h C n hn, hw, List.filter_append]
  have e1 : ys.filter (fun x => decide (x ≠ (n : Int))) = ys := by
    rw [List.filter_eq_self]
    intro x hx
    have := hp.2.2 x hx n (by simp)
    simp; omega
  rw [e1]
  simp

structure Empty (S : Nat → Int) : Prop where
  o : okB S
  e : ∀ m, m < 256 → mem S m = false
theorem all_l3_eq (l9 : List Int) (f16 f17 : Nat → Int) (x18 : Int) (hl9 : l9.length ≤ 256) (C : Int) (hC : 0 ≤ C ∧ C ≤ 15) : ∀ N (k : Nat) (A S : Nat → Int), k ≤ l9.length → k < N → okB A → (∀ n, n < 256 → mem A n = true → 32 ≤ n) → Empty S → wantOf C A = l9.take k →
    keep_ApicAll_l3 l9 f16 f17 x18 N ((k : Int) - 1) A S C = some true := by
  intro N
  induction N with
  | zero => intro k A S h1 h2; omega
  | succ N ih =>
    intro k A S hk hN hA hA32 hS hw
    have hl : okL ⟨A, S, C⟩ := ⟨hA, hS.o⟩
    have hR : RightP ⟨A, S, C⟩ := ⟨fun m n m1 m2 m3 m4 => absurd (hS.e n m2) (by rw [show mem S n = true from m4]; decide), fun n n1 n2 => absurd (hS.e n n1) (by rw [show mem S n = true from n2]; decide), hC, hA32⟩
    unfold keep_ApicAll_l3
    cases k with
    | zero =>
      rw [show decide (((0 : Nat) : Int) - 1 ≥ 0) = false by decide, cond_false]
      rcases Would_eq _ hl hR with ⟨n, _, hc⟩ | ⟨hwd, _⟩
      · have : (n : Int) ∈ wantOf C A := (mem_want C A n).2 ⟨n, rfl, hc.1, hc.2.1, hc.2.2.2.1⟩
        rw [hw] at this
        cases this
      · rw [hwd]; rfl
    | succ k =>
      rw [show decide (((k + 1 : Nat) : Int) - 1 ≥ 0) = true from decide_eq_true (by omega), cond_true]
      have hlt : k < l9.length := by omega
      rw [List.take_add_one, List.getElem?_eq_getElem hlt] at hw
      have hw : wantOf C A = l9.take k ++ [l9[k]] := hw
      have hin : l9[k] ∈ wantOf C A := by rw [hw]; exact List.mem_append_right _ (List.mem_singleton.2 rfl)
      obtain ⟨n, hn, n1, n2, n3⟩ := (mem_want C A _).1 hin
      have hc : CanTake ⟨A, S, C⟩ n := by
        refine ⟨n1, n2, fun m m1 m2 => ?_, n3, fun m m1 m2 => ?_⟩
        · show mem A m = false
          cases hm : mem A m with
          | false => rfl
          | true =>
            have hmw : (m : Int) ∈ wantOf C A := (mem_want C A m).2 ⟨m, rfl, m2, hm, by omega⟩
            have hp := want_lt C A
            rw [hw] at hmw hp
            rw [List.pairwise_append] at hp
            rcases List.mem_append.1 hmw with h | h
            · have := hp.2.2 _ h l9[k] (by simp); omega
            · have : (m : Int) = l9[k] := by simpa using h
              omega
        · simp only at m2; rw [hS.e m m1] at m2; cases m2
      obtain ⟨l1, n1', e1, hs1, hof1⟩ := Step_cases ⟨A, S, C⟩ ⟨2, 0⟩ hl
      rw [hs1, Option.bind_some]
      have key : l1 = ⟨withoutF A n, withF S n, C⟩ ∧ n1' = n ∧ e1 = 0 := by
        cases hof1 with
        | bad _ _ hb => exact absurd hc ((hb hR).2.1 rfl n)
        | ask m h k => exact absurd k (by simp)
        | fin m h k => exact absurd k (by simp)
        | cls h k => exact absurd k (by simp)
        | take m h k hm =>
          have := can_unique hm hc
          subst this
          exact ⟨rfl, rfl, rfl⟩
      obtain ⟨rfl, rfl, rfl⟩ := key
      have o1 : okL ⟨withoutF A n, withF S n, C⟩ := ⟨withoutF_ok hA n, withF_ok hS.o n⟩
      have r1 := take_right hl hR hc
      have hmem : ∀ m, m < 256 → mem (withF S n) m = decide (m = n) := fun m m1 => by rw [withF_mem hS.o n m n1, hS.e m m1, Bool.false_or]
      obtain ⟨l2, n2', e2, hs2, hof2⟩ := Step_cases _ ⟨3, 0⟩ o1
      simp only at hs2 ⊢
      rw [hs2, Option.bind_some]
      have key2 : l2 = ⟨withoutF A n, withoutF (withF S n) n, C⟩ ∧ e2 = 0 := by
        cases hof2 with
        | bad _ _ hb =>
          have := top_none ((hb r1).2.2 rfl) n n1
          simp only at this
          rw [hmem n n1] at this; simp at this
        | ask m h k => exact absurd k (by simp)
        | take m h k => exact absurd k (by simp)
        | cls h k => exact absurd k (by simp)
        | fin m h k hm =>
          obtain ⟨q1, q2, _⟩ := top_nat hm
          simp only at q2
          rw [hmem m q1, decide_eq_true_eq] at q2
          subst q2
          exact ⟨rfl, rfl⟩
      obtain ⟨rfl, rfl⟩ := key2
      simp only [bne_self_eq_false, Bool.or_self, Bool.not_false, Bool.false_or]
      rw [if_pos (by intro _; omega), Nat.zero_add, show (((k + 1 : Nat) : Int) - 1).toNat = k by omega, getD_lt _ _ hlt, hn]
      simp only [bne_self_eq_false, cond_false]
      rw [show IntKind.i64.wrap (((k + 1 : Nat) : Int) - 1 - 1) = (k : Int) - 1 by rw [wrap_id (by omega) (by omega)]; omega]
      refine ih k _ _ (by omega) (by omega) (withoutF_ok hA n) (fun m m1 m2 => ?_) ⟨withoutF_ok (withF_ok hS.o n) n, fun m m1 => ?_⟩ (want_last hA C n n1 _ (by rw [hw, hn]))
      · rw [withoutF_mem hA n m n1, Bool.and_eq_true] at m2
        exact hA32 m m1 m2.1
      · rw [withoutF_mem (withF_ok hS.o n) n m n1, hmem m m1]
        cases decide (m = n) <;> rfl
theorem all_l2_eq (a0 : Api_Local) (l9 : List Int) (hl9 : l9.length ≤ 256) : ∀ N (l : Api_Local), (elems l.Served).length < N → okL l → RightP l → wantOf l.Class l.Asked = l9 →
    keep_ApicAll_l2 a0 l9 N l.Asked l.Served l.Class = some true := by
  intro N
  induction N with
  | zero => intro l h; omega
  | succ N ih =>
    intro l hN hl hR hw
    unfold keep_ApicAll_l2
    obtain ⟨t, ht, htop⟩ := Top_eq _ hl.s
    rw [ht, Option.bind_some]
    rcases top_cases htop with rfl | ⟨n, rfl⟩
    · rw [show decide ((-1 : Int) ≥ 0) = false by decide, cond_false, wrap_id (by omega) (by omega)]
      exact all_l3_eq l9 _ _ _ hl9 l.Class hR.c FUEL l9.length l.Asked l.Served (by omega) (fuel_gt (by omega)) hl.a hR.a ⟨hl.s, top_none htop⟩ (by rw [hw, List.take_length])
    · obtain ⟨n1, n2, n3⟩ := top_nat htop
      rw [show decide (((n : Nat) : Int) ≥ 0) = true by simp, cond_true]
      obtain ⟨l2, n2', e2, hs2, hof2⟩ := Step_cases l ⟨3, 0⟩ hl
      have hs2' : apic_Step (⟨l.Asked, l.Served, l.Class⟩ : Api_Local) ⟨3, 0⟩ = some (l2, n2', e2) := hs2
      rw [hs2', Option.bind_some]
      have key : l2 = ⟨l.Asked, withoutF l.Served n, l.Class⟩ ∧ e2 = 0 := by
        cases hof2 with
        | bad _ _ hb =>
          have := top_none ((hb hR).2.2 rfl) n n1
          rw [n2] at this; cases this
        | ask m h k => exact absurd k (by simp)
        | take m h k => exact absurd k (by simp)
        | cls h k => exact absurd k (by simp)
        | fin m h k hm =>
          obtain ⟨q1, q2, q3⟩ := top_nat hm
          have : m = n := by
            rcases Nat.lt_trichotomy m n with e | e | e
            · rw [q3 n e n1] at n2; cases n2
            · exact e
            · rw [n3 m e q1] at q2; cases q2
          subst this
          exact ⟨rfl, rfl⟩
      obtain ⟨rfl, rfl⟩ := key
      have ow := withoutF_ok hl.s n
      obtain ⟨t2, ht2, htop2⟩ := Top_eq _ ow
      have hlt2 : t2 < n := by
        rcases top_cases htop2 with rfl | ⟨m, rfl⟩
        · omega
        · obtain ⟨q1, q2, _⟩ := top_nat htop2
          rw [withoutF_mem hl.s n m n1, Bool.and_eq_true] at q2
          have hne : m ≠ n := by
            intro e; subst e
            simp at q2
          rcases Nat.lt_trichotomy m n with e | e | e
          · omega
          · exact absurd e hne
          · rw [n3 m e q1] at q2; cases q2.1
      simp only [bne_self_eq_false, Bool.not_false, cond_true, Bool.false_or]
      rw [ht2, Option.bind_some, Option.bind_some, show decide (t2 ≥ (n : Int)) = false from decide_eq_false (by omega), cond_false]
      have := without_len hl.s n n1 n2
      exact ih ⟨l.Asked, withoutF l.Served n, l.Class⟩ (by simp only; omega) ⟨hl.a, ow⟩ (fin_right hl hR n1) hw
theorem all_l1_eq2 (l : Api_Local) (hl : okL l) (hR : RightP l) : ∀ N k (w : List Int), k ≤ (elems l.Asked).length → (elems l.Asked).length - k < N → w.length ≤ k → w ++ ((elems l.Asked).drop k).filter (fun x => decide (l.Class < x / 16)) = wantOf l.Class l.Asked →
    keep_ApicAll_l1 l (elems l.Asked) N w k = some true := by
  have hll := elems_len l.Asked
  intro N
  induction N with
  | zero => intro k w h1 h2; omega
  | succ N ih =>
    intro k w h1 h2 h3 hw
    unfold keep_ApicAll_l1
    rcases Nat.lt_or_ge k (elems l.Asked).length with hlt | hge
    · rw [dec_lt hlt, cond_true, Nat.zero_add, getD_lt _ _ hlt]
      rw [List.drop_eq_getElem_cons hlt] at hw
      obtain ⟨m, hm, hm1, hm2⟩ := (mem_elems l.Asked _).1 (List.getElem_mem hlt)
      rw [hm] at hw ⊢
      rw [tdiv16 m hm1]
      by_cases hc : l.Class < ((m / 16 : Nat) : Int)
      · rw [show decide (((m / 16 : Nat) : Int) > l.Class) = true from decide_eq_true hc, cond_true, if_pos (by simp only [List.length_singleton]; omega)]
        rw [List.filter_cons_of_pos (by rw [decide_eq_true_eq]; omega)] at hw
        exact ih (k + 1) _ (by omega) (by omega) (by simp; omega) (by rw [← hw]; simp)
      · rw [show decide (((m / 16 : Nat) : Int) > l.Class) = false from decide_eq_false hc, cond_false]
        rw [List.filter_cons_of_neg (by rw [decide_eq_true_eq]; omega)] at hw
        exact ih (k + 1) _ (by omega) (by omega) (by omega) hw
    · rw [dec_ge hge, cond_false]
      rw [List.drop_of_length_le hge, List.filter_nil, List.append_nil] at hw
      have := elems_len l.Served
      exact all_l2_eq l w (by omega) FUEL l (fuel_gt (by omega)) hl hR hw.symm
theorem ApicAll_true (a0 : Api_Local) (h0 : Ok_Api_Local a0) : keep_ApicAll a0 = some true := by
  have hl : okL a0 := ⟨h0.1, h0.2.1⟩
  have hll := elems_len a0.Asked
  unfold keep_ApicAll
  rw [alive2_eq, Option.bind_some, Bool.not_true, cond_false]
  obtain ⟨b, hb, hbp⟩ := Right_eq a0 hl
  rw [hb, Option.bind_some]
  cases b with
  | false => rfl
  | true =>
    rw [Bool.not_true, cond_false, All_eq _ hl.a, Option.bind_some]
    exact all_l1_eq2 a0 hl (hbp.1 rfl) FUEL 0 [] (by omega) (fuel_gt (by omega)) (by simp) (by rw [List.drop_zero]; rfl)
end Go.Proofs.YtpkgaagajbfgbaaDoor
