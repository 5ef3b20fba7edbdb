/- Plain laws of nic. -/
import Derived.Test.YtfnhanmdfbdimaaQ9M
import Derived.Test.YtfnhanmdfbdimaaPLib
import Derived.Test.YtfnhanmdfbdimaaQ9K
set_option linter.unusedSimpArgs false
set_option linter.unusedVariables false
namespace Go.Proofs.Ytfnhanmdfbdimaa
open Go Go.Ab

theorem alive20_eq : keep_alive20 = some true := by decide +kernel
abbrev N := Api_Nic
abbrev NZ : N := ⟨[], 0, 0, false, false, 0⟩
structure RightN (n : N) : Prop where
  room : 1 ≤ n.Room ∧ n.Room ≤ 64
  has : (n.Has.length : Int) ≤ n.Room
  lost : 0 ≤ n.Lost ∧ n.Lost ≤ 1099511627776
  asked : 0 ≤ n.Asked ∧ n.Asked ≤ 1099511627776
  may : n.May = !n.Due
  due : n.Due = false → n.Has = []
theorem Right_eq (n : N) : ∃ b, nic_Right n = some b ∧ (b = true ↔ RightN n) := by
  refine ⟨_, rfl, ?_⟩
  simp only [Bool.and_eq_true, decide_eq_true_eq, Bool.or_eq_true, bne_iff_ne, beq_iff_eq]
  constructor
  · rintro ⟨⟨⟨⟨⟨⟨⟨⟨h1, h2⟩, h3⟩, h4⟩, h5⟩, h6⟩, h7⟩, h8⟩, h9⟩
    refine ⟨⟨h1, h2⟩, h3, ⟨h4, h5⟩, ⟨h6, h7⟩, ?_, fun hd => ?_⟩
    · revert h8; cases n.May <;> cases n.Due <;> simp
    · rcases h9 with h9 | h9
      · rw [hd] at h9; cases h9
      · exact List.eq_nil_of_length_eq_zero (by omega)
  · rintro ⟨⟨h1, h2⟩, h3, ⟨h4, h5⟩, ⟨h6, h7⟩, h8, h9⟩
    refine ⟨⟨⟨⟨⟨⟨⟨⟨h1, h2⟩, h3⟩, h4⟩, h5⟩, h6⟩, h7⟩, ?_⟩, ?_⟩
    · rw [h8]; cases n.Due <;> simp
    · cases hd : n.Due with
      | true => exact .inl rfl
      | false => right; rw [h9 hd]; rfl
theorem Right_true {n : N} (h : RightN n) : nic_Right n = some true := by
  obtain ⟨b, h1, h2⟩ := Right_eq n
  rw [h1, h2.2 h]

def inN (n : N) (x : Int) : N :=
  let h := if (n.Has.length : Int) = n.Room then n.Has else n.Has ++ [x]
  let l := if (n.Has.length : Int) = n.Room then n.Lost + 1 else n.Lost
  if n.May then ⟨h, n.Room, l, false, true, n.Asked + 1⟩ else ⟨h, n.Room, l, n.May, n.Due, n.Asked⟩
def pollN (n : N) (b : Int) : N :=
  if (n.Has.length : Int) < b then ⟨[], n.Room, n.Lost, true, false, n.Asked⟩ else ⟨n.Has.drop b.toNat, n.Room, n.Lost, n.May, n.Due, n.Asked⟩
def gotN (n : N) (b : Int) : List Int := if (n.Has.length : Int) < b then n.Has else n.Has.take b.toNat

theorem Step_cases (n : N) (o : Api_NicOp) : (∃ e, e ≠ 0 ∧ nic_Step n o = some (NZ, [], e) ∧ (RightN n → ¬ (o.Kind = 2 ∧ 1 ≤ o.N ∧ n.Due = true))) ∨
    (RightN n ∧ o.Kind = 1 ∧ n.Lost ≠ 1099511627776 ∧ n.Asked ≠ 1099511627776 ∧ nic_Step n o = some (inN n o.N, [], 0)) ∨
    (RightN n ∧ o.Kind = 2 ∧ 1 ≤ o.N ∧ n.Due = true ∧ nic_Step n o = some (pollN n o.N, gotN n o.N, 0)) := by
  unfold nic_Step slices_Clone_int
  obtain ⟨b, hb1, hb2⟩ := Right_eq n
  rw [hb1, Option.bind_some]
  cases b with
  | false => exact .inl ⟨1, by decide, rfl, fun h => by have := hb2.2 h; cases this⟩
  | true =>
    have hr := hb2.1 rfl
    obtain ⟨⟨r1, r2⟩, r3, ⟨r4, r5⟩, ⟨r6, r7⟩, r8, r9⟩ := hb2.1 rfl
    rw [Bool.not_true, cond_false, if_pos (by omega), Option.bind_some]
    by_cases h1 : o.Kind = 1
    · have k1 : ((o.Kind : Int) == 1) = true := by simpa using h1
      rw [k1, cond_true]
      by_cases hf : n.Lost = 1099511627776 ∨ n.Asked = 1099511627776
      · have : (((n.Lost : Int) == 1099511627776) || ((n.Asked : Int) == 1099511627776)) = true := by simpa using hf
        rw [this]
        exact .inl ⟨4, by decide, rfl, fun _ h => by omega⟩
      · have : (((n.Lost : Int) == 1099511627776) || ((n.Asked : Int) == 1099511627776)) = false := by simpa using hf
        rw [this, cond_false]
        refine .inr (.inl ⟨hr, h1, by omega, by omega, ?_⟩)
        unfold inN
        by_cases hl : (n.Has.length : Int) = n.Room
        · have e1 : ((((n.Has.length : Nat) : Int) : Int) == n.Room) = true := by simpa using hl
          rw [e1, cond_true, if_pos hl, if_pos hl, wrap_id (by omega) (by omega), wrap_id (by omega) (by omega)]
          cases n.May <;> rfl
        · have e1 : ((((n.Has.length : Nat) : Int) : Int) == n.Room) = false := by simpa using hl
          rw [e1, cond_false, if_neg hl, if_neg hl, if_pos (by simp only [List.length_cons, List.length_nil]; omega), wrap_id (by omega) (by omega)]
          cases n.May <;> rfl
    · have k1 : ((o.Kind : Int) == 1) = false := by simpa using h1
      rw [k1, cond_false]
      by_cases h2 : o.Kind = 2
      · have k2 : ((o.Kind : Int) == 2) = true := by simpa using h2
        rw [k2, cond_true]
        by_cases hN : o.N < 1
        · have : decide (o.N < 1) = true := by simpa using hN
          rw [this]
          exact .inl ⟨2, by decide, rfl, fun _ h => by omega⟩
        · have : decide (o.N < 1) = false := by simpa using hN
          rw [this, cond_false]
          cases hd : n.Due with
          | false => exact .inl ⟨7, by decide, rfl, fun _ h => by have := h.2.2; cases this⟩
          | true =>
            rw [Bool.not_true, cond_false]
            refine .inr (.inr ⟨hr, h2, by omega, rfl, ?_⟩)
            unfold pollN gotN
            by_cases hl : (n.Has.length : Int) < o.N
            · simp only [if_pos hl, Int.toNat_natCast]
              rw [if_pos (by omega), if_pos (by omega), if_pos (by omega), if_pos (Nat.le_refl _), if_pos (Nat.le_refl _), if_pos (by omega), if_pos (Nat.le_refl _), if_pos (by simp), Option.bind_some]
              have : decide (((n.Has.length : Nat) : Int) < o.N) = true := by simpa using hl
              rw [this]
              simp
            · simp only [if_neg hl]
              have hle : o.N.toNat ≤ n.Has.length := by omega
              rw [if_pos (by omega), if_pos (by omega), if_pos (by omega), if_pos (Nat.le_refl _), if_pos hle, if_pos (by omega), if_pos hle, if_pos (by simp; omega), Option.bind_some]
              have : decide ((o.N : Int) < o.N) = false := by simp
              have e2 : (n.Has.drop o.N.toNat).take (n.Has.length - o.N.toNat) = n.Has.drop o.N.toNat := List.take_of_length_le (by simp)
              rw [this, cond_false, e2]
              simp [hd]
      · have k2 : ((o.Kind : Int) == 2) = false := by simpa using h2
        rw [k2]
        exact .inl ⟨5, by decide, rfl, fun _ h => by omega⟩

theorem RightN.in {n : N} (h : RightN n) (x : Int) (hl : n.Lost ≠ 1099511627776) (ha : n.Asked ≠ 1099511627776) : RightN (inN n x) ∧ (inN n x).Due = true ∧ (inN n x).Room = n.Room ∧ (inN n x).May = false ∧ (inN n x).Has.length ≤ n.Has.length + 1 := by
  obtain ⟨⟨r1, r2⟩, r3, ⟨r4, r5⟩, ⟨r6, r7⟩, r8, r9⟩ := h
  unfold inN
  cases hm : n.May with
  | true =>
    simp only [if_true]
    by_cases hh : (n.Has.length : Int) = n.Room
    · simp only [if_pos hh]
      exact ⟨⟨⟨r1, r2⟩, r3, by simp only; omega, by simp only; omega, (by first | trivial | rfl), fun h => by cases h⟩, (by first | trivial | rfl), (by first | trivial | rfl), (by first | trivial | rfl), by omega⟩
    · simp only [if_neg hh]
      exact ⟨⟨⟨r1, r2⟩, by simp; omega, by simp only; omega, by simp only; omega, (by first | trivial | rfl), fun h => by cases h⟩, (by first | trivial | rfl), (by first | trivial | rfl), (by first | trivial | rfl), by simp⟩
  | false =>
    have hd : n.Due = true := by rw [hm] at r8; revert r8; cases n.Due <;> simp
    simp only [Bool.false_eq_true, if_false]
    by_cases hh : (n.Has.length : Int) = n.Room
    · simp only [if_pos hh]
      exact ⟨⟨⟨r1, r2⟩, r3, by simp only; omega, ⟨r6, r7⟩, by simp [hd], fun h => by simp [hd] at h⟩, hd, (by first | trivial | rfl), (by first | trivial | rfl), by omega⟩
    · simp only [if_neg hh]
      exact ⟨⟨⟨r1, r2⟩, by simp; omega, ⟨r4, r5⟩, ⟨r6, r7⟩, by simp [hd], fun h => by simp [hd] at h⟩, hd, (by first | trivial | rfl), (by first | trivial | rfl), by simp⟩

theorem RightN.poll {n : N} (h : RightN n) (b : Int) (hb : 1 ≤ b) (hd : n.Due = true) : RightN (pollN n b) ∧ (pollN n b).Room = n.Room ∧ gotN n b ++ (pollN n b).Has = n.Has ∧ ((gotN n b).length : Int) ≤ b ∧
    (((pollN n b).Due = true ∧ (pollN n b).May = false ∧ ((pollN n b).Has.length : Int) + 1 ≤ n.Has.length) ∨ ((pollN n b).Due = false ∧ (pollN n b).May = true ∧ (pollN n b).Has = [])) := by
  obtain ⟨⟨r1, r2⟩, r3, ⟨r4, r5⟩, ⟨r6, r7⟩, r8, r9⟩ := h
  unfold pollN gotN
  by_cases hl : (n.Has.length : Int) < b
  · simp only [if_pos hl]
    exact ⟨⟨⟨r1, r2⟩, by simp; omega, ⟨r4, r5⟩, ⟨r6, r7⟩, (by first | trivial | rfl), fun _ => (by first | trivial | rfl)⟩, (by first | trivial | rfl), by simp, by omega, .inr ⟨(by first | trivial | rfl), (by first | trivial | rfl), (by first | trivial | rfl)⟩⟩
  · simp only [if_neg hl]
    have hm : n.May = false := by rw [r8, hd]; rfl
    exact ⟨⟨⟨r1, r2⟩, by simp; omega, ⟨r4, r5⟩, ⟨r6, r7⟩, r8, fun h => by rw [hd] at h; cases h⟩, (by first | trivial | rfl), by simp, by simp; omega, .inl ⟨hd, hm, by simp; omega⟩⟩

theorem Play_l1_eq (ops : List Api_NicOp) (r1 : N × Int) (hn : ops.length * 8 ≤ 140737488355328) : ∀ m k (out : List Int) (n : N), k ≤ ops.length → ops.length - k < m → RightN n → out.length + n.Has.length ≤ k →
    ∃ out' n', nic_Play_l1 ops r1 m out k n.Has n.Room n.Lost n.May n.Due n.Asked = some (out', n', 0) ∧ RightN n' ∧ n'.Room = n.Room := by
  intro m
  induction m with
  | zero => intro k out n h1 h2; omega
  | succ m ih =>
    intro k out n h1 h2 hr hb
    unfold nic_Play_l1
    rcases Nat.lt_or_ge k ops.length with hlt | hge
    · rw [dec_lt hlt, cond_true]
      generalize ops.getD k (⟨0, 0⟩ : Api_NicOp) = o
      change ∃ out' n', ((nic_Step n o).bind _) = _ ∧ _
      rcases Step_cases n o with ⟨e, he, hs, _⟩ | ⟨_, _, hl, ha, hs⟩ | ⟨_, _, hN, hd, hs⟩
      · have he' : ((e : Int) == 0) = false := by simpa using he
        rw [hs, Option.bind_some]
        simp only [he', cond_false]
        exact ih (k + 1) out n (by omega) (by omega) hr (by omega)
      · obtain ⟨i1, i2, i3, i4, i5⟩ := hr.in o.N hl ha
        rw [hs, Option.bind_some]
        simp only [beq_self_eq_true, cond_true]
        rw [if_pos (by simp only [List.length_nil]; omega)]
        obtain ⟨o', n', e1, e2, e3⟩ := ih (k + 1) (out ++ []) (inN n o.N) (by omega) (by omega) i1 (by simp; omega)
        exact ⟨o', n', e1, e2, by rw [e3, i3]⟩
      · obtain ⟨i1, i2, i3, i4, _⟩ := hr.poll o.N hN hd
        have hlen := congrArg List.length i3
        rw [List.length_append] at hlen
        rw [hs, Option.bind_some]
        simp only [beq_self_eq_true, cond_true]
        rw [if_pos (by omega)]
        obtain ⟨o', n', e1, e2, e3⟩ := ih (k + 1) (out ++ gotN n o.N) (pollN n o.N) (by omega) (by omega) i1 (by simp; omega)
        exact ⟨o', n', e1, e2, by rw [e3, i2]⟩
    · rw [dec_ge hge, cond_false]
      exact ⟨out, n, rfl, hr, rfl⟩

theorem new_right {a : Int} (h : 1 ≤ a ∧ a ≤ 64) : RightN ⟨[], a, 0, true, false, 0⟩ := ⟨h, by simp; omega, by simp, by simp, rfl, fun _ => rfl⟩
theorem New_cases (a : Int) : (nic_New a = some (NZ, 2)) ∨ ((1 ≤ a ∧ a ≤ 64) ∧ nic_New a = some (⟨[], a, 0, true, false, 0⟩, 0)) := by
  unfold nic_New
  by_cases h : a < 1 ∨ a > 64
  · have : (decide (a < 1) || decide (a > 64)) = true := by simpa using h
    rw [this]; exact .inl rfl
  · have : (decide (a < 1) || decide (a > 64)) = false := by simp at h ⊢; omega
    rw [this]; exact .inr ⟨by omega, rfl⟩

theorem Play_cases (a : Int) (ops : List Api_NicOp) (hn : ops.length * 8 ≤ 140737488355328) : (nic_Play a ops = some ([], NZ, 2)) ∨
    ((1 ≤ a ∧ a ≤ 64) ∧ ∃ out n, nic_Play a ops = some (out, n, 0) ∧ RightN n ∧ n.Room = a) := by
  unfold nic_Play
  rcases New_cases a with h | ⟨ha, h⟩
  · rw [h]; exact .inl rfl
  · rw [h, Option.bind_some]
    simp only [show ((0 : Int) != 0) = false by decide, cond_false]
    obtain ⟨o, n, e1, e2, e3⟩ := Play_l1_eq ops (⟨[], a, 0, true, false, 0⟩, 0) hn FUEL 0 [] ⟨[], a, 0, true, false, 0⟩ (by omega) (fuel_gt (by omega)) (new_right ha) (by simp)
    exact .inr ⟨ha, o, n, e1, e2, e3⟩

theorem never_l1_eq (a b : Int) (ha : 1 ≤ a ∧ a ≤ 64) (hb : 1 ≤ b) (r4 : List Int × N × Int) (want : List Int) (hw : want.length ≤ 64) : ∀ (j m : Nat) (more : List Int) (x : Int) (n : N), x + j = a + 1 → j < m → 0 ≤ x → RightN n → n.Room = a → more ++ n.Has = want → (n.Due = true → (n.Has.length : Int) + x ≤ a) →
    keep_NicNever_l1 a b r4 want m more x n.Has n.Room n.Lost n.May n.Due n.Asked = some true := by
  have fin : ∀ (n : N) (more : List Int), RightN n → n.Due = false → more ++ n.Has = want → ((bif n.May then slices_Equal_int more want else some false).bind fun r => some (n.May && r)) = some true := by
    intro n more hr hd hm
    have h1 : n.May = true := by rw [hr.may, hd]; rfl
    have h2 : more = want := by rw [← hm, hr.due hd, List.append_nil]
    rw [h1, cond_true, h2, slices_Equal_int_eq _ _ (by omega)]
    simp
  intro j
  induction j with
  | zero =>
    intro m more x n hx hm hx0 hr hroom hmw hdue
    obtain _ | m := m
    · omega
    · unfold keep_NicNever_l1
      rw [wrap_id (by omega) (by omega)]
      have : decide ((x : Int) < a + 1) = false := by simp; omega
      rw [this, cond_false]
      have hd : n.Due = false := by
        cases hd : n.Due with
        | false => rfl
        | true => have := hdue hd; omega
      exact fin n more hr hd hmw
  | succ j ih =>
    intro m more x n hx hm hx0 hr hroom hmw hdue
    obtain _ | m := m
    · omega
    · unfold keep_NicNever_l1
      rw [wrap_id (x := a + 1) (by omega) (by omega)]
      have : decide ((x : Int) < a + 1) = true := by simp; omega
      rw [this, cond_true]
      change ((nic_Step n ⟨2, b⟩).bind _) = _
      have hmore := congrArg List.length hmw
      rw [List.length_append] at hmore
      rcases Step_cases n ⟨2, b⟩ with ⟨e, he, hs, hno⟩ | ⟨_, hk, _⟩ | ⟨_, _, hN, hd, hs⟩
      · have he' : ((e : Int) != 0) = true := by simpa using he
        rw [hs, Option.bind_some]
        simp only [he', cond_true]
        have hd : n.Due = false := by
          cases hd : n.Due with
          | false => rfl
          | true => exact absurd ⟨rfl, hb, hd⟩ (hno hr)
        exact fin n more hr hd hmw
      · cases hk
      · obtain ⟨i1, i2, i3, i4, i5⟩ := hr.poll b hb hd
        have hlen := congrArg List.length i3
        rw [List.length_append] at hlen
        rw [hs, Option.bind_some]
        simp only [show ((0 : Int) != 0) = false by decide, cond_false]
        have : decide ((((gotN n b).length : Nat) : Int) > b) = false := by simp; omega
        rw [this, cond_false, if_pos (by omega), wrap_id (by omega) (by omega)]
        refine ih m (more ++ gotN n b) (x + 1) (pollN n b) (by omega) (by omega) (by omega) i1 (by rw [i2, hroom]) (by rw [List.append_assoc, i3, hmw]) (fun hd' => ?_)
        have := hdue hd
        rcases i5 with ⟨_, _, h⟩ | ⟨h, _⟩
        · omega
        · rw [h] at hd'; cases hd'

theorem NicNever_true (a0 : Int) (a1 : List Api_NicOp) (a2 : Int) (h0 : -9223372036854775808 ≤ a0 ∧ a0 ≤ 9223372036854775807) (h1 : a1.length * 16 ≤ 140737488351232 ∧ ∀ y ∈ a1, Ok_Api_NicOp y) (h2 : -9223372036854775808 ≤ a2 ∧ a2 ≤ 9223372036854775807) : keep_NicNever a0 a1 a2 = some true := by
  unfold keep_NicNever
  have l1 := h1.1
  rw [alive20_eq, Option.bind_some, Bool.not_true, cond_false]
  rcases Play_cases a0 a1 (by omega) with h | ⟨ha, out, n, h, hr, hroom⟩
  · rw [h]; rfl
  · rw [h, Option.bind_some]
    simp only [show ((0 : Int) != 0) = false by decide, cond_false]
    have e : (decide (((n.Has.length : Nat) : Int) > 0) && !n.Due) = false := by
      cases hd : n.Due with
      | true => simp
      | false => rw [hr.due hd]; rfl
    rw [e, Bool.not_false, cond_true, Right_true hr, Option.bind_some, Bool.not_true, Bool.or_self, cond_false]
    by_cases hb : a2 < 1
    · have : decide (a2 < 1) = true := by simpa using hb
      rw [this, cond_true]
    · have : decide (a2 < 1) = false := by simpa using hb
      have hh := hr.has
      rw [this, cond_false]
      unfold slices_Clone_int
      rw [if_pos (by omega), Option.bind_some]
      exact never_l1_eq a0 a2 ha (by omega) _ n.Has (by omega) (a0 + 1).toNat FUEL [] 0 n (by omega) (by unfold FUEL; omega) (by omega) hr hroom rfl (fun _ => by omega)

theorem sameZ : ref_SameNic NZ NZ = some true := by decide +kernel
theorem seldom_l1_eq (ops : List Api_NicOp) (n0 : N) (hn : ops.length ≤ 140737488355328) : ∀ m k (x : Int) (n : N), k ≤ ops.length → ops.length - k < m → RightN n → n.Asked = x + (if n.Due then 1 else 0) → 0 ≤ x →
    keep_NicSeldom_l1 ops (n0, 0) m x k n.Has n.Room n.Lost n.May n.Due n.Asked = some true := by
  intro m
  induction m with
  | zero => intro k x n h1 h2; omega
  | succ m ih =>
    intro k x n h1 h2 hr hx hx0
    unfold keep_NicSeldom_l1
    have hask := hr.asked
    have hxle : x ≤ 1099511627776 := by split at hx <;> omega
    rcases Nat.lt_or_ge k ops.length with hlt | hge
    · rw [dec_lt hlt, cond_true]
      simp only [show ((0 : Int) != 0) = false by decide, cond_false]
      generalize ops.getD k (⟨0, 0⟩ : Api_NicOp) = o
      change ((nic_Step n o).bind _) = _
      rcases Step_cases n o with ⟨e, he, hs, _⟩ | ⟨_, _, hl, ha, hs⟩ | ⟨_, _, hN, hd, hs⟩
      · have he' : ((e : Int) != 0) = true := by simpa using he
        rw [hs, Option.bind_some]
        simp only [he', cond_true, sameZ, Option.bind_some, Bool.not_true, cond_false]
        exact ih (k + 1) x n (by omega) (by omega) hr hx hx0
      · obtain ⟨i1, i2, i3, i4, i5⟩ := hr.in o.N hl ha
        rw [hs, Option.bind_some]
        simp only [show ((0 : Int) != 0) = false by decide, cond_false, i4, Bool.and_false]
        have e1 := ih (k + 1) x (inN n o.N) (by omega) (by omega) i1 (by
          rw [i2, if_pos rfl]
          unfold inN
          cases hm : n.May with
          | true =>
            have hd : n.Due = false := by have := hr.may; rw [hm] at this; revert this; cases n.Due <;> simp
            rw [hd] at hx
            simp only [if_true, Bool.false_eq_true, if_false] at hx ⊢
            omega
          | false =>
            have hd : n.Due = true := by have := hr.may; rw [hm] at this; revert this; cases n.Due <;> simp
            rw [hd] at hx
            simpa using hx) hx0
        rw [i4] at e1
        exact e1
      · obtain ⟨i1, i2, i3, i4, i5⟩ := hr.poll o.N hN hd
        have hA : (pollN n o.N).Asked = n.Asked := by unfold pollN; split <;> rfl
        rw [hd, if_pos rfl] at hx
        rw [hs, Option.bind_some, hd]
        simp only [show ((0 : Int) != 0) = false by decide, cond_false, Bool.true_and]
        rcases i5 with ⟨j1, j2, _⟩ | ⟨j1, j2, _⟩
        · have e1 := ih (k + 1) x (pollN n o.N) (by omega) (by omega) i1 (by rw [hA, j1, if_pos rfl]; exact hx) hx0
          rw [j2] at e1 ⊢
          rw [cond_false]; exact e1
        · have e1 := ih (k + 1) (x + 1) (pollN n o.N) (by omega) (by omega) i1 (by rw [hA, j1]; simp; exact hx) (by omega)
          rw [j2] at e1 ⊢
          rw [cond_true, wrap_id (by omega) (by omega)]; exact e1
    · rw [dec_ge hge, cond_false, wrap_id (by omega) (by omega)]
      simp only [show ((0 : Int) != 0) = false by decide, Bool.false_or]
      split at hx <;> simp <;> omega

theorem NicSeldom_true (a0 : Int) (a1 : List Api_NicOp) (h0 : -9223372036854775808 ≤ a0 ∧ a0 ≤ 9223372036854775807) (h1 : a1.length * 16 ≤ 140737488351232 ∧ ∀ y ∈ a1, Ok_Api_NicOp y) : keep_NicSeldom a0 a1 = some true := by
  unfold keep_NicSeldom
  have l1 := h1.1
  rw [alive20_eq, Option.bind_some, Bool.not_true, cond_false]
  rcases New_cases a0 with h | ⟨ha, h⟩
  · rw [h, Option.bind_some]
    have hF : FUEL = (FUEL - 1) + 1 := by unfold FUEL; rfl
    rw [hF]
    unfold keep_NicSeldom_l1
    cases hd : decide ((((0 : Nat) : Int) : Int) < ((a1.length : Nat) : Int)) <;> rfl
  · rw [h, Option.bind_some]
    exact seldom_l1_eq a1 _ (by omega) FUEL 0 0 ⟨[], a0, 0, true, false, 0⟩ (by omega) (fuel_gt (by omega)) (new_right ha) (by simp) (by omega)

end Go.Proofs.Ytfnhanmdfbdimaa
