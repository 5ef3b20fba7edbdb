/- Plain laws of nic. -/
import Derived.Test.YtfnhanmdfbdimaaQCM
import Derived.Test.YtfnhanmdfbdimaaPLib
import Derived.Test.YtfnhanmdfbdimaaQCK
set_option linter.unusedSimpArgs false
set_option linter.unusedVariables false
namespace Go.Proofs.Ytfnhanmdfbdimaa
open Go Go.Ab

theorem alive20_eq : keep_alive20 = some true := by decide +kernel
abbrev N := Api_Nic
abbrev NZ : N := ⟨[], 0, 0, false, false, 0⟩
structure RightN (n : N) : Prop where
  room : 1 ≤ n.Room ∧ n.Room ≤ 64
  has : (n.Has.length : Int) ≤ n.Room
  lost : 0 ≤ n.Lost ∧ n.Lost ≤ 1099511627776
  asked : 0 ≤ n.Asked ∧ n.Asked ≤ 1099511627776
  may : n.May = !n.Due
  due : n.Due = false → n.Has = []
theorem Right_eq (n : N) : ∃ b, nic_Right n = some b ∧ (b = true ↔ RightN n) := by
  refine ⟨_, rfl, ?_⟩
  simp only [Bool.and_eq_true, decide_eq_true_eq, Bool.or_eq_true, bne_iff_ne, beq_iff_eq]
  constructor
  · rintro ⟨⟨⟨⟨⟨⟨⟨⟨h1, h2⟩, h3⟩, h4⟩, h5⟩, h6⟩, h7⟩, h8⟩, h9⟩
    refine ⟨⟨h1, h2⟩, h3, ⟨h4, h5⟩, ⟨h6, h7⟩, ?_, fun hd => ?_⟩
    · revert h8; cases n.May <;> cases n.Due <;> simp
    · rcases h9 with h9 | h9
      · rw [hd] at h9; cases h9
      · exact List.eq_nil_of_length_eq_zero (by omega)
  · rintro ⟨⟨h1, h2⟩, h3, ⟨h4, h5⟩, ⟨h6, h7⟩, h8, h9⟩
    refine ⟨⟨⟨⟨⟨⟨⟨⟨h1, h2⟩, h3⟩, h4⟩, h5⟩, h6⟩, h7⟩, ?_⟩, ?_⟩
    · rw [h8]; cases n.Due <;> simp
    · cases hd : n.Due with
      | true => exact .inl rfl
      | false => right; rw [h9 hd]; rfl
theorem Right_true {n : N} (h : RightN n) : nic_Right n = some true := by
  obtain ⟨b, h1, h2⟩ := Right_eq n
  rw [h1, h2.2 h]

def inN (n : N) (x : Int) : N :=
  let h := if (n.Has.length : Int) = n.Room then n.Has else n.Has ++ [x]
  let l := if (n.Has.length : Int) = n.Room then n.Lost + 1 else n.Lost
  if n.May then ⟨h, n.Room, l, false, true, n.Asked + 1⟩ else ⟨h, n.Room, l, n.May, n.Due, n.Asked⟩
def pollN (n : N) (b : Int) : N :=
  if (n.Has.length : Int) < b then ⟨[], n.Room, n.Lost, true, false, n.Asked⟩ else ⟨n.Has.drop b.toNat, n.Room, n.Lost, n.May, n.Due, n.Asked⟩
def gotN (n : N) (b : Int) : List Int := if (n.Has.length : Int) < b then n.Has else n.Has.take b.toNat

theorem Step_cases (n : N) (o : Api_NicOp) : (∃ e, e ≠ 0 ∧ nic_Step n o = some (NZ, [], e) ∧ (RightN n → ¬ (o.Kind = 2 ∧ 1 ≤ o.N ∧ n.Due = true)) ∧ (RightN n → ¬ (o.Kind = 1 ∧ n.Lost ≠ 1099511627776 ∧ n.Asked ≠ 1099511627776))) ∨
    (RightN n ∧ o.Kind = 1 ∧ n.Lost ≠ 1099511627776 ∧ n.Asked ≠ 1099511627776 ∧ nic_Step n o = some (inN n o.N, [], 0)) ∨
    (RightN n ∧ o.Kind = 2 ∧ 1 ≤ o.N ∧ n.Due = true ∧ nic_Step n o = some (pollN n o.N, gotN n o.N, 0)) := by
  unfold nic_Step slices_Clone_int
  obtain ⟨b, hb1, hb2⟩ := Right_eq n
  rw [hb1, Option.bind_some]
  cases b with
  | false => exact .inl ⟨1, by decide, rfl, fun h => (by have := hb2.2 h; cases this), fun h => (by have := hb2.2 h; cases this)⟩
  | true =>
    have hr := hb2.1 rfl
    obtain ⟨⟨r1, r2⟩, r3, ⟨r4, r5⟩, ⟨r6, r7⟩, r8, r9⟩ := hb2.1 rfl
    rw [Bool.not_true, cond_false, if_pos (by omega), Option.bind_some]
    by_cases h1 : o.Kind = 1
    · have k1 : ((o.Kind : Int) == 1) = true := by simpa using h1
      rw [k1, cond_true]
      by_cases hf : n.Lost = 1099511627776 ∨ n.Asked = 1099511627776
      · have : (((n.Lost : Int) == 1099511627776) || ((n.Asked : Int) == 1099511627776)) = true := by simpa using hf
        rw [this]
        exact .inl ⟨4, by decide, rfl, fun _ h => (by omega), fun _ h => (by omega)⟩
      · have : (((n.Lost : Int) == 1099511627776) || ((n.Asked : Int) == 1099511627776)) = false := by simpa using hf
        rw [this, cond_false]
        refine .inr (.inl ⟨hr, h1, by omega, by omega, ?_⟩)
        unfold inN
        by_cases hl : (n.Has.length : Int) = n.Room
        · have e1 : ((((n.Has.length : Nat) : Int) : Int) == n.Room) = true := by simpa using hl
          rw [e1, cond_true, if_pos hl, if_pos hl, wrap_id (by omega) (by omega), wrap_id (by omega) (by omega)]
          cases n.May <;> rfl
        · have e1 : ((((n.Has.length : Nat) : Int) : Int) == n.Room) = false := by simpa using hl
          rw [e1, cond_false, if_neg hl, if_neg hl, if_pos (by simp only [List.length_cons, List.length_nil]; omega), wrap_id (by omega) (by omega)]
          cases n.May <;> rfl
    · have k1 : ((o.Kind : Int) == 1) = false := by simpa using h1
      rw [k1, cond_false]
      by_cases h2 : o.Kind = 2
      · have k2 : ((o.Kind : Int) == 2) = true := by simpa using h2
        rw [k2, cond_true]
        by_cases hN : o.N < 1
        · have : decide (o.N < 1) = true := by simpa using hN
          rw [this]
          exact .inl ⟨2, by decide, rfl, fun _ h => (by omega), fun _ h => (by omega)⟩
        · have : decide (o.N < 1) = false := by simpa using hN
          rw [this, cond_false]
          cases hd : n.Due with
          | false => exact .inl ⟨7, by decide, rfl, fun _ h => (by have := h.2.2; cases this), fun _ h => (by omega)⟩
          | true =>
            rw [Bool.not_true, cond_false]
            refine .inr (.inr ⟨hr, h2, by omega, rfl, ?_⟩)
            unfold pollN gotN
            by_cases hl : (n.Has.length : Int) < o.N
            · simp only [if_pos hl, Int.toNat_natCast]
              rw [if_pos (by omega), if_pos (by omega), if_pos (by omega), if_pos (Nat.le_refl _), if_pos (Nat.le_refl _), if_pos (by omega), if_pos (Nat.le_refl _), if_pos (by simp), Option.bind_some]
              have : decide (((n.Has.length : Nat) : Int) < o.N) = true := by simpa using hl
              rw [this]
              simp
            · simp only [if_neg hl]
              have hle : o.N.toNat ≤ n.Has.length := by omega
              rw [if_pos (by omega), if_pos (by omega), if_pos (by omega), if_pos (Nat.le_refl _), if_pos hle, if_pos (by omega), if_pos hle, if_pos (by simp; omega), Option.bind_some]
              have : decide ((o.N : Int) < o.N) = false := by simp
              have e2 : (n.Has.drop o.N.toNat).take (n.Has.length - o.N.toNat) = n.Has.drop o.N.toNat := List.take_of_length_le (by simp)
              rw [this, cond_false, e2]
              simp [hd]
      · have k2 : ((o.Kind : Int) == 2) = false := by simpa using h2
        rw [k2]
        exact .inl ⟨5, by decide, rfl, fun _ h => (by omega), fun _ h => (by omega)⟩

theorem RightN.in {n : N} (h : RightN n) (x : Int) (hl : n.Lost ≠ 1099511627776) (ha : n.Asked ≠ 1099511627776) : RightN (inN n x) ∧ (inN n x).Due = true ∧ (inN n x).Room = n.Room ∧ (inN n x).May = false ∧ (inN n x).Has.length ≤ n.Has.length + 1 := by
  obtain ⟨⟨r1, r2⟩, r3, ⟨r4, r5⟩, ⟨r6, r7⟩, r8, r9⟩ := h
  unfold inN
  cases hm : n.May with
  | true =>
    simp only [if_true]
    by_cases hh : (n.Has.length : Int) = n.Room
    · simp only [if_pos hh]
      exact ⟨⟨⟨r1, r2⟩, r3, by simp only; omega, by simp only; omega, (by first | trivial | rfl), fun h => by cases h⟩, (by first | trivial | rfl), (by first | trivial | rfl), (by first | trivial | rfl), by omega⟩
    · simp only [if_neg hh]
      exact ⟨⟨⟨r1, r2⟩, by simp; omega, by simp only; omega, by simp only; omega, (by first | trivial | rfl), fun h => by cases h⟩, (by first | trivial | rfl), (by first | trivial | rfl), (by first | trivial | rfl), by simp⟩
  | false =>
    have hd : n.Due = true := by rw [hm] at r8; revert r8; cases n.Due <;> simp
    simp only [Bool.false_eq_true, if_false]
    by_cases hh : (n.Has.length : Int) = n.Room
    · simp only [if_pos hh]
      exact ⟨⟨⟨r1, r2⟩, r3, by simp only; omega, ⟨r6, r7⟩, by simp [hd], fun h => by simp [hd] at h⟩, hd, (by first | trivial | rfl), (by first | trivial | rfl), by omega⟩
    · simp only [if_neg hh]
      exact ⟨⟨⟨r1, r2⟩, by simp; omega, ⟨r4, r5⟩, ⟨r6, r7⟩, by simp [hd], fun h => by simp [hd] at h⟩, hd, (by first | trivial | rfl), (by first | trivial | rfl), by simp⟩

theorem RightN.poll {n : N} (h : RightN n) (b : Int) (hb : 1 ≤ b) (hd : n.Due = true) : RightN (pollN n b) ∧ (pollN n b).Room = n.Room ∧ gotN n b ++ (pollN n b).Has = n.Has ∧ ((gotN n b).length : Int) ≤ b ∧
    (((pollN n b).Due = true ∧ (pollN n b).May = false ∧ ((pollN n b).Has.length : Int) + 1 ≤ n.Has.length) ∨ ((pollN n b).Due = false ∧ (pollN n b).May = true ∧ (pollN n b).Has = [])) := by
  obtain ⟨⟨r1, r2⟩, r3, ⟨r4, r5⟩, ⟨r6, r7⟩, r8, r9⟩ := h
  unfold pollN gotN
  by_cases hl : (n.Has.length : Int) < b
  · simp only [if_pos hl]
    exact ⟨⟨⟨r1, r2⟩, by simp; omega, ⟨r4, r5⟩, ⟨r6, r7⟩, (by first | trivial | rfl), fun _ => (by first | trivial | rfl)⟩, (by first | trivial | rfl), by simp, by omega, .inr ⟨(by first | trivial | rfl), (by first | trivial | rfl), (by first | trivial | rfl)⟩⟩
  · simp only [if_neg hl]
    have hm : n.May = false := by rw [r8, hd]; rfl
    exact ⟨⟨⟨r1, r2⟩, by simp; omega, ⟨r4, r5⟩, ⟨r6, r7⟩, r8, fun h => by rw [hd] at h; cases h⟩, (by first | trivial | rfl), by simp, by simp; omega, .inl ⟨hd, hm, by simp; omega⟩⟩

theorem new_right {a : Int} (h : 1 ≤ a ∧ a ≤ 64) : RightN ⟨[], a, 0, true, false, 0⟩ := ⟨h, by simp; omega, by simp, by simp, rfl, fun _ => rfl⟩
theorem New_cases (a : Int) : (nic_New a = some (NZ, 2)) ∨ ((1 ≤ a ∧ a ≤ 64) ∧ nic_New a = some (⟨[], a, 0, true, false, 0⟩, 0)) := by
  unfold nic_New
  by_cases h : a < 1 ∨ a > 64
  · have : (decide (a < 1) || decide (a > 64)) = true := by simpa using h
    rw [this]; exact .inl rfl
  · have : (decide (a < 1) || decide (a > 64)) = false := by simp at h ⊢; omega
    rw [this]; exact .inr ⟨by omega, rfl⟩


def insF (ops : List Api_NicOp) : List Int := (ops.filter fun o => o.Kind == 1).map (·.N)
theorem insF_snoc (a : List Api_NicOp) (o : Api_NicOp) : insF (a ++ [o]) = insF a ++ if o.Kind = 1 then [o.N] else [] := by
  unfold insF
  by_cases h : o.Kind = 1 <;> simp [h]
structure K (n : N) (out : List Int) (ops : List Api_NicOp) : Prop where
  r : RightN n
  sub : (out ++ n.Has).Sublist (insF ops)
  cnt : ((insF ops).length : Int) = (out ++ n.Has).length + n.Lost
  few : n.Lost ≤ ops.length ∧ n.Asked ≤ ops.length
theorem in_parts (n : N) (x : Int) : (inN n x).Lost ≤ n.Lost + 1 ∧ (inN n x).Asked ≤ n.Asked + 1 ∧ (((inN n x).Has = n.Has ∧ (inN n x).Lost = n.Lost + 1) ∨ ((inN n x).Has = n.Has ++ [x] ∧ (inN n x).Lost = n.Lost)) := by
  unfold inN
  by_cases h : (n.Has.length : Int) = n.Room <;> cases hm : n.May <;> simp [h] <;> omega
theorem poll_parts (n : N) (b : Int) : (pollN n b).Lost = n.Lost ∧ (pollN n b).Asked = n.Asked := by
  unfold pollN; split <;> exact ⟨rfl, rfl⟩

theorem Play_l1_eq (ops : List Api_NicOp) (r1 : N × Int) (hn : ops.length ≤ 1048576) : ∀ m k (out : List Int) (n : N), k ≤ ops.length → ops.length - k < m → K n out (ops.take k) →
    ∃ out' n', nic_Play_l1 ops r1 m out k n.Has n.Room n.Lost n.May n.Due n.Asked = some (out', n', 0) ∧ K n' out' ops := by
  intro m
  induction m with
  | zero => intro k out n h1 h2; omega
  | succ m ih =>
    intro k out n h1 h2 hk
    unfold nic_Play_l1
    rcases Nat.lt_or_ge k ops.length with hlt | hge
    · have hr := hk.r
      have hfew := hk.few
      have hcnt := hk.cnt
      have hlen := congrArg List.length (List.take_succ_eq_append_getElem hlt)
      have hil : (insF (ops.take k)).length ≤ k := by
        unfold insF
        rw [List.length_map]
        exact Nat.le_trans (List.length_filter_le _ _) (by simp; omega)
      rw [List.length_append] at hcnt
      rw [List.length_take] at hfew
      have hsn := insF_snoc (ops.take k) ops[k]
      rw [← List.take_succ_eq_append_getElem hlt] at hsn
      have hl0 := hr.lost
      rw [dec_lt hlt, cond_true, getD_lt _ _ hlt]
      generalize ops[k] = o at *
      change ∃ out' n', ((nic_Step n o).bind _) = _ ∧ _
      rcases Step_cases n o with ⟨e, he, hs, hno, hno1⟩ | ⟨_, hk1, hl, ha, hs⟩ | ⟨_, hk2, hN, hd, hs⟩
      · have he' : ((e : Int) == 0) = false := by simpa using he
        rw [hs, Option.bind_some]
        simp only [he', cond_false]
        have hk1 : o.Kind ≠ 1 := fun h => hno1 hr ⟨h, by omega, by omega⟩
        rw [if_neg hk1, List.append_nil] at hsn
        exact ih (k + 1) out n (by omega) (by omega) ⟨hr, by rw [hsn]; exact hk.sub, by rw [hsn]; exact hk.cnt, by rw [List.length_take]; omega⟩
      · obtain ⟨i1, i2, i3, i4, i5⟩ := hr.in o.N hl ha
        obtain ⟨p1, p2, p3⟩ := in_parts n o.N
        rw [hs, Option.bind_some]
        simp only [beq_self_eq_true, cond_true]
        rw [if_pos (by simp only [List.length_nil]; omega)]
        rw [if_pos hk1] at hsn
        refine ih (k + 1) (out ++ []) (inN n o.N) (by omega) (by omega) ⟨i1, ?_, ?_, by rw [List.length_take]; omega⟩
        · rw [hsn, List.append_nil]
          rcases p3 with ⟨p4, _⟩ | ⟨p4, _⟩ <;> rw [p4]
          · exact hk.sub.trans (List.sublist_append_left _ _)
          · rw [← List.append_assoc]
            exact hk.sub.append (List.Sublist.refl _)
        · rw [hsn, List.append_nil, List.length_append, List.length_append]
          rcases p3 with ⟨p4, p5⟩ | ⟨p4, p5⟩ <;> rw [p4, p5] <;> simp <;> omega
      · obtain ⟨i1, i2, i3, i4, _⟩ := hr.poll o.N hN hd
        obtain ⟨p1, p2⟩ := poll_parts n o.N
        have hlen' := congrArg List.length i3
        rw [List.length_append] at hlen'
        rw [hs, Option.bind_some]
        simp only [beq_self_eq_true, cond_true]
        rw [if_pos (by omega)]
        rw [if_neg (by omega), List.append_nil] at hsn
        refine ih (k + 1) (out ++ gotN n o.N) (pollN n o.N) (by omega) (by omega) ⟨i1, ?_, ?_, by rw [List.length_take, p1, p2]; omega⟩
        · rw [hsn, List.append_assoc, i3]; exact hk.sub
        · rw [hsn, List.append_assoc, i3, p1]; exact hk.cnt
    · rw [dec_ge hge, cond_false]
      rw [List.take_of_length_le hge] at hk
      exact ⟨out, n, rfl, hk⟩

theorem Play_cases (a : Int) (ops : List Api_NicOp) (hn : ops.length ≤ 1048576) : (nic_Play a ops = some ([], NZ, 2)) ∨
    ∃ out n, nic_Play a ops = some (out, n, 0) ∧ K n out ops := by
  unfold nic_Play
  rcases New_cases a with h | ⟨ha, h⟩
  · rw [h]; exact .inl rfl
  · rw [h, Option.bind_some]
    simp only [show ((0 : Int) != 0) = false by decide, cond_false]
    obtain ⟨o, n, e1, e2⟩ := Play_l1_eq ops (⟨[], a, 0, true, false, 0⟩, 0) hn FUEL 0 [] ⟨[], a, 0, true, false, 0⟩ (by omega) (fuel_gt (by omega)) ⟨new_right ha, by simp [insF], by simp [insF], by simp⟩
    exact .inr ⟨o, n, e1, e2⟩

theorem sub_cons_eq {x : Int} {xs ys : List Int} (h : (x :: xs).Sublist (x :: ys)) : xs.Sublist ys := by
  cases h with
  | cons _ h => exact (List.sublist_cons_self x xs).trans h
  | cons_cons _ h => exact h
theorem sub_cons_ne {x y : Int} {xs ys : List Int} (h : (x :: xs).Sublist (y :: ys)) (hne : x ≠ y) : (x :: xs).Sublist ys := by
  cases h with
  | cons _ h => exact h
  | cons_cons _ h => exact absurd rfl hne
theorem insF_cons (o : Api_NicOp) (r : List Api_NicOp) : insF (o :: r) = (if o.Kind = 1 then [o.N] else []) ++ insF r := by
  unfold insF
  by_cases h : o.Kind = 1 <;> simp [h]
theorem stream_l1_eq (ops : List Api_NicOp) (r4 : List Int × N × Int) (all : List Int) (hn : ops.length ≤ 1048576) (hall : all.length ≤ 140737488355328) (hL : 0 ≤ r4.2.1.Lost ∧ r4.2.1.Lost ≤ 1099511627776) (hcnt : ((insF ops).length : Int) = all.length + r4.2.1.Lost) :
    ∀ m k (x : Nat) (j : Nat), k ≤ ops.length → ops.length - k < m → j ≤ all.length → (all.drop j).Sublist (insF (ops.drop k)) → x + (insF (ops.drop k)).length = (insF ops).length → x ≤ k →
    keep_NicStream_l1 ops r4 all m (x : Int) (j : Int) k = some true := by
  intro m
  induction m with
  | zero => intro k x j h1 h2; omega
  | succ m ih =>
    intro k x j h1 h2 hj hs hx hxk
    unfold keep_NicStream_l1
    rcases Nat.lt_or_ge k ops.length with hlt | hge
    · rw [dec_lt hlt, cond_true]
      simp only [getD_lt _ _ hlt]
      rw [List.drop_eq_getElem_cons hlt, insF_cons] at hs hx
      generalize ops[k] = o at *
      by_cases ho : o.Kind = 1
      · have : ((o.Kind : Int) != 1) = false := by simpa using ho
        rw [if_pos ho] at hs hx
        rw [this, cond_false, if_pos (fun h => by have := of_decide_eq_true h; omega)]
        simp only [List.singleton_append, List.length_cons] at hs hx
        rw [wrap_id (x := (x : Int) + 1) (by omega) (by omega)]
        rcases Nat.lt_or_ge j all.length with hjl | hjg
        · have hd : decide (((j : Nat) : Int) < ((all.length : Nat) : Int)) = true := by simp; omega
          rw [List.drop_eq_getElem_cons hjl] at hs
          have e0 : (0 + (Int.toNat ((j : Nat) : Int))) = j := by omega
          rw [hd, Bool.true_and, e0, getD_lt _ _ hjl]
          by_cases he : all[j] = o.N
          · have : ((all[j] : Int) == o.N) = true := by simpa using he
            rw [this, cond_true, wrap_id (x := (j : Int) + 1) (by omega) (by omega)]
            rw [he] at hs
            exact ih (k + 1) (x + 1) (j + 1) (by omega) (by omega) (by omega) (sub_cons_eq hs) (by omega) (by omega)
          · have : ((all[j] : Int) == o.N) = false := by simpa using he
            rw [this, cond_false]
            refine ih (k + 1) (x + 1) j (by omega) (by omega) hj ?_ (by omega) (by omega)
            rw [List.drop_eq_getElem_cons hjl]
            exact sub_cons_ne hs he
        · have hd : decide (((j : Nat) : Int) < ((all.length : Nat) : Int)) = false := by simp; omega
          rw [hd, Bool.false_and, cond_false]
          refine ih (k + 1) (x + 1) j (by omega) (by omega) hj ?_ (by omega) (by omega)
          rw [List.drop_of_length_le hjg]
          exact List.nil_sublist _
      · have : ((o.Kind : Int) != 1) = true := by simpa using ho
        rw [if_neg ho, List.nil_append] at hs hx
        rw [this, cond_true]
        exact ih (k + 1) x j (by omega) (by omega) hj hs hx (by omega)
    · rw [dec_ge hge, cond_false]
      rw [List.drop_of_length_le hge] at hs hx
      have h0 : insF [] = [] := rfl
      rw [h0] at hs hx
      have hj' : all.drop j = [] := List.sublist_nil.1 hs
      have hjl : j = all.length := by
        have := congrArg List.length hj'
        simp at this
        omega
      simp only [List.length_nil] at hx
      rw [wrap_id (by omega) (by omega)]
      simp
      omega

theorem NicStream_trueU (a0 : Int) (a1 : List Api_NicOp) (h0 : -9223372036854775808 ≤ a0 ∧ a0 ≤ 9223372036854775807) (h1 : a1.length ≤ 1048576 ∧ ∀ y ∈ a1, OkU_Api_NicOp y) : keep_NicStream a0 a1 = some true := by
  unfold keep_NicStream
  have l1 := h1.1
  rw [alive20_eq, Option.bind_some, Bool.not_true, cond_false]
  rcases Play_cases a0 a1 l1 with h | ⟨out, n, h, hk⟩
  · rw [h]; rfl
  · rw [h, Option.bind_some]
    have hfl : [out, n.Has].flatten = out ++ n.Has := by simp
    have hil : (insF a1).length ≤ a1.length := by
      unfold insF
      rw [List.length_map]
      exact List.length_filter_le _ _
    have hsl := hk.sub.length_le
    simp only [show ((0 : Int) != 0) = false by decide, cond_false]
    rw [slices_Concat_int_eq _ (by simp) (by rw [hfl]; omega), Option.bind_some, hfl]
    exact stream_l1_eq a1 _ _ l1 (by omega) hk.r.lost hk.cnt FUEL 0 0 0 (by omega) (fuel_gt (by omega)) (by omega) (by simpa using hk.sub) (by simp) (by omega)
end Go.Proofs.Ytfnhanmdfbdimaa
