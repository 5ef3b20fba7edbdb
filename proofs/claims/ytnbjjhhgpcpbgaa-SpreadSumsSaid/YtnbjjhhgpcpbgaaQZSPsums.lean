/- The plain law SpreadSums (printed by mksums.py). -/
import Derived.Test.YtnbjjhhgpcpbgaaQZSPspread
set_option linter.unusedSimpArgs false
set_option linter.unusedVariables false
set_option linter.unnecessarySimpa false
set_option linter.unusedSectionVars false
namespace Go.Proofs.Ytnbjjhhgpcpbgaa
open Go Go.Ab Go.Sp

theorem F_getD {N : Nat} {f : Nat → Int} {k : Nat} (h : k < N) : (F N f).getD k 0 = f k := by simp [F, List.getD_eq_getElem?_getD, h]
theorem ord_succ (k : Nat) : ord (k + 1) = ord k ++ [(k : Int)] := by unfold ord F; rw [List.range_succ, List.map_append]; rfl
theorem share_succ (ws C : List Int) (k c : Nat) : share ws C (ord (k + 1)) c = if C.getD k 0 = (c : Int) then share ws C (ord k) c + ws.getD k 0 else share ws C (ord k) c := by
  unfold share
  rw [ord_succ, List.filter_append]
  by_cases h : C.getD k 0 = (c : Int)
  · rw [if_pos h, List.filter_cons_of_pos (by rw [Int.toNat_natCast]; exact beq_iff_eq.2 h), List.filter_nil]
    unfold pc
    rw [List.map_append, List.sum_append]
    simp
  · rw [if_neg h, List.filter_cons_of_neg (by rw [Int.toNat_natCast]; intro e; exact h (beq_iff_eq.1 e)), List.filter_nil, List.append_nil]
theorem share_perm {ws C a b : List Int} (h : a.Perm b) (c : Nat) : share ws C a c = share ws C b c := sum_perm ((h.filter _).map _)

section
variable {ws : List Int} {n : Nat} (hn : 1 ≤ n) (hn8 : n ≤ 8) (hl : ws.length ≤ 400) (hw : ∀ w ∈ ws, 0 ≤ w ∧ w ≤ 1073741824) {order : List Int} (ho : order.Perm (ord ws.length)) {p : Api_Plan} (hP : Planned ws n order p)
include hn hn8 hl hw ho hP
theorem share_bd {k : Nat} (hk : k ≤ ws.length) (c : Nat) : 0 ≤ share ws p.Core (ord k) c ∧ share ws p.Core (ord k) c ≤ k * 1073741824 := by
  induction k with
  | zero => simp [share, ord, F]
  | succ k ih =>
    have ih := ih (by omega)
    have hk' : k < ws.length := by omega
    have hb := hw _ (List.getElem_mem hk')
    rw [share_succ, getD_lt _ _ hk']
    push_cast
    split <;> omega
theorem core_rng {k : Nat} (hk : k < ws.length) : 0 ≤ p.Core.getD k 0 ∧ p.Core.getD k 0 < n := by
  have := hP.rng (k : Int) (ho.mem_iff.2 (mem_ord.2 (by omega)))
  rwa [Int.toNat_natCast] at this
theorem fin_eq : (F n fun c => share ws p.Core (ord ws.length) c) = sums (gives fI (none_ n) (pc ws order)) := by
  have hsl := sums_len hn hn8 hl hw (pc ws order)
  refine List.ext_getElem (by rw [F_length, hsl]) fun i h1 h2 => ?_
  rw [F_length] at h1
  have h3 := hP.sh i h1
  rw [getD_lt _ _ h2] at h3
  rw [h3, share_perm ho]
  simp [F]
theorem sums_max {r : Int} (h1 : r ∈ sums (gives fI (none_ n) (pc ws order))) (h2 : ∀ y ∈ sums (gives fI (none_ n) (pc ws order)), y ≤ r) : r = p.Most := by
  have hoo : ∀ j ∈ order, 0 ≤ j ∧ j < ws.length := fun j hj => mem_ord.1 (ho.mem_iff.1 hj)
  have hp := pcs_ok hn hn8 hl hw hoo
  have hm := most_mem fI_least hn (ws := pc ws order) fun x hx => (hp x hx).1
  rw [hP.most]
  have h3 := h2 _ hm
  have h4 : r ≤ most fI n (pc ws order) := le_mx h1
  omega
theorem sums_sum : (sums (gives fI (none_ n) (pc ws order))).sum = ws.sum := by
  have hoo : ∀ j ∈ order, 0 ≤ j ∧ j < ws.length := fun j hj => mem_ord.1 (ho.mem_iff.1 hj)
  have hp := pcs_ok hn hn8 hl hw hoo
  rw [← sum_flat, sum_perm (gives_perm fI_least hn (ws := pc ws order) fun x hx => (hp x hx).1), sum_perm (pc_perm (ws := ws) ho), pc_all]
/-- What is asked at the end of a round. -/
theorem round_end {α : Type} (k : Option α) (z : Option α) : ((slices_Max_int (F n fun c => share ws p.Core (ord ws.length) c)).bind fun r30 =>
      (bif (!((r30 : Int) != p.Most)) then keep_total (F n fun c => share ws p.Core (ord ws.length) c) else some 0).bind fun r32 =>
      (bif (!((r30 : Int) != p.Most)) then keep_total ws else some 0).bind fun r34 =>
      bif (((r30 : Int) != p.Most) || ((r32 : Int) != r34)) then z else k) = k := by
  have hoo : ∀ j ∈ order, 0 ≤ j ∧ j < ws.length := fun j hj => mem_ord.1 (ho.mem_iff.1 hj)
  have hol : order.length = ws.length := by rw [ho.length_eq, F_length]
  rw [fin_eq hn hn8 hl hw ho hP]
  have hsl := sums_len hn hn8 hl hw (pc ws order)
  obtain ⟨r, hr, hr1, hr2⟩ := max_eq (sums (gives fI (none_ n) (pc ws order))) (by omega) (by omega)
  have hr := hr
  have e := sums_max hn hn8 hl hw ho hP hr1 hr2
  subst e
  have hbd := sums_bd hn hn8 hl hw hoo (by omega)
  rw [hr, Option.bind_some]
  simp only [bne_self_eq_false, Bool.not_false, cond_true]
  rw [total_eq _ (by omega) fun x hx => ⟨(hbd x hx).1, by have := (hbd x hx).2; omega⟩, Option.bind_some, total_eq ws (by omega) fun x hx => ⟨(hw x hx).1, by have := (hw x hx).2; omega⟩, Option.bind_some, sums_sum hn hn8 hl hw ho hP]
  simp
theorem keep_SpreadSums_l1_eq : ∀ (f k : Nat), k ≤ ws.length → ws.length - k < f → keep_SpreadSums_l1 ws (n : Int) (p, 0) f k (F n fun c => share ws p.Core (ord k) c) = some true
  | 0, k, _, h => by omega
  | f + 1, k, hk, h => by
    have hCl := hP.len
    unfold keep_SpreadSums_l1
    simp only [hCl]
    rcases Nat.lt_or_ge k ws.length with hlt | hge
    · have hc := core_rng hn hn8 hl hw ho hP hlt
      have hsb := share_bd hn hn8 hl hw ho hP (Nat.le_of_lt hlt) (p.Core.getD k 0).toNat
      have hb := hw _ (List.getElem_mem hlt)
      have hcond : ((decide ((p.Core.getD k 0 : Int) < 0)) || (decide ((p.Core.getD k 0 : Int) ≥ (n : Int)))) = false := by
        rw [decide_eq_false (by omega), decide_eq_false (by omega)]; rfl
      rw [dec_lt hlt, cond_true, Nat.zero_add, hcond, cond_false, F_length, if_pos (by omega), if_pos (by omega), if_pos (by omega), Nat.zero_add, F_getD (by omega), getD_lt _ _ hlt, wrap_id (by omega) (by omega), F_set]
      refine Eq.trans ?_ (keep_SpreadSums_l1_eq  f (k + 1) (by omega) (by omega))
      congr 1
      refine F_congr fun c hcn => ?_
      rw [share_succ, getD_lt _ _ hlt]
      by_cases e : c = (p.Core.getD k 0).toNat
      · rw [if_pos e, if_pos (by omega), e]
      · rw [if_neg e, if_neg (by omega)]
    · have hke : k = ws.length := by omega
      subst hke
      rw [dec_ge (Nat.le_refl _), cond_false]
      rw [round_end hn hn8 hl hw ho hP]
      rw [show IntKind.i64.wrap (IntKind.i64.wrap (0 + 1) + 1) = 2 by decide]; rfl
theorem keep_SpreadSums_l3_eq (r7 : Api_Plan × Int) (k44 : Nat) : ∀ (f k : Nat) (b : Bool), k ≤ ws.length → ws.length - k < f → keep_SpreadSums_l3 ws (n : Int) r7 k44 (p, 0) f k b (F n fun c => share ws p.Core (ord k) c) = some true
  | 0, k, b, _, h => by omega
  | f + 1, k, b, hk, h => by
    have hCl := hP.len
    unfold keep_SpreadSums_l3
    simp only [hCl]
    rcases Nat.lt_or_ge k ws.length with hlt | hge
    · have hc := core_rng hn hn8 hl hw ho hP hlt
      have hsb := share_bd hn hn8 hl hw ho hP (Nat.le_of_lt hlt) (p.Core.getD k 0).toNat
      have hb := hw _ (List.getElem_mem hlt)
      have hcond : ((decide ((p.Core.getD k 0 : Int) < 0)) || (decide ((p.Core.getD k 0 : Int) ≥ (n : Int)))) = false := by
        rw [decide_eq_false (by omega), decide_eq_false (by omega)]; rfl
      rw [dec_lt hlt, cond_true, Nat.zero_add, hcond, cond_false, F_length, if_pos (by omega), if_pos (by omega), if_pos (by omega), Nat.zero_add, F_getD (by omega), getD_lt _ _ hlt, wrap_id (by omega) (by omega), F_set]
      refine Eq.trans ?_ (keep_SpreadSums_l3_eq r7 k44 f (k + 1) true (by omega) (by omega))
      congr 1
      refine F_congr fun c hcn => ?_
      rw [share_succ, getD_lt _ _ hlt]
      by_cases e : c = (p.Core.getD k 0).toNat
      · rw [if_pos e, if_pos (by omega), e]
      · rw [if_neg e, if_neg (by omega)]
    · have hke : k = ws.length := by omega
      subst hke
      rw [dec_ge (Nat.le_refl _), cond_false]
      rw [round_end hn hn8 hl hw ho hP]
      rw [show IntKind.i64.wrap (IntKind.i64.wrap (0 + 1) + 1) = 2 by decide]; rfl
end
section
variable {ws : List Int} {n : Nat} (hn : 1 ≤ n) (hn8 : n ≤ 8) (hl : ws.length ≤ 400) (hw : ∀ w ∈ ws, 0 ≤ w ∧ w ≤ 1073741824)
include hn hn8 hl hw
theorem second (r7 : Api_Plan × Int) (k44 : Nat) (b : Bool) (hwr : wrongS ws (n : Int) = false) : ((spread_Longest ws (n : Int)).bind fun r67 =>
          bif ((r67.2 : Int) != 0) then
            bif (decide (((IntKind.i64.wrap ((IntKind.i64.wrap (0 + 1)) + 1)) : Int) < ((2 : Nat) : Int))) then
              if 0 ≤ ((IntKind.i64.wrap ((IntKind.i64.wrap (0 + 1)) + 1)) : Int) ∧ (IntKind.i64.wrap ((IntKind.i64.wrap (0 + 1)) + 1)) < ((2 : Nat) : Int) then
              none
              else none
            else
              some true
          else
            if 0 ≤ ((n : Int) : Int) ∧ (Int.toNat (n : Int)) * 8 ≤ 140737488355328 ∧ (Int.toNat (n : Int)) ≤ 140737488355328 then
            bif ((((r67.1.Core.length : Nat) : Int) : Int) != ((ws.length : Nat) : Int)) then
              some false
            else
              keep_SpreadSums_l3 ws (n : Int) r7 k44 r67 FUEL 0 b (List.replicate (Int.toNat (n : Int)) (0 : Int))
            else none) = some true := by
  rcases Longest_cases ws (n : Int) (by omega) with ⟨h, _⟩ | ⟨n', e, _, q, h, hQ, _⟩
  · rw [hwr] at h; cases h
  · obtain rfl : n' = n := by omega
    rw [h, Option.bind_some]
    simp only [bne_self_eq_false, cond_false]
    rw [if_pos (by rw [Int.toNat_natCast]; omega), hQ.len]
    simp only [bne_self_eq_false, cond_false]
    rw [Int.toNat_natCast, F_zero]
    exact keep_SpreadSums_l3_eq hn hn8 hl hw (lo_spec ws).1 hQ r7 k44 FUEL 0 b (by omega) (fuel_gt (by omega))
end
section
variable {ws : List Int} {n : Nat} (hn : 1 ≤ n) (hn8 : n ≤ 8) (hl : ws.length ≤ 400) (hw : ∀ w ∈ ws, 0 ≤ w ∧ w ≤ 1073741824) {order : List Int} (ho : order.Perm (ord ws.length)) {p : Api_Plan} (hP : Planned ws n order p)
include hn hn8 hl hw ho hP
theorem keep_SpreadSums_l2_eq (hwr : wrongS ws (n : Int) = false) : ∀ (f k : Nat), k ≤ ws.length → ws.length - k < f → keep_SpreadSums_l2 ws (n : Int) (p, 0) f k (F n fun c => share ws p.Core (ord k) c) = some true
  | 0, k, _, h => by omega
  | f + 1, k, hk, h => by
    have hCl := hP.len
    unfold keep_SpreadSums_l2
    simp only [hCl]
    rcases Nat.lt_or_ge k ws.length with hlt | hge
    · have hc := core_rng hn hn8 hl hw ho hP hlt
      have hsb := share_bd hn hn8 hl hw ho hP (Nat.le_of_lt hlt) (p.Core.getD k 0).toNat
      have hb := hw _ (List.getElem_mem hlt)
      have hcond : ((decide ((p.Core.getD k 0 : Int) < 0)) || (decide ((p.Core.getD k 0 : Int) ≥ (n : Int)))) = false := by
        rw [decide_eq_false (by omega), decide_eq_false (by omega)]; rfl
      rw [dec_lt hlt, cond_true, Nat.zero_add, hcond, cond_false, F_length, if_pos (by omega), if_pos (by omega), if_pos (by omega), Nat.zero_add, F_getD (by omega), getD_lt _ _ hlt, wrap_id (by omega) (by omega), F_set]
      refine Eq.trans ?_ (keep_SpreadSums_l2_eq hwr f (k + 1) (by omega) (by omega))
      congr 1
      refine F_congr fun c hcn => ?_
      rw [share_succ, getD_lt _ _ hlt]
      by_cases e : c = (p.Core.getD k 0).toNat
      · rw [if_pos e, if_pos (by omega), e]
      · rw [if_neg e, if_neg (by omega)]
    · have hke : k = ws.length := by omega
      subst hke
      rw [dec_ge (Nat.le_refl _), cond_false]
      rw [round_end hn hn8 hl hw ho hP]
      rw [show IntKind.i64.wrap (0 + 1) = 1 by decide, decide_eq_true (by decide), cond_true, if_pos (by decide)]
      have := second hn hn8 hl hw (p, 0) ws.length (decide ((((ws.length : Nat) : Int) : Int) < ((ws.length : Nat) : Int))) hwr
      rw [show IntKind.i64.wrap (0 + 1) = 1 by decide] at this
      exact this
end
theorem SpreadSums_true (a0 : List Int) (a1 : Int) (h0 : a0.length * 8 ≤ 140737488351232 ∧ ∀ y ∈ a0, -9223372036854775808 ≤ y ∧ y ≤ 9223372036854775807) (h1 : -9223372036854775808 ≤ a1 ∧ a1 ≤ 9223372036854775807) : keep_SpreadSums a0 a1 = some true := by
  unfold keep_SpreadSums
  rw [alive5_eq, Option.bind_some, Bool.not_true, cond_false, decide_eq_true (by decide), cond_true]
  have hl : a0.length ≤ 140737488355328 := by omega
  rcases List_cases a0 a1 hl with ⟨hw, h⟩ | ⟨n, rfl, hw, p, h, hP, hM⟩
  · rw [h, Option.bind_some]
    rcases Longest_cases a0 a1 hl with ⟨_, h'⟩ | ⟨n, _, hw', _⟩
    · rw [h', show IntKind.i64.wrap (0 + 1) = 1 by decide]
      rfl
    · rw [hw] at hw'; cases hw'
  · obtain ⟨w1, w2, w3, w4⟩ := wrongS_ok hw
    rw [h, Option.bind_some]
    simp only [bne_self_eq_false, cond_false]
    rw [if_pos (by rw [Int.toNat_natCast]; omega), hP.len]
    simp only [bne_self_eq_false, cond_false]
    rw [Int.toNat_natCast, F_zero]
    exact keep_SpreadSums_l2_eq (by omega) (by omega) w3 w4 (List.Perm.refl _) hP hw FUEL 0 (by omega) (fuel_gt (by omega))
end Go.Proofs.Ytnbjjhhgpcpbgaa
