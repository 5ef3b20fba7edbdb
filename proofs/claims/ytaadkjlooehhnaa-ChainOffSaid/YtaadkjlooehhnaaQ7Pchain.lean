/- Plain laws of chain. -/
import Derived.Test.YtaadkjlooehhnaaQ7M
import Derived.Test.YtaadkjlooehhnaaPLib
import Derived.Test.YtaadkjlooehhnaaQ7K
set_option linter.unusedSimpArgs false
set_option linter.unusedVariables false
namespace Go.Proofs.Ytaadkjlooehhnaa
open Go Go.Ab

theorem alive9_eq : keep_alive9 = some true := by decide +kernel

abbrev H := Api_Handler
abbrev HZ : H := ⟨0, 0⟩
def badH (a0 : H) : Bool := ((((decide ((a0.Says : Int) < 1)) || (decide ((a0.Says : Int) > 2))) || (decide ((a0.Left : Int) < 0))) || (decide ((a0.Left : Int) > 1099511627776)))
def rightC (l : List H) : Bool := decide (l.length ≤ 16) && !(l.any badH)
theorem RightC_eq (l : List H) : chain_Right l = some (rightC l) := by
  unfold chain_Right rightC
  by_cases h : l.length ≤ 16
  · have : decide ((((l.length : Nat) : Int) : Int) ≤ 16) = true := by simp; omega
    have h2 : decide (l.length ≤ 16) = true := by simpa using h
    rw [this, cond_true, h2, slices_ContainsFunc_api_Handler_chain_Right_1_eq (f := badH) (fun _ => rfl) l (by omega), Option.bind_some]
  · have : decide ((((l.length : Nat) : Int) : Int) ≤ 16) = false := by simp; omega
    have h2 : decide (l.length ≤ 16) = false := by simpa using h
    rw [this, cond_false, h2]
    rfl
def okH (h : H) : Prop := (h.Says = 1 ∨ h.Says = 2) ∧ 0 ≤ h.Left ∧ h.Left ≤ 1099511627776
theorem badH_iff (h : H) : badH h = false ↔ okH h := by
  simp only [badH, Bool.or_eq_false_iff, decide_eq_false_iff_not, okH]
  omega
theorem rightC_iff (l : List H) : rightC l = true ↔ l.length ≤ 16 ∧ ∀ h ∈ l, okH h := by
  simp only [rightC, Bool.and_eq_true, Bool.not_eq_true', List.any_eq_false, decide_eq_true_eq]
  constructor
  · rintro ⟨h1, h2⟩; exact ⟨h1, fun h hh => (badH_iff h).1 (by simpa using h2 h hh)⟩
  · rintro ⟨h1, h2⟩; exact ⟨h1, fun h hh => by simpa using (badH_iff h).2 (h2 h hh)⟩

def sayF (h : H) : Int := if h.Left = 0 then 0 else h.Says
def nxt (h : H) : H := if h.Left = 0 then h else ⟨h.Says, h.Left - 1⟩
theorem says_eq (h : H) (hk : okH h) : chain_says h = some (sayF h, nxt h) := by
  unfold chain_says sayF nxt
  unfold okH at hk
  by_cases h0 : h.Left = 0
  · have : ((h.Left : Int) == 0) = true := by simpa using h0
    rw [this, cond_true, if_pos h0, if_pos h0]
  · have : ((h.Left : Int) == 0) = false := by simpa using h0
    rw [this, cond_false, if_neg h0, if_neg h0, wrap_id (by omega) (by omega)]
theorem okH_nxt {h : H} (hk : okH h) : okH (nxt h) := by
  unfold nxt okH at *
  split
  · exact hk
  · simp only; omega
theorem say_pos {h : H} (hk : okH h) : sayF h ≠ 0 ↔ 0 < h.Left := by
  unfold sayF okH at *
  split <;> omega

def wkF : Nat → List H → List Int
  | k, [] => []
  | k, h :: t => (if sayF h = 2 then [(k : Int)] else []) ++ wkF (k + 1) t
def anyF (l : List H) : Bool := l.any fun h => sayF h != 0
def endT (b : Bool) (t : Api_Tally) : Api_Tally := if b then ⟨t.Came + 1, 0, false⟩ else ⟨t.Came + 1, t.Nobody + 1, t.Nobody + 1 == 5⟩
def okT (t : Api_Tally) : Prop := 0 ≤ t.Came ∧ t.Came < 1099511627776 ∧ 0 ≤ t.Nobody ∧ t.Nobody < 5

theorem wkF_len : ∀ (l : List H) k, (wkF k l).length ≤ l.length
  | [], k => Nat.le_refl _
  | h :: t, k => by
    have := wkF_len t (k + 1)
    unfold wkF
    split <;> simp <;> omega

theorem Serve_l1_eq (t : Api_Tally) (ht : okT t) (r : List H) (hr : r.length ≤ 16) (hok : ∀ h ∈ r, okH h) : ∀ n k (w : List Int) (b : Bool), k ≤ r.length → r.length - k < n → w.length ≤ k →
    chain_Serve_l1 t r n w b k ((r.take k).map nxt ++ r.drop k) = some (r.map nxt, w ++ wkF k (r.drop k), endT (b || anyF (r.drop k)) t, 0) := by
  intro n
  induction n with
  | zero => intro k w b h1 h2; omega
  | succ n ih =>
    intro k w b h1 h2 hw
    unfold chain_Serve_l1
    rcases Nat.lt_or_ge k r.length with hlt | hge
    · have hlen : ((r.take k).map nxt ++ r.drop k).length = r.length := by simp; omega
      have hget : ((r.take k).map nxt ++ r.drop k).getD (0 + k) (⟨0, 0⟩ : Api_Handler) = r[k] := by
        rw [Nat.zero_add, getD_lt _ _ (by omega), List.getElem_append_right (by simp; omega)]
        simp
        congr 1
        omega
      have hset : ((r.take k).map nxt ++ r.drop k).set (0 + k) (nxt r[k]) = (r.take (k + 1)).map nxt ++ r.drop (k + 1) := by
        rw [Nat.zero_add, List.set_append_right _ _ (by simp; omega)]
        have : k - ((r.take k).map nxt).length = 0 := by simp; omega
        rw [this, List.drop_eq_getElem_cons hlt, List.set_cons_zero, List.take_succ_eq_append_getElem hlt, List.map_append, List.append_assoc]
        rfl
      have hk := hok _ (List.getElem_mem hlt)
      rw [dec_lt hlt, cond_true, hlen, if_pos (idx_ok hlt), hget, says_eq _ hk, Option.bind_some]
      simp only [hset]
      rw [List.drop_eq_getElem_cons hlt]
      generalize hx : r[k] = x at *
      have hany : anyF (x :: r.drop (k + 1)) = ((sayF x != 0) || anyF (r.drop (k + 1))) := rfl
      by_cases h2' : sayF x = 2
      · have : ((sayF x : Int) == 2) = true := by simpa using h2'
        rw [this, cond_true, if_pos (by simp only [List.length_cons, List.length_nil]; omega), ih (k + 1) _ _ (by omega) (by omega) (by simp; omega), hany, ← Bool.or_assoc]
        simp [wkF, h2']
      · have : ((sayF x : Int) == 2) = false := by simpa using h2'
        rw [this, cond_false, ih (k + 1) _ _ (by omega) (by omega) (by omega), hany, ← Bool.or_assoc]
        simp [wkF, h2']
    · have hk : k = r.length := by omega
      subst hk
      unfold okT at ht
      rw [dec_ge hge, cond_false]
      simp only [List.drop_length, List.take_length, List.append_nil, wkF, anyF, List.any_nil, Bool.or_false]
      rw [wrap_id (by omega) (by omega), wrap_id (by omega) (by omega)]
      cases b <;> rfl

theorem Serve_eq (l : List H) (t : Api_Tally) (hl : rightC l = true) (ht : okT t) (ho : t.Off = false) : chain_Serve l t = some (l.map nxt, wkF 0 l, endT (anyF l) t, 0) := by
  obtain ⟨h1, h2⟩ := (rightC_iff l).1 hl
  unfold chain_Serve slices_Clone_api_Handler
  rw [RightC_eq, Option.bind_some, hl]
  have ht' := ht
  unfold okT at ht
  have e5 : ((t.Nobody : Int) == 5) = false := by simp; omega
  have e : ((!true) || decide (t.Came < 0) || decide (t.Came > 1099511627776) || decide (t.Nobody < 0) || decide (t.Nobody > 5) || (t.Off != (t.Nobody == 5))) = false := by
    rw [ho, e5]; simp; omega
  have e2 : ((t.Came : Int) == 1099511627776) = false := by simp; omega
  rw [e, cond_false, ho, cond_false, e2, cond_false, if_pos (by omega), Option.bind_some]
  have := Serve_l1_eq t ht' l h1 h2 FUEL 0 [] false (by omega) (fuel_gt (by omega)) (by simp)
  simpa using this

def sumL (l : List H) : Int := (l.map (·.Left)).sum
theorem sumL_cons (h : H) (t : List H) : sumL (h :: t) = h.Left + sumL t := by simp [sumL]
theorem sumL_bound : ∀ (l : List H), (∀ h ∈ l, okH h) → 0 ≤ sumL l ∧ sumL l ≤ 1099511627776 * l.length
  | [], _ => by simp [sumL]
  | h :: t, hk => by
    have := sumL_bound t (fun x hx => hk x (by simp [hx]))
    have h1 := hk h (by simp)
    unfold okH at h1
    rw [sumL_cons]
    simp only [List.length_cons]
    omega
theorem left_l1_eq (l : List H) (hl : l.length ≤ 16) (hok : ∀ h ∈ l, okH h) : ∀ n k (x : Int), k ≤ l.length → l.length - k < n → 0 ≤ x → x ≤ 1099511627776 * k → keep_left_l1 l n x k = some (x + sumL (l.drop k)) := by
  intro n
  induction n with
  | zero => intro k x h1 h2; omega
  | succ n ih =>
    intro k x h1 h2 h3 h4
    unfold keep_left_l1
    rcases Nat.lt_or_ge k l.length with hlt | hge
    · have hk := hok _ (List.getElem_mem hlt)
      unfold okH at hk
      rw [dec_lt hlt, cond_true, getD_lt _ _ hlt, List.drop_eq_getElem_cons hlt, wrap_id (by omega) (by omega), ih (k + 1) _ (by omega) (by omega) (by omega) (by omega), sumL_cons]
      congr 1; omega
    · rw [dec_ge hge, cond_false, List.drop_of_length_le hge]
      simp [sumL]
theorem left_eq (l : List H) (hr : rightC l = true) : keep_left l = some (sumL l) := by
  obtain ⟨h1, h2⟩ := (rightC_iff l).1 hr
  unfold keep_left
  rw [left_l1_eq l h1 h2 FUEL 0 0 (by omega) (fuel_gt (by omega)) (by omega) (by omega)]
  simp
theorem right_map {l : List H} (h : rightC l = true) : rightC (l.map nxt) = true := by
  obtain ⟨h1, h2⟩ := (rightC_iff l).1 h
  refine (rightC_iff _).2 ⟨by simpa using h1, fun x hx => ?_⟩
  obtain ⟨y, hy, rfl⟩ := List.mem_map.1 hx
  exact okH_nxt (h2 y hy)
def talks (l : List H) : Nat := l.countP fun h => decide (0 < h.Left)
theorem sum_nxt : ∀ (l : List H), (∀ h ∈ l, okH h) → sumL l - sumL (l.map nxt) = talks l
  | [], _ => rfl
  | h :: t, hk => by
    have ih := sum_nxt t (fun x hx => hk x (by simp [hx]))
    have h1 := hk h (by simp)
    rw [List.map_cons, sumL_cons, sumL_cons, talks, List.countP_cons]
    unfold okH at h1
    change _ = ((talks t + _ : Nat) : Int)
    by_cases h0 : h.Left = 0
    · simp [nxt, h0]; omega
    · have : 0 < h.Left := by omega
      simp [nxt, h0, this]; omega
theorem any_talks (l : List H) (hk : ∀ h ∈ l, okH h) : anyF l = decide (0 < talks l) := by
  rw [Bool.eq_iff_iff, decide_eq_true_eq]
  simp only [anyF, List.any_eq_true, bne_iff_ne, talks, List.countP_pos_iff, decide_eq_true_eq]
  constructor
  · rintro ⟨h, hm, h1⟩; exact ⟨h, hm, (say_pos (hk h hm)).1 h1⟩
  · rintro ⟨h, hm, h1⟩; exact ⟨h, hm, (say_pos (hk h hm)).2 h1⟩
theorem wkF_mem : ∀ (l : List H) (k j : Nat), (j : Int) ∈ wkF k l ↔ ∃ i, ∃ h : i < l.length, j = k + i ∧ sayF l[i] = 2
  | [], k, j => by simp [wkF]
  | h :: t, k, j => by
    rw [wkF, List.mem_append, wkF_mem t (k + 1) j]
    constructor
    · rintro (hh | ⟨i, hi, h1, h2⟩)
      · split at hh
        · rename_i h2
          simp at hh
          exact ⟨0, by simp, by omega, by simpa using h2⟩
        · cases hh
      · exact ⟨i + 1, by simpa using hi, by omega, by simpa using h2⟩
    · rintro ⟨i, hi, h1, h2⟩
      obtain _ | i := i
      · left
        have h2' : sayF h = 2 := by simpa using h2
        rw [if_pos h2']; simp; omega
      · right
        exact ⟨i, by simpa using hi, by omega, by simpa using h2⟩

theorem all_l1_eq (l : List H) (hr : rightC l = true) (w : List Int) (u : Api_Tally) (hw : w.length ≤ 16) (hwm : ∀ j : Nat, j < l.length → ((j : Int) ∈ w ↔ sayF (l.getD j HZ) = 2)) (hu : (u.Nobody == 0) = decide (0 < talks l)) :
    ∀ n k, k ≤ l.length → l.length - k < n → keep_ChainAll_l1 l (l.map nxt, w, u, 0) n ((talks (l.take k) : Nat) : Int) k = some true := by
  obtain ⟨hl, hok⟩ := (rightC_iff l).1 hr
  intro n
  induction n with
  | zero => intro k h1 h2; omega
  | succ n ih =>
    intro k h1 h2
    unfold keep_ChainAll_l1
    rcases Nat.lt_or_ge k l.length with hlt | hge
    · have hlt' : k < (l.map nxt).length := by simpa using hlt
      have hk := hok _ (List.getElem_mem hlt)
      have hwk := hwm k hlt
      rw [getD_lt _ _ hlt] at hwk
      have hT : talks (l.take (k + 1)) = talks (l.take k) + if 0 < l[k].Left then 1 else 0 := by
        rw [List.take_succ_eq_append_getElem hlt, talks, List.countP_append]
        simp [talks, List.countP_cons]
      have hle : talks (l.take k) ≤ 16 := Nat.le_trans List.countP_le_length (by simp; omega)
      have ih' := ih (k + 1) (by omega) (by omega)
      rw [hT] at ih'
      simp only [dec_lt hlt, cond_true, getD_lt _ _ hlt, Nat.zero_add, getD_lt _ _ hlt', List.getElem_map]
      generalize l[k] = x at *
      have e1 : ((nxt x).Left : Int) = (if (0 : Int) > x.Left - 1 then 0 else x.Left - 1) := by
        unfold nxt okH at *
        split <;> split <;> first | omega | (simp only <;> omega)
      have e2 : (nxt x).Says = x.Says := by unfold nxt; split <;> rfl
      unfold okH at hk
      have e3 : decide ((k : Int) ∈ w) = (decide (x.Left > 0) && (x.Says == 2)) := by
        rw [Bool.eq_iff_iff, decide_eq_true_eq, hwk]
        unfold sayF
        simp
        split <;> omega
      rw [wrap_id (x := x.Left - 1) (by omega) (by omega)]
      simp only [e1, e2, bne_self_eq_false, Bool.or_self, Bool.not_false, cond_true, slices_Contains_int_eq w _ (by omega : w.length ≤ 140737488355328), Option.bind_some, e3, cond_false]
      by_cases hx : 0 < x.Left
      · rw [if_pos hx] at ih'
        have : decide (x.Left > 0) = true := by simpa using hx
        rw [this, cond_true, if_pos (idx_ok hlt'), if_pos (fun _ => idx_ok hlt'), wrap_id (by omega) (by omega)]
        exact ih'
      · rw [if_neg hx] at ih'
        have : decide (x.Left > 0) = false := by simpa using hx
        rw [this, cond_false, if_pos (idx_ok hlt'), if_pos (fun _ => idx_ok hlt')]
        exact ih'
    · have hk : k = l.length := by omega
      subst hk
      have hs := sum_nxt l hok
      have hb1 := sumL_bound l hok
      have hb2 := sumL_bound (l.map nxt) ((rightC_iff _).1 (right_map hr)).2
      rw [List.length_map] at hb2
      have hlen : ((((l.map nxt).length : Nat) : Int) == ((l.length : Nat) : Int)) = true := by simp
      rw [dec_ge hge, cond_false, List.take_length]
      simp only [hlen, cond_true, left_eq l hr, left_eq _ (right_map hr), Option.bind_some, hu, RightC_eq, right_map hr]
      rw [wrap_id (by omega) (by omega), hs]
      simp

theorem ChainAll_true (a0 : List H) (a1 : Api_Tally) (h0 : a0.length * 16 ≤ 140737488351232 ∧ ∀ y ∈ a0, Ok_Api_Handler y) (h1 : Ok_Api_Tally a1) : keep_ChainAll a0 a1 = some true := by
  unfold keep_ChainAll
  rw [alive9_eq, Option.bind_some, Bool.not_true, cond_false]
  have hbad : ∀ e : Int, e ≠ 0 → chain_Serve a0 a1 = some ([], [], ⟨0, 0, false⟩, e) → ((chain_Serve a0 a1).bind fun r4 => bif ((r4.2.2.2 : Int) != 0) then
      some ((((IntKind.i64.wrap (((r4.1.length : Nat) : Int) + ((r4.2.1.length : Nat) : Int))) : Int) == 0) && (((r4.2.2.1.Came : Int) == 0) && (((r4.2.2.1.Nobody : Int) == 0) && ((r4.2.2.1.Off == false) && true))))
    else keep_ChainAll_l1 a0 r4 FUEL 0 0) = some true := by
    intro e he h
    have he' : ((e : Int) != 0) = true := by simpa using he
    rw [h, Option.bind_some, he', cond_true]
    rfl
  by_cases hg : rightC a0 = true ∧ 0 ≤ a1.Came ∧ a1.Came ≤ 1099511627776 ∧ 0 ≤ a1.Nobody ∧ a1.Nobody ≤ 5 ∧ a1.Off = (a1.Nobody == 5)
  · obtain ⟨hr, g1, g2, g3, g4, g5⟩ := hg
    have e : ((!true) || decide (a1.Came < 0) || decide (a1.Came > 1099511627776) || decide (a1.Nobody < 0) || decide (a1.Nobody > 5) || (a1.Off != (a1.Nobody == 5))) = false := by
      rw [g5]; simp; omega
    by_cases ho : a1.Off = true
    · apply hbad 7 (by decide)
      unfold chain_Serve
      rw [RightC_eq, Option.bind_some, hr, e, cond_false, ho, cond_true]
      rfl
    · have ho : a1.Off = false := by simpa using ho
      by_cases hc : a1.Came = 1099511627776
      · apply hbad 4 (by decide)
        unfold chain_Serve
        have : ((a1.Came : Int) == 1099511627776) = true := by simpa using hc
        rw [RightC_eq, Option.bind_some, hr, e, cond_false, ho, cond_false, this, cond_true]
        rfl
      · have hnb : a1.Nobody ≠ 5 := by
          intro h; rw [ho, h] at g5; cases g5
        have ht : okT a1 := ⟨g1, by omega, g3, by omega⟩
        rw [Serve_eq a0 a1 hr ht ho, Option.bind_some]
        simp only [show ((0 : Int) != 0) = false by decide, cond_false]
        obtain ⟨hl, hok⟩ := (rightC_iff a0).1 hr
        have := all_l1_eq a0 hr (wkF 0 a0) (endT (anyF a0) a1) (Nat.le_trans (wkF_len _ _) hl) (fun j hj => by
            rw [wkF_mem]
            constructor
            · rintro ⟨i, hi, h1, h2⟩
              have : i = j := by omega
              subst this
              rw [getD_lt _ _ hi]; exact h2
            · intro h
              rw [getD_lt _ _ hj] at h
              exact ⟨j, hj, by omega, h⟩) (by
            rw [any_talks a0 hok]
            unfold endT
            by_cases hp : 0 < talks a0
            · simp [hp]
            · simp [hp]; omega) FUEL 0 (by omega) (fuel_gt (by omega))
        exact this
  · apply hbad 1 (by decide)
    unfold chain_Serve
    rw [RightC_eq, Option.bind_some]
    have e : ((!rightC a0) || decide (a1.Came < 0) || decide (a1.Came > 1099511627776) || decide (a1.Nobody < 0) || decide (a1.Nobody > 5) || (a1.Off != (a1.Nobody == 5))) = true := by
      rw [← Bool.not_eq_false]
      intro hn
      apply hg
      simp only [Bool.or_eq_false_iff, Bool.not_eq_false', decide_eq_false_iff_not, bne_eq_false_iff_eq] at hn
      obtain ⟨⟨⟨⟨⟨n1, n2⟩, n3⟩, n4⟩, n5⟩, n6⟩ := hn
      exact ⟨by first | exact n1 | (rw [n1]), by omega, by omega, by omega, by omega, n6⟩
    rw [e, cond_true]
    rfl

/-- So many times. -/
def playC : Nat → List H → Api_Tally → List H × Api_Tally
  | 0, l, t => (l, t)
  | n + 1, l, t => if t.Off then (l, t) else playC n (l.map nxt) (endT (anyF l) t)
def invT (t : Api_Tally) (i : Int) : Prop := t.Came = i ∧ 0 ≤ t.Nobody ∧ t.Nobody ≤ 5 ∧ t.Off = (t.Nobody == 5)
theorem invT_step {t : Api_Tally} {i : Int} (h : invT t i) (ho : t.Off = false) (b : Bool) : invT (endT b t) (i + 1) := by
  obtain ⟨h1, h2, h3, h4⟩ := h
  have hnb : t.Nobody ≠ 5 := by
    intro h; rw [ho, h] at h4; cases h4
  unfold endT
  cases b with
  | true => exact ⟨by simp [h1], by simp, by simp, by simp⟩
  | false => exact ⟨by simp [h1], by simp; omega, by simp; omega, by simp⟩
theorem Serve_off (l : List H) (t : Api_Tally) (hr : rightC l = true) {i : Int} (ht : invT t i) (hi : 0 ≤ i ∧ i ≤ 400) (ho : t.Off = true) : chain_Serve l t = some ([], [], ⟨0, 0, false⟩, 7) := by
  obtain ⟨h1, h2, h3, h4⟩ := ht
  unfold chain_Serve
  have e : ((!true) || decide (t.Came < 0) || decide (t.Came > 1099511627776) || decide (t.Nobody < 0) || decide (t.Nobody > 5) || (t.Off != (t.Nobody == 5))) = false := by
    rw [h4]; simp; omega
  rw [RightC_eq, Option.bind_some, hr, e, cond_false, ho, cond_true]
  rfl
theorem Play_l1_eq (a1 : Int) (r7 : List H) : ∀ (m n : Nat) (l : List H) (w : List Int) (i : Int) (t : Api_Tally), m < n → rightC l = true → invT t i → 0 ≤ i → i + m = a1 → a1 ≤ 400 → w.length ≤ 16 * i →
    ∃ w', chain_Play_l1 a1 r7 n l w i t.Came t.Nobody t.Off = some ((playC m l t).1, w', (playC m l t).2, 0) := by
  intro m
  induction m with
  | zero =>
    intro n l w i t hn hr ht hi him ha hw
    obtain _ | n := n
    · omega
    · unfold chain_Play_l1
      have : decide ((i : Int) < a1) = false := by simp; omega
      rw [this, cond_false]
      exact ⟨w, rfl⟩
  | succ m ih =>
    intro n l w i t hn hr ht hi him ha hw
    obtain _ | n := n
    · omega
    · unfold chain_Play_l1
      have : decide ((i : Int) < a1) = true := by simp; omega
      rw [this, cond_true]
      change ∃ w', ((chain_Serve l t).bind _) = _
      cases ho : t.Off with
      | true =>
        rw [Serve_off l t hr ht (by omega) ho, Option.bind_some]
        refine ⟨w, ?_⟩
        unfold playC
        rw [if_pos ho]
        simp only [show ((7 : Int) != 0) = true by decide, cond_true]
        rw [← ho]
      | false =>
        obtain ⟨h1, h2, h3, h4⟩ := ht
        have hnb : t.Nobody ≠ 5 := by
          intro h; rw [ho, h] at h4; cases h4
        have hot : okT t := ⟨by omega, by omega, h2, by omega⟩
        have hl16 := ((rightC_iff l).1 hr).1
        have hwl := wkF_len l 0
        rw [Serve_eq l t hr hot ho, Option.bind_some]
        simp only [show ((0 : Int) != 0) = false by decide, cond_false]
        rw [if_pos (by omega), wrap_id (by omega) (by omega)]
        unfold playC
        rw [if_neg (by simp [ho])]
        exact ih n (l.map nxt) _ (i + 1) (endT (anyF l) t) (by omega) (right_map hr) (invT_step ⟨h1, h2, h3, h4⟩ ho _) (by omega) (by omega) ha (by simp; omega)

theorem Play_eq (l : List H) (a : Int) : (∃ e, e ≠ 0 ∧ chain_Play l a = some ([], [], ⟨0, 0, false⟩, e)) ∨
    (rightC l = true ∧ 0 ≤ a ∧ a ≤ 400 ∧ ∃ w, chain_Play l a = some ((playC a.toNat l ⟨0, 0, false⟩).1, w, (playC a.toNat l ⟨0, 0, false⟩).2, 0)) := by
  unfold chain_Play
  rw [RightC_eq, Option.bind_some]
  cases hr : rightC l with
  | false => exact .inl ⟨1, by decide, rfl⟩
  | true =>
    by_cases ha : a < 0 ∨ a > 400
    · have : (decide (a < 0) || decide (a > 400)) = true := by simpa using ha
      rw [this]
      exact .inl ⟨2, by decide, rfl⟩
    · have : (decide (a < 0) || decide (a > 400)) = false := by simp at ha ⊢; omega
      rw [this]
      refine .inr ⟨rfl, by omega, by omega, ?_⟩
      have hl16 := ((rightC_iff l).1 hr).1
      unfold slices_Clone_api_Handler
      simp only [Bool.not_true, cond_false]
      rw [if_pos (by omega), Option.bind_some]
      exact Play_l1_eq a l a.toNat FUEL l [] 0 ⟨0, 0, false⟩ (by unfold FUEL; omega) hr ⟨rfl, by simp, by simp, rfl⟩ (by omega) (by omega) (by omega) (by simp)

/-- When somebody was silent, all were. -/
theorem playC_inv : ∀ m (l : List H) (t : Api_Tally) (i : Int), rightC l = true → invT t i → (0 < t.Nobody → sumL l = 0) →
    let q := playC m l t
    rightC q.1 = true ∧ (0 < q.2.Nobody → sumL q.1 = 0) ∧ (q.2.Off = true → q.2.Nobody = 5) ∧ (q.2.Off = false → q.2.Came = i + m) := by
  intro m
  induction m with
  | zero =>
    intro l t i hr ht hs
    refine ⟨hr, hs, fun ho => ?_, fun _ => by have := ht.1; show t.Came = i + ((0 : Nat) : Int); omega⟩
    have := ht.2.2.2
    rw [show (playC 0 l t).2 = t from rfl] at *
    rw [ho] at this
    simpa using this.symm
  | succ m ih =>
    intro l t i hr ht hs
    unfold playC
    cases ho : t.Off with
    | true =>
      simp only [if_true]
      refine ⟨hr, hs, fun _ => ?_, fun h => by rw [ho] at h; cases h⟩
      have := ht.2.2.2
      rw [ho] at this
      simpa using this.symm
    | false =>
      simp only [Bool.false_eq_true, if_false]
      obtain ⟨hl, hok⟩ := (rightC_iff l).1 hr
      have hb := sumL_bound (l.map nxt) ((rightC_iff _).1 (right_map hr)).2
      have := ih (l.map nxt) (endT (anyF l) t) (i + 1) (right_map hr) (invT_step ht ho _) (by
        intro hp
        have hsn := sum_nxt l hok
        have hat := any_talks l hok
        by_cases hp0 : 0 < talks l
        · rw [hat, decide_eq_true hp0] at hp
          simp [endT] at hp
        · have hz : sumL l = 0 := by
            have hall : ∀ (l : List H), (∀ h ∈ l, okH h) → talks l = 0 → sumL l = 0 := by
              intro l
              induction l with
              | nil => intro _ _; rfl
              | cons h t ih =>
                intro hk h0
                rw [talks, List.countP_cons] at h0
                have h1 := hk h (by simp)
                unfold okH at h1
                have : ¬ 0 < h.Left := by
                  intro hh
                  rw [if_pos (by simpa using hh)] at h0
                  omega
                rw [sumL_cons, ih (fun x hx => hk x (by simp [hx])) (by unfold talks; omega)]
                omega
            exact hall l hok (by omega)
          omega)
      obtain ⟨q1, q2, q3, q4⟩ := this
      exact ⟨q1, q2, q3, fun h => by rw [q4 h]; omega⟩

theorem silent_play {l : List H} (hr : rightC l = true) (hs : sumL l = 0) : (playC 5 l ⟨0, 0, false⟩).2.Off = true := by
  obtain ⟨hl, hok⟩ := (rightC_iff l).1 hr
  have hz : ∀ h ∈ l, h.Left = 0 := by
    have hall : ∀ (l : List H), (∀ h ∈ l, okH h) → sumL l = 0 → ∀ h ∈ l, h.Left = 0 := by
      intro l
      induction l with
      | nil => intro _ _ h hh; cases hh
      | cons x t ih =>
        intro hk h0 h hh
        have h1 := hk x (by simp)
        unfold okH at h1
        have hb := sumL_bound t (fun x hx => hk x (by simp [hx]))
        rw [sumL_cons] at h0
        rcases List.mem_cons.1 hh with rfl | hh
        · omega
        · exact ih (fun x hx => hk x (by simp [hx])) (by omega) h hh
    exact hall l hok hs
  have hany : anyF l = false := by
    simp only [anyF, List.any_eq_false, bne_iff_ne, Decidable.not_not]
    intro h hh
    unfold sayF
    rw [if_pos (hz h hh)]
  have hmap : l.map nxt = l := by
    rw [List.map_congr_left (g := id)]
    · simp
    · intro h hh
      unfold nxt
      rw [if_pos (hz h hh)]; rfl
  simp [playC, hany, hmap, endT]

theorem ChainOff_true (a0 : List H) (a1 : Int) (h0 : a0.length * 16 ≤ 140737488351232 ∧ ∀ y ∈ a0, Ok_Api_Handler y) (h1 : -9223372036854775808 ≤ a1 ∧ a1 ≤ 9223372036854775807) : keep_ChainOff a0 a1 = some true := by
  unfold keep_ChainOff
  rw [alive9_eq, Option.bind_some, Bool.not_true, cond_false]
  rcases Play_eq a0 a1 with ⟨e, he, hp⟩ | ⟨hr, ha, ha', w, hp⟩
  · have he' : ((e : Int) != 0) = true := by simpa using he
    rw [hp, Option.bind_some, he', cond_true]
  · rw [hp, Option.bind_some]
    obtain ⟨q1, q2, q3, q4⟩ := playC_inv a1.toNat a0 ⟨0, 0, false⟩ 0 hr ⟨rfl, by simp, by simp, rfl⟩ (by simp)
    generalize playC a1.toNat a0 ⟨0, 0, false⟩ = q at *
    simp only [show ((0 : Int) != 0) = false by decide, cond_false]
    cases ho : q.2.Off with
    | true =>
      have hn := q3 ho
      rw [cond_true, left_eq _ q1, Option.bind_some, q2 (by omega), hn]
      rfl
    | false =>
      have hc := q4 ho
      have hc' : ((q.2.Came : Int) == a1) = true := by simp; omega
      rw [cond_false]
      rcases Play_eq q.1 5 with ⟨e, he, hp2⟩ | ⟨_, _, _, w2, hp2⟩
      · exfalso
        unfold chain_Play slices_Clone_api_Handler at hp2
        have hl16 := ((rightC_iff q.1).1 q1).1
        rw [RightC_eq, Option.bind_some, q1] at hp2
        simp only [Bool.not_true, cond_false] at hp2
        rw [show (decide ((5 : Int) < 0) || decide ((5 : Int) > 400)) = false by decide, cond_false, if_pos (by omega), Option.bind_some] at hp2
        obtain ⟨w3, hw3⟩ := Play_l1_eq 5 q.1 5 FUEL q.1 [] 0 ⟨0, 0, false⟩ (by unfold FUEL; omega) q1 ⟨rfl, by simp, by simp, rfl⟩ (by omega) (by omega) (by omega) (by simp)
        rw [hw3] at hp2
        simp only [Option.some.injEq, Prod.mk.injEq] at hp2
        omega
      · rw [hp2, Option.bind_some, hc', cond_true, left_eq _ q1, Option.bind_some, Bool.true_and]
        obtain ⟨hl, hok⟩ := (rightC_iff q.1).1 q1
        have hb := sumL_bound q.1 hok
        by_cases hz : sumL q.1 = 0
        · have := silent_play q1 hz
          simp only [show (5 : Int).toNat = 5 from rfl, this, Bool.or_true]
        · have : decide (sumL q.1 > 0) = true := by simp; omega
          rw [this, Bool.true_or]

end Go.Proofs.Ytaadkjlooehhnaa
