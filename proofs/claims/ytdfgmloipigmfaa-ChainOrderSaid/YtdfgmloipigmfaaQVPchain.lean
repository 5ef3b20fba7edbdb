/- Plain laws of chain: the order. -/
import Derived.Test.YtdfgmloipigmfaaQVM
import Derived.Test.YtdfgmloipigmfaaPLib
import Derived.Test.YtdfgmloipigmfaaQVK
set_option linter.unusedSimpArgs false
set_option linter.unusedVariables false
namespace Go.Proofs.Ytdfgmloipigmfaa
open Go Go.Ab
theorem alive9_eq : keep_alive9 = some true := by decide +kernel

abbrev H := Api_Handler
abbrev HZ : H := ⟨0, 0⟩
def badH (a0 : H) : Bool := ((((decide ((a0.Says : Int) < 1)) || (decide ((a0.Says : Int) > 2))) || (decide ((a0.Left : Int) < 0))) || (decide ((a0.Left : Int) > 1099511627776)))
def rightC (l : List H) : Bool := decide (l.length ≤ 16) && !(l.any badH)
theorem RightC_eq (l : List H) : chain_Right l = some (rightC l) := by
  unfold chain_Right rightC
  by_cases h : l.length ≤ 16
  · have : decide ((((l.length : Nat) : Int) : Int) ≤ 16) = true := by simp; omega
    have h2 : decide (l.length ≤ 16) = true := by simpa using h
    rw [this, cond_true, h2, slices_ContainsFunc_api_Handler_chain_Right_1_eq (f := badH) (fun _ => rfl) l (by omega), Option.bind_some]
  · have : decide ((((l.length : Nat) : Int) : Int) ≤ 16) = false := by simp; omega
    have h2 : decide (l.length ≤ 16) = false := by simpa using h
    rw [this, cond_false, h2]
    rfl
def okH (h : H) : Prop := (h.Says = 1 ∨ h.Says = 2) ∧ 0 ≤ h.Left ∧ h.Left ≤ 1099511627776
theorem badH_iff (h : H) : badH h = false ↔ okH h := by
  simp only [badH, Bool.or_eq_false_iff, decide_eq_false_iff_not, okH]
  omega
theorem rightC_iff (l : List H) : rightC l = true ↔ l.length ≤ 16 ∧ ∀ h ∈ l, okH h := by
  simp only [rightC, Bool.and_eq_true, Bool.not_eq_true', List.any_eq_false, decide_eq_true_eq]
  constructor
  · rintro ⟨h1, h2⟩; exact ⟨h1, fun h hh => (badH_iff h).1 (by simpa using h2 h hh)⟩
  · rintro ⟨h1, h2⟩; exact ⟨h1, fun h hh => by simpa using (badH_iff h).2 (h2 h hh)⟩

def sayF (h : H) : Int := if h.Left = 0 then 0 else h.Says
def nxt (h : H) : H := if h.Left = 0 then h else ⟨h.Says, h.Left - 1⟩
theorem says_eq (h : H) (hk : okH h) : chain_says h = some (sayF h, nxt h) := by
  unfold chain_says sayF nxt
  unfold okH at hk
  by_cases h0 : h.Left = 0
  · have : ((h.Left : Int) == 0) = true := by simpa using h0
    rw [this, cond_true, if_pos h0, if_pos h0]
  · have : ((h.Left : Int) == 0) = false := by simpa using h0
    rw [this, cond_false, if_neg h0, if_neg h0, wrap_id (by omega) (by omega)]
theorem okH_nxt {h : H} (hk : okH h) : okH (nxt h) := by
  unfold nxt okH at *
  split
  · exact hk
  · simp only; omega
theorem say_pos {h : H} (hk : okH h) : sayF h ≠ 0 ↔ 0 < h.Left := by
  unfold sayF okH at *
  split <;> omega

def wkF : Nat → List H → List Int
  | k, [] => []
  | k, h :: t => (if sayF h = 2 then [(k : Int)] else []) ++ wkF (k + 1) t
def anyF (l : List H) : Bool := l.any fun h => sayF h != 0
def endT (b : Bool) (t : Api_Tally) : Api_Tally := if b then ⟨t.Came + 1, 0, false⟩ else ⟨t.Came + 1, t.Nobody + 1, t.Nobody + 1 == 5⟩
def okT (t : Api_Tally) : Prop := 0 ≤ t.Came ∧ t.Came < 1099511627776 ∧ 0 ≤ t.Nobody ∧ t.Nobody < 5

theorem wkF_len : ∀ (l : List H) k, (wkF k l).length ≤ l.length
  | [], k => Nat.le_refl _
  | h :: t, k => by
    have := wkF_len t (k + 1)
    unfold wkF
    split <;> simp <;> omega

theorem Serve_l1_eq (t : Api_Tally) (ht : okT t) (r : List H) (hr : r.length ≤ 16) (hok : ∀ h ∈ r, okH h) : ∀ n k (w : List Int) (b : Bool), k ≤ r.length → r.length - k < n → w.length ≤ k →
    chain_Serve_l1 t r n w b k ((r.take k).map nxt ++ r.drop k) = some (r.map nxt, w ++ wkF k (r.drop k), endT (b || anyF (r.drop k)) t, 0) := by
  intro n
  induction n with
  | zero => intro k w b h1 h2; omega
  | succ n ih =>
    intro k w b h1 h2 hw
    unfold chain_Serve_l1
    rcases Nat.lt_or_ge k r.length with hlt | hge
    · have hlen : ((r.take k).map nxt ++ r.drop k).length = r.length := by simp; omega
      have hget : ((r.take k).map nxt ++ r.drop k).getD (0 + k) (⟨0, 0⟩ : Api_Handler) = r[k] := by
        rw [Nat.zero_add, getD_lt _ _ (by omega), List.getElem_append_right (by simp; omega)]
        simp
        congr 1
        omega
      have hset : ((r.take k).map nxt ++ r.drop k).set (0 + k) (nxt r[k]) = (r.take (k + 1)).map nxt ++ r.drop (k + 1) := by
        rw [Nat.zero_add, List.set_append_right _ _ (by simp; omega)]
        have : k - ((r.take k).map nxt).length = 0 := by simp; omega
        rw [this, List.drop_eq_getElem_cons hlt, List.set_cons_zero, List.take_succ_eq_append_getElem hlt, List.map_append, List.append_assoc]
        rfl
      have hk := hok _ (List.getElem_mem hlt)
      rw [dec_lt hlt, cond_true, hlen, if_pos (idx_ok hlt), hget, says_eq _ hk, Option.bind_some]
      simp only [hset]
      rw [List.drop_eq_getElem_cons hlt]
      generalize hx : r[k] = x at *
      have hany : anyF (x :: r.drop (k + 1)) = ((sayF x != 0) || anyF (r.drop (k + 1))) := rfl
      by_cases h2' : sayF x = 2
      · have : ((sayF x : Int) == 2) = true := by simpa using h2'
        rw [this, cond_true, if_pos (by simp only [List.length_cons, List.length_nil]; omega), ih (k + 1) _ _ (by omega) (by omega) (by simp; omega), hany, ← Bool.or_assoc]
        simp [wkF, h2']
      · have : ((sayF x : Int) == 2) = false := by simpa using h2'
        rw [this, cond_false, ih (k + 1) _ _ (by omega) (by omega) (by omega), hany, ← Bool.or_assoc]
        simp [wkF, h2']
    · have hk : k = r.length := by omega
      subst hk
      unfold okT at ht
      rw [dec_ge hge, cond_false]
      simp only [List.drop_length, List.take_length, List.append_nil, wkF, anyF, List.any_nil, Bool.or_false]
      rw [wrap_id (by omega) (by omega), wrap_id (by omega) (by omega)]
      cases b <;> rfl

theorem Serve_eq (l : List H) (t : Api_Tally) (hl : rightC l = true) (ht : okT t) (ho : t.Off = false) : chain_Serve l t = some (l.map nxt, wkF 0 l, endT (anyF l) t, 0) := by
  obtain ⟨h1, h2⟩ := (rightC_iff l).1 hl
  unfold chain_Serve slices_Clone_api_Handler
  rw [RightC_eq, Option.bind_some, hl]
  have ht' := ht
  unfold okT at ht
  have e5 : ((t.Nobody : Int) == 5) = false := by simp; omega
  have e : ((!true) || decide (t.Came < 0) || decide (t.Came > 1099511627776) || decide (t.Nobody < 0) || decide (t.Nobody > 5) || (t.Off != (t.Nobody == 5))) = false := by
    rw [ho, e5]; simp; omega
  have e2 : ((t.Came : Int) == 1099511627776) = false := by simp; omega
  rw [e, cond_false, ho, cond_false, e2, cond_false, if_pos (by omega), Option.bind_some]
  have := Serve_l1_eq t ht' l h1 h2 FUEL 0 [] false (by omega) (fuel_gt (by omega)) (by simp)
  simpa using this

theorem right_map {l : List H} (h : rightC l = true) : rightC (l.map nxt) = true := by
  obtain ⟨h1, h2⟩ := (rightC_iff l).1 h
  refine (rightC_iff _).2 ⟨by simpa using h1, fun x hx => ?_⟩
  obtain ⟨y, hy, rfl⟩ := List.mem_map.1 hx
  exact okH_nxt (h2 y hy)
def playC : Nat → List H → Api_Tally → List H × Api_Tally
  | 0, l, t => (l, t)
  | n + 1, l, t => if t.Off then (l, t) else playC n (l.map nxt) (endT (anyF l) t)
def invT (t : Api_Tally) (i : Int) : Prop := t.Came = i ∧ 0 ≤ t.Nobody ∧ t.Nobody ≤ 5 ∧ t.Off = (t.Nobody == 5)
theorem invT_step {t : Api_Tally} {i : Int} (h : invT t i) (ho : t.Off = false) (b : Bool) : invT (endT b t) (i + 1) := by
  obtain ⟨h1, h2, h3, h4⟩ := h
  have hnb : t.Nobody ≠ 5 := by
    intro h; rw [ho, h] at h4; cases h4
  unfold endT
  cases b with
  | true => exact ⟨by simp [h1], by simp, by simp, by simp⟩
  | false => exact ⟨by simp [h1], by simp; omega, by simp; omega, by simp⟩
theorem Serve_off (l : List H) (t : Api_Tally) (hr : rightC l = true) {i : Int} (ht : invT t i) (hi : 0 ≤ i ∧ i ≤ 400) (ho : t.Off = true) : chain_Serve l t = some ([], [], ⟨0, 0, false⟩, 7) := by
  obtain ⟨h1, h2, h3, h4⟩ := ht
  unfold chain_Serve
  have e : ((!true) || decide (t.Came < 0) || decide (t.Came > 1099511627776) || decide (t.Nobody < 0) || decide (t.Nobody > 5) || (t.Off != (t.Nobody == 5))) = false := by
    rw [h4]; simp; omega
  rw [RightC_eq, Option.bind_some, hr, e, cond_false, ho, cond_true]
  rfl

def playW : Nat → List H → Api_Tally → List Int
  | 0, _, _ => []
  | n + 1, l, t => if t.Off then [] else wkF 0 l ++ playW n (l.map nxt) (endT (anyF l) t)
theorem Play_l1_eq (a1 : Int) (r7 : List H) : ∀ (m n : Nat) (l : List H) (w : List Int) (i : Int) (t : Api_Tally), m < n → rightC l = true → invT t i → 0 ≤ i → i + m = a1 → a1 ≤ 400 → w.length ≤ 16 * i →
    chain_Play_l1 a1 r7 n l w i t.Came t.Nobody t.Off = some ((playC m l t).1, w ++ playW m l t, (playC m l t).2, 0) := by
  intro m
  induction m with
  | zero =>
    intro n l w i t hn hr ht hi him ha hw
    obtain _ | n := n
    · omega
    · unfold chain_Play_l1
      have : decide ((i : Int) < a1) = false := by simp; omega
      rw [this, cond_false]
      simp [playC, playW]
  | succ m ih =>
    intro n l w i t hn hr ht hi him ha hw
    obtain _ | n := n
    · omega
    · unfold chain_Play_l1
      have : decide ((i : Int) < a1) = true := by simp; omega
      rw [this, cond_true]
      change ((chain_Serve l t).bind _) = _
      cases ho : t.Off with
      | true =>
        rw [Serve_off l t hr ht (by omega) ho, Option.bind_some]
        unfold playC playW
        rw [if_pos ho, if_pos ho]
        simp only [show ((7 : Int) != 0) = true by decide, cond_true, List.append_nil]
        rw [← ho]
      | false =>
        obtain ⟨h1, h2, h3, h4⟩ := ht
        have hnb : t.Nobody ≠ 5 := by
          intro h; rw [ho, h] at h4; cases h4
        have hot : okT t := ⟨by omega, by omega, h2, by omega⟩
        have hl16 := ((rightC_iff l).1 hr).1
        have hwl := wkF_len l 0
        rw [Serve_eq l t hr hot ho, Option.bind_some]
        simp only [show ((0 : Int) != 0) = false by decide, cond_false]
        rw [if_pos (by omega), wrap_id (by omega) (by omega)]
        unfold playC playW
        rw [if_neg (by simp [ho]), if_neg (by simp [ho]), ← List.append_assoc]
        exact ih n (l.map nxt) _ (i + 1) (endT (anyF l) t) (by omega) (right_map hr) (invT_step ⟨h1, h2, h3, h4⟩ ho _) (by omega) (by omega) ha (by simp; omega)
def TZ : Api_Tally := ⟨0, 0, false⟩
theorem Play_eq (l : List H) (a : Int) : chain_Play l a = some (if rightC l = true then (if 0 ≤ a ∧ a ≤ 400 then ((playC a.toNat l TZ).1, playW a.toNat l TZ, (playC a.toNat l TZ).2, 0) else ([], [], TZ, 2)) else ([], [], TZ, 1)) := by
  unfold chain_Play
  rw [RightC_eq, Option.bind_some]
  cases hr : rightC l with
  | false => rfl
  | true =>
    by_cases ha : a < 0 ∨ a > 400
    · have : (decide (a < 0) || decide (a > 400)) = true := by simpa using ha
      rw [this, if_pos rfl, if_neg (by omega)]; rfl
    · have : (decide (a < 0) || decide (a > 400)) = false := by simp at ha ⊢; omega
      rw [this, if_pos rfl, if_pos (by omega)]
      have hl16 := ((rightC_iff l).1 hr).1
      unfold slices_Clone_api_Handler
      simp only [Bool.not_true, cond_false]
      rw [if_pos (by omega), Option.bind_some]
      exact Play_l1_eq a l a.toNat FUEL l [] 0 TZ (by unfold FUEL; omega) hr ⟨rfl, by simp [TZ], by simp [TZ], rfl⟩ (by omega) (by omega) (by omega) (by simp)
theorem wkF_length : ∀ (l : List H) k, (wkF k l).length = l.countP fun h => sayF h == 2
  | [], k => rfl
  | h :: t, k => by
    unfold wkF
    rw [List.length_append, wkF_length t (k + 1), List.countP_cons]
    by_cases hs : sayF h = 2
    · simp [hs]; omega
    · simp [hs]
theorem any_rev (l : List H) : anyF l.reverse = anyF l := by unfold anyF; rw [List.any_reverse]
theorem right_rev (l : List H) : rightC l.reverse = rightC l := by unfold rightC; rw [List.length_reverse, List.any_reverse]
theorem play_rev : ∀ n (l : List H) (t : Api_Tally), (playC n l.reverse t) = ((playC n l t).1.reverse, (playC n l t).2) ∧ (playW n l.reverse t).length = (playW n l t).length
  | 0, l, t => ⟨rfl, rfl⟩
  | n + 1, l, t => by
    have ih := play_rev n (l.map nxt) (endT (anyF l) t)
    unfold playC playW
    cases t.Off with
    | true => exact ⟨rfl, rfl⟩
    | false =>
      simp only [Bool.false_eq_true, if_false]
      rw [any_rev, List.length_append, List.length_append, wkF_length, wkF_length]
      rw [show (List.map nxt l).reverse = List.map nxt l.reverse from (List.map_reverse).symm] at ih
      refine ⟨ih.1, ?_⟩
      rw [ih.2, List.countP_reverse]
theorem playC_len : ∀ n (l : List H) (t : Api_Tally), (playC n l t).1.length = l.length
  | 0, l, t => rfl
  | n + 1, l, t => by
    unfold playC
    split
    · rfl
    · rw [playC_len n]; simp
theorem Reverse_l1 (l : List H) (hl : l.length ≤ 140737488355328) : ∀ n (i : Nat) (m : List H), m.length = l.length → 2 * i ≤ l.length + 1 → l.length + 1 < 2 * i + 2 * n →
    (∀ k, k < l.length → m.getD k HZ = if k < i ∨ l.length ≤ k + i then l.getD (l.length - 1 - k) HZ else l.getD k HZ) →
    slices_Reverse_api_Handler_h0_l1 l n (i : Int) ((l.length : Int) - 1 - i) m = some l.reverse := by
  intro n
  induction n with
  | zero => intro i m h1 h2 h3; omega
  | succ n ih =>
    intro i m h1 h2 h3 h4
    unfold slices_Reverse_api_Handler_h0_l1
    by_cases hc : 2 * i + 1 < l.length
    · have hd : decide ((i : Int) < (l.length : Int) - 1 - i) = true := by simp; omega
      obtain ⟨j, hj⟩ : ∃ j : Nat, (l.length : Int) - 1 - i = (j : Int) := ⟨l.length - 1 - i, by omega⟩
      rw [hd, cond_true, hj, if_pos (by omega), if_pos (by omega), if_pos (by omega), if_pos (by omega), Int.toNat_natCast, Int.toNat_natCast, Nat.zero_add, Nat.zero_add, wrap_id (x := (i : Int) + 1) (by omega) (by omega), wrap_id (x := (j : Int) - 1) (by omega) (by omega)]
      have := ih (i + 1) ((m.set i (m.getD j HZ)).set j (m.getD i HZ)) (by simp [h1]) (by omega) (by omega) (fun k hk => ?_)
      · rw [show ((i + 1 : Nat) : Int) = (i : Int) + 1 by omega, show (l.length : Int) - 1 - ((i : Int) + 1) = (j : Int) - 1 by omega] at this
        exact this
      · have hi := h4 i (by omega)
        have hjj := h4 j (by omega)
        rw [if_neg (by omega)] at hi hjj
        rw [List.getD_eq_getElem?_getD, List.getElem?_set, List.getElem?_set, List.length_set]
        by_cases e1 : j = k
        · subst e1
          rw [if_pos rfl, if_pos (by omega), if_pos (by omega), Option.getD_some, hi]
          congr 1; omega
        · rw [if_neg e1]
          by_cases e2 : i = k
          · subst e2
            rw [if_pos rfl, if_pos (by omega), if_pos (by omega), Option.getD_some, hjj]
            congr 1; omega
          · rw [if_neg e2, ← List.getD_eq_getElem?_getD, h4 k hk]
            by_cases e3 : k < i ∨ l.length ≤ k + i
            · rw [if_pos e3, if_pos (by omega)]
            · rw [if_neg e3, if_neg (by omega)]
    · have hd : decide ((i : Int) < (l.length : Int) - 1 - i) = false := by simp; omega
      rw [hd, cond_false]
      congr 1
      apply List.ext_getElem (by simp [h1])
      intro k hk1 hk2
      have hk : k < l.length := by omega
      have := h4 k hk
      rw [getD_lt _ _ hk1] at this
      rw [this, List.getElem_reverse]
      by_cases e3 : k < i ∨ l.length ≤ k + i
      · rw [if_pos e3, getD_lt _ _ (by omega)]
      · rw [if_neg e3, getD_lt _ _ hk]
        congr 1; omega
theorem Reverse_eq (l : List H) (hl : l.length ≤ 140737488355328) : slices_Reverse_api_Handler_h0 l = some l.reverse := by
  unfold slices_Reverse_api_Handler_h0
  rw [wrap_id (by omega) (by omega)]
  have hfu : l.length < FUEL := fuel_gt hl
  have := Reverse_l1 l (by omega) FUEL 0 l rfl (Nat.zero_le _) (show l.length + 1 < 2 * 0 + 2 * FUEL by omega) (fun k hk => by rw [if_neg (show ¬ (k < 0 ∨ l.length ≤ k + 0) by omega)])
  simpa using this

theorem ChainOrder_true (a0 : List H) (a1 : Int) (h0 : a0.length * 16 ≤ 140737488351232 ∧ ∀ y ∈ a0, Ok_Api_Handler y) (h1 : -9223372036854775808 ≤ a1 ∧ a1 ≤ 9223372036854775807) : keep_ChainOrder a0 a1 = some true := by
  unfold keep_ChainOrder slices_Clone_api_Handler
  have l0 := h0.1
  rw [alive9_eq, Option.bind_some, Bool.not_true, cond_false, if_pos (by omega), Option.bind_some, Reverse_eq _ (by omega), Option.bind_some, if_pos (by simp), Play_eq, Option.bind_some, Play_eq, Option.bind_some, right_rev]
  cases hr : rightC a0 with
  | false => rfl
  | true =>
    by_cases ha : 0 ≤ a1 ∧ a1 ≤ 400
    · have hl16 := ((rightC_iff a0).1 hr).1
      obtain ⟨p1, p2⟩ := play_rev a1.toNat a0 TZ
      have pl := playC_len a1.toNat a0 TZ
      simp only [if_pos ha, if_true, p1]
      generalize playC a1.toNat a0 TZ = q at *
      generalize playW a1.toNat a0 TZ = w at *
      generalize playW a1.toNat a0.reverse TZ = w' at *
      rw [if_pos (show (q.1.reverse).length * 16 ≤ 140737488355328 by rw [List.length_reverse]; omega), Option.bind_some, Reverse_eq _ (show (q.1.reverse).length ≤ 140737488355328 by rw [List.length_reverse]; omega), Option.bind_some, if_pos (by simp), List.reverse_reverse]
      simp only [beq_self_eq_true, Bool.and_self, cond_true]
      rw [slices_Equal_api_Handler_eq _ _ (by omega), decide_eq_true rfl, Option.bind_some, p2]
      simp
    · simp only [if_neg ha, if_true]
      rfl
end Go.Proofs.Ytdfgmloipigmfaa
