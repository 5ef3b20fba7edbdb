/- The laws of Lift, in plain Lean. -/
import Derived.Test.YtkccegeejlbhnaaQLFPa
set_option linter.unusedSimpArgs false
set_option linter.unusedVariables false
namespace Go.Proofs.Ytkccegeejlbhnaa
open Go Go.Ab

/- merging -/
def okS (s : Api_Span) : Prop := 0 ≤ s.From ∧ s.From < s.To ∧ s.To ≤ 1099511627776
instance (s : Api_Span) : Decidable (okS s) := by unfold okS; infer_instance
def goodS (l : List Api_Span) : Prop := l.length ≤ 400 ∧ ∀ s ∈ l, okS s
instance (l : List Api_Span) : Decidable (goodS l) := by unfold goodS; infer_instance
def cov (b : Int) (s : Api_Span) : Bool := decide (s.From ≤ b) && decide (b < s.To)
/- what is reached so far, the last one first; the next one -/
def stepR (st : List Api_Span) (s : Api_Span) : List Api_Span :=
  match st with
  | [] => [s]
  | p :: t => if s.From ≤ p.To then ⟨p.From, if s.To > p.To then s.To else p.To⟩ :: t else s :: p :: t

theorem SortFunc_eq (l : List Api_Span) (h : ∀ s ∈ l, okS s) : ∃ r, slices_SortFunc_api_Span l = some r ∧ r.Perm l ∧ r.Pairwise fun x y => x.From ≤ y.From := by
  have hd : ∀ x ∈ l, sfDom x := fun x hx => by
    have := h x hx
    unfold okS at this
    unfold sfDom
    omega
  unfold slices_SortFunc_api_Span
  rw [dif_pos hd]
  have hO : Go.Sort.SWO (Go.Proofs.ltOf fun x y : {x : Api_Span // sfDom x} => sfCmp x.1 y.1) :=
    swo_of (fun x => by unfold sfCmp; omega) (fun x y z h1 h2 => by unfold sfCmp at *; omega) (fun x y z h1 h2 => by unfold sfCmp at *; omega)
  obtain ⟨h1, h2⟩ := srtF_spec (p := sfDom) (cf := sfCmp) (xs := l) (h := hd) hO
  exact ⟨_, rfl, h1, h2.imp fun {x y} hxy => by unfold sfCmp at hxy; omega⟩

theorem Merge_l2 (r : List Api_Span) (hr : r.length ≤ 400) : ∀ n k (st : List Api_Span), k ≤ r.length → r.length - k < n → st.length ≤ k →
    lift_Merge_l2 r n st.reverse k = some (((r.drop k).foldl stepR st).reverse, 0) := by
  intro n
  induction n with
  | zero => intro k st h1 h2; omega
  | succ n ih =>
    intro k st h1 h2 h3
    have hrl : st.reverse.length = st.length := by simp
    unfold lift_Merge_l2
    rcases Nat.lt_or_ge k r.length with hlt | hge
    · rw [dec_lt hlt, cond_true, wrap_id (by omega) (by omega), if_pos (fun hh => by have := of_decide_eq_true hh; omega), Nat.zero_add, Nat.zero_add, getD_lt _ _ hlt, List.drop_eq_getElem_cons hlt, List.foldl_cons]
      generalize r[k] = s
      cases st with
      | nil =>
        have e : decide (((((([] : List Api_Span).reverse).length : Nat) : Int) - 1 : Int) ≥ 0) = false := by decide
        rw [e, Bool.false_and, cond_false, if_pos (by simp)]
        have := ih (k + 1) [s] (by omega) (by omega) (by simp)
        simpa [stepR] using this
      | cons p t =>
        have hlen : (p :: t).reverse.length = t.length + 1 := by simp
        have e0 : ((((p :: t).reverse.length : Nat) : Int) - 1) = ((t.length : Nat) : Int) := by rw [hlen]; omega
        rw [e0, Int.toNat_natCast]
        have e : decide ((((t.length : Nat) : Int) : Int) ≥ 0) = true := by simp
        have eg : (p :: t).reverse.getD t.length (⟨0, 0⟩ : Api_Span) = p := by
          rw [List.reverse_cons, List.getD_eq_getElem?_getD, List.getElem?_append_right (by simp)]
          simp
        rw [e, Bool.true_and, eg]
        by_cases hc : s.From ≤ p.To
        · rw [decide_eq_true hc, cond_true, if_pos (by rw [hlen]; omega), if_pos (by rw [hlen]; omega)]
          have es : ∀ q : Api_Span, (p :: t).reverse.set t.length q = (q :: t).reverse := by
            intro q
            rw [List.reverse_cons, List.reverse_cons, List.set_append_right _ _ (by simp)]
            simp
          rw [es]
          have := ih (k + 1) (⟨p.From, if s.To > p.To then s.To else p.To⟩ :: t) (by omega) (by omega) (by simp at h3 ⊢; omega)
          rw [this]
          simp only [stepR, if_pos hc]
        · rw [decide_eq_false hc, cond_false, if_pos (by rw [hlen]; simp at h3 ⊢; omega)]
          have := ih (k + 1) (s :: p :: t) (by omega) (by omega) (by simp at h3 ⊢; omega)
          rw [List.reverse_cons] at this
          rw [this]
          simp only [stepR, if_neg hc]
    · rw [dec_ge hge, cond_false, List.drop_of_length_le hge, List.foldl_nil]

theorem Merge_l1 (l : List Api_Span) (hl : l.length ≤ 400) : ∀ n k, k ≤ l.length → l.length - k < n →
    lift_Merge_l1 l n k = if ∀ s ∈ l.drop k, okS s then (slices_SortedFunc_api_Span_slices_Values_1_api_Span_lift_Merge_1 l).bind fun r16 => lift_Merge_l2 r16 FUEL [] 0 else some ([], 2) := by
  intro n
  induction n with
  | zero => intro k h1 h2; omega
  | succ n ih =>
    intro k h1 h2
    unfold lift_Merge_l1
    rcases Nat.lt_or_ge k l.length with hlt | hge
    · rw [dec_lt hlt, cond_true, getD_lt _ _ hlt, ih (k + 1) (by omega) (by omega), List.drop_eq_getElem_cons hlt]
      generalize l[k] = s
      generalize l.drop (k + 1) = t
      by_cases hc : okS s
      · have e : (((decide ((s.From : Int) < 0)) || (decide ((s.From : Int) ≥ s.To))) || (decide ((s.To : Int) > 1099511627776))) = false := by
          unfold okS at hc; simp; omega
        rw [e, cond_false]
        simp [hc]
      · have e : (((decide ((s.From : Int) < 0)) || (decide ((s.From : Int) ≥ s.To))) || (decide ((s.To : Int) > 1099511627776))) = true := by
          unfold okS at hc; simp; omega
        rw [e, cond_true, if_neg (fun h => hc (h s (by simp)))]
    · rw [dec_ge hge, cond_false, List.drop_of_length_le hge, if_pos (by simp)]
      rfl

/- what Merge hands back: canonical, and the same blocks -/
def Canon (m : List Api_Span) : Prop := (m.Pairwise fun p q => p.To < q.From) ∧ ∀ s ∈ m, okS s

theorem fold_ok : ∀ (r st : List Api_Span), (∀ s ∈ r, okS s) → r.Pairwise (fun x y => x.From ≤ y.From) → (∀ p ∈ st, ∀ s ∈ r, p.From ≤ s.From) → (st.Pairwise fun p q => q.To < p.From) → (∀ s ∈ st, okS s) →
    ((r.foldl stepR st).Pairwise fun p q => q.To < p.From) ∧ (∀ s ∈ r.foldl stepR st, okS s) ∧ (∀ b, (r.foldl stepR st).any (cov b) = (st.any (cov b) || r.any (cov b))) ∧ (r.foldl stepR st).length ≤ st.length + r.length
  | [], st, _, _, _, h4, h5 => ⟨h4, h5, fun b => by simp, by simp⟩
  | s :: r, st, h1, h2, h3, h4, h5 => by
    rw [List.foldl_cons]
    obtain ⟨h21, h22⟩ := List.pairwise_cons.1 h2
    have hs := h1 s (by simp)
    have hr : ∀ x ∈ r, okS x := fun x hx => h1 x (by simp [hx])
    cases st with
    | nil =>
      obtain ⟨a1, a2, a3, a4⟩ := fold_ok r [s] hr h22 (fun p hp x hx => by simp at hp; subst hp; exact h21 x hx) (by simp) (fun x hx => by simp at hx; subst hx; exact hs)
      refine ⟨a1, a2, fun b => ?_, ?_⟩
      · show (r.foldl stepR [s]).any (cov b) = _
        rw [a3]; simp
      · show (r.foldl stepR [s]).length ≤ _
        simp at a4 ⊢; omega
    | cons p t =>
      obtain ⟨h41, h42⟩ := List.pairwise_cons.1 h4
      have hp := h5 p (by simp)
      have hps := h3 p (by simp) s (by simp)
      by_cases hc : s.From ≤ p.To
      · have e : stepR (p :: t) s = ⟨p.From, if s.To > p.To then s.To else p.To⟩ :: t := by simp only [stepR, if_pos hc]
        rw [e]
        obtain ⟨q, hq⟩ : ∃ q : Api_Span, q = ⟨p.From, if s.To > p.To then s.To else p.To⟩ := ⟨_, rfl⟩
        have q1 : q.From = p.From := by rw [hq]
        have q2 : q.To = if s.To > p.To then s.To else p.To := by rw [hq]
        rw [← hq]
        unfold okS at hs hp
        have hqo : okS q := by unfold okS; rw [q1, q2]; split <;> omega
        obtain ⟨a1, a2, a3, a4⟩ := fold_ok r (q :: t) hr h22 (fun x hx y hy => by
            rcases List.mem_cons.1 hx with rfl | hx
            · rw [q1]; exact h3 p (by simp) y (by simp [hy])
            · exact h3 x (by simp [hx]) y (by simp [hy]))
          (List.pairwise_cons.2 ⟨fun x hx => by rw [q1]; exact h41 x hx, h42⟩)
          (fun x hx => by
            rcases List.mem_cons.1 hx with rfl | hx
            · exact hqo
            · exact h5 x (by simp [hx]))
        refine ⟨a1, a2, fun b => ?_, by simp at a4 ⊢; omega⟩
        rw [a3, List.any_cons, List.any_cons, List.any_cons]
        have : cov b q = (cov b p || cov b s) := by
          unfold cov
          rw [q1, q2, Bool.eq_iff_iff]
          simp
          split <;> omega
        rw [this]
        cases cov b p <;> cases cov b s <;> cases t.any (cov b) <;> cases r.any (cov b) <;> rfl
      · have e : stepR (p :: t) s = s :: p :: t := by simp only [stepR, if_neg hc]
        rw [e]
        unfold okS at hp
        obtain ⟨a1, a2, a3, a4⟩ := fold_ok r (s :: p :: t) hr h22 (fun x hx y hy => by
            rcases List.mem_cons.1 hx with rfl | hx
            · exact h21 y hy
            · exact h3 x hx y (by simp [hy]))
          (List.pairwise_cons.2 ⟨fun x hx => by
            rcases List.mem_cons.1 hx with rfl | hx
            · omega
            · have := h41 x hx
              omega, h4⟩)
          (fun x hx => by
            rcases List.mem_cons.1 hx with rfl | hx
            · exact hs
            · exact h5 x hx)
        refine ⟨a1, a2, fun b => ?_, by simp at a4 ⊢; omega⟩
        rw [a3]
        simp only [List.any_cons]
        cases cov b p <;> cases cov b s <;> cases t.any (cov b) <;> cases r.any (cov b) <;> rfl

theorem Merge_eq (l : List Api_Span) (hg : goodS l) : ∃ m, lift_Merge l = some (m, 0) ∧ Canon m ∧ (∀ b, m.any (cov b) = l.any (cov b)) ∧ m.length ≤ l.length := by
  obtain ⟨hl, hs⟩ := hg
  unfold lift_Merge
  have e : decide ((((l.length : Nat) : Int) : Int) > 400) = false := by simp; omega
  rw [e, cond_false, Merge_l1 l hl FUEL 0 (by omega) (fuel_gt (by omega)), List.drop_zero, if_pos hs]
  unfold slices_SortedFunc_api_Span_slices_Values_1_api_Span_lift_Merge_1 slices_Collect_api_Span
  obtain ⟨r, hr, hp, hsr⟩ := SortFunc_eq l hs
  have hrl := hp.length_eq
  rw [if_pos (by omega), Option.bind_some, hr, Option.bind_some, if_pos hrl, Option.bind_some]
  have h2 := Merge_l2 r (by omega) FUEL 0 [] (by omega) (fuel_gt (by omega)) (by simp)
  rw [List.reverse_nil, List.drop_zero] at h2
  rw [h2]
  obtain ⟨a1, a2, a3, a4⟩ := fold_ok r [] (fun s hs' => hs s (hp.mem_iff.1 hs')) hsr (by simp) (by simp) (by simp)
  refine ⟨_, rfl, ⟨List.pairwise_reverse.2 a1, fun s h => a2 s (List.mem_reverse.1 h)⟩, fun b => ?_, ?_⟩
  · rw [List.any_reverse, a3, List.any_nil, Bool.false_or]
    rw [Bool.eq_iff_iff, List.any_eq_true, List.any_eq_true]
    constructor
    · rintro ⟨x, hx, h⟩; exact ⟨x, hp.mem_iff.1 hx, h⟩
    · rintro ⟨x, hx, h⟩; exact ⟨x, hp.mem_iff.2 hx, h⟩
  · rw [List.length_reverse]
    simp at a4; omega

theorem Merge_bad (l : List Api_Span) (hg : ¬ goodS l) : lift_Merge l = some ([], 2) := by
  unfold lift_Merge
  by_cases hl : l.length ≤ 400
  · have e : decide ((((l.length : Nat) : Int) : Int) > 400) = false := by simp; omega
    rw [e, cond_false, Merge_l1 l hl FUEL 0 (by omega) (fuel_gt (by omega)), List.drop_zero, if_neg (fun h => hg ⟨hl, h⟩)]
  · have e : decide ((((l.length : Nat) : Int) : Int) > 400) = true := by simp; omega
    rw [e, cond_true]

/-- two canonical lists with the same blocks are one -/
theorem canon_unique : ∀ (a b : List Api_Span), Canon a → Canon b → (∀ x, a.any (cov x) = b.any (cov x)) → a = b
  | [], [], _, _, _ => rfl
  | [], t :: b, _, hb, h => by
    have ht := hb.2 t (by simp)
    have := h t.From
    unfold okS at ht
    rw [List.any_nil, List.any_cons] at this
    have e : cov t.From t = true := by unfold cov; simp; omega
    rw [e] at this
    simp at this
  | s :: a, [], ha, _, h => by
    have ht := ha.2 s (by simp)
    have := h s.From
    unfold okS at ht
    rw [List.any_nil, List.any_cons] at this
    have e : cov s.From s = true := by unfold cov; simp; omega
    rw [e] at this
    simp at this
  | s :: a, t :: b, ha, hb, h => by
    obtain ⟨a1, a2⟩ := List.pairwise_cons.1 ha.1
    obtain ⟨b1, b2⟩ := List.pairwise_cons.1 hb.1
    have hs := ha.2 s (by simp)
    have ht := hb.2 t (by simp)
    have ca : ∀ x, (s :: a).any (cov x) = true ↔ (s.From ≤ x ∧ x < s.To) ∨ ∃ p ∈ a, p.From ≤ x ∧ x < p.To := by
      intro x; simp [cov]
    have cb : ∀ x, (t :: b).any (cov x) = true ↔ (t.From ≤ x ∧ x < t.To) ∨ ∃ p ∈ b, p.From ≤ x ∧ x < p.To := by
      intro x; simp [cov]
    have hc : ∀ x, ((s.From ≤ x ∧ x < s.To) ∨ ∃ p ∈ a, p.From ≤ x ∧ x < p.To) ↔ ((t.From ≤ x ∧ x < t.To) ∨ ∃ p ∈ b, p.From ≤ x ∧ x < p.To) := by
      intro x; rw [← ca, ← cb, h x]
    unfold okS at hs ht
    have e1 : t.From ≤ s.From := by
      rcases (hc s.From).1 (.inl (by omega)) with h1 | ⟨p, hp, h1⟩
      · omega
      · have := b1 p hp; omega
    have e2 : s.From ≤ t.From := by
      rcases (hc t.From).2 (.inl (by omega)) with h1 | ⟨p, hp, h1⟩
      · omega
      · have := a1 p hp; omega
    have e3 : t.To ≤ s.To := by
      rcases Int.lt_or_le s.To t.To with h0 | h0
      · rcases (hc s.To).2 (.inl (by omega)) with h1 | ⟨p, hp, h1⟩
        · omega
        · have := a1 p hp; omega
      · exact h0
    have e4 : s.To ≤ t.To := by
      rcases Int.lt_or_le t.To s.To with h0 | h0
      · rcases (hc t.To).1 (.inl (by omega)) with h1 | ⟨p, hp, h1⟩
        · omega
        · have := b1 p hp; omega
      · exact h0
    have est : s = t := by
      obtain ⟨s1, s2⟩ := s
      obtain ⟨t1, t2⟩ := t
      simp only at e1 e2 e3 e4
      congr 1 <;> omega
    subst est
    rw [canon_unique a b ⟨a2, fun x hx => ha.2 x (by simp [hx])⟩ ⟨b2, fun x hx => hb.2 x (by simp [hx])⟩ (fun x => ?_)]
    rw [Bool.eq_iff_iff]
    have k1 : a.any (cov x) = true ↔ ∃ p ∈ a, p.From ≤ x ∧ x < p.To := by simp [cov]
    have k2 : b.any (cov x) = true ↔ ∃ p ∈ b, p.From ≤ x ∧ x < p.To := by simp [cov]
    rw [k1, k2]
    constructor
    · rintro ⟨p, hp, h1⟩
      have h2 := a1 p hp
      rcases (hc x).1 (.inr ⟨p, hp, h1⟩) with h3 | h3
      · omega
      · exact h3
    · rintro ⟨p, hp, h1⟩
      have h2 := b1 p hp
      rcases (hc x).2 (.inr ⟨p, hp, h1⟩) with h3 | h3
      · omega
      · exact h3

theorem canonB {m : List Api_Span} (h : decide ((m.Pairwise fun p q => p.To < q.From) ∧ ∀ s ∈ m, okS s) = true) : Canon m := by
  have := of_decide_eq_true h
  exact this

theorem alive_merge : lift_Merge [(⟨5, 7⟩ : Api_Span), (⟨1, 3⟩ : Api_Span), (⟨7, 9⟩ : Api_Span)] = some ([(⟨1, 3⟩ : Api_Span), (⟨5, 9⟩ : Api_Span)], 0) := by
  obtain ⟨m, h1, h2, h3, _⟩ := Merge_eq [(⟨5, 7⟩ : Api_Span), (⟨1, 3⟩ : Api_Span), (⟨7, 9⟩ : Api_Span)] (by decide)
  rw [h1, canon_unique m [(⟨1, 3⟩ : Api_Span), (⟨5, 9⟩ : Api_Span)] h2 (canonB (by decide)) (fun x => by
    rw [h3, Bool.eq_iff_iff]
    simp [cov]
    omega)]

theorem alive19_eq : keep_alive19 = some true := by
  unfold keep_alive19
  rw [Sweep_eq, Option.bind_some, Short_eq, Option.bind_some, Way_eq, Option.bind_some, alive_merge, Option.bind_some]
  have e1 : (bif good [10, 60, 55, 40] && good [50] then (upOf 50 [10, 60, 55, 40] ++ downOf 50 [10, 60, 55, 40], (0 : Int)) else ([], 2)) = ([55, 60, 10, 40], 0) := by decide
  have e2 : (bif good [10, 60, 55, 40] && good [50] then (shortOf 50 [10, 60, 55, 40], (0 : Int)) else ([], 2)) = ([55, 60, 40, 10], 0) := by decide
  have e3 : (bif good [55, 60, 40, 10] && good [50] then (wayOf 50 [55, 60, 40, 10], (0 : Int)) else (0, 2)) = (60, 0) := by decide
  rw [e1, e2, e3]
  rw [slices_Equal_int_eq _ _ (by decide), slices_Equal_int_eq _ _ (by decide), slices_Equal_api_Span_eq _ _ (by decide)]
  decide

/- LiftBest -/
theorem tmod_bd (p : Int) (n : Nat) (h : 0 < n) : -(n : Int) < Int.tmod p n ∧ Int.tmod p n < n := by
  have h1 := Int.tmod_lt_of_pos p (show (0 : Int) < n by omega)
  have h2 := Int.lt_tmod_of_pos p (show (0 : Int) < n by omega)
  omega

theorem Best_l1 (a0 : Int) (a1 a2 : List Int) (r7 : List Int) (hg : good a1 = true) (hh : good [a0] = true) : ∀ n (l9 l10 : List Int), (l10 ++ l9).Perm a1 → l9.length < n →
    keep_LiftBest_l1 a0 a1 a2 (shortOf a0 a1, 0) r7 n l9 l10 (l10.length : Nat) = some true := by
  have hl := (good_iff.1 hg).1
  intro n
  induction n with
  | zero => intro l9 l10 hp h; omega
  | succ n ih =>
    intro l9 l10 hp hn
    have hlen := hp.length_eq
    rw [List.length_append] at hlen
    unfold keep_LiftBest_l1
    have next : ∀ i (hi : i < l9.length), keep_LiftBest_l1 a0 a1 a2 (shortOf a0 a1, 0) r7 n (l9.take i ++ l9.drop (i + 1)) (l10 ++ [l9[i]]) (IntKind.i64.wrap ((l10.length : Nat) + 1)) = some true := by
      intro i hi
      have e : l9 = l9.take i ++ l9[i] :: l9.drop (i + 1) := by
        rw [← List.drop_eq_getElem_cons hi, List.take_append_drop]
      have hp2 : ((l10 ++ [l9[i]]) ++ (l9.take i ++ l9.drop (i + 1))).Perm a1 := by
        refine List.Perm.trans ?_ hp
        rw [List.append_assoc]
        refine List.Perm.append_left _ ?_
        conv => rhs; rw [e]
        show (l9[i] :: (l9.take i ++ l9.drop (i + 1))).Perm _
        exact List.perm_middle.symm
      have := ih (l9.take i ++ l9.drop (i + 1)) (l10 ++ [l9[i]]) hp2 (by rw [List.length_append, List.length_take, List.length_drop]; omega)
      rw [List.length_append, List.length_singleton] at this
      rw [wrap_id (by omega) (by omega)]
      simpa using this
    by_cases h0 : 0 < l9.length
    · have e1 : decide ((((l9.length : Nat) : Int) : Int) > 0) = true := by simp; omega
      rw [e1, cond_true]
      by_cases hc : l10.length < a2.length
      · rw [dec_lt hc, cond_true, if_pos (by omega), if_pos (by omega), if_pos (by omega)]
        rw [Int.toNat_natCast]
        generalize a2.getD l10.length 0 = p
        have hb := tmod_bd p l9.length h0
        rw [wrap_id (x := Int.tmod p (l9.length : Nat) + (l9.length : Nat)) (by omega) (by omega)]
        obtain ⟨i, hi⟩ : ∃ i : Nat, Int.tmod (Int.tmod p (l9.length : Nat) + (l9.length : Nat)) (l9.length : Nat) = i := by
          refine ⟨(Int.tmod (Int.tmod p (l9.length : Nat) + (l9.length : Nat)) (l9.length : Nat)).toNat, ?_⟩
          have := Int.tmod_nonneg (l9.length : Int) (show 0 ≤ Int.tmod p (l9.length : Nat) + (l9.length : Nat) by omega)
          omega
        have hb2 := tmod_bd (Int.tmod p (l9.length : Nat) + (l9.length : Nat)) l9.length h0
        rw [hi] at hb2 ⊢
        have hil : i < l9.length := by omega
        rw [if_pos (by omega), Int.toNat_natCast, Nat.zero_add, getD_lt _ _ hil, if_pos (by simp; omega), wrap_id (x := (i : Int) + 1) (by omega) (by omega)]
        unfold slices_Delete_int
        rw [if_pos (by omega), Option.bind_some]
        have := next i hil
        simpa using this
      · rw [dec_ge (by omega), cond_false, if_pos (by omega), Nat.zero_add, getD_lt _ _ h0, if_pos (by simp; omega)]
        have e2 : IntKind.i64.wrap (0 + 1) = 1 := by decide
        unfold slices_Delete_int
        rw [e2, if_pos (by omega), Option.bind_some]
        have := next 0 h0
        simpa using this
    · have h9 : l9 = [] := List.eq_nil_of_length_eq_zero (by omega)
      subst h9
      have e1 : decide ((((([] : List Int).length : Nat) : Int) : Int) > 0) = false := by decide
      rw [List.append_nil] at hp
      have g1 := good_perm (short_perm a0 a1) hg
      have g2 := good_perm hp hg
      have g3 := good_perm (up_down_perm a0 a1) hg
      rw [e1, cond_false, Way_eq, Way_eq, Sweep_eq, Option.bind_some, Option.bind_some, Option.bind_some, hg, hh, g1, g2, Bool.and_self, cond_true, cond_true, cond_true, Way_eq, Option.bind_some, g3, hh]
      simp only [Bool.and_self, cond_true]
      have b1 := short_least a0 a1 l10 hp
      have b2 := short_least a0 a1 _ (up_down_perm a0 a1)
      rw [decide_eq_true b1, decide_eq_true b2]
      rfl

theorem LiftBest_true (a0 : Int) (a1 a2 : List Int) (h0 : -9223372036854775808 ≤ a0 ∧ a0 ≤ 9223372036854775807) (h1 : a1.length * 8 ≤ 140737488351232 ∧ ∀ y ∈ a1, (-9223372036854775808 ≤ y ∧ y ≤ 9223372036854775807)) (h2 : a2.length * 8 ≤ 140737488351232 ∧ ∀ y ∈ a2, (-9223372036854775808 ≤ y ∧ y ≤ 9223372036854775807)) : keep_LiftBest a0 a1 a2 = some true := by
  unfold keep_LiftBest
  rw [alive19_eq, Option.bind_some, Bool.not_true, cond_false, Short_eq, Option.bind_some]
  cases hg : good a1 && good [a0] with
  | false => rfl
  | true =>
    rw [Bool.and_eq_true] at hg
    obtain ⟨hg, hh⟩ := hg
    rw [cond_true]
    have e : ((((shortOf a0 a1, (0 : Int)).2) : Int) != 0) = false := rfl
    rw [e, cond_false]
    have hl := (good_iff.1 hg).1
    unfold slices_Clone_int
    rw [if_pos (by omega), Option.bind_some]
    have := Best_l1 a0 a1 a2 a1 hg hh FUEL a1 [] (by simp) (fuel_gt (by omega))
    simpa using this

/- LiftAll -/
theorem All_l1 (r6 : List Int × Int) (r11 a : List Int) (u : Nat) (hl : a.length ≤ 400) (hl6 : r6.1.length ≤ 400) (h6 : r6.2 = 0) (hs1 : sorted a = r11) (hs2 : sorted r6.1 = r11) (hu : ∀ i (hi : i < a.length), 0 < i → i ≠ u → a[i - 1]'(by omega) ≤ a[i]) :
    ∀ n k (x : Int), k ≤ a.length → a.length - k < n → (0 ≤ x ∧ x ≤ 1 ∧ (k ≤ u → x = 0)) → keep_LiftAll_l1 (a, 0) r6 r11 n x k = some true := by
  intro n
  induction n with
  | zero => intro k x h1 h2; omega
  | succ n ih =>
    intro k x h1 h2 h3
    unfold keep_LiftAll_l1
    rcases Nat.lt_or_ge k a.length with hlt | hge
    · simp only
      rw [dec_lt hlt, cond_true, if_pos (fun _ => idx_ok hlt)]
      rcases Nat.eq_zero_or_pos k with rfl | hk
      · have e : decide (((((0 : Nat) : Nat) : Int) : Int) > 0) = false := by decide
        rw [e, cond_false, if_pos (fun hh => by cases hh), Bool.false_and, cond_false]
        exact ih 1 x (by omega) (by omega) (by omega)
      · have e : decide ((((k : Nat) : Int) : Int) > 0) = true := by simp; omega
        have e1 : (((k : Nat) : Int) - 1) = ((k - 1 : Nat) : Int) := by omega
        rw [e, cond_true, wrap_id (x := (k : Int) - 1) (by omega) (by omega), e1, if_pos (fun _ => by omega), Int.toNat_natCast, Nat.zero_add, Nat.zero_add, getD_lt _ _ hlt, getD_lt _ _ (show k - 1 < a.length by omega), Bool.true_and]
        by_cases hku : k = u
        · have hx := h3.2.2 (by omega)
          subst hx
          by_cases hc : a[k] < a[k - 1]
          · rw [decide_eq_true hc, cond_true]
            have e2 : IntKind.i64.wrap (0 + 1) = 1 := by decide
            rw [e2]
            exact ih (k + 1) 1 (by omega) (by omega) (by omega)
          · rw [decide_eq_false hc, cond_false]
            exact ih (k + 1) 0 (by omega) (by omega) (by omega)
        · have := hu k hlt hk hku
          rw [decide_eq_false (by omega), cond_false]
          exact ih (k + 1) x (by omega) (by omega) ⟨h3.1, h3.2.1, fun h => h3.2.2 (by omega)⟩
    · simp only
      unfold slices_Values_int
      rw [dec_ge hge, cond_false, h6]
      have e : ((0 : Int) == 0) = true := by decide
      rw [e, cond_true, Option.bind_some, Sorted_eq a hl, Option.bind_some, slices_Equal_int_eq _ _ (by rw [(sorted_perm a).length_eq]; omega), Option.bind_some, hs1, decide_eq_true rfl, Bool.and_self, cond_true, Option.bind_some, Sorted_eq _ hl6, Option.bind_some, slices_Equal_int_eq _ _ (by rw [(sorted_perm _).length_eq]; omega), Option.bind_some, hs2, decide_eq_true rfl, Bool.and_self, decide_eq_true h3.2.1]
      rfl

theorem LiftAll_true (a0 : Int) (a1 : List Int) (h0 : -9223372036854775808 ≤ a0 ∧ a0 ≤ 9223372036854775807) (h1 : a1.length * 8 ≤ 140737488351232 ∧ ∀ y ∈ a1, (-9223372036854775808 ≤ y ∧ y ≤ 9223372036854775807)) : keep_LiftAll a0 a1 = some true := by
  unfold keep_LiftAll
  rw [alive19_eq, Option.bind_some, Bool.not_true, cond_false, Sweep_eq, Option.bind_some, Short_eq, Option.bind_some]
  cases hg : good a1 && good [a0] with
  | false => rfl
  | true =>
    rw [Bool.and_eq_true] at hg
    obtain ⟨hg, hh⟩ := hg
    have hl := (good_iff.1 hg).1
    rw [cond_true, cond_true]
    have e : ((((upOf a0 a1 ++ downOf a0 a1, (0 : Int)).2) : Int) != 0) = false := rfl
    rw [e, cond_false]
    unfold slices_Values_int
    rw [Option.bind_some, Sorted_eq _ hl, Option.bind_some]
    have hud := ud_len a0 a1
    have hsh := (short_perm a0 a1).length_eq
    refine All_l1 (shortOf a0 a1, 0) (sorted a1) (upOf a0 a1 ++ downOf a0 a1) (upOf a0 a1).length (by rw [List.length_append]; omega) (by simp only; omega) rfl (sorted_congr (up_down_perm a0 a1)) (sorted_congr (short_perm a0 a1)) (fun i hi hi0 hiu => ?_) FUEL 0 0 (by omega) (fuel_gt (by rw [List.length_append]; omega)) (by omega)
    rw [List.length_append] at hi
    rcases Nat.lt_or_ge i (upOf a0 a1).length with hlt | hge
    · rw [List.getElem_append_left hlt, List.getElem_append_left (by omega)]
      exact List.pairwise_iff_getElem.1 (up_sorted a0 a1) (i - 1) i (by omega) hlt (by omega)
    · rw [List.getElem_append_right hge, List.getElem_append_right (by omega)]
      exact List.pairwise_iff_getElem.1 (down_sorted a0 a1) _ _ (by omega) (by omega) (by omega)

/- LiftEnds -/
theorem Min_l1 (l : List Int) (hl : l.length ≤ 400) : ∀ n (k : Nat) (x : Int), k ≤ l.length → l.length - k < n → x ∈ l → (∀ i (hi : i < l.length), i < k → x ≤ l[i]) → ∃ m, slices_Min_int_l1 l n x k = some m ∧ m ∈ l ∧ ∀ y ∈ l, m ≤ y := by
  intro n
  induction n with
  | zero => intro k x h1 h2; omega
  | succ n ih =>
    intro k x h1 h2 h3 h4
    unfold slices_Min_int_l1
    rcases Nat.lt_or_ge k l.length with hlt | hge
    · rw [dec_lt hlt, cond_true, if_pos (idx_ok hlt), Int.toNat_natCast, getD_lt _ _ hlt, wrap_id (by omega) (by omega)]
      have hm := List.getElem_mem hlt
      by_cases hc : l[k] < x
      · rw [if_pos hc]
        have := ih (k + 1) l[k] (by omega) (by omega) hm (fun i hi hik => by
          rcases Nat.lt_or_ge i k with h5 | h5
          · have := h4 i hi h5; omega
          · obtain rfl : i = k := by omega
            exact Int.le_refl _)
        simpa using this
      · rw [if_neg hc]
        have := ih (k + 1) x (by omega) (by omega) h3 (fun i hi hik => by
          rcases Nat.lt_or_ge i k with h5 | h5
          · exact h4 i hi h5
          · obtain rfl : i = k := by omega
            omega)
        simpa using this
    · rw [dec_ge hge, cond_false]
      exact ⟨x, rfl, h3, fun y hy => by
        obtain ⟨i, hi, rfl⟩ := List.getElem_of_mem hy
        exact h4 i hi (by omega)⟩
theorem Min_eq (l : List Int) (hl : l.length ≤ 400) (h0 : l ≠ []) : ∃ m, slices_Min_int l = some m ∧ m ∈ l ∧ ∀ y ∈ l, m ≤ y := by
  have hpos : 0 < l.length := List.length_pos_iff.2 h0
  unfold slices_Min_int
  have e : decide ((((l.length : Nat) : Int) : Int) < 1) = false := by simp; omega
  rw [e, cond_false, if_pos (by omega), getD_lt _ _ hpos]
  exact Min_l1 l hl FUEL 1 l[0] (by omega) (by have := fuel_gt (n := l.length) (by omega); omega) (List.getElem_mem _) (fun i hi h => by
    obtain rfl : i = 0 := by omega
    exact Int.le_refl _)
theorem Max_l1 (l : List Int) (hl : l.length ≤ 400) : ∀ n (k : Nat) (x : Int), k ≤ l.length → l.length - k < n → x ∈ l → (∀ i (hi : i < l.length), i < k → l[i] ≤ x) → ∃ m, slices_Max_int_l1 l n x k = some m ∧ m ∈ l ∧ ∀ y ∈ l, y ≤ m := by
  intro n
  induction n with
  | zero => intro k x h1 h2; omega
  | succ n ih =>
    intro k x h1 h2 h3 h4
    unfold slices_Max_int_l1
    rcases Nat.lt_or_ge k l.length with hlt | hge
    · rw [dec_lt hlt, cond_true, if_pos (idx_ok hlt), Int.toNat_natCast, getD_lt _ _ hlt, wrap_id (by omega) (by omega)]
      have hm := List.getElem_mem hlt
      by_cases hc : l[k] > x
      · rw [if_pos hc]
        have := ih (k + 1) l[k] (by omega) (by omega) hm (fun i hi hik => by
          rcases Nat.lt_or_ge i k with h5 | h5
          · have := h4 i hi h5; omega
          · obtain rfl : i = k := by omega
            exact Int.le_refl _)
        simpa using this
      · rw [if_neg hc]
        have := ih (k + 1) x (by omega) (by omega) h3 (fun i hi hik => by
          rcases Nat.lt_or_ge i k with h5 | h5
          · exact h4 i hi h5
          · obtain rfl : i = k := by omega
            omega)
        simpa using this
    · rw [dec_ge hge, cond_false]
      exact ⟨x, rfl, h3, fun y hy => by
        obtain ⟨i, hi, rfl⟩ := List.getElem_of_mem hy
        exact h4 i hi (by omega)⟩
theorem Max_eq (l : List Int) (hl : l.length ≤ 400) (h0 : l ≠ []) : ∃ m, slices_Max_int l = some m ∧ m ∈ l ∧ ∀ y ∈ l, y ≤ m := by
  have hpos : 0 < l.length := List.length_pos_iff.2 h0
  unfold slices_Max_int
  have e : decide ((((l.length : Nat) : Int) : Int) < 1) = false := by simp; omega
  rw [e, cond_false, if_pos (by omega), getD_lt _ _ hpos]
  exact Max_l1 l hl FUEL 1 l[0] (by omega) (by have := fuel_gt (n := l.length) (by omega); omega) (List.getElem_mem _) (fun i hi h => by
    obtain rfl : i = 0 := by omega
    exact Int.le_refl _)

theorem LiftEnds_true (a0 : Int) (a1 : List Int) (h0 : -9223372036854775808 ≤ a0 ∧ a0 ≤ 9223372036854775807) (h1 : a1.length * 8 ≤ 140737488351232 ∧ ∀ y ∈ a1, (-9223372036854775808 ≤ y ∧ y ≤ 9223372036854775807)) : keep_LiftEnds a0 a1 = some true := by
  unfold keep_LiftEnds
  rw [alive19_eq, Option.bind_some, Bool.not_true, cond_false, Short_eq, Option.bind_some]
  cases hg : good a1 && good [a0] with
  | false =>
    rw [cond_false, Way_eq, Option.bind_some]
    rfl
  | true =>
    rw [Bool.and_eq_true] at hg
    obtain ⟨hg, hh⟩ := hg
    have hl := (good_iff.1 hg).1
    rw [cond_true]
    simp only
    rw [Way_eq, good_perm (short_perm a0 a1) hg, hh, Bool.and_self, cond_true, Option.bind_some]
    have e : ((0 : Int) != 0) = false := by decide
    rw [e, Bool.false_or]
    by_cases hn : a1 = []
    · subst hn
      rfl
    · have hpos : 0 < a1.length := List.length_pos_iff.2 hn
      have e0 : ((((a1.length : Nat) : Int) : Int) == 0) = false := by simp; omega
      obtain ⟨lo, m1, m2, m3⟩ := Min_eq a1 hl hn
      obtain ⟨hi, x1, x2, x3⟩ := Max_eq a1 hl hn
      rw [e0, Bool.not_false, cond_true, m1, Option.bind_some, Bool.false_or]
      have hb := (good_iff.1 hh).2 a0 (by simp)
      have hblo := (good_iff.1 hg).2 lo m2
      have hbhi := (good_iff.1 hg).2 hi x2
      by_cases c1 : a0 < lo
      · rw [decide_eq_true c1]
        rfl
      · rw [decide_eq_false c1, Bool.not_false, cond_true, x1, Option.bind_some, Bool.false_or]
        by_cases c2 : a0 > hi
        · rw [decide_eq_true c2]
          rfl
        · rw [decide_eq_false c2, cond_false, Option.bind_some, Option.bind_some]
          rw [wrap_id (x := a0 - lo) (by omega) (by omega), wrap_id (x := hi - a0) (by omega) (by omega), short_way m2 m3 x2 x3]
          have hlh := m3 hi x2
          rw [wrap_id (x := a0 - lo + (hi - a0)) (by omega) (by omega), wrap_id (by split <;> omega) (by split <;> omega)]
          have e3 : ((0 : Int) == 0) = true := by decide
          rw [e3, Bool.true_and]
          simp only
          congr 1
          rw [beq_iff_eq]
          split
          · split <;> omega
          · split <;> split <;> omega

/- LiftMerged -/
theorem has_1 (b : Int) (s : Api_Span) : keep_LiftMerged_1_1 s b = some (cov b s) := rfl
theorem has_eq (l : List Api_Span) (b : Int) (hl : l.length ≤ 140737488355328) : keep_LiftMerged_1 l b = some (l.any (cov b)) := by
  unfold keep_LiftMerged_1 slices_ContainsFunc_api_Span_keep_LiftMerged_1_1 slices_IndexFunc_api_Span_keep_LiftMerged_1_1
  obtain ⟨x, hx, h⟩ := slices_IndexFunc_api_Span_keep_LiftMerged_1_1_l1_eq2 b (has_1 b) l FUEL 0 (by omega) (fuel_gt (by omega))
  rw [hx, Option.bind_some, Option.bind_some]
  congr 1
  rcases h with ⟨rfl, h⟩ | ⟨j, _, hj, rfl, h, _⟩
  · rw [List.drop_zero] at h
    have : l.any (cov b) = false := by
      rw [List.any_eq_false]
      intro x hx; rw [h x hx]; simp
    rw [this]; decide
  · have : l.any (cov b) = true := List.any_eq_true.2 ⟨_, List.getElem_mem hj, h⟩
    rw [this]; simp

theorem ReverseS_l1 (l : List Api_Span) (hl : l.length ≤ 140737488355328) : ∀ n (i : Nat) (m : List Api_Span), m.length = l.length → 2 * i ≤ l.length + 1 → l.length + 1 < 2 * i + 2 * n →
    (∀ k, k < l.length → m.getD k ⟨0, 0⟩ = if k < i ∨ l.length ≤ k + i then l.getD (l.length - 1 - k) ⟨0, 0⟩ else l.getD k ⟨0, 0⟩) →
    slices_Reverse_api_Span_h0_l1 l n (i : Int) ((l.length : Int) - 1 - i) m = some l.reverse := by
  intro n
  induction n with
  | zero => intro i m h1 h2 h3; omega
  | succ n ih =>
    intro i m h1 h2 h3 h4
    unfold slices_Reverse_api_Span_h0_l1
    by_cases hc : 2 * i + 1 < l.length
    · have hd : decide ((i : Int) < (l.length : Int) - 1 - i) = true := by simp; omega
      obtain ⟨j, hj⟩ : ∃ j : Nat, (l.length : Int) - 1 - i = (j : Int) := ⟨l.length - 1 - i, by omega⟩
      rw [hd, cond_true, hj, if_pos (by omega), if_pos (by omega), if_pos (by omega), if_pos (by omega), Int.toNat_natCast, Int.toNat_natCast, Nat.zero_add, Nat.zero_add, wrap_id (x := (i : Int) + 1) (by omega) (by omega), wrap_id (x := (j : Int) - 1) (by omega) (by omega)]
      have := ih (i + 1) ((m.set i (m.getD j ⟨0, 0⟩)).set j (m.getD i ⟨0, 0⟩)) (by simp [h1]) (by omega) (by omega) (fun k hk => ?_)
      · rw [show ((i + 1 : Nat) : Int) = (i : Int) + 1 by omega, show (l.length : Int) - 1 - ((i : Int) + 1) = (j : Int) - 1 by omega] at this
        exact this
      · have hi := h4 i (by omega)
        have hjj := h4 j (by omega)
        rw [if_neg (by omega)] at hi hjj
        rw [List.getD_eq_getElem?_getD, List.getElem?_set, List.getElem?_set, List.length_set]
        by_cases e1 : j = k
        · subst e1
          rw [if_pos rfl, if_pos (by omega), if_pos (by omega), Option.getD_some, hi]
          congr 1; omega
        · rw [if_neg e1]
          by_cases e2 : i = k
          · subst e2
            rw [if_pos rfl, if_pos (by omega), if_pos (by omega), Option.getD_some, hjj]
            congr 1; omega
          · rw [if_neg e2, ← List.getD_eq_getElem?_getD, h4 k hk]
            by_cases e3 : k < i ∨ l.length ≤ k + i
            · rw [if_pos e3, if_pos (by omega)]
            · rw [if_neg e3, if_neg (by omega)]
    · have hd : decide ((i : Int) < (l.length : Int) - 1 - i) = false := by simp; omega
      rw [hd, cond_false]
      congr 1
      apply List.ext_getElem (by simp [h1])
      intro k hk1 hk2
      have hk : k < l.length := by omega
      have := h4 k hk
      rw [getD_lt _ _ hk1] at this
      rw [this, List.getElem_reverse]
      by_cases e3 : k < i ∨ l.length ≤ k + i
      · rw [if_pos e3, getD_lt _ _ (by omega)]
      · rw [if_neg e3, getD_lt _ _ hk]
        congr 1; omega
theorem ReverseS_eq (l : List Api_Span) (hl : l.length ≤ 140737488355328) : slices_Reverse_api_Span_h0 l = some l.reverse := by
  unfold slices_Reverse_api_Span_h0
  rw [wrap_id (by omega) (by omega)]
  have hfu : l.length < FUEL := fuel_gt hl
  have := ReverseS_l1 l (by omega) FUEL 0 l rfl (Nat.zero_le _) (show l.length + 1 < 2 * 0 + 2 * FUEL by omega) (fun k hk => by rw [if_neg (show ¬ (k < 0 ∨ l.length ≤ k + 0) by omega)])
  simpa using this

theorem Merged_l1 (a0 : List Api_Span) (b : Int) (m : List Api_Span) (hc : Canon m) (hcov : ∀ x, m.any (cov x) = a0.any (cov x)) (hl : a0.length ≤ 400) (hlm : m.length ≤ a0.length) : ∀ n k, k ≤ m.length → m.length - k < n →
    keep_LiftMerged_l1 a0 b (m, 0) (m, 0) (m, 0) n k = some true := by
  intro n
  induction n with
  | zero => intro k h1 h2; omega
  | succ n ih =>
    intro k h1 h2
    unfold keep_LiftMerged_l1
    simp only
    rcases Nat.lt_or_ge k m.length with hlt | hge
    · have hk := hc.2 _ (List.getElem_mem hlt)
      unfold okS at hk
      rw [dec_lt hlt, cond_true, Nat.zero_add, getD_lt _ _ hlt]
      have e1 : decide ((m[k].From : Int) ≥ m[k].To) = false := by simp; omega
      rw [e1, Bool.not_false, Bool.true_and, Bool.false_or]
      rcases Nat.eq_zero_or_pos k with rfl | hk0
      · have e : decide (((((0 : Nat) : Nat) : Int) : Int) > 0) = false := by decide
        rw [e, if_pos (fun hh => by cases hh), cond_false, if_pos (fun hh => by cases hh), Bool.false_and, Bool.false_or, cond_false]
        exact ih 1 (by omega) (by omega)
      · have e : decide ((((k : Nat) : Int) : Int) > 0) = true := by simp; omega
        have ek : (((k : Nat) : Int) - 1) = ((k - 1 : Nat) : Int) := by omega
        rw [e, wrap_id (x := (k : Int) - 1) (by omega) (by omega), ek, if_pos (fun _ => by omega), cond_true, if_pos (fun _ => idx_ok hlt), Int.toNat_natCast, Nat.zero_add, getD_lt _ _ (show k - 1 < m.length by omega), Bool.true_and]
        have := List.pairwise_iff_getElem.1 hc.1 (k - 1) k (by omega) hlt (by omega)
        rw [decide_eq_false (show ¬ (m[k - 1].To ≥ m[k].From) by omega), cond_false]
        exact ih (k + 1) (by omega) (by omega)
    · rw [dec_ge hge, cond_false, has_eq _ _ (by omega), Option.bind_some, has_eq _ _ (by omega), Option.bind_some, hcov, slices_Equal_api_Span_eq _ _ (by omega)]
      have e : ((0 : Int) == 0) = true := by decide
      rw [e, beq_self_eq_true, Bool.and_self, Bool.and_self, cond_true, Option.bind_some, decide_eq_true rfl, Bool.and_self, cond_true, Option.bind_some, Bool.and_self, Bool.true_and]
      rw [decide_eq_true (by omega)]

theorem LiftMerged_true (a0 : List Api_Span) (a1 : Int) (h0 : a0.length * 16 ≤ 140737488351232 ∧ ∀ y ∈ a0, (Ok_Api_Span y)) (h1 : -9223372036854775808 ≤ a1 ∧ a1 ≤ 9223372036854775807) : keep_LiftMerged a0 a1 = some true := by
  unfold keep_LiftMerged
  rw [alive19_eq, Option.bind_some, Bool.not_true, cond_false]
  by_cases hg : goodS a0
  · obtain ⟨m, m1, m2, m3, m4⟩ := Merge_eq a0 hg
    have hl := hg.1
    rw [m1, Option.bind_some]
    have e : ((((m, (0 : Int)).2) : Int) != 0) = false := rfl
    rw [e, cond_false]
    unfold slices_Clone_api_Span
    rw [if_pos (by omega), Option.bind_some, ReverseS_eq _ (by omega), Option.bind_some, if_pos (by simp)]
    obtain ⟨p, p1, p2, p3, p4⟩ := Merge_eq a0.reverse ⟨by rw [List.length_reverse]; exact hl, fun s hs => hg.2 s (List.mem_reverse.1 hs)⟩
    obtain ⟨q, q1, q2, q3, q4⟩ := Merge_eq m ⟨by omega, m2.2⟩
    have hp : p = m := canon_unique p m p2 m2 (fun x => by rw [p3, m3, List.any_reverse])
    have hq : q = m := canon_unique q m q2 m2 (fun x => by rw [q3])
    subst hp
    subst hq
    rw [p1, Option.bind_some]
    simp only
    rw [q1, Option.bind_some]
    exact Merged_l1 a0 a1 _ m2 m3 hl m4 FUEL 0 (by omega) (fuel_gt (by omega))
  · rw [Merge_bad a0 hg]
    rfl

end Go.Proofs.Ytkccegeejlbhnaa
