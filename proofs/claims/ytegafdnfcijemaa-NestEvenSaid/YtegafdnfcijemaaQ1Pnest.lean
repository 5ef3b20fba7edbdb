/- Plain laws of nest. -/
import Derived.Test.YtegafdnfcijemaaQ1M
set_option linter.unusedSimpArgs false
set_option linter.unusedVariables false
namespace Go.Proofs.Ytegafdnfcijemaa
open Go Go.Ab
abbrev Fr0 := Api_Frame
theorem getD_lt {α : Type} (xs : List α) (d : α) {k : Nat} (h : k < xs.length) : xs.getD k d = xs[k] := by simp [h]
theorem dec_lt {k n : Nat} (h : k < n) : decide ((((k : Nat) : Int) : Int) < ((n : Nat) : Int)) = true := by simpa using h
theorem dec_ge {k n : Nat} (h : n ≤ k) : decide ((((k : Nat) : Int) : Int) < ((n : Nat) : Int)) = false := by simpa using h
theorem idx_ok {k n : Nat} (h : k < n) : 0 ≤ (((k : Nat) : Int) : Int) ∧ ((k : Nat) : Int) < ((n : Nat) : Int) := by omega
theorem room {a b : Nat} (h : (a + b) * 8 ≤ 140737488355328) : (a + b) * 8 ≤ 140737488355328 ∧ a + b ≤ 140737488355328 := ⟨h, by omega⟩

def rF (co : Bool) : Bool → List Api_Frame → Bool
  | on, [] => !co || on
  | on, f :: r => !(f.On && !on || f.Irq && !f.On) && rF co false r
theorem nest_Right_l1_eq (c : Api_Core) : ∀ n on k, k ≤ c.Kept.length → c.Kept.length - k < n → nest_Right_l1 c n on k = some (rF c.On on (c.Kept.drop k)) := by
  intro n
  induction n with
  | zero => intro on k hk h; omega
  | succ n ih =>
    intro on k hk h
    unfold nest_Right_l1
    rcases Nat.lt_or_ge k c.Kept.length with hlt | hge
    · rw [dec_lt hlt, cond_true, List.drop_eq_getElem_cons hlt, getD_lt _ _ hlt, ih false (k + 1) (by omega) (by omega)]
      simp only [rF]
      generalize c.Kept[k] = f
      cases (f.On && !on || f.Irq && !f.On) <;> simp
    · rw [dec_ge hge, cond_false, List.drop_of_length_le hge]; rfl
def rightB (c : Api_Core) : Bool := decide (c.Kept.length ≤ 400) && rF c.On true c.Kept
theorem nest_Right_eq (c : Api_Core) (hc : c.Kept.length ≤ 140737488355328) : nest_Right c = some (rightB c) := by
  unfold nest_Right rightB
  rw [nest_Right_l1_eq c _ _ _ (by omega) (fuel_gt (by omega))]
  by_cases h : c.Kept.length ≤ 400
  · have : ¬ ((c.Kept.length : Int) > 400) := by omega
    simp [h, this]
  · have : ((c.Kept.length : Int) > 400) := by omega
    simp [h, this]

/-- What a core is behind an operation, and what was wrong. -/
def stepF (c : Api_Core) (k : Int) : Api_Core × Int :=
  if rightB c = false then (⟨false, []⟩, 1)
  else if k < 1 ∨ 4 < k then (⟨false, []⟩, 5)
  else if (k = 1 ∨ k = 3) ∧ c.Kept.length = 400 then (⟨false, []⟩, 4)
  else if k = 3 ∧ c.On = false then (⟨false, []⟩, 7)
  else if (k = 2 ∨ k = 4) ∧ c.Kept.length = 0 then (⟨false, []⟩, 3)
  else if (k = 2 ∨ k = 4) ∧ (c.Kept.getD (c.Kept.length - 1) ⟨false, false⟩).Irq ≠ decide (k = 4) then (⟨false, []⟩, 8)
  else if k = 1 ∨ k = 3 then (⟨false, c.Kept ++ [⟨c.On, decide (k = 3)⟩]⟩, 0)
  else (⟨(c.Kept.getD (c.Kept.length - 1) ⟨false, false⟩).On, c.Kept.take (c.Kept.length - 1)⟩, 0)
theorem nest_Step_eq (c : Api_Core) (k : Int) (hc : c.Kept.length ≤ 140737488355328) : nest_Step c k = some (stepF c k) := by
  unfold nest_Step
  rw [nest_Right_eq _ hc, Option.bind_some]
  unfold stepF
  cases hr : rightB c with
  | false => simp [hr]
  | true =>
  have hl : c.Kept.length ≤ 400 := by simp [rightB] at hr; exact hr.1
  simp only [hr, Bool.not_true, cond_false, Bool.true_eq_false, if_false]
  have hw : c.Kept.length ≠ 0 → IntKind.i64.wrap ((c.Kept.length : Int) - 1) = ((c.Kept.length - 1 : Nat) : Int) := by
    intro h; rw [wrap_id (by omega) (by omega)]; omega
  by_cases h1 : k < 1 ∨ 4 < k
  · have : (decide (k < 1) || decide (k > 4)) = true := by simpa using h1
    rw [this, cond_true, if_pos h1]
  have e1 : (decide (k < 1) || decide (k > 4)) = false := by simp at h1 ⊢; omega
  rw [e1, cond_false, if_neg h1]
  have hk : k = 1 ∨ k = 2 ∨ k = 3 ∨ k = 4 := by omega
  by_cases hz : c.Kept.length = 0
  · have hz' : c.Kept = [] := List.eq_nil_of_length_eq_zero hz
    rcases hk with rfl | rfl | rfl | rfl <;> cases ho : c.On <;> simp [hz', slices_Clone_api_Frame, ho]
  · have hw := hw hz
    have hi : (0 : Int) ≤ ((c.Kept.length - 1 : Nat) : Int) ∧ ((c.Kept.length - 1 : Nat) : Int) < c.Kept.length := by omega
    have hsz : ((c.Kept.length : Int) = 400) ↔ c.Kept.length = 400 := by omega
    have hz2 : ((c.Kept.length : Int) = 0) ↔ c.Kept.length = 0 := by omega
    simp only [hw, Int.toNat_natCast]
    generalize hg : c.Kept.getD (c.Kept.length - 1) (⟨false, false⟩ : Api_Frame) = g
    have h2 : c.Kept.length * 2 ≤ 140737488355328 := by omega
    have h3 : (c.Kept.length + 1) * 2 ≤ 140737488355328 := by omega
    have h4 : c.Kept.length + 1 ≤ 140737488355328 := by omega
    have h5 : (0 : Int) ≤ ((c.Kept.length - 1 : Nat) : Int) := by omega
    have h6 : ((c.Kept.length - 1 : Nat) : Int) < c.Kept.length := by omega
    have h7 : c.Kept.length - 1 ≤ c.Kept.length := by omega
    have h10 : (c.Kept.length - 1) * 2 ≤ 140737488355328 := by omega
    have h9 : c.Kept.length ≤ 140737488355327 := by omega
    have h8 : min (c.Kept.length - 1) c.Kept.length * 2 ≤ 140737488355328 := by omega
    rcases hk with rfl | rfl | rfl | rfl <;> cases ho : c.On <;> cases hi : g.Irq <;> by_cases hq : c.Kept.length = 400 <;>
      simp [Bool.cond_eq_ite, slices_Clone_api_Frame, ho, hi, hq, hz, hz2, hsz, h2, h3, h4, h5, h6, h7, h8, h9, h10]

def playF (c : Api_Core) : List Int → List Int × Api_Core
  | [] => ([], c)
  | k :: ks => ((stepF c k).2 :: (playF (if (stepF c k).2 = 0 then (stepF c k).1 else c) ks).1, (playF (if (stepF c k).2 = 0 then (stepF c k).1 else c) ks).2)
theorem stepF_len (c : Api_Core) (k : Int) (h : c.Kept.length ≤ 400) : (stepF c k).1.Kept.length ≤ 400 := by
  unfold stepF
  repeat' split
  all_goals simp at *
  all_goals omega
theorem playF_len (ks : List Int) : ∀ c, (playF c ks).1.length = ks.length := by
  induction ks with
  | nil => intro c; rfl
  | cons k ks ih => intro c; simp [playF, ih]
theorem nest_Play_l1_eq (ks : List Int) (hn : ks.length * 8 ≤ 140737488355328) : ∀ n out k (c : Api_Core), k ≤ ks.length → ks.length - k < n → out.length = k → c.Kept.length ≤ 400 →
    nest_Play_l1 ks n out k c.On c.Kept = some (out ++ (playF c (ks.drop k)).1, (playF c (ks.drop k)).2) := by
  intro n
  induction n with
  | zero => intro out k c hk h; omega
  | succ n ih =>
    intro out k c hk h ho hc
    unfold nest_Play_l1
    rcases Nat.lt_or_ge k ks.length with hlt | hge
    · rw [dec_lt hlt, cond_true, List.drop_eq_getElem_cons hlt, getD_lt _ _ hlt, nest_Step_eq _ _ (by simp only; omega), Option.bind_some]
      simp only [playF]
      have hl := stepF_len c ks[k] hc
      generalize hst : stepF c ks[k] = st at *
      have hr : (out.length + [st.2].length) * 8 ≤ 140737488355328 ∧ out.length + [st.2].length ≤ 140737488355328 := by simp; omega
      have hst' : stepF (⟨c.On, c.Kept⟩ : Api_Core) ks[k] = st := hst
      simp only [hst', if_pos hr, Bool.cond_eq_ite, beq_iff_eq]
      split
      · rw [ih _ _ st.1 (by omega) (by omega) (by simp; omega) hl]; simp
      · rw [ih _ _ c (by omega) (by omega) (by simp; omega) hc]; simp
    · rw [dec_ge hge, cond_false, List.drop_of_length_le hge]; simp [playF]
theorem nest_Play_eq (ks : List Int) (hn : ks.length * 8 ≤ 140737488355328) : nest_Play ks = some (playF ⟨true, []⟩ ks) := by
  unfold nest_Play
  have := nest_Play_l1_eq ks hn FUEL [] 0 ⟨true, []⟩ (by omega) (fuel_gt (by omega)) rfl (by simp)
  simpa using this
theorem alive7_eq : keep_alive7 = some true := by decide +kernel

theorem slices_Equal_api_Errno_l1_eq (a b : List Int) (hl : a.length = b.length) : ∀ n k, k ≤ a.length → a.length - k < n → slices_Equal_api_Errno_l1 a b n k = some (decide (a.drop k = b.drop k)) := by
  intro n
  induction n with
  | zero => intro k hk h; omega
  | succ n ih =>
    intro k hk h
    unfold slices_Equal_api_Errno_l1
    rcases Nat.lt_or_ge k a.length with hlt | hge
    · have hlt2 : k < b.length := by omega
      rw [dec_lt hlt, cond_true, if_pos (idx_ok hlt2), getD_lt _ _ hlt, getD_lt _ _ hlt2, ih _ (by omega) (by omega), List.drop_eq_getElem_cons hlt, List.drop_eq_getElem_cons hlt2]
      simp only [Bool.cond_eq_ite, bne_iff_ne, List.cons.injEq]
      split <;> simp_all
    · rw [dec_ge hge, cond_false, List.drop_of_length_le hge, List.drop_of_length_le (by omega)]; simp
theorem ref_SameCore_l1_eq (a b : Api_Core) (hl : a.Kept.length = b.Kept.length) : ∀ n k, k ≤ a.Kept.length → a.Kept.length - k < n → ref_SameCore_l1 a b n k = some (decide (a.Kept.drop k = b.Kept.drop k)) := by
  intro n
  induction n with
  | zero => intro k hk h; omega
  | succ n ih =>
    intro k hk h
    unfold ref_SameCore_l1
    rcases Nat.lt_or_ge k a.Kept.length with hlt | hge
    · have hlt2 : k < b.Kept.length := by omega
      rw [dec_lt hlt, cond_true, if_pos (idx_ok hlt2), getD_lt _ _ hlt, getD_lt _ _ hlt2, ih _ (by omega) (by omega), List.drop_eq_getElem_cons hlt, List.drop_eq_getElem_cons hlt2]
      generalize a.Kept[k] = x
      generalize b.Kept[k] = y
      obtain ⟨x1, x2⟩ := x
      obtain ⟨y1, y2⟩ := y
      simp only [List.cons.injEq, Api_Frame.mk.injEq]
      cases x1 <;> cases x2 <;> cases y1 <;> cases y2 <;> simp
    · rw [dec_ge hge, cond_false, List.drop_of_length_le hge, List.drop_of_length_le (by omega)]; simp
theorem ref_SameCore_eq (a b : Api_Core) (h : a.Kept.length ≤ 140737488355328) : ref_SameCore a b = some (decide (a = b)) := by
  unfold ref_SameCore
  obtain ⟨a1, a2⟩ := a
  obtain ⟨b1, b2⟩ := b
  simp only [Bool.cond_eq_ite, Bool.or_eq_true, bne_iff_ne, Api_Core.mk.injEq]
  split
  · rename_i h1
    rcases h1 with h1 | h1
    · simp [h1]
    · have : a2 ≠ b2 := by intro e; subst e; exact h1 rfl
      simp [this]
  · rename_i h1
    simp only [not_or, Decidable.not_not] at h1
    rw [ref_SameCore_l1_eq _ _ (by simp only; omega) _ _ (by simp) (fuel_gt (by simpa using h))]
    simp [h1.1]

def frOk : Bool → List Api_Frame → Bool
  | _, [] => true
  | on, f :: r => !(f.On && !on || f.Irq && !f.On) && frOk false r
theorem rF_eq (co : Bool) : ∀ (fs : List Api_Frame) (on : Bool), rF co on fs = (frOk on fs && (!co || (on && fs.isEmpty)))
  | [], on => by simp [rF, frOk]
  | f :: fs, on => by simp [rF, frOk, rF_eq co fs false, Bool.and_assoc]
theorem frOk_snoc (f : Api_Frame) : ∀ (fs : List Api_Frame) (b : Bool), frOk b (fs ++ [f]) = (frOk b fs && !(f.On && !(if fs = [] then b else false) || f.Irq && !f.On))
  | [], b => by simp [frOk]
  | g :: fs, b => by
    simp only [List.cons_append, frOk, frOk_snoc f fs false]
    cases fs <;> simp [Bool.and_assoc]
theorem rightB_eq (c : Api_Core) : rightB c = (decide (c.Kept.length ≤ 400) && frOk true c.Kept && (!c.On || c.Kept.isEmpty)) := by
  simp [rightB, rF_eq, Bool.and_assoc]
theorem back_law (c : Api_Core) (k : Int) (hk : k = 1 ∨ k = 3) (h : (stepF c k).2 = 0) :
    (stepF c k).1.On = false ∧ rightB (stepF c k).1 = true ∧ stepF (stepF c k).1 (k + 1) = (c, 0) ∧ c.Kept.length < 400 := by
  have h1 : rightB c = true := by
    cases e : rightB c with
    | true => rfl
    | false => simp [stepF, e] at h
  have h2 : ¬(k < 1 ∨ 4 < k) := by omega
  have h3 : c.Kept.length ≠ 400 := by
    intro e
    simp [stepF, h1, e] at h
    rcases hk with rfl | rfl <;> simp at h
  have h4 : k = 3 → c.On = true := by
    intro e
    cases ho : c.On with
    | true => rfl
    | false => subst e; simp [stepF, h1, h3, ho] at h
  have hs : stepF c k = (⟨false, c.Kept ++ [⟨c.On, decide (k = 3)⟩]⟩, 0) := by
    unfold stepF
    rw [if_neg (by simp [h1]), if_neg h2, if_neg (fun e => h3 e.2), if_neg (fun e => by simp [h4 e.1] at e), if_neg (by omega), if_neg (by omega), if_pos hk]
  rw [hs]
  rw [rightB_eq] at h1
  simp only [Bool.and_eq_true, decide_eq_true_eq, Bool.or_eq_true, Bool.not_eq_true'] at h1
  obtain ⟨⟨r1, r2⟩, r3⟩ := h1
  have hr : rightB ⟨false, c.Kept ++ [⟨c.On, decide (k = 3)⟩]⟩ = true := by
    simp only [rightB_eq, frOk_snoc, r2, Bool.true_and, Bool.not_false, Bool.true_or, Bool.and_true, Bool.and_eq_true, decide_eq_true_eq, List.length_append, List.length_singleton]
    refine ⟨by omega, ?_⟩
    cases ho : c.On with
    | true =>
      have : c.Kept = [] := by simpa [ho] using r3
      simp [this]
    | false =>
      have : k ≠ 3 := fun e => by simp [h4 e] at ho
      simp [this]
  refine ⟨rfl, hr, ?_, by omega⟩
  unfold stepF
  rw [if_neg (by simp [hr]), if_neg (by omega), if_neg (by omega), if_neg (by omega), if_neg (by simp), if_neg, if_neg (by omega)]
  · simp
  · rintro ⟨_, e⟩
    apply e
    simp
    omega
theorem back_l1 (c : Api_Core) (hc : c.Kept.length ≤ 140737488355328) : ∀ n k, k ≤ 2 → 2 - k < n → keep_NestBack_l1 c true n k = some true := by
  intro n
  induction n with
  | zero => intro k hk h; omega
  | succ n ih =>
    intro k hk h
    unfold keep_NestBack_l1
    have step : ∀ (q : Int), q = 1 ∨ q = 3 → ((nest_Step ⟨c.On, c.Kept⟩ q).bind fun r8 =>
        bif (r8.2 : Int) != 0 then keep_NestBack_l1 c true n (k + 1)
        else (nest_Step ⟨r8.1.On, r8.1.Kept⟩ (q + 1)).bind fun r12 =>
          (bif !((r12.2 : Int) != 0) then ref_SameCore ⟨r12.1.On, r12.1.Kept⟩ ⟨c.On, c.Kept⟩ else some false).bind fun r14 =>
            (bif !(((r12.2 : Int) != 0 || !r14) || r8.1.On) then nest_Right ⟨r8.1.On, r8.1.Kept⟩ else some false).bind fun r20 =>
              bif ((((r12.2 : Int) != 0 || !r14) || r8.1.On) || !r20) then some false else keep_NestBack_l1 c true n (k + 1)) = keep_NestBack_l1 c true n (k + 1) := by
      intro q hq
      rw [nest_Step_eq _ _ hc, Option.bind_some]
      cases hz : ((stepF ⟨c.On, c.Kept⟩ q).2 != 0) with
      | true => simp
      | false =>
        obtain ⟨b1, b2, b3, b4⟩ := back_law c q hq (by simpa using hz)
        have hl := stepF_len c q (by omega)
        have e : (⟨c.On, c.Kept⟩ : Api_Core) = c := rfl
        have e2 : ∀ d : Api_Core, (⟨d.On, d.Kept⟩ : Api_Core) = d := fun _ => rfl
        rw [e, cond_false]
        simp only [e2]
        generalize (stepF c q).1 = d at *
        rw [nest_Step_eq _ _ (by omega), Option.bind_some, b3]
        simp only [bne_self_eq_false, Bool.not_false, cond_true, ref_SameCore_eq c c hc, Option.bind_some, decide_true, Bool.not_true, Bool.or_false]
        rw [b1, nest_Right_eq _ (by omega), b2]
        rfl
    rcases Nat.lt_or_ge k 2 with hlt | hge
    · rw [dec_lt hlt, cond_true, if_pos (by simp; omega)]
      rcases (show k = 0 ∨ k = 1 by omega) with rfl | rfl
      · exact (step 1 (.inl rfl)).trans (ih _ (by omega) (by omega))
      · exact (step 3 (.inr rfl)).trans (ih _ (by omega) (by omega))
    · rw [dec_ge hge, cond_false]
theorem NestBack_true (c : Api_Core) (h : Ok_Api_Core c) : keep_NestBack c = some true := by
  unfold keep_NestBack
  rw [alive7_eq, Option.bind_some]
  simp only [Bool.not_true, cond_false]
  have := h.2.1
  exact back_l1 c (by omega) _ _ (by omega) (by unfold FUEL; omega)

/-- What an operation that went well does to the depth. -/
theorem stepF_depth (c : Api_Core) (k : Int) (h : (stepF c k).2 = 0) :
    (k = 1 ∧ (stepF c k).1.Kept.length = c.Kept.length + 1) ∨ (k = 3 ∧ c.On = true ∧ (stepF c k).1.Kept.length = c.Kept.length + 1) ∨ (k ≠ 1 ∧ k ≠ 3 ∧ 0 < c.Kept.length ∧ (stepF c k).1.Kept.length = c.Kept.length - 1) := by
  unfold stepF at h ⊢
  split at h; · simp at h
  split at h; · simp at h
  split at h; · simp at h
  split at h; · simp at h
  split at h; · simp at h
  split at h; · simp at h
  rename_i h1 h2 h3 h4 h5 h6
  rw [if_neg h1, if_neg h2, if_neg h3, if_neg h4, if_neg h5, if_neg h6]
  by_cases h7 : k = 1 ∨ k = 3
  · rw [if_pos h7]
    rcases h7 with rfl | rfl
    · exact .inl ⟨rfl, by simp⟩
    · exact .inr (.inl ⟨rfl, by cases ho : c.On with | true => rfl | false => exact absurd ⟨rfl, ho⟩ h4, by simp⟩)
  · rw [if_neg h7]
    refine .inr (.inr ⟨by omega, by omega, ?_, by simp⟩)
    have : k = 2 ∨ k = 4 := by omega
    rcases Nat.eq_zero_or_pos c.Kept.length with h0 | h0
    · exact absurd ⟨this, h0⟩ h5
    · exact h0
/-- A core that may be, and is on, keeps nothing. -/
theorem right_on (c : Api_Core) (h : rightB c = true) (ho : c.On = true) : c.Kept = [] := by
  rw [rightB_eq] at h
  simp [ho] at h
  exact h.2
theorem frOk_take : ∀ (fs : List Api_Frame) (b : Bool) (n : Nat), frOk b fs = true → frOk b (fs.take n) = true
  | [], b, n, _ => by simp [frOk]
  | f :: fs, b, 0, _ => by simp [frOk]
  | f :: fs, b, n + 1, h => by
    simp only [List.take_succ_cons, frOk, Bool.and_eq_true] at h ⊢
    exact ⟨h.1, frOk_take fs false n h.2⟩
theorem frOk_late : ∀ (fs : List Api_Frame) (b : Bool) (i : Nat), frOk b fs = true → 0 < i → (fs.getD i ⟨false, false⟩).On = false
  | [], b, i, _, _ => by simp
  | f :: fs, b, 0, _, h => by omega
  | f :: [], b, i + 1, _, _ => by simp
  | f :: g :: fs, b, 1, h, _ => by
    simp only [frOk, Bool.and_eq_true] at h
    have := h.2.1
    simp at this ⊢
    exact this.1
  | f :: g :: fs, b, i + 2, h, _ => by
    simp only [frOk, Bool.and_eq_true] at h
    have := frOk_late (g :: fs) false (i + 1) (by simp only [frOk, Bool.and_eq_true]; exact h.2) (by omega)
    simpa using this
theorem step_right (c : Api_Core) (k : Int) (h : (stepF c k).2 = 0) : rightB (stepF c k).1 = true ∧ rightB c = true := by
  have h1 : rightB c = true := by
    cases e : rightB c with
    | true => rfl
    | false => simp [stepF, e] at h
  refine ⟨?_, h1⟩
  by_cases hk : k = 1 ∨ k = 3
  · exact (back_law c k hk h).2.1
  · have hd := stepF_depth c k h
    unfold stepF at h ⊢
    split at h; · simp at h
    split at h; · simp at h
    split at h; · simp at h
    split at h; · simp at h
    split at h; · simp at h
    split at h; · simp at h
    rename_i h1' h2 h3 h4 h5 h6
    rw [if_neg h1', if_neg h2, if_neg h3, if_neg h4, if_neg h5, if_neg h6, if_neg hk]
    rw [rightB_eq] at h1 ⊢
    simp only [Bool.and_eq_true, decide_eq_true_eq, Bool.or_eq_true, Bool.not_eq_true'] at h1 ⊢
    obtain ⟨⟨r1, r2⟩, r3⟩ := h1
    refine ⟨⟨by simp; omega, frOk_take _ _ _ r2⟩, ?_⟩
    by_cases hl : c.Kept.length - 1 = 0
    · right; rw [hl]; rfl
    · left; exact frOk_late _ _ _ r2 (by omega)
theorem quiet_l1 (ks : List Int) (r4 : List Int × Api_Core) (hn : ks.length ≤ 140737488355328) : ∀ n k (c : Api_Core) (d : Int), k ≤ ks.length → ks.length - k < n → r4.1.length = ks.length →
    r4.1.drop k = (playF c (ks.drop k)).1 → d = c.Kept.length → c.Kept.length ≤ 400 → (rightB c = true) → keep_NestQuiet_l1 ks true r4 n d k = some true := by
  intro n
  induction n with
  | zero => intro k c d hk h; omega
  | succ n ih =>
    intro k c d hk h hl hp hd hc hr
    unfold keep_NestQuiet_l1
    rcases Nat.lt_or_ge k ks.length with hlt | hge
    · have hlt2 : k < r4.1.length := by omega
      rw [dec_lt hlt, cond_true, if_pos (idx_ok hlt2), getD_lt _ _ hlt]
      have hp' := hp
      rw [List.drop_eq_getElem_cons hlt, List.drop_eq_getElem_cons hlt2] at hp'
      simp only [playF, List.cons.injEq] at hp'
      obtain ⟨e1, e2⟩ := hp'
      have e0 : r4.1.getD (0 + k) 0 = (stepF c ks[k]).2 := by rw [Nat.zero_add, getD_lt _ _ hlt2, e1]
      rw [e0]
      by_cases hz : (stepF c ks[k]).2 = 0
      · rw [if_pos hz] at e2
        have hs := stepF_depth c ks[k] hz
        have hr' := (step_right c ks[k] hz).1
        have hl' := stepF_len c ks[k] hc
        simp only [hz, bne_self_eq_false, cond_false, Bool.cond_eq_ite, beq_iff_eq, decide_eq_true_eq, Bool.false_eq_true, if_false]
        rcases hs with ⟨hk1, hs⟩ | ⟨hk3, ho, hs⟩ | ⟨hk1, hk3, hp, hs⟩
        · rw [if_neg (by omega), if_pos hk1]
          exact ih _ _ _ (by omega) (by omega) hl e2 (by rw [wrap_id (by omega) (by omega)]; omega) hl' hr'
        · have := right_on c hr ho
          rw [if_pos hk3, if_neg (by rw [hd, this]; simp)]
          exact ih _ _ _ (by omega) (by omega) hl e2 (by rw [wrap_id (by omega) (by omega)]; omega) hl' hr'
        · rw [if_neg hk3, if_neg hk1]
          exact ih _ _ _ (by omega) (by omega) hl e2 (by rw [wrap_id (by omega) (by omega)]; omega) hl' hr'
      · rw [if_neg hz] at e2
        have : ((stepF c ks[k]).2 != 0) = true := by simpa using hz
        rw [this, cond_true]
        exact ih _ c _ (by omega) (by omega) hl e2 hd hc hr
    · rw [dec_ge hge, cond_false]
      have : d ≥ 0 := by omega
      simp [this]
theorem NestQuiet_true (ks : List Int) (h : ks.length * 8 ≤ 140737488351232 ∧ ∀ y ∈ ks, (-9223372036854775808 ≤ y ∧ y ≤ 9223372036854775807)) : keep_NestQuiet ks = some true := by
  have hn := h.1
  unfold keep_NestQuiet
  rw [alive7_eq, Option.bind_some, nest_Play_eq _ (by omega), Option.bind_some]
  simp only [Bool.not_true, cond_false, playF_len, bne_self_eq_false]
  exact quiet_l1 ks _ (by omega) _ _ ⟨true, []⟩ _ (by omega) (by unfold FUEL; omega) (playF_len _ _) rfl rfl (by simp) (by decide)

/-- What was kept first says that interrupts were on. -/
def bottom : List Api_Frame → Bool
  | [] => true
  | f :: _ => f.On
theorem step_on (c : Api_Core) (k : Int) (h : (stepF c k).2 = 0) (ho : c.On = c.Kept.isEmpty) (hb : bottom c.Kept = true) : (stepF c k).1.On = (stepF c k).1.Kept.isEmpty ∧ bottom (stepF c k).1.Kept = true := by
  have hr := (step_right c k h).2
  have hd := stepF_depth c k h
  unfold stepF at h ⊢
  split at h; · simp at h
  split at h; · simp at h
  split at h; · simp at h
  split at h; · simp at h
  split at h; · simp at h
  split at h; · simp at h
  rename_i h1 h2 h3 h4 h5 h6
  rw [if_neg h1, if_neg h2, if_neg h3, if_neg h4, if_neg h5, if_neg h6]
  by_cases hk : k = 1 ∨ k = 3
  · rw [if_pos hk]
    cases hc : c.Kept with
    | nil => rw [hc] at ho; simp [bottom, ho]
    | cons f fs => rw [hc] at hb; simp [bottom] at hb ⊢; exact hb
  · rw [if_neg hk]
    have hpos : 0 < c.Kept.length := by omega
    have hf : frOk true c.Kept = true := by rw [rightB_eq] at hr; simp only [Bool.and_eq_true] at hr; exact hr.1.2
    match hc : c.Kept with
    | [] => rw [hc] at hpos; simp at hpos
    | [f] => rw [hc] at hb; simp [bottom] at hb ⊢; exact hb
    | f :: g :: fs =>
      rw [hc] at hb hf
      have hl := frOk_late (f :: g :: fs) true (fs.length + 1) hf (by omega)
      simp only [List.length_cons, Nat.add_sub_cancel]
      rw [hl]
      simp [bottom] at hb ⊢
      exact hb
theorem even_l1 (ks : List Int) (r4 : List Int × Api_Core) (hn : ks.length ≤ 140737488355328) : ∀ n k (c : Api_Core) (d : Int), k ≤ ks.length → ks.length - k < n → r4.1.length = ks.length →
    r4.1.drop k = (playF c (ks.drop k)).1 → r4.2 = (playF c (ks.drop k)).2 → d = c.Kept.length → c.Kept.length ≤ 400 → (rightB c = true) → (c.On = c.Kept.isEmpty) → bottom c.Kept = true → keep_NestEven_l1 ks true r4 n d k = some true := by
  intro n
  induction n with
  | zero => intro k c d hk h; omega
  | succ n ih =>
    intro k c d hk h hl hp hq hd hc hr hon hb
    unfold keep_NestEven_l1
    rcases Nat.lt_or_ge k ks.length with hlt | hge
    · have hlt2 : k < r4.1.length := by omega
      rw [dec_lt hlt, cond_true, if_pos (fun _ => idx_ok hlt2), getD_lt _ _ hlt, dec_lt hlt2]
      have hp' := hp
      rw [List.drop_eq_getElem_cons hlt] at hp' hq
      rw [List.drop_eq_getElem_cons hlt2] at hp'
      simp only [playF, List.cons.injEq] at hp' hq
      obtain ⟨e1, e2⟩ := hp'
      have e0 : r4.1.getD (0 + k) 0 = (stepF c ks[k]).2 := by rw [Nat.zero_add, getD_lt _ _ hlt2, e1]
      rw [e0]
      by_cases hz : (stepF c ks[k]).2 = 0
      · rw [if_pos hz] at e2 hq
        have hs := stepF_depth c ks[k] hz
        have hr' := (step_right c ks[k] hz).1
        have hl' := stepF_len c ks[k] hc
        have ho' := step_on c ks[k] hz hon hb
        simp only [hz, beq_self_eq_true, Bool.and_self, cond_true, Bool.cond_eq_ite, beq_iff_eq, Bool.or_eq_true, if_true]
        rcases hs with ⟨hk1, hs⟩ | ⟨hk3, ho, hs⟩ | ⟨hk1, hk3, hp, hs⟩
        · rw [if_pos (.inl hk1)]
          exact ih _ _ _ (by omega) (by omega) hl e2 hq (by rw [wrap_id (by omega) (by omega)]; omega) hl' hr' ho'.1 ho'.2
        · rw [if_pos (.inr hk3)]
          exact ih _ _ _ (by omega) (by omega) hl e2 hq (by rw [wrap_id (by omega) (by omega)]; omega) hl' hr' ho'.1 ho'.2
        · rw [if_neg (by omega)]
          exact ih _ _ _ (by omega) (by omega) hl e2 hq (by rw [wrap_id (by omega) (by omega)]; omega) hl' hr' ho'.1 ho'.2
      · rw [if_neg hz] at e2 hq
        have : ((stepF c ks[k]).2 == 0) = false := by simpa using hz
        rw [this]
        exact ih _ c _ (by omega) (by omega) hl e2 hq hd hc hr hon hb
    · rw [dec_ge hge, cond_false]
      rw [List.drop_of_length_le hge] at hq
      simp only [playF] at hq
      rw [hq, nest_Right_eq _ (by simp only; omega)]
      have e : (⟨c.On, c.Kept⟩ : Api_Core) = c := rfl
      rw [e, hr, hd, hon]
      have : (c.Kept.isEmpty == (((c.Kept.length : Nat) : Int) == 0)) = true := by
        cases c.Kept with
        | nil => rfl
        | cons a l => simp; omega
      simp [this]
theorem NestEven_true (ks : List Int) (h : ks.length * 8 ≤ 140737488351232 ∧ ∀ y ∈ ks, (-9223372036854775808 ≤ y ∧ y ≤ 9223372036854775807)) : keep_NestEven ks = some true := by
  have hn := h.1
  unfold keep_NestEven
  rw [alive7_eq, Option.bind_some, nest_Play_eq _ (by omega), Option.bind_some]
  simp only [Bool.not_true, cond_false]
  exact even_l1 ks _ (by omega) _ _ ⟨true, []⟩ _ (by omega) (by unfold FUEL; omega) (playF_len _ _) rfl rfl rfl (by simp) (by decide) rfl rfl
end Go.Proofs.Ytegafdnfcijemaa
