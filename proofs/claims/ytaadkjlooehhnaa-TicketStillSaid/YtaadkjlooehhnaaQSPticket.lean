/- Plain laws of ticket. -/
import Derived.Test.YtaadkjlooehhnaaQSM
import Derived.Test.YtaadkjlooehhnaaPLib
import Derived.Test.YtaadkjlooehhnaaQSK
set_option linter.unusedSimpArgs false
set_option linter.unusedVariables false
namespace Go.Proofs.Ytaadkjlooehhnaa
open Go Go.Ab

theorem alive6_eq : keep_alive6 = some true := by decide +kernel

abbrev L := Api_Lock
theorem upd_same {α : Type} (f : Nat → α) (d : Nat) (v : α) : upd f d v d = v := by simp [upd]
theorem upd_other {α : Type} (f : Nat → α) {d t : Nat} (v : α) (h : t ≠ d) : upd f d v t = f t := by simp [upd, h]

def okC (l : L) (c : Nat) : Prop := (l.Mine c = -1 ∧ l.In c = false) ∨ (l.Mine c ≠ -1 ∧ l.Now ≤ l.Mine c ∧ l.Mine c < l.Next ∧ (∀ d, d < c → l.Mine d ≠ l.Mine c) ∧ (l.In c = true → l.Mine c = l.Now))
def bnd (l : L) : Prop := 0 ≤ l.Now ∧ l.Now ≤ l.Next ∧ l.Next - l.Now ≤ 8 ∧ l.Next ≤ 1099511627776
structure RightP (l : L) : Prop where
  b : bnd l
  ok : ∀ c, c < 8 → okC l c
  all : ∀ t, l.Now ≤ t → t < l.Next → ∃ c, c < 8 ∧ l.Mine c = t

theorem right_l2_eq (o : List Bool) (hb : o.length ≤ 8) : ∀ n k, k ≤ o.length → o.length - k < n → ∃ b, ticket_Right_l2 o n k = some b ∧ (b = true ↔ ∀ i (h : i < o.length), k ≤ i → o[i] = true) := by
  intro n
  induction n with
  | zero => intro k h1 h2; omega
  | succ n ih =>
    intro k h1 h2
    unfold ticket_Right_l2
    rcases Nat.lt_or_ge k o.length with hlt | hge
    · rw [dec_lt hlt, cond_true, Nat.zero_add, getD_lt _ _ hlt]
      cases hx : o[k] with
      | false =>
        refine ⟨false, rfl, ?_⟩
        constructor
        · intro h; cases h
        · intro h; have := h k hlt (Nat.le_refl _); rw [hx] at this; cases this
      | true =>
        obtain ⟨b, hb1, hb2⟩ := ih (k + 1) (by omega) (by omega)
        refine ⟨b, hb1, hb2.trans ?_⟩
        constructor
        · intro h i hi hki
          by_cases e : i = k
          · subst e; exact hx
          · exact h i hi (by omega)
        · intro h i hi hki; exact h i hi (by omega)
    · rw [dec_ge hge, cond_false]
      exact ⟨true, rfl, by simp; intro i hi h; omega⟩

theorem right_l1_eq (l : L) (hb : bnd l) (hm : ∀ c, c < 8 → -9223372036854775808 ≤ l.Mine c ∧ l.Mine c ≤ 9223372036854775807) : ∀ j n k (o : List Bool), k + j = 8 → j < n → o.length = (l.Next - l.Now).toNat →
    (∀ i (h : i < o.length), o[i] = true ↔ ∃ c, c < k ∧ l.Mine c = l.Now + i) → (∀ c, c < k → okC l c) →
    ∃ b, ticket_Right_l1 l n k o = some b ∧ (b = true ↔ (∀ c, k ≤ c → c < 8 → okC l c) ∧ ∀ t, l.Now ≤ t → t < l.Next → ∃ c, c < 8 ∧ l.Mine c = t) := by
  intro j
  induction j with
  | zero =>
    intro n k o hk hn ho hmark hok
    obtain rfl : k = 8 := by omega
    obtain _ | n := n
    · omega
    · unfold ticket_Right_l1
      have : decide ((((8 : Nat) : Int) : Int) < 8) = false := by decide
      rw [this, cond_false]
      obtain ⟨b1, b2, b3, b4⟩ := hb
      obtain ⟨b, h1, h2⟩ := right_l2_eq o (by omega) FUEL 0 (by omega) (fuel_gt (by omega))
      refine ⟨b, h1, h2.trans ?_⟩
      constructor
      · intro h
        refine ⟨fun c hc hc' => by omega, fun t ht ht' => ?_⟩
        have hi : (t - l.Now).toNat < o.length := by omega
        obtain ⟨c, hc, he⟩ := (hmark _ hi).1 (h _ hi (by omega))
        exact ⟨c, hc, by omega⟩
      · rintro ⟨_, h⟩ i hi _
        obtain ⟨c, hc, he⟩ := h (l.Now + i) (by omega) (by omega)
        exact (hmark i hi).2 ⟨c, hc, he⟩
  | succ j ih =>
    intro n k o hk hn ho hmark hok
    obtain _ | n := n
    · omega
    · unfold ticket_Right_l1
      have hk8 : k < 8 := by omega
      have hd : decide ((((k : Nat) : Int) : Int) < 8) = true := by simp; omega
      have hi8 : 0 ≤ (((k : Nat) : Int) : Int) ∧ ((k : Nat) : Int) < ((8 : Nat) : Int) := by omega
      rw [hd, cond_true, if_pos hi8]
      have hmk := hm k hk8
      have hbb := hb
      obtain ⟨b1, b2, b3, b4⟩ := hb
      have fail : ¬ okC l k → ∃ b, (some false : Option Bool) = some b ∧ (b = true ↔ (∀ c, k ≤ c → c < 8 → okC l c) ∧ ∀ t, l.Now ≤ t → t < l.Next → ∃ c, c < 8 ∧ l.Mine c = t) := fun hno =>
        ⟨false, rfl, ⟨fun h => (by cases h), fun h => absurd (h.1 k (Nat.le_refl _) hk8) hno⟩⟩
      have next : okC l k → ∀ o' : List Bool, o'.length = o.length → (∀ i (h : i < o'.length), o'[i] = true ↔ ∃ c, c < k + 1 ∧ l.Mine c = l.Now + i) →
          ∃ b, ticket_Right_l1 l n (k + 1) o' = some b ∧ (b = true ↔ (∀ c, k ≤ c → c < 8 → okC l c) ∧ ∀ t, l.Now ≤ t → t < l.Next → ∃ c, c < 8 ∧ l.Mine c = t) := by
        intro hokk o' hlen hmark'
        obtain ⟨b, h1, h2⟩ := ih n (k + 1) o' (by omega) (by omega) (by omega) hmark' (fun c hc => by
          by_cases e : c = k
          · subst e; exact hokk
          · exact hok c (by omega))
        refine ⟨b, h1, h2.trans (and_congr_left' ?_)⟩
        constructor
        · intro h c hc hc'
          by_cases e : c = k
          · subst e; exact hokk
          · exact h c (by omega) hc'
        · intro h c hc hc'; exact h c (by omega) hc'
      by_cases hm1 : l.Mine k = -1
      · have : ((l.Mine k : Int) == (-1)) = true := by simpa using hm1
        rw [this, cond_true, if_pos hi8]
        cases hin : l.In k with
        | true =>
          apply fail
          rintro (⟨_, h⟩ | ⟨h, _⟩)
          · rw [hin] at h; cases h
          · exact h hm1
        | false =>
          rw [cond_false]
          refine next (.inl ⟨hm1, hin⟩) o rfl fun i hi => (hmark i hi).trans ?_
          constructor
          · rintro ⟨c, hc, he⟩; exact ⟨c, by omega, he⟩
          · rintro ⟨c, hc, he⟩
            refine ⟨c, ?_, he⟩
            have : c ≠ k := by rintro rfl; omega
            omega
      · have : ((l.Mine k : Int) == (-1)) = false := by simpa using hm1
        rw [this, cond_false]
        by_cases hr : l.Now ≤ l.Mine k ∧ l.Mine k < l.Next
        · have hw : IntKind.i64.wrap (l.Mine k - l.Now) = l.Mine k - l.Now := wrap_id (by omega) (by omega)
          have hlen : (l.Mine k - l.Now).toNat < o.length := by omega
          have hi2 : 0 ≤ l.Mine k - l.Now ∧ l.Mine k - l.Now < ((o.length : Nat) : Int) := by omega
          have d1 : decide ((l.Mine k : Int) < l.Now) = false := by simp; omega
          have d2 : decide ((l.Mine k : Int) ≥ l.Next) = false := by simp; omega
          rw [hw, d1, d2, if_pos (fun _ => hi2), if_pos (fun _ => hi8)]
          simp only [Bool.or_self, Bool.false_or, Nat.zero_add, getD_lt _ _ hlen]
          have hmk' := hmark _ hlen
          cases ho' : o[(l.Mine k - l.Now).toNat] with
          | true =>
            obtain ⟨c, hc, he⟩ := hmk'.1 ho'
            clear hmk'
            rw [Bool.true_or, cond_true]
            apply fail
            rintro (⟨h, _⟩ | ⟨_, _, _, h, _⟩)
            · exact hm1 h
            · exact h c hc (by omega)
          | false =>
            rw [Bool.false_or]
            have hno0 : ∀ c, c < k → l.Mine c = l.Now + ((l.Mine k - l.Now).toNat : Int) → False := by
              intro c hc he
              have := hmk'.2 ⟨c, hc, he⟩
              rw [ho'] at this; cases this
            clear hmk'
            have hno : ∀ c, c < k → l.Mine c ≠ l.Mine k := fun c hc he => hno0 c hc (by omega)
            by_cases hin : l.In k = true ∧ l.Mine k ≠ l.Now
            · have : (l.In k && ((l.Mine k : Int) != l.Now)) = true := by simpa using hin
              rw [this, cond_true]
              apply fail
              rintro (⟨h, _⟩ | ⟨_, _, _, _, h⟩)
              · exact hm1 h
              · exact hin.2 (h hin.1)
            · have : (l.In k && ((l.Mine k : Int) != l.Now)) = false := by
                cases h1 : l.In k with
                | false => rfl
                | true =>
                  have : l.Mine k = l.Now := Decidable.byContradiction fun h => hin ⟨h1, h⟩
                  simp [this]
              rw [this, cond_false, if_pos hi2]
              refine next (.inr ⟨hm1, hr.1, hr.2, hno, fun h => Decidable.byContradiction fun h' => hin ⟨h, h'⟩⟩) _ (by simp) fun i hi => ?_
              rw [List.getElem_set]
              split
              · rename_i e
                simp only [true_iff]
                exact ⟨k, by omega, by omega⟩
              · rename_i e
                rw [hmark i (by simpa using hi)]
                constructor
                · rintro ⟨c, hc, he⟩; exact ⟨c, by omega, he⟩
                · rintro ⟨c, hc, he⟩
                  refine ⟨c, ?_, he⟩
                  have : c ≠ k := by rintro rfl; omega
                  omega
        · have hor : (decide ((l.Mine k : Int) < l.Now) || decide ((l.Mine k : Int) ≥ l.Next)) = true := by simp; omega
          rw [hor]
          simp only [Bool.not_true, Bool.false_eq_true, false_implies, if_true, Bool.true_or, cond_true]
          apply fail
          rintro (⟨h, _⟩ | ⟨_, h1, h2, _⟩)
          · exact hm1 h
          · exact hr ⟨h1, h2⟩

def fits (l : L) : Prop := (-9223372036854775808 ≤ l.Next ∧ l.Next ≤ 9223372036854775807) ∧ (-9223372036854775808 ≤ l.Now ∧ l.Now ≤ 9223372036854775807) ∧ ∀ c, c < 8 → -9223372036854775808 ≤ l.Mine c ∧ l.Mine c ≤ 9223372036854775807

theorem Right_eq (l : L) (hf : fits l) : ∃ b, ticket_Right l = some b ∧ (b = true ↔ RightP l) := by
  unfold ticket_Right
  obtain ⟨⟨f1, f2⟩, ⟨f3, f4⟩, f5⟩ := hf
  by_cases hb : bnd l
  · have hbb := hb
    obtain ⟨b1, b2, b3, b4⟩ := hb
    have hw : IntKind.i64.wrap (l.Next - l.Now) = l.Next - l.Now := wrap_id (by omega) (by omega)
    rw [hw]
    have : (decide ((l.Now : Int) < 0) || decide ((l.Next : Int) < l.Now) || decide ((l.Next - l.Now : Int) > 8) || decide ((l.Next : Int) > 1099511627776)) = false := by simp; omega
    rw [this, cond_false, if_pos (by omega)]
    obtain ⟨b, h1, h2⟩ := right_l1_eq l hbb f5 8 FUEL 0 (List.replicate (l.Next - l.Now).toNat false) rfl (by unfold FUEL; omega) (by simp) (fun i hi => by simp) (fun c hc => by omega)
    refine ⟨b, h1, h2.trans ?_⟩
    constructor
    · rintro ⟨h3, h4⟩; exact ⟨hbb, fun c hc => h3 c (by omega) hc, h4⟩
    · intro h; exact ⟨fun c _ hc => h.ok c hc, h.all⟩
  · have : (decide ((l.Now : Int) < 0) || decide ((l.Next : Int) < l.Now) || decide ((IntKind.i64.wrap (l.Next - l.Now) : Int) > 8) || decide ((l.Next : Int) > 1099511627776)) = true := by
      rw [← Bool.not_eq_false]
      intro h
      apply hb
      simp only [Bool.or_eq_false_iff, decide_eq_false_iff_not] at h
      obtain ⟨⟨⟨h1, h2⟩, h3⟩, h4⟩ := h
      rw [wrap_id (by omega) (by omega)] at h3
      exact ⟨by omega, by omega, by omega, by omega⟩
    rw [this, cond_true]
    exact ⟨false, rfl, ⟨fun h => (by cases h), fun h => absurd h.b hb⟩⟩

theorem RightP.fits {l : L} (h : RightP l) : fits l := by
  obtain ⟨b1, b2, b3, b4⟩ := h.b
  refine ⟨by omega, by omega, fun c hc => ?_⟩
  rcases h.ok c hc with ⟨h1, _⟩ | ⟨_, h1, h2, _⟩ <;> omega
theorem Right_true {l : L} (h : RightP l) : ticket_Right l = some true := by
  obtain ⟨b, h1, h2⟩ := Right_eq l h.fits
  rw [h1, h2.2 h]

theorem RightP.inj {l : L} (h : RightP l) {c d : Nat} (hc : c < 8) (hd : d < 8) (hm : l.Mine c ≠ -1) (he : l.Mine c = l.Mine d) : c = d := by
  rcases Nat.lt_trichotomy c d with hlt | heq | hgt
  · rcases h.ok d hd with ⟨h1, _⟩ | ⟨_, _, _, h1, _⟩
    · rw [he] at hm; exact absurd h1 hm
    · exact absurd he (h1 c hlt)
  · exact heq
  · rcases h.ok c hc with ⟨h1, _⟩ | ⟨_, _, _, h1, _⟩
    · exact absurd h1 hm
    · exact absurd he.symm (h1 d hgt)
theorem RightP.inNow {l : L} (h : RightP l) {c : Nat} (hc : c < 8) (hi : l.In c = true) : l.Mine c = l.Now ∧ l.Mine c ≠ -1 ∧ l.Now < l.Next := by
  rcases h.ok c hc with ⟨_, h1⟩ | ⟨h0, _, h2, _, h1⟩
  · rw [hi] at h1; cases h1
  · have := h1 hi; exact ⟨this, h0, by omega⟩
theorem RightP.mineNeg {l : L} (h : RightP l) {c : Nat} (hc : c < 8) (hi : l.Mine c < 0) : l.Mine c = -1 ∧ l.In c = false := by
  rcases h.ok c hc with h1 | ⟨_, h1, _⟩
  · exact h1
  · have := h.b.1; omega
theorem RightP.mk' {l : L} (hb : bnd l) (h : ∀ c, c < 8 → (l.Mine c = -1 ∧ l.In c = false) ∨ (l.Mine c ≠ -1 ∧ l.Now ≤ l.Mine c ∧ l.Mine c < l.Next ∧ (l.In c = true → l.Mine c = l.Now)))
    (hinj : ∀ c d, c < 8 → d < 8 → c ≠ d → l.Mine c ≠ -1 → l.Mine d ≠ l.Mine c) (hall : ∀ t, l.Now ≤ t → t < l.Next → ∃ c, c < 8 ∧ l.Mine c = t) : RightP l :=
  ⟨hb, fun c hc => (h c hc).imp id fun ⟨h1, h2, h3, h4⟩ => ⟨h1, h2, h3, fun d hd => hinj c d hc (by omega) (by omega) h1, h4⟩, hall⟩

theorem pigeon : ∀ (m n : Nat) (f : Nat → Nat), (∀ i, i < n → f i < m) → (∀ i j, i < n → j < n → f i = f j → i = j) → n ≤ m
  | 0, n, f, h, _ => by
    obtain _ | n := n
    · exact Nat.le_refl _
    · have := h 0 (by omega); omega
  | m + 1, n, f, h, hi => by
    obtain _ | n := n
    · omega
    · have := pigeon m n (fun i => if f i = m then f n else f i) (fun i hin => by
        have h1 := h i (by omega)
        have h2 := h n (by omega)
        try simp only
        split
        · rename_i e
          have : f n ≠ m := fun e' => by have := hi i n (by omega) (by omega) (by omega); omega
          omega
        · omega) (fun i j hin hjn he => by
        try simp only at he
        split at he <;> split at he
        · exact hi i j (by omega) (by omega) (by omega)
        · have := hi n j (by omega) (by omega) he; omega
        · have := hi i n (by omega) (by omega) he; omega
        · exact hi i j (by omega) (by omega) he)
      omega

/-- Who has no ticket leaves room for one. -/
theorem RightP.room {l : L} (h : RightP l) {c : Nat} (hc : c < 8) (hm : l.Mine c = -1) : l.Next - l.Now ≤ 7 := by
  obtain ⟨b1, b2, b3, b4⟩ := h.b
  have ex : ∀ i : Nat, ∃ d, i < (l.Next - l.Now).toNat → d < 8 ∧ l.Mine d = l.Now + i := by
    intro i
    by_cases hi : i < (l.Next - l.Now).toNat
    · obtain ⟨d, hd⟩ := h.all (l.Now + i) (by omega) (by omega)
      exact ⟨d, fun _ => hd⟩
    · exact ⟨0, fun h => absurd h hi⟩
  obtain ⟨F, hF⟩ : ∃ F : Nat → Nat, ∀ i, i < (l.Next - l.Now).toNat → F i < 8 ∧ l.Mine (F i) = l.Now + i := ⟨fun i => Classical.choose (ex i), fun i hi => Classical.choose_spec (ex i) hi⟩
  have := pigeon 7 (l.Next - l.Now).toNat (fun i => if F i = 7 then c else F i) (fun i hi => by
    obtain ⟨h1, h2⟩ := hF i hi
    have hne : F i ≠ c := fun e => by rw [e] at h2; omega
    try simp only
    split <;> omega) (fun i j hi hj he => by
    obtain ⟨h1, h2⟩ := hF i hi
    obtain ⟨h3, h4⟩ := hF j hj
    have hne : F i ≠ c := fun e => by rw [e] at h2; omega
    have hne' : F j ≠ c := fun e => by rw [e] at h4; omega
    have : F i = F j := by
      try simp only at he
      split at he <;> split at he <;> omega
    rw [this] at h2; omega)
  omega

/-- One thing done, where it is done. -/
def stepL (l : L) (k : Int) (c : Nat) : L :=
  if k = 1 then ⟨l.Next + 1, l.Now, upd l.Mine c l.Next, l.In⟩
  else if k = 2 then ⟨l.Next, l.Now, l.Mine, upd l.In c (l.Mine c == l.Now)⟩
  else ⟨l.Next, l.Now + 1, upd l.Mine c (-1), upd l.In c false⟩
/-- Whether it is done. -/
def can (l : L) (k : Int) (c : Nat) : Prop := (k = 1 ∧ l.Mine c < 0 ∧ l.Next ≠ 1099511627776) ∨ (k = 2 ∧ 0 ≤ l.Mine c) ∨ (k = 3 ∧ l.In c = true)
def LZ : L := ⟨0, 0, fun _ => 0, fun _ => false⟩

theorem Step_eq (l : L) (hf : fits l) (o : Api_LockOp) : (∃ e, e ≠ 0 ∧ ticket_Step l o = some (LZ, false, e) ∧ (RightP l → 0 ≤ o.Core → o.Core < 8 → ¬ can l o.Kind o.Core.toNat)) ∨
    (RightP l ∧ 0 ≤ o.Core ∧ o.Core < 8 ∧ can l o.Kind o.Core.toNat ∧ ticket_Step l o = some (stepL l o.Kind o.Core.toNat, (stepL l o.Kind o.Core.toNat).In o.Core.toNat, 0)) := by
  unfold ticket_Step
  obtain ⟨b, hb1, hb2⟩ := Right_eq l hf
  rw [hb1, Option.bind_some]
  cases b with
  | false => exact .inl ⟨1, by decide, rfl, fun h => by have := hb2.2 h; cases this⟩
  | true =>
    have hr := hb2.1 rfl
    rw [Bool.not_true, cond_false]
    by_cases hk : o.Kind < 1 ∨ o.Kind > 3
    · have : (decide (o.Kind < 1) || decide (o.Kind > 3)) = true := by simpa using hk
      rw [this]
      exact .inl ⟨5, by decide, rfl, fun _ _ _ hc => by unfold can at hc; omega⟩
    have e1 : (decide (o.Kind < 1) || decide (o.Kind > 3)) = false := by simp at hk ⊢; omega
    rw [e1, cond_false]
    by_cases hc : o.Core < 0 ∨ o.Core ≥ 8
    · have : (decide (o.Core < 0) || decide (o.Core ≥ 8)) = true := by simpa using hc
      rw [this]
      exact .inl ⟨2, by decide, rfl, fun _ h1 h2 => by omega⟩
    have e2 : (decide (o.Core < 0) || decide (o.Core ≥ 8)) = false := by simp at hc ⊢; omega
    have hi : 0 ≤ o.Core ∧ o.Core < ((8 : Nat) : Int) := by omega
    rw [e2, cond_false, if_pos hi, if_pos hi]
    have hc8 : o.Core.toNat < 8 := by omega
    obtain ⟨b1, b2, b3, b4⟩ := hr.b
    generalize o.Core.toNat = c at *
    by_cases h1 : o.Kind = 1
    · have k1 : ((o.Kind : Int) == 1) = true := by simpa using h1
      rw [k1, cond_true]
      by_cases hm : l.Mine c ≥ 0
      · have : decide ((l.Mine c : Int) ≥ 0) = true := by simpa using hm
        rw [this]
        exact .inl ⟨6, by decide, rfl, fun _ _ _ hc => by unfold can at hc; omega⟩
      · have : decide ((l.Mine c : Int) ≥ 0) = false := by simpa using hm
        rw [this, cond_false]
        by_cases hn : l.Next = 1099511627776
        · have : ((l.Next : Int) == 1099511627776) = true := by simpa using hn
          rw [this]
          exact .inl ⟨4, by decide, rfl, fun _ _ _ hc => by unfold can at hc; omega⟩
        · have : ((l.Next : Int) == 1099511627776) = false := by simpa using hn
          rw [this, cond_false, wrap_id (by omega) (by omega)]
          exact .inr ⟨hr, by omega, by omega, .inl ⟨h1, by omega, hn⟩, by simp [stepL, h1]⟩
    · have k1 : ((o.Kind : Int) == 1) = false := by simpa using h1
      rw [k1, cond_false]
      by_cases h2 : o.Kind = 2
      · have k2 : ((o.Kind : Int) == 2) = true := by simpa using h2
        rw [k2, cond_true]
        by_cases hm : l.Mine c < 0
        · have : decide ((l.Mine c : Int) < 0) = true := by simpa using hm
          rw [this]
          exact .inl ⟨3, by decide, rfl, fun _ _ _ hc => by unfold can at hc; omega⟩
        · have : decide ((l.Mine c : Int) < 0) = false := by simpa using hm
          rw [this, cond_false]
          exact .inr ⟨hr, by omega, by omega, .inr (.inl ⟨h2, by omega⟩), by simp [stepL, h2]⟩
      · have h3 : o.Kind = 3 := by omega
        have k2 : ((o.Kind : Int) == 2) = false := by simpa using h2
        have k3 : ((o.Kind : Int) == 3) = true := by simpa using h3
        rw [k2, cond_false, k3, cond_true]
        cases hin : l.In c with
        | false =>
          exact .inl ⟨3, by decide, rfl, fun _ _ _ hc => by
            rcases hc with hc | hc | hc
            · omega
            · omega
            · rw [hin] at hc; cases hc.2⟩
        | true =>
          rw [Bool.not_true, cond_false, wrap_id (by omega) (by omega)]
          exact .inr ⟨hr, by omega, by omega, .inr (.inr ⟨h3, hin⟩), by simp [stepL, h3]⟩

theorem RightP.step {l : L} (h : RightP l) {k : Int} {c : Nat} (hc : c < 8) (hcan : can l k c) : RightP (stepL l k c) := by
  obtain ⟨b1, b2, b3, b4⟩ := h.b
  rcases hcan with ⟨rfl, hm, hn⟩ | ⟨rfl, hm⟩ | ⟨rfl, hin⟩
  · obtain ⟨hm1, hin⟩ := h.mineNeg hc hm
    have hroom := h.room hc hm1
    have e : stepL l 1 c = ⟨l.Next + 1, l.Now, upd l.Mine c l.Next, l.In⟩ := by simp [stepL]
    rw [e]
    apply RightP.mk'
    · exact ⟨b1, by simp only; omega, by simp only; omega, by simp only; omega⟩
    · intro d hd
      by_cases hdc : d = c
      · subst hdc
        right
        simp only [upd_same]
        exact ⟨by omega, by omega, by omega, fun hi => by rw [hin] at hi; cases hi⟩
      · simp only [upd_other _ _ hdc]
        rcases h.ok d hd with h1 | ⟨h1, h2, h3, _, h4⟩
        · exact .inl h1
        · exact .inr ⟨h1, h2, by omega, h4⟩
    · intro d d' hd hd' hne hm
      simp only at hm ⊢
      by_cases hdc : d = c
      · subst hdc
        rw [upd_same, upd_other _ _ (Ne.symm hne)]
        rcases h.ok d' hd' with ⟨h1, _⟩ | ⟨h1, h2, h3, _⟩ <;> omega
      · rw [upd_other _ _ hdc] at hm ⊢
        by_cases hdc' : d' = c
        · subst hdc'
          rw [upd_same]
          rcases h.ok d hd with ⟨h1, _⟩ | ⟨h1, h2, h3, _⟩ <;> omega
        · rw [upd_other _ _ hdc']
          intro he
          exact hne (h.inj hd hd' hm he.symm)
    · intro t ht ht'
      simp only at ht ht'
      by_cases htn : t = l.Next
      · exact ⟨c, hc, by simp only [upd_same]; exact htn.symm⟩
      · obtain ⟨d, hd, he⟩ := h.all t ht (by omega)
        refine ⟨d, hd, ?_⟩
        have : d ≠ c := by rintro rfl; omega
        simp only [upd_other _ _ this]
        exact he
  · have e : stepL l 2 c = ⟨l.Next, l.Now, l.Mine, upd l.In c (l.Mine c == l.Now)⟩ := by simp [stepL]
    rw [e]
    apply RightP.mk'
    · exact h.b
    · intro d hd
      simp only
      rcases h.ok d hd with ⟨h1, h2⟩ | ⟨h1, h2, h3, _, h4⟩
      · left
        refine ⟨h1, ?_⟩
        have : d ≠ c := by rintro rfl; omega
        rw [upd_other _ _ this]; exact h2
      · right
        refine ⟨h1, h2, h3, ?_⟩
        by_cases hdc : d = c
        · subst hdc
          rw [upd_same]; intro hh; simpa using hh
        · rw [upd_other _ _ hdc]; exact h4
    · intro d d' hd hd' hne hm he
      exact hne (h.inj hd hd' hm he.symm)
    · exact h.all
  · obtain ⟨hmn, hm1, hlt⟩ := h.inNow hc hin
    have e : stepL l 3 c = ⟨l.Next, l.Now + 1, upd l.Mine c (-1), upd l.In c false⟩ := by simp [stepL]
    rw [e]
    apply RightP.mk'
    · exact ⟨by simp only; omega, by simp only; omega, by simp only; omega, b4⟩
    · intro d hd
      simp only
      by_cases hdc : d = c
      · subst hdc
        left
        rw [upd_same, upd_same]; exact ⟨rfl, rfl⟩
      · rw [upd_other _ _ hdc, upd_other _ _ hdc]
        rcases h.ok d hd with h1 | ⟨h1, h2, h3, _, h4⟩
        · exact .inl h1
        · right
          have hne : l.Mine d ≠ l.Now := fun he => hdc (h.inj hd hc h1 (by omega))
          exact ⟨h1, by omega, h3, fun hi => absurd (h4 hi) hne⟩
    · intro d d' hd hd' hne hm
      simp only at hm ⊢
      by_cases hdc : d = c
      · subst hdc; rw [upd_same] at hm; exact absurd rfl hm
      · rw [upd_other _ _ hdc] at hm ⊢
        by_cases hdc' : d' = c
        · subst hdc'; rw [upd_same]; exact hm.symm
        · rw [upd_other _ _ hdc']
          intro he
          exact hne (h.inj hd hd' hm he.symm)
    · intro t ht ht'
      simp only at ht ht'
      obtain ⟨d, hd, he⟩ := h.all t (by omega) ht'
      refine ⟨d, hd, ?_⟩
      have : d ≠ c := by rintro rfl; omega
      simp only [upd_other _ _ this]
      exact he

/-- How many are in. -/
def cntP (f : Nat → Bool) : Nat → Nat → Nat
  | k, 0 => 0
  | k, j + 1 => (if f k then 1 else 0) + cntP f (k + 1) j
theorem cntP_one (f : Nat → Bool) : ∀ j k, (∀ c d, k ≤ c → c < k + j → k ≤ d → d < k + j → f c = true → f d = true → c = d) → cntP f k j ≤ 1
  | 0, k, h => Nat.zero_le _
  | j + 1, k, h => by
    have ih := cntP_one f j (k + 1) (fun c d h1 h2 h3 h4 => h c d (by omega) (by omega) (by omega) (by omega))
    have ec : cntP f k (j + 1) = (if f k then 1 else 0) + cntP f (k + 1) j := rfl
    rw [ec]
    by_cases hk : f k = true
    · have hz : ∀ j' k', k < k' → k' + j' = k + 1 + j → cntP f k' j' = 0 := by
        intro j'
        induction j' with
        | zero => intro k' _ _; rfl
        | succ j' ih' =>
          intro k' h1 h2
          have ec' : cntP f k' (j' + 1) = (if f k' then 1 else 0) + cntP f (k' + 1) j' := rfl
          rw [ec', ih' (k' + 1) (by omega) (by omega)]
          have : f k' ≠ true := fun hf => by
            have := h k k' (by omega) (by omega) (by omega) (by omega) hk hf
            omega
          simp [this]
      rw [hz j (k + 1) (by omega) rfl]
      split <;> omega
    · simp [hk]; exact ih

theorem fits_of {l : L} (h : Ok_Api_Lock l) : fits l := ⟨h.1, h.2.1, h.2.2.1⟩

theorem TicketStill_true (a0 : L) (a1 : Int) (h0 : Ok_Api_Lock a0) (h1 : -9223372036854775808 ≤ a1 ∧ a1 ≤ 9223372036854775807) : keep_TicketStill a0 a1 = some true := by
  unfold keep_TicketStill
  rw [alive6_eq, Option.bind_some, Bool.not_true, cond_false]
  rcases Step_eq a0 (fits_of h0) ⟨2, a1⟩ with ⟨e, he, hs, _⟩ | ⟨hr, c0, c8, hcan, hs⟩
  · have he' : ((e : Int) != 0) = true := by simpa using he
    rw [hs, Option.bind_some, he', cond_true]
  · rw [hs, Option.bind_some]
    simp only [show ((0 : Int) != 0) = false by decide, cond_false] at *
    have hc8 : a1.toNat < 8 := by omega
    have hr' := hr.step hc8 hcan
    generalize ha1 : a1 = a1' at *
    generalize hac : a1'.toNat = c at *
    have e2 : stepL a0 2 c = ⟨a0.Next, a0.Now, a0.Mine, upd a0.In c (a0.Mine c == a0.Now)⟩ := by simp [stepL]
    have hm : 0 ≤ a0.Mine c := by unfold can at hcan; omega
    rw [e2] at hr' ⊢
    have huu : ∀ (f : Nat → Bool) (b : Bool), upd (upd f c b) c b = upd f c b := by
      intro f b; funext d
      by_cases hd : d = c
      · subst hd; rw [upd_same, upd_same]
      · rw [upd_other _ _ hd]
    rcases Step_eq _ hr'.fits ⟨2, a1'⟩ with ⟨e, he, hs2, hno⟩ | ⟨_, _, _, _, hs2⟩
    · exact absurd (.inr (.inl ⟨rfl, by simpa [hac] using hm⟩)) (hno hr' c0 c8)
    · rw [hs2, Option.bind_some]
      simp only [hac, stepL, upd_same, huu, show ¬ ((2 : Int) = 1) by decide, if_false, if_true]
      cases hb : (a0.Mine c == a0.Now) with
      | true => simp
      | false =>
        have hin : a0.In c = false := by
          cases h : a0.In c with
          | false => rfl
          | true =>
            have := (hr.inNow hc8 h).1
            rw [this] at hb; simp at hb
        have hsame : upd a0.In c false = a0.In := by
          funext d
          by_cases hd : d = c
          · subst hd; rw [upd_same, hin]
          · rw [upd_other _ _ hd]
        rw [hsame]
        simp

/-- One thing, done or left. -/
def stp (l : L) (o : Api_LockOp) : L × Bool × Bool := match ticket_Step l o with
  | some (m, i, e) => if e = 0 then (m, i, true) else (l, false, false)
  | none => (l, false, false)
theorem stp_cases {l : L} (h : RightP l) (o : Api_LockOp) : (∃ e m, e ≠ 0 ∧ ticket_Step l o = some (m, false, e) ∧ stp l o = (l, false, false)) ∨
    (0 ≤ o.Core ∧ o.Core < 8 ∧ can l o.Kind o.Core.toNat ∧ RightP (stepL l o.Kind o.Core.toNat) ∧ ticket_Step l o = some (stepL l o.Kind o.Core.toNat, (stepL l o.Kind o.Core.toNat).In o.Core.toNat, 0) ∧ stp l o = (stepL l o.Kind o.Core.toNat, (stepL l o.Kind o.Core.toNat).In o.Core.toNat, true)) := by
  rcases Step_eq l h.fits o with ⟨e, he, hs, _⟩ | ⟨_, c0, c8, hcan, hs⟩
  · exact .inl ⟨e, _, he, hs, by simp [stp, hs, he]⟩
  · exact .inr ⟨c0, c8, hcan, h.step (by omega) hcan, hs, by simp [stp, hs]⟩
def playF : L → List Api_LockOp → List Int × L
  | l, [] => ([], l)
  | l, o :: r => ((if (stp l o).2.2 && ((stp l o).2.1 && !l.In o.Core.toNat) then [o.Core] else []) ++ (playF (stp l o).1 r).1, (playF (stp l o).1 r).2)
def askF : L → List Api_LockOp → List Int
  | l, [] => []
  | l, o :: r => (if (stp l o).2.2 && (o.Kind == 1) then [o.Core] else []) ++ askF (stp l o).1 r
theorem RightP.stp {l : L} (h : RightP l) (o : Api_LockOp) : RightP (stp l o).1 := by
  rcases stp_cases h o with ⟨_, _, _, _, e⟩ | ⟨_, _, _, h', _, e⟩ <;> rw [e]
  · exact h
  · exact h'
theorem RightP.play : ∀ (ops : List Api_LockOp) {l : L}, RightP l → RightP (playF l ops).2
  | [], l, h => h
  | o :: r, l, h => RightP.play r (h.stp o)

def l0 : L := ⟨0, 0, fun c => if c < 8 then -1 else 0, fun _ => false⟩
theorem right0 : RightP l0 := ⟨⟨by decide, by decide, by decide, by decide⟩, fun c hc => .inl ⟨by simp [l0, hc], rfl⟩, fun t h1 h2 => by
  have e1 : l0.Now = 0 := rfl
  have e2 : l0.Next = 0 := rfl
  omega⟩
theorem New_l1_eq : ∀ j n k (f : Nat → Int), k + j = 8 → j < n → ticket_New_l1 n k f = some ⟨0, 0, fun c => if k ≤ c ∧ c < 8 then -1 else f c, fun _ => false⟩ := by
  intro j
  induction j with
  | zero =>
    intro n k f hk hn
    obtain rfl : k = 8 := by omega
    obtain _ | n := n
    · omega
    · unfold ticket_New_l1
      have : decide ((((8 : Nat) : Int) : Int) < 8) = false := by decide
      rw [this, cond_false]
      congr 2
      funext c
      rw [if_neg (by omega)]
  | succ j ih =>
    intro n k f hk hn
    obtain _ | n := n
    · omega
    · unfold ticket_New_l1
      have : decide ((((k : Nat) : Int) : Int) < 8) = true := by simp; omega
      rw [this, cond_true, if_pos (by omega), ih n (k + 1) _ (by omega) (by omega)]
      congr 2
      funext c
      by_cases hc : c = k
      · subst hc
        rw [if_neg (by omega), upd_same, if_pos (by omega)]
      · rw [upd_other _ _ hc]
        by_cases h : k + 1 ≤ c ∧ c < 8
        · rw [if_pos h, if_pos (by omega)]
        · rw [if_neg h, if_neg (by omega)]
theorem New_eq : ticket_New = some l0 := by
  unfold ticket_New
  rw [New_l1_eq 8 FUEL 0 _ rfl (by unfold FUEL; omega)]
  congr 2
  funext c
  simp

theorem Play_l1_eq (ops : List Api_LockOp) (r1 : L) (hn : ops.length * 8 ≤ 140737488355328) : ∀ n k (I : List Int) (l : L), k ≤ ops.length → ops.length - k < n → RightP l → I.length ≤ k →
    ticket_Play_l1 ops r1 n I k l.Mine l.In l.Next l.Now = some (I ++ (playF l (ops.drop k)).1, (playF l (ops.drop k)).2) := by
  intro n
  induction n with
  | zero => intro k I l h1 h2; omega
  | succ n ih =>
    intro k I l h1 h2 hr hI
    unfold ticket_Play_l1
    rcases Nat.lt_or_ge k ops.length with hlt | hge
    · rw [dec_lt hlt, cond_true, List.drop_eq_getElem_cons hlt, getD_lt _ _ hlt]
      generalize ops[k] = o
      change ((ticket_Step l o).bind _) = _
      rcases stp_cases hr o with ⟨e, m, he, hs, hstp⟩ | ⟨c0, c8, hcan, hr', hs, hstp⟩
      · have he' : ((e : Int) != 0) = true := by simpa using he
        rw [hs, Option.bind_some]
        simp only [he', cond_true]
        rw [ih (k + 1) I l (by omega) (by omega) hr (by omega)]
        simp [playF, hstp]
      · rw [hs, Option.bind_some]
        simp only [show ((0 : Int) != 0) = false by decide, cond_false]
        rw [if_pos (fun _ => by omega)]
        cases hc : ((stepL l o.Kind o.Core.toNat).In o.Core.toNat && !l.In o.Core.toNat) with
        | true =>
          rw [cond_true, if_pos (by simp only [List.length_cons, List.length_nil]; omega), ih (k + 1) _ _ (by omega) (by omega) hr' (by simp; omega)]
          simp [playF, hstp, hc]
        | false =>
          rw [cond_false, ih (k + 1) _ _ (by omega) (by omega) hr' (by omega)]
          simp [playF, hstp, hc]
    · rw [dec_ge hge, cond_false, List.drop_of_length_le hge]
      simp [playF]
theorem Play_eq (ops : List Api_LockOp) (hn : ops.length * 8 ≤ 140737488355328) : ticket_Play ops = some (playF l0 ops) := by
  unfold ticket_Play
  rw [New_eq, Option.bind_some, Play_l1_eq ops l0 hn FUEL 0 [] l0 (by omega) (fuel_gt (by omega)) right0 (by simp)]
  simp

/-- Who came in are the first of who asked. -/
structure J (l : L) (A I : List Int) : Prop where
  r : RightP l
  len : (A.length : Int) = l.Next
  own : ∀ c, c < 8 → l.Mine c ≠ -1 → A[(l.Mine c).toNat]? = some (c : Int)
  ins : ∃ t, I = A.take t ∧ (((∃ c, c < 8 ∧ l.In c = true) ∧ (t : Int) = l.Now + 1) ∨ ((∀ c, c < 8 → l.In c = false) ∧ (t : Int) = l.Now))
theorem J.step {l : L} {A I : List Int} (h : J l A I) (o : Api_LockOp) :
    J (Go.Proofs.Ytaadkjlooehhnaa.stp l o).1 (A ++ if (Go.Proofs.Ytaadkjlooehhnaa.stp l o).2.2 && (o.Kind == 1) then [o.Core] else []) (I ++ if (Go.Proofs.Ytaadkjlooehhnaa.stp l o).2.2 && ((Go.Proofs.Ytaadkjlooehhnaa.stp l o).2.1 && !l.In o.Core.toNat) then [o.Core] else []) := by
  rcases stp_cases h.r o with ⟨e, m, he, hs, hstp⟩ | ⟨c0, c8, hcan, hr', hs, hstp⟩
  · rw [hstp]; simpa using h
  · rw [hstp]
    have hc8 : o.Core.toNat < 8 := by omega
    have hcc : ((o.Core.toNat : Nat) : Int) = o.Core := by omega
    obtain ⟨b1, b2, b3, b4⟩ := h.r.b
    obtain ⟨t, hI, ht⟩ := h.ins
    have hlen := h.len
    generalize o.Core.toNat = c at *
    have htl : t ≤ A.length := by
      rcases ht with ⟨⟨d, hd, hi⟩, e⟩ | ⟨_, e⟩
      · have := (h.r.inNow hd hi).2.2; omega
      · omega
    simp only [Bool.true_and]
    rcases hcan with ⟨hk, hm, hn⟩ | ⟨hk, hm⟩ | ⟨hk, hin⟩
    · obtain ⟨hm1, hin⟩ := h.r.mineNeg hc8 hm
      have e : stepL l o.Kind c = ⟨l.Next + 1, l.Now, upd l.Mine c l.Next, l.In⟩ := by simp [stepL, hk]
      rw [e] at hr' ⊢
      simp only [hk, hin, beq_self_eq_true, if_true, Bool.false_and, Bool.false_eq_true, if_false, List.append_nil]
      refine ⟨hr', by simp; omega, fun d hd hdm => ?_, t, by rw [List.take_append_of_le_length htl]; exact hI, ht⟩
      simp only at hdm ⊢
      by_cases hdc : d = c
      · subst hdc
        rw [upd_same]
        have : l.Next.toNat = A.length := by omega
        rw [this]
        simp [hcc]
      · rw [upd_other _ _ hdc] at hdm ⊢
        have := h.own d hd hdm
        have hlt := (List.getElem?_eq_some_iff.1 this).1
        rw [List.getElem?_append_left hlt]
        exact this
    · have e : stepL l o.Kind c = ⟨l.Next, l.Now, l.Mine, upd l.In c (l.Mine c == l.Now)⟩ := by simp [stepL, hk]
      rw [e] at hr' ⊢
      have hk1 : ((o.Kind : Int) == 1) = false := by simp [hk]
      simp only [hk1, Bool.false_eq_true, if_false, List.append_nil, upd_same]
      by_cases hb : l.Mine c = l.Now
      · have hb' : (l.Mine c == l.Now) = true := by simpa using hb
        rw [hb', Bool.true_and]
        rw [hb'] at hr'
        cases hin : l.In c with
        | true =>
          simp only [Bool.not_true, Bool.false_eq_true, if_false, List.append_nil]
          refine ⟨hr', hlen, h.own, t, hI, .inl ⟨⟨c, hc8, by simp [upd_same]⟩, ?_⟩⟩
          rcases ht with ⟨_, e⟩ | ⟨hno, _⟩
          · exact e
          · rw [hno c hc8] at hin; cases hin
        | false =>
          simp only [Bool.not_false, if_true]
          have hnone : ∀ d, d < 8 → l.In d = false := by
            intro d hd
            cases hd' : l.In d with
            | false => rfl
            | true =>
              obtain ⟨e1, e2, _⟩ := h.r.inNow hd hd'
              have : d = c := h.r.inj hd hc8 e2 (by omega)
              rw [this, hin] at hd'; cases hd'
          have htn : (t : Int) = l.Now := by
            rcases ht with ⟨⟨d, hd, hi⟩, _⟩ | ⟨_, e⟩
            · rw [hnone d hd] at hi; cases hi
            · exact e
          have hown := h.own c hc8 (by omega)
          refine ⟨hr', hlen, h.own, t + 1, ?_, .inl ⟨⟨c, hc8, by simp [upd_same]⟩, by simp only; omega⟩⟩
          have ht' : (l.Mine c).toNat = t := by omega
          rw [ht'] at hown
          obtain ⟨hlt, he⟩ := List.getElem?_eq_some_iff.1 hown
          rw [List.take_succ_eq_append_getElem hlt, he, hI, hcc]
      · have hb' : (l.Mine c == l.Now) = false := by simpa using hb
        rw [hb', Bool.false_and]
        rw [hb'] at hr'
        simp only [Bool.false_eq_true, if_false, List.append_nil]
        have hin : l.In c = false := by
          cases h' : l.In c with
          | false => rfl
          | true => exact absurd (h.r.inNow hc8 h').1 hb
        have hsame : upd l.In c false = l.In := by
          funext d
          by_cases hd : d = c
          · subst hd; rw [upd_same, hin]
          · rw [upd_other _ _ hd]
        rw [hsame] at hr' ⊢
        exact ⟨hr', hlen, h.own, t, hI, ht⟩
    · obtain ⟨hmn, hm1, hlt⟩ := h.r.inNow hc8 hin
      have e : stepL l o.Kind c = ⟨l.Next, l.Now + 1, upd l.Mine c (-1), upd l.In c false⟩ := by simp [stepL, hk]
      rw [e] at hr' ⊢
      have hk1 : ((o.Kind : Int) == 1) = false := by simp [hk]
      simp only [hk1, Bool.false_eq_true, if_false, List.append_nil, upd_same, Bool.false_and]
      refine ⟨hr', hlen, fun d hd hdm => ?_, t, hI, .inr ⟨fun d hd => ?_, ?_⟩⟩
      · simp only at hdm ⊢
        by_cases hdc : d = c
        · subst hdc; rw [upd_same] at hdm; exact absurd rfl hdm
        · rw [upd_other _ _ hdc] at hdm ⊢; exact h.own d hd hdm
      · simp only
        by_cases hdc : d = c
        · subst hdc; rw [upd_same]
        · rw [upd_other _ _ hdc]
          cases hd' : l.In d with
          | false => rfl
          | true =>
            obtain ⟨e1, e2, _⟩ := h.r.inNow hd hd'
            exact absurd (h.r.inj hd hc8 e2 (by omega)) hdc
      · rcases ht with ⟨_, e⟩ | ⟨hno, _⟩
        · simp only; omega
        · rw [hno c hc8] at hin; cases hin
theorem J.play : ∀ (ops : List Api_LockOp) {l : L} {A I : List Int}, J l A I → J (playF l ops).2 (A ++ askF l ops) (I ++ (playF l ops).1)
  | [], l, A, I, h => by simpa [playF, askF] using h
  | o :: r, l, A, I, h => by
    have := J.play r (h.step o)
    simpa only [playF, askF, List.append_assoc] using this

theorem askF_len : ∀ (ops : List Api_LockOp) (l : L), (askF l ops).length ≤ ops.length
  | [], l => Nat.le_refl _
  | o :: r, l => by
    have := askF_len r (stp l o).1
    unfold askF
    split <;> simp <;> omega
theorem playF_len : ∀ (ops : List Api_LockOp) (l : L), (playF l ops).1.length ≤ ops.length
  | [], l => Nat.le_refl _
  | o :: r, l => by
    have := playF_len r (stp l o).1
    unfold playF
    simp only
    split <;> simp <;> omega
end Go.Proofs.Ytaadkjlooehhnaa
