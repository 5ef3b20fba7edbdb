/- Plain laws of vector. -/
import Derived.Test.YtfmjgicgbdbpoaaDoorQHB
import Derived.Test.YtfmjgicgbdbpoaaDoorQHK
set_option linter.unusedSimpArgs false
set_option linter.unusedVariables false
namespace Go.Proofs.YtfmjgicgbdbpoaaDoor
open Go Go.Ab

theorem alive4_eq : keep_alive4 = some true := by decide +kernel

abbrev T := Vector_table
abbrev S0 : Api_Slot := ⟨0, 0⟩
abbrev Z4 : Nat → Int := fun (_ : Nat) => (0 : Int)
def core (t : T) (c : Nat) : Nat → Int := t.taken_.getD c Z4
def slot (t : T) (i : Nat) : Api_Slot := t.of_.getD i S0
def load (t : T) (c : Nat) : Nat := (elems (core t c)).length
def onCore (c : Nat) (s : Api_Slot) : Bool := decide (s.Vec > 0) && (s.Core == (c : Int))

structure Inv (t : T) (cs ls : Nat) : Prop where
  c : 1 ≤ cs ∧ cs ≤ 8
  cores : t.cores_ = cs
  tl : t.taken_.length = cs
  ol : t.of_.length = ls
  l : ls ≤ 2000
  ok : ∀ c, c < cs → okB (core t c)
  low : ∀ c v, c < cs → v < 256 → mem (core t c) v = true → 32 ≤ v
  sl : ∀ i, i < ls → slot t i = S0 ∨ ∃ c v : Nat, slot t i = ⟨c, v⟩ ∧ c < cs ∧ 32 ≤ v ∧ v < 256 ∧ mem (core t c) v = true
  inj : ∀ i j, i < ls → j < ls → (slot t i).Vec > 0 → slot t i = slot t j → i = j
  cnt : ∀ c, c < cs → load t c = t.of_.countP (onCore c)

/- bits of a mask -/
def bitI (m : Int) (c : Nat) : Bool := (bitsOf .and .i64 (Int.fdiv m (2 ^ (min c IntKind.i64.bits))) 1 : Int) == 1
theorem and_one (y : Int) : bitsOf .and .i64 y 1 = y % 2 := by
  show IntKind.i64.wrap ((BitVec.ofInt 64 y &&& BitVec.ofInt 64 1).toNat : Int) = _
  have h1 : (BitVec.ofInt 64 1).toNat = 1 := by decide
  rw [BitVec.toNat_and, h1, Nat.and_one_is_mod, BitVec.toNat_ofInt]
  rw [wrap_id (by omega) (by omega)]
  have : ((2 ^ 64 : Nat) : Int) = 18446744073709551616 := by rfl
  rw [this]
  omega
theorem pow_nat (c : Nat) (hc : c < 8) : (2 : Int) ^ c = 1 ∨ (2 : Int) ^ c = 2 ∨ (2 : Int) ^ c = 4 ∨ (2 : Int) ^ c = 8 ∨ (2 : Int) ^ c = 16 ∨ (2 : Int) ^ c = 32 ∨ (2 : Int) ^ c = 64 ∨ (2 : Int) ^ c = 128 := by
  have : c = 0 ∨ c = 1 ∨ c = 2 ∨ c = 3 ∨ c = 4 ∨ c = 5 ∨ c = 6 ∨ c = 7 := by omega
  rcases this with rfl | rfl | rfl | rfl | rfl | rfl | rfl | rfl <;> decide
theorem bit_eq (m : Int) (c : Nat) (hc : c < 8) : (((Int.tmod (Int.fdiv (IntKind.u64.wrap m) (2 ^ (min c IntKind.u64.bits))) 2) : Int) == 1) = bitI m c := by
  have hm1 : min c IntKind.u64.bits = c := by rw [show IntKind.u64.bits = 64 from rfl]; omega
  have hm2 : min c IntKind.i64.bits = c := by rw [show IntKind.i64.bits = 64 from rfl]; omega
  have hw : IntKind.u64.wrap m = m % 18446744073709551616 := by simp [IntKind.wrap, IntKind.signed, IntKind.bits]
  unfold bitI
  rw [hm1, hm2, hw, and_one]
  rcases pow_nat c hc with h | h | h | h | h | h | h | h <;> rw [h] <;>
    (rw [Int.fdiv_eq_ediv_of_nonneg _ (by decide), Int.fdiv_eq_ediv_of_nonneg _ (by decide), Int.tmod_eq_emod_of_nonneg (by omega)]) <;>
    (rw [Bool.eq_iff_iff, beq_iff_eq, beq_iff_eq]; omega)

theorem load_eq {t : T} {cs ls : Nat} (h : Inv t cs ls) (c : Nat) (hc : c < cs) : vector_table_load t c = some ((load t c : Nat) : Int) := by
  unfold vector_table_load
  rw [if_pos (by rw [h.tl]; omega), Int.toNat_natCast]
  have := All_eq _ (h.ok c hc)
  unfold core at this
  rw [this]
  rfl
theorem load_le (t : T) (c : Nat) : load t c ≤ 256 := elems_len _

/- who can be taken -/
def Can (t : T) (m : Int) (but : Int) (c : Nat) : Prop := bitI m c = true ∧ (c : Int) ≠ but ∧ load t c < 224
def BestIs (t : T) (cs : Nat) (m but r : Int) : Prop :=
  (r = -1 ∧ ∀ c, c < cs → ¬ Can t m but c) ∨ ∃ c : Nat, r = c ∧ c < cs ∧ Can t m but c ∧ ∀ d, d < cs → Can t m but d → load t c ≤ load t d
theorem best_l1_eq {t : T} {cs ls : Nat} (h : Inv t cs ls) (m but : Int) : ∀ n (r : Int) (k : Nat), k ≤ cs → cs - k < n → BestIs t k m but r →
    ∃ r', vector_table_best_l1 t m but n r (k : Int) = some r' ∧ BestIs t cs m but r' := by
  have hc := h.c
  intro n
  induction n with
  | zero => intro r k h1 h2; omega
  | succ n ih =>
    intro r k h1 h2 hr
    unfold vector_table_best_l1
    rw [h.cores]
    rcases Nat.lt_or_ge k cs with hlt | hge
    · rw [show decide (((k : Nat) : Int) < ((cs : Nat) : Int)) = true from decide_eq_true (by omega), cond_true, if_pos (by omega), Int.toNat_natCast]
      have hbit : ((bitsOf .and .i64 (Int.fdiv m (2 ^ (min k IntKind.i64.bits))) 1 : Int) == 1) = bitI m k := rfl
      rw [hbit, load_eq h k hlt, show IntKind.i64.wrap ((k : Int) + 1) = ((k + 1 : Nat) : Int) by rw [wrap_id (by omega) (by omega)]; omega]
      have hstep : ∀ r', BestIs t (k + 1) m but r' → ∃ r'', vector_table_best_l1 t m but n r' ((k + 1 : Nat) : Int) = some r'' ∧ BestIs t cs m but r'' := fun r' h' => ih r' (k + 1) (by omega) (by omega) h'
      -- not a candidate: as it was
      have hno : ¬ Can t m but k → BestIs t (k + 1) m but r := by
        intro hn
        rcases hr with ⟨rfl, hr⟩ | ⟨c, rfl, c1, c2, c3⟩
        · refine .inl ⟨rfl, fun d hd => ?_⟩
          by_cases e : d = k
          · rw [e]; exact hn
          · exact hr d (by omega)
        · refine .inr ⟨c, rfl, by omega, c2, fun d hd hcd => ?_⟩
          by_cases e : d = k
          · rw [e] at hcd; exact absurd hcd hn
          · exact c3 d (by omega) hcd
      by_cases hb : bitI m k = true ∧ (k : Int) ≠ but
      · have e1 : (bitI m k && (((k : Nat) : Int) != but)) = true := by simp [hb.1, hb.2]
        rw [e1]
        simp only [cond_true, Option.bind_some, Bool.true_and]
        by_cases hl : load t k < 224
        · have hcan : Can t m but k := ⟨hb.1, hb.2, hl⟩
          rw [show decide (((load t k : Nat) : Int) < 224) = true from decide_eq_true (by omega)]
          simp only [Bool.true_and]
          rcases hr with ⟨rfl, hr⟩ | ⟨c, rfl, c1, c2, c3⟩
          · simp only [show decide ((-1 : Int) < 0) = true by decide, Bool.not_true, cond_false, Option.bind_some, Bool.true_or, cond_true]
            refine hstep _ (.inr ⟨k, rfl, by omega, hcan, fun d hd hcd => ?_⟩)
            by_cases e : d = k
            · rw [e]; exact Nat.le_refl _
            · exact absurd hcd (hr d (by omega))
          · rw [show decide (((c : Nat) : Int) < 0) = false from decide_eq_false (by omega)]
            simp only [Bool.not_false, cond_true, Option.bind_some, Bool.false_or]
            rw [load_eq h c (by omega), Option.bind_some]
            by_cases hle : load t k < load t c
            · rw [show decide (((load t k : Nat) : Int) < ((load t c : Nat) : Int)) = true from decide_eq_true (by omega), cond_true]
              refine hstep _ (.inr ⟨k, rfl, by omega, hcan, fun d hd hcd => ?_⟩)
              by_cases e : d = k
              · rw [e]; exact Nat.le_refl _
              · have := c3 d (by omega) hcd; omega
            · rw [show decide (((load t k : Nat) : Int) < ((load t c : Nat) : Int)) = false from decide_eq_false (by omega), cond_false]
              refine hstep _ (.inr ⟨c, rfl, by omega, c2, fun d hd hcd => ?_⟩)
              by_cases e : d = k
              · rw [e]; omega
              · exact c3 d (by omega) hcd
        · rw [show decide (((load t k : Nat) : Int) < 224) = false from decide_eq_false (by omega)]
          simp only [Bool.false_and, cond_false, Option.bind_some]
          exact hstep r (hno fun hcn => hl hcn.2.2)
      · have e1 : (bitI m k && (((k : Nat) : Int) != but)) = false := by
          rw [Bool.and_eq_false_iff]
          by_cases hb1 : bitI m k = true
          · right
            simp only [bne_eq_false_iff_eq]
            exact Classical.byContradiction fun hx => hb ⟨hb1, hx⟩
          · left; simpa using hb1
        rw [e1]
        simp only [cond_false, Option.bind_some, Bool.false_and]
        exact hstep r (hno fun hcn => hb ⟨hcn.1, hcn.2.1⟩)
    · rw [show decide (((k : Nat) : Int) < ((cs : Nat) : Int)) = false from decide_eq_false (by omega), cond_false]
      have : k = cs := by omega
      subst this
      exact ⟨_, rfl, hr⟩
theorem best_eq {t : T} {cs ls : Nat} (h : Inv t cs ls) (m but : Int) : ∃ r, vector_table_best t m but = some r ∧ BestIs t cs m but r := by
  unfold vector_table_best
  have hc := h.c
  exact best_l1_eq h m but FUEL (-1) 0 (by omega) (fuel_gt (by omega)) (.inl ⟨rfl, fun c hc => by omega⟩)

/- the least that is free -/
theorem free_one {t : T} {cs ls : Nat} (h : Inv t cs ls) (c : Nat) (hc : c < cs) (hl : load t c < 224) : ∃ v, 32 ≤ v ∧ v < 256 ∧ mem (core t c) v = false := by
  refine Classical.byContradiction fun hn => ?_
  have hall : ∀ v, 32 ≤ v → v < 256 → mem (core t c) v = true := by
    intro v h1 h2
    cases hm : mem (core t c) v with
    | true => rfl
    | false => exact absurd ⟨v, h1, h2, hm⟩ hn
  unfold load at hl
  rw [elems_count] at hl
  have e : List.range 256 = List.range 32 ++ List.range' 32 224 := by decide +kernel
  rw [e, List.countP_append] at hl
  have : (List.range' 32 224).countP (mem (core t c)) = (List.range' 32 224).length := by
    rw [List.countP_eq_length]
    intro v hv
    rw [List.mem_range'_1] at hv
    exact hall v hv.1 (by omega)
  rw [this, List.length_range'] at hl
  omega
theorem least_l1_eq {t : T} {cs ls : Nat} (h : Inv t cs ls) (c : Nat) (hc : c < cs) (w : Nat) (hw : w < 256) (hwm : mem (core t c) w = false) : ∀ n (x : Nat), x ≤ w → w - x < n → 32 ≤ x →
    ∃ v : Nat, vector_table_least_l1 t c n (x : Int) = some (v : Int) ∧ 32 ≤ v ∧ v < 256 ∧ mem (core t c) v = false := by
  intro n
  induction n with
  | zero => intro x h1 h2; omega
  | succ n ih =>
    intro x h1 h2 h3
    unfold vector_table_least_l1
    rw [if_pos (by rw [h.tl]; omega), Int.toNat_natCast]
    have := Has_eq (core t c) x (by omega) (h.ok c hc)
    unfold core at this
    rw [this, Option.bind_some]
    have hm' : mem (t.taken_.getD c Z4) x = mem (core t c) x := rfl
    rw [hm']
    cases hm : mem (core t c) x with
    | false => exact ⟨x, rfl, h3, by omega, hm⟩
    | true =>
      rw [cond_true, show IntKind.i64.wrap ((x : Int) + 1) = ((x + 1 : Nat) : Int) by rw [wrap_id (by omega) (by omega)]; omega]
      have : x ≠ w := by
        intro e; rw [e, hwm] at hm; cases hm
      exact ih (x + 1) (by omega) (by omega) (by omega)
theorem least_eq {t : T} {cs ls : Nat} (h : Inv t cs ls) (c : Nat) (hc : c < cs) (hl : load t c < 224) : ∃ v : Nat, vector_table_least t c = some (v : Int) ∧ 32 ≤ v ∧ v < 256 ∧ mem (core t c) v = false := by
  obtain ⟨w, w1, w2, w3⟩ := free_one h c hc hl
  exact least_l1_eq h c hc w w2 w3 FUEL 32 w1 (fuel_gt (by omega)) (by omega)

def takeT (t : T) (i c v : Nat) : T := ⟨t.cores_, t.of_.set i ⟨c, v⟩, t.taken_.set c (withF (core t c) v)⟩
def giveT (t : T) (i c v : Nat) : T := ⟨t.cores_, t.of_.set i S0, t.taken_.set c (withoutF (core t c) v)⟩

theorem get_set {α : Type} (l : List α) (i k : Nat) (x d : α) (hi : i < l.length) : (l.set i x).getD k d = if k = i then x else l.getD k d := by
  rw [List.getD_eq_getElem?_getD, List.getElem?_set, List.getD_eq_getElem?_getD]
  by_cases h : i = k
  · subst h; simp [hi]
  · rw [if_neg h, if_neg (fun e => h e.symm)]
theorem count_set {α : Type} (p : α → Bool) (d : α) : ∀ (l : List α) (i : Nat) (x : α), i < l.length → (l.set i x).countP p + (if p (l.getD i d) then 1 else 0) = l.countP p + (if p x then 1 else 0)
  | [], i, x, h => by simp at h
  | y :: l, 0, x, _ => by
    simp only [List.set_cons_zero, List.countP_cons, List.getD_cons_zero]
    omega
  | y :: l, i + 1, x, h => by
    have := count_set p d l i x (by simpa using h)
    simp only [List.set_cons_succ, List.countP_cons, List.getD_cons_succ]
    omega

theorem take_inv {t : T} {cs ls : Nat} (h : Inv t cs ls) (i c v : Nat) (hi : i < ls) (hs : slot t i = S0) (hc : c < cs) (h32 : 32 ≤ v) (h256 : v < 256) (hm : mem (core t c) v = false) : Inv (takeT t i c v) cs ls ∧ load (takeT t i c v) c = load t c + 1 ∧ (∀ d, d < cs → d ≠ c → load (takeT t i c v) d = load t d) := by
  have hok := h.ok c hc
  have hcore : ∀ d, core (takeT t i c v) d = if d = c then withF (core t c) v else core t d := fun d => by
    unfold core takeT
    exact get_set _ _ _ _ _ (by rw [h.tl]; exact hc)
  have hslot : ∀ j, slot (takeT t i c v) j = if j = i then ⟨(c : Int), (v : Int)⟩ else slot t j := fun j => by
    unfold slot takeT
    exact get_set _ _ _ _ _ (by rw [h.ol]; exact hi)
  have hmem : ∀ d u, mem (core t d) u = true → mem (core (takeT t i c v) d) u = true := by
    intro d u hu
    rw [hcore]
    by_cases e : d = c
    · subst e; rw [if_pos rfl, withF_mem hok v u h256, hu]; rfl
    · rw [if_neg e]; exact hu
  have hload1 : load (takeT t i c v) c = load t c + 1 := by
    unfold load
    rw [hcore, if_pos rfl]
    exact with_len hok v h256 hm
  have hload2 : ∀ d, d ≠ c → load (takeT t i c v) d = load t d := by
    intro d hd
    unfold load
    rw [hcore, if_neg hd]
  refine ⟨⟨h.c, h.cores, by simp [takeT, h.tl], by simp [takeT, h.ol], h.l, fun d hd => ?_, fun d u hd hu hmu => ?_, fun j hj => ?_, fun j k hj hk hv he => ?_, fun d hd => ?_⟩, hload1, fun d _ hd => hload2 d hd⟩
  · rw [hcore]
    split
    · exact withF_ok hok v
    · exact h.ok d hd
  · rw [hcore] at hmu
    by_cases e : d = c
    · subst e
      rw [if_pos rfl, withF_mem hok v u h256, Bool.or_eq_true, decide_eq_true_eq] at hmu
      rcases hmu with hmu | rfl
      · exact h.low d u hd hu hmu
      · exact h32
    · rw [if_neg e] at hmu; exact h.low d u hd hu hmu
  · rw [hslot]
    by_cases e : j = i
    · rw [if_pos e]
      refine .inr ⟨c, v, rfl, hc, h32, h256, ?_⟩
      rw [hcore, if_pos rfl, withF_mem hok v v h256]
      simp
    · rw [if_neg e]
      rcases h.sl j hj with h1 | ⟨c', v', h1, h2, h3, h4, h5⟩
      · exact .inl h1
      · exact .inr ⟨c', v', h1, h2, h3, h4, hmem _ _ h5⟩
  · rw [hslot] at hv
    rw [hslot, hslot] at he
    have other : ∀ k, k < ls → (⟨(c : Int), (v : Int)⟩ : Api_Slot) ≠ slot t k := by
      intro k hk e2
      rcases h.sl k hk with h1 | ⟨c', v', h1, h2, h3, h4, h5⟩
      · rw [h1] at e2
        simp only [Api_Slot.mk.injEq] at e2
        omega
      · rw [h1] at e2
        simp only [Api_Slot.mk.injEq] at e2
        have e3 : c' = c := by omega
        have e4 : v' = v := by omega
        subst e3 e4
        rw [h5] at hm; cases hm
    by_cases e1 : j = i <;> by_cases e2 : k = i
    · omega
    · rw [if_pos e1, if_neg e2] at he; exact absurd he (other k hk)
    · rw [if_neg e1, if_pos e2] at he; exact absurd he.symm (other j hj)
    · rw [if_neg e1, if_neg e2] at he
      rw [if_neg e1] at hv
      exact h.inj j k hj hk hv he
  · have hcs := count_set (onCore d) S0 t.of_ i ⟨(c : Int), (v : Int)⟩ (by rw [h.ol]; exact hi)
    have h0 : t.of_.getD i S0 = S0 := hs
    rw [h0] at hcs
    have e0 : onCore d S0 = false := rfl
    rw [e0] at hcs
    have hcn := h.cnt d hd
    show load (takeT t i c v) d = (t.of_.set i ⟨(c : Int), (v : Int)⟩).countP (onCore d)
    by_cases e : d = c
    · subst e
      have e1 : onCore d ⟨(d : Int), (v : Int)⟩ = true := by
        unfold onCore; simp; omega
      rw [e1] at hcs
      simp only [Bool.false_eq_true, if_false, if_true] at hcs
      omega
    · have e1 : onCore d ⟨(c : Int), (v : Int)⟩ = false := by
        unfold onCore
        rw [Bool.and_eq_false_iff]
        right
        simp; omega
      rw [e1] at hcs
      simp only [Bool.false_eq_true, if_false] at hcs
      rw [hload2 d e]
      omega
theorem give_inv {t : T} {cs ls : Nat} (h : Inv t cs ls) (i c v : Nat) (hi : i < ls) (hs : slot t i = ⟨c, v⟩) (hc : c < cs) (h32 : 32 ≤ v) (h256 : v < 256) (hm : mem (core t c) v = true) : Inv (giveT t i c v) cs ls := by
  have hok := h.ok c hc
  have hcore : ∀ d, core (giveT t i c v) d = if d = c then withoutF (core t c) v else core t d := fun d => by
    unfold core giveT
    exact get_set _ _ _ _ _ (by rw [h.tl]; exact hc)
  have hslot : ∀ j, slot (giveT t i c v) j = if j = i then S0 else slot t j := fun j => by
    unfold slot giveT
    exact get_set _ _ _ _ _ (by rw [h.ol]; exact hi)
  refine ⟨h.c, h.cores, by simp [giveT, h.tl], by simp [giveT, h.ol], h.l, fun d hd => ?_, fun d u hd hu hmu => ?_, fun j hj => ?_, fun j k hj hk hv he => ?_, fun d hd => ?_⟩
  · rw [hcore]
    split
    · exact withoutF_ok hok v
    · exact h.ok d hd
  · rw [hcore] at hmu
    by_cases e : d = c
    · subst e
      rw [if_pos rfl, withoutF_mem hok v u h256, Bool.and_eq_true] at hmu
      exact h.low d u hd hu hmu.1
    · rw [if_neg e] at hmu; exact h.low d u hd hu hmu
  · rw [hslot]
    by_cases e : j = i
    · rw [if_pos e]; exact .inl rfl
    · rw [if_neg e]
      rcases h.sl j hj with h1 | ⟨c', v', h1, h2, h3, h4, h5⟩
      · exact .inl h1
      · refine .inr ⟨c', v', h1, h2, h3, h4, ?_⟩
        rw [hcore]
        by_cases e2 : c' = c
        · subst e2
          rw [if_pos rfl, withoutF_mem hok v v' h256, h5]
          have : v' ≠ v := by
            intro e3; subst e3
            exact e (h.inj j i hj hi (by rw [h1]; simp only; omega) (h1.trans hs.symm))
          simp [this]
        · rw [if_neg e2]; exact h5
  · rw [hslot] at hv
    rw [hslot, hslot] at he
    by_cases e1 : j = i <;> by_cases e2 : k = i
    · omega
    · rw [if_pos e1] at hv; simp at hv
    · rw [if_neg e1, if_pos e2] at he
      rw [if_neg e1, he] at hv; simp at hv
    · rw [if_neg e1, if_neg e2] at he
      rw [if_neg e1] at hv
      exact h.inj j k hj hk hv he
  · have hcs := count_set (onCore d) S0 t.of_ i S0 (by rw [h.ol]; exact hi)
    have h0 : t.of_.getD i S0 = ⟨(c : Int), (v : Int)⟩ := hs
    rw [h0] at hcs
    have e0 : onCore d S0 = false := rfl
    rw [e0] at hcs
    have hcn := h.cnt d hd
    show load (giveT t i c v) d = (t.of_.set i S0).countP (onCore d)
    unfold load at hcn ⊢
    rw [hcore]
    by_cases e : d = c
    · subst e
      have e1 : onCore d ⟨(d : Int), (v : Int)⟩ = true := by
        unfold onCore; simp; omega
      rw [e1] at hcs
      simp only [Bool.false_eq_true, if_false, if_true] at hcs
      have := without_len hok v h256 hm
      rw [if_pos rfl]
      omega
    · have e1 : onCore d ⟨(c : Int), (v : Int)⟩ = false := by
        unfold onCore
        rw [Bool.and_eq_false_iff]
        right
        simp; omega
      rw [e1] at hcs
      simp only [Bool.false_eq_true, if_false] at hcs
      rw [if_neg e]
      omega
theorem take_eq {t : T} {cs ls : Nat} (h : Inv t cs ls) (i c : Nat) (hi : i < ls) (hc : c < cs) (hl : load t c < 224) : ∃ v : Nat, vector_table_take t i c = some (takeT t i c v) ∧ 32 ≤ v ∧ v < 256 ∧ mem (core t c) v = false := by
  obtain ⟨v, hv, h1, h2, h3⟩ := least_eq h c hc hl
  refine ⟨v, ?_, h1, h2, h3⟩
  unfold vector_table_take
  rw [hv, Option.bind_some, if_pos (by rw [h.ol]; omega), if_pos (by rw [h.tl]; omega), Nat.zero_add, Int.toNat_natCast, With_eq _ v h2, Option.bind_some, if_pos (by rw [h.tl]; omega), Nat.zero_add, Int.toNat_natCast]
  rfl
theorem give_eq {t : T} {cs ls : Nat} (h : Inv t cs ls) (i c v : Nat) (hi : i < ls) (hs : slot t i = ⟨c, v⟩) (hc : c < cs) (h256 : v < 256) : vector_table_give t i = some (giveT t i c v) := by
  have h0 : t.of_.getD i S0 = ⟨(c : Int), (v : Int)⟩ := hs
  unfold vector_table_give
  rw [if_pos (by rw [h.ol]; omega), Nat.zero_add, Int.toNat_natCast, h0]
  simp only [Nat.zero_add, Int.toNat_natCast]
  rw [if_pos (by rw [h.tl]; omega), Without_eq _ v h256, Option.bind_some, if_pos (by rw [h.tl]; omega), if_pos (by rw [h.ol]; omega)]
  rfl

inductive DoOf (t : T) (cs ls : Nat) (o : Api_VecOp) : Int → T → Prop
  | err (e : Int) : e ≠ 0 → (o.Kind = 1 → 0 ≤ o.Line → o.Line < ls → (slot t o.Line.toNat).Vec = 0 → e = 4 ∧ ∀ c, c < cs → ¬ Can t o.Mask (-1) c) → DoOf t cs ls o e t
  | take (i c v : Nat) : o.Kind = 1 → o.Line = i → i < ls → slot t i = S0 → c < cs → Can t o.Mask (-1) c → (∀ d, d < cs → Can t o.Mask (-1) d → load t c ≤ load t d) → 32 ≤ v → v < 256 → mem (core t c) v = false → DoOf t cs ls o 0 (takeT t i c v)
  | give (i c v : Nat) : o.Kind = 2 → o.Line = i → i < ls → slot t i = ⟨c, v⟩ → c < cs → 32 ≤ v → v < 256 → mem (core t c) v = true → DoOf t cs ls o 0 (giveT t i c v)
  | move (i c v c' v' : Nat) : o.Kind = 3 → o.Line = i → i < ls → slot t i = ⟨c, v⟩ → c < cs → 32 ≤ v → v < 256 → mem (core t c) v = true → c' < cs → Can t o.Mask c c' → 32 ≤ v' → v' < 256 → mem (core (giveT t i c v) c') v' = false → DoOf t cs ls o 0 (takeT (giveT t i c v) i c' v')
theorem Do_cases {t : T} {cs ls : Nat} (h : Inv t cs ls) (o : Api_VecOp) : ∃ e t', vector_table_do t o = some (e, t') ∧ DoOf t cs ls o e t' := by
  unfold vector_table_do
  by_cases hk : o.Kind < 1 ∨ o.Kind > 3
  · rw [show ((decide ((o.Kind : Int) < 1)) || (decide ((o.Kind : Int) > 3))) = true by simpa using hk, cond_true]
    exact ⟨_, _, rfl, .err _ (by decide) (fun hk1 => by omega)⟩
  rw [show ((decide ((o.Kind : Int) < 1)) || (decide ((o.Kind : Int) > 3))) = false by simp; omega, cond_false, h.ol]
  by_cases hr : o.Line < 0 ∨ o.Line ≥ (ls : Int)
  · rw [show ((decide ((o.Line : Int) < 0)) || (decide ((o.Line : Int) ≥ ((ls : Nat) : Int)))) = true by simpa using hr, cond_true]
    exact ⟨_, _, rfl, .err _ (by decide) (fun _ h1 h2 => by omega)⟩
  rw [show ((decide ((o.Line : Int) < 0)) || (decide ((o.Line : Int) ≥ ((ls : Nat) : Int)))) = false by simp; omega, cond_false, if_pos (by omega)]
  obtain ⟨i, hi⟩ := Int.eq_ofNat_of_zero_le (show 0 ≤ o.Line by omega)
  have hil : i < ls := by omega
  rw [hi]
  simp only [Nat.zero_add, Int.toNat_natCast]
  have hsl : t.of_.getD i S0 = slot t i := rfl
  rw [hsl]
  rcases h.sl i hil with hs | ⟨c, v, hs, h1, h2, h3, h4⟩
  · rw [hs]
    by_cases k1 : o.Kind = 1
    · rw [show (((o.Kind : Int) == 1) == decide ((0 : Int) > 0)) = false by simp [k1], cond_false, show ((o.Kind : Int) == 1) = true by simp [k1], cond_true]
      obtain ⟨r, hr, hb⟩ := best_eq h o.Mask (-1)
      rw [hr, Option.bind_some]
      rcases hb with ⟨rfl, hb⟩ | ⟨c, rfl, c1, c2, c3⟩
      · exact ⟨_, _, rfl, .err _ (by decide) (fun _ _ _ _ => ⟨rfl, hb⟩)⟩
      · rw [show decide (((c : Nat) : Int) < 0) = false by simp, cond_false]
        obtain ⟨v, hv, v1, v2, v3⟩ := take_eq h i c hil c1 c2.2.2
        rw [hv, Option.bind_some]
        exact ⟨_, _, rfl, .take i c v k1 hi hil hs c1 c2 c3 v1 v2 v3⟩
    · rw [show (((o.Kind : Int) == 1) == decide ((0 : Int) > 0)) = true by simp [k1], cond_true, show ((o.Kind : Int) == 1) = false by simp [k1], cond_false]
      exact ⟨_, _, rfl, .err _ (by decide) (fun hk1 => absurd hk1 k1)⟩
  · rw [hs]
    have hvec : decide ((v : Int) > 0) = true := decide_eq_true (by omega)
    simp only [hvec]
    by_cases k1 : o.Kind = 1
    · rw [show (((o.Kind : Int) == 1) == true) = true by simp [k1], cond_true, show ((o.Kind : Int) == 1) = true by simp [k1], cond_true]
      refine ⟨_, _, rfl, .err _ (by decide) (fun _ _ _ hv => ?_)⟩
      rw [show o.Line.toNat = i by omega, hs] at hv
      simp only at hv
      omega
    · rw [show (((o.Kind : Int) == 1) == true) = false by simp [k1], cond_false, show ((o.Kind : Int) == 1) = false by simp [k1], cond_false]
      by_cases k2 : o.Kind = 2
      · rw [show ((o.Kind : Int) == 2) = true by simp [k2], cond_true, give_eq h i c v hil hs h1 h3, Option.bind_some]
        exact ⟨_, _, rfl, .give i c v k2 hi hil hs h1 h2 h3 h4⟩
      · have k3 : o.Kind = 3 := by omega
        rw [show ((o.Kind : Int) == 2) = false by simp [k2], cond_false, show ((o.Kind : Int) == 3) = true by simp [k3], cond_true, if_pos (by omega)]
        obtain ⟨r, hr, hb⟩ := best_eq h o.Mask c
        rw [hr, Option.bind_some]
        rcases hb with ⟨rfl, hb⟩ | ⟨c', rfl, c1, c2, c3⟩
        · exact ⟨_, _, rfl, .err _ (by decide) (fun hk1 => absurd hk1 k1)⟩
        · have hg := give_inv h i c v hil hs h1 h2 h3 h4
          have hne : c' ≠ c := by
            intro e; exact c2.2.1 (by rw [e])
          have hld : load (giveT t i c v) c' = load t c' := by
            unfold load core giveT
            rw [get_set _ _ _ _ _ (by rw [h.tl]; exact h1), if_neg hne]
          rw [show decide (((c' : Nat) : Int) < 0) = false by simp, cond_false, give_eq h i c v hil hs h1 h3, Option.bind_some]
          obtain ⟨v', hv, v1, v2, v3⟩ := take_eq hg i c' hil c1 (by rw [hld]; exact c2.2.2)
          rw [hv, Option.bind_some]
          exact ⟨_, _, rfl, .move i c v c' v' k3 hi hil hs h1 h2 h3 h4 c1 c2 v1 v2 v3⟩
theorem give_slot {t : T} {cs ls : Nat} (h : Inv t cs ls) (i c v : Nat) (hi : i < ls) : slot (giveT t i c v) i = S0 := by
  unfold slot giveT
  rw [get_set _ _ _ _ _ (by rw [h.ol]; exact hi), if_pos rfl]
theorem do_inv {t t' : T} {cs ls : Nat} {o : Api_VecOp} {e : Int} (h : Inv t cs ls) (hd : DoOf t cs ls o e t') : Inv t' cs ls := by
  cases hd with
  | err _ _ _ => exact h
  | take i c v _ _ hi hs hc _ _ h32 h256 hm => exact (take_inv h i c v hi hs hc h32 h256 hm).1
  | give i c v _ _ hi hs hc h32 h256 hm => exact give_inv h i c v hi hs hc h32 h256 hm
  | move i c v c' v' _ _ hi hs hc h32 h256 hm hc' _ h32' h256' hm' => exact (take_inv (give_inv h i c v hi hs hc h32 h256 hm) i c' v' hi (give_slot h i c v hi) hc' h32' h256' hm').1

def stepF (q : List Int × T) (o : Api_VecOp) : List Int × T :=
  match vector_table_do q.2 o with
  | some (e, t) => (q.1 ++ [e], t)
  | none => q
theorem stepF_eq {t t' : T} {o : Api_VecOp} {e : Int} (h : vector_table_do t o = some (e, t')) (l : List Int) : stepF (l, t) o = (l ++ [e], t') := by
  unfold stepF
  rw [h]
theorem play_l1_eq (a0 a1 : Int) (ops : List Api_VecOp) (hops : ops.length * 8 + 8 ≤ 140737488355328) {cs ls : Nat} : ∀ n k (l : List Int) (t : T), k ≤ ops.length → ops.length - k < n → l.length = k → Inv t cs ls →
    vector_Play_l1 a0 a1 ops n l k t.cores_ t.of_ t.taken_ = some (((ops.drop k).foldl stepF (l, t)).1, ((ops.drop k).foldl stepF (l, t)).2.of_, 0) ∧ Inv ((ops.drop k).foldl stepF (l, t)).2 cs ls ∧ ((ops.drop k).foldl stepF (l, t)).1.length = ops.length := by
  intro n
  induction n with
  | zero => intro k l t h1 h2; omega
  | succ n ih =>
    intro k l t h1 h2 h3 h
    unfold vector_Play_l1
    rcases Nat.lt_or_ge k ops.length with hlt | hge
    · rw [dec_lt hlt, cond_true, getD_lt _ _ hlt, List.drop_eq_getElem_cons hlt, List.foldl_cons]
      obtain ⟨e, t', hd, hdo⟩ := Do_cases h ops[k]
      have hd' : vector_table_do (⟨t.cores_, t.of_, t.taken_⟩ : Vector_table) ops[k] = some (e, t') := hd
      rw [hd', Option.bind_some, stepF_eq hd, if_pos (by simp only [List.length_singleton]; omega)]
      exact ih (k + 1) _ t' (by omega) (by omega) (by simp [h3]) (do_inv h hdo)
    · rw [dec_ge hge, cond_false, List.drop_of_length_le hge]
      unfold slices_Clone_api_Slot
      have := h.l
      rw [if_pos (by rw [h.ol]; omega), Option.bind_some]
      exact ⟨rfl, h, by simp only [List.foldl_nil]; omega⟩
def init (c l : Nat) : T := ⟨c, List.replicate l S0, List.replicate c Z4⟩
theorem init_inv (c l : Nat) (hc : 1 ≤ c ∧ c ≤ 8) (hl : l ≤ 2000) : Inv (init c l) c l := by
  have hz : ∀ n, mem Z4 n = false := fun n => tb_zero_of _ rfl _
  have hcore : ∀ d, core (init c l) d = Z4 := by
    intro d
    unfold core init
    simp only
    rw [List.getD_eq_getElem?_getD, List.getElem?_replicate]
    split <;> rfl
  have hslot : ∀ i, slot (init c l) i = S0 := by
    intro i
    unfold slot init
    simp only
    rw [List.getD_eq_getElem?_getD, List.getElem?_replicate]
    split <;> rfl
  have he : elems Z4 = [] := by
    unfold elems
    rw [List.filter_eq_nil_iff.2 (fun n _ => by simp [hz])]
    rfl
  refine ⟨hc, rfl, by simp [init], by simp [init], hl, fun d hd => ?_, fun d v hd hv hm => ?_, fun i hi => .inl (hslot i), fun i j _ _ hv _ => ?_, fun d hd => ?_⟩
  · rw [hcore]; exact fun i _ => (by decide : U64 0)
  · rw [hcore, hz] at hm; cases hm
  · rw [hslot] at hv; simp at hv
  · unfold load
    rw [hcore, he]
    show 0 = (List.replicate l S0).countP (onCore d)
    rw [List.countP_replicate]
    rfl
theorem Play_eq (a0 a1 : Int) (ops : List Api_VecOp) (hops : ops.length * 8 + 8 ≤ 140737488355328) (hf : ops.length ≤ 17592186044000) : vector_Play a0 a1 ops = some ([], [], 2) ∧ ¬ ((1 ≤ a0 ∧ a0 ≤ 8) ∧ 0 ≤ a1 ∧ a1 ≤ 2000) ∨
    ∃ c l : Nat, a0 = c ∧ a1 = l ∧ (1 ≤ c ∧ c ≤ 8) ∧ l ≤ 2000 ∧ vector_Play a0 a1 ops = some ((ops.foldl stepF ([], init c l)).1, (ops.foldl stepF ([], init c l)).2.of_, 0) ∧ Inv (ops.foldl stepF ([], init c l)).2 c l ∧ (ops.foldl stepF ([], init c l)).1.length = ops.length := by
  unfold vector_Play
  by_cases h : (1 ≤ a0 ∧ a0 ≤ 8) ∧ 0 ≤ a1 ∧ a1 ≤ 2000
  · obtain ⟨c, rfl⟩ := Int.eq_ofNat_of_zero_le (show 0 ≤ a0 by omega)
    obtain ⟨l, rfl⟩ := Int.eq_ofNat_of_zero_le (show 0 ≤ a1 by omega)
    rw [show ((((decide (((c : Nat) : Int) < 1)) || (decide (((c : Nat) : Int) > 8))) || (decide (((l : Nat) : Int) < 0))) || (decide (((l : Nat) : Int) > 2000))) = false by simp; omega, cond_false]
    rw [Int.toNat_natCast, Int.toNat_natCast, if_pos (by omega), if_pos (by omega)]
    obtain ⟨h1, h2, h3⟩ := play_l1_eq (c : Int) (l : Int) ops hops FUEL 0 [] (init c l) (by omega) (fuel_gt (by omega)) rfl (init_inv c l (by omega) (by omega))
    rw [List.drop_zero] at h1 h2 h3
    exact .inr ⟨c, l, rfl, rfl, by omega, by omega, h1, h2, h3⟩
  · rw [show ((((decide (((a0 : Int)) < 1)) || (decide ((a0 : Int) > 8))) || (decide ((a1 : Int) < 0))) || (decide ((a1 : Int) > 2000))) = true by simp; omega, cond_true]
    exact .inl ⟨rfl, h⟩

/- meant -/
theorem meant_l1_eq (o : Api_VecOp) (r4 r9 : List Int × List Api_Slot × Int) (ls : Nat) (hls : ls ≤ 2000) (h4 : r4.2.1.length = ls) (h9 : r9.2.1.length = ls) (hne : ∀ k : Nat, (k : Int) ≠ o.Line → r9.2.1.getD k S0 = r4.2.1.getD k S0) (hfin : keep_VectorMeant_l1 o r4 r9 1 ls = some true) : ∀ n k, k ≤ ls → ls - k < n →
    keep_VectorMeant_l1 o r4 r9 n k = some true := by
  intro n
  induction n with
  | zero => intro k h1 h2; omega
  | succ n ih =>
    intro k h1 h2
    rcases Nat.lt_or_ge k ls with hlt | hge
    · unfold keep_VectorMeant_l1
      rw [dec_lt (by rw [h4]; exact hlt), cond_true, if_pos (fun _ => by rw [h4]; exact idx_ok hlt), if_pos (fun _ => by rw [h9]; exact idx_ok hlt), Nat.zero_add]
      by_cases e : (k : Int) = o.Line
      · rw [show ((((k : Nat) : Int) : Int) != o.Line) = false by simp [e], Bool.false_and, cond_false]
        exact ih (k + 1) (by omega) (by omega)
      · rw [hne k e]
        simp only [beq_self_eq_true, Bool.and_self, Bool.and_true, Bool.not_true, Bool.and_false, cond_false]
        exact ih (k + 1) (by omega) (by omega)
    · have : k = ls := by omega
      subst this
      unfold keep_VectorMeant_l1 at hfin ⊢
      rw [dec_ge (by rw [h4]; omega), cond_false] at hfin ⊢
      exact hfin
theorem VectorMeant_true (a0 a1 : Int) (a2 : List Api_VecOp) (a3 : Api_VecOp) (h0 : -9223372036854775808 ≤ a0 ∧ a0 ≤ 9223372036854775807) (h1 : -9223372036854775808 ≤ a1 ∧ a1 ≤ 9223372036854775807) (h2 : a2.length * 24 ≤ 140737488351232 ∧ ∀ y ∈ a2, Ok_Api_VecOp y) (h3 : Ok_Api_VecOp a3) : keep_VectorMeant a0 a1 a2 a3 = some true := by
  have l2 := h2.1
  have hal : (a2 ++ [a3]).length = a2.length + 1 := by simp
  unfold keep_VectorMeant
  rw [alive4_eq, Option.bind_some, Bool.not_true, cond_false]
  have hcl : slices_Clone_api_VecOp a2 = some a2 := by
    unfold slices_Clone_api_VecOp
    rw [if_pos (by omega)]
  rcases Play_eq a0 a1 a2 (by omega) (by omega) with ⟨hp, hbad⟩ | ⟨c, l, rfl, rfl, hc, hl, hp, hinv, hlen⟩
  · rcases Play_eq a0 a1 (a2 ++ [a3]) (by omega) (by omega) with ⟨hp2, _⟩ | ⟨c, l, rfl, rfl, hc, hl, _⟩
    · rw [hp, Option.bind_some, hcl, Option.bind_some, if_pos (by simp only [List.length_singleton]; omega), hp2]
      rfl
    · exact absurd (by omega) hbad
  · rcases Play_eq c l (a2 ++ [a3]) (by omega) (by omega) with ⟨_, hbad⟩ | ⟨c', l', e1, e2, _, _, hp2, hinv2, hlen2⟩
    · exact absurd (by omega) hbad
    · have e1 : c' = c := by omega
      have e2 : l' = l := by omega
      subst e1 e2
      rw [hp, Option.bind_some, hcl, Option.bind_some, if_pos (by simp only [List.length_singleton]; omega), hp2, Option.bind_some]
      rw [List.foldl_append, List.foldl_cons, List.foldl_nil]
      generalize hq : a2.foldl stepF ([], init c' l') = q at *
      obtain ⟨es, t⟩ := q
      simp only at hinv hlen
      obtain ⟨e, t', hd, hdo⟩ := Do_cases hinv a3
      rw [stepF_eq hd]
      simp only
      have hel : (es ++ [e]).length = a2.length + 1 := by simp [hlen]
      rw [hel, show IntKind.i64.wrap (((a2.length : Nat) : Int) + 1) = ((a2.length + 1 : Nat) : Int) by rw [wrap_id (by omega) (by omega)]; omega]
      simp only [bne_self_eq_false, Bool.or_self, cond_false]
      rw [if_pos (by omega), Nat.zero_add]
      have hge : (es ++ [e]).getD a2.length 0 = e := by
        rw [List.getD_eq_getElem?_getD, ← hlen, List.getElem?_append_right (Nat.le_refl _)]
        simp
      rw [hge]
      have hls := hinv.l
      have hinv' := do_inv hinv hdo
      have fin : ∀ (i : Nat), a3.Line = i → i < l' → e = 0 → (∀ k, k ≠ i → slot t' k = slot t k) → keep_VectorMeant_l1 a3 (es, t.of_, 0) (es ++ [e], t'.of_, 0) 1 l' = some true →
          (bif (e : Int) != 0 then (slices_Equal_api_Slot t.of_ t'.of_).bind fun r24 => some r24 else keep_VectorMeant_l1 a3 (es, t.of_, 0) (es ++ [e], t'.of_, 0) FUEL 0) = some true := by
        intro i hi hil he hne hf
        rw [show ((e : Int) != 0) = false by simp [he], cond_false]
        exact meant_l1_eq a3 (es, t.of_, 0) (es ++ [e], t'.of_, 0) l' hls hinv.ol hinv'.ol (fun k hk => (hne k (by omega) : slot t' k = slot t k)) hf FUEL 0 (by omega) (fuel_gt (by omega))
      have final : ∀ (i : Nat) (x : Api_Slot), a3.Line = i → i < l' → slot t' i = x → (a3.Kind = 2 → x = S0) → (a3.Kind ≠ 2 → ∃ d : Nat, x.Core = d ∧ d < 8 ∧ bitI a3.Mask d = true ∧ (a3.Kind = 1 ∨ x.Core ≠ (slot t i).Core)) →
          keep_VectorMeant_l1 a3 (es, t.of_, 0) (es ++ [e], t'.of_, 0) 1 l' = some true := by
        intro i x hi hil hx hx2 hx3
        unfold keep_VectorMeant_l1
        simp only
        rw [dec_ge (by rw [hinv.ol]; omega), cond_false, if_pos (by rw [hinv'.ol]; omega), hi, Int.toNat_natCast, Nat.zero_add]
        have hsl : t'.of_.getD i S0 = x := hx
        have hsl2 : t.of_.getD i S0 = slot t i := rfl
        rw [hsl, hsl2]
        by_cases k2 : a3.Kind = 2
        · rw [show ((a3.Kind : Int) == 2) = true by simp [k2], cond_true, hx2 k2]
          rfl
        · obtain ⟨d, hd1, hd2, hd3, hd4⟩ := hx3 k2
          rw [show ((a3.Kind : Int) == 2) = false by simp [k2], cond_false, hd1, if_pos (by omega), Int.toNat_natCast, bit_eq a3.Mask d hd2, hd3, if_pos (by intro _; rw [hinv.ol]; omega)]
          rcases hd4 with h | h
          · simp [h]
          · rw [hd1] at h
            simp [h]
      cases hdo with
      | err _ he _ =>
        rw [show ((e : Int) != 0) = true by simpa using he, cond_true, slices_Equal_api_Slot_eq _ _ (by rw [hinv.ol]; omega)]
        simp
      | take i d v k1 hi hil hs hd1 hcan _ v1 v2 v3 =>
        have hslot : ∀ j, slot (takeT t i d v) j = if j = i then ⟨(d : Int), (v : Int)⟩ else slot t j := fun j => by
          unfold slot takeT
          exact get_set _ _ _ _ _ (by rw [hinv.ol]; exact hil)
        refine fin i hi hil rfl (fun k hk => by rw [hslot, if_neg hk]) (final i ⟨(d : Int), (v : Int)⟩ hi hil (by rw [hslot, if_pos rfl]) (fun h => by omega) (fun _ => ⟨d, rfl, by omega, hcan.1, .inl k1⟩))
      | give i d v k2 hi hil hs hd1 v1 v2 v3 =>
        have hslot : ∀ j, slot (giveT t i d v) j = if j = i then S0 else slot t j := fun j => by
          unfold slot giveT
          exact get_set _ _ _ _ _ (by rw [hinv.ol]; exact hil)
        refine fin i hi hil rfl (fun k hk => by rw [hslot, if_neg hk]) (final i S0 hi hil (by rw [hslot, if_pos rfl]) (fun _ => rfl) (fun h => absurd k2 h))
      | move i d v d' v' k3 hi hil hs hd1 v1 v2 v3 hd2 hcan v4 v5 v6 =>
        have hslot : ∀ j, slot (takeT (giveT t i d v) i d' v') j = if j = i then ⟨(d' : Int), (v' : Int)⟩ else slot t j := fun j => by
          unfold slot takeT giveT
          simp only
          rw [get_set _ _ _ _ _ (by rw [List.length_set, hinv.ol]; exact hil)]
          by_cases e : j = i
          · rw [if_pos e, if_pos e]
          · rw [if_neg e, if_neg e, get_set _ _ _ _ _ (by rw [hinv.ol]; exact hil), if_neg e]
        refine fin i hi hil rfl (fun k hk => by rw [hslot, if_neg hk]) (final i ⟨(d' : Int), (v' : Int)⟩ hi hil (by rw [hslot, if_pos rfl]) (fun h => by omega) (fun _ => ⟨d', rfl, by omega, hcan.1, .inr ?_⟩))
        rw [hs]
        exact hcan.2.1

/- full -/
theorem full_l2_eq (r4 : List Int × List Api_Slot × Int) (c : Nat) (hl : r4.2.1.length ≤ 2000) (K : Int → Nat → Option Bool) : ∀ n (x : Int) k, k ≤ r4.2.1.length → r4.2.1.length - k < n → 0 ≤ x → x ≤ k →
    keep_VectorFull_l2 r4 (c : Int) K n x k = K (x + ((r4.2.1.drop k).countP (onCore c) : Nat)) r4.2.1.length := by
  intro n
  induction n with
  | zero => intro x k h1 h2; omega
  | succ n ih =>
    intro x k h1 h2 h3 h4
    unfold keep_VectorFull_l2
    rcases Nat.lt_or_ge k r4.2.1.length with hlt | hge
    · rw [dec_lt hlt, cond_true, Nat.zero_add, getD_lt _ _ hlt, List.drop_eq_getElem_cons hlt, List.countP_cons]
      have hon : (decide ((r4.2.1[k].Vec : Int) > 0) && ((r4.2.1[k].Core : Int) == (c : Int))) = onCore c r4.2.1[k] := rfl
      rw [hon]
      cases onCore c r4.2.1[k] with
      | true =>
        rw [cond_true, wrap_id (by omega) (by omega), ih _ (k + 1) (by omega) (by omega) (by omega) (by omega)]
        congr 1
        simp; omega
      | false =>
        rw [cond_false, ih _ (k + 1) (by omega) (by omega) (by omega) (by omega)]
        congr 1
    · rw [dec_ge hge, cond_false, List.drop_of_length_le hge]
      have : k = r4.2.1.length := by omega
      subst this
      simp
theorem full_l1_eq {t : T} {cs ls : Nat} (h : Inv t cs ls) (ops : List Api_VecOp) (m : Int) (es : List Int) (r9 : List Int × List Api_Slot × Int) (e : Int) (hops : ops.length ≤ 17592186044000) (h9 : r9.1.length = ops.length + 1) (he : r9.1.getD ops.length 0 = e)
    (hroom : (e = 0 ∧ ∃ c, c < cs ∧ Can t m (-1) c) ∨ (e = 4 ∧ ∀ c, c < cs → ¬ Can t m (-1) c)) : ∀ n (b : Bool) (k : Nat), k ≤ cs → cs - k < n → (b = true ↔ ∃ c, c < k ∧ Can t m (-1) c) →
    keep_VectorFull_l1 (cs : Int) ops m (es, t.of_, 0) r9 n b (k : Int) = some true := by
  have hc := h.c
  intro n
  induction n with
  | zero => intro b k h1 h2; omega
  | succ n ih =>
    intro b k h1 h2 hb
    unfold keep_VectorFull_l1
    rcases Nat.lt_or_ge k cs with hlt | hge
    · rw [show decide (((k : Nat) : Int) < ((cs : Nat) : Int)) = true from decide_eq_true (by omega), cond_true]
      have hl := h.l
      have hol := h.ol
      rw [full_l2_eq (es, t.of_, 0) k (by simp only; omega) _ FUEL 0 0 (by omega) (fuel_gt (by simp only; omega)) (by omega) (by omega)]
      simp only [List.drop_zero]
      rw [if_pos (by intro _; omega), Int.toNat_natCast, bit_eq m k (by omega), show IntKind.i64.wrap ((k : Int) + 1) = ((k + 1 : Nat) : Int) by rw [wrap_id (by omega) (by omega)]; omega]
      refine ih _ (k + 1) (by omega) (by omega) ?_
      have hcnt := h.cnt k hlt
      rw [Bool.or_eq_true, Bool.and_eq_true, decide_eq_true_eq, hb]
      constructor
      · rintro (⟨c, c1, c2⟩ | ⟨c1, c2⟩)
        · exact ⟨c, by omega, c2⟩
        · exact ⟨k, by omega, c1, by omega, by omega⟩
      · rintro ⟨c, c1, c2⟩
        by_cases ek : c = k
        · subst ek
          exact .inr ⟨c2.1, by have := c2.2.2; omega⟩
        · exact .inl ⟨c, by omega, c2⟩
    · have : k = cs := by omega
      subst this
      rw [show decide (((k : Nat) : Int) < ((k : Nat) : Int)) = false from decide_eq_false (by omega), cond_false, h9, show IntKind.i64.wrap (((ops.length : Nat) : Int) + 1) = ((ops.length + 1 : Nat) : Int) by rw [wrap_id (by omega) (by omega)]; omega]
      rw [if_pos (by intro _; omega), if_pos (by intro _; omega), Nat.zero_add, he]
      rcases hroom with ⟨rfl, hr⟩ | ⟨rfl, hr⟩
      · rw [hb.2 hr]
        simp
      · have : b = false := by
          cases b with
          | false => rfl
          | true => obtain ⟨c, c1, c2⟩ := hb.1 rfl; exact absurd c2 (hr c c1)
        rw [this]
        simp
theorem VectorFull_true (a0 a1 : Int) (a2 : List Api_VecOp) (a3 a4 : Int) (h0 : -9223372036854775808 ≤ a0 ∧ a0 ≤ 9223372036854775807) (h1 : -9223372036854775808 ≤ a1 ∧ a1 ≤ 9223372036854775807) (h2 : a2.length * 24 ≤ 140737488351232 ∧ ∀ y ∈ a2, Ok_Api_VecOp y) (h3 : -9223372036854775808 ≤ a3 ∧ a3 ≤ 9223372036854775807) (h4 : -9223372036854775808 ≤ a4 ∧ a4 ≤ 9223372036854775807) : keep_VectorFull a0 a1 a2 a3 a4 = some true := by
  have l2 := h2.1
  have hal : (a2 ++ [(⟨1, a3, a4⟩ : Api_VecOp)]).length = a2.length + 1 := by simp
  unfold keep_VectorFull
  rw [alive4_eq, Option.bind_some, Bool.not_true, cond_false]
  have hcl : slices_Clone_api_VecOp a2 = some a2 := by
    unfold slices_Clone_api_VecOp
    rw [if_pos (by omega)]
  rcases Play_eq a0 a1 a2 (by omega) (by omega) with ⟨hp, hbad⟩ | ⟨c, l, rfl, rfl, hc, hl, hp, hinv, hlen⟩
  · rcases Play_eq a0 a1 (a2 ++ [(⟨1, a3, a4⟩ : Api_VecOp)]) (by omega) (by omega) with ⟨hp2, _⟩ | ⟨c, l, rfl, rfl, hc, hl, _⟩
    · rw [hp, Option.bind_some, hcl, Option.bind_some, if_pos (by simp only [List.length_singleton]; omega), hp2, Option.bind_some]
      simp only [show ((2 : Int) != 0) = true by decide, Bool.true_or, Bool.not_true, cond_true]
      rw [if_pos (by intro h; cases h)]
    · exact absurd (by omega) hbad
  · rcases Play_eq c l (a2 ++ [(⟨1, a3, a4⟩ : Api_VecOp)]) (by omega) (by omega) with ⟨_, hbad⟩ | ⟨c', l', e1, e2, _, _, hp2, hinv2, hlen2⟩
    · exact absurd (by omega) hbad
    · have e1 : c' = c := by omega
      have e2 : l' = l := by omega
      subst e1 e2
      rw [hp, Option.bind_some, hcl, Option.bind_some, if_pos (by simp only [List.length_singleton]; omega), hp2, Option.bind_some]
      rw [List.foldl_append, List.foldl_cons, List.foldl_nil]
      generalize hq : a2.foldl stepF ([], init c' l') = q at *
      obtain ⟨es, t⟩ := q
      simp only at hinv hlen
      obtain ⟨e, t', hd, hdo⟩ := Do_cases hinv ⟨1, a3, a4⟩
      rw [stepF_eq hd]
      simp only [bne_self_eq_false, Bool.false_or]
      by_cases hr : 0 ≤ a3 ∧ a3 < l'
      · obtain ⟨i, rfl⟩ := Int.eq_ofNat_of_zero_le hr.1
        have hil : i < l' := by omega
        rw [show ((decide (((i : Nat) : Int) < 0)) || (decide (((i : Nat) : Int) ≥ ((l' : Nat) : Int)))) = false by simp; omega]
        rw [if_pos (by intro _; rw [hinv.ol]; omega), Bool.false_or, Nat.zero_add, Int.toNat_natCast]
        have hsl : t.of_.getD i S0 = slot t i := rfl
        rw [hsl]
        rcases hinv.sl i hil with hs | ⟨d, v, hs, _, h32, _⟩
        · rw [hs, show decide ((S0.Vec : Int) > 0) = false by decide, cond_false]
          have hge : (es ++ [e]).getD a2.length 0 = e := by
            rw [List.getD_eq_getElem?_getD, ← hlen, List.getElem?_append_right (Nat.le_refl _)]
            simp
          refine full_l1_eq hinv a2 a4 es _ e (by omega) (by simp [hlen]) hge ?_ FUEL false 0 (by omega) (fuel_gt (by omega)) (by simp)
          cases hdo with
          | err _ he hx =>
            obtain ⟨e4, hno⟩ := hx rfl (by simp) (by simpa using hil) (by simp only [Int.toNat_natCast]; rw [hs])
            exact .inr ⟨e4, hno⟩
          | take i2 d v k1 hi2 hil2 hs2 hd1 hcan _ _ _ _ => exact .inl ⟨rfl, d, hd1, hcan⟩
          | give i2 d v k => exact absurd k (by simp)
          | move i2 d v d' v' k => exact absurd k (by simp)
        · rw [hs, show decide ((v : Int) > 0) = true from decide_eq_true (by omega), cond_true]
      · rw [show ((decide ((a3 : Int) < 0)) || (decide ((a3 : Int) ≥ ((l' : Nat) : Int)))) = true by simp; omega]
        rw [if_pos (by intro h; simp at h), Bool.true_or, cond_true]

/- even -/
def sumTo (n : Nat) (f : Nat → Nat) : Nat := ((List.range n).map f).sum
theorem sum_succ (n : Nat) (f : Nat → Nat) : sumTo (n + 1) f = sumTo n f + f n := by
  unfold sumTo
  rw [List.range_succ, List.map_append, List.sum_append]
  simp
theorem sum_le (f : Nat → Nat) (b : Nat) : ∀ n, (∀ d, d < n → f d ≤ b) → sumTo n f ≤ n * b := by
  intro n
  induction n with
  | zero => intro _; simp [sumTo]
  | succ n ih =>
    intro h
    rw [sum_succ, Nat.succ_mul]
    have := ih fun d hd => h d (by omega)
    have := h n (by omega)
    omega
theorem sum_ge (f : Nat → Nat) (b : Nat) : ∀ n, (∀ d, d < n → b ≤ f d) → n * b ≤ sumTo n f := by
  intro n
  induction n with
  | zero => intro _; simp [sumTo]
  | succ n ih =>
    intro h
    rw [sum_succ, Nat.succ_mul]
    have := ih fun d hd => h d (by omega)
    have := h n (by omega)
    omega
theorem sum_one (f g : Nat → Nat) (c : Nat) (hc : g c = f c + 1) (hd : ∀ d, d ≠ c → g d = f d) : ∀ n, sumTo n g = sumTo n f + if c < n then 1 else 0 := by
  intro n
  induction n with
  | zero => rfl
  | succ n ih =>
    rw [sum_succ, sum_succ, ih]
    by_cases e : n = c
    · subst e
      rw [hc, if_neg (Nat.lt_irrefl _), if_pos (Nat.lt_succ_self _)]; omega
    · rw [hd n e]
      by_cases h2 : c < n
      · rw [if_pos h2, if_pos (show c < n + 1 by omega)]; omega
      · rw [if_neg h2, if_neg (show ¬ c < n + 1 by omega)]; omega
theorem sum_congr (f g : Nat → Nat) : ∀ n, (∀ d, d < n → f d = g d) → sumTo n f = sumTo n g := by
  intro n
  induction n with
  | zero => intro _; rfl
  | succ n ih => intro h; rw [sum_succ, sum_succ, ih (fun d hd => h d (by omega)), h n (by omega)]
theorem bit255 (c : Nat) (hc : c < 8) : bitI 255 c = true := by
  have : c = 0 ∨ c = 1 ∨ c = 2 ∨ c = 3 ∨ c = 4 ∨ c = 5 ∨ c = 6 ∨ c = 7 := by omega
  rcases this with rfl | rfl | rfl | rfl | rfl | rfl | rfl | rfl <;> decide
def opsTo (j : Nat) : List Api_VecOp := (List.range j).map fun i : Nat => ⟨1, (i : Int), 255⟩
theorem opsTo_succ (j : Nat) : opsTo (j + 1) = opsTo j ++ [⟨1, (j : Int), 255⟩] := by
  unfold opsTo
  rw [List.range_succ, List.map_append]
  rfl
structure Even (q : List Int × T) (cs ls j : Nat) : Prop where
  i : Inv q.2 cs ls
  z : ∀ e ∈ q.1, e = 0
  b : ∀ c d, c < cs → d < cs → load q.2 c ≤ load q.2 d + 1
  s : sumTo cs (load q.2) = j
  t : ∀ k, k < j → (slot q.2 k).Vec > 0
  f : ∀ k, j ≤ k → k < ls → slot q.2 k = S0
theorem even_run (cs ls : Nat) (hc : 1 ≤ cs ∧ cs ≤ 8) (hl : ls ≤ 2000) (hlc : ls ≤ 224 * cs) : ∀ j, j ≤ ls → Even ((opsTo j).foldl stepF ([], init cs ls)) cs ls j := by
  intro j
  induction j with
  | zero =>
    intro _
    have hi := init_inv cs ls hc hl
    have hz : ∀ c, c < cs → load (init cs ls) c = 0 := by
      intro c hcc
      rw [hi.cnt c hcc]
      show (List.replicate ls S0).countP (onCore c) = 0
      rw [List.countP_replicate]
      rfl
    refine ⟨hi, fun e he => (by cases he), fun c d h1 h2 => ?_, ?_, fun k hk => by omega, fun k _ _ => ?_⟩
    · show load (init cs ls) c ≤ load (init cs ls) d + 1
      rw [hz c h1]; omega
    · show sumTo cs (load (init cs ls)) = 0
      have := sum_le (load (init cs ls)) 0 cs (fun d hd => by rw [hz d hd]; omega)
      omega
    · show slot (init cs ls) k = S0
      unfold slot init
      simp only
      rw [List.getD_eq_getElem?_getD, List.getElem?_replicate]
      split <;> rfl
  | succ j ih =>
    intro hj
    have h := ih (by omega)
    rw [opsTo_succ, List.foldl_append, List.foldl_cons, List.foldl_nil]
    generalize (opsTo j).foldl stepF ([], init cs ls) = q at *
    obtain ⟨es, t⟩ := q
    obtain ⟨hi, hz, hb, hs, ht, hf⟩ := h
    simp only at hi hz hb hs ht hf
    have hsj := hf j (Nat.le_refl _) (by omega)
    obtain ⟨e, t', hd, hdo⟩ := Do_cases hi ⟨1, (j : Int), 255⟩
    rw [stepF_eq hd]
    cases hdo with
    | err _ he hx =>
      obtain ⟨_, hno⟩ := hx rfl (by simp) (by simp; omega) (by simp only [Int.toNat_natCast]; rw [hsj])
      have : cs * 224 ≤ sumTo cs (load t) := sum_ge _ _ _ fun d hd => by
        rcases Nat.lt_or_ge (load t d) 224 with h | h
        · exact absurd ⟨bit255 d (by omega), by omega, h⟩ (hno d hd)
        · exact h
      omega
    | give i d v k => exact absurd k (by simp)
    | move i d v d' v' k => exact absurd k (by simp)
    | take i c v k1 hij hil hs2 hcc hcan hmin h32 h256 hm =>
      have hij : j = i := by simp only at hij; omega
      subst hij
      obtain ⟨hi', hl1, hl2⟩ := take_inv hi j c v hil hs2 hcc h32 h256 hm
      have hslot : ∀ k, slot (takeT t j c v) k = if k = j then ⟨(c : Int), (v : Int)⟩ else slot t k := fun k => by
        unfold slot takeT
        exact get_set _ _ _ _ _ (by rw [hi.ol]; exact hil)
      have hleast : ∀ d, d < cs → load t c ≤ load t d := fun d hd => by
        rcases Nat.lt_or_ge (load t d) 224 with h | h
        · exact hmin d hd ⟨bit255 d (by have := hi.c; omega), by omega, h⟩
        · have := hcan.2.2; omega
      refine ⟨hi', fun x hx => ?_, fun x y hx hy => ?_, ?_, fun k hk => ?_, fun k hk1 hk2 => ?_⟩
      · rcases List.mem_append.1 hx with h | h
        · exact hz x h
        · simpa using h
      · simp only
        by_cases ex : x = c <;> by_cases ey : y = c
        · subst ex ey; omega
        · subst ex; rw [hl1, hl2 y hy ey]; have := hleast y hy; omega
        · subst ey; rw [hl1, hl2 x hx ex]; have := hb x y hx hy; omega
        · rw [hl2 x hx ex, hl2 y hy ey]; exact hb x y hx hy
      · simp only
        have e1 : sumTo cs (load (takeT t j c v)) = sumTo cs (fun d => if d = c then load t d + 1 else load t d) := sum_congr _ _ _ fun d hd => by
          by_cases e : d = c
          · subst e; simp [hl1]
          · rw [if_neg e, hl2 d hd e]
        rw [e1, sum_one (load t) _ c (by simp) (fun d hd => by simp [hd]), if_pos hcc, hs]
      · simp only
        rw [hslot]
        by_cases e : k = j
        · rw [if_pos e]; simp only; omega
        · rw [if_neg e]; exact ht k (by omega)
      · simp only
        rw [hslot, if_neg (show ¬ k = j by omega)]
        exact hf k (by omega) hk2
theorem even_bounds (n : Nat) (f : Nat → Nat) (k c : Nat) (hc : c < n) (hb : ∀ c d, c < n → d < n → f c ≤ f d + 1) (hs : sumTo n f = k) : k / n ≤ f c ∧ f c ≤ (k + n - 1) / n := by
  have h1 : sumTo n (fun d => if d = c then f d + 1 else f d) = sumTo n f + 1 := by
    rw [sum_one f _ c (by simp) (fun d hd => by simp [hd]), if_pos hc]
  have h2 : sumTo n (fun d => if d = c then f d + 1 else f d) ≤ n * (f c + 1) := sum_le _ _ _ fun d hd => by
    by_cases e : d = c
    · subst e; simp
    · simp only [if_neg e]; exact hb d c hd hc
  constructor
  · have : k < n * (f c + 1) := by omega
    have := Nat.div_lt_of_lt_mul this
    omega
  · rw [Nat.le_div_iff_mul_le (by omega)]
    rcases Nat.eq_zero_or_pos (f c) with h0 | hp
    · rw [h0]; omega
    · have h3 : sumTo n f = sumTo n (fun d => if d = c then f d - 1 else f d) + 1 := by
        rw [sum_one (fun d => if d = c then f d - 1 else f d) f c (by simp; omega) (fun d hd => by simp [hd]), if_pos hc]
      have h4 : n * (f c - 1) ≤ sumTo n (fun d => if d = c then f d - 1 else f d) := sum_ge _ _ _ fun d hd => by
        by_cases e : d = c
        · subst e; simp
        · simp only [if_neg e]; have := hb c d hc hd; omega
      have h5 : n * (f c - 1) + n = n * f c := by
        rw [← Nat.mul_succ]; congr 1; omega
      rw [Nat.mul_comm]
      omega
theorem wrap_small (q : Nat) (h : q ≤ 4000) : IntKind.i64.wrap (q : Int) = (q : Int) := wrap_id (by omega) (by omega)
theorem even_l3_eq (cs ls : Nat) (hc : 1 ≤ cs ∧ cs ≤ 8) (hl : ls ≤ 2000) (f : Nat → Int) (hf : ∀ c, c < cs → ((ls / cs : Nat) : Int) ≤ f c ∧ f c ≤ (((ls + cs - 1) / cs : Nat) : Int)) : ∀ n k, k ≤ cs → cs - k < n →
    keep_VectorEven_l3 cs ls f n (k : Int) = some true := by
  intro n
  induction n with
  | zero => intro k h1 h2; omega
  | succ n ih =>
    intro k h1 h2
    unfold keep_VectorEven_l3
    rcases Nat.lt_or_ge k cs with hlt | hge
    · obtain ⟨f1, f2⟩ := hf k hlt
      have hd1 : ls / cs ≤ ls := Nat.div_le_self _ _
      have hd2 : (ls + cs - 1) / cs ≤ ls + cs - 1 := Nat.div_le_self _ _
      have e1 : IntKind.i64.wrap (Int.tdiv (ls : Int) (cs : Int)) = ((ls / cs : Nat) : Int) := by
        rw [show Int.tdiv (ls : Int) (cs : Int) = ((ls / cs : Nat) : Int) from rfl, wrap_small _ (by omega)]
      have e2 : IntKind.i64.wrap (Int.tdiv (IntKind.i64.wrap (IntKind.i64.wrap ((ls : Int) + (cs : Int)) - 1)) (cs : Int)) = (((ls + cs - 1) / cs : Nat) : Int) := by
        rw [wrap_id (x := (ls : Int) + (cs : Int)) (by omega) (by omega), wrap_id (x := (ls : Int) + (cs : Int) - 1) (by omega) (by omega), show (ls : Int) + (cs : Int) - 1 = ((ls + cs - 1 : Nat) : Int) by omega,
          show Int.tdiv ((ls + cs - 1 : Nat) : Int) (cs : Int) = (((ls + cs - 1) / cs : Nat) : Int) from rfl, wrap_small _ (by omega)]
      rw [show decide (((k : Nat) : Int) < ((cs : Nat) : Int)) = true from decide_eq_true (by omega), cond_true, e1, e2, Int.toNat_natCast, if_pos (by omega), if_pos (by omega), if_pos (by intro _; omega), if_pos (by intro _; omega)]
      rw [show decide (f k < ((ls / cs : Nat) : Int)) = false from decide_eq_false (Int.not_lt.2 f1), show decide (f k > (((ls + cs - 1) / cs : Nat) : Int)) = false from decide_eq_false (Int.not_lt.2 f2), Bool.or_self, cond_false]
      rw [show IntKind.i64.wrap ((k : Int) + 1) = ((k + 1 : Nat) : Int) by rw [wrap_id (by omega) (by omega)]; omega]
      exact ih (k + 1) (by omega) (by omega)
    · rw [show decide (((k : Nat) : Int) < ((cs : Nat) : Int)) = false from decide_eq_false (by omega), cond_false]
theorem even_l2_eq (cs ls : Nat) (hc : 1 ≤ cs ∧ cs ≤ 8) (hl : ls ≤ 2000) (r : List Int × List Api_Slot × Int) (hrl : r.2.1.length = ls) (hco : ∀ k, k < ls → ∃ c : Nat, (r.2.1.getD k S0).Core = c ∧ c < cs)
    (hfin : ∀ c, c < cs → ls / cs ≤ r.2.1.countP (fun s => s.Core == (c : Int)) ∧ r.2.1.countP (fun s => s.Core == (c : Int)) ≤ (ls + cs - 1) / cs) : ∀ n k (f : Nat → Int), k ≤ ls → ls - k < n → (∀ c, c < cs → f c = (((r.2.1.take k).countP (fun s => s.Core == (c : Int)) : Nat) : Int)) →
    keep_VectorEven_l2 cs ls r n k f = some true := by
  intro n
  induction n with
  | zero => intro k f h1 h2; omega
  | succ n ih =>
    intro k f h1 h2 hf
    unfold keep_VectorEven_l2
    rcases Nat.lt_or_ge k ls with hlt | hge
    · have hlt' : k < r.2.1.length := by omega
      obtain ⟨c, hc1, hc2⟩ := hco k hlt
      rw [dec_lt hlt', cond_true, Nat.zero_add, hc1, Int.toNat_natCast, if_pos (by omega), if_pos (by omega)]
      refine ih (k + 1) _ (by omega) (by omega) fun d hd => ?_
      rw [List.take_add_one, List.getElem?_eq_getElem hlt', Option.toList_some, List.countP_append, List.countP_singleton]
      rw [getD_lt _ _ hlt'] at hc1
      have hcl : (r.2.1.take k).countP (fun s => s.Core == (c : Int)) ≤ 2000 := Nat.le_trans List.countP_le_length (by rw [List.length_take]; omega)
      unfold upd
      by_cases e : d = c
      · subst e
        rw [if_pos rfl, hf d hd, wrap_id (by omega) (by omega), show (r.2.1[k].Core == (d : Int)) = true by simp [hc1]]
        simp
      · rw [if_neg e, hf d hd, show (r.2.1[k].Core == (d : Int)) = false by rw [hc1]; simp; omega]
        simp
    · rw [dec_ge (by omega), cond_false]
      rw [List.take_of_length_le (by omega)] at hf
      refine even_l3_eq cs ls hc hl f (fun c hcc => ?_) FUEL 0 (by omega) (fuel_gt (by omega))
      rw [hf c hcc]
      have := hfin c hcc
      omega
theorem VectorEven_true (a0 a1 : Int) (h0 : -9223372036854775808 ≤ a0 ∧ a0 ≤ 9223372036854775807) (h1 : -9223372036854775808 ≤ a1 ∧ a1 ≤ 9223372036854775807) : keep_VectorEven a0 a1 = some true := by
  unfold keep_VectorEven
  rw [alive4_eq, Option.bind_some, Bool.not_true, cond_false]
  by_cases hv : (1 ≤ a0 ∧ a0 ≤ 8) ∧ 0 ≤ a1 ∧ a1 ≤ 224 * a0
  · obtain ⟨cs, rfl⟩ := Int.eq_ofNat_of_zero_le (show 0 ≤ a0 by omega)
    obtain ⟨ls, rfl⟩ := Int.eq_ofNat_of_zero_le (show 0 ≤ a1 by omega)
    have hc : 1 ≤ cs ∧ cs ≤ 8 := by omega
    have hl : ls ≤ 2000 := by omega
    rw [wrap_id (x := 224 * (cs : Int)) (by omega) (by omega), show ((((decide (((cs : Nat) : Int) < 1)) || (decide (((cs : Nat) : Int) > 8))) || (decide (((ls : Nat) : Int) < 0))) || (decide (((ls : Nat) : Int) > 224 * ((cs : Nat) : Int)))) = false by simp; omega, cond_false]
    have hev := even_run cs ls hc hl (by omega) ls (Nat.le_refl _)
    have hol : (opsTo ls).length = ls := by unfold opsTo; simp
    have key : ∀ n k, k ≤ ls → ls - k < n → keep_VectorEven_l1 cs ls n (opsTo k) (k : Int) = some true := by
      intro n
      induction n with
      | zero => intro k h1 h2; omega
      | succ n ih =>
        intro k h1 h2
        have hok : (opsTo k).length = k := by unfold opsTo; simp
        unfold keep_VectorEven_l1
        rcases Nat.lt_or_ge k ls with hlt | hge
        · rw [show decide (((k : Nat) : Int) < ((ls : Nat) : Int)) = true from decide_eq_true (by omega), cond_true, if_pos (by simp only [List.length_singleton]; omega), ← opsTo_succ, show IntKind.i64.wrap ((k : Int) + 1) = ((k + 1 : Nat) : Int) by rw [wrap_id (by omega) (by omega)]; omega]
          exact ih (k + 1) (by omega) (by omega)
        · have : k = ls := by omega
          subst this
          rw [show decide (((k : Nat) : Int) < ((k : Nat) : Int)) = false from decide_eq_false (by omega), cond_false]
          rcases Play_eq cs k (opsTo k) (by omega) (by omega) with ⟨_, hbad⟩ | ⟨c', l', e1, e2, _, _, hp, hinv, hlen⟩
          · exact absurd (by omega) hbad
          · have e1 : c' = cs := by omega
            have e2 : l' = k := by omega
            subst e1 e2
            rw [hp, Option.bind_some]
            generalize (opsTo l').foldl stepF ([], init c' l') = q at *
            obtain ⟨es, t⟩ := q
            obtain ⟨hi, hz, hb, hs, ht, hf⟩ := hev
            simp only at hi hz hb hs ht hf hlen
            have hany : es.any (fun x => (x : Int) != 0) = false := by
              rw [List.any_eq_false]
              intro x hx
              rw [hz x hx]
              decide
            simp only [bne_self_eq_false, Bool.not_false, cond_true, Bool.false_or]
            rw [slices_ContainsFunc_api_Errno_keep_VectorEven_1_eq (f := fun x => (x : Int) != 0) (fun _ => rfl) es (by omega), Option.bind_some, hany, cond_false]
            have hsl : ∀ i, i < l' → ∃ c v : Nat, slot t i = ⟨c, v⟩ ∧ c < c' ∧ 32 ≤ v := fun i hil => by
              rcases hi.sl i hil with h | ⟨c, v, h3, h4, h5, _⟩
              · have := ht i hil; rw [h] at this; simp at this
              · exact ⟨c, v, h3, h4, h5⟩
            refine even_l2_eq c' l' hc hl (es, t.of_, 0) hi.ol (fun i hil => ?_) (fun c hcc => ?_) FUEL 0 _ (by omega) (fuel_gt (by omega)) (fun c _ => by simp)
            · obtain ⟨c, v, h3, h4, _⟩ := hsl i hil
              exact ⟨c, by show (slot t i).Core = c; rw [h3], h4⟩
            · have e3 : t.of_.countP (fun s => s.Core == (c : Int)) = load t c := by
                rw [hi.cnt c hcc]
                apply List.countP_congr
                intro s hsm
                obtain ⟨i, hil, his⟩ := List.getElem_of_mem hsm
                obtain ⟨c2, v, h3, _, h5⟩ := hsl i (by rw [← hi.ol]; exact hil)
                have : slot t i = s := by
                  unfold slot
                  rw [getD_lt _ _ hil, his]
                rw [this] at h3
                unfold onCore
                rw [h3]
                have : decide ((v : Int) > 0) = true := decide_eq_true (by omega)
                simp only [this, Bool.true_and]
              simp only
              rw [e3]
              exact even_bounds c' (load t) l' c hcc hb hs
    exact key FUEL 0 (by omega) (fuel_gt (by omega))
  · by_cases hh : 1 ≤ a0 ∧ a0 ≤ 8
    · rw [wrap_id (x := 224 * a0) (by omega) (by omega), show ((((decide ((a0 : Int) < 1)) || (decide ((a0 : Int) > 8))) || (decide ((a1 : Int) < 0))) || (decide ((a1 : Int) > 224 * a0))) = true by simp; omega, cond_true]
    · have : ((decide ((a0 : Int) < 1)) || (decide ((a0 : Int) > 8))) = true := by simp; omega
      rw [this, Bool.true_or, Bool.true_or, cond_true]
end Go.Proofs.YtfmjgicgbdbpoaaDoor
