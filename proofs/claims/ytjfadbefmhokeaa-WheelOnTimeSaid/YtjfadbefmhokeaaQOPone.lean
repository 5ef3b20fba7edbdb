/- Wheel: on time. -/
import Derived.Test.YtjfadbefmhokeaaQOPwheel
set_option linter.unusedVariables false
set_option linter.unusedSimpArgs false
namespace Go.Proofs.Ytjfadbefmhokeaa
open Go Go.Ab

theorem getD_drop {α : Type} {l : List α} {k : Nat} {x : α} {r : List α} (d : α) (h : l.drop k = x :: r) : l.getD k d = x ∧ k < l.length ∧ l.drop (k + 1) = r := by
  have hk : k < l.length := by
    apply Classical.byContradiction; intro hc
    rw [List.drop_eq_nil_of_le (by omega)] at h; cases h
  rw [List.drop_eq_getElem_cons hk] at h
  injection h with h1 h2
  exact ⟨by rw [getD_lt l d hk]; exact h1, hk, h2⟩

def Fires : List Api_Fired → List (Int × Int) → List (Int × Int) → Prop
  | [], m, m' => m' = m
  | f :: l, m, m' => mget f.Id m = some f.At ∧ Fires l (mdelete f.Id m) m'

theorem Fires.append : ∀ {l l' : List Api_Fired} {m m' m'' : List (Int × Int)}, Fires l m m' → Fires l' m' m'' → Fires (l ++ l') m m''
  | [], _, _, _, _, h, h' => by have h : _ = _ := h; subst h; exact h'
  | f :: l, _, _, _, _, h, h' => ⟨h.1, Fires.append h.2 h'⟩

theorem fires_ids (n : Int) : ∀ (ids : List Int) (m : List (Int × Int)), (mkeys m).Nodup → ids.Nodup → (∀ i ∈ ids, mget i m = some n) →
    Fires (ids.map fun i => ⟨n, i⟩) m (m.filter fun p => decide (p.1 ∉ ids))
  | [], m, _, _, _ => by
    show _ = m
    rw [List.filter_eq_self]; intro p _; simp
  | i :: ids, m, hm, hn, h => by
    refine ⟨h i List.mem_cons_self, ?_⟩
    obtain ⟨hn1, hn2⟩ := List.nodup_cons.1 hn
    have key := fires_ids n ids (mdelete i m) (nodup_mdelete _ _ hm) hn2 (fun j hj => by
      rw [mget_mdelete _ _ _ hm, if_neg (by rintro rfl; exact hn1 hj)]
      exact h j (List.mem_cons_of_mem _ hj))
    have e : (mdelete i m).filter (fun p => decide (p.1 ∉ ids)) = m.filter fun p => decide (p.1 ∉ i :: ids) := by
      rw [mdel_filter _ _ hm, List.filter_filter]
      apply List.filter_congr
      intro p _
      rw [Bool.eq_iff_iff]
      simp [not_or, and_comm]
    rw [← e]; exact key

/-- What is known at all times. -/
structure AInv (a : AW) : Prop where
  keys : (mkeys a.pl).Nodup
  late : ∀ p ∈ a.pl, a.now < p.2

theorem tick_fires {a : AW} (h : AInv a) : Fires ((sorted (due (a.now + 1) a.pl)).map fun i => ⟨a.now + 1, i⟩) a.pl (tickA a).pl ∧ AInv (tickA a) := by
  have hd : (due (a.now + 1) a.pl).Nodup := (List.filter_sublist.map _).nodup h.keys
  have hs : (sorted (due (a.now + 1) a.pl)).Nodup := (sorted_perm _).nodup_iff.2 hd
  have hm : ∀ i, i ∈ sorted (due (a.now + 1) a.pl) ↔ (i, a.now + 1) ∈ a.pl := by
    intro i
    rw [(sorted_perm _).mem_iff]
    unfold due
    simp only [List.mem_map, List.mem_filter, decide_eq_true_eq]
    constructor
    · rintro ⟨p, ⟨hp, he⟩, rfl⟩; rw [← he]; exact hp
    · intro hp; exact ⟨_, ⟨hp, rfl⟩, rfl⟩
  have key := fires_ids (a.now + 1) _ a.pl h.keys hs (fun i hi => mget_of_mem a.pl h.keys (i, a.now + 1) ((hm i).1 hi))
  have e : a.pl.filter (fun p => decide (p.1 ∉ sorted (due (a.now + 1) a.pl))) = (tickA a).pl := by
    show _ = a.pl.filter _
    apply List.filter_congr
    intro p hp
    have g := mget_of_mem a.pl h.keys p hp
    by_cases hc : p.1 ∈ sorted (due (a.now + 1) a.pl)
    · have := mget_of_mem a.pl h.keys _ ((hm _).1 hc)
      rw [g] at this
      have := Option.some.inj this
      simp [hc, this]
    · have : ¬ p.2 = a.now + 1 := by
        intro he
        exact hc ((hm _).2 (by rw [← he]; exact hp))
      simp [hc, this]
  rw [e] at key
  refine ⟨key, keys_filter _ _ h.keys, ?_⟩
  intro p hp
  obtain ⟨h1, h2⟩ := List.mem_filter.1 (show p ∈ a.pl.filter _ from hp)
  have := h.late p h1
  simp at h2
  show a.now + 1 < p.2
  omega

def size (a : AW) : Nat := a.fi.length + a.pl.length
theorem size_tick (a : AW) : size (tickA a) = size a := by
  have h1 : ((sorted (due (a.now + 1) a.pl)).map fun i => (⟨a.now + 1, i⟩ : Api_Fired)).length = (a.pl.filter fun p => decide (p.2 = a.now + 1)).length := by
    rw [List.length_map, (sorted_perm _).length_eq]; unfold due; rw [List.length_map]
  have h2 : ∀ (l : List (Int × Int)), (l.filter fun p => decide (p.2 = a.now + 1)).length + (l.filter fun p => decide (p.2 ≠ a.now + 1)).length = l.length := by
    intro l
    induction l with
    | nil => rfl
    | cons p l ih =>
      by_cases hc : p.2 = a.now + 1
      · simp only [List.filter_cons, hc, decide_true, if_true, ne_eq, not_true_eq_false, decide_false, Bool.false_eq_true, if_false, List.length_cons]; simp only [ne_eq] at ih; omega
      · simp only [List.filter_cons, hc, decide_true, if_true, ne_eq, not_false_eq_true, decide_false, Bool.false_eq_true, if_false, List.length_cons]; simp only [ne_eq] at ih; omega
  have h2 := h2 a.pl
  unfold size tickA
  simp only [List.length_append]
  rw [h1]
  omega

theorem ticks_fires : ∀ (d : Nat) {a : AW}, AInv a → ∃ new, (ticksA d a).fi = a.fi ++ new ∧ Fires new a.pl (ticksA d a).pl ∧ (∀ f ∈ new, a.now < f.At ∧ f.At ≤ a.now + d) ∧ AInv (ticksA d a) ∧ (ticksA d a).now = a.now + d ∧ size (ticksA d a) = size a
  | 0, a, h => ⟨[], by simp [ticksA], rfl, by simp, h, by simp [ticksA], rfl⟩
  | d + 1, a, h => by
    obtain ⟨t1, t2⟩ := tick_fires h
    obtain ⟨new, e1, e2, e3, e4, e5, e6⟩ := ticks_fires d t2
    refine ⟨_, ?_, t1.append e2, ?_, e4, ?_, ?_⟩
    · show (ticksA d (tickA a)).fi = _
      rw [e1]; simp only [tickA, List.append_assoc]
    · intro f hf
      rcases List.mem_append.1 hf with hf | hf
      · obtain ⟨i, -, rfl⟩ := List.mem_map.1 hf
        show a.now < a.now + 1 ∧ a.now + 1 ≤ _
        omega
      · have := e3 f hf
        have e : (tickA a).now = a.now + 1 := rfl
        rw [e] at this
        omega
    · show (ticksA d (tickA a)).now = _
      rw [e5]
      have e : (tickA a).now = a.now + 1 := rfl
      rw [e]; omega
    · show size (ticksA d (tickA a)) = _
      rw [e6, size_tick]

theorem len_mdel {m : List (Int × Int)} (k : Int) (h : (mkeys m).Nodup) : (mdelete k m).length ≤ m.length := by
  rw [mdel_filter _ _ h]; exact List.length_filter_le _ _

theorem do_inv {a : AW} (h : AInv a) (o : Api_TimerOp) : AInv (doA a o).2 ∧ (∃ new, (doA a o).2.fi = a.fi ++ new ∧ ∀ f ∈ new, a.now < f.At) ∧ size (doA a o).2 ≤ size a + 1 ∧ a.now ≤ (doA a o).2.now ∧ (doA a o).2.now ≤ a.now + 2000 := by
  have triv : ∀ x : Int, AInv ((x, a) : Int × AW).2 ∧ (∃ new, ((x, a) : Int × AW).2.fi = a.fi ++ new ∧ ∀ f ∈ new, a.now < f.At) ∧ size ((x, a) : Int × AW).2 ≤ size a + 1 ∧ a.now ≤ ((x, a) : Int × AW).2.now ∧ ((x, a) : Int × AW).2.now ≤ a.now + 2000 :=
    fun x => ⟨h, ⟨[], by simp, by simp⟩, by show size a ≤ _; omega, by show a.now ≤ a.now; omega, by show a.now ≤ _; omega⟩
  unfold doA
  by_cases k1 : o.Kind = 1
  · rw [if_pos k1]
    by_cases hr : o.Ticks < 1 ∨ o.Ticks > 511
    · rw [if_pos hr]; exact triv _
    · rw [if_neg hr]
      cases hg : mget o.Id a.pl with
      | some v => exact triv _
      | none =>
        have e : (mput o.Id (a.now + o.Ticks) a.pl) = a.pl ++ [(o.Id, a.now + o.Ticks)] := mput_new _ _ _ hg
        refine ⟨⟨nodup_mput _ _ _ h.keys, ?_⟩, ⟨[], by simp, by simp⟩, ?_, by simp, by simp; omega⟩
        · intro p hp
          have hp : p ∈ mput o.Id (a.now + o.Ticks) a.pl := hp
          rw [e] at hp
          rcases List.mem_append.1 hp with hp | hp
          · exact h.late p hp
          · rw [List.mem_singleton.1 hp]; show a.now < a.now + o.Ticks; omega
        · show a.fi.length + (mput o.Id (a.now + o.Ticks) a.pl).length ≤ a.fi.length + a.pl.length + 1
          rw [e]; simp; omega
  · rw [if_neg k1]
    by_cases k2 : o.Kind = 2
    · rw [if_pos k2]
      cases hg : mget o.Id a.pl with
      | none => exact triv _
      | some v =>
        refine ⟨⟨nodup_mdelete _ _ h.keys, ?_⟩, ⟨[], by simp, by simp⟩, ?_, by simp, by simp; omega⟩
        · intro p hp
          have hp : p ∈ mdelete o.Id a.pl := hp
          rw [mdel_filter _ _ h.keys] at hp
          exact h.late p (List.mem_filter.1 hp).1
        · have := len_mdel o.Id h.keys
          show a.fi.length + (mdelete o.Id a.pl).length ≤ a.fi.length + a.pl.length + 1
          omega
    · rw [if_neg k2]
      by_cases k3 : o.Kind = 3
      · rw [if_pos k3]
        by_cases hr : o.Ticks < 0 ∨ o.Ticks > 2000
        · rw [if_pos hr]; exact triv _
        · rw [if_neg hr]
          obtain ⟨new, e1, e2, e3, e4, e5, e6⟩ := ticks_fires o.Ticks.toNat h
          refine ⟨e4, ⟨new, e1, fun f hf => (e3 f hf).1⟩, ?_, ?_, ?_⟩
          · show size (ticksA _ a) ≤ _; omega
          · show _ ≤ (ticksA _ a).now; omega
          · show (ticksA _ a).now ≤ _; omega
      · rw [if_neg k3]; exact triv _

theorem run_inv : ∀ (r : List Api_TimerOp) {a : AW}, AInv a → AInv (runA a r) ∧ (∃ new, (runA a r).fi = a.fi ++ new ∧ ∀ f ∈ new, a.now < f.At) ∧ size (runA a r) ≤ size a + r.length
  | [], a, h => ⟨h, ⟨[], by simp [runA], by simp⟩, by simp [runA]⟩
  | o :: r, a, h => by
    obtain ⟨i1, ⟨n1, j1, k1⟩, s1, t1, -⟩ := do_inv h o
    obtain ⟨i2, ⟨n2, j2, k2⟩, s2⟩ := run_inv r i1
    refine ⟨i2, ⟨n1 ++ n2, ?_, ?_⟩, ?_⟩
    · show (runA (doA a o).2 r).fi = _
      rw [j2, j1, List.append_assoc]
    · intro f hf
      rcases List.mem_append.1 hf with hf | hf
      · exact k1 f hf
      · have := k2 f hf; omega
    · show size (runA (doA a o).2 r) ≤ _
      simp only [List.length_cons]; omega

theorem ainv0 : AInv a0A := ⟨List.nodup_nil, fun p hp => by cases hp⟩


/-- The law's inner loop: what fires in one step. -/
theorem l2_run (ops : List Api_TimerOp) (r4 : (List Int) × (List Api_Fired) × Int × Int) (now : Int) (x16 : Int) (i : Nat) (m18 : List (Int × Int)) (K : Int → List (Int × Int) → Option Bool) (T : Int)
    (hT : IntKind.i64.wrap (now + (ops.getD i (⟨0, 0, 0⟩ : Api_TimerOp)).Ticks) = T) (hF : r4.2.1.length ≤ 1000) (rest : List Api_Fired) (hr : ∀ f ∈ rest, T < f.At) :
    ∀ (new : List Api_Fired) (k : Nat) (m m' : List (Int × Int)) (n : Nat), r4.2.1.drop k = new ++ rest → k + (new.length + rest.length) = r4.2.1.length → (∀ f ∈ new, f.At ≤ T) → Fires new m m' →
      keep_WheelOnTime_l2 ops r4 now x16 i m18 K (n + 1 + new.length) (k : Int) m = K ((k + new.length : Nat) : Int) m'
  | [], k, m, m', n, hk, hl, _, hf => by
    have hf : m' = m := hf
    subst hf
    simp only [List.length_nil, Nat.add_zero] at hl ⊢
    unfold keep_WheelOnTime_l2
    rw [hT]
    cases rest with
    | nil =>
      simp only [List.length_nil] at hl
      have c : decide ((k : Int) < ((r4.2.1.length : Nat) : Int)) = false := by simp; omega
      rw [c]
      rw [if_pos (by intro h; cases h), Bool.false_and, cond_false]
    | cons g rest =>
      obtain ⟨g1, g2, -⟩ := getD_drop (⟨0, 0⟩ : Api_Fired) (show r4.2.1.drop k = g :: rest from hk)
      have c : decide ((k : Int) < ((r4.2.1.length : Nat) : Int)) = true := by simp; omega
      have := hr g List.mem_cons_self
      rw [c, if_pos (fun _ => by omega), Bool.true_and, Int.toNat_natCast, Nat.zero_add, g1, show decide (g.At ≤ T) = false by simp; omega, cond_false]
  | f :: new, k, m, m', n, hk, hl, ha, hf => by
    obtain ⟨g1, g2, g3⟩ := getD_drop (⟨0, 0⟩ : Api_Fired) (show r4.2.1.drop k = f :: (new ++ rest) from hk)
    obtain ⟨f1, f2⟩ := hf
    have c : decide ((k : Int) < ((r4.2.1.length : Nat) : Int)) = true := by simp; omega
    have hat := ha f List.mem_cons_self
    simp only [List.length_cons] at hl ⊢
    rw [show n + 1 + (new.length + 1) = (n + 1 + new.length) + 1 by omega]
    unfold keep_WheelOnTime_l2
    rw [hT, c, if_pos (fun _ => by omega), Bool.true_and, Int.toNat_natCast, Nat.zero_add, g1, show decide (f.At ≤ T) = true by simp; omega, cond_true, if_pos (by omega), if_pos (fun _ => by omega), f1]
    rw [show (!(some f.At).isSome || (((some f.At).getD 0 : Int) != f.At)) = false by simp, cond_false, if_pos (by omega), wrapb (by omega) (by omega)]
    rw [show ((k : Nat) : Int) + 1 = ((k + 1 : Nat) : Int) by omega]
    rw [l2_run ops r4 now x16 i m18 K T hT hF rest hr new (k + 1) _ m' n g3 (by omega) (fun g hg => ha g (List.mem_cons_of_mem _ hg)) f2]
    rw [show k + 1 + new.length = k + (new.length + 1) by omega]

/-- The law's loop. -/
theorem l1_run (ops : List Api_TimerOp) (r4 : (List Int) × (List Api_Fired) × Int × Int) (hops : ops.length ≤ 400) : ∀ (r : List Api_TimerOp) (a : AW) (i n : Nat),
    ops.drop i = r → i + r.length = ops.length → r4.1.drop i = errsA a r → r4.1.length = ops.length → r4.2.1 = (runA a r).fi → r4.2.2.1 = (((runA a r).pl.length : Nat) : Int) →
    AInv a → size a ≤ i → 0 ≤ a.now → a.now ≤ 2000 * i →
    keep_WheelOnTime_l1 ops r4 (n + 1 + r.length) a.now (a.fi.length : Int) i a.pl = some true
  | [], a, i, n, hd, hl, he, hel, hf, hp, hi, hs, h0, hn => by
    simp only [List.length_nil, Nat.add_zero] at hl ⊢
    unfold keep_WheelOnTime_l1
    have c : decide ((((i : Nat) : Int) : Int) < ((ops.length : Nat) : Int)) = false := dec_ge (by omega)
    rw [c, cond_false, hf, hp]
    simp [runA]
  | o :: r, a, i, n, hd, hl, he, hel, hf, hp, hi, hs, h0, hn => by
    simp only [List.length_cons] at hl ⊢
    obtain ⟨o1, o2, o3⟩ := getD_drop (⟨0, 0, 0⟩ : Api_TimerOp) hd
    obtain ⟨e1, e2, e3⟩ := getD_drop (0 : Int) (show r4.1.drop i = (doA a o).1 :: errsA (doA a o).2 r from he)
    obtain ⟨i1, ⟨new, j1, k1⟩, s1, t1, t2⟩ := do_inv hi o
    obtain ⟨i2, ⟨rest, j2, k2⟩, s2⟩ := run_inv r i1
    have ih := l1_run ops r4 hops r (doA a o).2 (i + 1) n o3 (by omega) e3 hel hf hp i1 (by omega) (by omega) (by omega)
    rw [show n + 1 + (r.length + 1) = (n + 1 + r.length) + 1 by omega]
    have hF : r4.2.1 = (doA a o).2.fi ++ rest := by rw [hf]; exact j2
    have hsz : size (runA (doA a o).2 r) ≤ 400 := by omega
    have hlF : r4.2.1.length ≤ 1000 := by
      have : (runA (doA a o).2 r).fi.length ≤ size (runA (doA a o).2 r) := by unfold size; omega
      rw [hf]
      show (runA (doA a o).2 r).fi.length ≤ _
      omega
    unfold keep_WheelOnTime_l1
    rw [dec_lt (by omega), cond_true, if_pos (by omega), Nat.zero_add, e1, o1]
    unfold doA at ih t1 t2 j1 i1 hF k2 ⊢
    by_cases k1 : o.Kind = 1
    · rw [if_pos k1] at ih t1 t2 j1 i1 hF k2 ⊢
      by_cases hr : o.Ticks < 1 ∨ o.Ticks > 511
      · rw [if_pos hr] at ih ⊢
        rw [show ((2 : Int) != 0) = true from rfl, cond_true]
        exact ih
      · rw [if_neg hr] at ih ⊢
        cases hg : mget o.Id a.pl with
        | some v =>
          rw [hg] at ih
          rw [show (((if (some v).isSome = true then ((6 : Int), a) else (0, ⟨a.now, mput o.Id (a.now + o.Ticks) a.pl, a.fi⟩)).1 : Int) != 0) = true from rfl, cond_true]
          exact ih
        | none =>
          rw [hg] at ih
          rw [show (((if (none : Option Int).isSome = true then ((6 : Int), a) else (0, ⟨a.now, mput o.Id (a.now + o.Ticks) a.pl, a.fi⟩)).1 : Int) != 0) = false from rfl, cond_false, show (o.Kind == 1) = true by rw [k1]; rfl, cond_true, wrapb (by omega) (by omega)]
          exact ih
    · rw [if_neg k1] at ih t1 t2 j1 i1 hF k2 ⊢
      by_cases k2' : o.Kind = 2
      · rw [if_pos k2'] at ih ⊢
        cases hg : mget o.Id a.pl with
        | none =>
          rw [hg] at ih
          rw [show (((if (none : Option Int).isSome = true then ((0 : Int), (⟨a.now, mdelete o.Id a.pl, a.fi⟩ : AW)) else (3, a)).1 : Int) != 0) = true from rfl, cond_true]
          exact ih
        | some v =>
          rw [hg] at ih
          rw [show (((if (some v).isSome = true then ((0 : Int), (⟨a.now, mdelete o.Id a.pl, a.fi⟩ : AW)) else (3, a)).1 : Int) != 0) = false from rfl, cond_false, show (o.Kind == 1) = false by rw [k2']; rfl, cond_false, show (o.Kind == 2) = true by rw [k2']; rfl, cond_true]
          exact ih
      · rw [if_neg k2'] at ih t1 t2 j1 i1 hF k2 ⊢
        by_cases k3 : o.Kind = 3
        · rw [if_pos k3] at ih t1 t2 j1 i1 hF k2 ⊢
          by_cases hr : o.Ticks < 0 ∨ o.Ticks > 2000
          · rw [if_pos hr] at ih ⊢
            rw [show ((2 : Int) != 0) = true from rfl, cond_true]
            exact ih
          · rw [if_neg hr] at ih t1 t2 j1 i1 hF k2 ⊢
            rw [show ((0 : Int) != 0) = false from rfl, cond_false, show (o.Kind == 1) = false by rw [k3]; rfl, cond_false, show (o.Kind == 2) = false by rw [k3]; rfl, cond_false]
            simp only at ih t1 t2 j1 i1 hF k2
            obtain ⟨new', f1, f2, f3, f4, f5, f6⟩ := ticks_fires o.Ticks.toNat hi
            have hw : IntKind.i64.wrap (a.now + o.Ticks) = (ticksA o.Ticks.toNat a).now := by rw [f5, wrapb (by omega) (by omega)]; omega
            have hdrop : r4.2.1.drop a.fi.length = new' ++ rest := by
              rw [hF, f1, List.append_assoc, List.drop_left]
            have hlen : a.fi.length + (new'.length + rest.length) = r4.2.1.length := by rw [hF, f1]; simp
            obtain ⟨q, hq⟩ : ∃ q, FUEL = q + 1 + new'.length := ⟨FUEL - 1 - new'.length, by unfold FUEL; omega⟩
            rw [hq, l2_run ops r4 a.now _ i a.pl _ (ticksA o.Ticks.toNat a).now (by rw [o1]; exact hw) hlF rest k2 new' a.fi.length a.pl (ticksA o.Ticks.toNat a).pl q hdrop hlen (fun f hf => by have := f3 f hf; omega) f2]
            have hany : (ticksA o.Ticks.toNat a).pl.any (fun (p45 : (Int × Int)) => (decide ((p45.2 : Int) ≤ (IntKind.i64.wrap (a.now + o.Ticks))))) = false := by
              rw [List.any_eq_false]
              intro p hp
              have := f4.late p hp
              rw [hw]; simp; omega
            rw [hany, cond_false, hw]
            have e : a.fi.length + new'.length = (ticksA o.Ticks.toNat a).fi.length := by rw [f1]; simp
            rw [e]
            exact ih
        · rw [if_neg k3] at ih ⊢
          rw [show ((5 : Int) != 0) = true from rfl, cond_true]
          exact ih

theorem errsA_length : ∀ (ops : List Api_TimerOp) (a : AW), (errsA a ops).length = ops.length
  | [], _ => rfl
  | o :: r, a => by unfold errsA; rw [List.length_cons, List.length_cons, errsA_length r]

theorem WheelOnTime_true (a0 : List Api_TimerOp) (h0 : a0.length * 24 ≤ 140737488351232 ∧ ∀ y ∈ a0, (Ok_Api_TimerOp y)) : keep_WheelOnTime a0 = some true := by
  unfold keep_WheelOnTime
  rw [alive, Option.bind_some, show (!true) = false from rfl, cond_false]
  by_cases h : a0.length ≤ 400
  · rw [play_abs a0 h, Option.bind_some]
    have hl := errsA_length a0 a0A
    rw [show ((((0 : Int) : Int) != 0) || ((((((errsA a0A a0).length : Nat) : Int)) : Int) != ((a0.length : Nat) : Int))) = false by rw [hl]; simp, cond_false]
    obtain ⟨n, hF⟩ : ∃ n, FUEL = n + 1 + a0.length := ⟨FUEL - 1 - a0.length, by unfold FUEL; omega⟩
    rw [hF]
    exact l1_run a0 (errsA a0A a0, (runA a0A a0).fi, (((runA a0A a0).pl.length : Nat) : Int), 0) h a0 a0A 0 n rfl (by omega) rfl hl rfl rfl ainv0 (by decide) (by decide) (by decide)
  · rw [play_big a0 h]
    rfl

end Go.Proofs.Ytjfadbefmhokeaa
