/- Plain laws of wait. -/
import Derived.Test.YtgelldlehahabaaQTM
import Derived.Test.YtgelldlehahabaaPLib
import Derived.Test.YtgelldlehahabaaQTK
set_option linter.unusedSimpArgs false
set_option linter.unusedVariables false
namespace Go.Proofs.Ytgelldlehahabaa
open Go Go.Ab

theorem alive15_eq : keep_alive15 = some true := by decide +kernel
abbrev Q := Wait_queue
abbrev Wo := Api_WaitOp
def wkq (q : Q) (x : Int) : Bool := (mget x q.woken_).getD false
def slq (q : Q) (x : Int) : Bool := (mget x q.sleeps_).getD false
theorem beqT {a b : Int} (h : a = b) : ((a : Int) == b) = true := by simpa using h
theorem beqF {a b : Int} (h : ¬ a = b) : ((a : Int) == b) = false := by simpa using h

def wakeF (q : Q) : Bool × Q :=
  match q.line_.find? (fun x => !wkq q x) with
  | none => (false, q)
  | some x => (true, ⟨q.things_, q.line_, mput x true q.woken_, mdelete x q.sleeps_, q.got_⟩)
theorem wake_l1_eq (q : Q) : ∀ n k, k ≤ q.line_.length → q.line_.length - k < n → wait_queue_wake_l1 q n k = some (match (q.line_.drop k).find? (fun x => !wkq q x) with
  | none => (false, q)
  | some x => (true, ⟨q.things_, q.line_, mput x true q.woken_, mdelete x q.sleeps_, q.got_⟩)) := by
  intro n
  induction n with
  | zero => intro k h1 h2; omega
  | succ n ih =>
    intro k h1 h2
    unfold wait_queue_wake_l1
    rcases Nat.lt_or_ge k q.line_.length with hlt | hge
    · simp only [dec_lt hlt, cond_true, Nat.zero_add, getD_lt _ _ hlt]
      rw [List.drop_eq_getElem_cons hlt, List.find?_cons]
      change (bif !wkq q q.line_[k] then _ else _) = _
      cases hw : wkq q q.line_[k] with
      | true =>
        rw [Bool.not_true, cond_false]
        exact ih (k + 1) (by omega) (by omega)
      | false => rfl
    · rw [dec_ge hge, cond_false, List.drop_of_length_le hge]; rfl
theorem wake_eq (q : Q) (h : q.line_.length ≤ 1000) : wait_queue_wake q = some (wakeF q) := by
  unfold wait_queue_wake wakeF
  rw [wake_l1_eq q FUEL 0 (by omega) (fuel_gt (by omega)), List.drop_zero]

def leaveF (q : Q) (x : Int) : Q := ⟨q.things_, q.line_.filter (fun y => !(y == x)), mdelete x q.woken_, mdelete x q.sleeps_, q.got_⟩
theorem leave_eq (q : Q) (x : Int) (h : q.line_.length ≤ 1000) : wait_queue_leave q x = some (leaveF q x) := by
  unfold wait_queue_leave leaveF slices_Clone_int
  have hf : ∀ y, wait_queue_leave_1 y x = some (y == x) := fun y => rfl
  rw [if_pos (by omega), Option.bind_some, slices_DeleteFunc_int_wait_queue_leave_1_h0_eq x hf _ (by omega), Option.bind_some]

structure Inv (q : Q) (k : Nat) : Prop where
  nd : q.line_.Nodup
  rg : ∀ x ∈ q.line_, 0 ≤ x ∧ x ≤ 63
  kw : (mkeys q.woken_).Nodup
  ks : (mkeys q.sleeps_).Nodup
  sl : ∀ x, slq q x = true → x ∈ q.line_ ∧ wkq q x = false
  t : 0 ≤ q.things_ ∧ q.things_ ≤ 400
  nv : 0 < q.things_ → (∃ y, slq q y = true) → ∃ x ∈ q.line_, slq q x = false
  g : q.got_.length ≤ k
theorem Inv.len {q : Q} {k : Nat} (h : Inv q k) : q.line_.length ≤ 64 := nodup_range_len _ 64 h.nd fun x hx => by have := h.rg x hx; omega
theorem Inv.up {q : Q} {k : Nat} (h : Inv q k) : Inv q (k + 1) := ⟨h.nd, h.rg, h.kw, h.ks, h.sl, h.t, h.nv, by have := h.g; omega⟩

theorem slq_delete (q : Q) (hs : (mkeys q.sleeps_).Nodup) (t : Int) (l : List Int) (w : List (Int × Bool)) (g : List Int) (x y : Int) : slq ⟨t, l, w, mdelete x q.sleeps_, g⟩ y = if y = x then false else slq q y := by
  unfold slq
  simp only
  rw [mget_mdelete _ _ _ hs]
  split <;> rfl
theorem wkq_delete (q : Q) (hs : (mkeys q.woken_).Nodup) (t : Int) (l : List Int) (s : List (Int × Bool)) (g : List Int) (x y : Int) : wkq ⟨t, l, mdelete x q.woken_, s, g⟩ y = if y = x then false else wkq q y := by
  unfold wkq
  simp only
  rw [mget_mdelete _ _ _ hs]
  split <;> rfl
theorem wkq_put (q : Q) (t : Int) (l : List Int) (s : List (Int × Bool)) (g : List Int) (x y : Int) : wkq ⟨t, l, mput x true q.woken_, s, g⟩ y = if y = x then true else wkq q y := by
  unfold wkq
  simp only
  rw [mget_mput]
  split <;> rfl
theorem slq_put (q : Q) (t : Int) (l : List Int) (w : List (Int × Bool)) (g : List Int) (x y : Int) : slq ⟨t, l, w, mput x true q.sleeps_, g⟩ y = if y = x then true else slq q y := by
  unfold slq
  simp only
  rw [mget_mput]
  split <;> rfl

/-- All that holds but for the law itself. -/
structure Base (q : Q) (k : Nat) : Prop where
  nd : q.line_.Nodup
  rg : ∀ x ∈ q.line_, 0 ≤ x ∧ x ≤ 63
  kw : (mkeys q.woken_).Nodup
  ks : (mkeys q.sleeps_).Nodup
  sl : ∀ x, slq q x = true → x ∈ q.line_ ∧ wkq q x = false
  t : 0 ≤ q.things_ ∧ q.things_ ≤ 400
  g : q.got_.length ≤ k
theorem Inv.base {q : Q} {k : Nat} (h : Inv q k) : Base q k := ⟨h.nd, h.rg, h.kw, h.ks, h.sl, h.t, h.g⟩
theorem wake_parts (q : Q) : (wakeF q).2.things_ = q.things_ ∧ (wakeF q).2.line_ = q.line_ ∧ (wakeF q).2.got_ = q.got_ := by
  unfold wakeF; split <;> exact ⟨rfl, rfl, rfl⟩
theorem wake_inv {q : Q} {k : Nat} (h : Base q k) : Inv (wakeF q).2 k := by
  unfold wakeF
  split
  · rename_i hf
    rw [List.find?_eq_none] at hf
    refine ⟨h.nd, h.rg, h.kw, h.ks, h.sl, h.t, fun _ ⟨y, hy⟩ => ?_, h.g⟩
    obtain ⟨h1, h2⟩ := h.sl y hy
    exact absurd (by simp [h2]) (hf y h1)
  · rename_i x hf
    have hx := List.find?_some hf
    have hm := List.mem_of_find?_eq_some hf
    have hsx : ∀ y, slq ⟨q.things_, q.line_, mput x true q.woken_, mdelete x q.sleeps_, q.got_⟩ y = if y = x then false else slq q y := slq_delete q h.ks _ _ _ _ x
    refine ⟨h.nd, h.rg, nodup_mput _ _ _ h.kw, nodup_mdelete _ _ h.ks, fun y hy => ?_, h.t, fun _ _ => ⟨x, hm, by rw [hsx]; simp⟩, h.g⟩
    simp only at hy
    rw [hsx] at hy
    by_cases e : y = x
    · rw [if_pos e] at hy; cases hy
    · rw [if_neg e] at hy
      obtain ⟨h1, h2⟩ := h.sl y hy
      exact ⟨h1, by show wkq _ y = false; rw [wkq_put, if_neg e]; exact h2⟩
theorem leave_base {q : Q} {k : Nat} (h : Base q k) (x : Int) : Base (leaveF q x) k := by
  have hsx : ∀ y, slq (leaveF q x) y = if y = x then false else slq q y := slq_delete q h.ks _ _ _ _ x
  have hwx : ∀ y, wkq (leaveF q x) y = if y = x then false else wkq q y := wkq_delete q h.kw _ _ _ _ x
  refine ⟨h.nd.filter _, fun y hy => h.rg y (List.mem_filter.1 hy).1, nodup_mdelete _ _ h.kw, nodup_mdelete _ _ h.ks, fun y hy => ?_, h.t, h.g⟩
  rw [hsx] at hy
  by_cases e : y = x
  · rw [if_pos e] at hy; cases hy
  · rw [if_neg e] at hy
    obtain ⟨h1, h2⟩ := h.sl y hy
    exact ⟨List.mem_filter.2 ⟨h1, by simpa using e⟩, by rw [hwx, if_neg e]; exact h2⟩

/-- All are woken. -/
theorem all_eq (a0 : Q) : ∀ n (q : Q), q.line_.countP (fun x => !wkq q x) < n → ∀ k, Base q k →
    ∃ q', wait_queue_do_l1 a0 n q.things_ q.line_ q.woken_ q.sleeps_ q.got_ = some (0, q') ∧ q'.things_ = q.things_ ∧ q'.line_ = q.line_ ∧ q'.got_ = q.got_ ∧ Base q' k ∧ ∀ x ∈ q'.line_, wkq q' x = true := by
  intro n
  induction n with
  | zero => intro q h; omega
  | succ n ih =>
    intro q hc k hb
    have hl : q.line_.length ≤ 64 := nodup_range_len _ 64 hb.nd fun x hx => by have := hb.rg x hx; omega
    unfold wait_queue_do_l1
    rw [show (⟨q.things_, q.line_, q.woken_, q.sleeps_, q.got_⟩ : Q) = q from rfl, wake_eq q (by omega), Option.bind_some]
    have hw := wake_inv hb
    unfold wakeF at hw ⊢
    cases hf : q.line_.find? (fun x => !wkq q x) with
    | none =>
      rw [List.find?_eq_none] at hf
      exact ⟨q, rfl, rfl, rfl, rfl, hb, fun x hx => by simpa using hf x hx⟩
    | some x =>
      rw [hf] at hw
      simp only at hw ⊢
      have hm := List.mem_of_find?_eq_some hf
      have hx := List.find?_some hf
      have := ih ⟨q.things_, q.line_, mput x true q.woken_, mdelete x q.sleeps_, q.got_⟩ ?_ k hw.base
      · exact this
      · have hlt : q.line_.countP (fun y => !wkq ⟨q.things_, q.line_, mput x true q.woken_, mdelete x q.sleeps_, q.got_⟩ y) < q.line_.countP (fun y => !wkq q y) := by
          have key : ∀ l : List Int, l.countP (fun y => !wkq ⟨q.things_, q.line_, mput x true q.woken_, mdelete x q.sleeps_, q.got_⟩ y) ≤ l.countP (fun y => !wkq q y) ∧ (x ∈ l → l.countP (fun y => !wkq ⟨q.things_, q.line_, mput x true q.woken_, mdelete x q.sleeps_, q.got_⟩ y) < l.countP (fun y => !wkq q y)) := by
            intro l
            induction l with
            | nil => exact ⟨Nat.le_refl _, fun h => by simp at h⟩
            | cons y l ihl =>
              rw [List.countP_cons, List.countP_cons, wkq_put]
              by_cases e : y = x
              · subst e
                rw [if_pos rfl, if_pos hx]
                simp only [Bool.not_true, Bool.false_eq_true, if_false]
                exact ⟨by omega, fun _ => by omega⟩
              · rw [if_neg e]
                refine ⟨by omega, fun h => ?_⟩
                have := ihl.2 ((List.mem_cons.1 h).resolve_left (fun h => e h.symm))
                omega
          exact (key _).2 hm
        show q.line_.countP _ < n
        omega
def allF (q : Q) : Q := ((wait_queue_do_l1 q FUEL q.things_ q.line_ q.woken_ q.sleeps_ q.got_).getD (0, q)).2
theorem all_spec {q : Q} {k : Nat} (hb : Base q k) : wait_queue_do_l1 q FUEL q.things_ q.line_ q.woken_ q.sleeps_ q.got_ = some (0, allF q) ∧ (allF q).things_ = q.things_ ∧ (allF q).line_ = q.line_ ∧ (allF q).got_ = q.got_ ∧ Base (allF q) k ∧ ∀ x ∈ q.line_, wkq (allF q) x = true := by
  have hl : q.line_.length ≤ 64 := nodup_range_len _ 64 hb.nd fun x hx => by have := hb.rg x hx; omega
  obtain ⟨q', h1, h2, h3, h4, h5, h6⟩ := all_eq q FUEL q (fuel_gt (by have := List.countP_le_length (p := fun x => !wkq q x) (l := q.line_); omega)) k hb
  unfold allF
  rw [h1]
  exact ⟨rfl, h2, h3, h4, h5, fun x hx => h6 x (by rw [h3]; exact hx)⟩
theorem Base.noSleep {q : Q} {k : Nat} (hb : Base q k) (h : ∀ x ∈ q.line_, wkq q x = true) (y : Int) : slq q y = false := by
  cases hs : slq q y with
  | false => rfl
  | true =>
    obtain ⟨h1, h2⟩ := hb.sl y hs
    rw [h y h1] at h2; cases h2
theorem Base.inv {q : Q} {k : Nat} (hb : Base q k) (h : 0 < q.things_ → (∃ y, slq q y = true) → ∃ x ∈ q.line_, slq q x = false) : Inv q k := ⟨hb.nd, hb.rg, hb.kw, hb.ks, hb.sl, hb.t, h, hb.g⟩

def doF (q : Q) (o : Wo) : Int × Q :=
  if o.Kind < 1 ∨ o.Kind > 5 then (5, q) else if o.Thread < 0 ∨ o.Thread > 63 then (2, q)
  else if o.Kind = 1 then (if slq q o.Thread = true then (7, q) else if o.Thread ∈ q.line_ then (0, ⟨q.things_, q.line_, mdelete o.Thread q.woken_, q.sleeps_, q.got_⟩) else (0, ⟨q.things_, q.line_ ++ [o.Thread], mdelete o.Thread q.woken_, q.sleeps_, q.got_⟩))
  else if o.Kind = 2 then (if slq q o.Thread = true then (7, q) else if ¬ o.Thread ∈ q.line_ then (3, q) else if q.things_ = 0 then (6, q) else
    let q1 : Q := leaveF ⟨q.things_ - 1, q.line_, q.woken_, q.sleeps_, q.got_ ++ [o.Thread]⟩ o.Thread
    (0, if 0 < q1.things_ then (wakeF q1).2 else q1))
  else if o.Kind = 3 then (if slq q o.Thread = true then (7, q) else if ¬ o.Thread ∈ q.line_ then (3, q) else if wkq q o.Thread = false ∧ q.things_ = 0 then (0, ⟨q.things_, q.line_, q.woken_, mput o.Thread true q.sleeps_, q.got_⟩) else (0, q))
  else if o.Kind = 4 then (if q.things_ = 400 then (4, q) else (0, (wakeF ⟨q.things_ + 1, q.line_, q.woken_, q.sleeps_, q.got_⟩).2))
  else (0, allF q)
theorem do_eq {q : Q} {k : Nat} (h : Inv q k) (hk : k ≤ 8796093022208) (o : Wo) : wait_queue_do q o = some (doF q o) := by
  have hl := h.len
  have hg := h.g
  have ht := h.t
  unfold wait_queue_do doF
  by_cases c1 : o.Kind < 1 ∨ o.Kind > 5
  · have : ((decide ((o.Kind : Int) < 1)) || (decide ((o.Kind : Int) > 5))) = true := by simpa using c1
    rw [this, if_pos c1]; rfl
  have : ((decide ((o.Kind : Int) < 1)) || (decide ((o.Kind : Int) > 5))) = false := by simp; omega
  rw [this, if_neg c1, cond_false]
  by_cases c2 : o.Thread < 0 ∨ o.Thread > 63
  · have : ((decide ((o.Thread : Int) < 0)) || (decide ((o.Thread : Int) > 63))) = true := by simpa using c2
    rw [this, if_pos c2]; rfl
  have : ((decide ((o.Thread : Int) < 0)) || (decide ((o.Thread : Int) > 63))) = false := by simp; omega
  rw [this, if_neg c2, cond_false, slices_Contains_int_eq _ _ (by omega), Option.bind_some]
  rw [show (mget o.Thread q.sleeps_).getD false = slq q o.Thread from rfl, show (mget o.Thread q.woken_).getD false = wkq q o.Thread from rfl]
  by_cases k1 : o.Kind = 1
  · rw [beqT k1, cond_true, if_pos k1]
    cases hs : slq q o.Thread with
    | true => rfl
    | false =>
      rw [cond_false, if_neg (show ¬ ((false : Bool) = true) by decide)]
      by_cases hm : o.Thread ∈ q.line_
      · rw [decide_eq_true hm, if_pos hm]; rfl
      · rw [decide_eq_false hm, if_neg hm, Bool.not_false, cond_true, if_pos (by simp only [List.length_cons, List.length_nil]; omega)]
  rw [beqF k1, cond_false, if_neg k1]
  by_cases k2 : o.Kind = 2
  · rw [beqT k2, cond_true, if_pos k2]
    cases hs : slq q o.Thread with
    | true => rfl
    | false =>
      rw [cond_false, if_neg (show ¬ ((false : Bool) = true) by decide)]
      by_cases hm : o.Thread ∈ q.line_
      · rw [decide_eq_true hm, if_neg (fun h => h hm), Bool.not_true, cond_false]
        by_cases h0 : q.things_ = 0
        · rw [beqT h0, if_pos h0]; rfl
        · rw [beqF h0, if_neg h0, cond_false, wrap_id (by omega) (by omega), leave_eq _ _ (by simp only; omega), Option.bind_some]
          have hgl : (leaveF ⟨q.things_ - 1, q.line_, q.woken_, q.sleeps_, q.got_⟩ o.Thread).got_.length = q.got_.length := rfl
          rw [if_pos (by rw [hgl]; simp only [List.length_cons, List.length_nil]; omega)]
          have hfl := List.length_filter_le (fun y => !(y == o.Thread)) q.line_
          change (bif decide ((q.things_ - 1 : Int) > 0) then (wait_queue_wake (leaveF ⟨q.things_ - 1, q.line_, q.woken_, q.sleeps_, q.got_ ++ [o.Thread]⟩ o.Thread)).bind (fun r23 => some ((0 : Int), r23.2)) else some (0, leaveF ⟨q.things_ - 1, q.line_, q.woken_, q.sleeps_, q.got_ ++ [o.Thread]⟩ o.Thread)) =
            some (0, if 0 < q.things_ - 1 then (wakeF (leaveF ⟨q.things_ - 1, q.line_, q.woken_, q.sleeps_, q.got_ ++ [o.Thread]⟩ o.Thread)).2 else leaveF ⟨q.things_ - 1, q.line_, q.woken_, q.sleeps_, q.got_ ++ [o.Thread]⟩ o.Thread)
          by_cases hp : 0 < q.things_ - 1
          · rw [show decide ((q.things_ - 1 : Int) > 0) = true from decide_eq_true hp, cond_true, wake_eq _ (by show (q.line_.filter _).length ≤ 1000; omega), Option.bind_some, if_pos hp]
          · rw [show decide ((q.things_ - 1 : Int) > 0) = false from decide_eq_false hp, cond_false, if_neg hp]
      · rw [decide_eq_false hm, if_pos hm]; rfl
  rw [beqF k2, cond_false, if_neg k2]
  by_cases k3 : o.Kind = 3
  · rw [beqT k3, cond_true, if_pos k3]
    cases hs : slq q o.Thread with
    | true => rfl
    | false =>
      rw [cond_false, if_neg (show ¬ ((false : Bool) = true) by decide)]
      by_cases hm : o.Thread ∈ q.line_
      · rw [decide_eq_true hm, if_neg (fun h => h hm), Bool.not_true, cond_false]
        by_cases hc : wkq q o.Thread = false ∧ q.things_ = 0
        · have : ((!wkq q o.Thread) && ((q.things_ : Int) == 0)) = true := by rw [hc.1, beqT hc.2]; rfl
          rw [this, if_pos hc]; rfl
        · have : ((!wkq q o.Thread) && ((q.things_ : Int) == 0)) = false := by
            rw [Bool.eq_false_iff]; simpa using hc
          rw [this, if_neg hc]; rfl
      · rw [decide_eq_false hm, if_pos hm]; rfl
  rw [beqF k3, cond_false, if_neg k3]
  by_cases k4 : o.Kind = 4
  · rw [beqT k4, cond_true, if_pos k4]
    by_cases h0 : q.things_ = 400
    · rw [beqT h0, if_pos h0]; rfl
    · rw [beqF h0, if_neg h0, cond_false, wrap_id (by omega) (by omega), wake_eq _ (by simp only; omega), Option.bind_some]
  rw [beqF k4, cond_false, if_neg k4, beqT (by omega), cond_true, (all_spec h.base).1]

theorem doF_inv {q : Q} {k : Nat} (h : Inv q k) (o : Wo) : Inv (doF q o).2 (k + 1) ∧ ((doF q o).1 ≠ 0 → (doF q o).2 = q) ∧
    ((doF q o).1 = 0 → (doF q o).2.things_ + ((doF q o).2.got_.length : Int) = q.things_ + (q.got_.length : Int) + if o.Kind = 4 then 1 else 0) := by
  have hb := h.base
  have ht := h.t
  unfold doF
  by_cases c1 : o.Kind < 1 ∨ o.Kind > 5
  · rw [if_pos c1]; exact ⟨h.up, fun _ => rfl, fun h => by cases h⟩
  rw [if_neg c1]
  by_cases c2 : o.Thread < 0 ∨ o.Thread > 63
  · rw [if_pos c2]; exact ⟨h.up, fun _ => rfl, fun h => by cases h⟩
  rw [if_neg c2]
  by_cases k1 : o.Kind = 1
  · rw [if_pos k1]
    split
    · exact ⟨h.up, fun _ => rfl, fun h => by cases h⟩
    rename_i hs
    have hsf : slq q o.Thread = false := by simpa using hs
    have hw : ∀ (l : List Int) y, wkq ⟨q.things_, l, mdelete o.Thread q.woken_, q.sleeps_, q.got_⟩ y = if y = o.Thread then false else wkq q y := fun l => wkq_delete q h.kw _ l _ _ _
    have hsl : ∀ (l : List Int), (∀ y ∈ q.line_, y ∈ l) → ∀ y, slq ⟨q.things_, l, mdelete o.Thread q.woken_, q.sleeps_, q.got_⟩ y = true → y ∈ l ∧ wkq ⟨q.things_, l, mdelete o.Thread q.woken_, q.sleeps_, q.got_⟩ y = false := by
      intro l hl y hy
      have hy' : slq q y = true := hy
      obtain ⟨h1, h2⟩ := h.sl y hy'
      refine ⟨hl y h1, ?_⟩
      rw [hw]
      split
      · rfl
      · exact h2
    split
    · rename_i hm
      refine ⟨⟨h.nd, h.rg, nodup_mdelete _ _ h.kw, h.ks, hsl _ (fun y hy => hy), h.t, fun _ _ => ⟨o.Thread, hm, hsf⟩, by have := h.g; simp only; omega⟩, (fun h => by first | exact absurd rfl h | exact absurd trivial h), fun _ => ?_⟩
      rw [if_neg (by omega)]; simp
    · rename_i hm
      refine ⟨⟨?_, ?_, nodup_mdelete _ _ h.kw, h.ks, hsl _ (fun y hy => by simp [hy]), h.t, fun _ _ => ⟨o.Thread, by simp, hsf⟩, by have := h.g; simp only; omega⟩, (fun h => by first | exact absurd rfl h | exact absurd trivial h), fun _ => ?_⟩
      · simp only [List.nodup_append]
        exact ⟨h.nd, by simp, fun a ha b hb => by simp at hb; subst hb; exact fun e => hm (e ▸ ha)⟩
      · intro x hx
        simp only [List.mem_append, List.mem_singleton] at hx
        rcases hx with hx | rfl
        · exact h.rg x hx
        · omega
      · rw [if_neg (by omega)]; simp
  rw [if_neg k1]
  by_cases k2 : o.Kind = 2
  · rw [if_pos k2]
    split
    · exact ⟨h.up, fun _ => rfl, fun h => by cases h⟩
    split
    · exact ⟨h.up, fun _ => rfl, fun h => by cases h⟩
    split
    · exact ⟨h.up, fun _ => rfl, fun h => by cases h⟩
    rename_i h0
    have hb1 : Base ⟨q.things_ - 1, q.line_, q.woken_, q.sleeps_, q.got_ ++ [o.Thread]⟩ (k + 1) := ⟨h.nd, h.rg, h.kw, h.ks, h.sl, by simp only; omega, by have := h.g; simp; omega⟩
    have hb2 := leave_base hb1 o.Thread
    generalize hq1 : leaveF ⟨q.things_ - 1, q.line_, q.woken_, q.sleeps_, q.got_ ++ [o.Thread]⟩ o.Thread = q1 at *
    have e1 : q1.things_ = q.things_ - 1 ∧ q1.got_ = q.got_ ++ [o.Thread] := by rw [← hq1]; exact ⟨rfl, rfl⟩
    obtain ⟨w1, w2, w3⟩ := wake_parts q1
    simp only
    split
    · refine ⟨wake_inv hb2, (fun h => by first | exact absurd rfl h | exact absurd trivial h), fun _ => ?_⟩
      rw [w1, w3, e1.1, e1.2, if_neg (by omega)]; simp; omega
    · rename_i hz
      refine ⟨hb2.inv (fun h => absurd h hz), (fun h => by first | exact absurd rfl h | exact absurd trivial h), fun _ => ?_⟩
      rw [e1.1, e1.2, if_neg (by omega)]; simp; omega
  rw [if_neg k2]
  by_cases k3 : o.Kind = 3
  · rw [if_pos k3]
    split
    · exact ⟨h.up, fun _ => rfl, fun h => by cases h⟩
    split
    · exact ⟨h.up, fun _ => rfl, fun h => by cases h⟩
    rename_i hm
    have hm' : o.Thread ∈ q.line_ := Classical.not_not.1 hm
    split
    · rename_i hc
      have hsx : ∀ y, slq ⟨q.things_, q.line_, q.woken_, mput o.Thread true q.sleeps_, q.got_⟩ y = if y = o.Thread then true else slq q y := slq_put q _ _ _ _ _
      refine ⟨⟨h.nd, h.rg, h.kw, nodup_mput _ _ _ h.ks, fun y hy => ?_, h.t, fun hp => ?_, by have := h.g; simp only; omega⟩, (fun h => by first | exact absurd rfl h | exact absurd trivial h), fun _ => ?_⟩
      · rw [hsx] at hy
        by_cases e : y = o.Thread
        · rw [e]; exact ⟨hm', hc.1⟩
        · rw [if_neg e] at hy
          exact h.sl y hy
      · simp only at hp; omega
      · rw [if_neg (by omega)]; simp
    · refine ⟨h.up, fun _ => rfl, fun _ => ?_⟩
      rw [if_neg (by omega)]; simp
  rw [if_neg k3]
  by_cases k4 : o.Kind = 4
  · simp only [if_pos k4]
    by_cases h0 : q.things_ = 400
    · simp only [if_pos h0]
      exact ⟨h.up, by simp, by simp⟩
    · simp only [if_neg h0]
      have hb1 : Base ⟨q.things_ + 1, q.line_, q.woken_, q.sleeps_, q.got_⟩ (k + 1) := ⟨h.nd, h.rg, h.kw, h.ks, h.sl, by simp only; omega, by have := h.g; simp only; omega⟩
      obtain ⟨w1, w2, w3⟩ := wake_parts ⟨q.things_ + 1, q.line_, q.woken_, q.sleeps_, q.got_⟩
      refine ⟨wake_inv hb1, (fun h => by first | exact absurd rfl h | exact absurd trivial h), fun _ => ?_⟩
      rw [w1, w3]; simp only; omega
  simp only [if_neg k4]
  obtain ⟨_, a1, a2, a3, a4, a5⟩ := all_spec hb
  have hns := a4.noSleep (fun x hx => a5 x (by rw [← a2]; exact hx))
  refine ⟨(a4.inv (fun _ ⟨y, hy⟩ => by rw [hns y] at hy; cases hy)).up, (fun h => by first | exact absurd rfl h | exact absurd trivial h), fun _ => ?_⟩
  rw [a1, a3]; simp

theorem doF_1 (q : Q) (x : Int) (hx : 0 ≤ x ∧ x ≤ 63) : doF q ⟨1, x⟩ = (if slq q x = true then (7, q) else if x ∈ q.line_ then (0, ⟨q.things_, q.line_, mdelete x q.woken_, q.sleeps_, q.got_⟩) else (0, ⟨q.things_, q.line_ ++ [x], mdelete x q.woken_, q.sleeps_, q.got_⟩)) := by
  unfold doF
  rw [if_neg (by simp only; omega), if_neg (by simp only; omega), if_pos rfl]
theorem doF_2 (q : Q) (x : Int) (hx : 0 ≤ x ∧ x ≤ 63) : doF q ⟨2, x⟩ = (if slq q x = true then (7, q) else if ¬ x ∈ q.line_ then (3, q) else if q.things_ = 0 then (6, q) else
    (0, if 0 < (leaveF ⟨q.things_ - 1, q.line_, q.woken_, q.sleeps_, q.got_ ++ [x]⟩ x).things_ then (wakeF (leaveF ⟨q.things_ - 1, q.line_, q.woken_, q.sleeps_, q.got_ ++ [x]⟩ x)).2 else leaveF ⟨q.things_ - 1, q.line_, q.woken_, q.sleeps_, q.got_ ++ [x]⟩ x)) := by
  unfold doF
  rw [if_neg (by simp only; omega), if_neg (by simp only; omega), if_neg (by simp only; omega), if_pos rfl]
theorem doF_3 (q : Q) (x : Int) (hx : 0 ≤ x ∧ x ≤ 63) : doF q ⟨3, x⟩ = (if slq q x = true then (7, q) else if ¬ x ∈ q.line_ then (3, q) else if wkq q x = false ∧ q.things_ = 0 then (0, ⟨q.things_, q.line_, q.woken_, mput x true q.sleeps_, q.got_⟩) else (0, q)) := by
  unfold doF
  rw [if_neg (by simp only; omega), if_neg (by simp only; omega), if_neg (by simp only; omega), if_neg (by simp only; omega), if_pos rfl]
theorem doF_4 (q : Q) : doF q ⟨4, 0⟩ = (if q.things_ = 400 then (4, q) else (0, (wakeF ⟨q.things_ + 1, q.line_, q.woken_, q.sleeps_, q.got_⟩).2)) := by
  unfold doF
  rw [if_neg (by simp only; omega), if_neg (by simp only; omega), if_neg (by simp only; omega), if_neg (by simp only; omega), if_neg (by simp only; omega), if_pos rfl]
theorem doF_5 (q : Q) : doF q ⟨5, 0⟩ = (0, allF q) := by
  unfold doF
  rw [if_neg (by simp only; omega), if_neg (by simp only; omega), if_neg (by simp only; omega), if_neg (by simp only; omega), if_neg (by simp only; omega), if_neg (by simp only; omega)]
theorem doF_bad (q : Q) (k x : Int) (hx : x < 0 ∨ x > 63) : (doF q ⟨k, x⟩).2 = q := by
  unfold doF
  split
  · rfl
  · first | rfl | rw [if_pos hx]

def runF (q : Q) : List Wo → List Int × Q
  | [] => ([], q)
  | o :: l => ((doF q o).1 :: (runF (doF q o).2 l).1, (runF (doF q o).2 l).2)
theorem runF_append (q : Q) : ∀ l l', runF q (l ++ l') = ((runF q l).1 ++ (runF (runF q l).2 l').1, (runF (runF q l).2 l').2)
  | [], l' => rfl
  | o :: l, l' => by simp only [runF, List.cons_append, runF_append _ l l']
theorem runF_length (q : Q) : ∀ l, (runF q l).1.length = l.length
  | [] => rfl
  | o :: l => by simp only [runF, List.length_cons, runF_length _ l]
theorem runF_inv {q : Q} {k : Nat} (h : Inv q k) : ∀ l, Inv (runF q l).2 (k + l.length)
  | [] => h
  | o :: l => by
    have := runF_inv (doF_inv h o).1 l
    simp only [runF, List.length_cons]
    rw [show k + (l.length + 1) = k + 1 + l.length by omega]
    exact this
def q0 : Q := ⟨0, [], [], [], []⟩
theorem q0_inv : Inv q0 0 := ⟨by simp [q0], by simp [q0], by simp [q0, mkeys], by simp [q0, mkeys], fun x h => by simp [slq, q0, mget] at h, by simp [q0], fun h => by simp [q0] at h, by simp [q0]⟩

/- who sleeps, in the end -/
theorem idx_Play_l1 (l : List Int) (q : Q) : ∀ n k, k ≤ l.length → l.length - k < n → ∃ x : Int, slices_IndexFunc_int_wait_Play_1_h0_l1 l q n k q.line_ q.woken_ q.sleeps_ q.got_ = some (x, q) ∧
    ((x = -1 ∧ ∀ y ∈ l.drop k, slq q y = true) ∨ ∃ j, k ≤ j ∧ ∃ h : j < l.length, x = (j : Int) ∧ slq q l[j] = false ∧ ∀ y ∈ (l.drop k).take (j - k), slq q y = true) := by
  intro n
  induction n with
  | zero => intro k h1 h2; omega
  | succ n ih =>
    intro k h1 h2
    unfold slices_IndexFunc_int_wait_Play_1_h0_l1 wait_Play_1
    rcases Nat.lt_or_ge k l.length with hlt | hge
    · simp only [dec_lt hlt, cond_true, Nat.zero_add, getD_lt _ _ hlt, Option.bind_some]
      rw [show (mget l[k] q.sleeps_).getD false = slq q l[k] from rfl, List.drop_eq_getElem_cons hlt]
      cases hc : slq q l[k] with
      | false => exact ⟨_, rfl, .inr ⟨k, Nat.le_refl _, hlt, rfl, hc, by simp⟩⟩
      | true =>
        obtain ⟨x, hx, h⟩ := ih (k + 1) (by omega) (by omega)
        refine ⟨x, hx, ?_⟩
        rcases h with ⟨h3, h4⟩ | ⟨j, h3, h4, h5, h6, h7⟩
        · refine .inl ⟨h3, fun y hy => ?_⟩
          rcases List.mem_cons.1 hy with rfl | hy
          · exact hc
          · exact h4 y hy
        · refine .inr ⟨j, by omega, h4, h5, h6, fun y hy => ?_⟩
          rw [show j - k = (j - (k + 1)) + 1 by omega, List.take_succ_cons] at hy
          rcases List.mem_cons.1 hy with rfl | hy
          · exact hc
          · exact h7 y hy
    · rw [dec_ge hge, cond_false, List.drop_of_length_le hge]
      exact ⟨_, rfl, .inl ⟨rfl, by simp⟩⟩
theorem del_Play_l1 (l0 : List Int) (r1 : Int × Q) (q : Q) (hq : r1.2 = q) (l : List Int) (hl : l.length ≤ 140737488355328) : ∀ n (i j : Nat) (l6 : List Int), i ≤ j → j ≤ l.length → l.length - j < n → l6.length = l.length → l6.drop j = l.drop j → l6.take i = (l.take j).filter (fun x => slq q x) →
    slices_DeleteFunc_int_wait_Play_1_h0_l1 l0 r1 n (i : Int) (j : Int) q.line_ q.woken_ q.sleeps_ q.got_ l6 = some (l.filter fun x => slq q x, q) := by
  subst hq
  intro n
  induction n with
  | zero => intro i j l6 _ _ h; omega
  | succ n ih =>
    intro i j l6 h1 h2 h3 h4 h5 h6
    unfold slices_DeleteFunc_int_wait_Play_1_h0_l1 wait_Play_1
    rcases Nat.lt_or_ge j l.length with hlt | hge
    · have hj6 : j < l6.length := by omega
      have hd : decide ((((j : Nat) : Int) : Int) < ((l6.length : Nat) : Int)) = true := by simpa using hj6
      have e1 := List.drop_eq_getElem_cons hj6
      rw [h5, List.drop_eq_getElem_cons hlt] at e1
      have hge6 : l6[j] = l[j] := (List.cons.inj e1).1.symm
      have hdr : l6.drop (j + 1) = l.drop (j + 1) := (List.cons.inj e1).2.symm
      simp only [hd, cond_true, Int.toNat_natCast, Nat.zero_add, Option.bind_some]
      rw [if_pos (by omega), getD_lt _ _ hj6, hge6, wrap_id (x := (j : Int) + 1) (by omega) (by omega)]
      rw [show (mget l[j] r1.2.sleeps_).getD false = slq r1.2 l[j] from rfl]
      cases hc : slq r1.2 l[j] with
      | false =>
        simp only [Bool.not_false, Bool.not_true, cond_false]
        refine ih i (j + 1) l6 (by omega) (by omega) (by omega) h4 hdr ?_
        rw [List.take_succ_eq_append_getElem hlt, List.filter_append, h6]
        simp [hc]
      | true =>
        simp only [Bool.not_true, Bool.not_false, cond_true]
        rw [if_pos (by omega), wrap_id (x := (i : Int) + 1) (by omega) (by omega)]
        refine ih (i + 1) (j + 1) _ (by omega) (by omega) (by omega) (by simp [h4]) ?_ ?_
        · rw [List.drop_set_of_lt (by omega)]; exact hdr
        · rw [List.take_succ_eq_append_getElem (by simp; omega), List.take_set_of_le (Nat.le_refl _), h6, List.getElem_set_self, List.take_succ_eq_append_getElem hlt, List.filter_append]
          simp [hc]
    · have hd : decide ((((j : Nat) : Int) : Int) < ((l6.length : Nat) : Int)) = false := by simp; omega
      simp only [hd, cond_false, Int.toNat_natCast, Nat.zero_add]
      rw [if_pos (by omega), if_pos (by omega), if_pos (by omega), if_pos (by omega), if_pos (by omega)]
      congr 1
      rw [List.take_of_length_le hge] at h6
      rw [← h6]
      unfold cpL
      rw [List.drop_zero, List.append_assoc, Nat.sub_zero, List.take_append_of_le_length (by simp; omega), List.take_take, Nat.min_self]
theorem del_Play (l : List Int) (q : Q) (hl : l.length ≤ 140737488355328) : slices_DeleteFunc_int_wait_Play_1_h0 l q = some (l.filter fun x => slq q x, q) := by
  unfold slices_DeleteFunc_int_wait_Play_1_h0 slices_IndexFunc_int_wait_Play_1_h0
  obtain ⟨x, hx, h⟩ := idx_Play_l1 l q FUEL 0 (by omega) (fuel_gt (by omega))
  rw [hx, Option.bind_some]
  rcases h with ⟨rfl, h⟩ | ⟨j, _, h4, rfl, h6, h7⟩
  · rw [List.drop_zero] at h
    have : l.filter (fun x => slq q x) = l := List.filter_eq_self.2 fun y hy => h y hy
    rw [this]; rfl
  · have hn : (((j : Nat) : Int) == -1) = false := by rw [beq_eq_false_iff_ne]; omega
    simp only [hn, cond_false]
    rw [wrap_id (by omega) (by omega)]
    have hall : (l.take j).filter (fun x => slq q x) = l.take j := List.filter_eq_self.2 fun y hy => h7 y (by simpa using hy)
    refine del_Play_l1 l _ q rfl l hl FUEL j (j + 1) l (by omega) (by omega) (fuel_gt (by omega)) rfl rfl ?_
    rw [List.take_succ_eq_append_getElem h4, List.filter_append, hall]
    simp [h6]

theorem play_l1_eq (a : List Wo) (ha : a.length ≤ 8796093022208) : ∀ n k (acc : List Int) (q : Q), k ≤ a.length → a.length - k < n → acc.length = k → Inv q k →
    wait_Play_l1 a n acc k q.things_ q.line_ q.woken_ q.sleeps_ q.got_ = some (acc ++ (runF q (a.drop k)).1, (runF q (a.drop k)).2.got_, (runF q (a.drop k)).2.line_.filter (fun x => slq (runF q (a.drop k)).2 x), (runF q (a.drop k)).2.things_) := by
  intro n
  induction n with
  | zero => intro k acc q h1 h2; omega
  | succ n ih =>
    intro k acc q h1 h2 hacc hinv
    unfold wait_Play_l1
    rcases Nat.lt_or_ge k a.length with hlt | hge
    · rw [dec_lt hlt, cond_true, getD_lt _ _ hlt, show (⟨q.things_, q.line_, q.woken_, q.sleeps_, q.got_⟩ : Q) = q from rfl, do_eq hinv (by omega) a[k], Option.bind_some]
      simp only [List.length_cons, List.length_nil]
      rw [if_pos (by omega), ih (k + 1) _ _ (by omega) (by omega) (by simp; omega) (doF_inv hinv _).1]
      rw [List.drop_eq_getElem_cons hlt]
      simp only [runF, List.append_assoc, List.cons_append, List.nil_append]
    · rw [dec_ge hge, cond_false]
      have hl := hinv.len
      unfold slices_Clone_int
      rw [if_pos (by omega), Option.bind_some, show (⟨q.things_, q.line_, q.woken_, q.sleeps_, q.got_⟩ : Q) = q from rfl, del_Play _ _ (by omega), Option.bind_some, List.drop_of_length_le hge]
      simp [runF]
def sleepers (q : Q) : List Int := q.line_.filter (fun x => slq q x)
theorem play_eq (a : List Wo) (ha : a.length ≤ 8796093022208) : wait_Play a = some ((runF q0 a).1, (runF q0 a).2.got_, sleepers (runF q0 a).2, (runF q0 a).2.things_) := by
  unfold wait_Play
  have := play_l1_eq a ha FUEL 0 [] q0 (by omega) (fuel_gt (by omega)) rfl q0_inv
  simp only [List.drop_zero, List.nil_append] at this
  exact this
theorem inv_end (a : List Wo) : Inv (runF q0 a).2 a.length := by have := runF_inv q0_inv a; rwa [Nat.zero_add] at this

theorem clone_op (a : List Wo) (h : a.length ≤ 8796093022208) : slices_Clone_api_WaitOp a = some a := by
  unfold slices_Clone_api_WaitOp; rw [if_pos (by omega)]

/-- Gives that were right. -/
def gives : List Int → List Wo → Int
  | e :: es, o :: os => (if e = 0 ∧ o.Kind = 4 then 1 else 0) + gives es os
  | _, _ => 0
theorem gives_run {q : Q} {k : Nat} (h : Inv q k) : ∀ l, (runF q l).2.things_ + ((runF q l).2.got_.length : Int) = q.things_ + (q.got_.length : Int) + gives (runF q l).1 l
  | [] => by simp [runF, gives]
  | o :: l => by
    obtain ⟨h1, h2, h3⟩ := doF_inv h o
    have ih := gives_run h1 l
    simp only [runF, gives]
    rw [ih]
    by_cases he : (doF q o).1 = 0
    · have := h3 he
      by_cases hk : o.Kind = 4
      · rw [if_pos hk] at this; rw [if_pos ⟨he, hk⟩]; omega
      · rw [if_neg hk] at this; rw [if_neg (fun h => hk h.2)]; omega
    · rw [h2 he, if_neg (fun h => he h.1)]; omega
theorem gives_nil (l : List Wo) : gives [] l = 0 := by cases l <;> rfl
theorem gives_le : ∀ (e : List Int) (l : List Wo), 0 ≤ gives e l ∧ gives e l ≤ l.length
  | [], l => by cases l <;> simp [gives] <;> omega
  | e :: es, [] => by simp [gives]
  | e :: es, o :: l => by
    have := gives_le es l
    simp only [gives, List.length_cons]
    split <;> omega
theorem sum_l1_eq (a : List Wo) (r4 : List Int × List Int × List Int × Int) (hr : r4.1.length = a.length) (ht : 0 ≤ r4.2.2.2 ∧ r4.2.2.2 ≤ 400) (hg : r4.2.1.length ≤ 8796093022208) (hs : r4.2.2.2 + (r4.2.1.length : Int) = gives r4.1 a) (ha : a.length ≤ 8796093022208) :
    ∀ n k (x : Int), k ≤ a.length → a.length - k < n → 0 ≤ x → x ≤ k → x + gives (r4.1.drop k) (a.drop k) = gives r4.1 a → keep_WaitSum_l1 a r4 n x k = some true := by
  intro n
  induction n with
  | zero => intro k x h1 h2; omega
  | succ n ih =>
    intro k x h1 h2 hx0 hxk hx
    unfold keep_WaitSum_l1
    rcases Nat.lt_or_ge k a.length with hlt | hge
    · have hlr : k < r4.1.length := by omega
      rw [dec_lt hlt, cond_true, dec_lt hlr, if_pos (fun _ => by omega), Nat.zero_add, getD_lt _ _ hlr, getD_lt _ _ hlt, Bool.true_and]
      rw [List.drop_eq_getElem_cons hlr, List.drop_eq_getElem_cons hlt, gives] at hx
      by_cases hc : r4.1[k] = 0 ∧ a[k].Kind = 4
      · rw [if_pos hc] at hx
        rw [beqT hc.1, beqT hc.2]
        simp only [Bool.and_self, cond_true]
        rw [wrap_id (by omega) (by omega)]
        exact ih (k + 1) _ (by omega) (by omega) (by omega) (by omega) (by omega)
      · rw [if_neg hc] at hx
        have : (((r4.1[k] : Int) == 0) && ((a[k].Kind : Int) == 4)) = false := by
          rw [Bool.eq_false_iff]; simpa using hc
        rw [this, cond_false]
        exact ih (k + 1) _ (by omega) (by omega) (by omega) (by omega) (by omega)
    · rw [dec_ge hge, cond_false]
      rw [List.drop_of_length_le (by omega : r4.1.length ≤ k), gives_nil] at hx
      · rw [wrap_id (by omega) (by omega), hr, show decide ((r4.2.2.2 : Int) ≥ 0) = true from decide_eq_true ht.1]
        simp
        omega
theorem WaitSum_true (a : List Wo) (h : a.length * 16 ≤ 140737488351232 ∧ ∀ y ∈ a, Ok_Api_WaitOp y) : keep_WaitSum a = some true := by
  unfold keep_WaitSum
  have l0 := h.1
  rw [alive15_eq, Option.bind_some, Bool.not_true, cond_false, play_eq a (by omega), Option.bind_some]
  have hi := inv_end a
  have hg := gives_run q0_inv a
  simp only [show q0.things_ = 0 from rfl, show q0.got_ = [] from rfl, List.length_nil] at hg
  refine sum_l1_eq a _ (runF_length q0 a) hi.t (by have := hi.g; simp only; omega) (by simp only; omega) (by omega) FUEL 0 0 (by omega) (fuel_gt (by omega)) (by omega) (by omega) (by simp)

theorem never_l1_eq (a : List Wo) (ha : a.length ≤ 8796093022000) (r4 : List Int × List Int × List Int × Int) (hr : r4 = ((runF q0 a).1, (runF q0 a).2.got_, sleepers (runF q0 a).2, (runF q0 a).2.things_)) (w : Nat) (hw : w ≤ 63) (hm : (w : Int) ∈ (runF q0 a).2.line_) (hs : slq (runF q0 a).2 (w : Int) = false) (ht : (runF q0 a).2.things_ ≠ 0) :
    ∀ n k, k ≤ w → w - k < n → keep_WaitNever_l1 a r4 n k = some true := by
  have hi := inv_end a
  have hsl : (sleepers (runF q0 a).2).length ≤ 64 := Nat.le_trans (List.length_filter_le _ _) hi.len
  have hrl := runF_length q0 a
  intro n
  induction n with
  | zero => intro k h1 h2; omega
  | succ n ih =>
    intro k h1 h2
    unfold keep_WaitNever_l1
    have hd : decide (((k : Nat) : Int) < 64) = true := by simp; omega
    have e2 : r4.2.2.1 = sleepers (runF q0 a).2 := by rw [hr]
    have next : k ≠ w → keep_WaitNever_l1 a r4 n (k + 1) = some true := fun h => ih (k + 1) (by omega) (by omega)
    rw [hd, cond_true, e2, slices_Contains_int_eq _ _ (by omega), Option.bind_some]
    by_cases hin : ((k : Nat) : Int) ∈ sleepers (runF q0 a).2
    · rw [decide_eq_true hin, cond_true]
      refine next (fun e => ?_)
      subst e
      have := (List.mem_filter.1 hin).2
      rw [hs] at this; cases this
    · rw [decide_eq_false hin, cond_false, clone_op _ (by omega), Option.bind_some, if_pos (by simp only [List.length_cons, List.length_nil]; omega), play_eq _ (by simp; omega), Option.bind_some]
      have hi2 := (doF_inv hi ⟨2, ((k : Nat) : Int)⟩).1
      have hg2 := hi2.g
      obtain ⟨r18, hr18⟩ : ∃ r18, r18 = ((runF q0 (a ++ [(⟨2, ((k : Nat) : Int)⟩ : Wo)])).1, (runF q0 (a ++ [(⟨2, ((k : Nat) : Int)⟩ : Wo)])).2.got_, sleepers (runF q0 (a ++ [(⟨2, ((k : Nat) : Int)⟩ : Wo)])).2, (runF q0 (a ++ [(⟨2, ((k : Nat) : Int)⟩ : Wo)])).2.things_) := ⟨_, rfl⟩
      have p1 : r18.1 = (runF q0 a).1 ++ [(doF (runF q0 a).2 ⟨2, ((k : Nat) : Int)⟩).1] := by rw [hr18, runF_append]; rfl
      have p2 : r18.2.1 = (doF (runF q0 a).2 ⟨2, ((k : Nat) : Int)⟩).2.got_ := by rw [hr18, runF_append]; rfl
      rw [← hr18]
      clear hr18
      have p3 : r18.1.length = a.length + 1 := by rw [p1]; simp [hrl]
      have p4 : r18.2.1.length ≤ a.length + 1 := by rw [p2]; exact hg2
      have hwm : ∀ m : Nat, 0 < m → m ≤ 8796093022208 → 0 ≤ IntKind.i64.wrap (((m : Nat) : Int) - 1) ∧ IntKind.i64.wrap (((m : Nat) : Int) - 1) < (m : Int) := fun m h1 h2 => by rw [wrap_id (by omega) (by omega)]; omega
      rw [if_pos (fun _ => by omega), if_pos (fun h => by
        simp only [Bool.and_eq_true, decide_eq_true_eq] at h
        have := h.2
        exact hwm _ (by omega) (by omega))]
      by_cases hkw : k = w
      · subst hkw
        have hdo : (doF (runF q0 a).2 ⟨2, ((k : Nat) : Int)⟩).1 = 0 ∧ (doF (runF q0 a).2 ⟨2, ((k : Nat) : Int)⟩).2.got_ = (runF q0 a).2.got_ ++ [((k : Nat) : Int)] := by
          rw [doF_2 _ _ (by omega), hs, if_neg (by simp), if_neg (fun h => h hm), if_neg ht]
          refine ⟨rfl, ?_⟩
          simp only
          split
          · rw [(wake_parts _).2.2]; rfl
          · rfl
        obtain ⟨d1, d2⟩ := hdo
        rw [d2] at p2
        have hgi := hi.g
        have p5 : r18.2.1.length = (runF q0 a).2.got_.length + 1 := by rw [p2]; simp
        have e1 : r18.1.getD (0 + a.length) 0 = 0 := by
          rw [p1, d1, Nat.zero_add, List.getD_eq_getElem?_getD, List.getElem?_append_right (by omega), hrl]; simp
        have e4 : r18.2.1.getD (0 + Int.toNat (IntKind.i64.wrap (((r18.2.1.length : Nat) : Int) - 1))) 0 = ((k : Nat) : Int) := by
          rw [p5, wrap_id (by omega) (by omega), show 0 + Int.toNat ((((runF q0 a).2.got_.length + 1 : Nat) : Int) - 1) = (runF q0 a).2.got_.length by omega, p2, List.getD_eq_getElem?_getD, List.getElem?_append_right (by omega)]; simp
        rw [e1, e4, p3, wrap_id (by omega) (by omega), show decide (((r18.2.1.length : Nat) : Int) > 0) = true from decide_eq_true (by omega)]
        have e6 : ((((a.length + 1 : Nat) : Int) : Int) == (a.length : Int) + 1) = true := by simp
        rw [e6]
        simp
      · generalize (_ && _ && _ && _ : Bool) = c
        cases c with
        | true => rfl
        | false => exact next hkw
theorem WaitNever_true (a : List Wo) (h : a.length * 16 ≤ 140737488351232 ∧ ∀ y ∈ a, Ok_Api_WaitOp y) : keep_WaitNever a = some true := by
  unfold keep_WaitNever
  have l0 := h.1
  rw [alive15_eq, Option.bind_some, Bool.not_true, cond_false, play_eq a (by omega), Option.bind_some]
  have hi := inv_end a
  simp only
  by_cases h0 : (runF q0 a).2.things_ = 0
  · rw [beqT h0]; rfl
  by_cases h1 : sleepers (runF q0 a).2 = []
  · rw [h1]; simp
  have hl1 : ((((sleepers (runF q0 a).2).length : Nat) : Int) == 0) = false := by
    rw [beq_eq_false_iff_ne]
    have := List.length_pos_iff.2 h1
    omega
  rw [beqF h0, hl1, Bool.or_false, cond_false]
  obtain ⟨y, ys, hy⟩ := List.exists_cons_of_ne_nil h1
  have hym : y ∈ sleepers (runF q0 a).2 := by rw [hy]; simp
  obtain ⟨x, hx1, hx2⟩ := hi.nv (by have := hi.t; omega) ⟨y, (List.mem_filter.1 hym).2⟩
  have hxr := hi.rg x hx1
  have hxn : ((x.toNat : Nat) : Int) = x := by omega
  exact never_l1_eq a (by omega) _ rfl x.toNat (by omega) (by rw [hxn]; exact hx1) (by rw [hxn]; exact hx2) h0 FUEL 0 (by omega) (fuel_gt (by omega))

theorem WaitAllUp_true (a : List Wo) (x : Int) (h : a.length * 16 ≤ 140737488351232 ∧ ∀ y ∈ a, Ok_Api_WaitOp y) (hx : -9223372036854775808 ≤ x ∧ x ≤ 9223372036854775807) : keep_WaitAllUp a x = some true := by
  unfold keep_WaitAllUp
  have l0 := h.1
  have hi := inv_end a
  have hrl := runF_length q0 a
  rw [alive15_eq, Option.bind_some, Bool.not_true, cond_false, play_eq a (by omega), Option.bind_some, clone_op _ (by omega), Option.bind_some, if_pos (by simp only [List.length_cons, List.length_nil]; omega), play_eq _ (by simp; omega), Option.bind_some]
  obtain ⟨_, a1, a2, a3, a4, a5⟩ := all_spec hi.base
  have hwk : ∀ y ∈ (allF (runF q0 a).2).line_, wkq (allF (runF q0 a).2) y = true := fun y hy => a5 y (by rw [← a2]; exact hy)
  have hns := a4.noSleep hwk
  have d2 : (doF (allF (runF q0 a).2) ⟨3, x⟩).2 = allF (runF q0 a).2 := by
    by_cases hr : x < 0 ∨ x > 63
    · exact doF_bad _ _ _ hr
    rw [doF_3 _ _ (by omega)]
    split
    · rfl
    split
    · rfl
    rename_i hm
    rw [if_neg (fun hc => by
      have := hwk x (Classical.not_not.1 hm)
      rw [this] at hc; cases hc.1)]
  have hsl : sleepers (allF (runF q0 a).2) = [] := List.filter_eq_nil_iff.2 fun y _ => by rw [hns y]; simp
  have hg := hi.g
  obtain ⟨r9, hr9⟩ : ∃ r9, r9 = ((runF q0 (a ++ [(⟨5, 0⟩ : Wo), ⟨3, x⟩])).1, (runF q0 (a ++ [(⟨5, 0⟩ : Wo), ⟨3, x⟩])).2.got_, sleepers (runF q0 (a ++ [(⟨5, 0⟩ : Wo), ⟨3, x⟩])).2, (runF q0 (a ++ [(⟨5, 0⟩ : Wo), ⟨3, x⟩])).2.things_) := ⟨_, rfl⟩
  have hrun : runF q0 (a ++ [(⟨5, 0⟩ : Wo), ⟨3, x⟩]) = ((runF q0 a).1 ++ [0, (doF (allF (runF q0 a).2) ⟨3, x⟩).1], allF (runF q0 a).2) := by
    rw [runF_append]
    simp only [runF, doF_5, d2]
  have p1 : r9.1 = (runF q0 a).1 ++ [0, (doF (allF (runF q0 a).2) ⟨3, x⟩).1] := by rw [hr9, hrun]
  have p2 : r9.2.1 = (runF q0 a).2.got_ := by rw [hr9, hrun]; exact a3
  have p3 : r9.2.2.1 = [] := by rw [hr9, hrun]; exact hsl
  have p4 : r9.2.2.2 = (runF q0 a).2.things_ := by rw [hr9, hrun]; exact a1
  rw [← hr9]
  clear hr9
  have p5 : r9.1.length = a.length + 2 := by rw [p1]; simp [hrl]
  have e1 : r9.1.getD (0 + a.length) 0 = 0 := by
    rw [p1, Nat.zero_add, List.getD_eq_getElem?_getD, List.getElem?_append_right (by omega), hrl]; simp
  simp only
  rw [e1, p2, p3, p4, p5, wrap_id (by omega) (by omega), if_pos (fun _ => by omega)]
  have e6 : ((((a.length + 2 : Nat) : Int) : Int) == (a.length : Int) + 2) = true := by simp
  rw [e6, slices_Equal_int_eq _ _ (by omega), decide_eq_true rfl]
  simp

def prep (l : List Int) : List Wo := l.flatMap fun t => [⟨1, t⟩, ⟨3, t⟩]
/-- They all sleep, in their order. -/
structure Asleep (q : Q) (l : List Int) : Prop where
  t : q.things_ = 0
  ln : q.line_ = l
  w : ∀ x, wkq q x = false
  s : ∀ x, slq q x = decide (x ∈ l)
theorem prep_run (k : Nat) : ∀ (l m : List Int) (q : Q), (m ++ l).Nodup → (∀ x ∈ l, 0 ≤ x ∧ x ≤ 63) → Inv q k → Asleep q m → Asleep (runF q (prep l)).2 (m ++ l)
  | [], m, q, _, _, _, h => by simpa [prep, runF] using h
  | x :: l, m, q, hnd, hr, hi, h => by
    have hxm : ¬ x ∈ m := fun hx => by
      rw [List.nodup_append] at hnd
      exact hnd.2.2 x hx x (by simp) rfl
    have hxr := hr x (by simp)
    have e1 : doF q ⟨1, x⟩ = (0, ⟨q.things_, q.line_ ++ [x], mdelete x q.woken_, q.sleeps_, q.got_⟩) := by
      rw [doF_1 _ _ hxr, h.s x, if_neg (by simpa using hxm), h.ln, if_neg hxm]
    have i1 := (doF_inv hi ⟨1, x⟩).1
    rw [e1] at i1
    have w1 : ∀ y, wkq ⟨q.things_, q.line_ ++ [x], mdelete x q.woken_, q.sleeps_, q.got_⟩ y = false := fun y => by
      rw [wkq_delete q hi.kw]
      split
      · rfl
      · exact h.w y
    have e2 : doF ⟨q.things_, q.line_ ++ [x], mdelete x q.woken_, q.sleeps_, q.got_⟩ ⟨3, x⟩ = (0, ⟨q.things_, q.line_ ++ [x], mdelete x q.woken_, mput x true q.sleeps_, q.got_⟩) := by
      have hs : slq ⟨q.things_, q.line_ ++ [x], mdelete x q.woken_, q.sleeps_, q.got_⟩ x = false := by
        have := h.s x
        rw [decide_eq_false hxm] at this
        exact this
      rw [doF_3 _ _ hxr, hs, if_neg (by simp), if_neg (by simp), if_pos ⟨w1 x, h.t⟩]
    have i2 := (doF_inv i1 ⟨3, x⟩).1
    rw [e2] at i2
    have := prep_run (k + 1 + 1) l (m ++ [x]) ⟨q.things_, q.line_ ++ [x], mdelete x q.woken_, mput x true q.sleeps_, q.got_⟩ (by simpa using hnd) (fun y hy => hr y (by simp [hy])) i2 ⟨h.t, by simp [h.ln], w1, fun y => by
      have := slq_put q q.things_ (q.line_ ++ [x]) (mdelete x q.woken_) q.got_ x y
      rw [this, h.s y]
      by_cases e : y = x
      · simp [e]
      · simp [e]⟩
    simp only [prep, List.flatMap_cons, List.cons_append, List.nil_append, runF, e1, e2]
    simpa [prep] using this
/-- So many were woken. -/
structure Up (q : Q) (l : List Int) (j : Nat) : Prop where
  t : q.things_ = (j : Int)
  ln : q.line_ = l
  w : ∀ x, wkq q x = decide (x ∈ l.take j)
  s : ∀ x, slq q x = decide (x ∈ l.drop j)
theorem give_run (l : List Int) (hnd : l.Nodup) : ∀ (m j k : Nat) (q : Q), j + m ≤ 400 → Inv q k → Up q l j → Up (runF q (List.replicate m (⟨4, 0⟩ : Wo))).2 l (j + m)
  | 0, j, k, q, _, _, h => by simpa [runF] using h
  | m + 1, j, k, q, hj, hi, h => by
    have e1 : doF q ⟨4, 0⟩ = (0, (wakeF ⟨q.things_ + 1, q.line_, q.woken_, q.sleeps_, q.got_⟩).2) := by
      rw [doF_4, if_neg (by rw [h.t]; omega)]
    have i1 := (doF_inv hi ⟨4, 0⟩).1
    rw [e1] at i1
    have hup : Up (wakeF ⟨q.things_ + 1, q.line_, q.woken_, q.sleeps_, q.got_⟩).2 l (j + 1) := by
      obtain ⟨w1, w2, w3⟩ := wake_parts ⟨q.things_ + 1, q.line_, q.woken_, q.sleeps_, q.got_⟩
      have hfind : (q.line_.find? fun x => !wkq ⟨q.things_ + 1, q.line_, q.woken_, q.sleeps_, q.got_⟩ x) = l[j]? := by
        rw [h.ln]
        have hp : (fun x => !wkq ⟨q.things_ + 1, l, q.woken_, q.sleeps_, q.got_⟩ x) = fun x => !decide (x ∈ l.take j) := by
          funext x; rw [← h.w x]; rfl
        rw [hp]
        conv => lhs; rw [← List.take_append_drop j l]
        rw [List.find?_append, List.find?_eq_none.2 (fun x hx => by simpa using hx), Option.none_or]
        rcases Nat.lt_or_ge j l.length with hlt | hge
        · rw [List.drop_eq_getElem_cons hlt, List.find?_cons_of_pos, List.getElem?_eq_getElem hlt]
          have hnd' := hnd
          rw [← List.take_append_drop j l, List.nodup_append] at hnd'
          have : ¬ l[j] ∈ (l.take j ++ l.drop j).take j := fun hx => by
            rw [List.take_append_drop] at hx
            exact hnd'.2.2 l[j] hx l[j] (by rw [List.drop_eq_getElem_cons hlt]; exact List.mem_cons_self) rfl
          simpa using this
        · rw [List.drop_of_length_le hge, List.getElem?_eq_none hge]; rfl
      refine ⟨by rw [w1]; simp only; rw [h.t]; omega, by rw [w2]; exact h.ln, fun x => ?_, fun x => ?_⟩
      · unfold wakeF
        rw [hfind]
        rcases Nat.lt_or_ge j l.length with hlt | hge
        · rw [List.getElem?_eq_getElem hlt]
          have := wkq_put q (q.things_ + 1) q.line_ (mdelete l[j] q.sleeps_) q.got_ l[j] x
          have htk : x ∈ l.take (j + 1) ↔ x ∈ l.take j ∨ x = l[j] := by rw [List.take_succ_eq_append_getElem hlt, List.mem_append, List.mem_singleton]
          simp only
          rw [this, h.w x]
          by_cases e : x = l[j]
          · rw [if_pos e]
            symm
            rw [decide_eq_true_iff]
            exact htk.2 (.inr e)
          · rw [if_neg e]
            exact decide_eq_decide.2 ⟨fun h => htk.2 (.inl h), fun h => (htk.1 h).resolve_right e⟩
        · rw [List.getElem?_eq_none hge]
          have := h.w x
          rw [List.take_of_length_le hge] at this
          rw [List.take_of_length_le (by omega)]
          exact this
      · unfold wakeF
        rw [hfind]
        rcases Nat.lt_or_ge j l.length with hlt | hge
        · rw [List.getElem?_eq_getElem hlt]
          have := slq_delete q hi.ks (q.things_ + 1) q.line_ (mput l[j] true q.woken_) q.got_ l[j] x
          simp only
          rw [this, h.s x]
          have hd := List.drop_eq_getElem_cons hlt
          have hnd' : (l[j] :: l.drop (j + 1)).Nodup := by rw [← hd]; exact hnd.sublist (List.drop_sublist _ _)
          by_cases e : x = l[j]
          · rw [if_pos e]
            symm
            rw [decide_eq_false_iff_not, e]
            exact (List.nodup_cons.1 hnd').1
          · rw [if_neg e]
            have htd : x ∈ l.drop j ↔ x = l[j] ∨ x ∈ l.drop (j + 1) := by rw [hd, List.mem_cons]
            exact decide_eq_decide.2 ⟨fun h => (htd.1 h).resolve_left e, fun h => htd.2 (.inr h)⟩
        · rw [List.getElem?_eq_none hge]
          have := h.s x
          rw [List.drop_of_length_le hge] at this
          rw [List.drop_of_length_le (by omega)]
          exact this
    have := give_run l hnd m (j + 1) (k + 1) _ (by omega) i1 hup
    rw [List.replicate_succ]
    simp only [runF, e1]
    rw [show j + (m + 1) = j + 1 + m by omega]
    exact this
theorem prep_len (l : List Int) : (prep l).length = 2 * l.length := by
  induction l with
  | nil => rfl
  | cons x l ih => simp only [prep, List.flatMap_cons, List.length_append, List.length_cons, List.length_nil] at *; omega
theorem first_l2_eq (a1 : Int) (l : List Int) (hnd : l.Nodup) (hr : ∀ x ∈ l, 0 ≤ x ∧ x ≤ 63) (ha : 0 ≤ a1 ∧ a1 ≤ 100) : ∀ n (j : Nat), (j : Int) ≤ a1 → a1.toNat - j < n →
    keep_WaitFirst_l2 a1 l (prep l) n (prep l ++ List.replicate j (⟨4, 0⟩ : Wo)) (j : Int) = some true := by
  have hl : l.length ≤ 64 := nodup_range_len _ 64 hnd fun x hx => by have := hr x hx; omega
  have hpl := prep_len l
  intro n
  induction n with
  | zero => intro j h1 h2; omega
  | succ n ih =>
    intro j h1 h2
    unfold keep_WaitFirst_l2
    by_cases hlt : (j : Int) < a1
    · have e : prep l ++ List.replicate j (⟨4, 0⟩ : Wo) ++ [⟨4, 0⟩] = prep l ++ List.replicate (j + 1) (⟨4, 0⟩ : Wo) := by rw [List.replicate_succ', List.append_assoc]
      rw [decide_eq_true hlt, cond_true, if_pos (by simp; omega), wrap_id (by omega) (by omega), e]
      exact ih (j + 1) (by omega) (by omega)
    · rw [decide_eq_false hlt, cond_false, play_eq _ (by simp; omega), Option.bind_some, runF_append]
      have hA := prep_run 0 l [] q0 (by simpa using hnd) hr q0_inv ⟨rfl, rfl, fun x => rfl, fun x => rfl⟩
      rw [List.nil_append] at hA
      have hi := runF_inv q0_inv (prep l)
      have hU := give_run l hnd j 0 _ _ (by omega) hi ⟨hA.t, hA.ln, fun x => by rw [hA.w x]; simp, fun x => by rw [hA.s x]; simp⟩
      rw [Nat.zero_add] at hU
      generalize (runF (runF q0 (prep l)).2 (List.replicate j (⟨4, 0⟩ : Wo))).2 = q at *
      have hmin : Int.toNat (if ((l.length : Nat) : Int) < a1 then ((l.length : Nat) : Int) else a1) = min j l.length := by split <;> omega
      have hs : sleepers q = l.drop (min j l.length) := by
        unfold sleepers
        rw [hU.ln]
        conv => lhs; rw [← List.take_append_drop j l]
        rw [List.filter_append]
        have hnd' := hnd
        rw [← List.take_append_drop j l, List.nodup_append] at hnd'
        have f1 : (l.take j).filter (fun x => slq q x) = [] := List.filter_eq_nil_iff.2 fun x hx => by
          rw [hU.s x]
          simp only [decide_eq_true_eq]
          exact fun h => hnd'.2.2 x hx x h rfl
        have f2 : (l.drop j).filter (fun x => slq q x) = l.drop j := List.filter_eq_self.2 fun x hx => by
          rw [hU.s x]; simpa using hx
        rw [f1, f2, List.nil_append]
        rcases Nat.le_total j l.length with h | h
        · rw [Nat.min_eq_left h]
        · rw [Nat.min_eq_right h, List.drop_length, List.drop_of_length_le h]
      simp only
      rw [hmin, hU.t, beqT (show ((j : Nat) : Int) = a1 by omega), if_pos (fun _ => by split <;> omega), if_pos (fun _ => by omega), cond_true, Nat.zero_add, List.take_of_length_le (by simp), slices_Equal_int_eq _ _ (by rw [hs]; simp; omega), hs, decide_eq_true rfl]
      rfl
theorem first_l1_eq (a : List Int) (a1 : Int) (ha : a.length ≤ 17592186044416) : ∀ n k (l : List Int), k ≤ a.length → a.length - k < n → l.Nodup → (∀ x ∈ l, 0 ≤ x ∧ x ≤ 63) → keep_WaitFirst_l1 a a1 n l (prep l) k = some true := by
  intro n
  induction n with
  | zero => intro k l h1 h2; omega
  | succ n ih =>
    intro k l h1 h2 hnd hr
    have hl : l.length ≤ 64 := nodup_range_len _ 64 hnd fun x hx => by have := hr x hx; omega
    have hpl := prep_len l
    unfold keep_WaitFirst_l1
    rcases Nat.lt_or_ge k a.length with hlt | hge
    · simp only [dec_lt hlt, cond_true, getD_lt _ _ hlt]
      generalize a[k] = x
      by_cases hx : x < 0 ∨ x > 63
      · have : ((decide ((x : Int) < 0)) || (decide ((x : Int) > 63))) = true := by simpa using hx
        rw [this]
        exact ih (k + 1) l (by omega) (by omega) hnd hr
      · have : ((decide ((x : Int) < 0)) || (decide ((x : Int) > 63))) = false := by simp; omega
        rw [this, Bool.not_false, cond_true, slices_Contains_int_eq _ _ (by omega), Option.bind_some, Bool.false_or]
        by_cases hm : x ∈ l
        · rw [decide_eq_true hm, cond_true]
          exact ih (k + 1) l (by omega) (by omega) hnd hr
        · rw [decide_eq_false hm, cond_false, if_pos (by simp only [List.length_cons, List.length_nil]; omega), if_pos (by simp only [List.length_cons, List.length_nil]; omega)]
          have e : prep l ++ [(⟨1, x⟩ : Wo), ⟨3, x⟩] = prep (l ++ [x]) := by simp [prep]
          rw [e]
          refine ih (k + 1) (l ++ [x]) (by omega) (by omega) ?_ ?_
          · rw [List.nodup_append]
            exact ⟨hnd, by simp, fun a ha b hb => by simp at hb; subst hb; exact fun e => hm (e ▸ ha)⟩
          · intro y hy
            rcases List.mem_append.1 hy with hy | hy
            · exact hr y hy
            · rw [List.mem_singleton] at hy; omega
    · rw [dec_ge hge, cond_false]
      by_cases hc : a1 < 0 ∨ a1 > 100
      · have : ((decide ((a1 : Int) < 0)) || (decide ((a1 : Int) > 100))) = true := by simpa using hc
        rw [this]; rfl
      · have : ((decide ((a1 : Int) < 0)) || (decide ((a1 : Int) > 100))) = false := by simp; omega
        rw [this, cond_false]
        have := first_l2_eq a1 l hnd hr (by omega) FUEL 0 (by omega) (fuel_gt (by omega))
        simpa using this
theorem WaitFirst_true (a : List Int) (a1 : Int) (h : a.length * 8 ≤ 140737488351232 ∧ ∀ y ∈ a, (-9223372036854775808 ≤ y ∧ y ≤ 9223372036854775807)) (h1 : -9223372036854775808 ≤ a1 ∧ a1 ≤ 9223372036854775807) : keep_WaitFirst a a1 = some true := by
  unfold keep_WaitFirst
  have l0 := h.1
  rw [alive15_eq, Option.bind_some, Bool.not_true, cond_false]
  exact first_l1_eq a a1 (by omega) FUEL 0 [] (by omega) (fuel_gt (by omega)) (by simp) (by simp)
end Go.Proofs.Ytgelldlehahabaa
