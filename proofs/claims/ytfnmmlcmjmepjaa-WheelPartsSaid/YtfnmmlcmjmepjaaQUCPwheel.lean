import Derived.Test.YtfnmmlcmjmepjaaQUCM
import Derived.Test.YtfnmmlcmjmepjaaQUCK
import Derived.Test.YtfnmmlcmjmepjaaPLib
set_option linter.unusedVariables false
set_option linter.unusedSimpArgs false
namespace Go.Proofs.Ytfnmmlcmjmepjaa
open Go Go.Ab
structure Sm (w v : Wheel_wheels) : Prop where
  now : w.now_ = v.now_
  places : w.places_ = v.places_
  fired : w.fired_ = v.fired_
  on : ∀ a, a < 3 → ∀ b, b < 8 → w.on_ a b = v.on_ a b
theorem Sm.refl (w : Wheel_wheels) : Sm w w := ⟨rfl, rfl, rfl, fun _ _ _ _ => rfl⟩
theorem Sm.trans {a b c : Wheel_wheels} (h : Sm a b) (k : Sm b c) : Sm a c := ⟨h.now.trans k.now, h.places.trans k.places, h.fired.trans k.fired, fun a ha b hb => (h.on a ha b hb).trans (k.on a ha b hb)⟩
theorem Sm.symm {a b : Wheel_wheels} (h : Sm a b) : Sm b a := ⟨h.now.symm, h.places.symm, h.fired.symm, fun a ha b hb => (h.on a ha b hb).symm⟩
def norm (w : Wheel_wheels) : Wheel_wheels :=
  ⟨w.now_, (arrOf [(arrOf [w.on_ 0 0, w.on_ 0 1, w.on_ 0 2, w.on_ 0 3, w.on_ 0 4, w.on_ 0 5, w.on_ 0 6, w.on_ 0 7] []), (arrOf [w.on_ 1 0, w.on_ 1 1, w.on_ 1 2, w.on_ 1 3, w.on_ 1 4, w.on_ 1 5, w.on_ 1 6, w.on_ 1 7] []), (arrOf [w.on_ 2 0, w.on_ 2 1, w.on_ 2 2, w.on_ 2 3, w.on_ 2 4, w.on_ 2 5, w.on_ 2 6, w.on_ 2 7] [])] (fun (_ : Nat) => ([] : (List Wheel_timer)))), w.places_, w.fired_⟩
theorem lt3 {a : Nat} (h : a < 3) : a = 0 ∨ a = 1 ∨ a = 2 := by omega
theorem lt8 {a : Nat} (h : a < 8) : a = 0 ∨ a = 1 ∨ a = 2 ∨ a = 3 ∨ a = 4 ∨ a = 5 ∨ a = 6 ∨ a = 7 := by omega
theorem norm_sm (w : Wheel_wheels) : Sm (norm w) w := by
  refine ⟨rfl, rfl, rfl, fun a ha b hb => ?_⟩
  rcases lt3 ha with rfl | rfl | rfl <;> rcases lt8 hb with rfl | rfl | rfl | rfl | rfl | rfl | rfl | rfl <;> rfl
def onAdd (on : Nat → Nat → List Wheel_timer) (k s : Nat) (t : Wheel_timer) : Nat → Nat → List Wheel_timer := fun a b => if a = k ∧ b = s then on a b ++ [t] else on a b
def onClr (on : Nat → Nat → List Wheel_timer) (k s : Nat) : Nat → Nat → List Wheel_timer := fun a b => if a = k ∧ b = s then [] else on a b
def Big : Int := 1000000000
theorem wrapb {x : Int} (h1 : -4000000000 ≤ x) (h2 : x ≤ 4000000000) : IntKind.i64.wrap x = x := by
  exact wrap_id (by omega) (by omega)
theorem put_hit (w : Wheel_wheels) (t : Wheel_timer) (n : Nat) (x : Int) (k s : Nat) (hk : k < 3) (hs : s < 8) (hx : x ≠ 0)
    (hc : ((decide (((IntKind.i64.wrap ((IntKind.i64.wrap (Int.tdiv t.at_ x)) - (IntKind.i64.wrap (Int.tdiv w.now_ x)))) : Int) < 8)) || ((((k : Nat) : Int) : Int) == 2)) = true)
    (hm : Int.tmod (IntKind.i64.wrap (Int.tdiv t.at_ x)) 8 = (s : Int)) (hl : (w.on_ k s).length < 1000000) :
    ∃ w', wheel_wheels_put_l1 w t (n + 1) x k = some w' ∧ Sm w' ⟨w.now_, onAdd w.on_ k s t, w.places_, w.fired_⟩ := by
  unfold wheel_wheels_put_l1
  have h3 : decide ((((k : Nat) : Int) : Int) < 3) = true := by simp; omega
  have i1 : 0 ≤ (((k : Nat) : Int) : Int) ∧ ((k : Nat) : Int) < ((3 : Nat) : Int) := by omega
  have i2 : 0 ≤ ((s : Int) : Int) ∧ (s : Int) < ((8 : Nat) : Int) := by omega
  rw [h3, cond_true, if_pos hx, if_pos hx, hc, cond_true, if_pos hx, if_pos i1, hm, if_pos i2]
  have i3 : ∀ (y : List Wheel_timer), y.length < 1000000 → (y.length + ([t]).length + (y.length + ([t]).length) / 4 + 192) * 16 ≤ 281474976710656 ∧ y.length + ([t]).length ≤ 140737488355328 := by
    intro y hy; simp; omega
  rcases lt3 hk with rfl | rfl | rfl <;> rcases lt8 hs with rfl | rfl | rfl | rfl | rfl | rfl | rfl | rfl <;>
  · simp only [Int.toNat_natCast, Nat.reduceEqDiff, decide_true, decide_false, cond_true, cond_false, if_pos (i3 _ hl)]
    refine ⟨_, rfl, rfl, rfl, rfl, fun a ha b hb => ?_⟩
    rcases lt3 ha with rfl | rfl | rfl <;> rcases lt8 hb with rfl | rfl | rfl | rfl | rfl | rfl | rfl | rfl <;> rfl
def szOf : Nat → Int
  | 0 => 1
  | 1 => 8
  | _ => 64
def lvl (now at_ : Int) : Nat := if at_ - now < 8 then 0 else if at_ / 8 - now / 8 < 8 then 1 else 2
def spk (k : Nat) (at_ : Int) : Nat := (at_ / szOf k % 8).toNat
theorem lvl_lt (now at_ : Int) : lvl now at_ < 3 := by
  unfold lvl; split
  · omega
  · split <;> omega
theorem spk_lt (k : Nat) (at_ : Int) : spk k at_ < 8 := by unfold spk; omega
def putS (w : Wheel_wheels) (t : Wheel_timer) : Wheel_wheels := ⟨w.now_, onAdd w.on_ (lvl w.now_ t.at_) (spk (lvl w.now_ t.at_) t.at_) t, w.places_, w.fired_⟩
theorem tdiv_nn {a : Int} {b : Int} (ha : 0 ≤ a) (hb : 0 < b) : Int.tdiv a b = a / b := Int.tdiv_eq_ediv_of_nonneg ha
theorem spk_eq {k : Nat} {a : Int} (hk : k < 3) (h0 : 0 ≤ a) (h1 : a ≤ Big) : Int.tmod (IntKind.i64.wrap (Int.tdiv a (szOf k))) 8 = (spk k a : Int) := by
  unfold Big at h1
  have hz : 0 < szOf k := by rcases lt3 hk with rfl | rfl | rfl <;> decide
  have hd : 0 ≤ a / szOf k := Int.ediv_nonneg h0 (by omega)
  have hd2 : a / szOf k ≤ a := Int.ediv_le_self _ h0
  rw [tdiv_nn h0 hz, wrapb (by omega) (by omega), Int.tmod_eq_emod_of_nonneg hd]
  unfold spk; omega
theorem put_spec (w : Wheel_wheels) (t : Wheel_timer) (hn : 0 ≤ w.now_ ∧ w.now_ ≤ Big) (ht : 0 ≤ t.at_ ∧ t.at_ ≤ Big) (hl : ∀ k, k < 3 → ∀ s, s < 8 → (w.on_ k s).length < 1000000) :
    ∃ w', wheel_wheels_put w t = some w' ∧ Sm w' (putS w t) := by
  obtain ⟨n, hF⟩ : ∃ n, FUEL = n + 3 := ⟨FUEL - 3, by unfold FUEL; rfl⟩
  unfold wheel_wheels_put
  rw [hF]
  have hB : Big = 1000000000 := rfl
  have e1 : IntKind.i64.wrap (Int.tdiv t.at_ 1) = t.at_ := by rw [tdiv_nn ht.1 (by omega), Int.ediv_one]; exact wrapb (by omega) (by omega)
  have e2 : IntKind.i64.wrap (Int.tdiv w.now_ 1) = w.now_ := by rw [tdiv_nn hn.1 (by omega), Int.ediv_one]; exact wrapb (by omega) (by omega)
  have e3 : IntKind.i64.wrap (Int.tdiv t.at_ 8) = t.at_ / 8 := by rw [tdiv_nn ht.1 (by omega)]; exact wrapb (by omega) (by omega)
  have e4 : IntKind.i64.wrap (Int.tdiv w.now_ 8) = w.now_ / 8 := by rw [tdiv_nn hn.1 (by omega)]; exact wrapb (by omega) (by omega)
  have w8 : IntKind.i64.wrap (1 * 8) = 8 := by decide
  have w64 : IntKind.i64.wrap (8 * 8) = 64 := by decide
  by_cases h0 : t.at_ - w.now_ < 8
  · have hlv : lvl w.now_ t.at_ = 0 := by unfold lvl; rw [if_pos h0]
    obtain ⟨w', h1, h2⟩ := put_hit w t (n + 2) 1 0 (spk 0 t.at_) (by omega) (spk_lt _ _) (by decide) (by
      rw [e1, e2, wrapb (by omega) (by omega)]; simp [h0]) (spk_eq (k := 0) (by omega) ht.1 ht.2) (hl _ (by omega) _ (spk_lt _ _))
    exact ⟨w', h1, by unfold putS; rw [hlv]; exact h2⟩
  · have c0 : ((decide (((IntKind.i64.wrap ((IntKind.i64.wrap (Int.tdiv t.at_ 1)) - (IntKind.i64.wrap (Int.tdiv w.now_ 1)))) : Int) < 8)) || ((((0 : Nat) : Int) : Int) == 2)) = false := by
      rw [e1, e2, wrapb (by omega) (by omega)]; simp [h0]
    have s0 : wheel_wheels_put_l1 w t (n + 3) 1 0 = wheel_wheels_put_l1 w t (n + 2) 8 1 := by
      conv => lhs; unfold wheel_wheels_put_l1
      rw [show decide ((((0 : Nat) : Int) : Int) < 3) = true from rfl, cond_true, if_pos (by decide), if_pos (by decide), c0, cond_false, w8]
    rw [s0]
    by_cases h1 : t.at_ / 8 - w.now_ / 8 < 8
    · have hlv : lvl w.now_ t.at_ = 1 := by unfold lvl; rw [if_neg h0, if_pos h1]
      obtain ⟨w', h1, h2⟩ := put_hit w t (n + 1) 8 1 (spk 1 t.at_) (by omega) (spk_lt _ _) (by decide) (by
        rw [e3, e4, wrapb (by omega) (by omega)]; simp [h1]) (spk_eq (k := 1) (by omega) ht.1 ht.2) (hl _ (by omega) _ (spk_lt _ _))
      exact ⟨w', h1, by unfold putS; rw [hlv]; exact h2⟩
    · have hlv : lvl w.now_ t.at_ = 2 := by unfold lvl; rw [if_neg h0, if_neg h1]
      have c1 : ((decide (((IntKind.i64.wrap ((IntKind.i64.wrap (Int.tdiv t.at_ 8)) - (IntKind.i64.wrap (Int.tdiv w.now_ 8)))) : Int) < 8)) || ((((1 : Nat) : Int) : Int) == 2)) = false := by
        rw [e3, e4, wrapb (by omega) (by omega)]; simp [h1]
      have s1 : wheel_wheels_put_l1 w t (n + 2) 8 1 = wheel_wheels_put_l1 w t (n + 1) 64 2 := by
        conv => lhs; unfold wheel_wheels_put_l1
        rw [show decide ((((1 : Nat) : Int) : Int) < 3) = true from rfl, cond_true, if_pos (by decide), if_pos (by decide), c1, cond_false, w64]
      rw [s1]
      obtain ⟨w', h1, h2⟩ := put_hit w t n 64 2 (spk 2 t.at_) (by omega) (spk_lt _ _) (by decide) (by simp) (spk_eq (k := 2) (by omega) ht.1 ht.2) (hl _ (by omega) _ (spk_lt _ _))
      exact ⟨w', h1, by unfold putS; rw [hlv]; exact h2⟩
theorem off_spec (w : Wheel_wheels) (k s : Nat) (hk : k < 3) (hs : s < 8) :
    ∃ w', wheel_wheels_off w (k : Int) (s : Int) = some (w.on_ k s, w') ∧ Sm w' ⟨w.now_, onClr w.on_ k s, w.places_, w.fired_⟩ := by
  unfold wheel_wheels_off
  have i1 : 0 ≤ ((k : Int) : Int) ∧ (k : Int) < ((3 : Nat) : Int) := by omega
  have i2 : 0 ≤ ((s : Int) : Int) ∧ (s : Int) < ((8 : Nat) : Int) := by omega
  rw [if_pos i1, if_pos i2]
  rcases lt3 hk with rfl | rfl | rfl <;> rcases lt8 hs with rfl | rfl | rfl | rfl | rfl | rfl | rfl | rfl <;>
  · simp only [Int.toNat_natCast, Nat.reduceEqDiff, decide_true, decide_false, cond_true, cond_false, if_pos i1, if_pos i2]
    refine ⟨_, rfl, rfl, rfl, rfl, fun a ha b hb => ?_⟩
    rcases lt3 ha with rfl | rfl | rfl <;> rcases lt8 hb with rfl | rfl | rfl | rfl | rfl | rfl | rfl | rfl <;> rfl
abbrev KT := Nat → Int → (List Wheel_timer) → (List Wheel_timer) → (List Wheel_timer) → (List Wheel_timer) → (List Wheel_timer) → (List Wheel_timer) → (List Wheel_timer) → (List Wheel_timer) → (List Wheel_timer) → (List Wheel_timer) → (List Wheel_timer) → (List Wheel_timer) → (List Wheel_timer) → (List Wheel_timer) → (List Wheel_timer) → (List Wheel_timer) → (List Wheel_timer) → (List Wheel_timer) → (List Wheel_timer) → (List Wheel_timer) → (List Wheel_timer) → (List Wheel_timer) → (List Wheel_timer) → (List Wheel_timer) → (List (Int × Int)) → (List Api_Fired) → Option (Wheel_wheels)
def onK (K : KT) (k : Nat) (w : Wheel_wheels) : Option Wheel_wheels := K k w.now_ ((w.on_ 0) 0) ((w.on_ 0) 1) ((w.on_ 0) 2) ((w.on_ 0) 3) ((w.on_ 0) 4) ((w.on_ 0) 5) ((w.on_ 0) 6) ((w.on_ 0) 7) ((w.on_ 1) 0) ((w.on_ 1) 1) ((w.on_ 1) 2) ((w.on_ 1) 3) ((w.on_ 1) 4) ((w.on_ 1) 5) ((w.on_ 1) 6) ((w.on_ 1) 7) ((w.on_ 2) 0) ((w.on_ 2) 1) ((w.on_ 2) 2) ((w.on_ 2) 3) ((w.on_ 2) 4) ((w.on_ 2) 5) ((w.on_ 2) 6) ((w.on_ 2) 7) w.places_ w.fired_
def l2u (r : (List Wheel_timer) × Wheel_wheels) (K : KT) (n k : Nat) (w : Wheel_wheels) : Option Wheel_wheels := wheel_wheels_tick_l2 r K n k w.now_ ((w.on_ 0) 0) ((w.on_ 0) 1) ((w.on_ 0) 2) ((w.on_ 0) 3) ((w.on_ 0) 4) ((w.on_ 0) 5) ((w.on_ 0) 6) ((w.on_ 0) 7) ((w.on_ 1) 0) ((w.on_ 1) 1) ((w.on_ 1) 2) ((w.on_ 1) 3) ((w.on_ 1) 4) ((w.on_ 1) 5) ((w.on_ 1) 6) ((w.on_ 1) 7) ((w.on_ 2) 0) ((w.on_ 2) 1) ((w.on_ 2) 2) ((w.on_ 2) 3) ((w.on_ 2) 4) ((w.on_ 2) 5) ((w.on_ 2) 6) ((w.on_ 2) 7) w.places_ w.fired_
theorem l2u_sm (r : (List Wheel_timer) × Wheel_wheels) (K : KT) (n k : Nat) {w v : Wheel_wheels} (h : Sm w v) : l2u r K n k w = l2u r K n k v := by
  have g := h.on
  unfold l2u
  rw [h.now, h.places, h.fired, g 0 (by omega) 0 (by omega), g 0 (by omega) 1 (by omega), g 0 (by omega) 2 (by omega), g 0 (by omega) 3 (by omega), g 0 (by omega) 4 (by omega), g 0 (by omega) 5 (by omega), g 0 (by omega) 6 (by omega), g 0 (by omega) 7 (by omega), g 1 (by omega) 0 (by omega), g 1 (by omega) 1 (by omega), g 1 (by omega) 2 (by omega), g 1 (by omega) 3 (by omega), g 1 (by omega) 4 (by omega), g 1 (by omega) 5 (by omega), g 1 (by omega) 6 (by omega), g 1 (by omega) 7 (by omega), g 2 (by omega) 0 (by omega), g 2 (by omega) 1 (by omega), g 2 (by omega) 2 (by omega), g 2 (by omega) 3 (by omega), g 2 (by omega) 4 (by omega), g 2 (by omega) 5 (by omega), g 2 (by omega) 6 (by omega), g 2 (by omega) 7 (by omega)]
theorem l2u_step (r : (List Wheel_timer) × Wheel_wheels) (K : KT) (n k : Nat) (w : Wheel_wheels) :
    l2u r K (n + 1) k w = bif (decide ((((k : Nat) : Int) : Int) < ((r.1.length : Nat) : Int))) then (wheel_wheels_put (norm w) (r.1.getD (0 + k) (⟨0, 0⟩ : Wheel_timer))).bind fun r67 => l2u r K n (k + 1) r67 else onK K k w := rfl
def tl1 (a0 : Wheel_wheels) (n : Nat) (x1 x2 : Int) (w : Wheel_wheels) : Option Wheel_wheels := wheel_wheels_tick_l1 a0 n x1 x2 w.now_ ((w.on_ 0) 0) ((w.on_ 0) 1) ((w.on_ 0) 2) ((w.on_ 0) 3) ((w.on_ 0) 4) ((w.on_ 0) 5) ((w.on_ 0) 6) ((w.on_ 0) 7) ((w.on_ 1) 0) ((w.on_ 1) 1) ((w.on_ 1) 2) ((w.on_ 1) 3) ((w.on_ 1) 4) ((w.on_ 1) 5) ((w.on_ 1) 6) ((w.on_ 1) 7) ((w.on_ 2) 0) ((w.on_ 2) 1) ((w.on_ 2) 2) ((w.on_ 2) 3) ((w.on_ 2) 4) ((w.on_ 2) 5) ((w.on_ 2) 6) ((w.on_ 2) 7) w.places_ w.fired_
theorem tl1_step (a0 : Wheel_wheels) (n : Nat) (x1 x2 : Int) (w : Wheel_wheels) :
    tl1 a0 (n + 1) x1 x2 w = bif (decide ((x1 : Int) > 0)) then
      if (x2 : Int) ≠ 0 then
      bif (((Int.tmod w.now_ x2) : Int) == 0) then
        if (x2 : Int) ≠ 0 then
        (wheel_wheels_off (norm w) x1 (Int.tmod (IntKind.i64.wrap (Int.tdiv w.now_ x2)) 8)).bind fun r35 =>
        l2u r35 (fun _ => wheel_wheels_tick_l1 a0 n (IntKind.i64.wrap (x1 - 1)) (IntKind.i64.wrap (Int.tdiv x2 8))) FUEL 0 r35.2
        else none
      else tl1 a0 n (IntKind.i64.wrap (x1 - 1)) (IntKind.i64.wrap (Int.tdiv x2 8)) w
      else none
    else
      (wheel_wheels_off (norm w) 0 (Int.tmod w.now_ 8)).bind fun r72 =>
      wheel_wheels_tick_l3 r72 FUEL ([] : List Int) 0 r72.2.places_ := rfl
theorem tick_eq (w : Wheel_wheels) : wheel_wheels_tick w = tl1 w FUEL 2 64 ⟨IntKind.i64.wrap (w.now_ + 1), w.on_, w.places_, w.fired_⟩ := rfl
def T24 (f : Nat → Nat → Nat) : Nat := f 0 0 + f 0 1 + f 0 2 + f 0 3 + f 0 4 + f 0 5 + f 0 6 + f 0 7 + f 1 0 + f 1 1 + f 1 2 + f 1 3 + f 1 4 + f 1 5 + f 1 6 + f 1 7 + f 2 0 + f 2 1 + f 2 2 + f 2 3 + f 2 4 + f 2 5 + f 2 6 + f 2 7
theorem T24_upd (f g : Nat → Nat → Nat) (k s : Nat) (hk : k < 3) (hs : s < 8) (h : ∀ a b, ¬ (a = k ∧ b = s) → g a b = f a b) : T24 g + f k s = T24 f + g k s := by
  have e : ∀ a b, g a b = if a = k ∧ b = s then g k s else f a b := by
    intro a b
    by_cases c : a = k ∧ b = s
    · rw [if_pos c, c.1, c.2]
    · rw [if_neg c, h a b c]
  generalize g k s = v at e
  have e' : g = fun a b => if a = k ∧ b = s then v else f a b := funext fun a => funext fun b => e a b
  subst e'
  unfold T24
  rcases lt3 hk with rfl | rfl | rfl <;> rcases lt8 hs with rfl | rfl | rfl | rfl | rfl | rfl | rfl | rfl <;>
  · simp only [Nat.reduceEqDiff, and_true, true_and, and_false, false_and, if_true, if_false, and_self]
    omega
theorem T24_le (f : Nat → Nat → Nat) (k s : Nat) (hk : k < 3) (hs : s < 8) : f k s ≤ T24 f := by
  unfold T24
  rcases lt3 hk with rfl | rfl | rfl <;> rcases lt8 hs with rfl | rfl | rfl | rfl | rfl | rfl | rfl | rfl <;> omega
theorem T24_congr {f g : Nat → Nat → Nat} (h : ∀ a, a < 3 → ∀ b, b < 8 → f a b = g a b) : T24 f = T24 g := by
  unfold T24
  rw [h 0 (by omega) 0 (by omega), h 0 (by omega) 1 (by omega), h 0 (by omega) 2 (by omega), h 0 (by omega) 3 (by omega), h 0 (by omega) 4 (by omega), h 0 (by omega) 5 (by omega), h 0 (by omega) 6 (by omega), h 0 (by omega) 7 (by omega), h 1 (by omega) 0 (by omega), h 1 (by omega) 1 (by omega), h 1 (by omega) 2 (by omega), h 1 (by omega) 3 (by omega), h 1 (by omega) 4 (by omega), h 1 (by omega) 5 (by omega), h 1 (by omega) 6 (by omega), h 1 (by omega) 7 (by omega), h 2 (by omega) 0 (by omega), h 2 (by omega) 1 (by omega), h 2 (by omega) 2 (by omega), h 2 (by omega) 3 (by omega), h 2 (by omega) 4 (by omega), h 2 (by omega) 5 (by omega), h 2 (by omega) 6 (by omega), h 2 (by omega) 7 (by omega)]
def tot (w : Wheel_wheels) : Nat := T24 fun a b => (w.on_ a b).length
theorem tot_sm {w v : Wheel_wheels} (h : Sm w v) : tot w = tot v := T24_congr fun a ha b hb => by rw [h.on a ha b hb]
theorem tot_add (w : Wheel_wheels) (k s : Nat) (t : Wheel_timer) (hk : k < 3) (hs : s < 8) : tot ⟨w.now_, onAdd w.on_ k s t, w.places_, w.fired_⟩ = tot w + 1 := by
  have := T24_upd (fun a b => (w.on_ a b).length) (fun a b => (onAdd w.on_ k s t a b).length) k s hk hs (fun a b h => by simp only [onAdd, if_neg h])
  simp only [onAdd, and_self, if_true, List.length_append, List.length_singleton] at this
  unfold tot; simp only [onAdd]; omega
theorem tot_clr (w : Wheel_wheels) (k s : Nat) (hk : k < 3) (hs : s < 8) : tot ⟨w.now_, onClr w.on_ k s, w.places_, w.fired_⟩ + (w.on_ k s).length = tot w := by
  have := T24_upd (fun a b => (w.on_ a b).length) (fun a b => (onClr w.on_ k s a b).length) k s hk hs (fun a b h => by simp only [onClr, if_neg h])
  simp only [onClr, and_self, if_true, List.length_nil] at this
  unfold tot; simp only [onClr]; omega
def TOk (t : Wheel_timer) : Prop := 0 ≤ t.at_ ∧ t.at_ ≤ Big
def OnOk (w : Wheel_wheels) : Prop := ∀ k, k < 3 → ∀ s, s < 8 → ∀ t ∈ w.on_ k s, TOk t
theorem OnOk.sm {w v : Wheel_wheels} (h : Sm w v) (g : OnOk v) : OnOk w := fun k hk s hs t ht => g k hk s hs t (by rw [← h.on k hk s hs]; exact ht)
theorem OnOk.put {w : Wheel_wheels} {t : Wheel_timer} (g : OnOk w) (ht : TOk t) : OnOk (putS w t) := by
  intro k hk s hs u hu
  simp only [putS, onAdd] at hu
  split at hu
  · rcases List.mem_append.1 hu with h | h
    · exact g k hk s hs u h
    · rw [List.mem_singleton.1 h]; exact ht
  · exact g k hk s hs u hu
theorem OnOk.clr {w : Wheel_wheels} {a b : Nat} (g : OnOk w) : OnOk ⟨w.now_, onClr w.on_ a b, w.places_, w.fired_⟩ := by
  intro k hk s hs u hu
  simp only [onClr] at hu
  split at hu
  · cases hu
  · exact g k hk s hs u hu
theorem putS_tot (w : Wheel_wheels) (t : Wheel_timer) : tot (putS w t) = tot w + 1 := tot_add w _ _ t (lvl_lt _ _) (spk_lt _ _)
theorem putS_sm {w v : Wheel_wheels} (h : Sm w v) (t : Wheel_timer) : Sm (putS w t) (putS v t) := by
  refine ⟨h.now, h.places, h.fired, fun a ha b hb => ?_⟩
  simp only [putS, onAdd, h.now, h.on a ha b hb]
theorem puts_sm {w v : Wheel_wheels} (h : Sm w v) : ∀ l : List Wheel_timer, Sm (l.foldl putS w) (l.foldl putS v)
  | [] => h
  | t :: l => by
    have ih := puts_sm (putS_sm h t) l
    exact ih
termination_by l => l.length
theorem puts_tot : ∀ (l : List Wheel_timer) (w : Wheel_wheels), tot (l.foldl putS w) = tot w + l.length
  | [], w => rfl
  | t :: l, w => by rw [List.foldl_cons, puts_tot l, putS_tot, List.length_cons]; omega
theorem puts_ok : ∀ (l : List Wheel_timer) (w : Wheel_wheels), OnOk w → (∀ t ∈ l, TOk t) → OnOk (l.foldl putS w)
  | [], w, h, _ => h
  | t :: l, w, h, g => puts_ok l _ (h.put (g t List.mem_cons_self)) fun u hu => g u (List.mem_cons_of_mem _ hu)
theorem puts_rest : ∀ (l : List Wheel_timer) (w : Wheel_wheels), (l.foldl putS w).now_ = w.now_ ∧ (l.foldl putS w).places_ = w.places_ ∧ (l.foldl putS w).fired_ = w.fired_
  | [], w => ⟨rfl, rfl, rfl⟩
  | t :: l, w => puts_rest l (putS w t)
theorem put_norm (w : Wheel_wheels) (t : Wheel_timer) (hn : 0 ≤ w.now_ ∧ w.now_ ≤ Big) (ht : TOk t) (hl : tot w < 1000000) : ∃ w', wheel_wheels_put (norm w) t = some w' ∧ Sm w' (putS w t) := by
  have hs := norm_sm w
  obtain ⟨w', h1, h2⟩ := put_spec (norm w) t (by rw [hs.now]; exact hn) ht (fun k hk s hs' => by
    rw [hs.on k hk s hs']
    exact Nat.lt_of_le_of_lt (T24_le (fun a b => (w.on_ a b).length) k s hk hs') hl)
  exact ⟨w', h1, h2.trans (putS_sm hs t)⟩
theorem off_norm (w : Wheel_wheels) (k s : Nat) (hk : k < 3) (hs : s < 8) : ∃ w', wheel_wheels_off (norm w) (k : Int) (s : Int) = some (w.on_ k s, w') ∧ Sm w' ⟨w.now_, onClr w.on_ k s, w.places_, w.fired_⟩ := by
  have h := norm_sm w
  obtain ⟨w', h1, h2⟩ := off_spec (norm w) k s hk hs
  rw [h.on k hk s hs] at h1
  refine ⟨w', h1, h2.trans ⟨h.now, h.places, h.fired, fun a ha b hb => ?_⟩⟩
  simp only [onClr, h.on a ha b hb]
theorem l2_spec (r : (List Wheel_timer) × Wheel_wheels) (K : KT) (hr : ∀ t ∈ r.1, TOk t) : ∀ (n k : Nat) (w : Wheel_wheels), k ≤ r.1.length → r.1.length - k < n → (0 ≤ w.now_ ∧ w.now_ ≤ Big) → tot w + (r.1.length - k) < 1000000 →
    l2u r K n k w = onK K r.1.length ((r.1.drop k).foldl putS w)
  | 0, k, w, _, h, _, _ => by omega
  | n + 1, k, w, hk, hn, hw, ht => by
    rw [l2u_step]
    by_cases hlt : k < r.1.length
    · rw [dec_lt hlt, cond_true, Nat.zero_add, getD_lt _ _ hlt]
      obtain ⟨w', h1, h2⟩ := put_norm w r.1[k] hw (hr _ (List.getElem_mem hlt)) (by omega)
      rw [h1]
      show l2u r K n (k + 1) w' = _
      rw [l2u_sm r K n (k + 1) h2, l2_spec r K hr n (k + 1) (putS w r.1[k]) (by omega) (by omega) hw (by rw [putS_tot]; omega)]
      rw [List.drop_eq_getElem_cons hlt, List.foldl_cons]
    · rw [dec_ge (by omega), cond_false]
      obtain rfl : k = r.1.length := by omega
      rw [List.drop_length]; rfl
theorem len_mdelete {α : Type} (k : Int) : ∀ m : List (Int × α), (mget k m).isSome = true → (mdelete k m).length + 1 = m.length
  | [], h => by cases h
  | p :: r, h => by
    simp only [mget] at h
    simp only [mdelete]
    cases hk : k == p.1 with
    | true => rfl
    | false =>
      rw [hk, cond_false] at h
      rw [cond_false, List.length_cons, len_mdelete k r h, List.length_cons]
theorem len_mput {α : Type} (k : Int) (v : α) : ∀ m : List (Int × α), (mget k m) = none → (mput k v m).length = m.length + 1
  | [], h => rfl
  | p :: r, h => by
    simp only [mget] at h
    simp only [mput]
    cases hk : k == p.1 with
    | true => rw [hk, cond_true] at h; cases h
    | false =>
      rw [hk, cond_false] at h
      rw [cond_false, List.length_cons, len_mput k v r h, List.length_cons]
def fireS (x : List Int × List (Int × Int)) (t : Wheel_timer) : List Int × List (Int × Int) :=
  if mget t.id_ x.2 = some t.at_ then (x.1 ++ [t.id_], mdelete t.id_ x.2) else x
theorem compact_nodup (a : List Int) (hn : a.Nodup) (hl : a.length < 1000000) : slices_Compact_int_h0 a = some a := by
  unfold slices_Compact_int_h0
  by_cases h2 : a.length < 2
  · rw [show decide ((((a.length : Nat) : Int) : Int) < 2) = true by simp; omega]; rfl
  · rw [show decide ((((a.length : Nat) : Int) : Int) < 2) = false by simp; omega, cond_false]
    have key : ∀ (n k : Nat), 1 ≤ k → k ≤ a.length → a.length - k < n → slices_Compact_int_h0_l1 a n (k : Int) = some a := by
      intro n
      induction n with
      | zero => intro k _ _ h; omega
      | succ n ih =>
        intro k h1 hk hnk
        unfold slices_Compact_int_h0_l1
        by_cases hlt : k < a.length
        · have e1 : IntKind.i64.wrap ((k : Int) - 1) = ((k - 1 : Nat) : Int) := by rw [wrapb (by omega) (by omega)]; omega
          have e2 : IntKind.i64.wrap ((k : Int) + 1) = ((k + 1 : Nat) : Int) := by rw [wrapb (by omega) (by omega)]; omega
          rw [dec_lt hlt, cond_true, if_pos (by omega), e1, if_pos (by omega), e2, Int.toNat_natCast, Int.toNat_natCast, Nat.zero_add, Nat.zero_add, getD_lt _ _ hlt, getD_lt _ _ (show k - 1 < a.length by omega)]
          have hne : a[k] ≠ a[k - 1] := by
            intro h
            have := (List.getElem_inj hn).1 h
            omega
          rw [show ((a[k] : Int) == a[k - 1]) = false by simpa using hne, cond_false]
          exact ih (k + 1) (by omega) (by omega) (by omega)
        · rw [dec_ge (by omega), cond_false]
    exact key FUEL 1 (by omega) (by omega) (by unfold FUEL; omega)
def ins (x : Int) : List Int → List Int
  | [] => [x]
  | y :: r => if x ≤ y then x :: y :: r else y :: ins x r
def sorted : List Int → List Int
  | [] => []
  | x :: r => ins x (sorted r)
theorem ins_perm (x : Int) : ∀ l : List Int, (ins x l).Perm (x :: l)
  | [] => .refl _
  | y :: r => by
    unfold ins; split
    · exact .refl _
    · exact ((ins_perm x r).cons y).trans (.swap x y r)
theorem ins_sorted (x : Int) : ∀ l : List Int, l.Pairwise (· ≤ ·) → (ins x l).Pairwise (· ≤ ·)
  | [], _ => by simp [ins]
  | y :: r, h => by
    obtain ⟨h1, h2⟩ := List.pairwise_cons.1 h
    unfold ins; split
    · rename_i hxy
      refine List.pairwise_cons.2 ⟨fun z hz => ?_, h⟩
      rcases List.mem_cons.1 hz with rfl | hz
      · exact hxy
      · exact Int.le_trans hxy (h1 z hz)
    · rename_i hxy
      refine List.pairwise_cons.2 ⟨fun z hz => ?_, ins_sorted x r h2⟩
      rcases List.mem_cons.1 ((ins_perm x r).mem_iff.1 hz) with rfl | hz
      · omega
      · exact h1 z hz
theorem sorted_perm : ∀ ids : List Int, (sorted ids).Perm ids
  | [] => .refl _
  | x :: r => (ins_perm x _).trans ((sorted_perm r).cons x)
theorem sorted_sorted : ∀ ids : List Int, (sorted ids).Pairwise (· ≤ ·)
  | [] => .nil
  | x :: r => ins_sorted x _ (sorted_sorted r)
theorem sorted_eq (ids : List Int) : (ids.mergeSort fun x y => decide (x ≤ y)) = sorted ids := by
  have h1 : (ids.mergeSort fun x y => decide (x ≤ y)).Pairwise (· ≤ ·) := by
    have := List.pairwise_mergeSort (le := fun x y : Int => decide (x ≤ y)) (by intro a b c; simp; omega) (by intro a b; simp; omega) ids
    exact this.imp (by intro a b h; simpa using h)
  exact List.Perm.eq_of_pairwise (le := (· ≤ ·)) (fun a b _ _ h h' => Int.le_antisymm h h') h1 (sorted_sorted ids) ((List.mergeSort_perm _ _).trans (sorted_perm ids).symm)
theorem l4_spec (r : (List Wheel_timer) × Wheel_wheels) (m : List (Int × Int)) (ids : List Int) : ∀ (n k : Nat) (f : List Api_Fired), k ≤ ids.length → ids.length - k < n → f.length + (ids.length - k) < 1000000 →
    wheel_wheels_tick_l4 r m ids n k f = some ⟨r.2.now_, r.2.on_, m, f ++ (ids.drop k).map fun i => ⟨r.2.now_, i⟩⟩
  | 0, k, f, _, h, _ => by omega
  | n + 1, k, f, hk, hn, hf => by
    unfold wheel_wheels_tick_l4
    by_cases hlt : k < ids.length
    · rw [dec_lt hlt, cond_true, if_pos (by simp; omega), l4_spec r m ids n (k + 1) _ (by omega) (by omega) (by simp; omega), Nat.zero_add, getD_lt _ _ hlt]
      rw [List.drop_eq_getElem_cons hlt, List.map_cons, List.append_assoc]; rfl
    · rw [dec_ge (by omega), cond_false]
      obtain rfl : k = ids.length := by omega
      rw [List.drop_length, List.map_nil, List.append_nil]
def fireEnd (v : Wheel_wheels) (x : List Int × List (Int × Int)) : Wheel_wheels := ⟨v.now_, v.on_, x.2, v.fired_ ++ (sorted x.1).map fun i => ⟨v.now_, i⟩⟩
theorem l3_spec (r : (List Wheel_timer) × Wheel_wheels) (hf : r.2.fired_.length + r.1.length < 1000000) : ∀ (n k : Nat) (ids : List Int) (m : List (Int × Int)), k ≤ r.1.length → r.1.length - k < n → ids.length ≤ k → ids.Nodup → (∀ i ∈ ids, mget i m = none) → (mkeys m).Nodup →
    wheel_wheels_tick_l3 r n ids k m = some (fireEnd r.2 ((r.1.drop k).foldl fireS (ids, m)))
  | 0, k, ids, m, _, h, _, _, _, _ => by omega
  | n + 1, k, ids, m, hk, hn, hi, hnd, hno, hm => by
    unfold wheel_wheels_tick_l3
    by_cases hlt : k < r.1.length
    · rw [dec_lt hlt, cond_true, Nat.zero_add, getD_lt _ _ hlt, List.drop_eq_getElem_cons hlt, List.foldl_cons]
      generalize r.1[k] = t
      by_cases hg : mget t.id_ m = some t.at_
      · have hnot : t.id_ ∉ ids := fun h => by rw [hno _ h] at hg; cases hg
        have hc : ((mget t.id_ m).isSome && (((mget t.id_ m).getD 0 : Int) == t.at_)) = true := by rw [hg]; simp
        rw [hc, cond_true, if_pos (by simp; omega), show fireS (ids, m) t = (ids ++ [t.id_], mdelete t.id_ m) from if_pos hg]
        refine l3_spec r hf n (k + 1) _ _ (by omega) (by omega) (by simp; omega) ?_ ?_ (nodup_mdelete _ _ hm)
        · rw [List.nodup_append]
          refine ⟨hnd, by simp, ?_⟩
          intro a ha b hb
          rw [List.mem_singleton.1 hb]
          rintro rfl; exact hnot ha
        · intro i hi'
          rw [mget_mdelete _ _ _ hm]
          split
          · rfl
          · rename_i hne
            rcases List.mem_append.1 hi' with h | h
            · exact hno i h
            · exact absurd (List.mem_singleton.1 h) hne
      · have hc : ((mget t.id_ m).isSome && (((mget t.id_ m).getD 0 : Int) == t.at_)) = false := by
          cases h : mget t.id_ m with
          | none => rfl
          | some v =>
            simp
            rintro rfl
            exact hg h
        rw [hc, cond_false, show fireS (ids, m) t = (ids, m) from if_neg hg]
        exact l3_spec r hf n (k + 1) _ _ (by omega) (by omega) (by omega) hnd hno hm
    · rw [dec_ge (by omega), cond_false]
      obtain rfl : k = r.1.length := by omega
      rw [List.drop_length, List.foldl_nil]
      have hp := sorted_perm ids
      have hlen : (sorted ids).length = ids.length := hp.length_eq
      unfold slices_Sort_int
      rw [sorted_eq, Option.bind_some, if_pos hlen, compact_nodup _ (hp.nodup_iff.2 hnd) (by omega)]
      show wheel_wheels_tick_l4 r m (sorted ids) FUEL 0 r.2.fired_ = _
      rw [l4_spec r m (sorted ids) FUEL 0 _ (by omega) (by unfold FUEL; omega) (by omega)]
      rfl
def clrS (w : Wheel_wheels) (k s : Nat) : Wheel_wheels := ⟨w.now_, onClr w.on_ k s, w.places_, w.fired_⟩
def roundS (k : Nat) (w : Wheel_wheels) : Wheel_wheels :=
  if w.now_ % szOf k = 0 then (w.on_ k (spk k w.now_)).foldl putS (clrS w k (spk k w.now_)) else w
def tickS (w : Wheel_wheels) : Wheel_wheels :=
  let v := roundS 1 (roundS 2 ⟨w.now_ + 1, w.on_, w.places_, w.fired_⟩)
  fireEnd (clrS v 0 (spk 0 v.now_)) ((v.on_ 0 (spk 0 v.now_)).foldl fireS ([], v.places_))
structure Good (w : Wheel_wheels) (n : Nat) (b : Int) : Prop where
  now0 : 0 ≤ w.now_
  now1 : w.now_ ≤ b
  on : OnOk w
  tot : tot w ≤ n
  keys : (mkeys w.places_).Nodup
  fired : w.fired_.length + w.places_.length ≤ n
theorem clrS_sm {w v : Wheel_wheels} (h : Sm w v) (k s : Nat) : Sm (clrS w k s) (clrS v k s) := by
  refine ⟨h.now, h.places, h.fired, fun a ha b hb => ?_⟩
  simp only [clrS, onClr, h.on a ha b hb]
theorem roundS_sm {w v : Wheel_wheels} (h : Sm w v) (k : Nat) (hk : k < 3) : Sm (roundS k w) (roundS k v) := by
  unfold roundS
  rw [h.now]
  split
  · rw [h.on k hk _ (spk_lt _ _)]
    exact puts_sm (clrS_sm h _ _) _
  · exact h
theorem fireEnd_sm {w v : Wheel_wheels} (h : Sm w v) (x : List Int × List (Int × Int)) : Sm (fireEnd w x) (fireEnd v x) := by
  refine ⟨h.now, rfl, ?_, h.on⟩
  simp only [fireEnd, h.now, h.fired]
theorem tickS_sm {w v : Wheel_wheels} (h : Sm w v) : Sm (tickS w) (tickS v) := by
  have h0 : Sm ⟨w.now_ + 1, w.on_, w.places_, w.fired_⟩ ⟨v.now_ + 1, v.on_, v.places_, v.fired_⟩ := ⟨by rw [h.now], h.places, h.fired, h.on⟩
  have h1 := roundS_sm (roundS_sm h0 2 (by omega)) 1 (by omega)
  unfold tickS
  simp only
  rw [h1.now, h1.places, h1.on 0 (by omega) _ (spk_lt _ _)]
  exact fireEnd_sm (clrS_sm h1 _ _) _
theorem Good.round {w : Wheel_wheels} {n : Nat} {b : Int} (g : Good w n b) {k : Nat} (hk : k < 3) : Good (roundS k w) n b ∧ (roundS k w).now_ = w.now_ ∧ (roundS k w).places_ = w.places_ ∧ (roundS k w).fired_ = w.fired_ := by
  unfold roundS
  split
  · obtain ⟨r1, r2, r3⟩ := puts_rest (w.on_ k (spk k w.now_)) (clrS w k (spk k w.now_))
    refine ⟨⟨by rw [r1]; exact g.now0, by rw [r1]; exact g.now1, puts_ok _ _ g.on.clr (g.on k hk _ (spk_lt _ _)), ?_, by rw [r2]; exact g.keys, by rw [r2, r3]; exact g.fired⟩, r1, r2, r3⟩
    rw [puts_tot]
    have := tot_clr w k (spk k w.now_) hk (spk_lt _ _)
    have := g.tot
    unfold clrS; omega
  · exact ⟨g, rfl, rfl, rfl⟩
theorem round_spec (a0 : Wheel_wheels) {w : Wheel_wheels} {n : Nat} {b : Int} (g : Good w n b) (hn : n < 100000) (hb : b ≤ Big) (m k : Nat) (hk : k = 1 ∨ k = 2) (x2 : Int) (hx2 : x2 = szOf k) :
    tl1 a0 (m + 1) (k : Int) x2 w = tl1 a0 m ((k - 1 : Nat) : Int) (szOf (k - 1)) (roundS k w) := by
  have hB : Big = 1000000000 := rfl
  have hk3 : k < 3 := by omega
  have hz : 0 < szOf k := by rcases hk with rfl | rfl <;> decide
  subst hx2
  rw [tl1_step, show decide ((k : Int) > 0) = true by simp; omega, cond_true, if_pos (by omega)]
  have e1 : IntKind.i64.wrap ((k : Int) - 1) = ((k - 1 : Nat) : Int) := by rw [wrapb (by omega) (by omega)]; omega
  have e2 : IntKind.i64.wrap (Int.tdiv (szOf k) 8) = szOf (k - 1) := by rcases hk with rfl | rfl <;> decide
  rw [e1, e2, Int.tmod_eq_emod_of_nonneg g.now0]
  unfold roundS
  by_cases h0 : w.now_ % szOf k = 0
  · rw [if_pos h0, show (((w.now_ % szOf k) : Int) == 0) = true by simpa using h0, cond_true, if_pos (by omega), spk_eq hk3 g.now0 (by have := g.now1; omega)]
    obtain ⟨w', h1, h2⟩ := off_norm w k (spk k w.now_) hk3 (spk_lt _ _)
    rw [h1, Option.bind_some]
    have htot : tot (clrS w k (spk k w.now_)) + _ = _ := tot_clr w k (spk k w.now_) hk3 (spk_lt _ _)
    have h2' : Sm w' (clrS w k (spk k w.now_)) := h2
    have hgt := g.tot
    have hle : (w.on_ k (spk k w.now_)).length ≤ n := by omega
    rw [l2u_sm _ _ FUEL 0 h2', l2_spec (w.on_ k (spk k w.now_), w') _ (g.on k hk3 _ (spk_lt _ _)) FUEL 0 (clrS w k (spk k w.now_)) (by omega) (by show (w.on_ k (spk k w.now_)).length - 0 < FUEL; unfold FUEL; omega) ⟨g.now0, by have := g.now1; show w.now_ ≤ _; omega⟩ (by show _ + ((w.on_ k (spk k w.now_)).length - 0) < _; omega)]
    rfl
  · rw [if_neg h0, show (((w.now_ % szOf k) : Int) == 0) = false by simpa using h0, cond_false]
theorem fire_keys : ∀ (l : List Wheel_timer) (x : List Int × List (Int × Int)), (mkeys x.2).Nodup → (mkeys (l.foldl fireS x).2).Nodup ∧ (l.foldl fireS x).1.length + (l.foldl fireS x).2.length = x.1.length + x.2.length
  | [], x, h => ⟨h, rfl⟩
  | t :: l, x, h => by
    rw [List.foldl_cons]
    have hs : (mkeys (fireS x t).2).Nodup ∧ (fireS x t).1.length + (fireS x t).2.length = x.1.length + x.2.length := by
      unfold fireS
      split
      · rename_i hg
        refine ⟨nodup_mdelete _ _ h, ?_⟩
        have : (mdelete t.id_ x.2).length + 1 = x.2.length := len_mdelete _ _ (by rw [hg]; rfl)
        simp; omega
      · exact ⟨h, rfl⟩
    obtain ⟨h1, h2⟩ := fire_keys l _ hs.1
    exact ⟨h1, by rw [h2, hs.2]⟩
theorem tick_spec {w : Wheel_wheels} {n : Nat} {b : Int} (g : Good w n b) (hn : n < 100000) (hb : b + 1 ≤ Big) : ∃ w', wheel_wheels_tick w = some w' ∧ Sm w' (tickS w) ∧ Good (tickS w) n (b + 1) := by
  have hB : Big = 1000000000 := rfl
  have hn1 := g.now1
  have hn0 := g.now0
  have g0 : Good ⟨w.now_ + 1, w.on_, w.places_, w.fired_⟩ n (b + 1) := ⟨by show 0 ≤ w.now_ + 1; omega, by show w.now_ + 1 ≤ b + 1; omega, g.on, g.tot, g.keys, g.fired⟩
  obtain ⟨m, hF⟩ : ∃ m, FUEL = m + 3 := ⟨FUEL - 3, by unfold FUEL; rfl⟩
  obtain ⟨g1, a1, b1, c1⟩ := g0.round (k := 2) (by omega)
  obtain ⟨g2, a2, b2, c2⟩ := g1.round (k := 1) (by omega)
  have e0 : IntKind.i64.wrap (w.now_ + 1) = w.now_ + 1 := wrapb (by omega) (by omega)
  have E : wheel_wheels_tick w = tl1 w (m + 1) ((0 : Nat) : Int) (szOf 0) (roundS 1 (roundS 2 ⟨w.now_ + 1, w.on_, w.places_, w.fired_⟩)) := by
    rw [tick_eq, e0, hF]
    have r2 := round_spec w g0 hn hb (m + 2) 2 (.inr rfl) 64 rfl
    have r1 := round_spec w g1 hn hb (m + 1) 1 (.inl rfl) (szOf 1) rfl
    exact r2.trans r1
  unfold tickS
  simp only
  generalize roundS 1 (roundS 2 ⟨w.now_ + 1, w.on_, w.places_, w.fired_⟩) = v at *
  have hv0 := g2.now0
  have hv1 := g2.now1
  rw [E, tl1_step, show decide ((((0 : Nat) : Int) : Int) > 0) = false from rfl, cond_false]
  have hsp : Int.tmod v.now_ 8 = (spk 0 v.now_ : Int) := by
    have := spk_eq (k := 0) (a := v.now_) (by omega) hv0 (by omega)
    rw [show szOf 0 = 1 from rfl, tdiv_nn hv0 (by omega), Int.ediv_one, wrapb (by omega) (by omega)] at this
    exact this
  obtain ⟨w', h1, h2⟩ := off_norm v 0 (spk 0 v.now_) (by omega) (spk_lt _ _)
  rw [hsp]
  rw [show wheel_wheels_off (norm v) 0 (spk 0 v.now_ : Int) = _ from h1, Option.bind_some]
  have htot := tot_clr v 0 (spk 0 v.now_) (by omega) (spk_lt _ _)
  have hgt := g2.tot
  have hgf := g2.fired
  have hfi := h2.fired
  have hle : (v.on_ 0 (spk 0 v.now_)).length ≤ n := by omega
  have hpl := h2.places
  refine ⟨_, l3_spec (v.on_ 0 (spk 0 v.now_), w') (by show w'.fired_.length + (v.on_ 0 (spk 0 v.now_)).length < _; rw [hfi]; show v.fired_.length + _ < _; omega) FUEL 0 [] w'.places_ (by omega) (by show (v.on_ 0 (spk 0 v.now_)).length - 0 < FUEL; unfold FUEL; omega) (by simp) List.nodup_nil (by intro i hi; cases hi) (by rw [hpl]; exact g2.keys), ?_, ?_⟩
  · rw [hpl]
    exact fireEnd_sm h2 _
  · obtain ⟨k1, k2⟩ := fire_keys (v.on_ 0 (spk 0 v.now_)) ([], v.places_) g2.keys
    refine ⟨hv0, hv1, g2.on.clr, ?_, k1, ?_⟩
    · show tot (clrS v 0 (spk 0 v.now_)) ≤ n
      unfold clrS; omega
    · simp only [fireEnd, clrS, List.length_append, List.length_map, (sorted_perm _).length_eq]
      simp only [List.length_nil] at k2
      omega
def ticks : Nat → Wheel_wheels → Wheel_wheels
  | 0, w => w
  | n + 1, w => ticks n (tickS w)
def dl1 (a0 : Wheel_wheels) (a1 : Api_TimerOp) (n : Nat) (x : Int) (w : Wheel_wheels) : Option (Int × Wheel_wheels) := wheel_wheels_do_l1 a0 a1 n x w.now_ ((w.on_ 0) 0) ((w.on_ 0) 1) ((w.on_ 0) 2) ((w.on_ 0) 3) ((w.on_ 0) 4) ((w.on_ 0) 5) ((w.on_ 0) 6) ((w.on_ 0) 7) ((w.on_ 1) 0) ((w.on_ 1) 1) ((w.on_ 1) 2) ((w.on_ 1) 3) ((w.on_ 1) 4) ((w.on_ 1) 5) ((w.on_ 1) 6) ((w.on_ 1) 7) ((w.on_ 2) 0) ((w.on_ 2) 1) ((w.on_ 2) 2) ((w.on_ 2) 3) ((w.on_ 2) 4) ((w.on_ 2) 5) ((w.on_ 2) 6) ((w.on_ 2) 7) w.places_ w.fired_
theorem dl1_sm (a0 : Wheel_wheels) (a1 : Api_TimerOp) (n : Nat) (x : Int) {w v : Wheel_wheels} (h : Sm w v) : dl1 a0 a1 n x w = dl1 a0 a1 n x v := by
  have g := h.on
  unfold dl1
  rw [h.now, h.places, h.fired, g 0 (by omega) 0 (by omega), g 0 (by omega) 1 (by omega), g 0 (by omega) 2 (by omega), g 0 (by omega) 3 (by omega), g 0 (by omega) 4 (by omega), g 0 (by omega) 5 (by omega), g 0 (by omega) 6 (by omega), g 0 (by omega) 7 (by omega), g 1 (by omega) 0 (by omega), g 1 (by omega) 1 (by omega), g 1 (by omega) 2 (by omega), g 1 (by omega) 3 (by omega), g 1 (by omega) 4 (by omega), g 1 (by omega) 5 (by omega), g 1 (by omega) 6 (by omega), g 1 (by omega) 7 (by omega), g 2 (by omega) 0 (by omega), g 2 (by omega) 1 (by omega), g 2 (by omega) 2 (by omega), g 2 (by omega) 3 (by omega), g 2 (by omega) 4 (by omega), g 2 (by omega) 5 (by omega), g 2 (by omega) 6 (by omega), g 2 (by omega) 7 (by omega)]
theorem dl1_step (a0 : Wheel_wheels) (a1 : Api_TimerOp) (n : Nat) (x : Int) (w : Wheel_wheels) :
    dl1 a0 a1 (n + 1) x w = bif (decide ((x : Int) < a1.Ticks)) then (wheel_wheels_tick (norm w)).bind fun r => dl1 a0 a1 n (IntKind.i64.wrap (x + 1)) r else some (0, norm w) := rfl
theorem Good.sm {w v : Wheel_wheels} {n : Nat} {b : Int} (h : Sm w v) (g : Good v n b) : Good w n b :=
  ⟨by rw [h.now]; exact g.now0, by rw [h.now]; exact g.now1, g.on.sm h, by rw [tot_sm h]; exact g.tot, by rw [h.places]; exact g.keys, by rw [h.places, h.fired]; exact g.fired⟩
theorem Good.mono {w : Wheel_wheels} {n n' : Nat} {b b' : Int} (g : Good w n b) (h : n ≤ n') (h' : b ≤ b') : Good w n' b' :=
  ⟨g.now0, Int.le_trans g.now1 h', g.on, Nat.le_trans g.tot h, g.keys, Nat.le_trans g.fired h⟩
theorem tick_norm {w : Wheel_wheels} {n : Nat} {b : Int} (g : Good w n b) (hn : n < 100000) (hb : b + 1 ≤ Big) : ∃ w', wheel_wheels_tick (norm w) = some w' ∧ Sm w' (tickS w) ∧ Good (tickS w) n (b + 1) := by
  obtain ⟨w', h1, h2, h3⟩ := tick_spec (g.sm (norm_sm w)) hn hb
  have := tickS_sm (norm_sm w)
  exact ⟨w', h1, h2.trans this, h3.sm this.symm⟩
theorem dl1_spec (a0 : Wheel_wheels) (a1 : Api_TimerOp) {n : Nat} (hn : n < 100000) : ∀ (d m : Nat) (x : Nat) (b : Int) (w : Wheel_wheels), a1.Ticks = ((x + d : Nat) : Int) → x + d ≤ 2000 → d < m → Good w n b → b + d ≤ Big →
    ∃ w', dl1 a0 a1 m (x : Int) w = some (0, w') ∧ Sm w' (ticks d w) ∧ Good (ticks d w) n (b + d)
  | 0, m + 1, x, b, w, h1, h2, h3, g, hb => by
    rw [dl1_step, h1, show decide (((x : Nat) : Int) < ((x + 0 : Nat) : Int)) = false by simp, cond_false]
    exact ⟨_, rfl, norm_sm w, (g.mono (Nat.le_refl _) (by omega) : Good (ticks 0 w) n _)⟩
  | d + 1, m + 1, x, b, w, h1, h2, h3, g, hb => by
    have hB : Big = 1000000000 := rfl
    rw [dl1_step, show decide (((x : Nat) : Int) < a1.Ticks) = true by rw [h1]; simp; omega, cond_true]
    obtain ⟨w', t1, t2, t3⟩ := tick_norm g hn (by omega)
    rw [t1, Option.bind_some, show IntKind.i64.wrap ((x : Int) + 1) = ((x + 1 : Nat) : Int) by rw [wrapb (by omega) (by omega)]; omega, dl1_sm _ _ _ _ t2]
    obtain ⟨w2, u1, u2, u3⟩ := dl1_spec a0 a1 hn d m (x + 1) (b + 1) (tickS w) (by rw [h1]; congr 1; omega) (by omega) (by omega) t3 (by omega)
    refine ⟨w2, u1, u2, ?_⟩
    have : b + 1 + (d : Int) = b + ((d + 1 : Nat) : Int) := by omega
    rw [← this]; exact u3
  | _, 0, _, _, _, _, _, h, _, _ => by omega
def addS (w : Wheel_wheels) (o : Api_TimerOp) : Wheel_wheels := putS ⟨w.now_, w.on_, mput o.Id (w.now_ + o.Ticks) w.places_, w.fired_⟩ ⟨w.now_ + o.Ticks, o.Id⟩
def doS (w : Wheel_wheels) (o : Api_TimerOp) : Int × Wheel_wheels :=
  if o.Kind = 1 then
    if o.Ticks < 1 ∨ o.Ticks > 511 then (2, w) else if (mget o.Id w.places_).isSome then (6, w) else (0, addS w o)
  else if o.Kind = 2 then
    if (mget o.Id w.places_).isSome then (0, ⟨w.now_, w.on_, mdelete o.Id w.places_, w.fired_⟩) else (3, w)
  else if o.Kind = 3 then
    if o.Ticks < 0 ∨ o.Ticks > 2000 then (2, w) else (0, ticks o.Ticks.toNat w)
  else (5, w)
theorem do_eq (w : Wheel_wheels) (a1 : Api_TimerOp) : wheel_wheels_do w a1 =
  bif ((a1.Kind : Int) == 1) then
    bif ((decide ((a1.Ticks : Int) < 1)) || (decide ((a1.Ticks : Int) > 511))) then
      some (2, w)
    else
      bif (mget a1.Id w.places_).isSome then
        some (6, w)
      else
        (wheel_wheels_put (⟨w.now_, w.on_, (mput a1.Id (IntKind.i64.wrap (w.now_ + a1.Ticks)) w.places_), w.fired_⟩ : Wheel_wheels) (⟨(IntKind.i64.wrap (w.now_ + a1.Ticks)), a1.Id⟩ : Wheel_timer)).bind fun r7 =>
        some (0, r7)
  else
    bif ((a1.Kind : Int) == 2) then
      bif (!((mget a1.Id w.places_).isSome)) then
        some (3, w)
      else
        some (0, (⟨w.now_, w.on_, (mdelete a1.Id w.places_), w.fired_⟩ : Wheel_wheels))
    else
      bif ((a1.Kind : Int) == 3) then
        bif ((decide ((a1.Ticks : Int) < 0)) || (decide ((a1.Ticks : Int) > 2000))) then
          some (2, w)
        else
          dl1 w a1 FUEL 0 w
      else
        some (5, w) := rfl
theorem do_spec {w : Wheel_wheels} {n : Nat} {b : Int} (o : Api_TimerOp) (g : Good w n b) (hn : n + 1 < 100000) (hb : b + 2000 ≤ Big) :
    ∃ w', wheel_wheels_do (norm w) o = some ((doS w o).1, w') ∧ Sm w' (doS w o).2 ∧ Good (doS w o).2 (n + 1) (b + 2000) := by
  have hB : Big = 1000000000 := rfl
  have hs := norm_sm w
  have g' := g.mono (Nat.le_succ n) (show b ≤ b + 2000 by omega)
  have hn0 := g.now0
  have hn1 := g.now1
  rw [do_eq, hs.now, hs.places, hs.fired]
  unfold doS
  by_cases k1 : o.Kind = 1
  · rw [k1, show ((1 : Int) == 1) = true from rfl, cond_true, if_pos rfl]
    by_cases hr : o.Ticks < 1 ∨ o.Ticks > 511
    · rw [show ((decide ((o.Ticks : Int) < 1)) || (decide ((o.Ticks : Int) > 511))) = true by simpa using hr, cond_true, if_pos hr]
      exact ⟨_, rfl, hs, g'⟩
    · rw [show ((decide ((o.Ticks : Int) < 1)) || (decide ((o.Ticks : Int) > 511))) = false by simpa using hr, cond_false, if_neg hr]
      cases hg : mget o.Id w.places_ with
      | some v =>
        rw [show (some v : Option Int).isSome = true from rfl, cond_true, if_pos rfl]
        exact ⟨_, rfl, hs, g'⟩
      | none =>
        rw [show (none : Option Int).isSome = false from rfl, cond_false, if_neg (by decide), wrapb (by omega) (by omega)]
        have ht : TOk ⟨w.now_ + o.Ticks, o.Id⟩ := ⟨by show 0 ≤ w.now_ + o.Ticks; omega, by show w.now_ + o.Ticks ≤ Big; omega⟩
        have hs1 : Sm (⟨w.now_, (norm w).on_, mput o.Id (w.now_ + o.Ticks) w.places_, w.fired_⟩ : Wheel_wheels) ⟨w.now_, w.on_, mput o.Id (w.now_ + o.Ticks) w.places_, w.fired_⟩ := ⟨rfl, rfl, rfl, hs.on⟩
        have htn := g.tot
        obtain ⟨w', p1, p2⟩ := put_spec ⟨w.now_, (norm w).on_, mput o.Id (w.now_ + o.Ticks) w.places_, w.fired_⟩ ⟨w.now_ + o.Ticks, o.Id⟩ ⟨hn0, by show w.now_ ≤ Big; omega⟩ ht (fun k hk s hs' => by
          show ((norm w).on_ k s).length < _
          rw [hs.on k hk s hs']
          exact Nat.lt_of_le_of_lt (T24_le (fun a b => (w.on_ a b).length) k s hk hs') (by show tot w < _; omega))
        rw [p1, Option.bind_some]
        refine ⟨w', rfl, p2.trans (putS_sm hs1 _), ?_⟩
        refine ⟨hn0, by show w.now_ ≤ _; omega, OnOk.put (show OnOk ⟨w.now_, w.on_, _, w.fired_⟩ from g.on) ht, ?_, nodup_mput _ _ _ g.keys, ?_⟩
        · show tot (putS _ _) ≤ _
          rw [putS_tot]
          show tot w + 1 ≤ _; omega
        · show w.fired_.length + (mput o.Id (w.now_ + o.Ticks) w.places_).length ≤ _
          rw [len_mput _ _ _ hg]
          have := g.fired
          omega
  · rw [show ((o.Kind : Int) == 1) = false by simpa using k1, cond_false, if_neg k1]
    by_cases k2 : o.Kind = 2
    · rw [k2, show ((2 : Int) == 2) = true from rfl, cond_true, if_pos rfl]
      cases hg : mget o.Id w.places_ with
      | some v =>
        refine ⟨_, rfl, ⟨rfl, rfl, rfl, hs.on⟩, ⟨hn0, by show w.now_ ≤ _; omega, g.on, by show tot w ≤ _; have := g.tot; omega, nodup_mdelete _ _ g.keys, ?_⟩⟩
        show w.fired_.length + (mdelete o.Id w.places_).length ≤ _
        have := len_mdelete o.Id w.places_ (by rw [hg]; rfl)
        have := g.fired
        omega
      | none => exact ⟨_, rfl, hs, g'⟩
    · rw [show ((o.Kind : Int) == 2) = false by simpa using k2, cond_false, if_neg k2]
      by_cases k3 : o.Kind = 3
      · rw [k3, show ((3 : Int) == 3) = true from rfl, cond_true, if_pos rfl]
        by_cases hr : o.Ticks < 0 ∨ o.Ticks > 2000
        · rw [show ((decide ((o.Ticks : Int) < 0)) || (decide ((o.Ticks : Int) > 2000))) = true by simpa using hr, cond_true, if_pos hr]
          exact ⟨_, rfl, hs, g'⟩
        · rw [show ((decide ((o.Ticks : Int) < 0)) || (decide ((o.Ticks : Int) > 2000))) = false by simpa using hr, cond_false, if_neg hr]
          rw [dl1_sm _ _ _ _ hs]
          obtain ⟨w', d1, d2, d3⟩ := dl1_spec (norm w) o (n := n) (by omega) o.Ticks.toNat FUEL 0 b w (by omega) (by omega) (by unfold FUEL; omega) g (by omega)
          exact ⟨w', d1, d2, d3.mono (Nat.le_succ n) (by omega)⟩
      · rw [show ((o.Kind : Int) == 3) = false by simpa using k3, cond_false, if_neg k3]
        exact ⟨_, rfl, hs, g'⟩
def w0 : Wheel_wheels := ⟨0, fun _ _ => [], [], []⟩
def pl1 (a0 : List Api_TimerOp) (n : Nat) (l : List Int) (k : Nat) (w : Wheel_wheels) : Option ((List Int) × (List Api_Fired) × Int × Int) := wheel_Play_l1 a0 n l k w.now_ ((w.on_ 0) 0) ((w.on_ 0) 1) ((w.on_ 0) 2) ((w.on_ 0) 3) ((w.on_ 0) 4) ((w.on_ 0) 5) ((w.on_ 0) 6) ((w.on_ 0) 7) ((w.on_ 1) 0) ((w.on_ 1) 1) ((w.on_ 1) 2) ((w.on_ 1) 3) ((w.on_ 1) 4) ((w.on_ 1) 5) ((w.on_ 1) 6) ((w.on_ 1) 7) ((w.on_ 2) 0) ((w.on_ 2) 1) ((w.on_ 2) 2) ((w.on_ 2) 3) ((w.on_ 2) 4) ((w.on_ 2) 5) ((w.on_ 2) 6) ((w.on_ 2) 7) w.places_ w.fired_
theorem pl1_sm (a0 : List Api_TimerOp) (n : Nat) (l : List Int) (k : Nat) {w v : Wheel_wheels} (h : Sm w v) : pl1 a0 n l k w = pl1 a0 n l k v := by
  have g := h.on
  unfold pl1
  rw [h.now, h.places, h.fired, g 0 (by omega) 0 (by omega), g 0 (by omega) 1 (by omega), g 0 (by omega) 2 (by omega), g 0 (by omega) 3 (by omega), g 0 (by omega) 4 (by omega), g 0 (by omega) 5 (by omega), g 0 (by omega) 6 (by omega), g 0 (by omega) 7 (by omega), g 1 (by omega) 0 (by omega), g 1 (by omega) 1 (by omega), g 1 (by omega) 2 (by omega), g 1 (by omega) 3 (by omega), g 1 (by omega) 4 (by omega), g 1 (by omega) 5 (by omega), g 1 (by omega) 6 (by omega), g 1 (by omega) 7 (by omega), g 2 (by omega) 0 (by omega), g 2 (by omega) 1 (by omega), g 2 (by omega) 2 (by omega), g 2 (by omega) 3 (by omega), g 2 (by omega) 4 (by omega), g 2 (by omega) 5 (by omega), g 2 (by omega) 6 (by omega), g 2 (by omega) 7 (by omega)]
theorem pl1_step (a0 : List Api_TimerOp) (n : Nat) (l : List Int) (k : Nat) (w : Wheel_wheels) :
    pl1 a0 (n + 1) l k w = bif (decide ((((k : Nat) : Int) : Int) < ((a0.length : Nat) : Int))) then
      (wheel_wheels_do (norm w) (a0.getD k (⟨0, 0, 0⟩ : Api_TimerOp))).bind fun r33 =>
      if (l.length + ([r33.1]).length + (l.length + ([r33.1]).length) / 4 + 192) * 8 ≤ 281474976710656 ∧ l.length + ([r33.1]).length ≤ 140737488355328 then
      pl1 a0 n (l ++ [r33.1]) (k + 1) r33.2
      else none
    else some (l, w.fired_, ((w.places_.length : Nat) : Int), 0) := rfl
def runW (w : Wheel_wheels) (ops : List Api_TimerOp) : Wheel_wheels := ops.foldl (fun w o => (doS w o).2) w
def errsW : Wheel_wheels → List Api_TimerOp → List Int
  | _, [] => []
  | w, o :: r => (doS w o).1 :: errsW (doS w o).2 r
theorem pl1_spec (a0 : List Api_TimerOp) (hl : a0.length ≤ 400) : ∀ (n k : Nat) (l : List Int) (w : Wheel_wheels), k ≤ a0.length → a0.length - k < n → l.length = k → Good w k (2000 * k) →
    pl1 a0 n l k w = some (l ++ errsW w (a0.drop k), (runW w (a0.drop k)).fired_, (((runW w (a0.drop k)).places_.length : Nat) : Int), 0)
  | 0, k, l, w, _, h, _, _ => by omega
  | n + 1, k, l, w, hk, hn, hll, g => by
    have hB : Big = 1000000000 := rfl
    rw [pl1_step]
    by_cases hlt : k < a0.length
    · rw [dec_lt hlt, cond_true, getD_lt _ _ hlt]
      obtain ⟨w', d1, d2, d3⟩ := do_spec a0[k] g (by omega) (by omega)
      rw [d1, Option.bind_some]
      rw [if_pos (by simp; omega), pl1_sm _ _ _ _ d2, pl1_spec a0 hl n (k + 1) _ _ (by omega) (by omega) (by simp; omega) (d3.mono (Nat.le_refl _) (by omega))]
      rw [List.drop_eq_getElem_cons hlt]
      simp only [errsW, runW, List.foldl_cons, List.append_assoc, List.singleton_append]
    · rw [dec_ge (by omega), cond_false]
      obtain rfl : k = a0.length := by omega
      rw [List.drop_length]; simp [errsW, runW]
theorem good0 : Good w0 0 0 := ⟨by decide, by decide, fun k _ s _ t ht => (by cases ht), by decide, List.nodup_nil, by decide⟩
theorem play_spec (ops : List Api_TimerOp) (h : ops.length ≤ 400) : wheel_Play ops = some (errsW w0 ops, (runW w0 ops).fired_, (((runW w0 ops).places_.length : Nat) : Int), 0) := by
  unfold wheel_Play
  rw [show decide ((((ops.length : Nat) : Int) : Int) > 400) = false by simp; omega, cond_false]
  exact pl1_spec ops h FUEL 0 [] w0 (by omega) (by unfold FUEL; omega) rfl good0
theorem play_big (ops : List Api_TimerOp) (h : ¬ ops.length ≤ 400) : wheel_Play ops = some ([], [], 0, 2) := by
  unfold wheel_Play
  rw [show decide ((((ops.length : Nat) : Int) : Int) > 400) = true by simp; omega, cond_true]
def cntW (w : Wheel_wheels) : Nat := w.fired_.length + w.places_.length
theorem cnt_tick {w : Wheel_wheels} (h : (mkeys w.places_).Nodup) : cntW (tickS w) = cntW w ∧ (mkeys (tickS w).places_).Nodup := by
  have key : ∀ (k : Nat) (w : Wheel_wheels), (roundS k w).places_ = w.places_ ∧ (roundS k w).fired_ = w.fired_ := by
    intro k w
    unfold roundS
    split
    · obtain ⟨r1, r2, r3⟩ := puts_rest (w.on_ k (spk k w.now_)) (clrS w k (spk k w.now_))
      exact ⟨r2, r3⟩
    · exact ⟨rfl, rfl⟩
  unfold tickS
  simp only
  obtain ⟨a1, a2⟩ := key 2 ⟨w.now_ + 1, w.on_, w.places_, w.fired_⟩
  obtain ⟨b1, b2⟩ := key 1 (roundS 2 ⟨w.now_ + 1, w.on_, w.places_, w.fired_⟩)
  generalize roundS 1 (roundS 2 ⟨w.now_ + 1, w.on_, w.places_, w.fired_⟩) = v at *
  have hp : v.places_ = w.places_ := b1.trans a1
  have hf : v.fired_ = w.fired_ := b2.trans a2
  obtain ⟨k1, k2⟩ := fire_keys (v.on_ 0 (spk 0 v.now_)) ([], v.places_) (by rw [hp]; exact h)
  refine ⟨?_, k1⟩
  simp only [cntW, fireEnd, clrS, List.length_append, List.length_map, (sorted_perm _).length_eq]
  simp only [List.length_nil] at k2
  rw [← hf, ← hp]
  omega
theorem cnt_ticks : ∀ (n : Nat) (w : Wheel_wheels), (mkeys w.places_).Nodup → cntW (ticks n w) = cntW w ∧ (mkeys (ticks n w).places_).Nodup
  | 0, w, h => ⟨rfl, h⟩
  | n + 1, w, h => by
    obtain ⟨a, b⟩ := cnt_tick h
    obtain ⟨c, d⟩ := cnt_ticks n _ b
    exact ⟨c.trans a, d⟩
def chg (o : Api_TimerOp) (e : Int) : Int := if e = 0 then (if o.Kind = 1 then 1 else if o.Kind = 2 then -1 else 0) else 0
theorem chg_do (w : Wheel_wheels) (o : Api_TimerOp) (h : (mkeys w.places_).Nodup) : (cntW (doS w o).2 : Int) = cntW w + chg o (doS w o).1 ∧ (mkeys (doS w o).2.places_).Nodup := by
  unfold doS chg
  by_cases k1 : o.Kind = 1
  · rw [if_pos k1]
    by_cases hr : o.Ticks < 1 ∨ o.Ticks > 511
    · rw [if_pos hr]; exact ⟨by simp, h⟩
    · rw [if_neg hr]
      cases hg : mget o.Id w.places_ with
      | some v => exact ⟨by simp, h⟩
      | none =>
        simp only [Option.isSome_none, Bool.false_eq_true, if_false, if_true, k1]
        refine ⟨?_, nodup_mput _ _ _ h⟩
        simp only [cntW, addS, putS, len_mput _ _ _ hg]
        omega
  · rw [if_neg k1]
    by_cases k2 : o.Kind = 2
    · rw [if_pos k2]
      cases hg : mget o.Id w.places_ with
      | some v =>
        simp only [Option.isSome_some, if_true, if_neg k1, if_pos k2]
        refine ⟨?_, nodup_mdelete _ _ h⟩
        have := len_mdelete o.Id w.places_ (by rw [hg]; rfl)
        simp only [cntW]
        omega
      | none => exact ⟨by simp, h⟩
    · rw [if_neg k2]
      by_cases k3 : o.Kind = 3
      · rw [if_pos k3]
        by_cases hr : o.Ticks < 0 ∨ o.Ticks > 2000
        · rw [if_pos hr]; exact ⟨by simp, h⟩
        · rw [if_neg hr]
          obtain ⟨a, b⟩ := cnt_ticks o.Ticks.toNat w h
          refine ⟨?_, b⟩
          simp only [if_true, if_neg k1, if_neg k2]
          omega
      · rw [if_neg k3]; exact ⟨by simp, h⟩
theorem alive : keep_alive11 = some true := by
  unfold keep_alive11
  rw [play_spec _ (by decide), Option.bind_some]
  decide +kernel
def sumC : List Api_TimerOp → List Int → Int
  | o :: r, e :: s => chg o e + sumC r s
  | _, _ => 0
theorem sumC_run : ∀ (ops : List Api_TimerOp) (w : Wheel_wheels), (mkeys w.places_).Nodup → (cntW (runW w ops) : Int) = cntW w + sumC ops (errsW w ops)
  | [], w, _ => by simp [runW, errsW, sumC]
  | o :: r, w, h => by
    obtain ⟨a, b⟩ := chg_do w o h
    have ih := sumC_run r _ b
    show (cntW (runW (doS w o).2 r) : Int) = _
    rw [ih, a]
    simp only [errsW, sumC]
    omega
theorem chg_b (o : Api_TimerOp) (e : Int) : -1 ≤ chg o e ∧ chg o e ≤ 1 := by
  unfold chg; split
  · split
    · omega
    · split <;> omega
  · omega
theorem sumC_b : ∀ (ops : List Api_TimerOp) (es : List Int), -(ops.length : Int) ≤ sumC ops es ∧ sumC ops es ≤ ops.length
  | [], es => by simp [sumC]
  | o :: r, [] => by simp only [sumC, List.length_cons]; omega
  | o :: r, e :: s => by
    have := sumC_b r s
    have := chg_b o e
    simp only [sumC, List.length_cons]; omega
def partS (l : List Api_TimerOp) (o : Api_TimerOp) : List Api_TimerOp :=
  if (o.Kind = 3 ∧ 1 < o.Ticks ∧ o.Ticks ≤ 2000) ∧ l.length < 360 then l ++ [⟨3, 0, 1⟩, ⟨3, 0, o.Ticks - 1⟩] else l ++ [o]
theorem runW_append (w : Wheel_wheels) (a b : List Api_TimerOp) : runW w (a ++ b) = runW (runW w a) b := List.foldl_append
theorem partS_run (w : Wheel_wheels) (l : List Api_TimerOp) (o : Api_TimerOp) : runW w (partS l o) = runW (runW w l) [o] := by
  unfold partS
  split
  · rename_i h
    rw [runW_append]
    generalize runW w l = v
    obtain ⟨⟨h1, h2, h3⟩, _⟩ := h
    have e : o.Ticks.toNat = (o.Ticks - 1).toNat + 1 := by omega
    simp only [runW, List.foldl_cons, List.foldl_nil]
    have e1 : (doS v ⟨3, 0, 1⟩).2 = tickS v := by unfold doS; simp [ticks]
    have e2 : ∀ u, (doS u ⟨3, 0, o.Ticks - 1⟩).2 = ticks (o.Ticks - 1).toNat u := by
      intro u
      unfold doS
      simp only [show ¬ ((3 : Int) = 1) by decide, show ¬ ((3 : Int) = 2) by decide, if_false, if_true]
      rw [if_neg (by omega)]
    have e3 : (doS v o).2 = ticks o.Ticks.toNat v := by
      unfold doS
      rw [if_neg (by omega), if_neg (by omega), if_pos h1, if_neg (by omega)]
    rw [e1, e2, e3, e]; rfl
  · rw [runW_append]
theorem parts_run : ∀ (ops l : List Api_TimerOp) (w : Wheel_wheels), runW w (ops.foldl partS l) = runW (runW w l) ops
  | [], l, w => rfl
  | o :: r, l, w => by
    rw [List.foldl_cons, parts_run r, partS_run]; rfl
theorem wp_l1 (a0 : List Api_TimerOp) (h0 : a0.length * 24 ≤ 140737488351232) : ∀ (n k : Nat) (l : List Api_TimerOp), k ≤ a0.length → a0.length - k < n → l.length ≤ k + 361 →
    keep_WheelParts_l1 a0 n l k = keep_WheelParts_l1 a0 1 ((a0.drop k).foldl partS l) a0.length
  | 0, k, l, _, h, _ => by omega
  | n + 1, k, l, hk, hn, hl => by
    by_cases hlt : k < a0.length
    · rw [List.drop_eq_getElem_cons hlt, List.foldl_cons]
      conv => lhs; unfold keep_WheelParts_l1
      rw [dec_lt hlt, cond_true, getD_lt _ _ hlt]
      generalize a0[k] = o
      by_cases hc : (o.Kind = 3 ∧ 1 < o.Ticks ∧ o.Ticks ≤ 2000) ∧ l.length < 360
      · have hc' : ((((((o.Kind : Int) == 3) && (decide ((o.Ticks : Int) > 1))) && (decide ((o.Ticks : Int) ≤ 2000))) && (decide ((((l.length : Nat) : Int) : Int) < 360)))) = true := by
          simp; omega
        rw [hc', cond_true, if_pos (by simp; omega), wrapb (by omega) (by omega), wp_l1 a0 h0 n (k + 1) _ (by omega) (by omega) (by simp; omega)]
        rw [show partS l o = _ from if_pos hc]
      · have hc' : ((((((o.Kind : Int) == 3) && (decide ((o.Ticks : Int) > 1))) && (decide ((o.Ticks : Int) ≤ 2000))) && (decide ((((l.length : Nat) : Int) : Int) < 360)))) = false := by
          rw [← Bool.not_eq_true]; simp; omega
        rw [hc', cond_false, if_pos (by simp; omega), wp_l1 a0 h0 n (k + 1) _ (by omega) (by omega) (by simp; omega)]
        rw [show partS l o = _ from if_neg hc]
    · obtain rfl : k = a0.length := by omega
      rw [List.drop_length, List.foldl_nil]
      conv => lhs; unfold keep_WheelParts_l1
      conv => rhs; unfold keep_WheelParts_l1
      rw [dec_ge (by omega), cond_false, cond_false]
theorem WheelParts_true (a0 : List Api_TimerOp) (h0 : a0.length * 24 ≤ 140737488351232 ∧ ∀ y ∈ a0, Ok_Api_TimerOp y) : keep_WheelParts a0 = some true := by
  unfold keep_WheelParts
  rw [alive, Option.bind_some, show (!true) = false from rfl, cond_false, wp_l1 a0 h0.1 FUEL 0 [] (by omega) (by unfold FUEL; omega) (by simp), List.drop_zero]
  have hr := parts_run a0 [] w0
  generalize a0.foldl partS [] = b at *
  unfold keep_WheelParts_l1
  rw [dec_ge (Nat.le_refl _), cond_false]
  by_cases ha : a0.length ≤ 400
  · by_cases hb : b.length ≤ 400
    · rw [play_spec a0 ha, play_spec b hb, Option.bind_some, Option.bind_some, hr]
      have hrr : runW (runW w0 []) a0 = runW w0 a0 := rfl
      rw [hrr]
      have hs := sumC_run a0 w0 good0.keys
      have hb := sumC_b a0 (errsW w0 a0)
      have h00 : (cntW w0 : Int) = 0 := rfl
      have hc : cntW (runW w0 a0) = (runW w0 a0).fired_.length + (runW w0 a0).places_.length := rfl
      generalize runW w0 a0 = w at *
      simp only [slices_Equal_api_Fired_eq _ _ (show w.fired_.length ≤ 140737488355328 by omega)]
      simp
    · rw [play_spec a0 ha, play_big b hb]
      simp
  · rw [play_big a0 ha]
    rcases Nat.lt_or_ge 400 b.length with hb | hb
    · rw [play_big b (by omega)]; simp
    · rw [play_spec b hb]; simp
end Go.Proofs.Ytfnmmlcmjmepjaa

