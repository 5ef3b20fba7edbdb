/- Spread: the order of Longest, and what Best answers, plain. -/
import Derived.Test.YtnbjjhhgpcpbgaaSpS
import Derived.Test.YtnbjjhhgpcpbgaaSpB
set_option linter.unusedVariables false
set_option linter.unusedSectionVars false
set_option linter.unnecessarySimpa false
set_option linter.unusedSimpArgs false
namespace Go.Sp
open Go.Sort

def ltO {α : Type} (cf : α → α → Int) (x y : α) : Bool := decide (cf x y < 0)
/-- The difference by which Longest sorts. -/
def cmpW (ws : List Int) (x y : Fin ws.length) : Int := ws.getD y.val 0 - ws.getD x.val 0
theorem ltW_t {ws : List Int} {x y : Fin ws.length} : ltO (cmpW ws) x y = true ↔ ws.getD y.val 0 < ws.getD x.val 0 := by
  show decide (ws.getD y.val 0 - ws.getD x.val 0 < 0) = true ↔ _
  rw [decide_eq_true_eq]; omega
theorem ltW_f {ws : List Int} {x y : Fin ws.length} : ltO (cmpW ws) x y = false ↔ ws.getD x.val 0 ≤ ws.getD y.val 0 := by
  show decide (ws.getD y.val 0 - ws.getD x.val 0 < 0) = false ↔ _
  rw [decide_eq_false_iff_not]; omega
theorem cmpW_swo (ws : List Int) : SWO (ltO (cmpW ws)) := by
  refine ⟨fun x => ltW_f.2 (Int.le_refl _), fun x y z h1 h2 => ?_, fun x y z h1 h2 => ?_⟩
  · rw [ltW_t] at *; omega
  · rw [ltW_f] at *; omega
def fins (ws : List Int) (h : 0 < ws.length) (xs : List Int) : List (Fin ws.length) := xs.map fun x => if g : x.toNat < ws.length then ⟨x.toNat, g⟩ else ⟨0, h⟩
theorem fins_val {ws : List Int} {h : 0 < ws.length} : ∀ {xs : List Int}, (∀ x ∈ xs, 0 ≤ x ∧ x < ws.length) → (fins ws h xs).map (fun k => (k.val : Int)) = xs
  | [], _ => rfl
  | x :: xs, hx => by
    have ih := fins_val (h := h) (xs := xs) fun y hy => hx y (by simp [hy])
    have h1 := hx x (by simp)
    unfold fins at ih ⊢
    rw [List.map_cons, List.map_cons, ih, dif_pos (by omega)]
    simp only [List.cons.injEq, and_true]
    omega
/-- Pieces' numbers, the largest pieces first. -/
def stabF (ws xs : List Int) : List Int :=
  if h : 0 < ws.length then
    letI : Inhabited (Fin ws.length) := ⟨⟨0, h⟩⟩
    (stable (ltO (cmpW ws)) xs.length (fins ws h xs).toArray).toList.map fun k => (k.val : Int)
  else xs
theorem stabF_spec {ws xs : List Int} (hx : ∀ x ∈ xs, 0 ≤ x ∧ x < ws.length) : (stabF ws xs).Perm xs ∧ (stabF ws xs).Pairwise fun x y => ws.getD y.toNat 0 ≤ ws.getD x.toNat 0 := by
  unfold stabF
  by_cases h : 0 < ws.length
  · rw [dif_pos h]
    letI : Inhabited (Fin ws.length) := ⟨⟨0, h⟩⟩
    have hsz : (fins ws h xs).toArray.size = xs.length := by simp [fins]
    obtain ⟨⟨h1, _, h3⟩, h4⟩ := stable_ok (cmpW_swo ws) (n := xs.length) (fins ws h xs).toArray (by omega)
    obtain ⟨d, hd⟩ : ∃ d, d = stable (ltO (cmpW ws)) xs.length (fins ws h xs).toArray := ⟨_, rfl⟩
    rw [← hd] at h1 h3 h4 ⊢
    have e1 : d.extract 0 xs.length = d := Array.extract_eq_self_of_le (by omega)
    have e2 : (fins ws h xs).toArray.extract 0 xs.length = (fins ws h xs).toArray := Array.extract_eq_self_of_le (by omega)
    rw [e1, e2] at h3
    refine ⟨?_, ?_⟩
    · have := h3.map (fun k : Fin ws.length => (k.val : Int))
      rw [show (fins ws h xs).toArray.toList = fins ws h xs from rfl, fins_val hx] at this
      exact this
    · rw [List.pairwise_map, List.pairwise_iff_getElem]
      intro i j hi hj hij
      rw [Array.length_toList] at hi hj
      have := h4 i j (Nat.zero_le _) hij (by omega)
      rw [getElem!_pos d i (by omega), getElem!_pos d j (by omega)] at this
      rw [ltW_f] at this
      simp only [Array.getElem_toList, Int.toNat_natCast]
      exact this
  · rw [dif_neg h]
    have : xs = [] := by
      cases xs with
      | nil => rfl
      | cons x xs => have := hx x (by simp); omega
    subst this
    exact ⟨List.Perm.refl _, List.Pairwise.nil⟩

def badW (w : Int) : Bool := decide (w < 0) || decide (w > 1073741824)
def wrongS (ws : List Int) (m : Int) : Bool := (decide (m < 1) || decide (m > 8)) || decide (400 < ws.length) || ws.any badW
def bestF (ws : List Int) (m : Int) : Int × Int := if wrongS ws m = true then (0, 2) else if 9 < ws.length then (0, 4) else (best ws m.toNat, 0)
theorem wrongS_ok {ws : List Int} {m : Int} (h : wrongS ws m = false) : 1 ≤ m ∧ m ≤ 8 ∧ ws.length ≤ 400 ∧ ∀ w ∈ ws, 0 ≤ w ∧ w ≤ 1073741824 := by
  unfold wrongS at h
  simp only [Bool.or_eq_false_iff, decide_eq_false_iff_not] at h
  obtain ⟨⟨⟨h1, h2⟩, h3⟩, h4⟩ := h
  refine ⟨by omega, by omega, by omega, fun w hw => ?_⟩
  have := List.any_eq_false.1 h4 w hw
  unfold badW at this
  simp at this
  omega
end Go.Sp
