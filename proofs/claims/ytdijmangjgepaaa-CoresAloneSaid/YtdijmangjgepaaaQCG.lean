/- Cores: what cores.Run answers. -/
import Derived.Test.YtdijmangjgepaaaQCC
set_option linter.unusedVariables false
set_option linter.unusedSimpArgs false
namespace Go.Cp

/-- A thread as it comes in: when, how grave, how much. -/
abbrev Tin := Int × Int × Int
def badT (t : Tin) : Bool := decide (t.1 < 0) || decide (10000 < t.1) || decide (t.2.1 < 0) || decide (32 ≤ t.2.1) || decide (t.2.2 < 0) || decide (10000 < t.2.2)
def wrongF (cores slice : Int) (l : List Tin) : Bool := decide (cores < 1) || decide (8 < cores) || decide (slice < 1) || decide (100 < slice) || decide (64 < l.length) || l.any badT
def startS (l : List Tin) : S := ⟨l.map fun t => ⟨t.1, t.2.1, t.2.2, 0, 0⟩, 0⟩
def runF (cores slice : Int) (l : List Tin) (ticks : Int) : List (List Nat) × Int :=
  if wrongF cores slice l = true then ([], 2) else if ticks < 0 ∨ 2000 < ticks then ([], 2) else (runs cores.toNat slice ticks.toNat 0 (startS l), 0)

theorem start_len (l : List Tin) : (startS l).ths.length = l.length := by simp [startS]
theorem start_th {l : List Tin} {k : Nat} (h : k < l.length) : th (startS l).ths k = ⟨l[k].1, l[k].2.1, l[k].2.2, 0, 0⟩ := by
  unfold th startS
  rw [List.getD_eq_getElem?_getD]
  simp [h]
theorem start_ord {l : List Tin} (h : ∀ t ∈ l, 0 ≤ t.1) : Ord 0 (startS l) := by
  refine ⟨fun k hk hc => ?_, fun k j hk hj hc _ _ => ?_⟩
  · rw [start_len] at hk
    rw [start_th hk] at hc
    have := h _ (List.getElem_mem hk)
    simp at hc; omega
  · rw [start_len] at hk
    rw [start_th hk] at hc
    have := h _ (List.getElem_mem hk)
    simp at hc; omega
theorem wrong_ok {cores slice : Int} {l : List Tin} (h : wrongF cores slice l = false) : 1 ≤ cores ∧ cores ≤ 8 ∧ 1 ≤ slice ∧ slice ≤ 100 ∧ l.length ≤ 64 ∧ ∀ t ∈ l, 0 ≤ t.1 ∧ t.1 ≤ 10000 ∧ 0 ≤ t.2.1 ∧ t.2.1 < 32 ∧ 0 ≤ t.2.2 ∧ t.2.2 ≤ 10000 := by
  unfold wrongF at h
  simp only [Bool.or_eq_false_iff, decide_eq_false_iff_not] at h
  obtain ⟨⟨⟨⟨⟨h1, h2⟩, h3⟩, h4⟩, h5⟩, h6⟩ := h
  refine ⟨by omega, by omega, by omega, by omega, by omega, fun t ht => ?_⟩
  rw [List.any_eq_false] at h6
  have := h6 t ht
  unfold badT at this
  simp at this
  omega

end Go.Cp
