import Derived.Test.YtfnmmlcmjmepjaaAbYm
namespace Go.Ab
theorem getD_lt {α : Type} (xs : List α) (d : α) {k : Nat} (h : k < xs.length) : xs.getD k d = xs[k] := by simp [h]
theorem dec_lt {k n : Nat} (h : k < n) : decide ((((k : Nat) : Int) : Int) < ((n : Nat) : Int)) = true := by simpa using h
theorem dec_ge {k n : Nat} (h : n ≤ k) : decide ((((k : Nat) : Int) : Int) < ((n : Nat) : Int)) = false := by simpa using h
theorem idx_ok {k n : Nat} (h : k < n) : 0 ≤ (((k : Nat) : Int) : Int) ∧ ((k : Nat) : Int) < ((n : Nat) : Int) := by omega
end Go.Ab

