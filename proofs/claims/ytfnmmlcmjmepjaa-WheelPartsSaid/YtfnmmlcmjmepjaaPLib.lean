import Derived.Test.YtfnmmlcmjmepjaaAbYm
namespace Go.Ab
theorem getD_lt {α : Type} (xs : List α) (d : α) {k : Nat} (h : k < xs.length) : xs.getD k d = xs[k] := by simp [h]
theorem dec_lt {k n : Nat} (h : k < n) : decide ((((k : Nat) : Int) : Int) < ((n : Nat) : Int)) = true := by simpa using h
theorem dec_ge {k n : Nat} (h : n ≤ k) : decide ((((k : Nat) : Int) : Int) < ((n : Nat) : Int)) = false := by simpa using h
theorem idx_ok {k n : Nat} (h : k < n) : 0 ≤ (((k : Nat) : Int) : Int) ∧ ((k : Nat) : Int) < ((n : Nat) : Int) := by omega
def mkeys {α : Type} (m : List (Int × α)) : List Int := m.map (·.1)
theorem mget_not_mem {α : Type} (x : Int) : ∀ m : List (Int × α), x ∉ mkeys m → mget x m = none
 | [], _ => rfl
 | p :: r, h => by
  simp only [mkeys, List.map_cons, List.mem_cons, not_or] at h
  unfold mget
  have : (x == p.1) = false := by simpa using h.1
  rw [this, cond_false]
  exact mget_not_mem x r h.2
theorem mem_mput {α : Type} (k x : Int) (v : α) : ∀ m : List (Int × α), x ∈ mkeys (mput k v m) ↔ x = k ∨ x ∈ mkeys m
 | [] => by simp [mkeys, mput]
 | p :: r => by
  have ih := mem_mput k x v r
  unfold mput
  by_cases hk : k = p.1
  ·have : (k == p.1) = true := by simpa using hk
   rw [this, cond_true]
   simp only [mkeys, List.map_cons, List.mem_cons]
   rw [hk]; simp
  ·have : (k == p.1) = false := by simpa using hk
   rw [this, cond_false]
   simp only [mkeys, List.map_cons, List.mem_cons] at ih ⊢
   rw [ih]
   constructor
   ·rintro (h | h | h)
    ·exact .inr (.inl h)
    ·exact .inl h
    ·exact .inr (.inr h)
   ·rintro (h | h | h)
    ·exact .inr (.inl h)
    ·exact .inl h
    ·exact .inr (.inr h)
theorem nodup_mput {α : Type} (k : Int) (v : α) : ∀ m : List (Int × α), (mkeys m).Nodup → (mkeys (mput k v m)).Nodup
 | [], _ => by simp [mkeys, mput]
 | p :: r, h => by
  have ih := nodup_mput k v r
  have hm := mem_mput k p.1 v r
  simp only [mkeys, List.map_cons, List.nodup_cons] at h ih hm
  unfold mput
  by_cases hk : k = p.1
  ·have : (k == p.1) = true := by simpa using hk
   rw [this, cond_true]
   simp only [mkeys, List.map_cons, List.nodup_cons]
   exact h
  ·have : (k == p.1) = false := by simpa using hk
   rw [this, cond_false]
   simp only [mkeys, List.map_cons, List.nodup_cons]
   refine ⟨fun hx => ?_, ih h.2⟩
   rcases hm.1 hx with hx | hx
   ·exact hk hx.symm
   ·exact h.1 hx
theorem mem_mdelete {α : Type} (k x : Int) : ∀ m : List (Int × α), (mkeys m).Nodup → (x ∈ mkeys (mdelete k m) ↔ x ≠ k ∧ x ∈ mkeys m)
 | [], _ => by simp [mkeys, mdelete]
 | p :: r, h => by
  have ih := mem_mdelete k x r
  simp only [mkeys, List.map_cons, List.nodup_cons] at h ih
  unfold mdelete
  by_cases hk : k = p.1
  ·have : (k == p.1) = true := by simpa using hk
   rw [this, cond_true]
   simp only [mkeys, List.map_cons, List.mem_cons]
   constructor
   ·intro hx
    exact ⟨fun e => h.1 (by rw [← hk, ← e]; exact hx), .inr hx⟩
   ·rintro ⟨h1, h2 | h2⟩
    ·exact absurd (h2.trans hk.symm) h1
    ·exact h2
  ·have : (k == p.1) = false := by simpa using hk
   rw [this, cond_false]
   simp only [mkeys, List.map_cons, List.mem_cons]
   rw [ih h.2]
   constructor
   ·rintro (h1 | ⟨h1, h2⟩)
    ·exact ⟨fun e => hk (e.symm.trans h1), .inl h1⟩
    ·exact ⟨h1, .inr h2⟩
   ·rintro ⟨h1, h2 | h2⟩
    ·exact .inl h2
    ·exact .inr ⟨h1, h2⟩
theorem nodup_mdelete {α : Type} (k : Int) : ∀ m : List (Int × α), (mkeys m).Nodup → (mkeys (mdelete k m)).Nodup
 | [], _ => by simp [mkeys, mdelete]
 | p :: r, h => by
  have ih := nodup_mdelete k r
  have hm := mem_mdelete k p.1 r
  simp only [mkeys, List.map_cons, List.nodup_cons] at h ih hm
  unfold mdelete
  by_cases hk : k = p.1
  ·have : (k == p.1) = true := by simpa using hk
   rw [this, cond_true]
   exact h.2
  ·have : (k == p.1) = false := by simpa using hk
   rw [this, cond_false]
   simp only [mkeys, List.map_cons, List.nodup_cons]
   exact ⟨fun hx => h.1 ((hm h.2).1 hx).2, ih h.2⟩
theorem mget_mdelete {α : Type} (k x : Int) : ∀ m : List (Int × α), (mkeys m).Nodup → mget x (mdelete k m) = if x = k then none else mget x m
 | [], _ => by simp [mget, mdelete]
 | p :: r, h => by
  have ih := mget_mdelete k x r
  simp only [mkeys, List.map_cons, List.nodup_cons] at h ih
  unfold mdelete
  by_cases hk : k = p.1
  ·have : (k == p.1) = true := by simpa using hk
   rw [this, cond_true]
   by_cases hx : x = k
   ·rw [if_pos hx]
    exact mget_not_mem x r (by rw [hx, hk]; exact h.1)
   ·rw [if_neg hx]
    have h2 : (x == p.1) = false := by simp; omega
    conv => rhs; unfold mget
    rw [h2, cond_false]
  ·have : (k == p.1) = false := by simpa using hk
   rw [this, cond_false]
   unfold mget
   by_cases hx : x = p.1
   ·have h2 : (x == p.1) = true := by simpa using hx
    rw [h2, if_neg (by omega)]; rfl
   ·have h2 : (x == p.1) = false := by simpa using hx
    rw [h2, cond_false, ih h.2, cond_false]
end Go.Ab

