/- Cores: turns are in order. -/
import Derived.Test.YtdijmangjgepaaaQCB
set_option linter.unusedVariables false
set_option linter.unusedSimpArgs false
namespace Go.Cp

/-- Whoever has come has a turn of its own, none behind the last one given. -/
structure Ord (t : Int) (s : S) : Prop where
  bd : ∀ k, k < s.ths.length → (th s.ths k).come < t → (th s.ths k).turn ≤ s.turn
  inj : ∀ k j, k < s.ths.length → j < s.ths.length → (th s.ths k).come < t → (th s.ths j).come < t → (th s.ths k).turn = (th s.ths j).turn → k = j

theorem arrive_turn (now : Int) : ∀ (l : List Th) (n : Int), n ≤ (arrive now l n).2 ∧ (∀ k, k < l.length → (th l k).come = now → n < (th (arrive now l n).1 k).turn ∧ (th (arrive now l n).1 k).turn ≤ (arrive now l n).2) ∧
    ∀ k j, k < j → j < l.length → (th l k).come = now → (th l j).come = now → (th (arrive now l n).1 k).turn < (th (arrive now l n).1 j).turn
  | [], n => ⟨Int.le_refl _, fun k hk => by simp at hk, fun k j _ hj => by simp at hj⟩
  | t :: l, n => by
    unfold arrive
    split
    · rename_i hc
      obtain ⟨h1, h2, h3⟩ := arrive_turn now l (n + 1)
      refine ⟨by simp only; omega, ?_, ?_⟩
      · intro k hk hck
        cases k with
        | zero => simp only [th_cons_zero]; omega
        | succ k => have := h2 k (by simpa using hk) hck; simp only [th_cons_succ]; omega
      · intro k j hkj hj hck hcj
        cases j with
        | zero => omega
        | succ j =>
          cases k with
          | zero => have := h2 j (by simpa using hj) hcj; simp only [th_cons_zero, th_cons_succ]; omega
          | succ k => exact h3 k j (by omega) (by simpa using hj) hck hcj
    · rename_i hc
      obtain ⟨h1, h2, h3⟩ := arrive_turn now l n
      refine ⟨h1, ?_, ?_⟩
      · intro k hk hck
        cases k with
        | zero => exact absurd hck hc
        | succ k => exact h2 k (by simpa using hk) hck
      · intro k j hkj hj hck hcj
        cases j with
        | zero => omega
        | succ j =>
          cases k with
          | zero => exact absurd hck hc
          | succ k => exact h3 k j (by omega) (by simpa using hj) hck hcj

theorem Ord.come_ {now : Int} {s : S} (h : Ord now s) : Ord (now + 1) (come now s) := by
  obtain ⟨h1, h2, h3⟩ := arrive_turn now s.ths s.turn
  have hl : (come now s).ths.length = s.ths.length := (come_same now s).1.symm
  have hc : ∀ k, (th (come now s).ths k).come = (th s.ths k).come := fun k => ((come_same now s).2 k).1.symm
  have ho : ∀ k, (th s.ths k).come ≠ now → (th (come now s).ths k).turn = (th s.ths k).turn := fun k => (arrive_th now s.ths s.turn k).2.2.2.2
  refine ⟨fun k hk hck => ?_, fun k j hk hj hck hcj he => ?_⟩
  · rw [hl] at hk
    rw [hc] at hck
    by_cases hn : (th s.ths k).come = now
    · exact (h2 k hk hn).2
    · rw [ho k hn]
      have := h.bd k hk (by omega)
      show _ ≤ (arrive now s.ths s.turn).2
      omega
  · rw [hl] at hk hj
    rw [hc] at hck hcj
    by_cases hn : (th s.ths k).come = now <;> by_cases hn' : (th s.ths j).come = now
    · rcases Nat.lt_trichotomy k j with hlt | rfl | hlt
      · have := h3 k j hlt hj hn hn'
        have he : (th (arrive now s.ths s.turn).1 k).turn = (th (arrive now s.ths s.turn).1 j).turn := he
        omega
      · rfl
      · have := h3 j k hlt hk hn' hn
        have he : (th (arrive now s.ths s.turn).1 k).turn = (th (arrive now s.ths s.turn).1 j).turn := he
        omega
    · have := (h2 k hk hn).1
      have h5 := h.bd j hj (by omega)
      rw [ho j hn'] at he
      have he : (th (arrive now s.ths s.turn).1 k).turn = (th s.ths j).turn := he
      omega
    · have := (h2 j hj hn').1
      have h5 := h.bd k hk (by omega)
      rw [ho k hn] at he
      have he : (th s.ths k).turn = (th (arrive now s.ths s.turn).1 j).turn := he
      omega
    · rw [ho k hn, ho j hn'] at he
      exact h.inj k j hk hj (by omega) (by omega) he

theorem work1_turn (slice : Int) (s : S) (k j : Nat) (hk : k < s.ths.length) : (th (work1 slice s k).ths j).turn = if j = k ∧ (th s.ths k).used + 1 = slice then s.turn + 1 else (th s.ths j).turn := by
  unfold work1
  split
  · rename_i h; simp only [th_modify]; by_cases hj : j = k <;> simp [hj, hk, h]
  · rename_i h; simp only [th_modify]; by_cases hj : j = k <;> simp [hj, hk, h]
theorem work1_used (slice : Int) (s : S) (k j : Nat) (hk : k < s.ths.length) : (th (work1 slice s k).ths j).used = if j = k then (if (th s.ths k).used + 1 = slice then 0 else (th s.ths k).used + 1) else (th s.ths j).used := by
  unfold work1
  split
  · rename_i h; simp only [th_modify]; by_cases hj : j = k <;> simp [hj, hk, h]
  · rename_i h; simp only [th_modify]; by_cases hj : j = k <;> simp [hj, hk, h]
theorem work1_last (slice : Int) (s : S) (k : Nat) : (work1 slice s k).turn = if (th s.ths k).used + 1 = slice then s.turn + 1 else s.turn := by
  unfold work1; split <;> rfl

theorem Ord.work1_ {t : Int} {s : S} (h : Ord t s) (slice : Int) {k : Nat} (hk : k < s.ths.length) : Ord t (work1 slice s k) := by
  have hs := work1_same slice s k
  have hl : (work1 slice s k).ths.length = s.ths.length := hs.1.symm
  have hc : ∀ j, (th (work1 slice s k).ths j).come = (th s.ths j).come := fun j => (hs.2 j).1.symm
  have ht := fun j => work1_turn slice s k j hk
  refine ⟨fun i hi hci => ?_, fun i j hi hj hci hcj he => ?_⟩
  · rw [hl] at hi
    rw [hc] at hci
    have := h.bd i hi hci
    rw [ht, work1_last]
    by_cases hu : (th s.ths k).used + 1 = slice
    · by_cases hik : i = k
      · rw [if_pos ⟨hik, hu⟩, if_pos hu]; omega
      · rw [if_neg (fun hx => hik hx.1), if_pos hu]; omega
    · rw [if_neg (fun hx => hu hx.2), if_neg hu]; exact this
  · rw [hl] at hi hj
    rw [hc] at hci hcj
    rw [ht, ht] at he
    by_cases hu : (th s.ths k).used + 1 = slice
    · by_cases hik : i = k <;> by_cases hjk : j = k
      · omega
      · rw [if_pos ⟨hik, hu⟩, if_neg (fun hx => hjk hx.1)] at he
        have := h.bd j hj hcj; omega
      · rw [if_neg (fun hx => hik hx.1), if_pos ⟨hjk, hu⟩] at he
        have := h.bd i hi hci; omega
      · rw [if_neg (fun hx => hik hx.1), if_neg (fun hx => hjk hx.1)] at he
        exact h.inj i j hi hj hci hcj he
    · rw [if_neg (fun hx => hu hx.2), if_neg (fun hx => hu hx.2)] at he
      exact h.inj i j hi hj hci hcj he

theorem Ord.works_ {t : Int} (slice : Int) : ∀ {ks : List Nat} {s : S}, Ord t s → (∀ k ∈ ks, k < s.ths.length) → Ord t (works slice s ks)
  | [], s, h, _ => h
  | k :: ks, s, h, hl => Ord.works_ slice (ks := ks) (s := work1 slice s k) (h.work1_ slice (hl k (by simp))) (fun j hj => by rw [← (work1_same slice s k).1]; exact hl j (by simp [hj]))
theorem Ord.tick_ {n : Nat} {slice now : Int} {s : S} (h : Ord now s) : Ord (now + 1) (tick n slice now s) :=
  h.come_.works_ slice fun k hk => (mem_ready.1 (chosen_ready hk)).1

/-- Two lists of the ready ones in order are one. -/
theorem queue_unique {now : Int} {s : S} (h : Ord (now + 1) s) {q : List Nat} (hp : q.Perm (readyOf now s.ths)) (hs : q.Pairwise fun a b => le s.ths a b = true) : q = queue now s.ths := by
  refine List.Perm.eq_of_pairwise (le := fun a b => le s.ths a b = true) (fun a b ha hb hab hba => ?_) hs (queue_sorted now s.ths) (hp.trans (queue_perm now s.ths).symm)
  have ra := mem_ready.1 (hp.mem_iff.1 ha)
  have rb := mem_ready.1 ((queue_perm now s.ths).mem_iff.1 hb)
  unfold le at hab hba
  simp only [Bool.or_eq_true, Bool.and_eq_true, decide_eq_true_eq] at hab hba
  exact h.inj a b ra.1 rb.1 (by omega) (by omega) (by omega)

end Go.Cp
