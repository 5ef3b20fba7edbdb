/- Cores: the plain scheduler that cores.Run is, and what it keeps. -/
import Derived.Test.YtdijmangjgepaaaPLib
set_option linter.unusedVariables false
set_option linter.unusedSimpArgs false
namespace Go.Cp

structure Th where
  come : Int
  level : Int
  work : Int
  turn : Int
  used : Int
deriving DecidableEq, Inhabited

structure S where
  ths : List Th
  turn : Int

/-- Who comes now gets a turn. -/
def arrive (now : Int) : List Th → Int → List Th × Int
  | [], n => ([], n)
  | t :: l, n => if t.come = now then ({ t with turn := n + 1 } :: (arrive now l (n + 1)).1, (arrive now l (n + 1)).2)
      else (t :: (arrive now l n).1, (arrive now l n).2)

def th (l : List Th) (k : Nat) : Th := l.getD k default
def isReady (now : Int) (l : List Th) (k : Nat) : Bool := decide ((th l k).come ≤ now) && decide (0 < (th l k).work)
def readyOf (now : Int) (l : List Th) : List Nat := (List.range l.length).filter (isReady now l)
/-- Who is ahead. -/
def le (l : List Th) (a b : Nat) : Bool := decide ((th l b).level < (th l a).level) || (decide ((th l a).level = (th l b).level) && decide ((th l a).turn ≤ (th l b).turn))
def queue (now : Int) (l : List Th) : List Nat := (readyOf now l).mergeSort (le l)

/-- One who runs. -/
def work1 (slice : Int) (s : S) (k : Nat) : S :=
  if (th s.ths k).used + 1 = slice then
    ⟨s.ths.modify k fun t => { t with work := t.work - 1, used := 0, turn := s.turn + 1 }, s.turn + 1⟩
  else ⟨s.ths.modify k fun t => { t with work := t.work - 1, used := t.used + 1 }, s.turn⟩
def works (slice : Int) (s : S) (ks : List Nat) : S := ks.foldl (work1 slice) s

def come (now : Int) (s : S) : S := ⟨(arrive now s.ths s.turn).1, (arrive now s.ths s.turn).2⟩
def chosen (n : Nat) (now : Int) (s : S) : List Nat := (queue now (come now s).ths).take n
def tick (n : Nat) (slice now : Int) (s : S) : S := works slice (come now s) (chosen n now s)
def idsOf (n : Nat) (now : Int) (s : S) : List Nat := (chosen n now s).mergeSort fun a b => decide (a ≤ b)

/-- So many ticks, from 'now' on: who ran. -/
def runs (n : Nat) (slice : Int) : Nat → Nat → S → List (List Nat)
  | 0, _, _ => []
  | m + 1, now, s => idsOf n now s :: runs n slice m (now + 1) (tick n slice now s)
def after (n : Nat) (slice : Int) : Nat → Nat → S → S
  | 0, _, s => s
  | m + 1, now, s => after n slice m (now + 1) (tick n slice now s)

theorem runs_length (n : Nat) (slice : Int) : ∀ (m now : Nat) (s : S), (runs n slice m now s).length = m
  | 0, _, _ => rfl
  | m + 1, now, s => by simp [runs, runs_length n slice m]

/-- What of a thread never turns. -/
def Same (l l' : List Th) : Prop := l.length = l'.length ∧ ∀ k, (th l k).come = (th l' k).come ∧ (th l k).level = (th l' k).level
theorem Same.refl (l : List Th) : Same l l := ⟨rfl, fun _ => ⟨rfl, rfl⟩⟩
theorem Same.trans {a b c : List Th} (h : Same a b) (h' : Same b c) : Same a c := ⟨h.1.trans h'.1, fun k => ⟨(h.2 k).1.trans (h'.2 k).1, (h.2 k).2.trans (h'.2 k).2⟩⟩

theorem th_cons_zero (t : Th) (l : List Th) : th (t :: l) 0 = t := rfl
theorem th_cons_succ (t : Th) (l : List Th) (k : Nat) : th (t :: l) (k + 1) = th l k := rfl
theorem th_modify (l : List Th) (k j : Nat) (f : Th → Th) : th (l.modify k f) j = if j = k ∧ k < l.length then f (th l k) else th l j := by
  unfold th
  rw [List.getD_eq_getElem?_getD, List.getD_eq_getElem?_getD, List.getElem?_modify]
  by_cases hj : k = j
  · subst hj
    by_cases hl : k < l.length
    · simp [hl]
    · simp [hl]
  · have : ¬ (j = k) := fun e => hj e.symm
    simp [hj, this]

theorem arrive_length (now : Int) : ∀ (l : List Th) (n : Int), (arrive now l n).1.length = l.length
  | [], _ => rfl
  | t :: l, n => by unfold arrive; split <;> simp [arrive_length now l]
theorem arrive_th (now : Int) : ∀ (l : List Th) (n : Int) (k : Nat), (th (arrive now l n).1 k).come = (th l k).come ∧ (th (arrive now l n).1 k).level = (th l k).level ∧ (th (arrive now l n).1 k).work = (th l k).work ∧ (th (arrive now l n).1 k).used = (th l k).used ∧
    ((th l k).come ≠ now → (th (arrive now l n).1 k).turn = (th l k).turn)
  | [], _, k => ⟨rfl, rfl, rfl, rfl, fun _ => rfl⟩
  | t :: l, n, 0 => by
    unfold arrive
    split
    · rename_i h; exact ⟨rfl, rfl, rfl, rfl, fun h' => absurd h h'⟩
    · exact ⟨rfl, rfl, rfl, rfl, fun _ => rfl⟩
  | t :: l, n, k + 1 => by
    unfold arrive
    split
    · exact arrive_th now l (n + 1) k
    · exact arrive_th now l n k

theorem come_same (now : Int) (s : S) : Same s.ths (come now s).ths := ⟨(arrive_length ..).symm, fun k => ⟨(arrive_th now s.ths s.turn k).1.symm, (arrive_th now s.ths s.turn k).2.1.symm⟩⟩
theorem work1_same (slice : Int) (s : S) (k : Nat) : Same s.ths (work1 slice s k).ths := by
  unfold work1
  split <;> refine ⟨by simp, fun j => ?_⟩ <;> simp only [th_modify] <;> split <;> simp_all
theorem works_same (slice : Int) : ∀ (ks : List Nat) (s : S), Same s.ths (works slice s ks).ths
  | [], s => Same.refl _
  | k :: ks, s => (work1_same slice s k).trans (works_same slice ks (work1 slice s k))
theorem tick_same (n : Nat) (slice now : Int) (s : S) : Same s.ths (tick n slice now s).ths := (come_same now s).trans (works_same slice _ _)

theorem work1_work (slice : Int) (s : S) (k j : Nat) (hk : k < s.ths.length) : (th (work1 slice s k).ths j).work = if j = k then (th s.ths j).work - 1 else (th s.ths j).work := by
  unfold work1
  split <;> simp only [th_modify] <;> by_cases hj : j = k <;> simp [hj, hk]
theorem works_work (slice : Int) : ∀ (ks : List Nat) (s : S) (j : Nat), ks.Nodup → (∀ k ∈ ks, k < s.ths.length) → (th (works slice s ks).ths j).work = if j ∈ ks then (th s.ths j).work - 1 else (th s.ths j).work
  | [], s, j, _, _ => by simp [works]
  | k :: ks, s, j, hn, hl => by
    have ih := works_work slice ks (work1 slice s k) j (List.nodup_cons.1 hn).2 (fun x hx => by rw [← (work1_same slice s k).1]; exact hl x (by simp [hx]))
    show (th (works slice (work1 slice s k) ks).ths j).work = _
    rw [ih, work1_work slice s k j (hl k (by simp))]
    by_cases hj : j = k
    · subst hj
      have := (List.nodup_cons.1 hn).1
      simp [this]
    · simp [hj]

theorem le_total (l : List Th) (a b : Nat) : (le l a b || le l b a) = true := by
  unfold le
  rcases Int.lt_trichotomy (th l a).level (th l b).level with h | h | h
  · simp [h]
  · rcases Int.le_total (th l a).turn (th l b).turn with h' | h' <;> simp [h, h']
  · simp [h]
theorem le_trans (l : List Th) (a b c : Nat) (h : le l a b = true) (h' : le l b c = true) : le l a c = true := by
  unfold le at *
  simp only [Bool.or_eq_true, Bool.and_eq_true, decide_eq_true_eq] at *
  omega

theorem queue_perm (now : Int) (l : List Th) : (queue now l).Perm (readyOf now l) := List.mergeSort_perm _ _
theorem queue_sorted (now : Int) (l : List Th) : (queue now l).Pairwise fun a b => le l a b = true := List.pairwise_mergeSort (fun a b c => le_trans l a b c) (fun a b => le_total l a b) _
theorem mem_ready {now : Int} {l : List Th} {k : Nat} : k ∈ readyOf now l ↔ k < l.length ∧ (th l k).come ≤ now ∧ 0 < (th l k).work := by
  unfold readyOf isReady
  simp [List.mem_filter]
theorem ready_nodup (now : Int) (l : List Th) : (readyOf now l).Nodup := List.Nodup.sublist (List.filter_sublist) List.nodup_range
theorem queue_nodup (now : Int) (l : List Th) : (queue now l).Nodup := (queue_perm now l).nodup_iff.2 (ready_nodup now l)
theorem chosen_nodup (n : Nat) (now : Int) (s : S) : (chosen n now s).Nodup := List.Nodup.sublist (List.take_sublist _ _) (queue_nodup _ _)
theorem chosen_ready {n : Nat} {now : Int} {s : S} {k : Nat} (h : k ∈ chosen n now s) : k ∈ readyOf now (come now s).ths := (queue_perm _ _).mem_iff.1 (List.mem_of_mem_take h)
theorem ids_perm (n : Nat) (now : Int) (s : S) : (idsOf n now s).Perm (chosen n now s) := List.mergeSort_perm _ _
theorem ids_sorted (n : Nat) (now : Int) (s : S) : (idsOf n now s).Pairwise fun a b => a < b := by
  have h1 := List.pairwise_mergeSort (le := fun a b : Nat => decide (a ≤ b)) (fun a b c h h' => by simp at *; omega) (fun a b => by simp; omega) (chosen n now s)
  have h2 : (idsOf n now s).Nodup := (ids_perm n now s).nodup_iff.2 (chosen_nodup n now s)
  unfold idsOf at *
  refine List.Pairwise.imp₂ (fun a b h h' => ?_) h1 h2
  simp at h
  omega
theorem chosen_length (n : Nat) (now : Int) (s : S) : (chosen n now s).length = min n (readyOf now (come now s).ths).length := by
  unfold chosen; rw [List.length_take, (queue_perm _ _).length_eq]
/-- Nobody who waits is graver. -/
theorem chosen_level {n : Nat} {now : Int} {s : S} {k j : Nat} (hk : k ∈ chosen n now s) (hj : j ∈ readyOf now (come now s).ths) (hn : j ∉ chosen n now s) : (th s.ths j).level ≤ (th s.ths k).level := by
  have hq := queue_sorted now (come now s).ths
  have hjq : j ∈ queue now (come now s).ths := (queue_perm _ _).mem_iff.2 hj
  rw [← List.take_append_drop n (queue now (come now s).ths)] at hq hjq
  have hjd : j ∈ (queue now (come now s).ths).drop n := by
    rcases List.mem_append.1 hjq with h | h
    · exact absurd h hn
    · exact h
  have := (List.pairwise_append.1 hq).2.2 k hk j hjd
  unfold le at this
  simp only [Bool.or_eq_true, Bool.and_eq_true, decide_eq_true_eq] at this
  rw [← ((come_same now s).2 k).2, ← ((come_same now s).2 j).2] at this
  omega

theorem tick_work (n : Nat) (slice now : Int) (s : S) (j : Nat) : (th (tick n slice now s).ths j).work = if j ∈ chosen n now s then (th s.ths j).work - 1 else (th s.ths j).work := by
  unfold tick
  rw [works_work slice _ _ _ (chosen_nodup n now s) (fun k hk => (mem_ready.1 (chosen_ready hk)).1)]
  have : (th (come now s).ths j).work = (th s.ths j).work := (arrive_th now s.ths s.turn j).2.2.1
  rw [this]
theorem tick_nonneg {n : Nat} {slice now : Int} {s : S} (h : ∀ j, 0 ≤ (th s.ths j).work) (j : Nat) : 0 ≤ (th (tick n slice now s).ths j).work := by
  rw [tick_work]
  split
  · rename_i hc
    have := (mem_ready.1 (chosen_ready hc)).2.2
    have h2 : (th (come now s).ths j).work = (th s.ths j).work := (arrive_th now s.ths s.turn j).2.2.1
    omega
  · exact h j
theorem ready_come (now : Int) (s : S) : readyOf now (come now s).ths = readyOf now s.ths := by
  unfold readyOf
  rw [show (come now s).ths.length = s.ths.length from (come_same now s).1.symm]
  apply List.filter_congr
  intro k _
  unfold isReady
  obtain ⟨h1, _, h3, _⟩ := arrive_th now s.ths s.turn k
  show (decide ((th (arrive now s.ths s.turn).1 k).come ≤ now) && decide (0 < (th (arrive now s.ths s.turn).1 k).work)) = _
  rw [h1, h3]

end Go.Cp
