/- Cores: what the walk of Run wants of the scheduler, plain. -/
import Derived.Test.YtdijmangjgepaaaQCG
set_option linter.unusedVariables false
set_option linter.unusedSimpArgs false
namespace Go.Cp

theorem arrive_snoc (now : Int) (t : Th) : ∀ (l : List Th) (n : Int), arrive now (l ++ [t]) n = if t.come = now then ((arrive now l n).1 ++ [{ t with turn := (arrive now l n).2 + 1 }], (arrive now l n).2 + 1) else ((arrive now l n).1 ++ [t], (arrive now l n).2)
  | [], n => by simp only [List.nil_append, arrive]
  | u :: l, n => by
    rw [List.cons_append]
    unfold arrive
    split
    · rw [arrive_snoc now t l (n + 1)]; split <;> simp
    · rw [arrive_snoc now t l n]; split <;> simp

/-- So many have been looked at. -/
def comeTo (now : Int) (s : S) (k : Nat) : S := ⟨(arrive now (s.ths.take k) s.turn).1 ++ s.ths.drop k, (arrive now (s.ths.take k) s.turn).2⟩
theorem comeTo_zero (now : Int) (s : S) : comeTo now s 0 = s := by cases s; rfl
theorem comeTo_all (now : Int) (s : S) : comeTo now s s.ths.length = come now s := by unfold comeTo come; simp
theorem comeTo_len (now : Int) (s : S) (k : Nat) : (comeTo now s k).ths.length = s.ths.length := by unfold comeTo; simp only [List.length_append, arrive_length, List.length_take, List.length_drop]; omega
theorem comeTo_form {now : Int} {s : S} {k : Nat} (hk : k < s.ths.length) : (comeTo now s k).ths = (arrive now (s.ths.take k) s.turn).1 ++ s.ths[k] :: s.ths.drop (k + 1) := by
  unfold comeTo; simp only []; rw [List.drop_eq_getElem_cons hk]
theorem comeTo_th {now : Int} {s : S} {k : Nat} (hk : k < s.ths.length) : th (comeTo now s k).ths k = th s.ths k := by
  rw [comeTo_form hk]
  unfold th
  have hl : (arrive now (s.ths.take k) s.turn).1.length = k := by rw [arrive_length, List.length_take]; omega
  rw [List.getD_eq_getElem?_getD, List.getElem?_append_right (by omega), hl, Nat.sub_self, List.getD_eq_getElem?_getD, List.getElem?_eq_getElem hk]; rfl
theorem modify_at {A B : List Th} {t : Th} (f : Th → Th) : (A ++ t :: B).modify A.length f = A ++ f t :: B := by
  induction A with
  | nil => rfl
  | cons a A ih => simpa using ih
theorem comeTo_succ {now : Int} {s : S} {k : Nat} (hk : k < s.ths.length) : comeTo now s (k + 1) = if (th s.ths k).come = now then ⟨(comeTo now s k).ths.modify k fun t => { t with turn := (comeTo now s k).turn + 1 }, (comeTo now s k).turn + 1⟩ else comeTo now s k := by
  have hth : th s.ths k = s.ths[k] := by unfold th; rw [List.getD_eq_getElem?_getD, List.getElem?_eq_getElem hk]; rfl
  have hl : (arrive now (s.ths.take k) s.turn).1.length = k := by rw [arrive_length, List.length_take]; omega
  rw [hth]
  have e : comeTo now s (k + 1) = ⟨(arrive now (s.ths.take k ++ [s.ths[k]]) s.turn).1 ++ s.ths.drop (k + 1), (arrive now (s.ths.take k ++ [s.ths[k]]) s.turn).2⟩ := by
    unfold comeTo; rw [List.take_succ_eq_append_getElem hk]
  rw [e, arrive_snoc]
  split
  · rename_i h
    have hm := modify_at (A := (arrive now (s.ths.take k) s.turn).1) (B := s.ths.drop (k + 1)) (t := s.ths[k]) (fun t => { t with turn := (comeTo now s k).turn + 1 })
    rw [hl, ← comeTo_form hk] at hm
    rw [hm]
    simp [comeTo]
  · rename_i h
    unfold comeTo
    simp only [List.append_assoc, List.singleton_append]
    rw [List.drop_eq_getElem_cons hk]

theorem comeTo_yes {now : Int} {s : S} {k : Nat} (hk : k < s.ths.length) (h : (th (comeTo now s k).ths k).come = now) : comeTo now s (k + 1) = ⟨(comeTo now s k).ths.modify k fun t => { t with turn := (comeTo now s k).turn + 1 }, (comeTo now s k).turn + 1⟩ := by
  rw [comeTo_th hk] at h
  rw [comeTo_succ hk, if_pos h]
theorem comeTo_no {now : Int} {s : S} {k : Nat} (hk : k < s.ths.length) (h : (th (comeTo now s k).ths k).come ≠ now) : comeTo now s (k + 1) = comeTo now s k := by
  rw [comeTo_th hk] at h
  rw [comeTo_succ hk, if_neg h]
def readyTo (now : Int) (l : List Th) (k : Nat) : List Nat := (List.range k).filter (isReady now l)
theorem readyTo_succ (now : Int) (l : List Th) (k : Nat) : readyTo now l (k + 1) = if (th l k).come ≤ now ∧ 0 < (th l k).work then readyTo now l k ++ [k] else readyTo now l k := by
  unfold readyTo
  rw [List.range_succ, List.filter_append]
  by_cases h : (th l k).come ≤ now ∧ 0 < (th l k).work
  · rw [if_pos h]
    have : isReady now l k = true := by unfold isReady; simp [h]
    simp [this]
  · rw [if_neg h]
    have : isReady now l k = false := by
      unfold isReady
      rcases Decidable.not_and_iff_or_not.1 h with h | h <;> simp [h]
    simp [this]
theorem readyTo_yes {now : Int} {s : S} {k : Nat} (hk : k < s.ths.length) (h : (th (comeTo now s k).ths k).come ≤ now) (h' : 0 < (th (comeTo now s k).ths k).work) : readyTo now s.ths (k + 1) = readyTo now s.ths k ++ [k] := by
  rw [comeTo_th hk] at h h'
  rw [readyTo_succ, if_pos ⟨h, h'⟩]
theorem readyTo_no {now : Int} {s : S} {k : Nat} (hk : k < s.ths.length) (h : ¬ ((th (comeTo now s k).ths k).come ≤ now ∧ 0 < (th (comeTo now s k).ths k).work)) : readyTo now s.ths (k + 1) = readyTo now s.ths k := by
  rw [comeTo_th hk] at h
  rw [readyTo_succ, if_neg h]
theorem readyTo_lt {now : Int} {l : List Th} {k j : Nat} (h : j ∈ readyTo now l k) : j < k := by
  unfold readyTo at h
  exact List.mem_range.1 (List.mem_filter.1 h).1
theorem readyTo_len (now : Int) (l : List Th) (k : Nat) : (readyTo now l k).length ≤ k := by
  unfold readyTo
  have := List.length_filter_le (isReady now l) (List.range k)
  simpa using this
theorem ready_comeTo (now : Int) (s : S) : readyOf now (come now s).ths = readyTo now s.ths s.ths.length := by
  unfold readyOf readyTo
  rw [← (come_same now s).1]
  refine List.filter_congr fun k _ => ?_
  unfold isReady come
  rw [(arrive_th now s.ths s.turn k).1, (arrive_th now s.ths s.turn k).2.2.1]

/-- All numbers are small. -/
structure Bd (slice : Int) (s : S) (T : Int) : Prop where
  t0 : 0 ≤ s.turn
  t1 : s.turn ≤ T
  b : ∀ k, k < s.ths.length → (0 ≤ (th s.ths k).come ∧ (th s.ths k).come ≤ 10000) ∧ (0 ≤ (th s.ths k).work ∧ (th s.ths k).work ≤ 10000) ∧ 0 ≤ (th s.ths k).used ∧ (th s.ths k).used < slice

theorem Bd.comeTo_ {slice : Int} {s : S} {T : Int} (h : Bd slice s T) (now : Int) : ∀ k, k ≤ s.ths.length → Bd slice (comeTo now s k) (T + k)
  | 0, _ => by rw [comeTo_zero]; exact ⟨h.t0, by have := h.t1; omega, h.b⟩
  | k + 1, hk => by
    have ih := Bd.comeTo_ h now k (by omega)
    rw [comeTo_succ (by omega)]
    split
    · refine ⟨by have := ih.t0; simp only []; omega, by have := ih.t1; simp only []; push_cast; omega, fun j hj => ?_⟩
      have hj' : j < (comeTo now s k).ths.length := by simpa using hj
      have := ih.b j hj'
      simp only [th_modify]
      split
      · rename_i h1
        obtain ⟨rfl, _⟩ := h1
        exact this
      · exact this
    · exact ⟨ih.t0, by have := ih.t1; push_cast; omega, ih.b⟩
theorem Bd.work1_ {slice : Int} {s : S} {T : Int} (h : Bd slice s T) {k : Nat} (hk : k < s.ths.length) (hw : 0 < (th s.ths k).work) (hs : 0 < slice) : Bd slice (work1 slice s k) (T + 1) := by
  have hb := h.b k hk
  unfold work1
  split
  · rename_i e
    refine ⟨by have := h.t0; simp only []; omega, by have := h.t1; simp only []; omega, fun j hj => ?_⟩
    have hj' : j < s.ths.length := by simpa using hj
    have := h.b j hj'
    simp only [th_modify]
    split
    · simp only []; omega
    · exact this
  · rename_i e
    refine ⟨h.t0, by have := h.t1; simp only []; omega, fun j hj => ?_⟩
    have hj' : j < s.ths.length := by simpa using hj
    have := h.b j hj'
    simp only [th_modify]
    split
    · simp only []; omega
    · exact this
theorem works_snoc (slice : Int) (s : S) (ks : List Nat) (k : Nat) : works slice s (ks ++ [k]) = work1 slice (works slice s ks) k := by unfold works; rw [List.foldl_append]; rfl
theorem works_len (slice : Int) (s : S) (ks : List Nat) : (works slice s ks).ths.length = s.ths.length := (works_same slice ks s).1.symm
/-- Who is next has something to do still. -/
theorem works_next {slice : Int} {s : S} {q : List Nat} {i : Nat} (hi : i < q.length) (hn : q.Nodup) (hl : ∀ k ∈ q, k < s.ths.length) : (th (works slice s (q.take i)).ths q[i]).work = (th s.ths q[i]).work := by
  have hnd : (q.take i).Nodup := List.Nodup.sublist (List.take_sublist _ _) hn
  rw [works_work slice (q.take i) s q[i] hnd (fun k hk => hl k (List.mem_of_mem_take hk)), if_neg]
  intro hm
  obtain ⟨j, hj, e⟩ := List.getElem_of_mem hm
  have hj' : j < i := by simp at hj; omega
  rw [List.getElem_take] at e
  exact absurd e (List.pairwise_iff_getElem.1 hn j i (by omega) hi hj')
theorem Bd.works_ {slice : Int} {s : S} {T : Int} (h : Bd slice s T) (hs : 0 < slice) {q : List Nat} (hn : q.Nodup) (hl : ∀ k ∈ q, k < s.ths.length) (hw : ∀ k ∈ q, 0 < (th s.ths k).work) : ∀ i, i ≤ q.length → Bd slice (works slice s (q.take i)) (T + i)
  | 0, _ => ⟨h.t0, by have := h.t1; simp only [List.take_zero]; show s.turn ≤ _; omega, h.b⟩
  | i + 1, hi => by
    have ih := Bd.works_ h hs hn hl hw i (by omega)
    rw [List.take_succ_eq_append_getElem (by omega), works_snoc]
    have := ih.work1_ (k := q[i]) (by rw [works_len]; exact hl _ (List.getElem_mem _)) (by rw [works_next (by omega) hn hl]; exact hw _ (List.getElem_mem _)) hs
    exact ⟨this.t0, by have := this.t1; push_cast; omega, this.b⟩

theorem runs_snoc (n : Nat) (slice : Int) : ∀ (m now : Nat) (s : S), runs n slice (m + 1) now s = runs n slice m now s ++ [idsOf n ((now + m : Nat) : Int) (after n slice m now s)]
  | 0, now, s => rfl
  | m + 1, now, s => by
    have ih := runs_snoc n slice m (now + 1) (tick n slice now s)
    show idsOf n now s :: runs n slice (m + 1) (now + 1) (tick n slice now s) = _
    rw [ih, show now + 1 + m = now + (m + 1) by omega]
    rfl
theorem after_snoc (n : Nat) (slice : Int) : ∀ (m now : Nat) (s : S), after n slice (m + 1) now s = tick n slice ((now + m : Nat) : Int) (after n slice m now s)
  | 0, now, s => rfl
  | m + 1, now, s => by
    have ih := after_snoc n slice m (now + 1) (tick n slice now s)
    show after n slice (m + 1) (now + 1) (tick n slice now s) = _
    rw [ih, show now + 1 + m = now + (m + 1) by omega]
    rfl
theorem tick_len (n : Nat) (slice now : Int) (s : S) : (tick n slice now s).ths.length = s.ths.length := (tick_same n slice now s).1.symm
theorem after_len (n : Nat) (slice : Int) : ∀ (m : Nat) (s : S), (after n slice m 0 s).ths.length = s.ths.length
  | 0, _ => rfl
  | m + 1, s => by rw [after_snoc, tick_len]; exact after_len n slice m s
theorem after_ord {n : Nat} {slice : Int} {s : S} (h : Ord 0 s) : ∀ m : Nat, Ord m (after n slice m 0 s)
  | 0 => h
  | m + 1 => by
    rw [after_snoc, Nat.zero_add]
    have := (after_ord (n := n) (slice := slice) h m).tick_ (n := n) (slice := slice)
    rwa [show ((m + 1 : Nat) : Int) = (m : Int) + 1 by omega]
theorem Bd.come_ {slice : Int} {s : S} {T : Int} (h : Bd slice s T) (now : Int) : Bd slice (come now s) (T + s.ths.length) := by
  have := h.comeTo_ now s.ths.length (Nat.le_refl _)
  rwa [comeTo_all] at this
theorem Bd.tick_ {slice : Int} {s : S} {T : Int} (h : Bd slice s T) (hs : 0 < slice) (n : Nat) (now : Int) : Bd slice (tick n slice now s) (T + s.ths.length + n) := by
  have h1 := h.come_ now
  have hl : (chosen n now s).length ≤ n := by rw [chosen_length]; omega
  have h2 := h1.works_ hs (chosen_nodup n now s) (fun k hk => (mem_ready.1 (chosen_ready hk)).1) (fun k hk => (mem_ready.1 (chosen_ready hk)).2.2) _ (Nat.le_refl _)
  rw [List.take_length] at h2
  exact ⟨h2.t0, by have := h2.t1; show (works slice (come now s) (chosen n now s)).turn ≤ _; omega, h2.b⟩
theorem start_bd {c slice : Int} {xs : List Tin} (hw : wrongF c slice xs = false) : Bd slice (startS xs) 0 := by
  obtain ⟨_, _, h3, _, _, h6⟩ := wrong_ok hw
  refine ⟨Int.le_refl _, Int.le_refl _, fun k hk => ?_⟩
  rw [start_len] at hk
  rw [start_th hk]
  have := h6 _ (List.getElem_mem hk)
  simp only []
  omega
theorem after_bd {c slice : Int} {xs : List Tin} (hw : wrongF c slice xs = false) : ∀ m : Nat, Bd slice (after c.toNat slice m 0 (startS xs)) (72 * m)
  | 0 => start_bd hw
  | m + 1 => by
    have h := after_bd hw m
    obtain ⟨h1, h2, h3, _, h5, _⟩ := wrong_ok hw
    rw [after_snoc]
    have ht := h.tick_ (by omega) c.toNat ((0 + m : Nat) : Int)
    rw [after_len, start_len] at ht
    generalize tick c.toNat slice ((0 + m : Nat) : Int) (after c.toNat slice m 0 (startS xs)) = z at ht ⊢
    exact ⟨ht.t0, by have := ht.t1; push_cast; omega, ht.b⟩

theorem runs_short (n : Nat) (slice : Int) : ∀ (m now : Nat) (s : S), ∀ r ∈ runs n slice m now s, r.length ≤ n
  | 0, _, _, r, h => by simp [runs] at h
  | m + 1, now, s, r, h => by
    rcases List.mem_cons.1 h with rfl | h
    · rw [(ids_perm n now s).length_eq, chosen_length]; omega
    · exact runs_short n slice m (now + 1) _ r h
theorem runF_short {c slice : Int} {l : List Tin} {t : Int} : ∀ r ∈ (runF c slice l t).1, r.length ≤ 8 := by
  intro r hr
  unfold runF at hr
  split at hr
  · simp at hr
  · rename_i hw
    split at hr
    · simp at hr
    · have h1 := runs_short _ _ _ _ _ r hr
      have h2 := wrong_ok (by simpa using hw)
      omega

/-- A list of numbers has one order. -/
theorem asc_unique : ∀ {a b : List Int}, a.Perm b → (a.Pairwise fun x y => x ≤ y) → (b.Pairwise fun x y => x ≤ y) → a = b
  | [], b, h, _, _ => List.Perm.nil_eq h
  | x :: a, [], h, _, _ => by have := h.length_eq; simp at this
  | x :: a, y :: b, h, ha, hb => by
    have hx : x ∈ y :: b := h.mem_iff.1 (by simp)
    have hy : y ∈ x :: a := h.mem_iff.2 (by simp)
    have e : x = y := by
      rcases List.mem_cons.1 hx with h1 | h1
      · exact h1
      · rcases List.mem_cons.1 hy with h2 | h2
        · exact h2.symm
        · have := (List.pairwise_cons.1 ha).1 y h2
          have := (List.pairwise_cons.1 hb).1 x h1
          omega
    subst e
    rw [asc_unique (List.Perm.cons_inv h) (List.pairwise_cons.1 ha).2 (List.pairwise_cons.1 hb).2]
theorem sort_map (l : List Nat) : ((l.map fun k : Nat => (k : Int)).mergeSort fun x y => decide (x ≤ y)) = (l.mergeSort fun a b => decide (a ≤ b)).map fun k : Nat => (k : Int) := by
  refine asc_unique ((List.mergeSort_perm _ _).trans ((List.mergeSort_perm _ _).map _).symm) ?_ ?_
  · have := List.pairwise_mergeSort (le := fun x y : Int => decide (x ≤ y)) (fun a b c h h' => by simp at *; omega) (fun a b => by simp; omega) (l.map fun k : Nat => (k : Int))
    exact this.imp fun h => by simpa using h
  · rw [List.pairwise_map]
    have := List.pairwise_mergeSort (le := fun a b : Nat => decide (a ≤ b)) (fun a b c h h' => by simp at *; omega) (fun a b => by simp; omega) l
    exact this.imp fun h => by simp at h; omega

end Go.Cp
