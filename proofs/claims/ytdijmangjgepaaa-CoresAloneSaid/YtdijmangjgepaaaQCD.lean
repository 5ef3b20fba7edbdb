/- Cores: graver ones do not know of lighter ones. -/
import Derived.Test.YtdijmangjgepaaaQCC
set_option linter.unusedVariables false
set_option linter.unusedSimpArgs false
namespace Go.Cp

/-- A second run, of some of the threads only. -/
structure Iso (t : Int) (ids : List Nat) (s s' : S) : Prop where
  len : ids.length = s'.ths.length
  inc : ids.Pairwise fun a b => a < b
  lt : ∀ k ∈ ids, k < s.ths.length
  dat : ∀ i k, ids[i]? = some k → (th s'.ths i).come = (th s.ths k).come ∧ (th s'.ths i).level = (th s.ths k).level ∧ (th s'.ths i).work = (th s.ths k).work ∧ (th s'.ths i).used = (th s.ths k).used
  ord : ∀ i j k m, ids[i]? = some k → ids[j]? = some m → (th s.ths k).come < t → (th s.ths m).come < t → ((th s'.ths i).turn < (th s'.ths j).turn ↔ (th s.ths k).turn < (th s.ths m).turn)
  o : Ord t s
  o' : Ord t s'

theorem inc_lt {ids : List Nat} (h : ids.Pairwise fun a b => a < b) {i j k m : Nat} (hi : ids[i]? = some k) (hj : ids[j]? = some m) : i < j ↔ k < m := by
  have key : ∀ {i j k m : Nat}, ids[i]? = some k → ids[j]? = some m → i < j → k < m := by
    intro i j k m hi hj hij
    obtain ⟨hil, hi⟩ := List.getElem?_eq_some_iff.1 hi
    obtain ⟨hjl, hj⟩ := List.getElem?_eq_some_iff.1 hj
    have := List.pairwise_iff_getElem.1 h i j hil hjl hij
    rw [hi, hj] at this; exact this
  refine ⟨key hi hj, fun hkm => ?_⟩
  rcases Nat.lt_trichotomy i j with h1 | rfl | h1
  · exact h1
  · rw [hi] at hj; cases hj; omega
  · have := key hj hi h1; omega
theorem inc_inj {ids : List Nat} (h : ids.Pairwise fun a b => a < b) {i j k : Nat} (hi : ids[i]? = some k) (hj : ids[j]? = some k) : i = j := by
  rcases Nat.lt_trichotomy i j with h1 | h1 | h1
  · have := (inc_lt h hi hj).1 h1; omega
  · exact h1
  · have := (inc_lt h hj hi).1 h1; omega
theorem idx_lt {ids : List Nat} {i k : Nat} (h : ids[i]? = some k) : i < ids.length := (List.getElem?_eq_some_iff.1 h).1

theorem Iso.come_ {now : Int} {ids : List Nat} {s s' : S} (h : Iso now ids s s') : Iso (now + 1) ids (come now s) (come now s') := by
  obtain ⟨a1, a2, a3⟩ := arrive_turn now s.ths s.turn
  obtain ⟨b1, b2, b3⟩ := arrive_turn now s'.ths s'.turn
  have hl := (come_same now s).1
  have hl' := (come_same now s').1
  refine ⟨h.len.trans hl', h.inc, fun k hk => hl ▸ h.lt k hk, fun i k hi => ?_, fun i j k m hi hj hk hm => ?_, h.o.come_, h.o'.come_⟩
  · obtain ⟨d1, d2, d3, d4⟩ := h.dat i k hi
    obtain ⟨e1, e2, e3, e4, _⟩ := arrive_th now s.ths s.turn k
    obtain ⟨f1, f2, f3, f4, _⟩ := arrive_th now s'.ths s'.turn i
    exact ⟨f1.trans (d1.trans e1.symm), f2.trans (d2.trans e2.symm), f3.trans (d3.trans e3.symm), f4.trans (d4.trans e4.symm)⟩
  · have c1 : (th (come now s).ths k).come = (th s.ths k).come := (arrive_th now s.ths s.turn k).1
    have c2 : (th (come now s).ths m).come = (th s.ths m).come := (arrive_th now s.ths s.turn m).1
    rw [c1] at hk
    rw [c2] at hm
    have lk := h.lt k (List.mem_of_getElem? hi)
    have lm := h.lt m (List.mem_of_getElem? hj)
    have li : i < s'.ths.length := by rw [← h.len]; exact idx_lt hi
    have lj : j < s'.ths.length := by rw [← h.len]; exact idx_lt hj
    have dk := (h.dat i k hi).1
    have dm := (h.dat j m hj).1
    have ok := (arrive_th now s.ths s.turn k).2.2.2.2
    have om := (arrive_th now s.ths s.turn m).2.2.2.2
    have oi := (arrive_th now s'.ths s'.turn i).2.2.2.2
    have oj := (arrive_th now s'.ths s'.turn j).2.2.2.2
    show (th (arrive now s'.ths s'.turn).1 i).turn < (th (arrive now s'.ths s'.turn).1 j).turn ↔ (th (arrive now s.ths s.turn).1 k).turn < (th (arrive now s.ths s.turn).1 m).turn
    by_cases hkn : (th s.ths k).come = now <;> by_cases hmn : (th s.ths m).come = now
    · have hij := inc_lt h.inc hi hj
      have hji := inc_lt h.inc hj hi
      rcases Nat.lt_trichotomy k m with hlt | rfl | hlt
      · have q1 := a3 k m hlt lm hkn hmn
        have q2 := b3 i j (hij.2 hlt) lj (by omega) (by omega)
        omega
      · have := inc_inj h.inc hi hj
        subst this
        omega
      · have q1 := a3 m k hlt lk hmn hkn
        have q2 := b3 j i (hji.2 hlt) li (by omega) (by omega)
        omega
    · have q1 := (a2 k lk hkn).1
      have q2 := (b2 i li (by omega)).1
      rw [om hmn, oj (by omega)]
      have q3 := h.o.bd m lm (by omega)
      have q4 := h.o'.bd j lj (by omega)
      omega
    · have q1 := (a2 m lm hmn).1
      have q2 := (b2 j lj (by omega)).1
      rw [ok hkn, oi (by omega)]
      have q3 := h.o.bd k lk (by omega)
      have q4 := h.o'.bd i li (by omega)
      omega
    · rw [ok hkn, om hmn, oi (by omega), oj (by omega)]
      exact h.ord i j k m hi hj (by omega) (by omega)

/-- One of them runs in both. -/
theorem Iso.both {t : Int} {ids : List Nat} {s s' : S} (h : Iso t ids s s') (slice : Int) {i k : Nat} (hi : ids[i]? = some k) : Iso t ids (work1 slice s k) (work1 slice s' i) := by
  have lk := h.lt k (List.mem_of_getElem? hi)
  have li : i < s'.ths.length := by rw [← h.len]; exact idx_lt hi
  have hs := work1_same slice s k
  have hs' := work1_same slice s' i
  have hu := (h.dat i k hi).2.2.2
  refine ⟨h.len.trans hs'.1, h.inc, fun m hm => hs.1 ▸ h.lt m hm, fun j m hj => ?_, fun j j2 m m2 hj hj2 hm hm2 => ?_, h.o.work1_ slice lk, h.o'.work1_ slice li⟩
  · obtain ⟨d1, d2, d3, d4⟩ := h.dat j m hj
    have hjm : j = i ↔ m = k := ⟨fun e => by subst e; rw [hi] at hj; exact (Option.some.inj hj).symm, fun e => by subst e; exact inc_inj h.inc hj hi⟩
    refine ⟨(hs'.2 j).1.symm.trans (d1.trans (hs.2 m).1), (hs'.2 j).2.symm.trans (d2.trans (hs.2 m).2), ?_, ?_⟩
    · rw [work1_work slice s' i j li, work1_work slice s k m lk]
      by_cases e : j = i
      · rw [if_pos e, if_pos (hjm.1 e), d3]
      · rw [if_neg e, if_neg (fun e2 => e (hjm.2 e2)), d3]
    · rw [work1_used slice s' i j li, work1_used slice s k m lk, hu]
      by_cases e : j = i
      · rw [if_pos e, if_pos (hjm.1 e)]
      · rw [if_neg e, if_neg (fun e2 => e (hjm.2 e2)), d4]
  · have lm := h.lt m (List.mem_of_getElem? hj)
    have lm2 := h.lt m2 (List.mem_of_getElem? hj2)
    have lj : j < s'.ths.length := by rw [← h.len]; exact idx_lt hj
    have lj2 : j2 < s'.ths.length := by rw [← h.len]; exact idx_lt hj2
    have cm : (th s.ths m).come < t := by rw [(hs.2 m).1]; exact hm
    have cm2 : (th s.ths m2).come < t := by rw [(hs.2 m2).1]; exact hm2
    have dj := (h.dat j m hj).1
    have dj2 := (h.dat j2 m2 hj2).1
    have b1 := h.o.bd m lm cm
    have b2 := h.o.bd m2 lm2 cm2
    have b3 := h.o'.bd j lj (by omega)
    have b4 := h.o'.bd j2 lj2 (by omega)
    have hjm : j = i ↔ m = k := ⟨fun e => by subst e; rw [hi] at hj; exact (Option.some.inj hj).symm, fun e => by subst e; exact inc_inj h.inc hj hi⟩
    have hjm2 : j2 = i ↔ m2 = k := ⟨fun e => by subst e; rw [hi] at hj2; exact (Option.some.inj hj2).symm, fun e => by subst e; exact inc_inj h.inc hj2 hi⟩
    have hord := h.ord j j2 m m2 hj hj2 cm cm2
    rw [work1_turn slice s' i j li, work1_turn slice s' i j2 li, work1_turn slice s k m lk, work1_turn slice s k m2 lk, hu]
    by_cases hsl : (th s.ths k).used + 1 = slice
    · by_cases e : m = k <;> by_cases e2 : m2 = k
      · rw [if_pos ⟨hjm.2 e, hsl⟩, if_pos ⟨hjm2.2 e2, hsl⟩, if_pos ⟨e, hsl⟩, if_pos ⟨e2, hsl⟩]; omega
      · rw [if_pos ⟨hjm.2 e, hsl⟩, if_neg (fun hx => e2 (hjm2.1 hx.1)), if_pos ⟨e, hsl⟩, if_neg (fun hx => e2 hx.1)]; omega
      · rw [if_neg (fun hx => e (hjm.1 hx.1)), if_pos ⟨hjm2.2 e2, hsl⟩, if_neg (fun hx => e hx.1), if_pos ⟨e2, hsl⟩]; omega
      · rw [if_neg (fun hx => e (hjm.1 hx.1)), if_neg (fun hx => e2 (hjm2.1 hx.1)), if_neg (fun hx => e hx.1), if_neg (fun hx => e2 hx.1)]; exact hord
    · rw [if_neg (fun hx => hsl hx.2), if_neg (fun hx => hsl hx.2), if_neg (fun hx => hsl hx.2), if_neg (fun hx => hsl hx.2)]; exact hord

/-- Another one runs in the first alone. -/
theorem Iso.left {t : Int} {ids : List Nat} {s s' : S} (h : Iso t ids s s') (slice : Int) {k : Nat} (hk : k ∉ ids) (lk : k < s.ths.length) : Iso t ids (work1 slice s k) s' := by
  have hs := work1_same slice s k
  have hne : ∀ {i m : Nat}, ids[i]? = some m → ¬ (m = k) := fun hi e => hk (e ▸ List.mem_of_getElem? hi)
  refine ⟨h.len, h.inc, fun m hm => hs.1 ▸ h.lt m hm, fun j m hj => ?_, fun j j2 m m2 hj hj2 hm hm2 => ?_, h.o.work1_ slice lk, h.o'⟩
  · obtain ⟨d1, d2, d3, d4⟩ := h.dat j m hj
    refine ⟨d1.trans (hs.2 m).1, d2.trans (hs.2 m).2, ?_, ?_⟩
    · rw [work1_work slice s k m lk, if_neg (hne hj), d3]
    · rw [work1_used slice s k m lk, if_neg (hne hj), d4]
  · rw [work1_turn slice s k m lk, work1_turn slice s k m2 lk, if_neg (fun hx => hne hj hx.1), if_neg (fun hx => hne hj2 hx.1)]
    exact h.ord j j2 m m2 hj hj2 (by rw [(hs.2 m).1]; exact hm) (by rw [(hs.2 m2).1]; exact hm2)

theorem Iso.boths {t : Int} {ids : List Nat} (slice : Int) : ∀ {c : List Nat} {s s' : S}, Iso t ids s s' → (∀ i ∈ c, i < ids.length) → Iso t ids (works slice s (c.map fun i => ids.getD i 0)) (works slice s' c)
  | [], s, s', h, _ => h
  | i :: c, s, s', h, hl => by
    have hil := hl i (by simp)
    have hi : ids[i]? = some (ids.getD i 0) := by rw [List.getD_eq_getElem?_getD, List.getElem?_eq_getElem hil]; rfl
    exact Iso.boths slice (c := c) (h.both slice hi) (fun j hj => hl j (by simp [hj]))
theorem Iso.lefts {t : Int} {ids : List Nat} (slice : Int) : ∀ {c : List Nat} {s s' : S}, Iso t ids s s' → (∀ k ∈ c, k ∉ ids ∧ k < s.ths.length) → Iso t ids (works slice s c) s'
  | [], s, s', h, _ => h
  | k :: c, s, s', h, hl => Iso.lefts slice (c := c) (h.left slice (hl k (by simp)).1 (hl k (by simp)).2) (fun j hj => by rw [← (work1_same slice s k).1]; exact hl j (by simp [hj]))

theorem works_append (slice : Int) (s : S) (a b : List Nat) : works slice s (a ++ b) = works slice (works slice s a) b := by unfold works; rw [List.foldl_append]

/-- A list of elements of which those of one kind stand ahead. -/
theorem ahead_split {p : Nat → Bool} : ∀ {q : List Nat}, (q.Pairwise fun a b => p b = true → p a = true) → q = q.filter p ++ q.filter fun x => !p x
  | [], _ => rfl
  | a :: q, h => by
    obtain ⟨h1, h2⟩ := List.pairwise_cons.1 h
    have ih := ahead_split h2
    cases hp : p a with
    | true => simp [hp]; exact ih
    | false =>
      have hn : q.filter p = [] := by
        rw [List.filter_eq_nil_iff]
        intro b hb hpb
        have := h1 b hb hpb
        rw [hp] at this; cases this
      simp [hp, hn]
      rw [hn] at ih
      simpa using ih

section
variable {n : Nat} {slice now L : Int} {ids : List Nat} {s s' : S}

/-- The queue of the second run is the head of the first one's. -/
theorem queue_own (h : Iso (now + 1) ids s s') (hid : ∀ k, k ∈ ids ↔ k < s.ths.length ∧ L ≤ (th s.ths k).level) :
    queue now s.ths = (queue now s'.ths).map (fun i => ids.getD i 0) ++ (queue now s.ths).filter (fun k => !decide (k ∈ ids)) := by
  have hgi : ∀ {i : Nat}, i < ids.length → ids[i]? = some (ids.getD i 0) := fun {i} hi => by rw [List.getD_eq_getElem?_getD, List.getElem?_eq_getElem hi]; rfl
  have hsort := queue_sorted now s.ths
  have hmem : ∀ k ∈ queue now s.ths, k < s.ths.length := fun k hk => (mem_ready.1 ((queue_perm _ _).mem_iff.1 hk)).1
  have hsp : queue now s.ths = (queue now s.ths).filter (fun k => decide (k ∈ ids)) ++ (queue now s.ths).filter (fun k => !decide (k ∈ ids)) := by
    refine ahead_split (p := fun k => decide (k ∈ ids)) ?_
    refine List.Pairwise.imp_of_mem (fun {a b} ha hb hab hpb => ?_) hsort
    have hb' := (hid b).1 (of_decide_eq_true hpb)
    refine decide_eq_true ((hid a).2 ⟨hmem a ha, ?_⟩)
    unfold le at hab
    simp only [Bool.or_eq_true, Bool.and_eq_true, decide_eq_true_eq] at hab
    omega
  have heq : (queue now s'.ths).map (fun i => ids.getD i 0) = (queue now s.ths).filter (fun k => decide (k ∈ ids)) := by
    have hlt : ∀ i ∈ queue now s'.ths, i < ids.length := fun i hi => by rw [h.len]; exact (mem_ready.1 ((queue_perm _ _).mem_iff.1 hi)).1
    have hperm : ((queue now s'.ths).map (fun i => ids.getD i 0)).Perm ((queue now s.ths).filter (fun k => decide (k ∈ ids))) := by
      rw [List.perm_ext_iff_of_nodup]
      · intro k
        simp only [List.mem_map, List.mem_filter, decide_eq_true_eq]
        constructor
        · rintro ⟨i, hi, rfl⟩
          have hr := mem_ready.1 ((queue_perm _ _).mem_iff.1 hi)
          have hg := hgi (hlt i hi)
          obtain ⟨d1, d2, d3, d4⟩ := h.dat i _ hg
          have hm := List.mem_of_getElem? hg
          exact ⟨(queue_perm _ _).mem_iff.2 (mem_ready.2 ⟨h.lt _ hm, by omega, by omega⟩), hm⟩
        · rintro ⟨hk, hm⟩
          obtain ⟨i, hi⟩ := List.getElem?_of_mem hm
          have hr := mem_ready.1 ((queue_perm _ _).mem_iff.1 hk)
          obtain ⟨d1, d2, d3, d4⟩ := h.dat i _ hi
          refine ⟨i, (queue_perm _ _).mem_iff.2 (mem_ready.2 ⟨by rw [← h.len]; exact idx_lt hi, by omega, by omega⟩), ?_⟩
          rw [List.getD_eq_getElem?_getD, hi]; rfl
      · rw [List.nodup_iff_pairwise_ne, List.pairwise_map]
        refine List.Pairwise.imp_of_mem (fun {a b} ha hb hab e => hab ?_) (List.nodup_iff_pairwise_ne.1 (queue_nodup now s'.ths))
        have h1 := hgi (hlt a ha)
        rw [e] at h1
        exact inc_inj h.inc h1 (hgi (hlt b hb))
      · exact List.Nodup.sublist List.filter_sublist (queue_nodup _ _)
    refine List.Perm.eq_of_pairwise (le := fun a b => le s.ths a b = true) (fun a b ha hb hab hba => ?_) ?_ (List.Pairwise.sublist List.filter_sublist hsort) hperm
    · have ra := mem_ready.1 ((queue_perm _ _).mem_iff.1 (List.mem_filter.1 (hperm.mem_iff.1 ha)).1)
      have rb := mem_ready.1 ((queue_perm _ _).mem_iff.1 (List.mem_filter.1 hb).1)
      unfold le at hab hba
      simp only [Bool.or_eq_true, Bool.and_eq_true, decide_eq_true_eq] at hab hba
      exact h.o.inj a b ra.1 rb.1 (by omega) (by omega) (by omega)
    · rw [List.pairwise_map]
      refine List.Pairwise.imp_of_mem (fun {a b} ha hb hab => ?_) (queue_sorted now s'.ths)
      have ga := hgi (hlt a ha)
      have gb := hgi (hlt b hb)
      have ra := mem_ready.1 ((queue_perm _ _).mem_iff.1 ha)
      have rb := mem_ready.1 ((queue_perm _ _).mem_iff.1 hb)
      obtain ⟨d1, d2, d3, d4⟩ := h.dat a _ ga
      obtain ⟨f1, f2, f3, f4⟩ := h.dat b _ gb
      have ho := h.ord b a _ _ gb ga (by omega) (by omega)
      unfold le at hab ⊢
      simp only [Bool.or_eq_true, Bool.and_eq_true, decide_eq_true_eq] at hab ⊢
      omega
  rw [heq]
  exact hsp

theorem chosen_own (h : Iso now ids s s') (hid : ∀ k, k ∈ ids ↔ k < s.ths.length ∧ L ≤ (th s.ths k).level) :
    ∃ c2 : List Nat, chosen n now s = (chosen n now s').map (fun i => ids.getD i 0) ++ c2 ∧ ∀ k ∈ c2, k ∉ ids ∧ k < (come now s).ths.length := by
  have hq := queue_own h.come_ (L := L) (fun k => by
    rw [hid k, ← (come_same now s).1, ← ((come_same now s).2 k).2])
  refine ⟨((queue now (come now s).ths).filter (fun k => !decide (k ∈ ids))).take (n - ((queue now (come now s').ths).map (fun i => ids.getD i 0)).length), ?_, fun k hk => ?_⟩
  · unfold chosen
    rw [hq, List.take_append, List.map_take]
    congr 2
    rw [← hq]
  · have hk := List.mem_of_mem_take hk
    obtain ⟨h1, h2⟩ := List.mem_filter.1 hk
    exact ⟨by simpa using h2, (mem_ready.1 ((queue_perm _ _).mem_iff.1 h1)).1⟩

theorem Iso.tick_ (h : Iso now ids s s') (hid : ∀ k, k ∈ ids ↔ k < s.ths.length ∧ L ≤ (th s.ths k).level) : Iso (now + 1) ids (tick n slice now s) (tick n slice now s') := by
  obtain ⟨c2, hc, hc2⟩ := chosen_own (n := n) h hid
  unfold tick
  rw [hc, works_append]
  refine Iso.lefts slice (Iso.boths slice h.come_ fun i hi => ?_) fun k hk => ?_
  · rw [h.come_.len]; exact (mem_ready.1 (chosen_ready hi)).1
  · rw [← (works_same slice _ _).1]; exact hc2 k hk

/-- What they do in the first run is what they do in the second. -/
theorem ids_own (h : Iso now ids s s') (hid : ∀ k, k ∈ ids ↔ k < s.ths.length ∧ L ≤ (th s.ths k).level) : (idsOf n now s).filter (fun k => decide (k ∈ ids)) = (idsOf n now s').map fun i => ids.getD i 0 := by
  obtain ⟨c2, hc, hc2⟩ := chosen_own (n := n) h hid
  have hgi : ∀ {i : Nat}, i < ids.length → ids[i]? = some (ids.getD i 0) := fun {i} hi => by rw [List.getD_eq_getElem?_getD, List.getElem?_eq_getElem hi]; rfl
  have hlt : ∀ i ∈ idsOf n now s', i < ids.length := fun i hi => by
    rw [h.come_.len]; exact (mem_ready.1 (chosen_ready ((ids_perm n now s').mem_iff.1 hi))).1
  have hlt' : ∀ i ∈ chosen n now s', i < ids.length := fun i hi => hlt i ((ids_perm n now s').mem_iff.2 hi)
  have hp : ((idsOf n now s).filter (fun k => decide (k ∈ ids))).Perm ((idsOf n now s').map fun i => ids.getD i 0) := by
    refine ((ids_perm n now s).filter _).trans ?_
    rw [hc, List.filter_append]
    have e1 : c2.filter (fun k => decide (k ∈ ids)) = [] := by
      rw [List.filter_eq_nil_iff]; intro k hk; simpa using (hc2 k hk).1
    have e2 : ((chosen n now s').map fun i => ids.getD i 0).filter (fun k => decide (k ∈ ids)) = (chosen n now s').map fun i => ids.getD i 0 := by
      rw [List.filter_eq_self]
      intro k hk
      obtain ⟨i, hi, rfl⟩ := List.mem_map.1 hk
      exact decide_eq_true (List.mem_of_getElem? (hgi (hlt' i hi)))
    rw [e1, e2, List.append_nil]
    exact (ids_perm n now s').symm.map _
  refine List.Perm.eq_of_pairwise (le := fun a b => a < b) (fun a b _ _ h1 h2 => by omega) (List.Pairwise.sublist List.filter_sublist (ids_sorted n now s)) ?_ hp
  rw [List.pairwise_map]
  refine List.Pairwise.imp_of_mem (fun {a b} ha hb hab => ?_) (ids_sorted n now s')
  exact (inc_lt h.inc (hgi (hlt a ha)) (hgi (hlt b hb))).1 hab
end

theorem runs_own {n : Nat} {slice L : Int} {ids : List Nat} : ∀ (m now : Nat) {s s' : S}, Iso now ids s s' → (∀ k, k ∈ ids ↔ k < s.ths.length ∧ L ≤ (th s.ths k).level) →
    (runs n slice m now s).map (fun r => r.filter fun k => decide (k ∈ ids)) = (runs n slice m now s').map fun r => r.map fun i => ids.getD i 0
  | 0, _, _, _, _, _ => rfl
  | m + 1, now, s, s', h, hid => by
    have ht := h.tick_ (n := n) (slice := slice) hid
    show (idsOf n now s :: runs n slice m (now + 1) (tick n slice now s)).map _ = (idsOf n now s' :: runs n slice m (now + 1) (tick n slice now s')).map _
    rw [List.map_cons, List.map_cons, ids_own h hid, runs_own m (now + 1) (s := tick n slice now s) (s' := tick n slice now s') (by simpa using ht) (fun k => by
      rw [hid k, ← (tick_same n slice now s).1, ← ((tick_same n slice now s).2 k).2])]

end Go.Cp
