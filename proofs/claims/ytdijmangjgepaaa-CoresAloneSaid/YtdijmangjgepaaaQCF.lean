/- Cores: like ones have as much as each other, but for a slice. -/
import Derived.Test.YtdijmangjgepaaaQCC
set_option linter.unusedVariables false
set_option linter.unusedSimpArgs false
namespace Go.Cp

theorem arrive_none (now : Int) : ∀ (l : List Th) (n : Int), (∀ t ∈ l, t.come ≠ now) → arrive now l n = (l, n)
  | [], _, _ => rfl
  | t :: l, n, h => by
    unfold arrive
    rw [if_neg (h t (by simp)), arrive_none now l n fun x hx => h x (by simp [hx])]

/-- Nobody's slice is over. -/
theorem works_no {slice : Int} : ∀ (ks : List Nat) {s : S}, ks.Nodup → (∀ k ∈ ks, k < s.ths.length) → (∀ k ∈ ks, (th s.ths k).used + 1 ≠ slice) →
    (works slice s ks).turn = s.turn ∧ ∀ j, (th (works slice s ks).ths j).turn = (th s.ths j).turn ∧ (th (works slice s ks).ths j).used = if j ∈ ks then (th s.ths j).used + 1 else (th s.ths j).used
  | [], s, _, _, _ => ⟨rfl, fun j => ⟨rfl, by simp [works]⟩⟩
  | k :: ks, s, hn, hl, hu => by
    have hk := hl k (by simp)
    have huk := hu k (by simp)
    have hnk := (List.nodup_cons.1 hn).1
    have hus := fun j => work1_used slice s k j hk
    have hts := fun j => work1_turn slice s k j hk
    obtain ⟨h1, h2⟩ := works_no ks (s := work1 slice s k) (List.nodup_cons.1 hn).2 (fun j hj => by rw [← (work1_same slice s k).1]; exact hl j (by simp [hj])) (fun j hj => by
      have : j ≠ k := fun e => hnk (e ▸ hj)
      rw [hus, if_neg this]; exact hu j (by simp [hj]))
    refine ⟨?_, fun j => ?_⟩
    · show (works slice (work1 slice s k) ks).turn = _
      rw [h1, work1_last, if_neg huk]
    · obtain ⟨a, b⟩ := h2 j
      show (th (works slice (work1 slice s k) ks).ths j).turn = _ ∧ (th (works slice (work1 slice s k) ks).ths j).used = _
      rw [a, b, hts, hus, if_neg (fun hx => huk hx.2), if_neg huk]
      refine ⟨rfl, ?_⟩
      by_cases hj : j = k
      · subst hj; simp [hnk]
      · simp [hj]

/-- Everybody's slice is over. -/
theorem works_yes {slice : Int} : ∀ (ks : List Nat) {s : S}, ks.Nodup → (∀ k ∈ ks, k < s.ths.length) → (∀ k ∈ ks, (th s.ths k).used + 1 = slice) →
    (works slice s ks).turn = s.turn + ks.length ∧ (∀ j, (th (works slice s ks).ths j).used = if j ∈ ks then 0 else (th s.ths j).used) ∧ (∀ j, j ∉ ks → (th (works slice s ks).ths j).turn = (th s.ths j).turn) ∧
    (∀ k ∈ ks, s.turn < (th (works slice s ks).ths k).turn) ∧ ks.Pairwise fun a b => (th (works slice s ks).ths a).turn < (th (works slice s ks).ths b).turn
  | [], s, _, _, _ => ⟨by simp [works], fun j => by simp [works], fun j _ => rfl, by intro k hk; simp at hk, List.Pairwise.nil⟩
  | k :: ks, s, hn, hl, hu => by
    have hk := hl k (by simp)
    have huk := hu k (by simp)
    have hnk := (List.nodup_cons.1 hn).1
    have hus := fun j => work1_used slice s k j hk
    have hts := fun j => work1_turn slice s k j hk
    have hlast : (work1 slice s k).turn = s.turn + 1 := by rw [work1_last, if_pos huk]
    obtain ⟨h1, h2, h3, h4, h5⟩ := works_yes ks (s := work1 slice s k) (List.nodup_cons.1 hn).2 (fun j hj => by rw [← (work1_same slice s k).1]; exact hl j (by simp [hj])) (fun j hj => by
      have : j ≠ k := fun e => hnk (e ▸ hj)
      rw [hus, if_neg this]; exact hu j (by simp [hj]))
    have hk2 : (th (works slice (work1 slice s k) ks).ths k).turn = s.turn + 1 := by rw [h3 k hnk, hts, if_pos ⟨rfl, huk⟩]
    refine ⟨?_, fun j => ?_, fun j hj => ?_, fun j hj => ?_, ?_⟩
    · show (works slice (work1 slice s k) ks).turn = _
      rw [h1, hlast]; simp; omega
    · show (th (works slice (work1 slice s k) ks).ths j).used = _
      rw [h2, hus, if_pos huk]
      by_cases hj : j = k
      · subst hj; simp [hnk]
      · simp [hj]
    · show (th (works slice (work1 slice s k) ks).ths j).turn = _
      have hjk : j ≠ k := fun e => hj (by simp [e])
      rw [h3 j (fun hx => hj (by simp [hx])), hts, if_neg (fun hx => hjk hx.1)]
    · show s.turn < (th (works slice (work1 slice s k) ks).ths j).turn
      rcases List.mem_cons.1 hj with rfl | hj
      · rw [hk2]; omega
      · have := h4 j hj; omega
    · show (k :: ks).Pairwise fun a b => (th (works slice (work1 slice s k) ks).ths a).turn < (th (works slice (work1 slice s k) ks).ths b).turn
      refine List.pairwise_cons.2 ⟨fun b hb => ?_, h5⟩
      rw [hk2]
      have := h4 b hb; omega

/-- The queue of like threads: each with the slices that it has had. -/
structure Rob (W slice : Int) (n many : Nat) (z : List (Nat × Int)) (u : Int) (s : S) : Prop where
  len : s.ths.length = many
  perm : (z.map (·.1)).Perm (List.range many)
  turn : z.Pairwise fun a b => (th s.ths a.1).turn < (th s.ths b.1).turn
  last : ∀ k, k < many → (th s.ths k).turn ≤ s.turn
  run : ∀ x ∈ z.take n, (th s.ths x.1).used = u ∧ (th s.ths x.1).work = W - (slice * x.2 + u)
  wait : ∀ x ∈ z.drop n, (th s.ths x.1).used = 0 ∧ (th s.ths x.1).work = W - slice * x.2
  up : z.Pairwise fun a b => a.2 ≤ b.2
  near : ∀ a ∈ z, ∀ b ∈ z, b.2 ≤ a.2 + 1
  u0 : 0 ≤ u
  u1 : u < slice
  like : ∀ k, k < many → (th s.ths k).come = 0 ∧ (th s.ths k).level = 0

section
variable {W slice : Int} {n many : Nat} {z : List (Nat × Int)} {u : Int} {s : S}

theorem Rob.mem (h : Rob W slice n many z u s) {x : Nat × Int} (hx : x ∈ z) : x.1 < many := by
  have := h.perm.mem_iff.1 (List.mem_map_of_mem (f := (·.1)) hx)
  simpa using this
theorem Rob.nodup (h : Rob W slice n many z u s) : (z.map (·.1)).Nodup := h.perm.nodup_iff.2 List.nodup_range
theorem Rob.z_inj (h : Rob W slice n many z u s) {a b : Nat × Int} (ha : a ∈ z.take n) (hb : b ∈ z.drop n) : a.1 ≠ b.1 := by
  have hn := h.nodup
  rw [← List.take_append_drop n z, List.map_append, List.nodup_append] at hn
  exact hn.2.2 a.1 (List.mem_map_of_mem (f := (·.1)) ha) b.1 (List.mem_map_of_mem (f := (·.1)) hb)

theorem Rob.queue_ (h : Rob W slice n many z u s) {now : Int} (hnow : 0 ≤ now) (hw : ∀ k, k < many → 0 < (th s.ths k).work) : queue now s.ths = z.map (·.1) := by
  have hO : Ord (now + 1) s := by
    refine ⟨fun k hk _ => h.last k (by rw [← h.len]; exact hk), fun k j hk hj _ _ he => ?_⟩
    rw [h.len] at hk hj
    obtain ⟨x, hx, rfl⟩ := List.mem_map.1 (h.perm.mem_iff.2 (List.mem_range.2 hk))
    obtain ⟨y, hy, rfl⟩ := List.mem_map.1 (h.perm.mem_iff.2 (List.mem_range.2 hj))
    by_cases hxy : x = y
    · rw [hxy]
    · exfalso
      obtain ⟨i, hi⟩ := List.getElem?_of_mem hx
      obtain ⟨j, hj⟩ := List.getElem?_of_mem hy
      obtain ⟨hil, hi⟩ := List.getElem?_eq_some_iff.1 hi
      obtain ⟨hjl, hj⟩ := List.getElem?_eq_some_iff.1 hj
      rcases Nat.lt_trichotomy i j with hlt | rfl | hlt
      · have := List.pairwise_iff_getElem.1 h.turn i j hil hjl hlt
        rw [hi, hj] at this; omega
      · exact hxy (hi.symm.trans hj)
      · have := List.pairwise_iff_getElem.1 h.turn j i hjl hil hlt
        rw [hi, hj] at this; omega
  refine (queue_unique hO ?_ ?_).symm
  · have : readyOf now s.ths = List.range many := by
      unfold readyOf
      rw [h.len, List.filter_eq_self]
      intro k hk
      have hk := List.mem_range.1 hk
      unfold isReady
      rw [(h.like k hk).1]
      simp [hnow, hw k hk]
    rw [this]; exact h.perm
  · rw [List.pairwise_map]
    refine List.Pairwise.imp_of_mem (fun {a b} ha hb hab => ?_) h.turn
    unfold le
    rw [(h.like a.1 (h.mem ha)).2, (h.like b.1 (h.mem hb)).2]
    simp <;> omega

/-- A tick. -/
theorem Rob.step (h : Rob W slice n many z u s) {now : Int} (hnow : 0 ≤ now) (hw : ∀ k, k < many → 0 < (th s.ths k).work) :
    ∃ z' u', Rob W slice n many z' u' (works slice s ((queue now s.ths).take n)) := by
  rw [h.queue_ hnow hw, ← List.map_take]
  have hnd : ((z.take n).map (·.1)).Nodup := by rw [List.map_take]; exact List.Nodup.sublist (List.take_sublist _ _) h.nodup
  have hlt : ∀ k ∈ (z.take n).map (·.1), k < s.ths.length := fun k hk => by
    obtain ⟨x, hx, rfl⟩ := List.mem_map.1 hk
    rw [h.len]; exact h.mem (List.mem_of_mem_take hx)
  have hsame := works_same slice ((z.take n).map (·.1)) s
  have hwork := fun j => works_work slice ((z.take n).map (·.1)) s j hnd hlt
  have hin : ∀ x ∈ z.take n, x.1 ∈ (z.take n).map (·.1) := fun x hx => List.mem_map_of_mem hx
  have hout : ∀ x ∈ z.drop n, x.1 ∉ (z.take n).map (·.1) := fun x hx hm => by
    obtain ⟨y, hy, e⟩ := List.mem_map.1 hm
    exact h.z_inj hy hx e
  have hlike : ∀ k, k < many → (th (works slice s ((z.take n).map (·.1))).ths k).come = 0 ∧ (th (works slice s ((z.take n).map (·.1))).ths k).level = 0 := fun k hk => by
    rw [← (hsame.2 k).1, ← (hsame.2 k).2]; exact h.like k hk
  by_cases hu : u + 1 = slice
  · obtain ⟨g1, g2, g3, g4, g5⟩ := works_yes (slice := slice) ((z.take n).map (·.1)) hnd hlt (fun k hk => by
      obtain ⟨x, hx, rfl⟩ := List.mem_map.1 hk
      rw [(h.run x hx).1]; exact hu)
    have hsp := List.take_append_drop n z
    have hmd : ∀ x ∈ z.drop n, x ∈ z := fun x hx => List.mem_of_mem_drop hx
    have hmt : ∀ x ∈ z.take n, x ∈ z := fun x hx => List.mem_of_mem_take hx
    have hord : ∀ a ∈ z.take n, ∀ b ∈ z.drop n, a.2 ≤ b.2 := by
      have := h.up
      rw [← hsp] at this
      exact (List.pairwise_append.1 this).2.2
    have hup1 : (z.take n).Pairwise fun a b => a.2 ≤ b.2 := List.Pairwise.sublist (List.take_sublist _ _) h.up
    have hup2 : (z.drop n).Pairwise fun a b => a.2 ≤ b.2 := List.Pairwise.sublist (List.drop_sublist _ _) h.up
    refine ⟨z.drop n ++ (z.take n).map fun x => (x.1, x.2 + 1), 0, ?_⟩
    have hall : ∀ x ∈ z.drop n ++ (z.take n).map (fun x => (x.1, x.2 + 1)), (th (works slice s ((z.take n).map (·.1))).ths x.1).used = 0 ∧ (th (works slice s ((z.take n).map (·.1))).ths x.1).work = W - slice * x.2 := by
      intro x hx
      rcases List.mem_append.1 hx with hx | hx
      · have := h.wait x hx
        rw [g2, hwork, if_neg (hout x hx), if_neg (hout x hx)]; exact this
      · obtain ⟨y, hy, rfl⟩ := List.mem_map.1 hx
        have := h.run y hy
        rw [g2, hwork, if_pos (hin y hy), if_pos (hin y hy), this.2]
        refine ⟨rfl, ?_⟩
        show _ = W - slice * (y.2 + 1)
        have : slice * (y.2 + 1) = slice * y.2 + slice := by rw [Int.mul_add, Int.mul_one]
        omega
    refine ⟨hsame.1.symm.trans h.len, ?_, ?_, ?_, ?_, ?_, ?_, ?_, Int.le_refl _, by have := h.u0; have := h.u1; omega, hlike⟩
    · rw [List.map_append, List.map_map]
      refine List.perm_append_comm.trans ?_
      have e : (z.take n).map ((·.1) ∘ fun x : Nat × Int => (x.1, x.2 + 1)) = (z.take n).map (·.1) := List.map_congr_left fun _ _ => rfl
      rw [e, ← List.map_append, hsp]
      exact h.perm
    · rw [List.pairwise_append]
      refine ⟨List.Pairwise.imp_of_mem (fun {a b} ha hb hab => ?_) (List.Pairwise.sublist (List.drop_sublist n z) h.turn), ?_, fun a ha b hb => ?_⟩
      · rw [g3 _ (hout a ha), g3 _ (hout b hb)]; exact hab
      · rw [List.pairwise_map]
        rw [List.pairwise_map] at g5
        exact g5
      · obtain ⟨y, hy, rfl⟩ := List.mem_map.1 hb
        rw [g3 _ (hout a ha)]
        have h6 := g4 y.1 (hin y hy)
        have h7 := h.last a.1 (h.mem (hmd a ha))
        show _ < (th (works slice s ((z.take n).map (·.1))).ths y.1).turn
        omega
    · intro k hk
      rw [g1]
      by_cases hkm : k ∈ (z.take n).map (·.1)
      · have hO : ∀ (ks : List Nat) (s : S), ks.Nodup → (∀ k ∈ ks, k < s.ths.length) → (∀ k ∈ ks, (th s.ths k).used + 1 = slice) → ∀ k ∈ ks, (th (works slice s ks).ths k).turn ≤ s.turn + ks.length := by
          intro ks
          induction ks with
          | nil => intro s _ _ _ k hk; cases hk
          | cons a ks ih =>
            intro s hn hl hu k hk
            have ha := hl a (by simp)
            have hua := hu a (by simp)
            have hna := (List.nodup_cons.1 hn).1
            have hlast : (work1 slice s a).turn = s.turn + 1 := by rw [work1_last, if_pos hua]
            have hl' : ∀ j ∈ ks, j < (work1 slice s a).ths.length := fun j hj => by rw [← (work1_same slice s a).1]; exact hl j (by simp [hj])
            have hu' : ∀ j ∈ ks, (th (work1 slice s a).ths j).used + 1 = slice := fun j hj => by
              have : j ≠ a := fun e => hna (e ▸ hj)
              rw [work1_used slice s a j ha, if_neg this]; exact hu j (by simp [hj])
            show (th (works slice (work1 slice s a) ks).ths k).turn ≤ _
            rcases List.mem_cons.1 hk with rfl | hk
            · rw [(works_yes ks (List.nodup_cons.1 hn).2 hl' hu').2.2.1 k hna, work1_turn slice s k k ha, if_pos ⟨rfl, hua⟩]
              simp; omega
            · have := ih (work1 slice s a) (List.nodup_cons.1 hn).2 hl' hu' k hk
              simp; omega
        exact hO _ s hnd hlt (fun k hk => by
          obtain ⟨x, hx, rfl⟩ := List.mem_map.1 hk
          rw [(h.run x hx).1]; exact hu) k hkm
      · rw [g3 k hkm]
        have := h.last k hk
        omega
    · intro x hx
      have := hall x (List.mem_of_mem_take hx)
      exact ⟨this.1, by rw [this.2]; omega⟩
    · intro x hx
      exact hall x (List.mem_of_mem_drop hx)
    · rw [List.pairwise_append]
      refine ⟨hup2, ?_, fun a ha b hb => ?_⟩
      · rw [List.pairwise_map]
        exact hup1.imp fun h => by simp only; omega
      · obtain ⟨y, hy, rfl⟩ := List.mem_map.1 hb
        have := h.near y (hmt y hy) a (hmd a ha)
        exact this
    · intro a ha b hb
      rcases List.mem_append.1 ha with ha | ha <;> rcases List.mem_append.1 hb with hb | hb
      · exact h.near a (hmd a ha) b (hmd b hb)
      · obtain ⟨y, hy, rfl⟩ := List.mem_map.1 hb
        have := hord y hy a ha
        show y.2 + 1 ≤ a.2 + 1
        omega
      · obtain ⟨y, hy, rfl⟩ := List.mem_map.1 ha
        have := h.near y (hmt y hy) b (hmd b hb)
        show b.2 ≤ y.2 + 1 + 1
        omega
      · obtain ⟨y, hy, rfl⟩ := List.mem_map.1 ha
        obtain ⟨x, hx, rfl⟩ := List.mem_map.1 hb
        have := h.near y (hmt y hy) x (hmt x hx)
        show x.2 + 1 ≤ y.2 + 1 + 1
        omega
  · obtain ⟨g1, g2⟩ := works_no (slice := slice) ((z.take n).map (·.1)) hnd hlt (fun k hk => by
      obtain ⟨x, hx, rfl⟩ := List.mem_map.1 hk
      rw [(h.run x hx).1]; exact hu)
    refine ⟨z, u + 1, hsame.1.symm.trans h.len, h.perm, h.turn.imp fun {a b} hab => by rw [(g2 a.1).1, (g2 b.1).1]; exact hab, fun k hk => by rw [(g2 k).1, g1]; exact h.last k hk, fun x hx => ?_, fun x hx => ?_, h.up, h.near, by have := h.u0; omega, by have := h.u1; omega, hlike⟩
    · have := h.run x hx
      rw [(g2 x.1).2, hwork, if_pos (hin x hx), if_pos (hin x hx), this.1, this.2]
      exact ⟨rfl, by omega⟩
    · have := h.wait x hx
      rw [(g2 x.1).2, hwork, if_neg (hout x hx), if_neg (hout x hx)]
      exact this

/-- As much as each other, but for a slice. -/
theorem Rob.near_ (h : Rob W slice n many z u s) {k j : Nat} (hk : k < many) (hj : j < many) : (W - (th s.ths k).work) - (W - (th s.ths j).work) ≤ slice := by
  obtain ⟨x, hx, rfl⟩ := List.mem_map.1 (h.perm.mem_iff.2 (List.mem_range.2 hk))
  obtain ⟨y, hy, rfl⟩ := List.mem_map.1 (h.perm.mem_iff.2 (List.mem_range.2 hj))
  have hs : 0 ≤ slice := by have := h.u0; have := h.u1; omega
  have hu0 := h.u0
  have hu1 := h.u1
  have hxy := h.near y hy x hx
  have key : ∀ a b : Int, a ≤ b → slice * a ≤ slice * b := fun a b hab => Int.mul_le_mul_of_nonneg_left hab hs
  have hm : slice * x.2 ≤ slice * y.2 + slice := by
    have := key x.2 (y.2 + 1) hxy
    rw [Int.mul_add, Int.mul_one] at this; exact this
  have hx' := hx
  have hy' := hy
  rw [← List.take_append_drop n z] at hx' hy'
  rcases List.mem_append.1 hx' with hx' | hx' <;> rcases List.mem_append.1 hy' with hy' | hy'
  · rw [(h.run x hx').2, (h.run y hy').2]; omega
  · rw [(h.run x hx').2, (h.wait y hy').2]
    have hup := h.up
    rw [← List.take_append_drop n z] at hup
    have := key _ _ ((List.pairwise_append.1 hup).2.2 x hx' y hy')
    omega
  · rw [(h.wait x hx').2, (h.run y hy').2]; omega
  · rw [(h.wait x hx').2, (h.wait y hy').2]; omega
end

def likes (many : Nat) (W : Int) : S := ⟨List.replicate many ⟨0, 0, W, 0, 0⟩, 0⟩

theorem likes_th {many : Nat} {W : Int} {k : Nat} (h : k < many) : th (likes many W).ths k = ⟨0, 0, W, 0, 0⟩ := by
  unfold th likes
  rw [List.getD_eq_getElem?_getD]
  simp [h]

theorem Rob.start {many n : Nat} {W slice : Int} (hs : 1 ≤ slice) : Rob W slice n many ((List.range many).map fun k => (k, 0)) 0 (come 0 (likes many W)) := by
  obtain ⟨a1, a2, a3⟩ := arrive_turn 0 (likes many W).ths (likes many W).turn
  have hlen : (likes many W).ths.length = many := by simp [likes]
  have hall : ∀ k, k < many → (th (come 0 (likes many W)).ths k).used = 0 ∧ (th (come 0 (likes many W)).ths k).work = W ∧ (th (come 0 (likes many W)).ths k).come = 0 ∧ (th (come 0 (likes many W)).ths k).level = 0 := fun k hk => by
    obtain ⟨e1, e2, e3, e4, _⟩ := arrive_th 0 (likes many W).ths (likes many W).turn k
    rw [likes_th hk] at e1 e2 e3 e4
    exact ⟨e4, e3, e1, e2⟩
  have hz : ∀ x ∈ (List.range many).map (fun k => (k, (0 : Int))), x.1 < many ∧ x.2 = 0 := fun x hx => by
    obtain ⟨k, hk, rfl⟩ := List.mem_map.1 hx
    exact ⟨List.mem_range.1 hk, rfl⟩
  refine ⟨(come_same 0 _).1.symm.trans hlen, ?_, ?_, fun k hk => ?_, fun x hx => ?_, fun x hx => ?_, ?_, fun a ha b hb => ?_, Int.le_refl _, by omega, fun k hk => (hall k hk).2.2⟩
  · rw [List.map_map]
    have : (List.range many).map ((·.1) ∘ fun k => (k, (0 : Int))) = List.range many := by
      rw [show ((·.1) ∘ fun k : Nat => (k, (0 : Int))) = id from rfl, List.map_id]
    rw [this]
  · rw [List.pairwise_map]
    refine List.Pairwise.imp_of_mem (fun {a b} ha hb hab => ?_) List.pairwise_lt_range
    exact a3 a b hab (by rw [hlen]; exact List.mem_range.1 hb) (by rw [likes_th (List.mem_range.1 ha)]) (by rw [likes_th (List.mem_range.1 hb)])
  · exact (a2 k (by rw [hlen]; exact hk) (by rw [likes_th hk])).2
  · obtain ⟨h1, h2⟩ := hz x (List.mem_of_mem_take hx)
    obtain ⟨e1, e2, _⟩ := hall x.1 h1
    exact ⟨e1, by rw [e2, h2]; simp⟩
  · obtain ⟨h1, h2⟩ := hz x (List.mem_of_mem_drop hx)
    obtain ⟨e1, e2, _⟩ := hall x.1 h1
    exact ⟨e1, by rw [e2, h2]; simp⟩
  · rw [List.pairwise_map]
    exact List.Pairwise.imp (fun _ => Int.le_refl _) List.pairwise_lt_range
  · rw [(hz a ha).2, (hz b hb).2]; omega

theorem tick_low (n : Nat) (slice now : Int) (s : S) (j : Nat) : (th s.ths j).work - 1 ≤ (th (tick n slice now s).ths j).work := by
  rw [tick_work]; split <;> omega

theorem Rob.come_ {W slice : Int} {n many : Nat} {z : List (Nat × Int)} {u : Int} {s : S} (h : Rob W slice n many z u s) {now : Int} (hn : now ≠ 0) : come now s = s := by
  unfold come
  rw [arrive_none now s.ths s.turn fun t ht => ?_]
  obtain ⟨k, hk⟩ := List.getElem?_of_mem ht
  have hkl := (List.getElem?_eq_some_iff.1 hk).1
  have := (h.like k (by rw [← h.len]; exact hkl)).1
  unfold th at this
  rw [List.getD_eq_getElem?_getD, hk] at this
  simp at this
  omega

theorem Rob.after_ {W slice : Int} {n many : Nat} : ∀ (m now : Nat) {z : List (Nat × Int)} {u : Int} {s : S}, now ≠ 0 → Rob W slice n many z u s → (∀ k, k < many → (m : Int) < (th s.ths k).work) → ∃ z' u', Rob W slice n many z' u' (after n slice m now s)
  | 0, _, z, u, s, _, h, _ => ⟨z, u, h⟩
  | m + 1, now, z, u, s, hn, h, hw => by
    have hc : come (now : Int) s = s := h.come_ (by omega)
    obtain ⟨z', u', h'⟩ := h.step (now := (now : Int)) (by omega) (fun k hk => by have := hw k hk; omega)
    have ht : tick n slice now s = works slice s ((queue (now : Int) s.ths).take n) := by unfold tick chosen; rw [hc]
    rw [← ht] at h'
    exact Rob.after_ m (now + 1) (by omega) h' (fun k hk => by have := hw k hk; have := tick_low n slice now s k; omega)

theorem fair {many n : Nat} {slice : Int} (hs : 1 ≤ slice) (m : Nat) {W : Int} (hm : (m : Int) < W) {k j : Nat} (hk : k < many) (hj : j < many) :
    (W - (th (after n slice m 0 (likes many W)).ths k).work) - (W - (th (after n slice m 0 (likes many W)).ths j).work) ≤ slice := by
  cases m with
  | zero =>
    show (W - (th (likes many W).ths k).work) - (W - (th (likes many W).ths j).work) ≤ slice
    rw [likes_th hk, likes_th hj]; simp; omega
  | succ m =>
    have h0 := Rob.start (many := many) (n := n) (W := W) hs
    have hw0 : ∀ k, k < many → (th (come 0 (likes many W)).ths k).work = W := fun k hk => by
      have := (arrive_th 0 (likes many W).ths (likes many W).turn k).2.2.1
      rw [likes_th hk] at this; exact this
    obtain ⟨z, u, h1⟩ := h0.step (now := 0) (by omega) (fun k hk => by rw [hw0 k hk]; omega)
    have ht : tick n slice 0 (likes many W) = works slice (come 0 (likes many W)) ((queue 0 (come 0 (likes many W)).ths).take n) := rfl
    rw [← ht] at h1
    obtain ⟨z', u', h2⟩ := Rob.after_ m 1 (by omega) h1 (fun k hk => by
      have := tick_low n slice 0 (likes many W) k
      rw [likes_th hk] at this
      simp at this
      omega)
    exact h2.near_ hk hj

end Go.Cp
