/- Spread: whoever gives each piece to the core with the least. -/
import Derived.Test.YtnbjjhhgpcpbgaaPLib
set_option linter.unusedVariables false
set_option linter.unusedSectionVars false
set_option linter.unnecessarySimpa false
set_option linter.unusedSimpArgs false
namespace Go.Sp

/-- Pieces shared out: what each core has. -/
def sums (b : List (List Int)) : List Int := b.map List.sum
/-- A core that has no more than any other. -/
structure Least (f : List Int → Nat) : Prop where
  lt : ∀ l, l ≠ [] → f l < l.length
  le : ∀ l, l ≠ [] → ∀ x ∈ l, l.getD (f l) 0 ≤ x

def give (f : List Int → Nat) (b : List (List Int)) (w : Int) : List (List Int) := b.modify (f (sums b)) (w :: ·)
def gives (f : List Int → Nat) (b : List (List Int)) (ws : List Int) : List (List Int) := ws.foldl (give f) b
def none_ (m : Nat) : List (List Int) := List.replicate m []

theorem gives_snoc (f : List Int → Nat) (b : List (List Int)) (ws : List Int) (w : Int) : gives f b (ws ++ [w]) = give f (gives f b ws) w := by unfold gives; rw [List.foldl_append]; rfl
theorem give_length (f : List Int → Nat) (b : List (List Int)) (w : Int) : (give f b w).length = b.length := by simp [give]
theorem gives_length (f : List Int → Nat) : ∀ (ws : List Int) (b : List (List Int)), (gives f b ws).length = b.length
  | [], b => rfl
  | w :: ws, b => (gives_length f ws (give f b w)).trans (give_length f b w)

theorem modify_flat : ∀ (b : List (List Int)) (i : Nat) (w : Int), i < b.length → (b.modify i (w :: ·)).flatten.Perm (w :: b.flatten)
  | [], i, w, h => by simp at h
  | q :: b, 0, w, _ => by simp
  | q :: b, i + 1, w, h => by
    have ih := modify_flat b i w (by simpa using h)
    simp only [List.modify_succ_cons, List.flatten_cons]
    exact (ih.append_left q).trans List.perm_middle
theorem give_flat {f : List Int → Nat} (hf : Least f) {b : List (List Int)} (hb : b ≠ []) (w : Int) : (give f b w).flatten.Perm (w :: b.flatten) := by
  refine modify_flat b _ w ?_
  have := hf.lt (sums b) (by unfold sums; simpa using hb)
  simpa [sums] using this
theorem gives_flat {f : List Int → Nat} (hf : Least f) : ∀ (ws : List Int) {b : List (List Int)}, b ≠ [] → (gives f b ws).flatten.Perm (ws ++ b.flatten)
  | [], b, _ => List.Perm.refl _
  | w :: ws, b, hb => by
    have h1 := gives_flat hf ws (b := give f b w) (by intro h; have := give_length f b w; rw [h] at this; exact hb (List.eq_nil_of_length_eq_zero this.symm))
    exact h1.trans (((give_flat hf hb w).append_left ws).trans List.perm_middle)

theorem sum_flat (b : List (List Int)) : b.flatten.sum = (sums b).sum := by
  induction b with
  | nil => rfl
  | cons q b ih => simp [sums] at ih ⊢; rw [ih]
theorem sum_perm {a b : List Int} (h : a.Perm b) : a.sum = b.sum := by
  induction h with
  | nil => rfl
  | cons x _ ih => simp [ih]
  | swap x y l => simp; omega
  | trans _ _ ih ih' => exact ih.trans ih'
theorem snocInd {α : Type} {motive : List α → Prop} (nil : motive []) (append_singleton : ∀ l a, motive l → motive (l ++ [a])) : ∀ l, motive l := by
  intro l
  rw [← List.reverse_reverse l]
  induction l.reverse with
  | nil => exact nil
  | cons a l ih => rw [List.reverse_cons]; exact append_singleton _ _ ih

/-- The least is no more than an even share. -/
theorem min_share {x : Int} : ∀ {l : List Int}, (∀ y ∈ l, x ≤ y) → x * l.length ≤ l.sum
  | [], _ => by simp
  | y :: l, h => by
    have ih := min_share (x := x) (l := l) fun z hz => h z (by simp [hz])
    have hy := h y (by simp)
    simp only [List.length_cons, List.sum_cons]
    push_cast
    rw [Int.mul_add, Int.mul_one]
    omega

/-- Graham: what a core has is no more than an even share and a part of the greatest piece. -/
theorem graham {f : List Int → Nat} (hf : Least f) {m : Nat} (hm : 1 ≤ m) {B : Int} (ws : List Int) : (∀ w ∈ ws, 0 ≤ w ∧ w ≤ B) → 0 ≤ B → ∀ x ∈ sums (gives f (none_ m) ws), x * m ≤ ws.sum + (m - 1) * B := by
  induction ws using snocInd with
  | nil =>
    intro _ hB x hx
    have : x = 0 := by
      simp only [gives, List.foldl_nil, none_, sums, List.map_replicate, List.mem_replicate, List.sum_nil] at hx
      exact hx.2
    subst this
    have : 0 ≤ ((m : Int) - 1) * B := Int.mul_nonneg (by omega) hB
    simp; omega
  | append_singleton ws w ih =>
    intro h hB x hx
    have hws : ∀ y ∈ ws, 0 ≤ y ∧ y ≤ B := fun y hy => h y (by simp [hy])
    have hw := h w (by simp)
    have ih := ih hws hB
    rw [gives_snoc] at hx
    have hlen : (gives f (none_ m) ws).length = m := by rw [gives_length]; simp [none_]
    have hne : gives f (none_ m) ws ≠ [] := by intro e; rw [e] at hlen; simp at hlen; omega
    have hsn : sums (gives f (none_ m) ws) ≠ [] := by unfold sums; simpa using hne
    have hsum : (sums (gives f (none_ m) ws)).sum = ws.sum := by
      rw [← sum_flat, sum_perm (gives_flat hf ws (b := none_ m) (by intro e; have := congrArg List.length e; simp [none_] at this; omega))]
      simp [none_]
    have hmin := min_share (hf.le _ hsn)
    rw [hsum, show (sums (gives f (none_ m) ws)).length = m by simp [sums, hlen]] at hmin
    obtain ⟨i, hi⟩ := List.getElem?_of_mem hx
    rw [List.sum_append]
    simp only [List.sum_cons, List.sum_nil, Int.add_zero]
    unfold sums give at hi
    rw [List.getElem?_map, List.getElem?_modify] at hi
    cases hb : (gives f (none_ m) ws)[i]? with
    | none => rw [hb] at hi; simp at hi
    | some q =>
      rw [hb] at hi
      have hq : q.sum ∈ sums (gives f (none_ m) ws) := List.mem_map_of_mem (List.mem_of_getElem? hb)
      by_cases hc : f (sums (gives f (none_ m) ws)) = i
      · simp [hc] at hi
        have hg : (sums (gives f (none_ m) ws)).getD (f (sums (gives f (none_ m) ws))) 0 = q.sum := by
          rw [hc, List.getD_eq_getElem?_getD]; unfold sums; rw [List.getElem?_map, hb]; rfl
        rw [hg] at hmin
        rw [← hi, Int.add_mul]
        have h1 : ((m : Int) - 1) * w ≤ (m - 1) * B := Int.mul_le_mul_of_nonneg_left hw.2 (by omega)
        have h2 : w * (m : Int) = w + (m - 1) * w := by rw [Int.sub_mul, Int.one_mul, Int.mul_comm]; omega
        omega
      · simp [hc] at hi
        rw [← hi]
        have := ih q.sum hq
        omega

/-- All pieces shared out to so many cores, none with more than T. -/
def Part (ws : List Int) (m : Nat) (T : Int) : Prop := ∃ o : List (List Int), o.length = m ∧ o.flatten.Perm ws ∧ ∀ q ∈ o, q.sum ≤ T

theorem sum_le_sums {T : Int} : ∀ {o : List (List Int)}, (∀ q ∈ o, q.sum ≤ T) → o.flatten.sum ≤ o.length * T
  | [], _ => by simp
  | q :: o, h => by
    have ih := sum_le_sums (T := T) (o := o) fun x hx => h x (by simp [hx])
    have hq := h q (by simp)
    simp only [List.flatten_cons, List.sum_append, List.length_cons]
    push_cast
    rw [Int.add_mul, Int.one_mul]
    omega
theorem Part.total {ws : List Int} {m : Nat} {T : Int} (h : Part ws m T) : ws.sum ≤ m * T := by
  obtain ⟨o, h1, h2, h3⟩ := h
  rw [← sum_perm h2, ← h1]
  exact sum_le_sums h3
theorem mem_le_sum {x : Int} : ∀ {q : List Int}, (∀ y ∈ q, 0 ≤ y) → x ∈ q → x ≤ q.sum
  | [], _, h => by cases h
  | y :: q, hn, h => by
    have hq : 0 ≤ q.sum := by
      clear h
      induction q with
      | nil => simp
      | cons z q ih => have := hn z (by simp); have := ih fun a ha => hn a (by rcases List.mem_cons.1 ha with rfl | ha <;> simp [*]); simp; omega
    have hy := hn y (by simp)
    rcases List.mem_cons.1 h with rfl | h
    · simp; omega
    · have := mem_le_sum (q := q) (fun z hz => hn z (by simp [hz])) h
      simp; omega
theorem Part.piece {ws : List Int} {m : Nat} {T : Int} (h : Part ws m T) (hn : ∀ w ∈ ws, 0 ≤ w) : ∀ w ∈ ws, w ≤ T := by
  obtain ⟨o, h1, h2, h3⟩ := h
  intro w hw
  obtain ⟨q, hq, hwq⟩ := List.mem_flatten.1 (h2.mem_iff.2 hw)
  have := mem_le_sum (q := q) (fun y hy => hn y (h2.mem_iff.1 (List.mem_flatten.2 ⟨q, hq, hy⟩))) hwq
  have := h3 q hq
  omega
theorem Part.perm {a b : List Int} (h : a.Perm b) {m : Nat} {T : Int} (hp : Part a m T) : Part b m T := by
  obtain ⟨o, h1, h2, h3⟩ := hp
  exact ⟨o, h1, h2.trans h, h3⟩
theorem Part.more {a : List Int} {m : Nat} {T : Int} (hT : 0 ≤ T) (hp : Part a m T) : Part a (m + 1) T := by
  obtain ⟨o, h1, h2, h3⟩ := hp
  refine ⟨[] :: o, by simp [h1], by simpa using h2, fun q hq => ?_⟩
  rcases List.mem_cons.1 hq with rfl | hq
  · simpa using hT
  · exact h3 q hq
/-- Without the last piece. -/
theorem Part.init {ws : List Int} {w : Int} {m : Nat} {T : Int} (hw : 0 ≤ w) (hp : Part (ws ++ [w]) m T) : Part ws m T := by
  obtain ⟨o, h1, h2, h3⟩ := hp
  obtain ⟨q, hq, hwq⟩ := List.mem_flatten.1 (h2.mem_iff.2 (List.mem_append_right ws (List.mem_singleton.2 rfl)))
  obtain ⟨l1, l2, rfl⟩ := List.append_of_mem hq
  have hqp : q.Perm (w :: q.erase w) := List.perm_cons_erase hwq
  refine ⟨l1 ++ q.erase w :: l2, by simpa using h1, ?_, fun x hx => ?_⟩
  · have e1 : (l1 ++ q :: l2).flatten.Perm (w :: (l1 ++ q.erase w :: l2).flatten) := by
      simp only [List.flatten_append, List.flatten_cons]
      exact ((hqp.append_right l2.flatten).append_left l1.flatten).trans List.perm_middle
    have e2 : (w :: (l1 ++ q.erase w :: l2).flatten).Perm (w :: ws) := e1.symm.trans (h2.trans List.perm_append_comm)
    exact List.Perm.cons_inv e2
  · rcases List.mem_append.1 hx with hx | hx
    · exact h3 x (by simp [hx])
    · rcases List.mem_cons.1 hx with rfl | hx
      · have := h3 q (by simp)
        have h4 := sum_perm hqp
        simp at h4
        omega
      · exact h3 x (by simp [hx])

theorem sum_nonneg {q : List Int} (h : ∀ y ∈ q, 0 ≤ y) : 0 ≤ q.sum := by
  induction q with
  | nil => simp
  | cons z q ih => have := h z (by simp); have := ih fun a ha => h a (by simp [ha]); simp; omega

/-- Few large pieces: at most two a core. -/
theorem few {T h w : Int} (hw3 : T < 3 * w) (hhw : T < h + w) : ∀ {q : List Int}, (∀ y ∈ q, w ≤ y ∧ 0 ≤ y) → q.sum ≤ T → q.length + q.countP (fun x => decide (h ≤ x)) ≤ 2
  | [], _, _ => by simp
  | [a], _, _ => by
    have := List.countP_le_length (p := fun x : Int => decide (h ≤ x)) (l := [a])
    simp at this ⊢; omega
  | [a, b], hq, hs => by
    have ha := hq a (by simp)
    have hb := hq b (by simp)
    simp at hs
    have h1 : ¬ h ≤ a := by omega
    have h2 : ¬ h ≤ b := by omega
    simp [h1, h2]
  | a :: b :: c :: q, hq, hs => by
    exfalso
    have ha := hq a (by simp)
    have hb := hq b (by simp)
    have hc := hq c (by simp)
    have h0 : 0 ≤ q.sum := sum_nonneg fun y hy => (hq y (by simp [hy])).2
    simp at hs
    omega
theorem few_all {T h w : Int} (hw3 : T < 3 * w) (hhw : T < h + w) : ∀ {o : List (List Int)}, (∀ q ∈ o, ∀ y ∈ q, w ≤ y ∧ 0 ≤ y) → (∀ q ∈ o, q.sum ≤ T) → o.flatten.length + o.flatten.countP (fun x => decide (h ≤ x)) ≤ 2 * o.length
  | [], _, _ => by simp
  | q :: o, hq, hs => by
    have ih := few_all hw3 hhw (o := o) (fun x hx => hq x (by simp [hx])) (fun x hx => hs x (by simp [hx]))
    have := few hw3 hhw (q := q) (hq q (by simp)) (hs q (by simp))
    simp only [List.flatten_cons, List.length_append, List.countP_append, List.length_cons]
    omega
theorem many_all {h : Int} : ∀ {b : List (List Int)}, (∀ q ∈ b, q ≠ [] ∧ h ≤ q.sum) → 2 * b.length ≤ b.flatten.length + b.flatten.countP (fun x => decide (h ≤ x))
  | [], _ => by simp
  | q :: b, hq => by
    have ih := many_all (h := h) (b := b) fun x hx => hq x (by simp [hx])
    obtain ⟨h1, h2⟩ := hq q (by simp)
    have : 2 ≤ q.length + q.countP (fun x => decide (h ≤ x)) := by
      match q, h1, h2 with
      | [a], _, h2 => simp at h2; simp [h2]
      | a :: c :: q, _, _ => simp; omega
    simp only [List.flatten_cons, List.length_append, List.countP_append, List.length_cons]
    omega

/-- The largest first. -/
theorem largest {f : List Int → Nat} (hf : Least f) {m : Nat} (hm : 1 ≤ m) {T : Int} (hT : 0 ≤ T) (ws : List Int) : (∀ w ∈ ws, 0 ≤ w) → (ws.Pairwise fun a b => b ≤ a) → Part ws m T → ∀ x ∈ sums (gives f (none_ m) ws), 3 * m * x ≤ T * (4 * m - 1) := by
  have hbase : 0 ≤ T * (4 * (m : Int) - 1) := Int.mul_nonneg hT (by omega)
  have hTT : 3 * (m : Int) * T ≤ T * (4 * m - 1) := by
    have h1 : 0 ≤ T * ((m : Int) - 1) := Int.mul_nonneg hT (by omega)
    have h2 : T * (4 * (m : Int) - 1) = 3 * (m : Int) * T + T * (m - 1) := by
      rw [Int.mul_sub, Int.mul_sub, Int.mul_one, Int.mul_comm (3 * (m : Int)) T, ← Int.mul_assoc, ← Int.mul_assoc, Int.mul_comm T 4, Int.mul_comm T 3, Int.mul_assoc, Int.mul_assoc]
      omega
    omega
  induction ws using snocInd with
  | nil =>
    intro _ _ _ x hx
    have : x = 0 := by
      simp only [gives, List.foldl_nil, none_, sums, List.map_replicate, List.mem_replicate, List.sum_nil] at hx
      exact hx.2
    subst this
    simpa using hbase
  | append_singleton ws w ih =>
    intro hn hs hp x hx
    have hw0 := hn w (by simp)
    have hwn : ∀ y ∈ ws, 0 ≤ y := fun y hy => hn y (by simp [hy])
    have hwl : ∀ y ∈ ws, w ≤ y := fun y hy => (List.pairwise_append.1 hs).2.2 y hy w (by simp)
    have ih := ih hwn (List.pairwise_append.1 hs).1 (hp.init hw0)
    rw [gives_snoc] at hx
    have hlen : (gives f (none_ m) ws).length = m := by rw [gives_length]; simp [none_]
    have hne : gives f (none_ m) ws ≠ [] := by intro e; rw [e] at hlen; simp at hlen; omega
    have hsn : sums (gives f (none_ m) ws) ≠ [] := by unfold sums; simpa using hne
    have hfl : (gives f (none_ m) ws).flatten.Perm ws := by
      have := gives_flat hf ws (b := none_ m) (by intro e; have := congrArg List.length e; simp [none_] at this; omega)
      simpa [none_] using this
    have hsum : (sums (gives f (none_ m) ws)).sum = ws.sum := by rw [← sum_flat, sum_perm hfl]
    have hle := hf.le _ hsn
    have hmin := min_share hle
    rw [hsum, show (sums (gives f (none_ m) ws)).length = m by simp [sums, hlen]] at hmin
    obtain ⟨i, hi⟩ := List.getElem?_of_mem hx
    unfold sums give at hi
    rw [List.getElem?_map, List.getElem?_modify] at hi
    cases hb : (gives f (none_ m) ws)[i]? with
    | none => rw [hb] at hi; simp at hi
    | some q =>
      rw [hb] at hi
      have hq : q.sum ∈ sums (gives f (none_ m) ws) := List.mem_map_of_mem (List.mem_of_getElem? hb)
      by_cases hc : f (sums (gives f (none_ m) ws)) = i
      · simp [hc] at hi
        have hg : (sums (gives f (none_ m) ws)).getD (f (sums (gives f (none_ m) ws))) 0 = q.sum := by
          rw [hc, List.getD_eq_getElem?_getD]; unfold sums; rw [List.getElem?_map, hb]; rfl
        rw [hg] at hmin hle
        have htot := hp.total
        rw [List.sum_append] at htot
        simp only [List.sum_cons, List.sum_nil, Int.add_zero] at htot
        rw [← hi]
        by_cases h3 : 3 * w ≤ T
        · have h1 : (q.sum + w) * (m : Int) ≤ m * T + (m - 1) * w := by
            rw [Int.add_mul]
            have h2 : w * (m : Int) = w + (m - 1) * w := by rw [Int.sub_mul, Int.one_mul, Int.mul_comm]; omega
            omega
          have h4 : 3 * (((m : Int) - 1) * w) ≤ (m - 1) * T := by
            have := Int.mul_le_mul_of_nonneg_left h3 (show 0 ≤ (m : Int) - 1 by omega)
            have e : 3 * (((m : Int) - 1) * w) = ((m : Int) - 1) * (3 * w) := by rw [← Int.mul_assoc, Int.mul_comm 3, Int.mul_assoc]
            omega
          have h5 : 3 * (m : Int) * (w + q.sum) = 3 * ((q.sum + w) * m) := by rw [Int.mul_assoc, Int.mul_comm (m : Int), Int.add_comm]
          have h6 : T * (4 * (m : Int) - 1) = 3 * (m * T) + (m - 1) * T := by
            rw [Int.mul_sub, Int.mul_one, Int.sub_mul, Int.one_mul, Int.mul_comm T, Int.mul_assoc]; omega
          omega
        · have hkey : q.sum + w ≤ T := by
            by_cases hex : ∃ r ∈ gives f (none_ m) ws, r = []
            · obtain ⟨r, hr, rfl⟩ := hex
              have h0 := hle ([] : List Int).sum (List.mem_map_of_mem hr)
              have hwT := hp.piece hn w (by simp)
              simp at h0
              omega
            · by_cases hcon : q.sum + w ≤ T
              · exact hcon
              · exfalso
                obtain ⟨o, o1, o2, o3⟩ := hp
                have hmem : ∀ r ∈ o, ∀ y ∈ r, w ≤ y ∧ 0 ≤ y := fun r hr y hy => by
                  have := o2.mem_iff.1 (List.mem_flatten.2 ⟨r, hr, hy⟩)
                  refine ⟨?_, hn y this⟩
                  rcases List.mem_append.1 this with h | h
                  · exact hwl y h
                  · simp at h; omega
                have hA := few_all (h := q.sum) (show T < 3 * w by omega) (show T < q.sum + w by omega) hmem o3
                have hB := many_all (h := q.sum) (b := gives f (none_ m) ws) fun r hr => ⟨fun e => hex ⟨r, hr, e⟩, hle r.sum (List.mem_map_of_mem hr)⟩
                rw [o2.length_eq, o2.countP_eq, o1] at hA
                rw [hfl.length_eq, hfl.countP_eq, hlen] at hB
                simp only [List.length_append, List.countP_append, List.length_cons, List.length_nil] at hA
                omega
          have h7 := Int.mul_le_mul_of_nonneg_left hkey (show 0 ≤ 3 * (m : Int) by omega)
          rw [Int.add_comm w]
          omega
      · simp [hc] at hi
        rw [← hi]
        exact ih q.sum hq

end Go.Sp

namespace Go.Sp

def mx (l : List Int) : Int := l.foldr max 0
theorem le_mx {x : Int} : ∀ {l : List Int}, x ∈ l → x ≤ mx l
  | [], h => by cases h
  | y :: l, h => by
    show x ≤ max y (mx l)
    rcases List.mem_cons.1 h with rfl | h
    · omega
    · have := le_mx h; omega
theorem mx_le {T : Int} (h0 : 0 ≤ T) : ∀ {l : List Int}, (∀ x ∈ l, x ≤ T) → mx l ≤ T
  | [], _ => h0
  | y :: l, h => by
    show max y (mx l) ≤ T
    have := mx_le h0 (l := l) fun x hx => h x (by simp [hx])
    have := h y (by simp)
    omega
theorem mx_nonneg : ∀ l : List Int, 0 ≤ mx l
  | [] => Int.le_refl _
  | y :: l => by show 0 ≤ max y (mx l); have := mx_nonneg l; omega
theorem mx_mem : ∀ {l : List Int}, l ≠ [] → (∀ x ∈ l, 0 ≤ x) → mx l ∈ l
  | [], h, _ => absurd rfl h
  | [y], _, h => by have := h y (by simp); show max y 0 ∈ [y]; rw [Int.max_eq_left this]; simp
  | y :: z :: l, _, h => by
    have ih := mx_mem (l := z :: l) (by simp) fun x hx => h x (by simp only [List.mem_cons] at hx ⊢; exact .inr hx)
    show max y (mx (z :: l)) ∈ y :: z :: l
    rcases Int.le_total y (mx (z :: l)) with h1 | h1
    · rw [Int.max_eq_right h1]; exact List.mem_cons_of_mem _ ih
    · rw [Int.max_eq_left h1]; simp

def add (has : List Int) (c : Nat) (w : Int) : List Int := has.modify c (· + w)
theorem add_length (has : List Int) (c : Nat) (w : Int) : (add has c w).length = has.length := by simp [add]

/-- Core after core, up to one that has nothing. -/
def go (f : Nat → Int → Int) : List Int → Nat → Int → Int
  | [], _, b => b
  | h :: hs, c, b => if h = 0 then f c b else go f hs (c + 1) (f c b)
def put : List Int → List Int → Int → Int
  | [], has, b => if b ≤ mx has then b else mx has
  | w :: ws, has, b => if b ≤ mx has then b else go (fun c b => put ws (add has c w) b) has 0 b

/-- From what cores have, all pieces can be shared out with no core above T. -/
def Reach (ws has : List Int) (T : Int) : Prop := ∃ o : List (Int × List Int), o.map (·.1) = has ∧ (o.map (·.2)).flatten.Perm ws ∧ ∀ p ∈ o, p.1 + p.2.sum ≤ T

theorem lift_perm {α β : Type} {f : α → β} : ∀ {l l' : List β}, l.Perm l' → ∀ {o : List α}, o.map f = l → ∃ o' : List α, o'.map f = l' ∧ o'.Perm o := by
  intro l l' h
  induction h with
  | nil => intro o ho; exact ⟨o, ho, List.Perm.refl _⟩
  | cons x _ ih =>
    intro o ho
    match o, ho with
    | a :: o, ho =>
      simp only [List.map_cons, List.cons.injEq] at ho
      obtain ⟨o', h1, h2⟩ := ih ho.2
      exact ⟨a :: o', by simp [h1, ho.1], h2.cons a⟩
  | swap x y l =>
    intro o ho
    match o, ho with
    | a :: b :: o, ho =>
      simp only [List.map_cons, List.cons.injEq] at ho
      exact ⟨b :: a :: o, by simp [ho], List.Perm.swap _ _ _⟩
  | trans _ _ ih ih' =>
    intro o ho
    obtain ⟨o', h1, h2⟩ := ih ho
    obtain ⟨o'', h3, h4⟩ := ih' h1
    exact ⟨o'', h3, h4.trans h2⟩

theorem Reach.permHas {ws has has' : List Int} {T : Int} (hp : has.Perm has') (h : Reach ws has T) : Reach ws has' T := by
  obtain ⟨o, h1, h2, h3⟩ := h
  obtain ⟨o', h4, h5⟩ := lift_perm hp h1
  exact ⟨o', h4, ((h5.map _).flatten).trans h2, fun p hp => h3 p (h5.mem_iff.1 hp)⟩
theorem Reach.perm {ws ws' has : List Int} {T : Int} (hp : ws.Perm ws') (h : Reach ws has T) : Reach ws' has T := by
  obtain ⟨o, h1, h2, h3⟩ := h
  exact ⟨o, h1, h2.trans hp, h3⟩

theorem modify_perm : ∀ {l : List Int} {c : Nat} (f : Int → Int), (hc : c < l.length) → (l.modify c f).Perm (f l[c] :: l.eraseIdx c)
  | [], c, f, hc => by simp at hc
  | x :: l, 0, f, _ => by simp
  | x :: l, c + 1, f, hc => by
    have ih := modify_perm (l := l) (c := c) f (by simpa using hc)
    simp only [List.modify_succ_cons, List.getElem_cons_succ, List.eraseIdx_cons_succ]
    exact (ih.cons x).trans (List.Perm.swap _ _ _)
theorem erase_perm {l : List Int} {c : Nat} (hc : c < l.length) : l.Perm (l[c] :: l.eraseIdx c) := by
  have := modify_perm (l := l) (c := c) id hc
  have e : l.modify c id = l := by
    refine List.ext_getElem? fun i => ?_
    rw [List.getElem?_modify]; split <;> simp
  rwa [e] at this
theorem add_perm {has : List Int} {c c' : Nat} (hc : c < has.length) (hc' : c' < has.length) (h : has[c] = has[c']) (w : Int) : (add has c w).Perm (add has c' w) := by
  have h1 := modify_perm (l := has) (c := c) (· + w) hc
  have h2 := modify_perm (l := has) (c := c') (· + w) hc'
  have e1 := erase_perm hc
  have e2 := erase_perm hc'
  rw [h] at e1
  have h3 : (has.eraseIdx c).Perm (has.eraseIdx c') := List.Perm.cons_inv (e1.symm.trans e2)
  simp only [h] at h1
  exact h1.trans ((h3.cons _).trans h2.symm)

theorem Reach.ge {ws has : List Int} {T : Int} (hn : ∀ w ∈ ws, 0 ≤ w) (h0 : has ≠ []) (hh : ∀ x ∈ has, 0 ≤ x) (h : Reach ws has T) : mx has ≤ T := by
  obtain ⟨o, h1, h2, h3⟩ := h
  have hx : ∀ x ∈ has, x ≤ T := by
    intro x hx
    rw [← h1] at hx
    obtain ⟨p, hp, rfl⟩ := List.mem_map.1 hx
    have := h3 p hp
    have := sum_nonneg (q := p.2) fun y hy => hn y (h2.mem_iff.1 (List.mem_flatten.2 ⟨p.2, List.mem_map_of_mem hp, hy⟩))
    omega
  exact hx _ (mx_mem h0 hh)

theorem Reach.done {has : List Int} {T : Int} (h : ∀ x ∈ has, x ≤ T) : Reach [] has T :=
  ⟨has.map fun x => (x, []), by simp [List.map_map, Function.comp_def], by
    rw [List.map_map]
    have : ∀ l : List Int, (l.map ((fun p : Int × List Int => p.2) ∘ fun x => (x, []))).flatten = [] := by
      intro l; induction l with
      | nil => rfl
      | cons a l ih => simpa using ih
    rw [this], fun p hp => by
    obtain ⟨x, hx, rfl⟩ := List.mem_map.1 hp
    have := h x hx
    simpa using this⟩

theorem Reach.put {w : Int} {ws has : List Int} {T : Int} {c : Nat} (hc : c < has.length) (h : Reach ws (add has c w) T) : Reach (w :: ws) has T := by
  obtain ⟨o, h1, h2, h3⟩ := h
  have hl : o.length = has.length := by have := congrArg List.length h1; simpa [add] using this
  refine ⟨o.modify c fun p => (p.1 - w, w :: p.2), ?_, ?_, ?_⟩
  · refine List.ext_getElem? fun i => ?_
    have hi := congrArg (fun l => l[i]?) h1
    simp only [List.getElem?_map, add, List.getElem?_modify] at hi ⊢
    cases ho : o[i]? with
    | none =>
      rw [ho] at hi
      cases hh : has[i]? with
      | none => simp
      | some x => rw [hh] at hi; simp at hi
    | some p =>
      rw [ho] at hi
      cases hh : has[i]? with
      | none => rw [hh] at hi; simp at hi
      | some x =>
        rw [hh] at hi
        by_cases hci : c = i
        · simp [hci] at hi ⊢; omega
        · simp [hci] at hi ⊢; exact hi
  · have e : (o.modify c fun p => (p.1 - w, w :: p.2)).map (·.2) = (o.map (·.2)).modify c (w :: ·) := by
      refine List.ext_getElem? fun i => ?_
      simp only [List.getElem?_map, List.getElem?_modify]
      cases ho : o[i]? with
      | none => simp
      | some p => by_cases hci : c = i <;> simp [hci]
    rw [e]
    exact (modify_flat _ c w (by simp; omega)).trans (h2.cons w)
  · intro p hp
    obtain ⟨i, hi⟩ := List.getElem?_of_mem hp
    rw [List.getElem?_modify] at hi
    cases ho : o[i]? with
    | none => rw [ho] at hi; simp at hi
    | some q =>
      rw [ho] at hi
      have := h3 q (List.mem_of_getElem? ho)
      by_cases hci : c = i
      · simp [hci] at hi; rw [← hi]; simp; omega
      · simp [hci] at hi; rw [← hi]; exact this

theorem modify_mid : ∀ (A : List Int) (x : Int) (B : List Int) (f : Int → Int), (A ++ x :: B).modify A.length f = A ++ f x :: B
  | [], x, B, f => rfl
  | a :: A, x, B, f => by
    have := modify_mid A x B f
    simp [this]

theorem Reach.take {w : Int} {ws has : List Int} {T : Int} (h : Reach (w :: ws) has T) : ∃ c, c < has.length ∧ Reach ws (add has c w) T := by
  obtain ⟨o, h1, h2, h3⟩ := h
  have hl : o.length = has.length := by have := congrArg List.length h1; simpa using this
  obtain ⟨q, hq, hwq⟩ := List.mem_flatten.1 (h2.mem_iff.2 (List.mem_cons_self))
  obtain ⟨p, hp, rfl⟩ := List.mem_map.1 hq
  obtain ⟨l1, l2, rfl⟩ := List.append_of_mem hp
  have hqp : p.2.Perm (w :: p.2.erase w) := List.perm_cons_erase hwq
  refine ⟨l1.length, by rw [← hl]; simp, l1 ++ (p.1 + w, p.2.erase w) :: l2, ?_, ?_, ?_⟩
  · rw [← h1]
    simp only [List.map_append, List.map_cons]
    have := modify_mid (l1.map (·.1)) p.1 (l2.map (·.1)) (· + w)
    rw [List.length_map] at this
    exact this.symm
  · have e1 : ((l1 ++ p :: l2).map (·.2)).flatten.Perm (w :: ((l1 ++ (p.1 + w, p.2.erase w) :: l2).map (·.2)).flatten) := by
      simp only [List.map_append, List.map_cons, List.flatten_append, List.flatten_cons]
      exact ((hqp.append_right _).append_left _).trans List.perm_middle
    exact List.Perm.cons_inv (e1.symm.trans h2)
  · intro x hx
    rcases List.mem_append.1 hx with hx | hx
    · exact h3 x (by simp [hx])
    · rcases List.mem_cons.1 hx with rfl | hx
      · have := h3 p (by simp)
        have h4 := sum_perm hqp
        simp at h4 ⊢
        omega
      · exact h3 x (by simp [hx])

/-- Cores that have nothing come last. -/
def Pre (has : List Int) : Prop := ∀ (i j : Nat) (x y : Int), i ≤ j → has[i]? = some x → has[j]? = some y → x = 0 → y = 0
theorem Pre.add {has : List Int} (h : Pre has) (hn : ∀ x ∈ has, 0 ≤ x) {c : Nat} {w : Int} (hw : 0 ≤ w) (hb : ∀ i x, i < c → has[i]? = some x → x ≠ 0) : Pre (add has c w) := by
  intro i j x y hij hx hy h0
  unfold Sp.add at hx hy
  rw [List.getElem?_modify] at hx hy
  cases hi : has[i]? with
  | none => rw [hi] at hx; simp at hx
  | some a =>
    cases hj : has[j]? with
    | none => rw [hj] at hy; simp at hy
    | some b =>
      rw [hi] at hx
      rw [hj] at hy
      have ha := hn a (List.mem_of_getElem? hi)
      have hbn := hn b (List.mem_of_getElem? hj)
      by_cases hci : c = i
      · by_cases hcj : c = j
        · subst hci; subst hcj
          rw [hi] at hj; cases hj
          simp at hx hy; omega
        · simp [hci] at hx
          simp [hcj] at hy
          have := h i j a b hij hi hj (by omega)
          omega
      · simp [hci] at hx
        subst hx
        have hlt : ¬ i < c := fun hlt => hb i a hlt hi h0
        have := h i j a b hij hi hj h0
        by_cases hcj : c = j
        · exfalso; omega
        · simp [hcj] at hy; omega

structure Good (ws has : List Int) (b r : Int) : Prop where
  le : r ≤ b
  some : r = b ∨ Reach ws has r
  all : ∀ T, Reach ws has T → r ≤ T

theorem go_good {w : Int} {ws has : List Int} {f : Nat → Int → Int} {b0 : Int} (hp : Pre has)
    (hf : ∀ c b, c < has.length → (∀ i x, i < c → has[i]? = some x → x ≠ 0) → Good ws (add has c w) b (f c b)) :
    ∀ (hs : List Int) (c : Nat) (b : Int), has.drop c = hs → (∀ i x, i < c → has[i]? = some x → x ≠ 0) → b ≤ b0 → (b = b0 ∨ Reach (w :: ws) has b) → (∀ T c', c' < c → c' < has.length → Reach ws (add has c' w) T → b ≤ T) → Good (w :: ws) has b0 (go f hs c b)
  | [], c, b, hd, _, h1, h2, h3 => by
    have hc : has.length ≤ c := List.drop_eq_nil_iff.1 hd
    refine ⟨h1, h2, fun T hT => ?_⟩
    obtain ⟨c', hc', hr⟩ := hT.take
    exact h3 T c' (by omega) hc' hr
  | h :: hs, c, b, hd, hb, h1, h2, h3 => by
    have hc : c < has.length := by
      by_cases hc : c < has.length
      · exact hc
      · rw [List.drop_eq_nil_iff.2 (by omega)] at hd; cases hd
    have hh : has[c]? = some h := by
      have := congrArg (fun l => l[0]?) hd
      simpa using this
    have hd' : has.drop (c + 1) = hs := by
      have := congrArg (fun l => l.drop 1) hd
      simpa [List.drop_drop, Nat.add_comm] using this
    have hg := hf c b hc hb
    have k1 : f c b ≤ b0 := Int.le_trans hg.le h1
    have k2 : f c b = b0 ∨ Reach (w :: ws) has (f c b) := by
      rcases hg.some with e | e
      · rw [e]; exact h2
      · exact .inr (e.put hc)
    have k3 : ∀ T c', c' < c + 1 → c' < has.length → Reach ws (add has c' w) T → f c b ≤ T := by
      intro T c' hc1 hc2 hr
      by_cases e : c' = c
      · subst e; exact hg.all T hr
      · exact Int.le_trans hg.le (h3 T c' (by omega) hc2 hr)
    unfold go
    by_cases h0 : h = 0
    · rw [if_pos h0]
      refine ⟨k1, k2, fun T hT => ?_⟩
      obtain ⟨c', hc', hr⟩ := hT.take
      by_cases hlt : c' < c + 1
      · exact k3 T c' hlt hc' hr
      · have hz : has[c'] = 0 := by
          have := hp c c' h has[c'] (by omega) hh (by simp [hc']) h0
          exact this
        have hz' : has[c] = h := by rw [List.getElem?_eq_getElem hc] at hh; simpa using hh
        exact hg.all T (hr.permHas (add_perm hc' hc (by rw [hz, hz', h0]) w))
    · rw [if_neg h0]
      refine go_good hp hf hs (c + 1) (f c b) hd' (fun i x hi hx => ?_) k1 k2 k3
      by_cases e : i = c
      · subst e; rw [hh] at hx; cases hx; exact h0
      · exact hb i x (by omega) hx

theorem put_good : ∀ (ws has : List Int) (b : Int), (∀ w ∈ ws, 0 ≤ w) → has ≠ [] → (∀ x ∈ has, 0 ≤ x) → Pre has → Good ws has b (put ws has b)
  | [], has, b, hn, h0, hh, hp => by
    unfold put
    split
    · rename_i hb
      exact ⟨Int.le_refl _, .inl rfl, fun T hT => Int.le_trans hb (hT.ge hn h0 hh)⟩
    · rename_i hb
      exact ⟨by omega, .inr (Reach.done fun x hx => le_mx hx), fun T hT => hT.ge hn h0 hh⟩
  | w :: ws, has, b, hn, h0, hh, hp => by
    unfold put
    split
    · rename_i hb
      exact ⟨Int.le_refl _, .inl rfl, fun T hT => Int.le_trans hb (hT.ge hn h0 hh)⟩
    · refine go_good hp (fun c b' hc hb' => ?_) has 0 b rfl (fun i x hi => absurd hi (Nat.not_lt_zero _)) (Int.le_refl _) (.inl rfl) (fun T c' hc' => absurd hc' (Nat.not_lt_zero _))
      have hw := hn w (by simp)
      refine put_good ws (add has c w) b' (fun x hx => hn x (by simp [hx])) ?_ ?_ (hp.add hh hw hb')
      · intro e; have := add_length has c w; rw [e] at this; simp at this; exact h0 (List.eq_nil_of_length_eq_zero this.symm)
      · intro x hx
        obtain ⟨i, hi⟩ := List.getElem?_of_mem hx
        unfold Sp.add at hi
        rw [List.getElem?_modify] at hi
        cases ha : has[i]? with
        | none => rw [ha] at hi; simp at hi
        | some a =>
          rw [ha] at hi
          have := hh a (List.mem_of_getElem? ha)
          by_cases hci : c = i
          · simp [hci] at hi; omega
          · simp [hci] at hi; omega

theorem reach_part {ws : List Int} {m : Nat} {T : Int} : Reach ws (List.replicate m 0) T ↔ Part ws m T := by
  constructor
  · rintro ⟨o, h1, h2, h3⟩
    refine ⟨o.map (·.2), ?_, h2, fun q hq => ?_⟩
    · have := congrArg List.length h1; simpa using this
    · obtain ⟨p, hp, rfl⟩ := List.mem_map.1 hq
      have h4 : p.1 ∈ List.replicate m (0 : Int) := by rw [← h1]; exact List.mem_map_of_mem hp
      have h5 : p.1 = 0 := (List.mem_replicate.1 h4).2
      have := h3 p hp
      omega
  · rintro ⟨o, h1, h2, h3⟩
    refine ⟨o.map fun q => (0, q), ?_, ?_, fun p hp => ?_⟩
    · rw [List.map_map, ← h1]
      clear h1 h2 h3
      induction o with
      | nil => rfl
      | cons q o ih => simp [List.replicate_succ]; exact ih
    · rw [List.map_map]
      have : ((fun p : Int × List Int => p.2) ∘ fun q : List Int => ((0 : Int), q)) = id := rfl
      rw [this, List.map_id]; exact h2
    · obtain ⟨q, hq, rfl⟩ := List.mem_map.1 hp
      have := h3 q hq
      simpa using this

theorem part_all {ws : List Int} {m : Nat} (hm : 1 ≤ m) (hn : ∀ w ∈ ws, 0 ≤ w) : Part ws m ws.sum := by
  obtain ⟨k, rfl⟩ : ∃ k, m = k + 1 := ⟨m - 1, by omega⟩
  refine ⟨ws :: List.replicate k [], by simp, ?_, fun q hq => ?_⟩
  · have : ∀ k, (List.replicate k ([] : List Int)).flatten = [] := by intro k; induction k with
      | zero => rfl
      | succ k ih => simpa [List.replicate_succ] using ih
    simp [this]
  · rcases List.mem_cons.1 hq with rfl | hq
    · exact Int.le_refl _
    · rw [(List.mem_replicate.1 hq).2]; exact sum_nonneg hn

def best (ws : List Int) (m : Nat) : Int := put ws (List.replicate m 0) 4611686018427387904

/-- Best finds the least that can be. -/
theorem best_ok {ws : List Int} {m : Nat} (hm : 1 ≤ m) (hn : ∀ w ∈ ws, 0 ≤ w) (hs : ws.sum < 4611686018427387904) : Part ws m (best ws m) ∧ ∀ T, Part ws m T → best ws m ≤ T := by
  have hg := put_good ws (List.replicate m 0) 4611686018427387904 hn (by intro e; have := congrArg List.length e; simp at this; omega) (fun x hx => by rw [(List.mem_replicate.1 hx).2]; exact Int.le_refl _)
    (fun i j x y _ hx hy _ => by rw [List.getElem?_replicate] at hy; split at hy <;> simp at hy; exact hy.symm)
  have hle : best ws m ≤ ws.sum := hg.all _ (reach_part.2 (part_all hm hn))
  refine ⟨?_, fun T hT => hg.all T (reach_part.2 hT)⟩
  rcases hg.some with e | e
  · exact absurd (show best ws m = 4611686018427387904 from e) (by omega)
  · exact reach_part.1 e

end Go.Sp

namespace Go.Sp

/-- What the busiest has, when pieces are given one by one to a core that has the least. -/
def most (f : List Int → Nat) (m : Nat) (ws : List Int) : Int := mx (sums (gives f (none_ m) ws))

section
variable {f : List Int → Nat} (hf : Least f) {m : Nat} (hm : 1 ≤ m) {ws : List Int} (hn : ∀ w ∈ ws, 0 ≤ w)
include hf hm hn

theorem none_ne : none_ m ≠ [] := by intro e; have := congrArg List.length e; simp [none_] at this; omega
theorem gives_len : (gives f (none_ m) ws).length = m := by rw [gives_length]; simp [none_]
theorem gives_ne : gives f (none_ m) ws ≠ [] := by intro e; have := gives_len hf hm hn; rw [e] at this; simp at this; omega
theorem gives_perm : (gives f (none_ m) ws).flatten.Perm ws := by
  have := gives_flat hf ws (none_ne hf hm hn)
  simpa [none_] using this
theorem sums_nonneg : ∀ x ∈ sums (gives f (none_ m) ws), 0 ≤ x := by
  intro x hx
  obtain ⟨q, hq, rfl⟩ := List.mem_map.1 hx
  exact sum_nonneg fun y hy => hn y ((gives_perm hf hm hn).mem_iff.1 (List.mem_flatten.2 ⟨q, hq, hy⟩))
theorem most_mem : most f m ws ∈ sums (gives f (none_ m) ws) := mx_mem (by unfold sums; simpa using gives_ne hf hm hn) (sums_nonneg hf hm hn)
theorem most_part : Part ws m (most f m ws) := ⟨gives f (none_ m) ws, gives_len hf hm hn, gives_perm hf hm hn, fun q hq => le_mx (List.mem_map_of_mem hq)⟩

theorem graham_law {B : Int} (hB : ∀ w ∈ ws, w ≤ B) (h0 : 0 ≤ B) : most f m ws * m ≤ ws.sum + (m - 1) * B :=
  graham hf hm ws (fun w hw => ⟨hn w hw, hB w hw⟩) h0 _ (most_mem hf hm hn)
theorem graham_best {T : Int} (hT : Part ws m T) (h0 : 0 ≤ T) : most f m ws * m ≤ T * (2 * m - 1) := by
  have h1 := graham_law hf hm hn (hT.piece hn) h0
  have h2 := hT.total
  have e : T * (2 * (m : Int) - 1) = m * T + (m - 1) * T := by
    rw [Int.mul_sub, Int.sub_mul, Int.mul_one, Int.one_mul, Int.mul_comm T, Int.mul_assoc]; omega
  omega
theorem third_law (hs : ws.Pairwise fun a b => b ≤ a) {T : Int} (hT : Part ws m T) (h0 : 0 ≤ T) : 3 * m * most f m ws ≤ T * (4 * m - 1) :=
  largest hf hm h0 ws hn hs hT _ (most_mem hf hm hn)
end

theorem part_nonneg {ws : List Int} {m : Nat} {T : Int} (hm : 1 ≤ m) (hn : ∀ w ∈ ws, 0 ≤ w) (h : Part ws m T) : 0 ≤ T := by
  obtain ⟨o, h1, h2, h3⟩ := h
  match o, h1 with
  | [], h1 => simp at h1; omega
  | q :: o, _ =>
    have := h3 q (by simp)
    have := sum_nonneg (q := q) fun y hy => hn y (h2.mem_iff.1 (List.mem_flatten.2 ⟨q, by simp, hy⟩))
    omega

theorem sum_le_of {ws : List Int} {n : Nat} (hl : ws.length ≤ n) {B : Int} (h0 : 0 ≤ B) (h : ∀ w ∈ ws, w ≤ B) : ws.sum ≤ n * B := by
  have : ∀ ws : List Int, (∀ w ∈ ws, w ≤ B) → ws.sum ≤ ws.length * B := by
    intro ws
    induction ws with
    | nil => simp
    | cons w ws ih =>
      intro h
      have := ih fun x hx => h x (by simp [hx])
      have := h w (by simp)
      simp only [List.sum_cons, List.length_cons]
      push_cast
      rw [Int.add_mul, Int.one_mul]; omega
  have h1 := this ws h
  have h2 : (ws.length : Int) * B ≤ n * B := Int.mul_le_mul_of_nonneg_right (by omega) h0
  omega

/-- The best, of few pieces. -/
theorem best_ok' {ws : List Int} {m : Nat} (hm : 1 ≤ m) (hn : ∀ w ∈ ws, 0 ≤ w ∧ w ≤ 1073741824) (hl : ws.length ≤ 9) : Part ws m (best ws m) ∧ (∀ T, Part ws m T → best ws m ≤ T) ∧ 0 ≤ best ws m := by
  have hs := sum_le_of hl (B := 1073741824) (by omega) fun w hw => (hn w hw).2
  obtain ⟨h1, h2⟩ := best_ok hm (fun w hw => (hn w hw).1) (by omega)
  exact ⟨h1, h2, part_nonneg hm (fun w hw => (hn w hw).1) h1⟩

theorem best_perm {a b : List Int} (h : a.Perm b) {m : Nat} (hm : 1 ≤ m) (hn : ∀ w ∈ a, 0 ≤ w ∧ w ≤ 1073741824) (hl : a.length ≤ 9) : best a m = best b m := by
  have h1 := best_ok' hm hn hl
  have h2 := best_ok' hm (ws := b) (fun w hw => hn w (h.mem_iff.2 hw)) (by rw [← h.length_eq]; exact hl)
  have h3 := h1.2.1 _ (Part.perm h.symm h2.1)
  have h4 := h2.2.1 _ (Part.perm h h1.1)
  omega

/-- Two orders of the same pieces, the largest first: the same sizes. -/
theorem sizes_unique : ∀ {a b : List Int}, a.Perm b → (a.Pairwise fun x y => y ≤ x) → (b.Pairwise fun x y => y ≤ x) → a = b
  | [], b, h, _, _ => (List.Perm.nil_eq h)
  | x :: a, [], h, _, _ => by have := h.length_eq; simp at this
  | x :: a, y :: b, h, ha, hb => by
    have hx : x ∈ y :: b := h.mem_iff.1 (by simp)
    have hy : y ∈ x :: a := h.mem_iff.2 (by simp)
    have e : x = y := by
      rcases List.mem_cons.1 hx with h1 | h1
      · exact h1
      · rcases List.mem_cons.1 hy with h2 | h2
        · exact h2.symm
        · have := (List.pairwise_cons.1 ha).1 y h2
          have := (List.pairwise_cons.1 hb).1 x h1
          omega
    subst e
    rw [sizes_unique (List.Perm.cons_inv h) (List.pairwise_cons.1 ha).2 (List.pairwise_cons.1 hb).2]

end Go.Sp

