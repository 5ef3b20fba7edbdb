/- Plain laws of cores. -/
import Derived.Test.YtdijmangjgepaaaQZCM
import Derived.Test.YtdijmangjgepaaaPLib
import Derived.Test.YtdijmangjgepaaaQZCK
import Derived.Test.YtdijmangjgepaaaQCD
import Derived.Test.YtdijmangjgepaaaQCF
import Derived.Test.YtdijmangjgepaaaQCG
set_option linter.unusedSimpArgs false
set_option linter.unusedVariables false
namespace Go.Proofs.Ytdijmangjgepaaa
open Go Go.Ab Go.Cp

/- a sort that the kernel carries out -/
def ins (r : Nat → Nat → Bool) (x : Nat) : List Nat → List Nat
  | [] => [x]
  | y :: l => bif r x y then x :: y :: l else y :: ins r x l
def isort (r : Nat → Nat → Bool) : List Nat → List Nat
  | [] => []
  | x :: l => ins r x (isort r l)
theorem ins_perm (r : Nat → Nat → Bool) (x : Nat) : ∀ l, (ins r x l).Perm (x :: l)
  | [] => List.Perm.refl _
  | y :: l => by
    unfold ins
    cases r x y with
    | true => exact List.Perm.refl _
    | false => exact ((ins_perm r x l).cons y).trans (List.Perm.swap x y l)
theorem isort_perm (r : Nat → Nat → Bool) : ∀ l, (isort r l).Perm l
  | [] => List.Perm.refl _
  | x :: l => (ins_perm r x _).trans ((isort_perm r l).cons x)
theorem ins_sorted {r : Nat → Nat → Bool} (ht : ∀ a b, (r a b || r b a) = true) (hr : ∀ a b c, r a b = true → r b c = true → r a c = true) (x : Nat) : ∀ {l}, l.Pairwise (fun a b => r a b = true) → (ins r x l).Pairwise fun a b => r a b = true
  | [], _ => by simp [ins]
  | y :: l, h => by
    unfold ins
    obtain ⟨h1, h2⟩ := List.pairwise_cons.1 h
    cases hx : r x y with
    | true => exact List.pairwise_cons.2 ⟨fun z hz => by
        rcases List.mem_cons.1 hz with rfl | hz
        · exact hx
        · exact hr _ _ _ hx (h1 z hz), h⟩
    | false =>
      have hy : r y x = true := by have := ht x y; rw [hx] at this; simpa using this
      refine List.pairwise_cons.2 ⟨fun z hz => ?_, ins_sorted ht hr x h2⟩
      rcases List.mem_cons.1 ((ins_perm r x l).mem_iff.1 hz) with rfl | hz
      · exact hy
      · exact h1 z hz
theorem isort_sorted {r : Nat → Nat → Bool} (ht : ∀ a b, (r a b || r b a) = true) (hr : ∀ a b c, r a b = true → r b c = true → r a c = true) : ∀ l, (isort r l).Pairwise fun a b => r a b = true
  | [] => List.Pairwise.nil
  | x :: l => ins_sorted ht hr x (isort_sorted ht hr l)

def chosen2 (n : Nat) (now : Int) (s : S) : List Nat := (isort (le (come now s).ths) (readyOf now (come now s).ths)).take n
def runs2 (n : Nat) (slice : Int) : Nat → Nat → S → List (List Nat)
  | 0, _, _ => []
  | m + 1, now, s => isort (fun a b => decide (a ≤ b)) (chosen2 n now s) :: runs2 n slice m (now + 1) (works slice (come now s) (chosen2 n now s))
theorem chosen2_eq {n : Nat} {now : Int} {s : S} (h : Ord now s) : chosen2 n now s = chosen n now s := by
  unfold chosen2 chosen
  rw [queue_unique h.come_ (isort_perm _ _) (isort_sorted (le_total _) (le_trans _) _)]
theorem ids2_eq (n : Nat) (now : Int) (s : S) : isort (fun a b => decide (a ≤ b)) (chosen n now s) = idsOf n now s := by
  refine List.Perm.eq_of_pairwise (le := fun a b => a ≤ b) (fun a b _ _ hab hba => by omega) ?_ ?_ ((isort_perm _ _).trans (ids_perm n now s).symm)
  · exact (isort_sorted (r := fun a b => decide (a ≤ b)) (fun a b => by simp; omega) (fun a b c h h' => by simp at *; omega) _).imp fun h => by simpa using h
  · exact (ids_sorted n now s).imp fun h => by omega
theorem runs2_eq (n : Nat) (slice : Int) : ∀ (m now : Nat) {s : S}, Ord now s → runs n slice m now s = runs2 n slice m now s
  | 0, _, _, _ => rfl
  | m + 1, now, s, h => by
    have ht := h.tick_ (n := n) (slice := slice)
    show idsOf n now s :: runs n slice m (now + 1) (tick n slice now s) = isort _ (chosen2 n now s) :: runs2 n slice m (now + 1) (works slice (come now s) (chosen2 n now s))
    rw [chosen2_eq h, ids2_eq, runs2_eq n slice m (now + 1) (s := tick n slice now s) (by simpa using ht)]
    rfl
def ex : List Tin := [(0, 0, 3), (0, 0, 9), (5, 3, 1)]
theorem ex_runs : runs 1 2 7 0 (startS ex) = [[0], [0], [1], [1], [0], [2], [1]] := by
  rw [runs2_eq 1 2 7 0 (start_ord (l := ex) (by decide))]
  decide +kernel
theorem alive14_eq : keep_alive14 = some true := by
  have h : cores_Run 1 2 [(⟨0, 0, 3⟩ : Api_Thread), (⟨0, 0, 9⟩ : Api_Thread), (⟨5, 3, 1⟩ : Api_Thread)] 7 = some ([[0], [0], [1], [1], [0], [2], [1]], 0) := by
    unfold cores_Run
    rw [if_pos (by omega)]
    have : runF 1 2 ([(⟨0, 0, 3⟩ : Api_Thread), (⟨0, 0, 9⟩ : Api_Thread), (⟨5, 3, 1⟩ : Api_Thread)].map cp_in) 7 = (runs 1 2 7 0 (startS ex), 0) := by
      unfold runF
      rw [if_neg (by decide), if_neg (by decide)]
      rfl
    rw [this, ex_runs]
    rfl
  unfold keep_alive14
  rw [h]
  decide +kernel

/- lists told by a function -/
def F (N : Nat) (f : Nat → Int) : List Int := (List.range N).map f
theorem F_length (N : Nat) (f : Nat → Int) : (F N f).length = N := by simp [F]
theorem F_getD {N : Nat} {f : Nat → Int} {k : Nat} (h : k < N) : (F N f).getD k 0 = f k := by simp [F, List.getD_eq_getElem?_getD, h]
theorem F_set (N : Nat) (f : Nat → Int) (k : Nat) (v : Int) : (F N f).set k v = F N fun j => if j = k then v else f j := by
  refine List.ext_getElem (by simp [F]) fun i h1 h2 => ?_
  simp only [F, List.getElem_set, List.getElem_map, List.getElem_range]
  by_cases h : k = i
  · simp [h]
  · rw [if_neg h, if_neg (fun e => h e.symm)]
theorem F_congr {N : Nat} {f g : Nat → Int} (h : ∀ k, k < N → f k = g k) : F N f = F N g := List.map_congr_left fun k hk => h k (List.mem_range.1 hk)
theorem F_zero (N : Nat) : List.replicate N (0 : Int) = F N fun _ => 0 := by unfold F; rw [List.map_const']; simp
theorem F_mem {N : Nat} {f : Nat → Int} {x : Int} : x ∈ F N f ↔ ∃ k, k < N ∧ f k = x := by simp [F]
abbrev c (l : List Nat) : List Int := l.map fun k : Nat => (k : Int)
theorem c_getD {l : List Nat} {i : Nat} (h : i < l.length) : (c l).getD i 0 = ((l[i] : Nat) : Int) := by simp [List.getD_eq_getElem?_getD, h]
theorem c_mem {l : List Nat} {k : Nat} : ((k : Nat) : Int) ∈ c l ↔ k ∈ l := by
  unfold c
  rw [List.mem_map]
  constructor
  · rintro ⟨a, h, e⟩
    have : a = k := by omega
    rwa [this] at h
  · exact fun h => ⟨k, h, rfl⟩
theorem c_len (l : List Nat) : (c l).length = l.length := by simp

abbrev d0 : Api_Thread := ⟨0, 0, 0⟩
abbrev st (l : List Api_Thread) : S := startS (l.map cp_in)
theorem st_len (l : List Api_Thread) : (st l).ths.length = l.length := by unfold st; rw [start_len]; simp
theorem st_th {l : List Api_Thread} {k : Nat} (h : k < l.length) : th (st l).ths k = ⟨(l.getD k d0).Come, (l.getD k d0).Level, (l.getD k d0).Work, 0, 0⟩ := by
  unfold st
  rw [start_th (by simpa using h)]
  simp [cp_in, List.getD_eq_getElem?_getD, h]

theorem runs_get (n : Nat) (slice : Int) : ∀ (m now : Nat) (s : S) (t : Nat), t < m → (runs n slice m now s)[t]? = some (idsOf n ((now + t : Nat) : Int) (after n slice t now s))
  | 0, _, _, _, h => by omega
  | m + 1, now, s, 0, _ => rfl
  | m + 1, now, s, t + 1, h => by
    have := runs_get n slice m (now + 1) (tick n slice now s) t (by omega)
    show (runs n slice m (now + 1) (tick n slice now s))[t]? = _
    rw [this, show now + 1 + t = now + (t + 1) by omega]
    rfl
theorem after_succ (n : Nat) (slice : Int) (t : Nat) (s : S) : after n slice (t + 1) 0 s = tick n slice t (after n slice t 0 s) := by
  rw [after_add n slice t 1 0 s, Nat.zero_add]; rfl

theorem Run_cases (a0 a1 : Int) (a2 : List Api_Thread) (a3 : Int) (h0 : -9223372036854775808 ≤ a0 ∧ a0 ≤ 9223372036854775807) (h1 : -9223372036854775808 ≤ a1 ∧ a1 ≤ 9223372036854775807) (h3 : -9223372036854775808 ≤ a3 ∧ a3 ≤ 9223372036854775807) :
    (cores_Run a0 a1 a2 a3 = some ([], 2) ∧ (wrongF a0 a1 (a2.map cp_in) = true ∨ a3 < 0 ∨ 2000 < a3)) ∨
    (wrongF a0 a1 (a2.map cp_in) = false ∧ 0 ≤ a3 ∧ a3 ≤ 2000 ∧ cores_Run a0 a1 a2 a3 = some ((runs a0.toNat a1 a3.toNat 0 (st a2)).map c, 0)) := by
  unfold cores_Run
  rw [if_pos (by omega)]
  unfold runF
  by_cases hw : wrongF a0 a1 (a2.map cp_in) = true
  · rw [if_pos hw]; exact .inl ⟨rfl, .inl hw⟩
  · rw [if_neg hw]
    by_cases ht : a3 < 0 ∨ 2000 < a3
    · rw [if_pos ht]; exact .inl ⟨rfl, .inr ht⟩
    · rw [if_neg ht]; exact .inr ⟨by simpa using hw, by omega, by omega, rfl⟩

/- what holds at every time -/
structure G (n : Nat) (slice : Int) (a2 : List Api_Thread) (m : Nat) : Prop where
  n1 : 1 ≤ n
  n8 : n ≤ 8
  m : m ≤ 2000
  len : a2.length ≤ 64
  come : ∀ k, k < a2.length → 0 ≤ (a2.getD k d0).Come
  work : ∀ k, k < a2.length → 0 ≤ (a2.getD k d0).Work ∧ (a2.getD k d0).Work ≤ 10000
abbrev at_ (n : Nat) (slice : Int) (a2 : List Api_Thread) (t : Nat) : S := after n slice t 0 (st a2)
abbrev ids (n : Nat) (slice : Int) (a2 : List Api_Thread) (t : Nat) : List Nat := idsOf n t (at_ n slice a2 t)
theorem G.of {a0 a1 : Int} {a2 : List Api_Thread} {a3 : Int} (h : wrongF a0 a1 (a2.map cp_in) = false) (h3 : a3 ≤ 2000) : G a0.toNat a1 a2 a3.toNat := by
  obtain ⟨h1, h2, _, _, h5, h6⟩ := wrong_ok h
  have hx : ∀ k, k < a2.length → 0 ≤ (a2.getD k d0).Come ∧ 0 ≤ (a2.getD k d0).Work ∧ (a2.getD k d0).Work ≤ 10000 := fun k hk => by
    have := h6 (cp_in (a2.getD k d0)) (List.mem_map.2 ⟨_, by rw [getD_lt _ _ hk]; exact List.getElem_mem hk, rfl⟩)
    unfold cp_in at this
    simp only at this
    omega
  exact ⟨by omega, by omega, by omega, by simpa using h5, fun k hk => (hx k hk).1, fun k hk => (hx k hk).2⟩
section
variable {n : Nat} {slice : Int} {a2 : List Api_Thread} {m : Nat} (g : G n slice a2 m)
theorem at_len (t : Nat) : (at_ n slice a2 t).ths.length = a2.length := by rw [← (after_same n slice t 0 (st a2)).1, st_len]
theorem at_come {t k : Nat} (h : k < a2.length) : (th (at_ n slice a2 t).ths k).come = (a2.getD k d0).Come := by rw [← ((after_same n slice t 0 (st a2)).2 k).1, st_th h]
theorem at_level {t k : Nat} (h : k < a2.length) : (th (at_ n slice a2 t).ths k).level = (a2.getD k d0).Level := by rw [← ((after_same n slice t 0 (st a2)).2 k).2, st_th h]
theorem st_out {k : Nat} (h : a2.length ≤ k) : th (st a2).ths k = default := by
  unfold th
  rw [List.getD_eq_getElem?_getD, List.getElem?_eq_none (by rw [st_len]; omega)]
  rfl
include g in
theorem at_nonneg (t k : Nat) : 0 ≤ (th (at_ n slice a2 t).ths k).work := by
  refine after_nonneg t 0 (fun j => ?_) k
  rcases Nat.lt_or_ge j a2.length with h | h
  · rw [st_th h]; exact (g.work j h).1
  · rw [st_out h]; decide
theorem at_zero : at_ n slice a2 0 = st a2 := rfl
theorem at_succ_work (t j : Nat) : (th (at_ n slice a2 (t + 1)).ths j).work = if j ∈ ids n slice a2 t then (th (at_ n slice a2 t).ths j).work - 1 else (th (at_ n slice a2 t).ths j).work := by
  have hm : j ∈ ids n slice a2 t ↔ j ∈ chosen n t (at_ n slice a2 t) := (ids_perm n t _).mem_iff
  unfold at_
  rw [after_succ, tick_work]
  by_cases h : j ∈ ids n slice a2 t
  · rw [if_pos h, if_pos (hm.1 h)]
  · rw [if_neg h, if_neg (fun x => h (hm.2 x))]
include g in
theorem at_le (t k : Nat) (h : k < a2.length) : (th (at_ n slice a2 t).ths k).work ≤ 10000 := by
  induction t with
  | zero => rw [at_zero, st_th h]; exact (g.work k h).2
  | succ t ih => rw [at_succ_work]; split <;> omega
theorem ids_lt {t k : Nat} (h : k ∈ ids n slice a2 t) : k < a2.length := by
  have := (busy n t (at_ n slice a2 t)).2.1 k h
  have := (Go.Cp.mem_ready.1 this).1
  rwa [at_len] at this
theorem ids_nodup (t : Nat) : (ids n slice a2 t).Nodup := (ids_perm n t _).nodup_iff.2 (chosen_nodup n t _)
include g in
theorem ids_len (t : Nat) : (ids n slice a2 t).length ≤ 8 := by rw [(busy n t (at_ n slice a2 t)).1]; have := g.n8; omega
theorem rr_len : ((runs n slice m 0 (st a2)).map c).length = m := by rw [List.length_map, runs_length]
theorem rr_get {t : Nat} (h : t < m) : ((runs n slice m 0 (st a2)).map c).getD (0 + t) [] = c (ids n slice a2 t) := by
  rw [Nat.zero_add, List.getD_eq_getElem?_getD, List.getElem?_map, runs_get n slice m 0 (st a2) t h, Nat.zero_add]
  rfl

/- CoresBusy -/
theorem busy_l3 {t : Nat} (ht : t < m) (K : List Int → Nat → Option Bool) : ∀ (f k : Nat), k ≤ a2.length → a2.length - k < f → a2.length ≤ 64 →
    keep_CoresBusy_l3 a2 t (F a2.length fun j => (th (at_ n slice a2 t).ths j).work) K f (c ((List.range k).filter (isReady t (at_ n slice a2 t).ths))) k = K (c (readyOf t (at_ n slice a2 t).ths)) a2.length
  | 0, k, _, h, _ => by omega
  | f + 1, k, hk, h, hl => by
    have ih := busy_l3 ht K f (k + 1)
    unfold keep_CoresBusy_l3
    rcases Nat.lt_or_ge k a2.length with hlt | hge
    · have hle : ((List.range k).filter (isReady t (at_ n slice a2 t).ths)).length ≤ k := Nat.le_trans (List.length_filter_le _ _) (by simp)
      rw [dec_lt hlt, cond_true, if_pos (fun _ => by rw [F_length]; omega), Nat.zero_add, F_getD hlt]
      have hr : isReady t (at_ n slice a2 t).ths k = (decide (((a2.getD k d0).Come : Int) ≤ ((t : Nat) : Int)) && decide ((th (at_ n slice a2 t).ths k).work > 0)) := by
        unfold isReady; rw [at_come hlt]
      have ihh := ih (by omega) (by omega) hl
      rw [List.range_succ, List.filter_append] at ihh
      rw [← hr]
      cases hb : isReady t (at_ n slice a2 t).ths k with
      | true =>
        rw [cond_true, if_pos (by simp only [c_len, List.length_singleton]; omega)]
        rw [List.filter_cons_of_pos (by exact hb), List.filter_nil] at ihh
        rw [← ihh]; unfold c; rw [List.map_append]; rfl
      | false =>
        rw [cond_false]
        rw [List.filter_cons_of_neg (by simp [hb]), List.filter_nil, List.append_nil] at ihh
        exact ihh
    · have : k = a2.length := by omega
      subst this
      rw [dec_ge (Nat.le_refl _), cond_false]
      unfold readyOf
      rw [at_len]
theorem busy_l5 {t : Nat} {r4 : List (List Int) × Int} {I R : List Nat} (hI : r4.1.getD (0 + t) [] = c I) (hi64 : I.length ≤ 64) (hIl : ∀ k ∈ I, k < a2.length) (hR : ∀ k ∈ R, k < a2.length) {i : Nat} (hi : i < I.length)
    (hlev : ∀ j ∈ R, j ∉ I → (a2.getD j d0).Level ≤ (a2.getD I[i] d0).Level) (K : Nat → Option Bool) : ∀ (f k : Nat), k ≤ R.length → R.length - k < f → keep_CoresBusy_l5 a2 r4 t (c R) i K f k = K R.length
  | 0, k, _, h => by omega
  | f + 1, k, hk, h => by
    have ih := busy_l5 hI hi64 hIl hR hi hlev K f (k + 1)
    unfold keep_CoresBusy_l5
    rw [c_len, hI]
    rcases Nat.lt_or_ge k R.length with hlt | hge
    · rw [dec_lt hlt, cond_true, Nat.zero_add, c_getD hlt, c_getD hi, slices_Contains_int_eq _ _ (by rw [c_len]; omega), Option.bind_some]
      have h1 := hR _ (List.getElem_mem hlt)
      have h2 := hIl _ (List.getElem_mem hi)
      rw [if_pos (fun _ => by omega), if_pos (fun _ => by omega), Int.toNat_natCast, Int.toNat_natCast]
      have : ((!(decide (((R[k] : Nat) : Int) ∈ c I))) && (decide (((a2.getD R[k] d0).Level : Int) > ((a2.getD I[i] d0).Level)))) = false := by
        by_cases hm : R[k] ∈ I
        · rw [decide_eq_true (c_mem.2 hm)]; rfl
        · have := hlev _ (List.getElem_mem hlt) hm
          simp only [Bool.and_eq_false_iff, decide_eq_false_iff_not]
          right; omega
      rw [this, cond_false]
      exact ih (by omega) (by omega)
    · have : k = R.length := by omega
      subst this
      rw [dec_ge (Nat.le_refl _), cond_false]
theorem busy_l4 {t : Nat} {r4 : List (List Int) × Int} {I R : List Nat} (hI : r4.1.getD (0 + t) [] = c I) (hi64 : I.length ≤ 64) (hr64 : R.length ≤ 64) (hRl : ∀ k ∈ R, k < a2.length) (hIR : ∀ k ∈ I, k ∈ R) (hinc : I.Pairwise fun a b => a < b)
    (hlev : ∀ i ∈ I, ∀ j ∈ R, j ∉ I → (a2.getD j d0).Level ≤ (a2.getD i d0).Level) (K : Nat → Option Bool) : ∀ (f k : Nat), k ≤ I.length → I.length - k < f → keep_CoresBusy_l4 a2 r4 t (c R) K f k = K I.length
  | 0, k, _, h => by omega
  | f + 1, k, hk, h => by
    have ih := busy_l4 hI hi64 hr64 hRl hIR hinc hlev K f (k + 1)
    unfold keep_CoresBusy_l4
    rw [hI, c_len]
    rcases Nat.lt_or_ge k I.length with hlt | hge
    · rw [dec_lt hlt, cond_true, c_getD hlt, slices_Contains_int_eq _ _ (by rw [c_len]; omega), Option.bind_some]
      have hm : decide (((I[k] : Nat) : Int) ∈ c R) = true := decide_eq_true (c_mem.2 (hIR _ (List.getElem_mem hlt)))
      rw [hm, wrap_id (x := (k : Int) - 1) (by omega) (by omega)]
      rw [if_pos (by simp only [Bool.not_true, Bool.not_false, Bool.true_and, decide_eq_true_eq]; omega)]
      have h2 : ((decide ((((k : Nat) : Int) : Int) > 0)) && (decide (((c I).getD (Int.toNat (((k : Nat) : Int) - 1)) 0 : Int) ≥ ((I[k] : Nat) : Int)))) = false := by
        rcases Nat.eq_zero_or_pos k with h0 | h0
        · subst h0; rfl
        · rw [show Int.toNat (((k : Nat) : Int) - 1) = k - 1 by omega, c_getD (by omega)]
          have := List.pairwise_iff_getElem.1 hinc (k - 1) k (by omega) hlt (by omega)
          rw [decide_eq_false (p := (((I[k - 1] : Nat) : Int) ≥ ((I[k] : Nat) : Int))) (by omega), Bool.and_false]
      rw [h2]
      simp only [Bool.not_true, Bool.or_false, cond_false]
      rw [busy_l5 hI hi64 (fun k hk => hRl _ (hIR k hk)) hRl hlt (hlev _ (List.getElem_mem hlt)) _ FUEL 0 (by omega) (fuel_gt (by omega))]
      exact ih (by omega) (by omega)
    · have : k = I.length := by omega
      subst this
      rw [dec_ge (Nat.le_refl _), cond_false]
theorem take_mem_succ {I : List Nat} {k : Nat} (h : k < I.length) (j : Nat) : j ∈ I.take (k + 1) ↔ j ∈ I.take k ∨ j = I[k] := by
  rw [List.take_succ_eq_append_getElem h, List.mem_append, List.mem_singleton]
theorem nodup_take {I : List Nat} (hn : I.Nodup) {k : Nat} (h : k < I.length) : I[k] ∉ I.take k := by
  have h1 : (I.take (k + 1)).Nodup := List.Nodup.sublist (List.take_sublist _ _) hn
  rw [List.take_succ_eq_append_getElem h] at h1
  have := List.nodup_append.1 h1
  intro hm
  exact this.2.2 _ hm _ (by simp) rfl
theorem busy_l6 {t : Nat} {r4 : List (List Int) × Int} {I : List Nat} {l14 : List Int} (hI : r4.1.getD (0 + t) [] = c I) (hi64 : I.length ≤ 64) {N : Nat} (hIl : ∀ k ∈ I, k < N) (hn : I.Nodup) {w : Nat → Int} (hw : ∀ k, k < N → 0 ≤ w k ∧ w k ≤ 10000) (K : Nat → List Int → Option Bool) :
    ∀ (f k : Nat), k ≤ I.length → I.length - k < f → keep_CoresBusy_l6 r4 t l14 K f k (F N fun j => if j ∈ I.take k then w j - 1 else w j) = K I.length (F N fun j => if j ∈ I then w j - 1 else w j)
  | 0, k, _, h => by omega
  | f + 1, k, hk, h => by
    have ih := busy_l6 (l14 := l14) hI hi64 hIl hn hw K f (k + 1)
    unfold keep_CoresBusy_l6
    rw [hI, c_len]
    rcases Nat.lt_or_ge k I.length with hlt | hge
    · have hlk := hIl _ (List.getElem_mem hlt)
      rw [dec_lt hlt, cond_true, c_getD hlt, F_length, if_pos (by omega), if_pos (by omega), Int.toNat_natCast, Nat.zero_add, F_getD hlk, if_neg (nodup_take hn hlt), F_set]
      have hwk := hw _ hlk
      rw [wrap_id (by omega) (by omega), ← ih (by omega) (by omega)]
      congr 1
      refine F_congr fun j hj => ?_
      have := take_mem_succ hlt j
      by_cases h1 : j = I[k]
      · rw [if_pos h1, if_pos (this.2 (.inr h1)), h1]
      · rw [if_neg h1]
        by_cases h2 : j ∈ I.take k
        · rw [if_pos h2, if_pos (this.2 (.inl h2))]
        · rw [if_neg h2, if_neg (fun hh => (this.1 hh).elim h2 h1)]
    · have : k = I.length := by omega
      subst this
      rw [dec_ge (Nat.le_refl _), cond_false, List.take_length]
include g in
theorem busy_l2 {a0 a3 : Int} (ha0 : a0 = n) (ha3 : a3 = m) (l9 : List Int) : ∀ (f t : Nat), t ≤ m → m - t < f →
    keep_CoresBusy_l2 a0 a2 a3 ((runs n slice m 0 (st a2)).map c, 0) l9 f t (F a2.length fun j => (th (at_ n slice a2 t).ths j).work) = some true
  | 0, t, _, h => by omega
  | f + 1, t, ht, h => by
    have ih := busy_l2 ha0 ha3 l9 f (t + 1)
    have gl := g.len
    have gm := g.m
    unfold keep_CoresBusy_l2
    rw [rr_len]
    rcases Nat.lt_or_ge t m with hlt | hge
    · have hb := busy n t (at_ n slice a2 t)
      have hil := ids_len g t
      have hR : ∀ k ∈ readyOf t (at_ n slice a2 t).ths, k < a2.length := fun k hk => by have := (Go.Cp.mem_ready.1 hk).1; rwa [at_len] at this
      have hRlen : (readyOf t (at_ n slice a2 t).ths).length ≤ 64 := by
        unfold readyOf
        exact Nat.le_trans (List.length_filter_le _ _) (by rw [List.length_range, at_len]; omega)
      rw [dec_lt hlt, cond_true]
      have h3 := busy_l3 (n := n) (slice := slice) (a2 := a2) (m := m) hlt (fun (l17 : List Int) (k18 : Nat) =>
          bif ((((((((runs n slice m 0 (st a2)).map c, (0 : Int)) : List (List Int) × Int).1.getD (0 + t) []).length : Nat) : Int) : Int) != (if (((l17.length : Nat) : Int) : Int) < a0 then ((l17.length : Nat) : Int) else a0)) then
            some false
          else
            keep_CoresBusy_l4 a2 ((runs n slice m 0 (st a2)).map c, 0) t l17 (fun (k29 : Nat) =>
                keep_CoresBusy_l6 ((runs n slice m 0 (st a2)).map c, 0) t (F a2.length fun j => (th (at_ n slice a2 t).ths j).work) (fun (k66 : Nat) (l67 : List Int) =>
                    keep_CoresBusy_l2 a0 a2 a3 ((runs n slice m 0 (st a2)).map c, 0) l9 f (t + 1) l67
                  ) FUEL 0 (F a2.length fun j => (th (at_ n slice a2 t).ths j).work)
              ) FUEL 0) FUEL 0 (by omega) (fuel_gt (by omega)) gl
      refine h3.trans ?_
      rw [rr_get hlt, c_len, c_len]
      have hlen : (ids n slice a2 t).length = min n (readyOf t (at_ n slice a2 t).ths).length := hb.1
      have : (((((ids n slice a2 t).length : Nat) : Int) : Int) != (if ((((readyOf t (at_ n slice a2 t).ths).length : Nat) : Int) : Int) < a0 then (((readyOf t (at_ n slice a2 t).ths).length : Nat) : Int) else a0)) = false := by
        rw [bne_eq_false_iff_eq, hlen, ha0]
        split <;> omega
      rw [this, cond_false]
      rw [busy_l4 (I := ids n slice a2 t) (rr_get hlt) (by omega) hRlen hR hb.2.1 hb.2.2.1 (fun i hi j hj hn => by
        have := hb.2.2.2 i hi j hj hn
        rwa [at_level (hR j hj), at_level (hR i (hb.2.1 i hi))] at this) _ FUEL 0 (by omega) (fuel_gt (by omega))]
      have h6 := busy_l6 (t := t) (r4 := ((runs n slice m 0 (st a2)).map c, 0)) (I := ids n slice a2 t) (l14 := F a2.length fun j => (th (at_ n slice a2 t).ths j).work) (rr_get hlt) (by omega) (N := a2.length) (fun k hk => ids_lt hk) (ids_nodup t)
        (w := fun j => (th (at_ n slice a2 t).ths j).work) (fun k hk => ⟨at_nonneg g t k, at_le g t k hk⟩) (fun (k66 : Nat) (l67 : List Int) => keep_CoresBusy_l2 a0 a2 a3 ((runs n slice m 0 (st a2)).map c, 0) l9 f (t + 1) l67) FUEL 0 (by omega) (fuel_gt (by omega))
      simp only [List.take_zero, List.not_mem_nil, if_false] at h6
      rw [h6]
      refine Eq.trans ?_ (ih (by omega) (by omega))
      congr 1
      exact F_congr fun j _ => (at_succ_work t j).symm
    · have : t = m := by omega
      subst this
      rw [dec_ge (Nat.le_refl _), cond_false, ha3]
      simp
theorem busy_l1 {a0 a3 : Int} (hl : a2.length ≤ 64) {r4 : List (List Int) × Int} (h2 : ∀ l9, keep_CoresBusy_l2 a0 a2 a3 r4 l9 FUEL 0 (F a2.length fun j => (a2.getD j d0).Work) = some true) : ∀ (f k : Nat), k ≤ a2.length → a2.length - k < f →
    keep_CoresBusy_l1 a0 a2 a3 r4 f k (F a2.length fun j => if j < k then (a2.getD j d0).Work else 0) = some true
  | 0, k, _, h => by omega
  | f + 1, k, hk, h => by
    have ih := busy_l1 hl h2 f (k + 1)
    unfold keep_CoresBusy_l1
    rcases Nat.lt_or_ge k a2.length with hlt | hge
    · rw [dec_lt hlt, cond_true, F_length, if_pos (by omega), Nat.zero_add, F_set]
      refine Eq.trans ?_ (ih (by omega) (by omega))
      congr 1
      refine F_congr fun j _ => ?_
      by_cases h1 : j = k
      · rw [if_pos h1, if_pos (by omega), h1]
      · rw [if_neg h1]
        by_cases h2 : j < k
        · rw [if_pos h2, if_pos (by omega)]
        · rw [if_neg h2, if_neg (by omega)]
    · have : k = a2.length := by omega
      subst this
      rw [dec_ge (Nat.le_refl _), cond_false]
      have : (F a2.length fun j => if j < a2.length then (a2.getD j d0).Work else 0) = F a2.length fun j => (a2.getD j d0).Work := F_congr fun j hj => by rw [if_pos hj]
      rw [this]
      exact h2 _
end
theorem CoresBusy_true (a0 a1 : Int) (a2 : List Api_Thread) (a3 : Int) (h0 : -9223372036854775808 ≤ a0 ∧ a0 ≤ 9223372036854775807) (h1 : -9223372036854775808 ≤ a1 ∧ a1 ≤ 9223372036854775807) (h2 : a2.length * 24 ≤ 140737488351232 ∧ ∀ y ∈ a2, Ok_Api_Thread y) (h3 : -9223372036854775808 ≤ a3 ∧ a3 ≤ 9223372036854775807) :
    keep_CoresBusy a0 a1 a2 a3 = some true := by
  unfold keep_CoresBusy
  rw [alive14_eq, Option.bind_some, Bool.not_true, cond_false]
  rcases Run_cases a0 a1 a2 a3 h0 h1 h3 with ⟨h, _⟩ | ⟨hw, h4, h5, h⟩
  · rw [h]; rfl
  · have g := G.of hw h5
    have gl := g.len
    have hn := (wrong_ok hw).1
    rw [h, Option.bind_some]
    simp only [bne_self_eq_false, cond_false]
    rw [if_pos (by omega), F_zero]
    refine Eq.trans ?_ (busy_l1 (a0 := a0) (a3 := a3) (r4 := ((runs a0.toNat a1 a3.toNat 0 (st a2)).map c, 0)) gl (fun l9 => ?_) FUEL 0 (by omega) (fuel_gt (by omega)))
    · simp
    · refine Eq.trans ?_ (busy_l2 g (a0 := a0) (a3 := a3) (by omega) (by omega) l9 FUEL 0 (by omega) (fuel_gt (by omega)))
      congr 1
      exact F_congr fun j hj => by rw [at_zero, st_th hj]

/- CoresDone -/
section
variable {n : Nat} {slice : Int} {a2 : List Api_Thread} {m : Nat} (g : G n slice a2 m)
/-- how much one has done -/
abbrev did (n : Nat) (slice : Int) (a2 : List Api_Thread) (t j : Nat) : Int := (th (st a2).ths j).work - (th (at_ n slice a2 t).ths j).work
theorem did_succ (t j : Nat) : did n slice a2 (t + 1) j = if j ∈ ids n slice a2 t then did n slice a2 t j + 1 else did n slice a2 t j := by
  unfold did
  rw [at_succ_work]
  split <;> omega
theorem did_zero (j : Nat) : did n slice a2 0 j = 0 := by unfold did; rw [at_zero]; omega
include g in
theorem did_le (t j : Nat) (h : j < a2.length) : 0 ≤ did n slice a2 t j ∧ did n slice a2 t j ≤ 10000 := by
  have h1 := at_nonneg g t j
  have h2 : (th (st a2).ths j).work ≤ 10000 := at_le g 0 j h
  have h3 := after_le' (n := n) (slice := slice) (a2 := a2) t j
  unfold did; omega
where
  after_le' {n : Nat} {slice : Int} {a2 : List Api_Thread} (t j : Nat) : (th (at_ n slice a2 t).ths j).work ≤ (th (st a2).ths j).work := by
    induction t with
    | zero => exact Int.le_refl _
    | succ t ih => rw [at_succ_work]; split <;> omega

theorem done_l4 {t : Nat} {r : List (List Int) × Int} {I : List Nat} {l27 : List Int} (hI : r.1.getD (0 + t) [] = c I) (hi64 : I.length ≤ 64) (hIl : ∀ k ∈ I, k < a2.length) (hn : I.Nodup) {w : Nat → Int} (hw : ∀ k, k < a2.length → 0 ≤ w k ∧ w k ≤ 10000) (K : Nat → List Int → Option Bool) :
    ∀ (f k : Nat), k ≤ I.length → I.length - k < f → keep_CoresDone_l4 a2 r t l27 K f k (F a2.length fun j => if j ∈ I.take k then w j + 1 else w j) = K I.length (F a2.length fun j => if j ∈ I then w j + 1 else w j)
  | 0, k, _, h => by omega
  | f + 1, k, hk, h => by
    have ih := done_l4 (l27 := l27) hI hi64 hIl hn hw K f (k + 1)
    unfold keep_CoresDone_l4
    rw [hI, c_len]
    rcases Nat.lt_or_ge k I.length with hlt | hge
    · have hlk := hIl _ (List.getElem_mem hlt)
      have hb : ((decide ((((I[k] : Nat) : Int) : Int) < 0)) || (decide ((((I[k] : Nat) : Int) : Int) ≥ ((a2.length : Nat) : Int)))) = false := by simp; omega
      rw [dec_lt hlt, cond_true, c_getD hlt, hb, cond_false, F_length, if_pos (by omega), if_pos (by omega), Int.toNat_natCast, Nat.zero_add, F_getD hlk, if_neg (nodup_take hn hlt), F_set]
      have hwk := hw _ hlk
      rw [wrap_id (by omega) (by omega), ← ih (by omega) (by omega)]
      congr 1
      refine F_congr fun j hj => ?_
      have := take_mem_succ hlt j
      by_cases h1 : j = I[k]
      · rw [if_pos h1, if_pos (this.2 (.inr h1)), h1]
      · rw [if_neg h1]
        by_cases h2 : j ∈ I.take k
        · rw [if_pos h2, if_pos (this.2 (.inl h2))]
        · rw [if_neg h2, if_neg (fun hh => (this.1 hh).elim h2 h1)]
    · have : k = I.length := by omega
      subst this
      rw [dec_ge (Nat.le_refl _), cond_false, List.take_length]
include g in
theorem done_l3 (hend : keep_CoresDone_l5 a2 (F a2.length (did n slice a2 m)) FUEL 0 = some true) : ∀ (f t : Nat), t ≤ m → m - t < f →
    keep_CoresDone_l3 a2 ((runs n slice m 0 (st a2)).map c, 0) f t (F a2.length (did n slice a2 t)) = some true
  | 0, t, _, h => by omega
  | f + 1, t, ht, h => by
    have ih := done_l3 hend f (t + 1)
    have gl := g.len
    have gm := g.m
    unfold keep_CoresDone_l3
    rw [rr_len]
    rcases Nat.lt_or_ge t m with hlt | hge
    · have hil := ids_len g t
      rw [dec_lt hlt, cond_true]
      have h4 := done_l4 (a2 := a2) (t := t) (r := ((runs n slice m 0 (st a2)).map c, 0)) (I := ids n slice a2 t) (l27 := F a2.length (did n slice a2 t)) (rr_get hlt) (by omega) (fun k hk => ids_lt hk) (ids_nodup t)
        (w := did n slice a2 t) (fun k hk => did_le g t k hk) (fun (k30 : Nat) (l31 : List Int) => keep_CoresDone_l3 a2 ((runs n slice m 0 (st a2)).map c, 0) f (t + 1) l31) FUEL 0 (by omega) (fuel_gt (by omega))
      simp only [List.take_zero, List.not_mem_nil, if_false] at h4
      refine h4.trans (Eq.trans ?_ (ih (by omega) (by omega)))
      congr 1
      exact F_congr fun j _ => (did_succ t j).symm
    · have : t = m := by omega
      subst this
      rw [dec_ge (Nat.le_refl _), cond_false]
      exact hend
theorem done_l5 {w : Nat → Int} (hw : ∀ k, k < a2.length → w k = (a2.getD k d0).Work) : ∀ (f k : Nat), k ≤ a2.length → a2.length - k < f → keep_CoresDone_l5 a2 (F a2.length w) f k = some true
  | 0, k, _, h => by omega
  | f + 1, k, hk, h => by
    have ih := done_l5 hw f (k + 1)
    unfold keep_CoresDone_l5
    rcases Nat.lt_or_ge k a2.length with hlt | hge
    · rw [dec_lt hlt, cond_true, F_length, if_pos (by omega), Nat.zero_add, F_getD hlt, hw k hlt]
      simp only [bne_self_eq_false, cond_false]
      exact ih (by omega) (by omega)
    · rw [dec_ge hge, cond_false]
end
abbrev sw (a2 : List Api_Thread) (k : Nat) : Int := ((List.range k).map fun j => (a2.getD j d0).Work).sum
theorem sw_succ (a2 : List Api_Thread) (k : Nat) : sw a2 (k + 1) = sw a2 k + (a2.getD k d0).Work := by
  unfold sw; rw [List.range_succ, List.map_append, List.sum_append]; simp
theorem sw_le {a2 : List Api_Thread} : ∀ {k : Nat}, (∀ j, j < k → 0 ≤ (a2.getD j d0).Work ∧ (a2.getD j d0).Work ≤ 30) → 0 ≤ sw a2 k ∧ sw a2 k ≤ 30 * k
  | 0, _ => by simp [sw]
  | k + 1, h => by
    have ih := sw_le (k := k) fun j hj => h j (by omega)
    have := h k (by omega)
    rw [sw_succ]
    push_cast
    omega
section
variable {a0 a1 : Int} {a2 : List Api_Thread} (h0 : -9223372036854775808 ≤ a0 ∧ a0 ≤ 9223372036854775807) (h1 : -9223372036854775808 ≤ a1 ∧ a1 ≤ 9223372036854775807) (h2 : a2.length * 24 ≤ 140737488351232)
include h0 h1 h2
theorem done_l2 {x4 : Int} (hx : 0 ≤ x4 ∧ x4 ≤ 300) (hv : ∀ j, j < a2.length → (0 ≤ (a2.getD j d0).Come ∧ (a2.getD j d0).Come ≤ x4) ∧ 0 ≤ (a2.getD j d0).Work ∧ (a2.getD j d0).Work ≤ 30) : ∀ (f k : Nat), k ≤ a2.length → a2.length - k < f →
    keep_CoresDone_l2 a0 a1 a2 x4 f (x4 + sw a2 k) k = some true
  | 0, k, _, h => by omega
  | f + 1, k, hk, h => by
    have ih := done_l2 hx hv f (k + 1)
    have hs := sw_le (a2 := a2) (k := k) fun j hj => (hv j (by omega)).2
    unfold keep_CoresDone_l2
    rcases Nat.lt_or_ge k a2.length with hlt | hge
    · have : 0 ≤ (a2.getD k (⟨0, 0, 0⟩ : Api_Thread)).Work ∧ (a2.getD k (⟨0, 0, 0⟩ : Api_Thread)).Work ≤ 30 := (hv k hlt).2
      rw [dec_lt hlt, cond_true, wrap_id (by omega) (by omega), show x4 + sw a2 k + (a2.getD k d0).Work = x4 + sw a2 (k + 1) by rw [sw_succ]; omega]
      exact ih (by omega) (by omega)
    · have hke : k = a2.length := by omega
      subst hke
      rw [dec_ge (Nat.le_refl _), cond_false]
      rcases Run_cases a0 a1 a2 (x4 + sw a2 a2.length) h0 h1 (by omega) with ⟨h, _⟩ | ⟨hw, h4, h5, h⟩
      · rw [h]; rfl
      · have g := G.of hw h5
        have gl := g.len
        have hn := g.n1
        rw [h, Option.bind_some]
        simp only [bne_self_eq_false, cond_false]
        rw [if_pos (by omega), F_zero]
        refine Eq.trans ?_ (done_l3 g ?_ FUEL 0 (by omega) (fuel_gt (by have := g.m; omega)))
        · congr 1
          exact F_congr fun j _ => (did_zero j).symm
        · refine done_l5 (fun k hk => ?_) FUEL 0 (by omega) (fuel_gt (by omega))
          have hm : (x4 + sw a2 a2.length).toNat = x4.toNat + (sw a2 a2.length).toNat := by omega
          have hsum : sumW (st a2).ths = sw a2 a2.length := by
            unfold sumW sw
            rw [st_len]
            exact congrArg _ (List.map_congr_left fun j hj => by rw [st_th (List.mem_range.1 hj)])
          have hd := done hn (slice := a1) (s := st a2) (c := x4.toNat) (w := (sw a2 a2.length).toNat) (fun j hj => by
            rw [st_len] at hj
            rw [st_th hj]
            have := (hv j hj).1; simp only; omega) (fun j => at_nonneg g 0 j) (by rw [hsum]; omega) k (by rw [st_len]; exact hk)
          unfold did at_
          rw [hm, hd, st_th hk]
          simp
theorem done_l1 : ∀ (f k : Nat) (x4 : Int), k ≤ a2.length → a2.length - k < f → 0 ≤ x4 ∧ x4 ≤ 300 → (∀ j, j < k → (0 ≤ (a2.getD j d0).Come ∧ (a2.getD j d0).Come ≤ x4) ∧ 0 ≤ (a2.getD j d0).Work ∧ (a2.getD j d0).Work ≤ 30) →
    keep_CoresDone_l1 a0 a1 a2 f x4 k = some true
  | 0, k, _, _, h, _, _ => by omega
  | f + 1, k, x4, hk, h, hx, hv => by
    unfold keep_CoresDone_l1
    rcases Nat.lt_or_ge k a2.length with hlt | hge
    · rw [dec_lt hlt, cond_true]
      cases hb : ((((decide (((a2.getD k (⟨0, 0, 0⟩ : Api_Thread)).Come : Int) < 0)) || (decide (((a2.getD k (⟨0, 0, 0⟩ : Api_Thread)).Work : Int) < 0))) || (decide (((a2.getD k (⟨0, 0, 0⟩ : Api_Thread)).Come : Int) > 300))) || (decide (((a2.getD k (⟨0, 0, 0⟩ : Api_Thread)).Work : Int) > 30))) with
      | true => rfl
      | false =>
        rw [cond_false]
        simp only [Bool.or_eq_false_iff, decide_eq_false_iff_not] at hb
        refine done_l1 f (k + 1) _ (by omega) (by omega) (by split <;> omega) fun j hj => ?_
        by_cases e : j = k
        · subst e
          show (0 ≤ (a2.getD j (⟨0, 0, 0⟩ : Api_Thread)).Come ∧ (a2.getD j (⟨0, 0, 0⟩ : Api_Thread)).Come ≤ _) ∧ 0 ≤ (a2.getD j (⟨0, 0, 0⟩ : Api_Thread)).Work ∧ (a2.getD j (⟨0, 0, 0⟩ : Api_Thread)).Work ≤ 30
          split <;> omega
        · have := hv j (by omega)
          split <;> omega
    · have hke : k = a2.length := by omega
      subst hke
      rw [dec_ge (Nat.le_refl _), cond_false]
      have := done_l2 h0 h1 h2 hx hv FUEL 0 (by omega) (fuel_gt (by omega))
      rwa [show x4 + sw a2 0 = x4 by simp [sw]] at this
end
theorem CoresDone_true (a0 a1 : Int) (a2 : List Api_Thread) (h0 : -9223372036854775808 ≤ a0 ∧ a0 ≤ 9223372036854775807) (h1 : -9223372036854775808 ≤ a1 ∧ a1 ≤ 9223372036854775807) (h2 : a2.length * 24 ≤ 140737488351232 ∧ ∀ y ∈ a2, Ok_Api_Thread y) :
    keep_CoresDone a0 a1 a2 = some true := by
  unfold keep_CoresDone
  rw [alive14_eq, Option.bind_some, Bool.not_true, cond_false]
  exact done_l1 h0 h1 h2.1 FUEL 0 0 (by omega) (fuel_gt (by omega)) (by omega) (fun j hj => by omega)

/- CoresFair -/
theorem rep_eq : ∀ n : Fin 65, slices_Repeat_api_Thread [(⟨0, 0, 10000⟩ : Api_Thread)] (n.val : Int) = some (List.replicate n.val ⟨0, 0, 10000⟩) := by decide +kernel
theorem max_l1_eq (a : List Int) (hl : a.length ≤ 64) : ∀ n (m : Int) (k : Nat), k ≤ a.length → a.length - k < n → m ∈ a → ∃ r, slices_Max_int_l1 a n m (k : Int) = some r ∧ r ∈ a
  | 0, _, k, _, h, _ => by omega
  | n + 1, m, k, h1, h2, h3 => by
    unfold slices_Max_int_l1
    rcases Nat.lt_or_ge k a.length with hlt | hge
    · rw [dec_lt hlt, cond_true, Int.toNat_natCast, getD_lt _ _ hlt, show IntKind.i64.wrap ((k : Int) + 1) = ((k + 1 : Nat) : Int) by rw [wrap_id (by omega) (by omega)]; omega]
      rw [if_pos (show (0 : Int) ≤ (k : Int) ∧ (k : Int) < ((a.length : Nat) : Int) by omega)]
      refine max_l1_eq a hl n _ (k + 1) (by omega) (by omega) ?_
      split
      · exact List.getElem_mem hlt
      · exact h3
    · rw [dec_ge hge, cond_false]
      exact ⟨_, rfl, h3⟩
theorem max_eq (a : List Int) (hl : a.length ≤ 64) (h0 : 0 < a.length) : ∃ r, slices_Max_int a = some r ∧ r ∈ a := by
  unfold slices_Max_int
  rw [show decide ((((a.length : Nat) : Int) : Int) < 1) = false from decide_eq_false (by omega), cond_false, if_pos (by omega)]
  exact max_l1_eq a hl FUEL _ 1 (by omega) (fuel_gt (by omega)) (by rw [getD_lt _ _ h0]; exact List.getElem_mem h0)
theorem min_l1_eq (a : List Int) (hl : a.length ≤ 64) : ∀ n (m : Int) (k : Nat), k ≤ a.length → a.length - k < n → m ∈ a → ∃ r, slices_Min_int_l1 a n m (k : Int) = some r ∧ r ∈ a
  | 0, _, k, _, h, _ => by omega
  | n + 1, m, k, h1, h2, h3 => by
    unfold slices_Min_int_l1
    rcases Nat.lt_or_ge k a.length with hlt | hge
    · rw [dec_lt hlt, cond_true, Int.toNat_natCast, getD_lt _ _ hlt, show IntKind.i64.wrap ((k : Int) + 1) = ((k + 1 : Nat) : Int) by rw [wrap_id (by omega) (by omega)]; omega]
      rw [if_pos (show (0 : Int) ≤ (k : Int) ∧ (k : Int) < ((a.length : Nat) : Int) by omega)]
      refine min_l1_eq a hl n _ (k + 1) (by omega) (by omega) ?_
      split
      · exact List.getElem_mem hlt
      · exact h3
    · rw [dec_ge hge, cond_false]
      exact ⟨_, rfl, h3⟩
theorem min_eq (a : List Int) (hl : a.length ≤ 64) (h0 : 0 < a.length) : ∃ r, slices_Min_int a = some r ∧ r ∈ a := by
  unfold slices_Min_int
  rw [show decide ((((a.length : Nat) : Int) : Int) < 1) = false from decide_eq_false (by omega), cond_false, if_pos (by omega)]
  exact min_l1_eq a hl FUEL _ 1 (by omega) (fuel_gt (by omega)) (by rw [getD_lt _ _ h0]; exact List.getElem_mem h0)
section
variable {n : Nat} {slice : Int} {a2 : List Api_Thread} {m : Nat} (g : G n slice a2 m)
theorem fair_l2 {t : Nat} {r : List (List Int) × Int} {I : List Nat} {l18 : List Int} {N : Nat} (hI : r.1.getD (0 + t) [] = c I) (hi64 : I.length ≤ 64) (hIl : ∀ k ∈ I, k < N) (hn : I.Nodup) {w : Nat → Int} (hw : ∀ k, k < N → 0 ≤ w k ∧ w k ≤ 10000) (K : Nat → List Int → Option Bool) :
    ∀ (f k : Nat), k ≤ I.length → I.length - k < f → keep_CoresFair_l2 (N : Int) r t l18 K f k (F N fun j => if j ∈ I.take k then w j + 1 else w j) = K I.length (F N fun j => if j ∈ I then w j + 1 else w j)
  | 0, k, _, h => by omega
  | f + 1, k, hk, h => by
    have ih := fair_l2 (l18 := l18) hI hi64 hIl hn hw K f (k + 1)
    unfold keep_CoresFair_l2
    rw [hI, c_len]
    rcases Nat.lt_or_ge k I.length with hlt | hge
    · have hlk := hIl _ (List.getElem_mem hlt)
      have hb : ((decide ((((I[k] : Nat) : Int) : Int) < 0)) || (decide ((((I[k] : Nat) : Int) : Int) ≥ (N : Int)))) = false := by simp; omega
      rw [dec_lt hlt, cond_true, c_getD hlt, hb, cond_false, F_length, if_pos (by omega), if_pos (by omega), Int.toNat_natCast, Nat.zero_add, F_getD hlk, if_neg (nodup_take hn hlt), F_set]
      have hwk := hw _ hlk
      rw [wrap_id (by omega) (by omega), ← ih (by omega) (by omega)]
      congr 1
      refine F_congr fun j hj => ?_
      have := take_mem_succ hlt j
      by_cases h1 : j = I[k]
      · rw [if_pos h1, if_pos (this.2 (.inr h1)), h1]
      · rw [if_neg h1]
        by_cases h2 : j ∈ I.take k
        · rw [if_pos h2, if_pos (this.2 (.inl h2))]
        · rw [if_neg h2, if_neg (fun hh => (this.1 hh).elim h2 h1)]
    · have : k = I.length := by omega
      subst this
      rw [dec_ge (Nat.le_refl _), cond_false, List.take_length]
include g in
theorem fair_l1 (hN : 0 < a2.length) (hfair : ∀ i j, i < a2.length → j < a2.length → did n slice a2 m i - did n slice a2 m j ≤ slice) : ∀ (f t : Nat), t ≤ m → m - t < f →
    keep_CoresFair_l1 slice (a2.length : Int) ((runs n slice m 0 (st a2)).map c, 0) f t (F a2.length (did n slice a2 t)) = some true
  | 0, t, _, h => by omega
  | f + 1, t, ht, h => by
    have ih := fair_l1 hN hfair f (t + 1)
    have gl := g.len
    have gm := g.m
    unfold keep_CoresFair_l1
    rw [rr_len]
    rcases Nat.lt_or_ge t m with hlt | hge
    · have hil := ids_len g t
      rw [dec_lt hlt, cond_true]
      have h4 := fair_l2 (t := t) (r := ((runs n slice m 0 (st a2)).map c, 0)) (I := ids n slice a2 t) (l18 := F a2.length (did n slice a2 t)) (N := a2.length) (rr_get hlt) (by omega) (fun k hk => ids_lt hk) (ids_nodup t)
        (w := did n slice a2 t) (fun k hk => did_le g t k hk) (fun (k21 : Nat) (l22 : List Int) => keep_CoresFair_l1 slice (a2.length : Int) ((runs n slice m 0 (st a2)).map c, 0) f (t + 1) l22) FUEL 0 (by omega) (fuel_gt (by omega))
      simp only [List.take_zero, List.not_mem_nil, if_false] at h4
      refine h4.trans (Eq.trans ?_ (ih (by omega) (by omega)))
      congr 1
      exact F_congr fun j _ => (did_succ t j).symm
    · have : t = m := by omega
      subst this
      rw [dec_ge (Nat.le_refl _), cond_false]
      obtain ⟨x, hx, hxm⟩ := max_eq (F a2.length (did n slice a2 t)) (by rw [F_length]; omega) (by rw [F_length]; omega)
      obtain ⟨y, hy, hym⟩ := min_eq (F a2.length (did n slice a2 t)) (by rw [F_length]; omega) (by rw [F_length]; omega)
      obtain ⟨i, hi, rfl⟩ := F_mem.1 hxm
      obtain ⟨j, hj, rfl⟩ := F_mem.1 hym
      have hb1 := did_le g t i hi
      have hb2 := did_le g t j hj
      rw [hx, Option.bind_some, hy, Option.bind_some, wrap_id (by omega) (by omega), decide_eq_true (hfair i j hi hj)]
end
theorem CoresFair_true (a0 a1 a2 a3 : Int) (h0 : -9223372036854775808 ≤ a0 ∧ a0 ≤ 9223372036854775807) (h1 : -9223372036854775808 ≤ a1 ∧ a1 ≤ 9223372036854775807) (h2 : -9223372036854775808 ≤ a2 ∧ a2 ≤ 9223372036854775807) (h3 : -9223372036854775808 ≤ a3 ∧ a3 ≤ 9223372036854775807) :
    keep_CoresFair a0 a1 a2 a3 = some true := by
  unfold keep_CoresFair
  rw [alive14_eq, Option.bind_some, Bool.not_true, cond_false]
  cases hb : ((((decide ((a2 : Int) < 1)) || (decide ((a2 : Int) > 64))) || (decide ((a3 : Int) < 0))) || (decide ((a3 : Int) > 2000))) with
  | true => rfl
  | false =>
    rw [cond_false]
    simp only [Bool.or_eq_false_iff, decide_eq_false_iff_not] at hb
    obtain ⟨N, rfl⟩ : ∃ N : Nat, a2 = N := ⟨a2.toNat, by omega⟩
    have hr := rep_eq ⟨N, by omega⟩
    simp only at hr
    rw [hr, Option.bind_some]
    rcases Run_cases a0 a1 (List.replicate N ⟨0, 0, 10000⟩) a3 h0 h1 h3 with ⟨h, _⟩ | ⟨hw, h4, h5, h⟩
    · rw [h]; rfl
    · have g := G.of hw h5
      have gl := g.len
      have hs := (wrong_ok hw).2.2.1
      have hlen : (List.replicate N (⟨0, 0, 10000⟩ : Api_Thread)).length = N := by simp
      rw [h, Option.bind_some]
      simp only [bne_self_eq_false, cond_false]
      rw [if_pos (by omega), F_zero, Int.toNat_natCast]
      have hst : st (List.replicate N (⟨0, 0, 10000⟩ : Api_Thread)) = likes N 10000 := by
        unfold st startS likes; simp [cp_in]
      have hf := fair_l1 g (by rw [hlen]; omega) (fun i j hi hj => by
        rw [hlen] at hi hj
        unfold did at_
        rw [hst, likes_th hi, likes_th hj]
        exact fair hs a3.toNat (W := 10000) (by have := g.m; omega) hi hj) FUEL 0 (by omega) (fuel_gt (by have := g.m; omega))
      rw [hlen] at hf
      refine Eq.trans ?_ hf
      congr 1
      exact F_congr fun j _ => (did_zero j).symm

/- CoresAlone -/
abbrev idl (a2 : List Api_Thread) (a4 : Int) (k : Nat) : List Nat := (List.range k).filter fun j => decide ((a2.getD j d0).Level ≥ a4)
abbrev own_ (a2 : List Api_Thread) (a4 : Int) (k : Nat) : List Api_Thread := (idl a2 a4 k).map fun j => a2.getD j d0
theorem mem_idl {a2 : List Api_Thread} {a4 : Int} {k j : Nat} : j ∈ idl a2 a4 k ↔ j < k ∧ a4 ≤ (a2.getD j d0).Level := by simp [idl]
theorem idl_succ (a2 : List Api_Thread) (a4 : Int) (k : Nat) : idl a2 a4 (k + 1) = if (a2.getD k d0).Level ≥ a4 then idl a2 a4 k ++ [k] else idl a2 a4 k := by
  unfold idl
  rw [List.range_succ, List.filter_append]
  by_cases h : (a2.getD k d0).Level ≥ a4
  · rw [if_pos h, List.filter_cons_of_pos (by simpa using h), List.filter_nil]
  · rw [if_neg h, List.filter_cons_of_neg (by simpa using h), List.filter_nil, List.append_nil]
theorem idl_len (a2 : List Api_Thread) (a4 : Int) (k : Nat) : (idl a2 a4 k).length ≤ k := Nat.le_trans (List.length_filter_le _ _) (by simp)
theorem c_append (x y : List Nat) : c (x ++ y) = c x ++ c y := List.map_append
theorem not_contains (l : List Int) (h : l.length ≤ 140737488355328) (x : Int) : keep_CoresAlone_1 x l = some (!decide (x ∈ l)) := by
  unfold keep_CoresAlone_1
  rw [slices_Contains_int_eq _ _ h, Option.bind_some]
theorem alone_l3 {O J : List Nat} {t : Nat} {r : List (List Int) × Int} (hJ : r.1.getD (0 + t) [] = c J) (hj64 : J.length ≤ 64) (hJl : ∀ k ∈ J, k < O.length) (K : List Int → Nat → Option Bool) : ∀ (f k : Nat), k ≤ J.length → J.length - k < f →
    keep_CoresAlone_l3 (c O) r t K f (c ((J.take k).map fun i => O.getD i 0)) k = K (c (J.map fun i => O.getD i 0)) J.length
  | 0, k, _, h => by omega
  | f + 1, k, hk, h => by
    have ih := alone_l3 hJ hj64 hJl K f (k + 1)
    unfold keep_CoresAlone_l3
    rw [hJ, c_len, c_len]
    rcases Nat.lt_or_ge k J.length with hlt | hge
    · have hlk := hJl _ (List.getElem_mem hlt)
      have hb : ((decide ((((J[k] : Nat) : Int) : Int) < 0)) || (decide ((((J[k] : Nat) : Int) : Int) ≥ ((O.length : Nat) : Int)))) = false := by simp; omega
      rw [dec_lt hlt, cond_true, c_getD hlt, hb, cond_false, if_pos (by omega), if_pos (by simp only [List.length_map, List.length_take, List.length_singleton]; omega), Int.toNat_natCast, Nat.zero_add, c_getD hlk]
      rw [← ih (by omega) (by omega)]
      congr 1
      rw [List.take_succ_eq_append_getElem hlt, List.map_append, c_append]
      simp [List.getD_eq_getElem?_getD, hlk]
    · have : k = J.length := by omega
      subst this
      rw [dec_ge (Nat.le_refl _), cond_false, List.take_length]
section
variable {n : Nat} {slice : Int} {a2 b2 : List Api_Thread} {m : Nat} (g : G n slice a2 m) (gb : G n slice b2 m) {O : List Nat}
include g gb in
theorem alone_l2 (hO : O.length = b2.length) (heq : ∀ t, t < m → (ids n slice a2 t).filter (fun k => decide (k ∈ O)) = (ids n slice b2 t).map fun i => O.getD i 0) : ∀ (f t : Nat), t ≤ m → m - t < f →
    keep_CoresAlone_l2 (c O) ((runs n slice m 0 (st a2)).map c, 0) ((runs n slice m 0 (st b2)).map c, 0) f t = some true
  | 0, t, _, h => by omega
  | f + 1, t, ht, h => by
    have ih := alone_l2 hO heq f (t + 1)
    have gl := gb.len
    unfold keep_CoresAlone_l2
    rw [rr_len, rr_len]
    rcases Nat.lt_or_ge t m with hlt | hge
    · have hil := ids_len g t
      have hil2 := ids_len gb t
      rw [dec_lt hlt, cond_true, if_pos (by omega)]
      have h3 := alone_l3 (O := O) (J := ids n slice b2 t) (t := t) (r := ((runs n slice m 0 (st b2)).map c, 0)) (rr_get hlt) (by omega) (fun k hk => by rw [hO]; exact ids_lt hk)
        (fun (l27 : List Int) (k28 : Nat) =>
          (slices_Clone_int ((((runs n slice m 0 (st a2)).map c, (0 : Int)) : List (List Int) × Int).1.getD (0 + t) [])).bind fun r39 =>
          (slices_DeleteFunc_int_keep_CoresAlone_1_h0 r39 (c O)).bind fun r41 =>
          (slices_Equal_int r41 l27).bind fun r43 =>
          bif (!r43) then
            some false
          else
            keep_CoresAlone_l2 (c O) ((runs n slice m 0 (st a2)).map c, 0) ((runs n slice m 0 (st b2)).map c, 0) f (t + 1)) FUEL 0 (by omega) (fuel_gt (by omega))
      refine h3.trans ?_
      rw [rr_get hlt]
      have hc : slices_Clone_int (c (ids n slice a2 t)) = some (c (ids n slice a2 t)) := by unfold slices_Clone_int; rw [if_pos (by rw [c_len]; omega)]
      rw [hc, Option.bind_some, slices_DeleteFunc_int_keep_CoresAlone_1_h0_eq (c O) (f := fun x => !decide (x ∈ c O)) (not_contains _ (by rw [c_len, hO]; omega)) _ (by rw [c_len]; omega), Option.bind_some]
      have hfil : (c (ids n slice a2 t)).filter (fun x => !(!decide (x ∈ c O))) = c ((ids n slice b2 t).map fun i => O.getD i 0) := by
        rw [← heq t hlt]
        unfold c
        rw [List.filter_map]
        congr 1
        refine List.filter_congr fun k _ => ?_
        simp only [Function.comp, Bool.not_not]
        exact decide_eq_decide.2 c_mem
      rw [hfil, slices_Equal_int_eq _ _ (by simp only [List.length_map]; omega), Option.bind_some]
      simp only [decide_true, Bool.not_true, cond_false]
      exact ih (by omega) (by omega)
    · rw [dec_ge hge, cond_false]
end
theorem alone_end {a0 a1 : Int} {a2 : List Api_Thread} {a3 a4 : Int} (h0 : -9223372036854775808 ≤ a0 ∧ a0 ≤ 9223372036854775807) (h1 : -9223372036854775808 ≤ a1 ∧ a1 ≤ 9223372036854775807) (h3 : -9223372036854775808 ≤ a3 ∧ a3 ≤ 9223372036854775807) :
    ((cores_Run a0 a1 a2 a3).bind fun r12 =>
      (cores_Run a0 a1 (own_ a2 a4 a2.length) a3).bind fun r14 =>
      bif ((((r12.2 : Int) != 0) || ((r14.2 : Int) != 0)) || ((((r12.1.length : Nat) : Int) : Int) != ((r14.1.length : Nat) : Int))) then
        some ((r12.2 : Int) != 0)
      else
        keep_CoresAlone_l2 (c (idl a2 a4 a2.length)) r12 r14 FUEL 0) = some true := by
  rcases Run_cases a0 a1 a2 a3 h0 h1 h3 with ⟨h, _⟩ | ⟨hw, h4, h5, h⟩
  · rw [h, Option.bind_some]
    rcases Run_cases a0 a1 (own_ a2 a4 a2.length) a3 h0 h1 h3 with ⟨h', _⟩ | ⟨_, _, _, h'⟩ <;> rw [h'] <;> rfl
  · have hok := wrong_ok hw
    have hle := idl_len a2 a4 a2.length
    rcases Run_cases a0 a1 (own_ a2 a4 a2.length) a3 h0 h1 h3 with ⟨h', hx⟩ | ⟨hw', _, _, h'⟩
    · exfalso
      rcases hx with hx | hx
      · have : wrongF a0 a1 ((own_ a2 a4 a2.length).map cp_in) = false := by
          unfold wrongF at hw ⊢
          simp only [Bool.or_eq_false_iff, decide_eq_false_iff_not, List.length_map] at hw ⊢
          refine ⟨⟨hw.1.1, by omega⟩, ?_⟩
          rw [List.any_eq_false]
          intro y hy
          obtain ⟨z, hz, rfl⟩ := List.mem_map.1 hy
          obtain ⟨j, hj, rfl⟩ := List.mem_map.1 hz
          have hjl := (mem_idl.1 hj).1
          have := List.any_eq_false.1 hw.2 (cp_in (a2.getD j d0)) (List.mem_map.2 ⟨_, by rw [getD_lt _ _ hjl]; exact List.getElem_mem hjl, rfl⟩)
          exact this
        rw [this] at hx; cases hx
      · omega
    · have g := G.of hw h5
      have gb := G.of hw' h5
      have gl := g.len
      rw [h, Option.bind_some, h', Option.bind_some]
      simp only [rr_len, bne_self_eq_false, Bool.or_self, cond_false]
      refine alone_l2 g gb (by simp) (fun t ht => ?_) FUEL 0 (by omega) (fuel_gt (by have := g.m; omega))
      have hiso : Iso 0 (idl a2 a4 a2.length) (st a2) (st (own_ a2 a4 a2.length)) := by
        have hget : ∀ i k, (idl a2 a4 a2.length)[i]? = some k → i < (own_ a2 a4 a2.length).length ∧ k < a2.length ∧ (own_ a2 a4 a2.length).getD i d0 = a2.getD k d0 := fun i k hik => by
          have hl := idx_lt hik
          have hm := (mem_idl.1 (List.mem_of_getElem? hik)).1
          refine ⟨by simpa using hl, hm, ?_⟩
          unfold own_
          rw [List.getD_eq_getElem?_getD, List.getElem?_map, hik]
          rfl
        have hcome : ∀ t ∈ a2.map cp_in, 0 ≤ t.1 := fun t ht => (hok.2.2.2.2.2 t ht).1
        refine ⟨by rw [st_len]; simp, List.Pairwise.sublist List.filter_sublist List.pairwise_lt_range, fun k hk => by rw [st_len]; exact (mem_idl.1 hk).1, fun i k hik => ?_, fun i j k m' hik hjm hc _ => ?_, start_ord hcome, start_ord fun t ht => ?_⟩
        · obtain ⟨e1, e2, e3⟩ := hget i k hik
          rw [st_th e1, st_th e2, e3]
          exact ⟨rfl, rfl, rfl, rfl⟩
        · obtain ⟨e1, e2, e3⟩ := hget i k hik
          rw [st_th e2] at hc
          have := g.come k e2
          simp only at hc
          omega
        · obtain ⟨z, hz, rfl⟩ := List.mem_map.1 ht
          obtain ⟨j, hj, rfl⟩ := List.mem_map.1 hz
          exact g.come j (mem_idl.1 hj).1
      have hr := runs_own (n := a0.toNat) (slice := a1) (L := a4) a3.toNat 0 (s := st a2) (s' := st (own_ a2 a4 a2.length)) hiso (fun k => by
        rw [mem_idl, st_len]
        constructor
        · rintro ⟨x, y⟩; exact ⟨x, by rw [st_th x]; exact y⟩
        · rintro ⟨x, y⟩; exact ⟨x, by rw [st_th x] at y; exact y⟩)
      have hr := congrArg (fun l => l[t]?) hr
      simp only [List.getElem?_map] at hr
      rw [runs_get _ _ _ _ _ _ ht, runs_get _ _ _ _ _ _ ht, Nat.zero_add] at hr
      simpa using hr
theorem CoresAlone_l1 {a0 a1 : Int} {a2 : List Api_Thread} {a3 a4 : Int} (h2 : a2.length * 24 ≤ 140737488351232) (h0 : -9223372036854775808 ≤ a0 ∧ a0 ≤ 9223372036854775807) (h1 : -9223372036854775808 ≤ a1 ∧ a1 ≤ 9223372036854775807) (h3 : -9223372036854775808 ≤ a3 ∧ a3 ≤ 9223372036854775807) : ∀ (f k : Nat), k ≤ a2.length → a2.length - k < f →
    keep_CoresAlone_l1 a0 a1 a2 a3 a4 f (own_ a2 a4 k) k (c (idl a2 a4 k)) = some true
  | 0, k, _, h => by omega
  | f + 1, k, hk, h => by
    have ih := CoresAlone_l1 (a3 := a3) (a4 := a4) h2 h0 h1 h3 f (k + 1)
    have hle := idl_len a2 a4 k
    unfold keep_CoresAlone_l1
    rcases Nat.lt_or_ge k a2.length with hlt | hge
    · rw [dec_lt hlt, cond_true]
      by_cases hl : (a2.getD k d0).Level ≥ a4
      · rw [decide_eq_true hl, cond_true, if_pos (by simp only [List.length_map, List.length_singleton]; omega), if_pos (by simp only [List.length_map, List.length_singleton]; omega)]
        have hs := idl_succ a2 a4 k
        rw [if_pos hl] at hs
        refine Eq.trans ?_ (ih (by omega) (by omega))
        unfold own_
        rw [hs, List.map_append, c_append]
        rfl
      · rw [decide_eq_false hl, cond_false]
        have hs := idl_succ a2 a4 k
        rw [if_neg hl] at hs
        refine Eq.trans ?_ (ih (by omega) (by omega))
        unfold own_
        rw [hs]
    · have hke : k = a2.length := by omega
      subst hke
      rw [dec_ge (Nat.le_refl _), cond_false]
      exact alone_end h0 h1 h3
theorem CoresAlone_true (a0 a1 : Int) (a2 : List Api_Thread) (a3 a4 : Int) (h0 : -9223372036854775808 ≤ a0 ∧ a0 ≤ 9223372036854775807) (h1 : -9223372036854775808 ≤ a1 ∧ a1 ≤ 9223372036854775807) (h2 : a2.length * 24 ≤ 140737488351232 ∧ ∀ y ∈ a2, Ok_Api_Thread y) (h3 : -9223372036854775808 ≤ a3 ∧ a3 ≤ 9223372036854775807) (h4 : -9223372036854775808 ≤ a4 ∧ a4 ≤ 9223372036854775807) :
    keep_CoresAlone a0 a1 a2 a3 a4 = some true := by
  unfold keep_CoresAlone
  rw [alive14_eq, Option.bind_some, Bool.not_true, cond_false]
  exact CoresAlone_l1 h2.1 h0 h1 h3 FUEL 0 (by omega) (fuel_gt (by omega))
end Go.Proofs.Ytdijmangjgepaaa
