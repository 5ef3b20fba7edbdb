/- Plain laws of spread. -/
import Derived.Test.YtnbjjhhgpcpbgaaQZSM
import Derived.Test.YtnbjjhhgpcpbgaaPLib
import Derived.Test.YtnbjjhhgpcpbgaaQZSK
import Derived.Test.YtnbjjhhgpcpbgaaSpD
set_option linter.unusedSimpArgs false
set_option linter.unusedVariables false
set_option linter.unnecessarySimpa false
set_option linter.unusedSectionVars false
namespace Go.Proofs.Ytnbjjhhgpcpbgaa
open Go Go.Ab Go.Sp

/- the least, and who has it -/
def mnF (a b : Int) : Int := if b < a then b else a
def mn : List Int → Int
  | [] => 0
  | x :: l => l.foldl mnF x
theorem foldl_mn (l : List Int) : ∀ x, l.foldl mnF x ≤ x ∧ (∀ y ∈ l, l.foldl mnF x ≤ y) ∧ (l.foldl mnF x = x ∨ l.foldl mnF x ∈ l) := by
  induction l with
  | nil => intro x; simp
  | cons y l ih =>
    intro x
    obtain ⟨h1, h2, h3⟩ := ih (mnF x y)
    have e : mnF x y ≤ x ∧ mnF x y ≤ y ∧ (mnF x y = x ∨ mnF x y = y) := by unfold mnF; split <;> omega
    refine ⟨by simp only [List.foldl_cons]; omega, fun z hz => ?_, ?_⟩
    · simp only [List.foldl_cons]
      rcases List.mem_cons.1 hz with rfl | hz
      · omega
      · exact h2 z hz
    · simp only [List.foldl_cons, List.mem_cons]
      rcases h3 with h3 | h3
      · rcases e.2.2 with e | e
        · left; rw [h3, e]
        · right; left; rw [h3, e]
      · right; right; exact h3
theorem mn_mem {l : List Int} (h : l ≠ []) : mn l ∈ l ∧ ∀ y ∈ l, mn l ≤ y := by
  cases l with
  | nil => exact absurd rfl h
  | cons x l =>
    obtain ⟨h1, h2, h3⟩ := foldl_mn l x
    refine ⟨?_, fun y hy => ?_⟩
    · show l.foldl mnF x ∈ x :: l
      rcases h3 with h3 | h3
      · rw [h3]; simp
      · exact List.mem_cons_of_mem _ h3
    · rcases List.mem_cons.1 hy with rfl | hy
      · exact h1
      · exact h2 y hy
def fI (l : List Int) : Nat := l.idxOf (mn l)
theorem fI_least : Least fI := by
  refine ⟨fun l h => ?_, fun l h x hx => ?_⟩
  · exact List.idxOf_lt_length_iff.2 (mn_mem h).1
  · have hlt : fI l < l.length := List.idxOf_lt_length_iff.2 (mn_mem h).1
    have e : l.getD (fI l) 0 = mn l := by
      rw [getD_lt _ _ hlt]
      exact List.getElem_idxOf hlt
    rw [e]
    exact (mn_mem h).2 x hx

theorem min_l1_eq (a : List Int) (hl : a.length ≤ 1000000) : ∀ n (m : Int) (k : Nat), k ≤ a.length → a.length - k < n → slices_Min_int_l1 a n m (k : Int) = some ((a.drop k).foldl mnF m)
  | 0, _, k, _, h => by omega
  | n + 1, m, k, h1, h2 => by
    unfold slices_Min_int_l1
    rcases Nat.lt_or_ge k a.length with hlt | hge
    · rw [dec_lt hlt, cond_true, Int.toNat_natCast, getD_lt _ _ hlt, show IntKind.i64.wrap ((k : Int) + 1) = ((k + 1 : Nat) : Int) by rw [wrap_id (by omega) (by omega)]; omega]
      rw [if_pos (show (0 : Int) ≤ (k : Int) ∧ (k : Int) < ((a.length : Nat) : Int) by omega), min_l1_eq a hl n _ (k + 1) (by omega) (by omega), List.drop_eq_getElem_cons hlt]
      rfl
    · rw [dec_ge hge, cond_false, List.drop_of_length_le hge]; rfl
theorem min_eq (a : List Int) (hl : a.length ≤ 1000000) (h0 : 0 < a.length) : slices_Min_int a = some (mn a) := by
  unfold slices_Min_int
  rw [show decide ((((a.length : Nat) : Int) : Int) < 1) = false from decide_eq_false (by omega), cond_false, if_pos (by omega)]
  have := min_l1_eq a hl FUEL (a.getD 0 0) 1 (by omega) (fuel_gt (by omega))
  rw [show ((1 : Nat) : Int) = 1 from rfl] at this
  rw [this, getD_lt _ _ h0]
  cases a with
  | nil => simp at h0
  | cons x l => rfl
theorem idle_eq (a : List Int) (hl : a.length ≤ 1000000) (h0 : 0 < a.length) : spread_idle a = some ((fI a : Nat) : Int) := by
  unfold spread_idle
  have hne : a ≠ [] := by intro e; rw [e] at h0; simp at h0
  rw [min_eq a hl h0, Option.bind_some, slices_Index_int_eq a _ (by omega), Option.bind_some, if_pos (mn_mem hne).1]
  rfl
theorem max_l1_eq (a : List Int) (hl : a.length ≤ 1000000) : ∀ n (m : Int) (k : Nat), k ≤ a.length → a.length - k < n → m ∈ a → (∀ y ∈ a.take k, y ≤ m) → ∃ r, slices_Max_int_l1 a n m (k : Int) = some r ∧ r ∈ a ∧ ∀ y ∈ a, y ≤ r
  | 0, _, k, _, h, _, _ => by omega
  | n + 1, m, k, h1, h2, h3, h4 => by
    unfold slices_Max_int_l1
    rcases Nat.lt_or_ge k a.length with hlt | hge
    · rw [dec_lt hlt, cond_true, Int.toNat_natCast, getD_lt _ _ hlt, show IntKind.i64.wrap ((k : Int) + 1) = ((k + 1 : Nat) : Int) by rw [wrap_id (by omega) (by omega)]; omega]
      rw [if_pos (show (0 : Int) ≤ (k : Int) ∧ (k : Int) < ((a.length : Nat) : Int) by omega)]
      refine max_l1_eq a hl n _ (k + 1) (by omega) (by omega) ?_ fun y hy => ?_
      · split
        · exact List.getElem_mem hlt
        · exact h3
      · rw [List.take_succ_eq_append_getElem hlt] at hy
        rcases List.mem_append.1 hy with hy | hy
        · have := h4 y hy; split <;> omega
        · rw [List.mem_singleton.1 hy]; split <;> omega
    · rw [dec_ge hge, cond_false]
      rw [List.take_of_length_le hge] at h4
      exact ⟨_, rfl, h3, h4⟩
theorem max_eq (a : List Int) (hl : a.length ≤ 1000000) (h0 : 0 < a.length) : ∃ r, slices_Max_int a = some r ∧ r ∈ a ∧ ∀ y ∈ a, y ≤ r := by
  unfold slices_Max_int
  rw [show decide ((((a.length : Nat) : Int) : Int) < 1) = false from decide_eq_false (by omega), cond_false, if_pos (by omega)]
  refine max_l1_eq a hl FUEL _ 1 (by omega) (fuel_gt (by omega)) (by rw [getD_lt _ _ h0]; exact List.getElem_mem h0) fun y hy => ?_
  rw [List.take_succ_eq_append_getElem h0] at hy
  rw [getD_lt _ _ h0]
  have : y = a[0] := by simpa using hy
  omega
theorem total_l1_eq (a : List Int) (hl : a.length ≤ 1000000) (hb : ∀ x ∈ a, 0 ≤ x ∧ x ≤ 1099511627776) : ∀ n (x : Int) (k : Nat), k ≤ a.length → a.length - k < n → 0 ≤ x ∧ x ≤ k * 1099511627776 → keep_total_l1 a n x k = some (x + (a.drop k).sum)
  | 0, _, k, _, h, _ => by omega
  | n + 1, x, k, h1, h2, h3 => by
    unfold keep_total_l1
    rcases Nat.lt_or_ge k a.length with hlt | hge
    · have hk := hb _ (List.getElem_mem hlt)
      rw [dec_lt hlt, cond_true, getD_lt _ _ hlt, wrap_id (by omega) (by omega), total_l1_eq a hl hb n _ (k + 1) (by omega) (by omega) (by push_cast; omega), List.drop_eq_getElem_cons hlt, List.sum_cons]
      congr 1; omega
    · rw [dec_ge hge, cond_false, List.drop_of_length_le hge]; simp
theorem total_eq (a : List Int) (hl : a.length ≤ 1000000) (hb : ∀ x ∈ a, 0 ≤ x ∧ x ≤ 1099511627776) : keep_total a = some a.sum := by
  unfold keep_total
  rw [total_l1_eq a hl hb FUEL 0 0 (by omega) (fuel_gt (by omega)) (by omega)]
  simp

theorem wrong_eq (ws : List Int) (m : Int) (hl : ws.length ≤ 140737488355328) : spread_Wrong ws m = some (if wrongS ws m = true then 2 else 0) := by
  unfold spread_Wrong wrongS
  have h := slices_ContainsFunc_int_spread_Wrong_1_eq (f := badW) (fun x => rfl) ws hl
  have e : decide ((((ws.length : Nat) : Int) : Int) > 400) = decide (400 < ws.length) := decide_eq_decide.2 (by omega)
  rw [h, e]
  cases decide (m < 1) <;> cases decide (m > 8) <;> cases decide (400 < ws.length) <;> cases ws.any badW <;> rfl

/- lists told by a function -/
def F (N : Nat) (f : Nat → Int) : List Int := (List.range N).map f
theorem F_length (N : Nat) (f : Nat → Int) : (F N f).length = N := by simp [F]
theorem F_set (N : Nat) (f : Nat → Int) (k : Nat) (v : Int) : (F N f).set k v = F N fun j => if j = k then v else f j := by
  refine List.ext_getElem (by simp [F]) fun i h1 h2 => ?_
  simp only [F, List.getElem_set, List.getElem_map, List.getElem_range]
  by_cases h : k = i
  · simp [h]
  · rw [if_neg h, if_neg (fun e => h e.symm)]
theorem F_congr {N : Nat} {f g : Nat → Int} (h : ∀ k, k < N → f k = g k) : F N f = F N g := List.map_congr_left fun k hk => h k (List.mem_range.1 hk)
theorem F_zero (N : Nat) : List.replicate N (0 : Int) = F N fun _ => 0 := by unfold F; rw [List.map_const']; simp
theorem inOrder_l1_eq (N : Nat) (hN : N ≤ 1000000) : ∀ n (k : Nat), k ≤ N → N - k < n → spread_inOrder_l1 (N : Int) n k (F N fun j => if j < k then (j : Int) else 0) = some (F N fun j => (j : Int))
  | 0, k, _, h => by omega
  | n + 1, k, h1, h2 => by
    unfold spread_inOrder_l1
    rw [Int.toNat_natCast]
    rcases Nat.lt_or_ge k N with hlt | hge
    · rw [dec_lt hlt, cond_true, F_length, if_pos (by omega), Nat.zero_add, F_set, ← inOrder_l1_eq N hN n (k + 1) (by omega) (by omega)]
      congr 1
      refine F_congr fun j _ => ?_
      by_cases h : j = k
      · rw [if_pos h, if_pos (by omega), h]
      · rw [if_neg h]
        by_cases h2 : j < k
        · rw [if_pos h2, if_pos (by omega)]
        · rw [if_neg h2, if_neg (by omega)]
    · rw [dec_ge hge, cond_false]
      congr 1
      exact F_congr fun j hj => by rw [if_pos (by omega)]
theorem inOrder_eq (N : Nat) (hN : N ≤ 1000000) : spread_inOrder (N : Int) = some (F N fun j => (j : Int)) := by
  unfold spread_inOrder
  rw [if_pos (by rw [Int.toNat_natCast]; omega), Int.toNat_natCast, ← inOrder_l1_eq N hN FUEL 0 (by omega) (fuel_gt (by omega)), F_zero]
  congr 1

/-- The pieces, in an order. -/
abbrev pc (ws order : List Int) : List Int := order.map fun j => ws.getD j.toNat 0
theorem pc_all (ws : List Int) : pc ws (F ws.length fun j => (j : Int)) = ws := by
  refine List.ext_getElem (by simp [F]) fun i h1 h2 => ?_
  simp [F, List.getD_eq_getElem?_getD, h2]
theorem pc_perm {ws a b : List Int} (h : a.Perm b) : (pc ws a).Perm (pc ws b) := h.map _
abbrev ord (N : Nat) : List Int := F N fun j => (j : Int)
theorem mem_ord {N : Nat} {x : Int} : x ∈ ord N ↔ 0 ≤ x ∧ x < N := by
  unfold ord F
  rw [List.mem_map]
  constructor
  · rintro ⟨a, h, rfl⟩; have := List.mem_range.1 h; omega
  · rintro ⟨h1, h2⟩; exact ⟨x.toNat, List.mem_range.2 (by omega), by omega⟩
theorem ord_nodup (N : Nat) : (ord N).Nodup := by
  unfold ord F
  rw [List.nodup_iff_pairwise_ne, List.pairwise_map]
  exact (List.nodup_iff_pairwise_ne.1 List.nodup_range).imp fun h e => h (by omega)

/-- What one core has been given, of an order. -/
def share (ws C order : List Int) (c : Nat) : Int := (pc ws (order.filter fun j => C.getD j.toNat 0 == (c : Int))).sum
structure Planned (ws : List Int) (m : Nat) (order : List Int) (p : Api_Plan) : Prop where
  most : p.Most = most fI m (pc ws order)
  len : p.Core.length = ws.length
  rng : ∀ j ∈ order, 0 ≤ p.Core.getD j.toNat 0 ∧ p.Core.getD j.toNat 0 < m
  sh : ∀ c, c < m → (sums (gives fI (none_ m) (pc ws order))).getD c 0 = share ws p.Core order c

theorem sums_give {b : List (List Int)} (hb : b ≠ []) (w : Int) : sums (give fI b w) = (sums b).set (fI (sums b)) ((sums b).getD (fI (sums b)) 0 + w) := by
  have hs : sums b ≠ [] := by unfold sums; simpa using hb
  have hlt := fI_least.lt _ hs
  have hlb : fI (sums b) < b.length := by simpa [sums] using hlt
  unfold give
  generalize fI (sums b) = i at hlt hlb
  refine List.ext_getElem? fun k => ?_
  unfold sums
  rw [List.getElem?_map, List.getElem?_modify, List.getElem?_set, List.getElem?_map]
  by_cases e : i = k
  · subst e
    simp [hlb, List.getD_eq_getElem?_getD]
    omega
  · rw [if_neg e]; simp [e]
theorem mx_set {l : List Int} {i : Nat} (hi : i < l.length) {v : Int} (hv : l[i] ≤ v) : mx (l.set i v) = max (mx l) v := by
  induction l generalizing i with
  | nil => simp at hi
  | cons x l ih =>
    cases i with
    | zero =>
      have : x ≤ v := hv
      show max v (mx l) = max (max x (mx l)) v
      omega
    | succ i =>
      have := ih (i := i) (by simpa using hi) hv
      show max x (mx (l.set i v)) = max (max x (mx l)) v
      rw [this]; omega

section
variable {ws : List Int} {m : Nat} (hm : 1 ≤ m) (hm8 : m ≤ 8) (hl : ws.length ≤ 400) (hw : ∀ w ∈ ws, 0 ≤ w ∧ w ≤ 1073741824)
include hm hm8 hl hw
theorem piece_ok {j : Int} (h : 0 ≤ j ∧ j < ws.length) : 0 ≤ ws.getD j.toNat 0 ∧ ws.getD j.toNat 0 ≤ 1073741824 := by
  have : j.toNat < ws.length := by omega
  rw [getD_lt _ _ this]
  exact hw _ (List.getElem_mem this)
theorem gives_ne' (o : List Int) : gives fI (none_ m) o ≠ [] := by intro e; have := gives_length fI o (none_ m); rw [e] at this; simp [none_] at this; omega
theorem sums_len (o : List Int) : (sums (gives fI (none_ m) o)).length = m := by unfold sums; rw [List.length_map, gives_length]; simp [none_]
theorem pcs_ok {order : List Int} (ho : ∀ j ∈ order, 0 ≤ j ∧ j < ws.length) : ∀ x ∈ pc ws order, 0 ≤ x ∧ x ≤ 1073741824 := by
  intro x hx
  obtain ⟨j, hj, rfl⟩ := List.mem_map.1 hx
  exact piece_ok hm hm8 hl hw (ho j hj)
theorem sums_bd {order : List Int} (ho : ∀ j ∈ order, 0 ≤ j ∧ j < ws.length) (hn : order.length ≤ 400) : ∀ x ∈ sums (gives fI (none_ m) (pc ws order)), 0 ≤ x ∧ x ≤ 429496729600 := by
  have hp := pcs_ok hm hm8 hl hw ho
  have hnn : ∀ x ∈ pc ws order, 0 ≤ x := fun x hx => (hp x hx).1
  intro x hx
  refine ⟨sums_nonneg fI_least hm hnn x hx, ?_⟩
  have h1 := mem_le_sum (q := sums (gives fI (none_ m) (pc ws order))) (sums_nonneg fI_least hm hnn) hx
  rw [← sum_flat, sum_perm (gives_perm fI_least hm hnn)] at h1
  have h2 := sum_le_of (ws := pc ws order) (n := 400) (by simp only [List.length_map]; omega) (B := 1073741824) (by omega) fun w hw => (hp w hw).2
  omega

theorem plan_l1_eq {order : List Int} (ho : ∀ j ∈ order, 0 ≤ j ∧ j < ws.length) (hnd : order.Nodup) (hn : order.length ≤ 400) (a1 : Int) : ∀ (n k : Nat) (C : List Int), k ≤ order.length → order.length - k < n →
    Planned ws m (order.take k) ⟨C, most fI m (pc ws (order.take k))⟩ → ∃ p, spread_plan_l1 ws a1 order n k (most fI m (pc ws (order.take k))) C (sums (gives fI (none_ m) (pc ws (order.take k)))) = some p ∧ Planned ws m order p
  | 0, k, _, _, h, _ => by omega
  | n + 1, k, C, h1, h2, hP => by
    unfold spread_plan_l1
    rcases Nat.lt_or_ge k order.length with hlt | hge
    · have hslen := sums_len hm hm8 hl hw (pc ws (order.take k))
      have hsne : sums (gives fI (none_ m) (pc ws (order.take k))) ≠ [] := by intro e; rw [e] at hslen; simp at hslen; omega
      have hj := ho _ (List.getElem_mem hlt)
      have hp := piece_ok hm hm8 hl hw hj
      have hil := fI_least.lt _ hsne
      have hCl : C.length = ws.length := hP.len
      have hbd := sums_bd hm hm8 hl hw (order := order.take k) (fun j hj => ho j (List.mem_of_mem_take hj)) (by simp; omega)
      have hgv : gives fI (none_ m) (pc ws (order.take (k + 1))) = give fI (gives fI (none_ m) (pc ws (order.take k))) (ws.getD (order[k]).toNat 0) := by
        rw [List.take_succ_eq_append_getElem hlt]
        unfold pc
        rw [List.map_append]
        exact gives_snoc _ _ _ _
      have hsg := sums_give (gives_ne' hm hm8 hl hw (pc ws (order.take k))) (ws.getD (order[k]).toNat 0)
      rw [← hgv] at hsg
      have hi : fI (sums (gives fI (none_ m) (pc ws (order.take k)))) < m := by omega
      rw [dec_lt hlt, cond_true, idle_eq _ (by omega) (by omega), Option.bind_some, getD_lt _ _ hlt, hCl, hslen]
      simp only [Int.toNat_natCast, Nat.zero_add]
      have hsl : ∀ i, i < m → (sums (gives fI (none_ m) (pc ws (order.take k)))).getD i 0 = (sums (gives fI (none_ m) (pc ws (order.take k))))[i]! := fun i hi => by simp [List.getD_eq_getElem?_getD, hslen, hi]
      have hgx : 0 ≤ (sums (gives fI (none_ m) (pc ws (order.take k)))).getD (fI (sums (gives fI (none_ m) (pc ws (order.take k))))) 0 ∧ (sums (gives fI (none_ m) (pc ws (order.take k)))).getD (fI (sums (gives fI (none_ m) (pc ws (order.take k))))) 0 ≤ 429496729600 := by
        rw [getD_lt _ _ hil]; exact hbd _ (List.getElem_mem hil)
      rw [wrap_id (x := (sums (gives fI (none_ m) (pc ws (order.take k)))).getD (fI (sums (gives fI (none_ m) (pc ws (order.take k))))) 0 + ws.getD (order[k]).toNat 0) (by omega) (by omega), ← hsg]
      rw [if_pos (by omega), if_pos (by omega), if_pos (by omega), if_pos (by omega), if_pos (by omega)]
      have hmostE : most fI m (pc ws (order.take (k + 1))) = (if (sums (gives fI (none_ m) (pc ws (order.take (k + 1))))).getD (fI (sums (gives fI (none_ m) (pc ws (order.take k))))) 0 > most fI m (pc ws (order.take k)) then (sums (gives fI (none_ m) (pc ws (order.take (k + 1))))).getD (fI (sums (gives fI (none_ m) (pc ws (order.take k))))) 0 else most fI m (pc ws (order.take k))) := by
        unfold most
        rw [hsg]
        rw [mx_set hil (by rw [← getD_lt _ 0 hil]; omega)]
        have : ((sums (gives fI (none_ m) (pc ws (order.take k)))).set (fI (sums (gives fI (none_ m) (pc ws (order.take k))))) ((sums (gives fI (none_ m) (pc ws (order.take k)))).getD (fI (sums (gives fI (none_ m) (pc ws (order.take k))))) 0 + ws.getD (order[k]).toNat 0)).getD (fI (sums (gives fI (none_ m) (pc ws (order.take k))))) 0 = (sums (gives fI (none_ m) (pc ws (order.take k)))).getD (fI (sums (gives fI (none_ m) (pc ws (order.take k))))) 0 + ws.getD (order[k]).toNat 0 := by
          rw [List.getD_eq_getElem?_getD, List.getElem?_set_self hil]; rfl
        rw [this]
        split <;> omega
      rw [← hmostE]
      refine plan_l1_eq ho hnd hn a1 n (k + 1) _ (by omega) (by omega) ⟨rfl, by rw [List.length_set]; exact hCl, fun j hjm => ?_, fun c hc => ?_⟩
      · rw [List.take_succ_eq_append_getElem hlt] at hjm
        show 0 ≤ (C.set (order[k]).toNat _).getD j.toNat 0 ∧ (C.set (order[k]).toNat _).getD j.toNat 0 < (m : Int)
        rw [List.getD_eq_getElem?_getD, List.getElem?_set]
        by_cases e : (order[k]).toNat = j.toNat
        · rw [if_pos e, if_pos (by omega)]
          simp only [Option.getD_some]
          omega
        · rw [if_neg e, ← List.getD_eq_getElem?_getD]
          rcases List.mem_append.1 hjm with h | h
          · exact hP.rng j h
          · rw [List.mem_singleton.1 h] at e; exact absurd rfl e
      · have hsh := hP.sh c hc
        rw [hsg]
        unfold share at hsh ⊢
        have hnk : order[k] ∉ order.take k := by
          have h1 : (order.take (k + 1)).Nodup := List.Nodup.sublist (List.take_sublist _ _) hnd
          rw [List.take_succ_eq_append_getElem hlt] at h1
          intro hmm
          exact (List.nodup_append.1 h1).2.2 _ hmm _ (by simp) rfl
        have hfil : (order.take k).filter (fun j => (C.set (order[k]).toNat ((fI (sums (gives fI (none_ m) (pc ws (order.take k)))) : Nat) : Int)).getD j.toNat 0 == (c : Int)) = (order.take k).filter (fun j => C.getD j.toNat 0 == (c : Int)) := by
          refine List.filter_congr fun j hjm => ?_
          have hj2 := ho j (List.mem_of_mem_take hjm)
          have : (order[k]).toNat ≠ j.toNat := fun e => hnk (by have : order[k] = j := by omega
                                                                rw [this]; exact hjm)
          rw [List.getD_eq_getElem?_getD, List.getElem?_set_ne this, ← List.getD_eq_getElem?_getD]
        have hself : (C.set (order[k]).toNat ((fI (sums (gives fI (none_ m) (pc ws (order.take k)))) : Nat) : Int)).getD (order[k]).toNat 0 = ((fI (sums (gives fI (none_ m) (pc ws (order.take k)))) : Nat) : Int) := by
          rw [List.getD_eq_getElem?_getD, List.getElem?_set_self (by omega)]; rfl
        rw [List.take_succ_eq_append_getElem hlt, List.filter_append, hfil]
        rw [List.getD_eq_getElem?_getD, List.getElem?_set]
        by_cases e : fI (sums (gives fI (none_ m) (pc ws (order.take k)))) = c
        · subst e
          rw [if_pos rfl, if_pos hil, List.filter_cons_of_pos (by rw [hself]; simp), List.filter_nil]
          unfold pc
          rw [List.map_append, List.sum_append, Option.getD_some]
          simp only [List.map_cons, List.map_nil, List.sum_cons, List.sum_nil, Int.add_zero]
          unfold pc at hsh
          rw [← hsh]
        · rw [if_neg e, ← List.getD_eq_getElem?_getD, hsh, List.filter_cons_of_neg (by rw [hself]; intro h; exact e (by have := beq_iff_eq.1 h; omega)), List.filter_nil, List.append_nil]
    · rw [dec_ge hge, cond_false]
      rw [List.take_of_length_le hge] at hP ⊢
      exact ⟨_, rfl, hP⟩
theorem plan_eq {order : List Int} (ho : ∀ j ∈ order, 0 ≤ j ∧ j < ws.length) (hnd : order.Nodup) (hn : order.length ≤ 400) : ∃ p, spread_plan ws (m : Int) order = some p ∧ Planned ws m order p := by
  unfold spread_plan
  rw [if_pos (by omega), if_pos (by rw [Int.toNat_natCast]; omega), Int.toNat_natCast]
  have h0 : sums (none_ m) = List.replicate m 0 := by unfold sums none_; simp
  have hm0 : most fI m (pc ws (order.take 0)) = 0 := by
    unfold most
    rw [List.take_zero]
    show mx (sums (none_ m)) = 0
    have := mx_le (Int.le_refl 0) (l := sums (none_ m)) fun x hx => by rw [h0] at hx; rw [(List.mem_replicate.1 hx).2]; exact Int.le_refl _
    have := mx_nonneg (sums (none_ m))
    omega
  have := plan_l1_eq hm hm8 hl hw ho hnd hn (m : Int) FUEL 0 (List.replicate ws.length 0) (by omega) (fuel_gt (by omega)) ⟨rfl, by simp, fun j h => by simp at h, fun c hc => by
    rw [List.take_zero]
    show (sums (none_ m)).getD c 0 = 0
    rw [h0, List.getD_eq_getElem?_getD, List.getElem?_replicate]
    split <;> rfl⟩
  rw [hm0, List.take_zero] at this
  have e : gives fI (none_ m) (pc ws []) = none_ m := rfl
  rw [e, h0] at this
  exact this
end

/- List, Longest, Best -/
abbrev lo (ws : List Int) : List Int := stabF ws (ord ws.length)
theorem lo_spec (ws : List Int) : (lo ws).Perm (ord ws.length) ∧ (pc ws (lo ws)).Perm ws ∧ (pc ws (lo ws)).Pairwise fun a b => b ≤ a := by
  have h := stabF_spec (ws := ws) (xs := ord ws.length) fun x hx => mem_ord.1 hx
  refine ⟨h.1, ?_, ?_⟩
  · have := pc_perm (ws := ws) h.1
    rwa [pc_all] at this
  · unfold pc
    rw [List.pairwise_map]
    exact h.2
theorem List_cases (ws : List Int) (m : Int) (hl : ws.length ≤ 140737488355328) :
    (wrongS ws m = true ∧ spread_List ws m = some (⟨[], 0⟩, 2)) ∨ ∃ n : Nat, m = n ∧ wrongS ws m = false ∧ ∃ p, spread_List ws m = some (p, 0) ∧ Planned ws n (ord ws.length) p ∧ p.Most = most fI n ws := by
  unfold spread_List
  rw [wrong_eq ws m hl, Option.bind_some]
  cases h : wrongS ws m with
  | true => exact .inl ⟨rfl, rfl⟩
  | false =>
    obtain ⟨h1, h2, h3, h4⟩ := wrongS_ok h
    obtain ⟨n, rfl⟩ : ∃ n : Nat, m = n := ⟨m.toNat, by omega⟩
    obtain ⟨p, hp, hP⟩ := plan_eq (ws := ws) (m := n) (by omega) (by omega) h3 h4 (order := ord ws.length) (fun j hj => mem_ord.1 hj) (ord_nodup _) (by rw [F_length]; omega)
    refine .inr ⟨n, rfl, rfl, p, ?_, hP, by rw [hP.most, pc_all]⟩
    simp only [Bool.false_eq_true, if_false, bne_self_eq_false, cond_false]
    rw [inOrder_eq _ (by omega), Option.bind_some, hp]; rfl
theorem Longest_cases (ws : List Int) (m : Int) (hl : ws.length ≤ 140737488355328) :
    (wrongS ws m = true ∧ spread_Longest ws m = some (⟨[], 0⟩, 2)) ∨ ∃ n : Nat, m = n ∧ wrongS ws m = false ∧ ∃ p, spread_Longest ws m = some (p, 0) ∧ Planned ws n (lo ws) p ∧ p.Most = most fI n (pc ws (lo ws)) := by
  unfold spread_Longest
  rw [wrong_eq ws m hl, Option.bind_some]
  cases h : wrongS ws m with
  | true => exact .inl ⟨rfl, rfl⟩
  | false =>
    obtain ⟨h1, h2, h3, h4⟩ := wrongS_ok h
    obtain ⟨n, rfl⟩ : ∃ n : Nat, m = n := ⟨m.toNat, by omega⟩
    have hlo := lo_spec ws
    have hlen : (lo ws).length = ws.length := by rw [hlo.1.length_eq, F_length]
    obtain ⟨p, hp, hP⟩ := plan_eq (ws := ws) (m := n) (by omega) (by omega) h3 h4 (order := lo ws) (fun j hj => mem_ord.1 (hlo.1.mem_iff.1 hj)) (hlo.1.nodup_iff.2 (ord_nodup _)) (by omega)
    refine .inr ⟨n, rfl, rfl, p, ?_, hP, hP.most⟩
    simp only [Bool.false_eq_true, if_false, bne_self_eq_false, cond_false]
    rw [inOrder_eq _ (by omega), Option.bind_some]
    have hs : slices_SortStable_spread (F ws.length fun j => (j : Int)) ws = some (lo ws) := by
      unfold slices_SortStable_spread
      rw [if_pos ⟨fun x hx => mem_ord.1 hx, fun w hw => ⟨(h4 w hw).1, by have := (h4 w hw).2; omega⟩, by rw [F_length]; omega⟩]
    rw [hs, Option.bind_some, if_pos (by rw [hlen, F_length]), hp]; rfl
theorem Best_eq (ws : List Int) (m : Int) (hm : -9223372036854775808 ≤ m ∧ m ≤ 9223372036854775807) : spread_Best ws m = some (bestF ws m) := by
  unfold spread_Best
  rw [if_pos (by omega)]
theorem Best_cases (ws : List Int) (m : Int) : (bestF ws m).2 ≠ 0 ∧ (bestF ws m).1 = 0 ∨ ∃ n : Nat, m = n ∧ wrongS ws m = false ∧ ws.length ≤ 9 ∧ bestF ws m = (best ws n, 0) := by
  unfold bestF
  cases h : wrongS ws m with
  | true => rw [if_pos rfl]; exact .inl ⟨by decide, rfl⟩
  | false =>
    rw [if_neg (by decide)]
    have := wrongS_ok h
    by_cases h9 : 9 < ws.length
    · rw [if_pos h9]; exact .inl ⟨by decide, rfl⟩
    · rw [if_neg h9]; exact .inr ⟨m.toNat, by omega, rfl, by omega, rfl⟩
theorem alive5_eq : keep_alive5 = some true := by
  have h1 : spread_List [2, 3, 4, 5] 2 = some (⟨[0, 1, 0, 1], 8⟩, 0) := by decide +kernel
  have h3 : ∃ C, spread_Longest [2, 3, 4, 5] 2 = some (⟨C, 7⟩, 0) := by
    rcases Longest_cases [2, 3, 4, 5] 2 (by decide) with ⟨h, _⟩ | ⟨n, hn, _, p, hp, _, hmo⟩
    · exact absurd h (by decide)
    · obtain rfl : n = 2 := by omega
      have hs := lo_spec [2, 3, 4, 5]
      have e : pc [2, 3, 4, 5] (lo [2, 3, 4, 5]) = [5, 4, 3, 2] := sizes_unique (hs.2.1.trans (by decide)) hs.2.2 (by decide)
      rw [e] at hmo
      refine ⟨p.Core, ?_⟩
      rw [hp]
      have : most fI 2 [5, 4, 3, 2] = 7 := by decide +kernel
      rw [this] at hmo
      cases p
      simp only at hmo
      rw [hmo]
  have h5 : spread_Best [3, 3, 2, 2, 2] 2 = some (6, 0) := by
    rw [Best_eq _ _ (by omega)]
    have : bestF [3, 3, 2, 2, 2] 2 = (6, 0) := by decide +kernel
    rw [this]
  obtain ⟨C, h3⟩ := h3
  unfold keep_alive5
  rw [h1, Option.bind_some, h3, Option.bind_some, h5, Option.bind_some]
  have h6 : slices_Equal_int [0, 1, 0, 1] [0, 1, 0, 1] = some true := by decide +kernel
  simp only [beq_self_eq_true, Bool.and_self, cond_true, h6, Option.bind_some]

/- the laws -/
theorem mul_le {a b x y : Int} (ha : 0 ≤ a) (hx : 0 ≤ x) (h1 : a ≤ b) (h2 : x ≤ y) : 0 ≤ a * x ∧ a * x ≤ b * y := ⟨Int.mul_nonneg ha hx, Int.mul_le_mul h1 h2 hx (by omega)⟩
section
variable {a0 : List Int} {a1 : Int} (h0 : a0.length * 8 ≤ 140737488351232 ∧ ∀ y ∈ a0, -9223372036854775808 ≤ y ∧ y ≤ 9223372036854775807) (h1 : -9223372036854775808 ≤ a1 ∧ a1 ≤ 9223372036854775807)
include h0 h1
theorem most_bd {ws : List Int} {n : Nat} (h : wrongS ws (n : Int) = false) {order : List Int} (ho : ∀ j ∈ order, 0 ≤ j ∧ j < ws.length) (hn : order.length ≤ 400) : 0 ≤ most fI n (pc ws order) ∧ most fI n (pc ws order) ≤ 429496729600 := by
  obtain ⟨w1, w2, w3, w4⟩ := wrongS_ok h
  have hp := pcs_ok (ws := ws) (m := n) (by omega) (by omega) w3 w4 ho
  exact sums_bd (by omega) (by omega) w3 w4 ho hn _ (most_mem fI_least (by omega) fun x hx => (hp x hx).1)
theorem SpreadGraham_true' : keep_SpreadGraham a0 a1 = some true := by
  unfold keep_SpreadGraham
  rw [alive5_eq, Option.bind_some, Bool.not_true, cond_false]
  have hl : a0.length ≤ 140737488355328 := by omega
  rcases List_cases a0 a1 hl with ⟨hw, h⟩ | ⟨n, rfl, hw, p, h, hP, hM⟩
  · rw [h, Option.bind_some, wrong_eq _ _ hl, if_pos hw]; rfl
  · obtain ⟨w1, w2, w3, w4⟩ := wrongS_ok hw
    rw [h, Option.bind_some, wrong_eq _ _ hl, if_neg (by rw [hw]; decide), hM]
    have hmb := most_bd h0 h1 hw (order := ord a0.length) (fun j hj => mem_ord.1 hj) (by rw [F_length]; omega)
    rw [pc_all] at hmb
    by_cases he : a0 = []
    · subst he
      have : most fI n [] = 0 := by
        unfold most
        have h0 : sums (none_ n) = List.replicate n 0 := by unfold sums none_; simp
        have := mx_le (Int.le_refl 0) (l := sums (none_ n)) fun x hx => by rw [h0] at hx; rw [(List.mem_replicate.1 hx).2]; exact Int.le_refl _
        have := mx_nonneg (sums (none_ n))
        show mx (sums (none_ n)) = 0
        omega
      rw [this]; rfl
    · have hpos : 0 < a0.length := List.length_pos_iff.2 he
      have hc : ((((0 : Int) : Int) != 0) || ((((a0.length : Nat) : Int) : Int) == 0)) = false := by
        have : ((((a0.length : Nat) : Int) : Int) == 0) = false := by rw [beq_eq_false_iff_ne]; omega
        rw [this]; rfl
      rw [hc, cond_false, total_eq a0 (by omega) fun x hx => ⟨(w4 x hx).1, by have := (w4 x hx).2; omega⟩, Option.bind_some]
      obtain ⟨B, hB, hBm, hBu⟩ := max_eq a0 (by omega) hpos
      have hBb := w4 B hBm
      have hnn : ∀ w ∈ a0, 0 ≤ w := fun w hw => (w4 w hw).1
      have hg := graham_law fI_least (m := n) (by omega) hnn hBu hBb.1
      have hs1 : 0 ≤ a0.sum := sum_nonneg hnn
      have hs2 := sum_le_of (ws := a0) (n := 400) w3 (B := 1073741824) (by omega) fun w hw => (w4 w hw).2
      have m1 := mul_le hmb.1 (show (0 : Int) ≤ n by omega) hmb.2 w2
      have m2 := mul_le (show (0 : Int) ≤ (n : Int) - 1 by omega) hBb.1 (show (n : Int) - 1 ≤ 8 by omega) hBb.2
      rw [hB, Option.bind_some, wrap_id (x := most fI n a0 * n) (by omega) (by omega), wrap_id (x := (n : Int) - 1) (by omega) (by omega), wrap_id (x := ((n : Int) - 1) * B) (by omega) (by omega), wrap_id (x := a0.sum + ((n : Int) - 1) * B) (by omega) (by omega)]
      rw [decide_eq_false (by omega), cond_false, Best_eq _ _ h1, Option.bind_some]
      rcases Best_cases a0 n with ⟨hb, _⟩ | ⟨n', hn', _, h9, hb⟩
      · have : ((bestF a0 (n : Int)).2 != 0) = true := by simpa using hb
        rw [this]; rfl
      · obtain rfl : n' = n := by omega
        rw [hb]
        obtain ⟨b1, b2, b3⟩ := best_ok' (ws := a0) (m := n') (by omega) w4 h9
        have hgb := graham_best fI_least (m := n') (by omega) hnn b1 b3
        have hb4 : best a0 n' ≤ 429496729600 := by
          have := b2 _ (most_part fI_least (by omega) hnn)
          omega
        have m3 := mul_le b3 (show (0 : Int) ≤ 2 * (n' : Int) - 1 by omega) hb4 (show 2 * (n' : Int) - 1 ≤ 16 by omega)
        simp only
        rw [wrap_id (x := 2 * (n' : Int)) (by omega) (by omega), wrap_id (x := 2 * (n' : Int) - 1) (by omega) (by omega), wrap_id (x := best a0 n' * (2 * (n' : Int) - 1)) (by omega) (by omega), decide_eq_true hgb]
        rfl
theorem SpreadThird_true' : keep_SpreadThird a0 a1 = some true := by
  unfold keep_SpreadThird
  rw [alive5_eq, Option.bind_some, Bool.not_true, cond_false]
  have hl : a0.length ≤ 140737488355328 := by omega
  rcases Longest_cases a0 a1 hl with ⟨hw, h⟩ | ⟨n, rfl, hw, p, h, hP, hM⟩
  · rw [h, Option.bind_some, Best_eq _ _ h1, Option.bind_some]; rfl
  · obtain ⟨w1, w2, w3, w4⟩ := wrongS_ok hw
    rw [h, Option.bind_some, Best_eq _ _ h1, Option.bind_some, hM]
    rcases Best_cases a0 n with ⟨hb, _⟩ | ⟨n', hn', _, h9, hb⟩
    · have : ((bestF a0 (n : Int)).2 != 0) = true := by simpa using hb
      rw [this]; rfl
    · obtain rfl : n' = n := by omega
      have hlo := lo_spec a0
      have hloo : ∀ j ∈ lo a0, 0 ≤ j ∧ j < a0.length := fun j hj => mem_ord.1 (hlo.1.mem_iff.1 hj)
      have hmb := most_bd h0 h1 hw hloo (by rw [hlo.1.length_eq, F_length]; omega)
      have hp := pcs_ok (ws := a0) (m := n') (by omega) (by omega) w3 w4 hloo
      have hnn : ∀ x ∈ pc a0 (lo a0), 0 ≤ x := fun x hx => (hp x hx).1
      obtain ⟨b1, b2, b3⟩ := best_ok' (ws := a0) (m := n') (by omega) w4 h9
      have ht := third_law fI_least (m := n') (by omega) hnn hlo.2.2 (Part.perm hlo.2.1.symm b1) b3
      have hb4 : best a0 n' ≤ 429496729600 := by
        have := b2 _ (Part.perm hlo.2.1 (most_part fI_least (by omega) hnn))
        omega
      have m1 := mul_le (show (0 : Int) ≤ 3 * (n' : Int) by omega) hmb.1 (show 3 * (n' : Int) ≤ 24 by omega) hmb.2
      have m2 := mul_le b3 (show (0 : Int) ≤ 4 * (n' : Int) - 1 by omega) hb4 (show 4 * (n' : Int) - 1 ≤ 32 by omega)
      rw [hb]
      simp only
      rw [wrap_id (x := 3 * (n' : Int)) (by omega) (by omega), wrap_id (x := 3 * (n' : Int) * most fI n' (pc a0 (lo a0))) (by omega) (by omega), wrap_id (x := 4 * (n' : Int)) (by omega) (by omega), wrap_id (x := 4 * (n' : Int) - 1) (by omega) (by omega), wrap_id (x := best a0 n' * (4 * (n' : Int) - 1)) (by omega) (by omega), decide_eq_true ht]
      rfl
theorem SpreadLeast_true' : keep_SpreadLeast a0 a1 = some true := by
  unfold keep_SpreadLeast
  rw [alive5_eq, Option.bind_some, Bool.not_true, cond_false]
  have hl : a0.length ≤ 140737488355328 := by omega
  rw [Best_eq _ _ h1, Option.bind_some]
  rcases Best_cases a0 a1 with ⟨hb, hb0⟩ | ⟨n, rfl, hw, h9, hb⟩
  · have : ((bestF a0 a1).2 != 0) = true := by simpa using hb
    rw [this, cond_true, hb0]; rfl
  · obtain ⟨w1, w2, w3, w4⟩ := wrongS_ok hw
    have hnn0 : ∀ w ∈ a0, 0 ≤ w := fun w hw => (w4 w hw).1
    rw [hb]
    simp only [bne_self_eq_false, cond_false]
    rcases List_cases a0 n hl with ⟨hw', _⟩ | ⟨n1, hn1, _, p, h, hP, hM⟩
    · rw [hw] at hw'; cases hw'
    obtain rfl : n1 = n := by omega
    rcases Longest_cases a0 n1 hl with ⟨hw', _⟩ | ⟨n2, hn2, _, q, h', hQ, hM'⟩
    · rw [hw] at hw'; cases hw'
    obtain rfl : n2 = n1 := by omega
    rw [h, Option.bind_some, h', Option.bind_some, hM, hM']
    have hlo := lo_spec a0
    have hloo : ∀ j ∈ lo a0, 0 ≤ j ∧ j < a0.length := fun j hj => mem_ord.1 (hlo.1.mem_iff.1 hj)
    have hp := pcs_ok (ws := a0) (m := n2) (by omega) (by omega) w3 w4 hloo
    have hnn : ∀ x ∈ pc a0 (lo a0), 0 ≤ x := fun x hx => (hp x hx).1
    obtain ⟨b1, b2, b3⟩ := best_ok' (ws := a0) (m := n2) (by omega) w4 h9
    have c1 := b2 _ (most_part fI_least (by omega) hnn0)
    have c2 := b2 _ (Part.perm hlo.2.1 (most_part fI_least (by omega) hnn))
    have c3 := b1.total
    have hmb := most_bd h0 h1 hw (order := ord a0.length) (fun j hj => mem_ord.1 hj) (by rw [F_length]; omega)
    rw [pc_all] at hmb
    have hb4 : best a0 n2 ≤ 429496729600 := by omega
    have m1 := mul_le b3 (show (0 : Int) ≤ (n2 : Int) by omega) hb4 w2
    have hmc : best a0 n2 * (n2 : Int) = n2 * best a0 n2 := Int.mul_comm _ _
    rw [decide_eq_false (p := (best a0 n2 > most fI n2 a0)) (by omega), decide_eq_false (p := (best a0 n2 > most fI n2 (pc a0 (lo a0)))) (by omega)]
    simp only [Bool.or_self, Bool.not_false, cond_true, Bool.true_and]
    rw [total_eq a0 (by omega) fun x hx => ⟨(w4 x hx).1, by have := (w4 x hx).2; omega⟩, Option.bind_some, wrap_id (x := best a0 n2 * (n2 : Int)) (by omega) (by omega), decide_eq_false (p := (best a0 n2 * (n2 : Int) < a0.sum)) (by omega)]
    simp only [Bool.or_self, Bool.not_false, Bool.true_and]
    have hfin : ∀ r25 : Int, (0 < a0.length → r25 ≤ best a0 n2) → (bif (((false || false) || false) || ((decide ((((a0.length : Nat) : Int) : Int) > 0)) && (decide ((best a0 n2 : Int) < r25)))) then some false else (spread_Best a0 (IntKind.i64.wrap ((n2 : Int) + 1))).bind fun r33 => some (((r33.2 : Int) != 0) || (decide ((r33.1 : Int) ≤ best a0 n2)))) = some true := by
      intro r25 hr
      have hc : (((false || false) || false) || ((decide ((((a0.length : Nat) : Int) : Int) > 0)) && (decide ((best a0 n2 : Int) < r25)))) = false := by
        by_cases hp : 0 < a0.length
        · have := hr hp
          rw [decide_eq_false (p := (best a0 n2 < r25)) (by omega), Bool.and_false]; rfl
        · rw [decide_eq_false (p := ((((a0.length : Nat) : Int) : Int) > 0)) (by omega)]; rfl
      rw [hc, cond_false, wrap_id (by omega) (by omega), Best_eq _ _ (by omega), Option.bind_some]
      rcases Best_cases a0 ((n2 : Int) + 1) with ⟨hb, _⟩ | ⟨n', hn', hw2, _, hb⟩
      · have : ((bestF a0 ((n2 : Int) + 1)).2 != 0) = true := by simpa using hb
        rw [this]; rfl
      · obtain rfl : n' = n2 + 1 := by omega
        rw [hb]
        have b5 := best_ok' (ws := a0) (m := n2 + 1) (by omega) w4 h9
        have := b5.2.1 _ (Part.more b3 b1)
        simp only
        rw [decide_eq_true this]; rfl
    by_cases hp0 : 0 < a0.length
    · obtain ⟨B, hB, hBm, _⟩ := max_eq a0 (by omega) hp0
      rw [decide_eq_true (p := ((((a0.length : Nat) : Int) : Int) > 0)) (by omega), cond_true, hB, Option.bind_some]
      have := hfin B fun _ => b1.piece hnn0 B hBm
      rw [decide_eq_true (p := ((((a0.length : Nat) : Int) : Int) > 0)) (by omega)] at this
      simpa using this
    · rw [decide_eq_false (p := ((((a0.length : Nat) : Int) : Int) > 0)) (by omega), cond_false, Option.bind_some]
      have := hfin 0 fun h => absurd h hp0
      rw [decide_eq_false (p := ((((a0.length : Nat) : Int) : Int) > 0)) (by omega)] at this
      simpa using this
end

theorem rev_l1 (a0 : List Int) : ∀ n (i j : Int) (l : List Int), 0 ≤ i → j < l.length → -1 ≤ j → l.length ≤ 1000000 → (j - i).toNat < n → ∃ r, slices_Reverse_int_h0_l1 a0 n i j l = some r ∧ r.Perm l
  | 0, i, j, l, _, _, _, _, h => by omega
  | n + 1, i, j, l, h1, h2, h3, hl, h4 => by
    unfold slices_Reverse_int_h0_l1
    by_cases hlt : i < j
    · rw [decide_eq_true hlt, cond_true, if_pos (by omega), if_pos (by omega), if_pos (by omega), if_pos (by omega), wrap_id (by omega) (by omega), wrap_id (by omega) (by omega)]
      simp only [Nat.zero_add]
      have hi : i.toNat < l.length := by omega
      have hj : j.toNat < l.length := by omega
      rw [getD_lt _ _ hi, getD_lt _ _ hj]
      obtain ⟨r, hr, hp⟩ := rev_l1 a0 n (i + 1) (j - 1) ((l.set i.toNat l[j.toNat]).set j.toNat l[i.toNat]) (by omega) (by simp; omega) (by omega) (by simpa using hl) (by omega)
      exact ⟨r, hr, hp.trans (List.set_set_perm hi hj)⟩
    · rw [decide_eq_false hlt, cond_false]
      exact ⟨l, rfl, List.Perm.refl _⟩
theorem rev_eq (a0 : List Int) (hl : a0.length ≤ 1000000) : ∃ r, slices_Reverse_int_h0 a0 = some r ∧ r.Perm a0 := by
  unfold slices_Reverse_int_h0
  rw [wrap_id (by omega) (by omega)]
  exact rev_l1 a0 FUEL 0 _ a0 (by omega) (by omega) (by omega) hl (by have := fuel_gt (n := 1000000) (by omega); omega)
theorem any_perm {f : Int → Bool} {a b : List Int} (h : a.Perm b) : a.any f = b.any f := by
  rw [Bool.eq_iff_iff, List.any_eq_true, List.any_eq_true]
  exact ⟨fun ⟨x, hx, hf⟩ => ⟨x, h.mem_iff.1 hx, hf⟩, fun ⟨x, hx, hf⟩ => ⟨x, h.mem_iff.2 hx, hf⟩⟩
theorem wrongS_perm {a b : List Int} (h : a.Perm b) (m : Int) : wrongS a m = wrongS b m := by unfold wrongS; rw [any_perm h, h.length_eq]
theorem bestF_perm {a b : List Int} (h : a.Perm b) (m : Int) : bestF a m = bestF b m := by
  unfold bestF
  rw [wrongS_perm h m, h.length_eq]
  cases hw : wrongS b m with
  | true => rfl
  | false =>
    have := wrongS_ok hw
    by_cases h9 : 9 < b.length
    · rw [if_pos h9, if_pos h9]
    · rw [if_neg h9, if_neg h9, best_perm h (by omega) (fun w hw => this.2.2.2 w (h.mem_iff.1 hw)) (by rw [h.length_eq]; omega)]
theorem lo_perm {a b : List Int} (h : a.Perm b) : pc a (lo a) = pc b (lo b) := by
  have ha := lo_spec a
  have hb := lo_spec b
  exact sizes_unique (ha.2.1.trans (h.trans hb.2.1.symm)) ha.2.2 hb.2.2
theorem rev_big (a0 : List Int) (hl : a0.length ≤ 17592186044404) : ∃ r, slices_Reverse_int_h0 a0 = some r ∧ r.Perm a0 := by
  have key : ∀ n (i j : Int) (l : List Int), 0 ≤ i → j < l.length → -1 ≤ j → l.length ≤ 17592186044404 → (j - i).toNat < n → ∃ r, slices_Reverse_int_h0_l1 a0 n i j l = some r ∧ r.Perm l := by
    intro n
    induction n with
    | zero => intro i j l _ _ _ _ h; omega
    | succ n ih =>
      intro i j l h1 h2 h3 hl h4
      unfold slices_Reverse_int_h0_l1
      by_cases hlt : i < j
      · rw [decide_eq_true hlt, cond_true, if_pos (by omega), if_pos (by omega), if_pos (by omega), if_pos (by omega), wrap_id (by omega) (by omega), wrap_id (by omega) (by omega)]
        simp only [Nat.zero_add]
        have hi : i.toNat < l.length := by omega
        have hj : j.toNat < l.length := by omega
        rw [getD_lt _ _ hi, getD_lt _ _ hj]
        obtain ⟨r, hr, hp⟩ := ih (i + 1) (j - 1) ((l.set i.toNat l[j.toNat]).set j.toNat l[i.toNat]) (by omega) (by simp; omega) (by omega) (by simpa using hl) (by omega)
        exact ⟨r, hr, hp.trans (List.set_set_perm hi hj)⟩
      · rw [decide_eq_false hlt, cond_false]
        exact ⟨l, rfl, List.Perm.refl _⟩
  unfold slices_Reverse_int_h0
  rw [wrap_id (by omega) (by omega)]
  exact key FUEL 0 _ a0 (by omega) (by omega) (by omega) hl (by have := fuel_gt (n := 17592186044405) (by omega); omega)
theorem SpreadOrder_true' {a0 : List Int} {a1 : Int} (h0 : a0.length * 8 ≤ 140737488351232 ∧ ∀ y ∈ a0, -9223372036854775808 ≤ y ∧ y ≤ 9223372036854775807) (h1 : -9223372036854775808 ≤ a1 ∧ a1 ≤ 9223372036854775807) : keep_SpreadOrder a0 a1 = some true := by
  unfold keep_SpreadOrder
  rw [alive5_eq, Option.bind_some, Bool.not_true, cond_false]
  have hc : slices_Clone_int a0 = some a0 := by unfold slices_Clone_int; rw [if_pos (by omega)]
  obtain ⟨r, hr, hp⟩ := rev_big a0 (by omega)
  have hl : a0.length ≤ 140737488355328 := by omega
  have hl2 : r.length ≤ 140737488355328 := by rw [hp.length_eq]; omega
  rw [hc, Option.bind_some, hr, Option.bind_some, if_pos hp.length_eq]
  have hb := bestF_perm hp a1
  have hw := wrongS_perm hp a1
  have hend : ∀ p q : Api_Plan × Int, spread_Longest a0 a1 = some p → spread_Longest r a1 = some q → p.2 = q.2 → p.1.Most = q.1.Most → ((spread_Longest a0 a1).bind fun r9 => (spread_Longest r a1).bind fun r11 => (spread_Best a0 a1).bind fun r13 => (spread_Best r a1).bind fun r15 =>
      some (((((r9.2 : Int) == r11.2) && ((r9.1.Most : Int) == r11.1.Most)) && ((r13.2 : Int) == r15.2)) && ((r13.1 : Int) == r15.1))) = some true := by
    intro p q hp hq e1 e2
    rw [hp, Option.bind_some, hq, Option.bind_some, Best_eq _ _ h1, Option.bind_some, Best_eq _ _ h1, Option.bind_some, hb, e1, e2]
    simp
  rcases Longest_cases a0 a1 hl with ⟨w, h⟩ | ⟨n, e, w, p, h, _, hM⟩
  · rcases Longest_cases r a1 hl2 with ⟨w', h'⟩ | ⟨n', e', w', q, h', _, hM'⟩
    · exact hend _ _ h h' rfl rfl
    · rw [hw] at w'; rw [w] at w'; cases w'
  · rcases Longest_cases r a1 hl2 with ⟨w', h'⟩ | ⟨n', e', w', q, h', _, hM'⟩
    · rw [hw] at w'; rw [w] at w'; cases w'
    · refine hend _ _ h h' rfl ?_
      obtain rfl : n' = n := by omega
      rw [hM, hM', lo_perm hp]
theorem SpreadGraham_true (a0 : List Int) (a1 : Int) (h0 : a0.length * 8 ≤ 140737488351232 ∧ ∀ y ∈ a0, -9223372036854775808 ≤ y ∧ y ≤ 9223372036854775807) (h1 : -9223372036854775808 ≤ a1 ∧ a1 ≤ 9223372036854775807) : keep_SpreadGraham a0 a1 = some true := SpreadGraham_true' h0 h1
theorem SpreadThird_true (a0 : List Int) (a1 : Int) (h0 : a0.length * 8 ≤ 140737488351232 ∧ ∀ y ∈ a0, -9223372036854775808 ≤ y ∧ y ≤ 9223372036854775807) (h1 : -9223372036854775808 ≤ a1 ∧ a1 ≤ 9223372036854775807) : keep_SpreadThird a0 a1 = some true := SpreadThird_true' h0 h1
theorem SpreadLeast_true (a0 : List Int) (a1 : Int) (h0 : a0.length * 8 ≤ 140737488351232 ∧ ∀ y ∈ a0, -9223372036854775808 ≤ y ∧ y ≤ 9223372036854775807) (h1 : -9223372036854775808 ≤ a1 ∧ a1 ≤ 9223372036854775807) : keep_SpreadLeast a0 a1 = some true := SpreadLeast_true' h0 h1
theorem SpreadOrder_true (a0 : List Int) (a1 : Int) (h0 : a0.length * 8 ≤ 140737488351232 ∧ ∀ y ∈ a0, -9223372036854775808 ≤ y ∧ y ≤ 9223372036854775807) (h1 : -9223372036854775808 ≤ a1 ∧ a1 ≤ 9223372036854775807) : keep_SpreadOrder a0 a1 = some true := SpreadOrder_true' h0 h1
end Go.Proofs.Ytnbjjhhgpcpbgaa
