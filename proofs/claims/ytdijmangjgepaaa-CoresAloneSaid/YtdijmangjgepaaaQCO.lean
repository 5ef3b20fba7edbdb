/- Cores: the closure of the sort, and the sort. -/
import Derived.WalkKit
import Derived.Deep.QuietTactic
import Derived.BigQuiet
import Derived.StillTailTactics
import Derived.Lib.Hide
import Derived.Test.YtdijmangjgepaaaQCL
import Derived.Test.YtdijmangjgepaaaQCG
set_option linter.unusedVariables false
set_option linter.unusedSimpArgs false
namespace Go.Proofs
open Go.RowKit Go.Cp Go.Sort

def cmpI (a b : Int) : Int := if a < b then -1 else if b < a then 1 else 0

theorem Try.isnan (a : Int) (w : World) : Calls Try.prog 30 #[.int .i64 a] w fun e w' => e = .returned (.bool false) ∧ w' = w := by
  go_enter Try.func30, Try.ntmps30
  go_wp2
  go_ret
  exact ⟨rfl, rfl⟩
theorem Try.compare (a b : Int) (w : World) : Calls Try.prog 23 #[.int .i64 a, .int .i64 b] w fun e w' => e = .returned (.int .i64 (cmpI a b)) ∧ w' = w := by
  unfold cmpI
  rcases Int.lt_trichotomy a b with h | h | h
  · have h2 : ¬ b < a := by omega
    go_enter Try.func23, Try.ntmps23
    go_wp2_with (first | (refine (Try.isnan _ _).mono ?_; rintro e w' ⟨rfl, rfl⟩))
    go_ret
    exact ⟨by simp [h], rfl⟩
  · subst h
    have h2 : ¬ a < a := by omega
    go_enter Try.func23, Try.ntmps23
    go_wp2_with (first | (refine (Try.isnan _ _).mono ?_; rintro e w' ⟨rfl, rfl⟩))
    go_ret
    exact ⟨by simp, rfl⟩
  · have h2 : ¬ a < b := by omega
    go_enter Try.func23, Try.ntmps23
    go_wp2_with (first | (refine (Try.isnan _ _).mono ?_; rintro e w' ⟨rfl, rfl⟩))
    go_ret
    exact ⟨by simp [h, h2], rfl⟩

theorem Try.or2 (g : Nat) (a b : Int) (w : World) (h0 : w.cell? ⟨g, 0, none⟩ = some (.int .i64 a)) (h1 : w.cell? ⟨g, 1, none⟩ = some (.int .i64 b)) :
    Calls Try.prog 22 #[.slice (some ⟨g, 0, none⟩) 2 2] w fun e w' => e = .returned (.int .i64 (if a = 0 then b else a)) ∧ ∃ q, w' = w.drewN q := by
  by_cases ha : a = 0
  · subst ha
    go_enter Try.func22, Try.ntmps22
    go_wp2
    go_loopw [8] (fun i wr => (∃ k : Nat, k ≤ 2 ∧ i = .int .i64 k) ∧ (i = .int .i64 2 → b = 0) ∧ ∃ q, wr = w.drewN q) (fun i _ => 3 - (intOf i).toNat)
    case atStart => exact ⟨⟨0, Nat.zero_le _, rfl⟩, by simp, 0, rfl⟩
    case round =>
      obtain ⟨⟨k, hk, rfl⟩, hb, q, rfl⟩ := hrel
      have hk3 : k = 0 ∨ k = 1 ∨ k = 2 := by omega
      rcases hk3 with rfl | rfl | rfl
      · go_wp2
        go_roundw
        case rel => exact ⟨⟨1, by omega, by go_num⟩, by simp, q, rfl⟩
        case measure => simp [intOf]
      · by_cases hb0 : b = 0
        · subst hb0
          go_wp2
          go_roundw
          case rel => exact ⟨⟨2, by omega, by go_num⟩, by simp, q, rfl⟩
          case measure => simp [intOf]
        · go_wp2
          go_ret
          exact ⟨by simp, q, rfl⟩
      · have hb := hb rfl
        subst hb
        go_wp2
        go_ret
        exact ⟨by simp, q, rfl⟩
  · go_enter Try.func22, Try.ntmps22
    go_wp2
    refine wp_loop_rounds 1 ?_
    rw [rounds_succ]
    go_wp2
    go_ret
    exact ⟨by simp [ha], 0, rfl⟩

theorem two_new (w : World) (x y : Value) (t : TypeId) : ((w.drewN 1).alloc (.cells #[x, y] t)).cell? ⟨w.heap.size, 0, none⟩ = some x ∧ ((w.drewN 1).alloc (.cells #[x, y] t)).cell? ⟨w.heap.size, 1, none⟩ = some y := by
  have h : ((w.drewN 1).alloc (.cells #[x, y] t)).heap[w.heap.size]? = some (.cells #[x, y] t) := heap_alloc_new (w.drewN 1) _
  constructor <;> (unfold World.cell?; simp only [h]; rfl)
theorem Try.or2' (g : Nat) (a b r : Int) (w : World) (hr : (if a = 0 then b else a) = r) (h0 : w.cell? ⟨g, 0, none⟩ = some (.int .i64 a)) (h1 : w.cell? ⟨g, 1, none⟩ = some (.int .i64 b)) :
    Calls Try.prog 22 #[.slice (some ⟨g, 0, none⟩) 2 2] w fun e w' => e = .returned (.int .i64 r) ∧ ∃ q, w' = w.drewN q := by
  subst hr
  exact Try.or2 g a b w h0 h1
def cmpT (l : List Th) (a b : Nat) : Int := if cmpI (th l b).level (th l a).level = 0 then cmpI (th l a).turn (th l b).turn else cmpI (th l b).level (th l a).level
set_option maxHeartbeats 1000000 in
theorem Try.cmp (ga gb : Nat) (la ta lb tb : Int) (w : World) (a1 : w.cell? ⟨ga, 1, none⟩ = some (.int .i64 la)) (a4 : w.cell? ⟨ga, 4, none⟩ = some (.int .i64 ta)) (b1 : w.cell? ⟨gb, 1, none⟩ = some (.int .i64 lb)) (b4 : w.cell? ⟨gb, 4, none⟩ = some (.int .i64 tb)) :
    Calls Try.prog 21 #[.pointer (some ⟨ga, 0, none⟩), .pointer (some ⟨gb, 0, none⟩)] w fun e w' => e = .returned (.int .i64 (if cmpI lb la = 0 then cmpI ta tb else cmpI lb la)) ∧ ∃ q os', w' = grow (w.drewN q) os' := by
  generalize hr : (if cmpI lb la = 0 then cmpI ta tb else cmpI lb la) = r
  have hr := Lib.hid hr
  go_enter Try.func21, Try.ntmps21
  go_wp2_with (fail)
  refine wp_region_still_tail 20 (by kernel_rfl) (by kernel_rfl) ?_
  simp only [List.take_succ_cons, List.take_zero, List.drop_succ_cons, List.drop_zero]
  repeat (first | still_step | still_call (Try.compare _ _ _))
  refine wpStill_nil ?_
  change wpList _ _ _ _ _ (w.drewN 1)
  go_wp2_with (first | (refine (Try.or2' _ _ _ _ _ hr.out (two_new _ _ _ _).1 (two_new _ _ _ _).2).mono ?_; rintro e w' ⟨rfl, q, rfl⟩))
  go_ret
  exact ⟨rfl, 1 + q, #[_], by rw [alloc_eq_grow]; show grow ((w.drewN 1).drewN q) _ = _; rw [World.drewN_drewN]⟩

def thV (t : Th) (k : Nat) : Array Value := #[.int .i64 t.come, .int .i64 t.level, .int .i64 t.work, .int .i64 k, .int .i64 t.turn, .int .i64 t.used]
def encT (eo : Nat → Nat) (m : Nat) (k : Fin m) : Value := .pointer (some ⟨eo k.val, 0, none⟩)

theorem cmpI_lt {a b : Int} : cmpI a b < 0 ↔ a < b := by unfold cmpI; split <;> (try split) <;> omega
theorem cmpI_zero {a b : Int} : cmpI a b = 0 ↔ a = b := by unfold cmpI; split <;> (try split) <;> omega
theorem cmpT_lt (l : List Th) (a b : Nat) : cmpT l a b < 0 ↔ (th l b).level < (th l a).level ∨ ((th l a).level = (th l b).level ∧ (th l a).turn < (th l b).turn) := by
  unfold cmpT
  split
  · rename_i h
    rw [cmpI_zero] at h
    rw [cmpI_lt]; omega
  · rename_i h
    rw [cmpI_zero] at h
    rw [cmpI_lt]; omega
theorem cmpT_swo (l : List Th) (m : Nat) : SWO (ltOf fun x y : Fin m => cmpT l x.val y.val) := by
  refine ⟨fun x => ?_, fun x y z h1 h2 => ?_, fun x y z h1 h2 => ?_⟩
  · simp only [ltOf, decide_eq_false_iff_not, cmpT_lt]; omega
  · simp only [ltOf, decide_eq_true_eq, cmpT_lt] at *; omega
  · simp only [ltOf, decide_eq_false_iff_not, cmpT_lt] at *; omega
theorem cmpT_le {l : List Th} {a b : Nat} (h : ¬ cmpT l b a < 0) : le l a b = true := by
  rw [cmpT_lt] at h
  unfold le
  simp only [Bool.or_eq_true, Bool.and_eq_true, decide_eq_true_eq]
  omega

/-- Nothing but what S says is otherwise. -/
structure Only (S : Nat → Prop) (w w' : World) : Prop where
  os : w'.os = w.os
  tape : w'.tape = w.tape
  output : w'.output = w.output
  size : w.heap.size ≤ w'.heap.size
  block : ∀ k, k < w.heap.size → ¬ S k → w'.heap[k]? = w.heap[k]?

theorem sortWorld_only {α : Type} [Inhabited α] (enc : α → Value) (w : World) (blk off n : Nat) (d : Array α) (os : Array Obj) : Only (· = blk) w (sortWorld enc w blk off n d os) := by
  refine ⟨rfl, rfl, rfl, by unfold sortWorld; rw [size_grow, size_putRow]; exact Nat.le_add_right _ _, fun k hk hne => ?_⟩
  unfold sortWorld
  rw [heap_grow_old _ _ (by rw [size_putRow]; exact hk)]
  show (w.heap.modify blk _)[k]? = _
  rw [Array.getElem?_modify, if_neg (fun e => hne e.symm)]

theorem pmap_val {m : Nat} : ∀ (rd : List Nat) (h : ∀ k ∈ rd, k < m), (rd.pmap (fun k hk => (⟨k, hk⟩ : Fin m)) h).map Fin.val = rd
  | [], _ => rfl
  | k :: rd, h => by simp [List.map_pmap]

theorem Try.sort_ready {l : List Th} {eo : Nat → Nat} {blk cap : Nat} {w : World} (hb : ∀ k, k < l.length → w.heap[eo k]? = some (.cells (thV (th l k) k) 47 (0, 0))) (hne : ∀ k, k < l.length → eo k ≠ blk) (rd : List Nat) (hrd : ∀ k ∈ rd, k < l.length) (hl : rd.length < 4611686018427387904)
    (hH : ∀ i (hi : i < rd.length), w.cell? ⟨blk, i, none⟩ = some (.pointer (some ⟨eo rd[i], 0, none⟩)) ∧ w.frozen? ⟨blk, i, none⟩ = false) (h0 : 0 < rd.length) :
    Calls Try.prog 20 #[.slice (some ⟨blk, 0, none⟩) rd.length cap, .func (.func 21) #[] #[]] w fun e w' => e = .returned (.tuple #[]) ∧
      ∃ q : List Nat, q.Perm rd ∧ (q.Pairwise fun a b => le l a b = true) ∧ Only (· = blk) w w' ∧ (∀ i (hi : i < q.length), w'.cell? ⟨blk, i, none⟩ = some (.pointer (some ⟨eo q[i], 0, none⟩))) ∧ ∀ cs t, w.heap[blk]? = some (.cells cs t (0, 0)) → ∃ cs', w'.heap[blk]? = some (.cells cs' t (0, 0)) := by
  have hm : 0 < l.length := by have := hrd rd[0] (List.getElem_mem _); omega
  letI : Inhabited (Fin l.length) := ⟨⟨0, hm⟩⟩
  obtain ⟨d, hd⟩ : ∃ d : Array (Fin l.length), d = (rd.pmap (fun k hk => (⟨k, hk⟩ : Fin l.length)) hrd).toArray := ⟨_, rfl⟩
  have hdl : d.size = rd.length := by rw [hd]; simp
  have hdv : d.toList.map Fin.val = rd := by rw [hd]; exact pmap_val rd hrd
  have hdi : ∀ i (hi : i < rd.length), (d[i]!).val = rd[i] := by
    intro i hi
    have e : (d.toList.map Fin.val)[i]? = rd[i]? := by rw [hdv]
    rw [List.getElem?_map, List.getElem?_eq_getElem hi, Array.getElem?_toList, Array.getElem?_eq_getElem (by omega)] at e
    simp only [Option.map_some, Option.some.injEq] at e
    rw [getElem!_pos d i (by omega)]
    exact e
  have hblk : blk < w.heap.size := World.block_lt_of_cell? w _ (hH 0 h0).1
  have hHold : Holds (encT eo l.length) w blk 0 d := by
    intro j hj
    rw [hdl] at hj
    rw [Nat.zero_add]
    refine ⟨?_, (hH j hj).2⟩
    rw [(hH j hj).1]
    unfold encT
    rw [hdi j hj]
  have hcmp : CmpLays1 Try.prog 21 #[] (encT eo l.length) (fun x y => cmpT l x.val y.val) blk 0 d.size w := by
    intro n os dk hs x y
    have hcell : ∀ (k : Fin l.length) (j : Nat), (sortWorld (encT eo l.length) w blk 0 n dk os).cell? ⟨eo k.val, j, none⟩ = (thV (th l k.val) k.val)[j]? := by
      intro k j
      have h1 := (sortWorld_only (encT eo l.length) w blk 0 n dk os).block (eo k.val) (Array.getElem?_eq_some_iff.1 (hb k.val k.isLt)).1 (hne k.val k.isLt)
      rw [World.cell?_of_block (w := w) (a := ⟨eo k.val, j, none⟩) h1]
      simp [World.cell?, hb k.val k.isLt]
    exact Try.cmp (eo x.val) (eo y.val) _ _ _ _ _ (hcell x 1) (hcell x 4) (hcell y 1) (hcell y 4)
  have key := Any.slices_SortFunc Try.laysF6 (encT eo l.length) (fun _ => rfl) (fun x y => cmpT l x.val y.val) (cmpT_swo l l.length) 21 #[] blk 0 cap d w (enters_of Try.func21 (by kernel_rfl) rfl) hcmp hHold hblk (by omega)
  rw [hdl] at key
  refine key.mono ?_
  rintro e w' ⟨he, d', n, os, hp, hs, rfl⟩
  have hsz : d'.size = d.size := hp.1
  refine ⟨he, d'.toList.map Fin.val, ?_, ?_, sortWorld_only _ _ _ _ _ _ _, ?_, fun cs t ht => ?_⟩
  · have h1 := hp.2.2
    rw [Array.extract_eq_self_of_le (by omega), Array.extract_eq_self_of_le (by omega)] at h1
    rw [← hdv]
    exact h1.map _
  · rw [List.pairwise_map, List.pairwise_iff_getElem]
    intro i j hi hj hij
    rw [Array.length_toList] at hi hj
    have h1 := hs i j (Nat.zero_le _) hij (by omega)
    rw [getElem!_pos d' i (by omega), getElem!_pos d' j (by omega)] at h1
    simp only [ltOf, decide_eq_false_iff_not] at h1
    simpa using cmpT_le h1
  · intro i hi
    have hi' : i < d'.size := by simpa using hi
    have h1 := (holds_sortWorld (encT eo l.length) w blk 0 n d d' os hblk hHold (by omega) i hi').1
    rw [Nat.zero_add] at h1
    rw [h1]
    unfold encT
    rw [getElem!_pos d' i hi']
    simp
  · unfold sortWorld
    rw [heap_grow_old _ _ (by rw [size_putRow]; exact hblk)]
    refine ⟨putCells (encT eo l.length) 0 d' cs, ?_⟩
    show (w.heap.modify blk _)[blk]? = _
    rw [Array.getElem?_modify, if_pos rfl, ht]; rfl
end Go.Proofs
