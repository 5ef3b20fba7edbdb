import Derived.Test.YthmieigenefilaaGreatDoorQBTF
set_option linter.unusedVariables false
set_option linter.unusedSimpArgs false
set_option maxRecDepth 100000
namespace Go.Proofs
open Go.RowKit Go.Bn
set_option maxHeartbeats 4000000 in
theorem Tryz.read_0 (s : ByteArray) (hs : s.size ≤ 140737488355328) (v : Int) (h : Lib.atoiAll (cutL 32 s.data.toList).2.1 = .ok v) (hword : (cutL 32 s.data.toList).1 = [105, 110]) (w : World) (hT : PowIs w) :
  Calls Tryz.prog 30 #[.string s] w fun e w' => e = .returned (.tuple #[opV 1 0 0 (v % 256), .bool ((lineB (1, 0, 0, v % 256)).2 && ((lineB (1, 0, 0, v % 256)).1.toList == s.toList))]) ∧ Below w.heap.size w w' := by
 have hcut := fun w => Tryz.cut s ⟨#[32]⟩ 32 rfl w hs
 have hr : (bOf (cutL 32 s.data.toList).2.1).size ≤ 140737488355328 := by
  have h1 := cut_rest 32 s.data.toList
  have h2 : s.size = s.data.toList.length := rfl
  show (cutL 32 s.data.toList).2.1.length ≤ _
  omega
 have hat := fun w => Tryz.atoi_good (bOf (cutL 32 s.data.toList).2.1) hr v h w
 rw [hword] at hcut
 clear hword
 have hne : ∀ j, j < 0 → ¬ (bOf (wordsL.getD j [])).toList = (bOf [105, 110]).toList := by
  intro j hj he
  have he2 := eq_lists (wordsL.getD j []) [105, 110]
  rw [he] at he2
  have hx : wordsL.getD j [] = [105, 110] := by simpa using he2
  revert hx
  have : False := by omega
  exact this.elim
 generalize bOf (cutL 32 s.data.toList).2.1 = rest, (cutL 32 s.data.toList).2.2 = z at *
 clear h hr
 have hn : w.heap.size ≤ w.heap.size := Nat.le_refl _
 go_enter Tryz.func30, Tryz.ntmps30
 go_wp2_with fail
 have hb := (Below.refl w.heap.size w).alloc (Nat.le_refl _) (.cells (opC 0 0 0 0) 26)
 have hd : (w.alloc (.cells (opC 0 0 0 0) 26)).heap[w.heap.size]? = some (.cells (opC 0 0 0 0) 26 (0, 0)) := heap_alloc_new w _
 have hT : PowIs _ := tab_below hT hb
 generalize w.alloc (.cells (opC 0 0 0 0) 26) = W at *
 refine (hcut _).mono ?_
 rintro e w1 ⟨rfl, q, rfl⟩
 go_wp2_with fail
 refine (hat (W.drewN q)).mono ?_
 rintro e w2 ⟨rfl, hb2⟩
 have hb := below_trans hb hb2 hn
 have hd := keeph hb2 hd
 have hT : PowIs _ := tab_below hT hb2
 go_wp2_with fail
 refine (Tryz.words3 _).mono ?_
 rintro e w3 ⟨rfl, hb3, hw⟩
 have hb := below_trans hb hb3 hn
 have hd := keeph hb3 hd
 have hT : PowIs _ := tab_below hT hb3
 clear hat hcut hb2 hb3 hs
 generalize hB : w.heap.size = B at *
 have hn' : B ≤ w.heap.size := by omega
 go_wp2
 go_loopw [27] (fun i wr => (∃ k : Nat, k ≤ 0 ∧ i = .int .i64 k) ∧ Below w3.heap.size w3 wr) (fun i _ => 7 - (intOf i).toNat)
 case atStart => exact ⟨⟨0, Nat.zero_le _, rfl⟩, Below.refl _ _⟩
 case round =>
  obtain ⟨⟨k, hk, rfl⟩, hbr⟩ := hrel
  by_cases h6 : k < 0
  ·have i0 : (0 : Int) ≤ (k : Int) := by omega
   have i1 : (k : Int) < 6 := by omega
   have hcell := read_cells (keeph hbr hw) k (by omega)
   have hnk := hne k h6
   generalize bOf (wordsL.getD k []) = X at *
   generalize bOf [105, 110] = Y at *
   go_wp2
   all_goals exact ⟨⟨⟨k + 1, by omega, by simp⟩, hbr⟩, by simp [intOf]; omega⟩
  ·have hk6 : k = 0 := by omega
   subst hk6
   have hd0 := hd
   have hd := keeph hbr hd
   have hcell := read_cells (keeph hbr hw) 0 (by omega)
   have hbb := below_trans hb hbr hn'
   have hT : PowIs _ := tab_below hT hbr
   clear hne hb hw
   generalize hlb : (lineB (1, 0, 0, v % 256)).1 = LT, hlk : (lineB (1, 0, 0, v % 256)).2 = LK at *
   go_wp2_with fail
   have hb4 := (Below.refl wr.heap.size wr).alloc (Nat.le_refl _) (.cells (opC 1 0 0 (v % 256)) 26)
   have ho : (wr.alloc (.cells (opC 1 0 0 (v % 256)) 26)).heap[wr.heap.size]? = some (.cells (opC 1 0 0 (v % 256)) 26 (0, 0)) := heap_alloc_new wr _
   have hbb := below_trans hbb hb4 hn'
   have hd := keeph hb4 hd
   have hT0 := hT
   have hT : PowIs _ := tab_below hT hb4
   have hBr : B < wr.heap.size := by
    have h5 := hd_lt hd0
    have h6 := hbr.size
    omega
   have hBr' : wr.heap.size < (wr.alloc (.cells (opC 1 0 0 (v % 256)) 26)).heap.size := by simp
   have hTO : ∀ g, Tryz.prog.globalNamed "internal/strconv.uint64pow10" = some g → g < wr.heap.size := fun g hg => tab_lt hT0 hg
   generalize wr.alloc (.cells (opC 1 0 0 (v % 256)) 26) = W4 at *
   generalize hO : wr.heap.size = O at *
   refine (Tryz.line 1 0 0 (v % 256) (by omega) _ hT).mono ?_
   rintro e w5 ⟨rfl, hb5⟩
   rw [hlb, hlk]
   have hd := keeph hb5 hd
   have ho := keeph hb5 ho
   have hbb := below_trans hbb hb5 hn'
   have c0 : w5.cell? ⟨B, 0, none⟩ = some (.int .i64 0) := by rw [Lib.cell_of_heap hd]; rfl
   have c1 : w5.cell? ⟨B, 1, none⟩ = some (.int .i64 0) := by rw [Lib.cell_of_heap hd]; rfl
   have c2 : w5.cell? ⟨B, 2, none⟩ = some (.int .i64 0) := by rw [Lib.cell_of_heap hd]; rfl
   have c3 : w5.cell? ⟨B, 3, none⟩ = some (.int .u8 0) := by rw [Lib.cell_of_heap hd]; rfl
   have z0 : w5.frozen? ⟨B, 0, none⟩ = false := Lib.frozen_of_heap hd 0
   have z1 : w5.frozen? ⟨B, 1, none⟩ = false := Lib.frozen_of_heap hd 1
   have z2 : w5.frozen? ⟨B, 2, none⟩ = false := Lib.frozen_of_heap hd 2
   have z3 : w5.frozen? ⟨B, 3, none⟩ = false := Lib.frozen_of_heap hd 3
   have x0 := Lib.cell_of_heap ho 0
   have x1 := Lib.cell_of_heap ho 1
   have x2 := Lib.cell_of_heap ho 2
   have x3 := Lib.cell_of_heap ho 3
   cases LK
   all_goals go_wp2
   all_goals (
    refine bodyPost_ret (Tryz.read_res 1 0 0 (v % 256) (heap_set (heap_set (heap_set (heap_set hd 0 (.int .i64 1)) 1 (.int .i64 0)) 2 (.int .i64 0)) 3 (.int .u8 (v % 256))) _ rfl) rfl ?_
    refine ⟨by rw [hlb, hlk]; rfl, ?_⟩
    rw [hB]
    exact (((hbb.setCell (p := ⟨B, 0, none⟩) (Nat.le_refl _) _).setCell (p := ⟨B, 1, none⟩) (Nat.le_refl _) _).setCell (p := ⟨B, 2, none⟩) (Nat.le_refl _) _).setCell (p := ⟨B, 3, none⟩) (Nat.le_refl _) _)
set_option maxHeartbeats 4000000 in
theorem Tryz.read_1 (s : ByteArray) (hs : s.size ≤ 140737488355328) (v : Int) (h : Lib.atoiAll (cutL 32 s.data.toList).2.1 = .ok v) (hword : (cutL 32 s.data.toList).1 = [114, 117, 110]) (w : World) (hT : PowIs w) :
  Calls Tryz.prog 30 #[.string s] w fun e w' => e = .returned (.tuple #[opV 2 v 0 0, .bool ((lineB (2, v, 0, 0)).2 && ((lineB (2, v, 0, 0)).1.toList == s.toList))]) ∧ Below w.heap.size w w' := by
 have hcut := fun w => Tryz.cut s ⟨#[32]⟩ 32 rfl w hs
 have hr : (bOf (cutL 32 s.data.toList).2.1).size ≤ 140737488355328 := by
  have h1 := cut_rest 32 s.data.toList
  have h2 : s.size = s.data.toList.length := rfl
  show (cutL 32 s.data.toList).2.1.length ≤ _
  omega
 have hat := fun w => Tryz.atoi_good (bOf (cutL 32 s.data.toList).2.1) hr v h w
 rw [hword] at hcut
 clear hword
 have hne : ∀ j, j < 1 → ¬ (bOf (wordsL.getD j [])).toList = (bOf [114, 117, 110]).toList := by
  intro j hj he
  have he2 := eq_lists (wordsL.getD j []) [114, 117, 110]
  rw [he] at he2
  have hx : wordsL.getD j [] = [114, 117, 110] := by simpa using he2
  revert hx
  have : j = 0 := by omega
  rcases this with rfl <;> decide
 generalize bOf (cutL 32 s.data.toList).2.1 = rest, (cutL 32 s.data.toList).2.2 = z at *
 clear h hr
 have hn : w.heap.size ≤ w.heap.size := Nat.le_refl _
 go_enter Tryz.func30, Tryz.ntmps30
 go_wp2_with fail
 have hb := (Below.refl w.heap.size w).alloc (Nat.le_refl _) (.cells (opC 0 0 0 0) 26)
 have hd : (w.alloc (.cells (opC 0 0 0 0) 26)).heap[w.heap.size]? = some (.cells (opC 0 0 0 0) 26 (0, 0)) := heap_alloc_new w _
 have hT : PowIs _ := tab_below hT hb
 generalize w.alloc (.cells (opC 0 0 0 0) 26) = W at *
 refine (hcut _).mono ?_
 rintro e w1 ⟨rfl, q, rfl⟩
 go_wp2_with fail
 refine (hat (W.drewN q)).mono ?_
 rintro e w2 ⟨rfl, hb2⟩
 have hb := below_trans hb hb2 hn
 have hd := keeph hb2 hd
 have hT : PowIs _ := tab_below hT hb2
 go_wp2_with fail
 refine (Tryz.words3 _).mono ?_
 rintro e w3 ⟨rfl, hb3, hw⟩
 have hb := below_trans hb hb3 hn
 have hd := keeph hb3 hd
 have hT : PowIs _ := tab_below hT hb3
 clear hat hcut hb2 hb3 hs
 generalize hB : w.heap.size = B at *
 have hn' : B ≤ w.heap.size := by omega
 go_wp2
 go_loopw [27] (fun i wr => (∃ k : Nat, k ≤ 1 ∧ i = .int .i64 k) ∧ Below w3.heap.size w3 wr) (fun i _ => 7 - (intOf i).toNat)
 case atStart => exact ⟨⟨0, Nat.zero_le _, rfl⟩, Below.refl _ _⟩
 case round =>
  obtain ⟨⟨k, hk, rfl⟩, hbr⟩ := hrel
  by_cases h6 : k < 1
  ·have i0 : (0 : Int) ≤ (k : Int) := by omega
   have i1 : (k : Int) < 6 := by omega
   have hcell := read_cells (keeph hbr hw) k (by omega)
   have hnk := hne k h6
   generalize bOf (wordsL.getD k []) = X at *
   generalize bOf [114, 117, 110] = Y at *
   go_wp2
   all_goals exact ⟨⟨⟨k + 1, by omega, by simp⟩, hbr⟩, by simp [intOf]; omega⟩
  ·have hk6 : k = 1 := by omega
   subst hk6
   have hd0 := hd
   have hd := keeph hbr hd
   have hcell := read_cells (keeph hbr hw) 1 (by omega)
   have hbb := below_trans hb hbr hn'
   have hT : PowIs _ := tab_below hT hbr
   clear hne hb hw
   generalize hlb : (lineB (2, v, 0, 0)).1 = LT, hlk : (lineB (2, v, 0, 0)).2 = LK at *
   go_wp2_with fail
   have hb4 := (Below.refl wr.heap.size wr).alloc (Nat.le_refl _) (.cells (opC 2 0 0 (0)) 26)
   have ho : (wr.alloc (.cells (opC 2 0 0 (0)) 26)).heap[wr.heap.size]? = some (.cells (opC 2 0 0 (0)) 26 (0, 0)) := heap_alloc_new wr _
   have hbb := below_trans hbb hb4 hn'
   have hd := keeph hb4 hd
   have hT0 := hT
   have hT : PowIs _ := tab_below hT hb4
   have hBr : B < wr.heap.size := by
    have h5 := hd_lt hd0
    have h6 := hbr.size
    omega
   have hBr' : wr.heap.size < (wr.alloc (.cells (opC 2 0 0 (0)) 26)).heap.size := by simp
   have hTO : ∀ g, Tryz.prog.globalNamed "internal/strconv.uint64pow10" = some g → g < wr.heap.size := fun g hg => tab_lt hT0 hg
   generalize wr.alloc (.cells (opC 2 0 0 (0)) 26) = W4 at *
   generalize hO : wr.heap.size = O at *
   have k0 : W4.cell? ⟨O, 0, none⟩ = some (.int .i64 2) := by rw [Lib.cell_of_heap ho]; rfl
   have y1 : W4.cell? ⟨O, 1, none⟩ = some (.int .i64 0) := by rw [Lib.cell_of_heap ho]; rfl
   have y2 : W4.cell? ⟨O, 2, none⟩ = some (.int .i64 0) := by rw [Lib.cell_of_heap ho]; rfl
   have y3 : W4.cell? ⟨O, 3, none⟩ = some (.int .u8 0) := by rw [Lib.cell_of_heap ho]; rfl
   have yf : W4.frozen? ⟨O, 1, none⟩ = false := Lib.frozen_of_heap ho 1
   refine (Tryz.number_core O 2 (by decide) _ k0).mono ?_
   rintro e w5 ⟨rfl, rfl⟩
   go_wp2_with fail
   have hset := hbb.setCell (p := ⟨O, 1, none⟩) (Nat.le_of_lt hBr) (.int .i64 v)
   have ho := heap_set ho 1 (.int .i64 v)
   have hd : (w5.setCell ⟨O, 1, none⟩ (.int .i64 v)).heap[B]? = _ := (Below.heap_setCell w5 ⟨O, 1, none⟩ (.int .i64 v) B (by show B ≠ O; omega)).trans hd
   have hT : PowIs _ := tab_set hT hTO ⟨O, 1, none⟩ (.int .i64 v)
   generalize w5.setCell ⟨O, 1, none⟩ (.int .i64 v) = W6 at *
   clear k0 y1 y2 y3 yf hbb
   have hbb := hset
   refine (Tryz.line 2 v 0 0 (by omega) _ hT).mono ?_
   rintro e w5 ⟨rfl, hb5⟩
   rw [hlb, hlk]
   have hd := keeph hb5 hd
   have ho := keeph hb5 ho
   have hbb := below_trans hbb hb5 hn'
   have c0 : w5.cell? ⟨B, 0, none⟩ = some (.int .i64 0) := by rw [Lib.cell_of_heap hd]; rfl
   have c1 : w5.cell? ⟨B, 1, none⟩ = some (.int .i64 0) := by rw [Lib.cell_of_heap hd]; rfl
   have c2 : w5.cell? ⟨B, 2, none⟩ = some (.int .i64 0) := by rw [Lib.cell_of_heap hd]; rfl
   have c3 : w5.cell? ⟨B, 3, none⟩ = some (.int .u8 0) := by rw [Lib.cell_of_heap hd]; rfl
   have z0 : w5.frozen? ⟨B, 0, none⟩ = false := Lib.frozen_of_heap hd 0
   have z1 : w5.frozen? ⟨B, 1, none⟩ = false := Lib.frozen_of_heap hd 1
   have z2 : w5.frozen? ⟨B, 2, none⟩ = false := Lib.frozen_of_heap hd 2
   have z3 : w5.frozen? ⟨B, 3, none⟩ = false := Lib.frozen_of_heap hd 3
   have x0 := Lib.cell_of_heap ho 0
   have x1 := Lib.cell_of_heap ho 1
   have x2 := Lib.cell_of_heap ho 2
   have x3 := Lib.cell_of_heap ho 3
   cases LK
   all_goals go_wp2
   all_goals (
    refine bodyPost_ret (Tryz.read_res 2 v 0 0 (heap_set (heap_set (heap_set (heap_set hd 0 (.int .i64 2)) 1 (.int .i64 v)) 2 (.int .i64 0)) 3 (.int .u8 (0))) _ rfl) rfl ?_
    refine ⟨by rw [hlb, hlk]; rfl, ?_⟩
    rw [hB]
    exact (((hbb.setCell (p := ⟨B, 0, none⟩) (Nat.le_refl _) _).setCell (p := ⟨B, 1, none⟩) (Nat.le_refl _) _).setCell (p := ⟨B, 2, none⟩) (Nat.le_refl _) _).setCell (p := ⟨B, 3, none⟩) (Nat.le_refl _) _)
set_option maxHeartbeats 4000000 in
theorem Tryz.read_2 (s : ByteArray) (hs : s.size ≤ 140737488355328) (v : Int) (h : Lib.atoiAll (cutL 32 s.data.toList).2.1 = .ok v) (hword : (cutL 32 s.data.toList).1 = [114, 101, 97, 100]) (w : World) (hT : PowIs w) :
  Calls Tryz.prog 30 #[.string s] w fun e w' => e = .returned (.tuple #[opV 3 0 v 0, .bool ((lineB (3, 0, v, 0)).2 && ((lineB (3, 0, v, 0)).1.toList == s.toList))]) ∧ Below w.heap.size w w' := by
 have hcut := fun w => Tryz.cut s ⟨#[32]⟩ 32 rfl w hs
 have hr : (bOf (cutL 32 s.data.toList).2.1).size ≤ 140737488355328 := by
  have h1 := cut_rest 32 s.data.toList
  have h2 : s.size = s.data.toList.length := rfl
  show (cutL 32 s.data.toList).2.1.length ≤ _
  omega
 have hat := fun w => Tryz.atoi_good (bOf (cutL 32 s.data.toList).2.1) hr v h w
 rw [hword] at hcut
 clear hword
 have hne : ∀ j, j < 2 → ¬ (bOf (wordsL.getD j [])).toList = (bOf [114, 101, 97, 100]).toList := by
  intro j hj he
  have he2 := eq_lists (wordsL.getD j []) [114, 101, 97, 100]
  rw [he] at he2
  have hx : wordsL.getD j [] = [114, 101, 97, 100] := by simpa using he2
  revert hx
  have : j = 0 ∨ j = 1 := by omega
  rcases this with rfl | rfl <;> decide
 generalize bOf (cutL 32 s.data.toList).2.1 = rest, (cutL 32 s.data.toList).2.2 = z at *
 clear h hr
 have hn : w.heap.size ≤ w.heap.size := Nat.le_refl _
 go_enter Tryz.func30, Tryz.ntmps30
 go_wp2_with fail
 have hb := (Below.refl w.heap.size w).alloc (Nat.le_refl _) (.cells (opC 0 0 0 0) 26)
 have hd : (w.alloc (.cells (opC 0 0 0 0) 26)).heap[w.heap.size]? = some (.cells (opC 0 0 0 0) 26 (0, 0)) := heap_alloc_new w _
 have hT : PowIs _ := tab_below hT hb
 generalize w.alloc (.cells (opC 0 0 0 0) 26) = W at *
 refine (hcut _).mono ?_
 rintro e w1 ⟨rfl, q, rfl⟩
 go_wp2_with fail
 refine (hat (W.drewN q)).mono ?_
 rintro e w2 ⟨rfl, hb2⟩
 have hb := below_trans hb hb2 hn
 have hd := keeph hb2 hd
 have hT : PowIs _ := tab_below hT hb2
 go_wp2_with fail
 refine (Tryz.words3 _).mono ?_
 rintro e w3 ⟨rfl, hb3, hw⟩
 have hb := below_trans hb hb3 hn
 have hd := keeph hb3 hd
 have hT : PowIs _ := tab_below hT hb3
 clear hat hcut hb2 hb3 hs
 generalize hB : w.heap.size = B at *
 have hn' : B ≤ w.heap.size := by omega
 go_wp2
 go_loopw [27] (fun i wr => (∃ k : Nat, k ≤ 2 ∧ i = .int .i64 k) ∧ Below w3.heap.size w3 wr) (fun i _ => 7 - (intOf i).toNat)
 case atStart => exact ⟨⟨0, Nat.zero_le _, rfl⟩, Below.refl _ _⟩
 case round =>
  obtain ⟨⟨k, hk, rfl⟩, hbr⟩ := hrel
  by_cases h6 : k < 2
  ·have i0 : (0 : Int) ≤ (k : Int) := by omega
   have i1 : (k : Int) < 6 := by omega
   have hcell := read_cells (keeph hbr hw) k (by omega)
   have hnk := hne k h6
   generalize bOf (wordsL.getD k []) = X at *
   generalize bOf [114, 101, 97, 100] = Y at *
   go_wp2
   all_goals exact ⟨⟨⟨k + 1, by omega, by simp⟩, hbr⟩, by simp [intOf]; omega⟩
  ·have hk6 : k = 2 := by omega
   subst hk6
   have hd0 := hd
   have hd := keeph hbr hd
   have hcell := read_cells (keeph hbr hw) 2 (by omega)
   have hbb := below_trans hb hbr hn'
   have hT : PowIs _ := tab_below hT hbr
   clear hne hb hw
   generalize hlb : (lineB (3, 0, v, 0)).1 = LT, hlk : (lineB (3, 0, v, 0)).2 = LK at *
   go_wp2_with fail
   have hb4 := (Below.refl wr.heap.size wr).alloc (Nat.le_refl _) (.cells (opC 3 0 0 (0)) 26)
   have ho : (wr.alloc (.cells (opC 3 0 0 (0)) 26)).heap[wr.heap.size]? = some (.cells (opC 3 0 0 (0)) 26 (0, 0)) := heap_alloc_new wr _
   have hbb := below_trans hbb hb4 hn'
   have hd := keeph hb4 hd
   have hT0 := hT
   have hT : PowIs _ := tab_below hT hb4
   have hBr : B < wr.heap.size := by
    have h5 := hd_lt hd0
    have h6 := hbr.size
    omega
   have hBr' : wr.heap.size < (wr.alloc (.cells (opC 3 0 0 (0)) 26)).heap.size := by simp
   have hTO : ∀ g, Tryz.prog.globalNamed "internal/strconv.uint64pow10" = some g → g < wr.heap.size := fun g hg => tab_lt hT0 hg
   generalize wr.alloc (.cells (opC 3 0 0 (0)) 26) = W4 at *
   generalize hO : wr.heap.size = O at *
   have k0 : W4.cell? ⟨O, 0, none⟩ = some (.int .i64 3) := by rw [Lib.cell_of_heap ho]; rfl
   have y1 : W4.cell? ⟨O, 1, none⟩ = some (.int .i64 0) := by rw [Lib.cell_of_heap ho]; rfl
   have y2 : W4.cell? ⟨O, 2, none⟩ = some (.int .i64 0) := by rw [Lib.cell_of_heap ho]; rfl
   have y3 : W4.cell? ⟨O, 3, none⟩ = some (.int .u8 0) := by rw [Lib.cell_of_heap ho]; rfl
   have yf : W4.frozen? ⟨O, 2, none⟩ = false := Lib.frozen_of_heap ho 2
   refine (Tryz.number_read O _ k0).mono ?_
   rintro e w5 ⟨rfl, rfl⟩
   go_wp2_with fail
   have hset := hbb.setCell (p := ⟨O, 2, none⟩) (Nat.le_of_lt hBr) (.int .i64 v)
   have ho := heap_set ho 2 (.int .i64 v)
   have hd : (w5.setCell ⟨O, 2, none⟩ (.int .i64 v)).heap[B]? = _ := (Below.heap_setCell w5 ⟨O, 2, none⟩ (.int .i64 v) B (by show B ≠ O; omega)).trans hd
   have hT : PowIs _ := tab_set hT hTO ⟨O, 2, none⟩ (.int .i64 v)
   generalize w5.setCell ⟨O, 2, none⟩ (.int .i64 v) = W6 at *
   clear k0 y1 y2 y3 yf hbb
   have hbb := hset
   refine (Tryz.line 3 0 v 0 (by omega) _ hT).mono ?_
   rintro e w5 ⟨rfl, hb5⟩
   rw [hlb, hlk]
   have hd := keeph hb5 hd
   have ho := keeph hb5 ho
   have hbb := below_trans hbb hb5 hn'
   have c0 : w5.cell? ⟨B, 0, none⟩ = some (.int .i64 0) := by rw [Lib.cell_of_heap hd]; rfl
   have c1 : w5.cell? ⟨B, 1, none⟩ = some (.int .i64 0) := by rw [Lib.cell_of_heap hd]; rfl
   have c2 : w5.cell? ⟨B, 2, none⟩ = some (.int .i64 0) := by rw [Lib.cell_of_heap hd]; rfl
   have c3 : w5.cell? ⟨B, 3, none⟩ = some (.int .u8 0) := by rw [Lib.cell_of_heap hd]; rfl
   have z0 : w5.frozen? ⟨B, 0, none⟩ = false := Lib.frozen_of_heap hd 0
   have z1 : w5.frozen? ⟨B, 1, none⟩ = false := Lib.frozen_of_heap hd 1
   have z2 : w5.frozen? ⟨B, 2, none⟩ = false := Lib.frozen_of_heap hd 2
   have z3 : w5.frozen? ⟨B, 3, none⟩ = false := Lib.frozen_of_heap hd 3
   have x0 := Lib.cell_of_heap ho 0
   have x1 := Lib.cell_of_heap ho 1
   have x2 := Lib.cell_of_heap ho 2
   have x3 := Lib.cell_of_heap ho 3
   cases LK
   all_goals go_wp2
   all_goals (
    refine bodyPost_ret (Tryz.read_res 3 0 v 0 (heap_set (heap_set (heap_set (heap_set hd 0 (.int .i64 3)) 1 (.int .i64 0)) 2 (.int .i64 v)) 3 (.int .u8 (0))) _ rfl) rfl ?_
    refine ⟨by rw [hlb, hlk]; rfl, ?_⟩
    rw [hB]
    exact (((hbb.setCell (p := ⟨B, 0, none⟩) (Nat.le_refl _) _).setCell (p := ⟨B, 1, none⟩) (Nat.le_refl _) _).setCell (p := ⟨B, 2, none⟩) (Nat.le_refl _) _).setCell (p := ⟨B, 3, none⟩) (Nat.le_refl _) _)
set_option maxHeartbeats 4000000 in
theorem Tryz.read_3 (s : ByteArray) (hs : s.size ≤ 140737488355328) (v : Int) (h : Lib.atoiAll (cutL 32 s.data.toList).2.1 = .ok v) (hword : (cutL 32 s.data.toList).1 = [115, 97, 118, 101]) (w : World) (hT : PowIs w) :
  Calls Tryz.prog 30 #[.string s] w fun e w' => e = .returned (.tuple #[opV 4 v 0 0, .bool ((lineB (4, v, 0, 0)).2 && ((lineB (4, v, 0, 0)).1.toList == s.toList))]) ∧ Below w.heap.size w w' := by
 have hcut := fun w => Tryz.cut s ⟨#[32]⟩ 32 rfl w hs
 have hr : (bOf (cutL 32 s.data.toList).2.1).size ≤ 140737488355328 := by
  have h1 := cut_rest 32 s.data.toList
  have h2 : s.size = s.data.toList.length := rfl
  show (cutL 32 s.data.toList).2.1.length ≤ _
  omega
 have hat := fun w => Tryz.atoi_good (bOf (cutL 32 s.data.toList).2.1) hr v h w
 rw [hword] at hcut
 clear hword
 have hne : ∀ j, j < 3 → ¬ (bOf (wordsL.getD j [])).toList = (bOf [115, 97, 118, 101]).toList := by
  intro j hj he
  have he2 := eq_lists (wordsL.getD j []) [115, 97, 118, 101]
  rw [he] at he2
  have hx : wordsL.getD j [] = [115, 97, 118, 101] := by simpa using he2
  revert hx
  have : j = 0 ∨ j = 1 ∨ j = 2 := by omega
  rcases this with rfl | rfl | rfl <;> decide
 generalize bOf (cutL 32 s.data.toList).2.1 = rest, (cutL 32 s.data.toList).2.2 = z at *
 clear h hr
 have hn : w.heap.size ≤ w.heap.size := Nat.le_refl _
 go_enter Tryz.func30, Tryz.ntmps30
 go_wp2_with fail
 have hb := (Below.refl w.heap.size w).alloc (Nat.le_refl _) (.cells (opC 0 0 0 0) 26)
 have hd : (w.alloc (.cells (opC 0 0 0 0) 26)).heap[w.heap.size]? = some (.cells (opC 0 0 0 0) 26 (0, 0)) := heap_alloc_new w _
 have hT : PowIs _ := tab_below hT hb
 generalize w.alloc (.cells (opC 0 0 0 0) 26) = W at *
 refine (hcut _).mono ?_
 rintro e w1 ⟨rfl, q, rfl⟩
 go_wp2_with fail
 refine (hat (W.drewN q)).mono ?_
 rintro e w2 ⟨rfl, hb2⟩
 have hb := below_trans hb hb2 hn
 have hd := keeph hb2 hd
 have hT : PowIs _ := tab_below hT hb2
 go_wp2_with fail
 refine (Tryz.words3 _).mono ?_
 rintro e w3 ⟨rfl, hb3, hw⟩
 have hb := below_trans hb hb3 hn
 have hd := keeph hb3 hd
 have hT : PowIs _ := tab_below hT hb3
 clear hat hcut hb2 hb3 hs
 generalize hB : w.heap.size = B at *
 have hn' : B ≤ w.heap.size := by omega
 go_wp2
 go_loopw [27] (fun i wr => (∃ k : Nat, k ≤ 3 ∧ i = .int .i64 k) ∧ Below w3.heap.size w3 wr) (fun i _ => 7 - (intOf i).toNat)
 case atStart => exact ⟨⟨0, Nat.zero_le _, rfl⟩, Below.refl _ _⟩
 case round =>
  obtain ⟨⟨k, hk, rfl⟩, hbr⟩ := hrel
  by_cases h6 : k < 3
  ·have i0 : (0 : Int) ≤ (k : Int) := by omega
   have i1 : (k : Int) < 6 := by omega
   have hcell := read_cells (keeph hbr hw) k (by omega)
   have hnk := hne k h6
   generalize bOf (wordsL.getD k []) = X at *
   generalize bOf [115, 97, 118, 101] = Y at *
   go_wp2
   all_goals exact ⟨⟨⟨k + 1, by omega, by simp⟩, hbr⟩, by simp [intOf]; omega⟩
  ·have hk6 : k = 3 := by omega
   subst hk6
   have hd0 := hd
   have hd := keeph hbr hd
   have hcell := read_cells (keeph hbr hw) 3 (by omega)
   have hbb := below_trans hb hbr hn'
   have hT : PowIs _ := tab_below hT hbr
   clear hne hb hw
   generalize hlb : (lineB (4, v, 0, 0)).1 = LT, hlk : (lineB (4, v, 0, 0)).2 = LK at *
   go_wp2_with fail
   have hb4 := (Below.refl wr.heap.size wr).alloc (Nat.le_refl _) (.cells (opC 4 0 0 (0)) 26)
   have ho : (wr.alloc (.cells (opC 4 0 0 (0)) 26)).heap[wr.heap.size]? = some (.cells (opC 4 0 0 (0)) 26 (0, 0)) := heap_alloc_new wr _
   have hbb := below_trans hbb hb4 hn'
   have hd := keeph hb4 hd
   have hT0 := hT
   have hT : PowIs _ := tab_below hT hb4
   have hBr : B < wr.heap.size := by
    have h5 := hd_lt hd0
    have h6 := hbr.size
    omega
   have hBr' : wr.heap.size < (wr.alloc (.cells (opC 4 0 0 (0)) 26)).heap.size := by simp
   have hTO : ∀ g, Tryz.prog.globalNamed "internal/strconv.uint64pow10" = some g → g < wr.heap.size := fun g hg => tab_lt hT0 hg
   generalize wr.alloc (.cells (opC 4 0 0 (0)) 26) = W4 at *
   generalize hO : wr.heap.size = O at *
   have k0 : W4.cell? ⟨O, 0, none⟩ = some (.int .i64 4) := by rw [Lib.cell_of_heap ho]; rfl
   have y1 : W4.cell? ⟨O, 1, none⟩ = some (.int .i64 0) := by rw [Lib.cell_of_heap ho]; rfl
   have y2 : W4.cell? ⟨O, 2, none⟩ = some (.int .i64 0) := by rw [Lib.cell_of_heap ho]; rfl
   have y3 : W4.cell? ⟨O, 3, none⟩ = some (.int .u8 0) := by rw [Lib.cell_of_heap ho]; rfl
   have yf : W4.frozen? ⟨O, 1, none⟩ = false := Lib.frozen_of_heap ho 1
   refine (Tryz.number_core O 4 (by decide) _ k0).mono ?_
   rintro e w5 ⟨rfl, rfl⟩
   go_wp2_with fail
   have hset := hbb.setCell (p := ⟨O, 1, none⟩) (Nat.le_of_lt hBr) (.int .i64 v)
   have ho := heap_set ho 1 (.int .i64 v)
   have hd : (w5.setCell ⟨O, 1, none⟩ (.int .i64 v)).heap[B]? = _ := (Below.heap_setCell w5 ⟨O, 1, none⟩ (.int .i64 v) B (by show B ≠ O; omega)).trans hd
   have hT : PowIs _ := tab_set hT hTO ⟨O, 1, none⟩ (.int .i64 v)
   generalize w5.setCell ⟨O, 1, none⟩ (.int .i64 v) = W6 at *
   clear k0 y1 y2 y3 yf hbb
   have hbb := hset
   refine (Tryz.line 4 v 0 0 (by omega) _ hT).mono ?_
   rintro e w5 ⟨rfl, hb5⟩
   rw [hlb, hlk]
   have hd := keeph hb5 hd
   have ho := keeph hb5 ho
   have hbb := below_trans hbb hb5 hn'
   have c0 : w5.cell? ⟨B, 0, none⟩ = some (.int .i64 0) := by rw [Lib.cell_of_heap hd]; rfl
   have c1 : w5.cell? ⟨B, 1, none⟩ = some (.int .i64 0) := by rw [Lib.cell_of_heap hd]; rfl
   have c2 : w5.cell? ⟨B, 2, none⟩ = some (.int .i64 0) := by rw [Lib.cell_of_heap hd]; rfl
   have c3 : w5.cell? ⟨B, 3, none⟩ = some (.int .u8 0) := by rw [Lib.cell_of_heap hd]; rfl
   have z0 : w5.frozen? ⟨B, 0, none⟩ = false := Lib.frozen_of_heap hd 0
   have z1 : w5.frozen? ⟨B, 1, none⟩ = false := Lib.frozen_of_heap hd 1
   have z2 : w5.frozen? ⟨B, 2, none⟩ = false := Lib.frozen_of_heap hd 2
   have z3 : w5.frozen? ⟨B, 3, none⟩ = false := Lib.frozen_of_heap hd 3
   have x0 := Lib.cell_of_heap ho 0
   have x1 := Lib.cell_of_heap ho 1
   have x2 := Lib.cell_of_heap ho 2
   have x3 := Lib.cell_of_heap ho 3
   cases LK
   all_goals go_wp2
   all_goals (
    refine bodyPost_ret (Tryz.read_res 4 v 0 0 (heap_set (heap_set (heap_set (heap_set hd 0 (.int .i64 4)) 1 (.int .i64 v)) 2 (.int .i64 0)) 3 (.int .u8 (0))) _ rfl) rfl ?_
    refine ⟨by rw [hlb, hlk]; rfl, ?_⟩
    rw [hB]
    exact (((hbb.setCell (p := ⟨B, 0, none⟩) (Nat.le_refl _) _).setCell (p := ⟨B, 1, none⟩) (Nat.le_refl _) _).setCell (p := ⟨B, 2, none⟩) (Nat.le_refl _) _).setCell (p := ⟨B, 3, none⟩) (Nat.le_refl _) _)
set_option maxHeartbeats 4000000 in
theorem Tryz.read_4 (s : ByteArray) (hs : s.size ≤ 140737488355328) (v : Int) (h : Lib.atoiAll (cutL 32 s.data.toList).2.1 = .ok v) (hword : (cutL 32 s.data.toList).1 = [114, 101, 115, 116, 111, 114, 101]) (w : World) (hT : PowIs w) :
  Calls Tryz.prog 30 #[.string s] w fun e w' => e = .returned (.tuple #[opV 5 v 0 0, .bool ((lineB (5, v, 0, 0)).2 && ((lineB (5, v, 0, 0)).1.toList == s.toList))]) ∧ Below w.heap.size w w' := by
 have hcut := fun w => Tryz.cut s ⟨#[32]⟩ 32 rfl w hs
 have hr : (bOf (cutL 32 s.data.toList).2.1).size ≤ 140737488355328 := by
  have h1 := cut_rest 32 s.data.toList
  have h2 : s.size = s.data.toList.length := rfl
  show (cutL 32 s.data.toList).2.1.length ≤ _
  omega
 have hat := fun w => Tryz.atoi_good (bOf (cutL 32 s.data.toList).2.1) hr v h w
 rw [hword] at hcut
 clear hword
 have hne : ∀ j, j < 4 → ¬ (bOf (wordsL.getD j [])).toList = (bOf [114, 101, 115, 116, 111, 114, 101]).toList := by
  intro j hj he
  have he2 := eq_lists (wordsL.getD j []) [114, 101, 115, 116, 111, 114, 101]
  rw [he] at he2
  have hx : wordsL.getD j [] = [114, 101, 115, 116, 111, 114, 101] := by simpa using he2
  revert hx
  have : j = 0 ∨ j = 1 ∨ j = 2 ∨ j = 3 := by omega
  rcases this with rfl | rfl | rfl | rfl <;> decide
 generalize bOf (cutL 32 s.data.toList).2.1 = rest, (cutL 32 s.data.toList).2.2 = z at *
 clear h hr
 have hn : w.heap.size ≤ w.heap.size := Nat.le_refl _
 go_enter Tryz.func30, Tryz.ntmps30
 go_wp2_with fail
 have hb := (Below.refl w.heap.size w).alloc (Nat.le_refl _) (.cells (opC 0 0 0 0) 26)
 have hd : (w.alloc (.cells (opC 0 0 0 0) 26)).heap[w.heap.size]? = some (.cells (opC 0 0 0 0) 26 (0, 0)) := heap_alloc_new w _
 have hT : PowIs _ := tab_below hT hb
 generalize w.alloc (.cells (opC 0 0 0 0) 26) = W at *
 refine (hcut _).mono ?_
 rintro e w1 ⟨rfl, q, rfl⟩
 go_wp2_with fail
 refine (hat (W.drewN q)).mono ?_
 rintro e w2 ⟨rfl, hb2⟩
 have hb := below_trans hb hb2 hn
 have hd := keeph hb2 hd
 have hT : PowIs _ := tab_below hT hb2
 go_wp2_with fail
 refine (Tryz.words3 _).mono ?_
 rintro e w3 ⟨rfl, hb3, hw⟩
 have hb := below_trans hb hb3 hn
 have hd := keeph hb3 hd
 have hT : PowIs _ := tab_below hT hb3
 clear hat hcut hb2 hb3 hs
 generalize hB : w.heap.size = B at *
 have hn' : B ≤ w.heap.size := by omega
 go_wp2
 go_loopw [27] (fun i wr => (∃ k : Nat, k ≤ 4 ∧ i = .int .i64 k) ∧ Below w3.heap.size w3 wr) (fun i _ => 7 - (intOf i).toNat)
 case atStart => exact ⟨⟨0, Nat.zero_le _, rfl⟩, Below.refl _ _⟩
 case round =>
  obtain ⟨⟨k, hk, rfl⟩, hbr⟩ := hrel
  by_cases h6 : k < 4
  ·have i0 : (0 : Int) ≤ (k : Int) := by omega
   have i1 : (k : Int) < 6 := by omega
   have hcell := read_cells (keeph hbr hw) k (by omega)
   have hnk := hne k h6
   generalize bOf (wordsL.getD k []) = X at *
   generalize bOf [114, 101, 115, 116, 111, 114, 101] = Y at *
   go_wp2
   all_goals exact ⟨⟨⟨k + 1, by omega, by simp⟩, hbr⟩, by simp [intOf]; omega⟩
  ·have hk6 : k = 4 := by omega
   subst hk6
   have hd0 := hd
   have hd := keeph hbr hd
   have hcell := read_cells (keeph hbr hw) 4 (by omega)
   have hbb := below_trans hb hbr hn'
   have hT : PowIs _ := tab_below hT hbr
   clear hne hb hw
   generalize hlb : (lineB (5, v, 0, 0)).1 = LT, hlk : (lineB (5, v, 0, 0)).2 = LK at *
   go_wp2_with fail
   have hb4 := (Below.refl wr.heap.size wr).alloc (Nat.le_refl _) (.cells (opC 5 0 0 (0)) 26)
   have ho : (wr.alloc (.cells (opC 5 0 0 (0)) 26)).heap[wr.heap.size]? = some (.cells (opC 5 0 0 (0)) 26 (0, 0)) := heap_alloc_new wr _
   have hbb := below_trans hbb hb4 hn'
   have hd := keeph hb4 hd
   have hT0 := hT
   have hT : PowIs _ := tab_below hT hb4
   have hBr : B < wr.heap.size := by
    have h5 := hd_lt hd0
    have h6 := hbr.size
    omega
   have hBr' : wr.heap.size < (wr.alloc (.cells (opC 5 0 0 (0)) 26)).heap.size := by simp
   have hTO : ∀ g, Tryz.prog.globalNamed "internal/strconv.uint64pow10" = some g → g < wr.heap.size := fun g hg => tab_lt hT0 hg
   generalize wr.alloc (.cells (opC 5 0 0 (0)) 26) = W4 at *
   generalize hO : wr.heap.size = O at *
   have k0 : W4.cell? ⟨O, 0, none⟩ = some (.int .i64 5) := by rw [Lib.cell_of_heap ho]; rfl
   have y1 : W4.cell? ⟨O, 1, none⟩ = some (.int .i64 0) := by rw [Lib.cell_of_heap ho]; rfl
   have y2 : W4.cell? ⟨O, 2, none⟩ = some (.int .i64 0) := by rw [Lib.cell_of_heap ho]; rfl
   have y3 : W4.cell? ⟨O, 3, none⟩ = some (.int .u8 0) := by rw [Lib.cell_of_heap ho]; rfl
   have yf : W4.frozen? ⟨O, 1, none⟩ = false := Lib.frozen_of_heap ho 1
   refine (Tryz.number_core O 5 (by decide) _ k0).mono ?_
   rintro e w5 ⟨rfl, rfl⟩
   go_wp2_with fail
   have hset := hbb.setCell (p := ⟨O, 1, none⟩) (Nat.le_of_lt hBr) (.int .i64 v)
   have ho := heap_set ho 1 (.int .i64 v)
   have hd : (w5.setCell ⟨O, 1, none⟩ (.int .i64 v)).heap[B]? = _ := (Below.heap_setCell w5 ⟨O, 1, none⟩ (.int .i64 v) B (by show B ≠ O; omega)).trans hd
   have hT : PowIs _ := tab_set hT hTO ⟨O, 1, none⟩ (.int .i64 v)
   generalize w5.setCell ⟨O, 1, none⟩ (.int .i64 v) = W6 at *
   clear k0 y1 y2 y3 yf hbb
   have hbb := hset
   refine (Tryz.line 5 v 0 0 (by omega) _ hT).mono ?_
   rintro e w5 ⟨rfl, hb5⟩
   rw [hlb, hlk]
   have hd := keeph hb5 hd
   have ho := keeph hb5 ho
   have hbb := below_trans hbb hb5 hn'
   have c0 : w5.cell? ⟨B, 0, none⟩ = some (.int .i64 0) := by rw [Lib.cell_of_heap hd]; rfl
   have c1 : w5.cell? ⟨B, 1, none⟩ = some (.int .i64 0) := by rw [Lib.cell_of_heap hd]; rfl
   have c2 : w5.cell? ⟨B, 2, none⟩ = some (.int .i64 0) := by rw [Lib.cell_of_heap hd]; rfl
   have c3 : w5.cell? ⟨B, 3, none⟩ = some (.int .u8 0) := by rw [Lib.cell_of_heap hd]; rfl
   have z0 : w5.frozen? ⟨B, 0, none⟩ = false := Lib.frozen_of_heap hd 0
   have z1 : w5.frozen? ⟨B, 1, none⟩ = false := Lib.frozen_of_heap hd 1
   have z2 : w5.frozen? ⟨B, 2, none⟩ = false := Lib.frozen_of_heap hd 2
   have z3 : w5.frozen? ⟨B, 3, none⟩ = false := Lib.frozen_of_heap hd 3
   have x0 := Lib.cell_of_heap ho 0
   have x1 := Lib.cell_of_heap ho 1
   have x2 := Lib.cell_of_heap ho 2
   have x3 := Lib.cell_of_heap ho 3
   cases LK
   all_goals go_wp2
   all_goals (
    refine bodyPost_ret (Tryz.read_res 5 v 0 0 (heap_set (heap_set (heap_set (heap_set hd 0 (.int .i64 5)) 1 (.int .i64 v)) 2 (.int .i64 0)) 3 (.int .u8 (0))) _ rfl) rfl ?_
    refine ⟨by rw [hlb, hlk]; rfl, ?_⟩
    rw [hB]
    exact (((hbb.setCell (p := ⟨B, 0, none⟩) (Nat.le_refl _) _).setCell (p := ⟨B, 1, none⟩) (Nat.le_refl _) _).setCell (p := ⟨B, 2, none⟩) (Nat.le_refl _) _).setCell (p := ⟨B, 3, none⟩) (Nat.le_refl _) _)
set_option maxHeartbeats 4000000 in
theorem Tryz.read_5 (s : ByteArray) (hs : s.size ≤ 140737488355328) (v : Int) (h : Lib.atoiAll (cutL 32 s.data.toList).2.1 = .ok v) (hword : (cutL 32 s.data.toList).1 = [109, 111, 118, 101]) (w : World) (hT : PowIs w) :
  Calls Tryz.prog 30 #[.string s] w fun e w' => e = .returned (.tuple #[opV 6 v 0 0, .bool ((lineB (6, v, 0, 0)).2 && ((lineB (6, v, 0, 0)).1.toList == s.toList))]) ∧ Below w.heap.size w w' := by
 have hcut := fun w => Tryz.cut s ⟨#[32]⟩ 32 rfl w hs
 have hr : (bOf (cutL 32 s.data.toList).2.1).size ≤ 140737488355328 := by
  have h1 := cut_rest 32 s.data.toList
  have h2 : s.size = s.data.toList.length := rfl
  show (cutL 32 s.data.toList).2.1.length ≤ _
  omega
 have hat := fun w => Tryz.atoi_good (bOf (cutL 32 s.data.toList).2.1) hr v h w
 rw [hword] at hcut
 clear hword
 have hne : ∀ j, j < 5 → ¬ (bOf (wordsL.getD j [])).toList = (bOf [109, 111, 118, 101]).toList := by
  intro j hj he
  have he2 := eq_lists (wordsL.getD j []) [109, 111, 118, 101]
  rw [he] at he2
  have hx : wordsL.getD j [] = [109, 111, 118, 101] := by simpa using he2
  revert hx
  have : j = 0 ∨ j = 1 ∨ j = 2 ∨ j = 3 ∨ j = 4 := by omega
  rcases this with rfl | rfl | rfl | rfl | rfl <;> decide
 generalize bOf (cutL 32 s.data.toList).2.1 = rest, (cutL 32 s.data.toList).2.2 = z at *
 clear h hr
 have hn : w.heap.size ≤ w.heap.size := Nat.le_refl _
 go_enter Tryz.func30, Tryz.ntmps30
 go_wp2_with fail
 have hb := (Below.refl w.heap.size w).alloc (Nat.le_refl _) (.cells (opC 0 0 0 0) 26)
 have hd : (w.alloc (.cells (opC 0 0 0 0) 26)).heap[w.heap.size]? = some (.cells (opC 0 0 0 0) 26 (0, 0)) := heap_alloc_new w _
 have hT : PowIs _ := tab_below hT hb
 generalize w.alloc (.cells (opC 0 0 0 0) 26) = W at *
 refine (hcut _).mono ?_
 rintro e w1 ⟨rfl, q, rfl⟩
 go_wp2_with fail
 refine (hat (W.drewN q)).mono ?_
 rintro e w2 ⟨rfl, hb2⟩
 have hb := below_trans hb hb2 hn
 have hd := keeph hb2 hd
 have hT : PowIs _ := tab_below hT hb2
 go_wp2_with fail
 refine (Tryz.words3 _).mono ?_
 rintro e w3 ⟨rfl, hb3, hw⟩
 have hb := below_trans hb hb3 hn
 have hd := keeph hb3 hd
 have hT : PowIs _ := tab_below hT hb3
 clear hat hcut hb2 hb3 hs
 generalize hB : w.heap.size = B at *
 have hn' : B ≤ w.heap.size := by omega
 go_wp2
 go_loopw [27] (fun i wr => (∃ k : Nat, k ≤ 5 ∧ i = .int .i64 k) ∧ Below w3.heap.size w3 wr) (fun i _ => 7 - (intOf i).toNat)
 case atStart => exact ⟨⟨0, Nat.zero_le _, rfl⟩, Below.refl _ _⟩
 case round =>
  obtain ⟨⟨k, hk, rfl⟩, hbr⟩ := hrel
  by_cases h6 : k < 5
  ·have i0 : (0 : Int) ≤ (k : Int) := by omega
   have i1 : (k : Int) < 6 := by omega
   have hcell := read_cells (keeph hbr hw) k (by omega)
   have hnk := hne k h6
   generalize bOf (wordsL.getD k []) = X at *
   generalize bOf [109, 111, 118, 101] = Y at *
   go_wp2
   all_goals exact ⟨⟨⟨k + 1, by omega, by simp⟩, hbr⟩, by simp [intOf]; omega⟩
  ·have hk6 : k = 5 := by omega
   subst hk6
   have hd0 := hd
   have hd := keeph hbr hd
   have hcell := read_cells (keeph hbr hw) 5 (by omega)
   have hbb := below_trans hb hbr hn'
   have hT : PowIs _ := tab_below hT hbr
   clear hne hb hw
   generalize hlb : (lineB (6, v, 0, 0)).1 = LT, hlk : (lineB (6, v, 0, 0)).2 = LK at *
   go_wp2_with fail
   have hb4 := (Below.refl wr.heap.size wr).alloc (Nat.le_refl _) (.cells (opC 6 0 0 (0)) 26)
   have ho : (wr.alloc (.cells (opC 6 0 0 (0)) 26)).heap[wr.heap.size]? = some (.cells (opC 6 0 0 (0)) 26 (0, 0)) := heap_alloc_new wr _
   have hbb := below_trans hbb hb4 hn'
   have hd := keeph hb4 hd
   have hT0 := hT
   have hT : PowIs _ := tab_below hT hb4
   have hBr : B < wr.heap.size := by
    have h5 := hd_lt hd0
    have h6 := hbr.size
    omega
   have hBr' : wr.heap.size < (wr.alloc (.cells (opC 6 0 0 (0)) 26)).heap.size := by simp
   have hTO : ∀ g, Tryz.prog.globalNamed "internal/strconv.uint64pow10" = some g → g < wr.heap.size := fun g hg => tab_lt hT0 hg
   generalize wr.alloc (.cells (opC 6 0 0 (0)) 26) = W4 at *
   generalize hO : wr.heap.size = O at *
   have k0 : W4.cell? ⟨O, 0, none⟩ = some (.int .i64 6) := by rw [Lib.cell_of_heap ho]; rfl
   have y1 : W4.cell? ⟨O, 1, none⟩ = some (.int .i64 0) := by rw [Lib.cell_of_heap ho]; rfl
   have y2 : W4.cell? ⟨O, 2, none⟩ = some (.int .i64 0) := by rw [Lib.cell_of_heap ho]; rfl
   have y3 : W4.cell? ⟨O, 3, none⟩ = some (.int .u8 0) := by rw [Lib.cell_of_heap ho]; rfl
   have yf : W4.frozen? ⟨O, 1, none⟩ = false := Lib.frozen_of_heap ho 1
   refine (Tryz.number_core O 6 (by decide) _ k0).mono ?_
   rintro e w5 ⟨rfl, rfl⟩
   go_wp2_with fail
   have hset := hbb.setCell (p := ⟨O, 1, none⟩) (Nat.le_of_lt hBr) (.int .i64 v)
   have ho := heap_set ho 1 (.int .i64 v)
   have hd : (w5.setCell ⟨O, 1, none⟩ (.int .i64 v)).heap[B]? = _ := (Below.heap_setCell w5 ⟨O, 1, none⟩ (.int .i64 v) B (by show B ≠ O; omega)).trans hd
   have hT : PowIs _ := tab_set hT hTO ⟨O, 1, none⟩ (.int .i64 v)
   generalize w5.setCell ⟨O, 1, none⟩ (.int .i64 v) = W6 at *
   clear k0 y1 y2 y3 yf hbb
   have hbb := hset
   refine (Tryz.line 6 v 0 0 (by omega) _ hT).mono ?_
   rintro e w5 ⟨rfl, hb5⟩
   rw [hlb, hlk]
   have hd := keeph hb5 hd
   have ho := keeph hb5 ho
   have hbb := below_trans hbb hb5 hn'
   have c0 : w5.cell? ⟨B, 0, none⟩ = some (.int .i64 0) := by rw [Lib.cell_of_heap hd]; rfl
   have c1 : w5.cell? ⟨B, 1, none⟩ = some (.int .i64 0) := by rw [Lib.cell_of_heap hd]; rfl
   have c2 : w5.cell? ⟨B, 2, none⟩ = some (.int .i64 0) := by rw [Lib.cell_of_heap hd]; rfl
   have c3 : w5.cell? ⟨B, 3, none⟩ = some (.int .u8 0) := by rw [Lib.cell_of_heap hd]; rfl
   have z0 : w5.frozen? ⟨B, 0, none⟩ = false := Lib.frozen_of_heap hd 0
   have z1 : w5.frozen? ⟨B, 1, none⟩ = false := Lib.frozen_of_heap hd 1
   have z2 : w5.frozen? ⟨B, 2, none⟩ = false := Lib.frozen_of_heap hd 2
   have z3 : w5.frozen? ⟨B, 3, none⟩ = false := Lib.frozen_of_heap hd 3
   have x0 := Lib.cell_of_heap ho 0
   have x1 := Lib.cell_of_heap ho 1
   have x2 := Lib.cell_of_heap ho 2
   have x3 := Lib.cell_of_heap ho 3
   cases LK
   all_goals go_wp2
   all_goals (
    refine bodyPost_ret (Tryz.read_res 6 v 0 0 (heap_set (heap_set (heap_set (heap_set hd 0 (.int .i64 6)) 1 (.int .i64 v)) 2 (.int .i64 0)) 3 (.int .u8 (0))) _ rfl) rfl ?_
    refine ⟨by rw [hlb, hlk]; rfl, ?_⟩
    rw [hB]
    exact (((hbb.setCell (p := ⟨B, 0, none⟩) (Nat.le_refl _) _).setCell (p := ⟨B, 1, none⟩) (Nat.le_refl _) _).setCell (p := ⟨B, 2, none⟩) (Nat.le_refl _) _).setCell (p := ⟨B, 3, none⟩) (Nat.le_refl _) _)
set_option maxHeartbeats 4000000 in
theorem Tryz.read_6 (s : ByteArray) (hs : s.size ≤ 140737488355328) (v : Int) (h : Lib.atoiAll (cutL 32 s.data.toList).2.1 = .ok v) (hword : ∀ j, j < 6 → wordsL.getD j [] ≠ (cutL 32 s.data.toList).1) (w : World) (hT : PowIs w) :
  Calls Tryz.prog 30 #[.string s] w fun e w' => e = .returned (.tuple #[opV 0 0 0 0, .bool false]) ∧ Below w.heap.size w w' := by
 have hcut := fun w => Tryz.cut s ⟨#[32]⟩ 32 rfl w hs
 have hr : (bOf (cutL 32 s.data.toList).2.1).size ≤ 140737488355328 := by
  have h1 := cut_rest 32 s.data.toList
  have h2 : s.size = s.data.toList.length := rfl
  show (cutL 32 s.data.toList).2.1.length ≤ _
  omega
 have hat := fun w => Tryz.atoi_good (bOf (cutL 32 s.data.toList).2.1) hr v h w
 obtain ⟨wl, hwl⟩ : ∃ wl, wl = (cutL 32 s.data.toList).1 := ⟨_, rfl⟩
 rw [← hwl] at hcut hword
 have hne : ∀ j, j < 6 → ¬ (bOf (wordsL.getD j [])).toList = (bOf wl).toList := by
  intro j hj he
  have he2 := eq_lists (wordsL.getD j []) wl
  rw [he] at he2
  exact hword j hj (by simpa using he2)
 clear hword hwl
 generalize bOf (cutL 32 s.data.toList).2.1 = rest, (cutL 32 s.data.toList).2.2 = z at *
 clear h hr
 have hn : w.heap.size ≤ w.heap.size := Nat.le_refl _
 go_enter Tryz.func30, Tryz.ntmps30
 go_wp2_with fail
 have hb := (Below.refl w.heap.size w).alloc (Nat.le_refl _) (.cells (opC 0 0 0 0) 26)
 have hd : (w.alloc (.cells (opC 0 0 0 0) 26)).heap[w.heap.size]? = some (.cells (opC 0 0 0 0) 26 (0, 0)) := heap_alloc_new w _
 have hT : PowIs _ := tab_below hT hb
 generalize w.alloc (.cells (opC 0 0 0 0) 26) = W at *
 refine (hcut _).mono ?_
 rintro e w1 ⟨rfl, q, rfl⟩
 go_wp2_with fail
 refine (hat (W.drewN q)).mono ?_
 rintro e w2 ⟨rfl, hb2⟩
 have hb := below_trans hb hb2 hn
 have hd := keeph hb2 hd
 have hT : PowIs _ := tab_below hT hb2
 go_wp2_with fail
 refine (Tryz.words3 _).mono ?_
 rintro e w3 ⟨rfl, hb3, hw⟩
 have hb := below_trans hb hb3 hn
 have hd := keeph hb3 hd
 have hT : PowIs _ := tab_below hT hb3
 clear hat hcut hb2 hb3 hs
 generalize hB : w.heap.size = B at *
 have hn' : B ≤ w.heap.size := by omega
 go_wp2
 go_loopw [27] (fun i wr => (∃ k : Nat, k ≤ 6 ∧ i = .int .i64 k) ∧ Below w3.heap.size w3 wr) (fun i _ => 7 - (intOf i).toNat)
 case atStart => exact ⟨⟨0, Nat.zero_le _, rfl⟩, Below.refl _ _⟩
 case round =>
  obtain ⟨⟨k, hk, rfl⟩, hbr⟩ := hrel
  by_cases h6 : k < 6
  ·have i0 : (0 : Int) ≤ (k : Int) := by omega
   have i1 : (k : Int) < 6 := by omega
   have hcell := read_cells (keeph hbr hw) k (by omega)
   have hnk := hne k h6
   generalize bOf (wordsL.getD k []) = X at *
   generalize bOf wl = Y at *
   go_wp2
   all_goals exact ⟨⟨⟨k + 1, by omega, by simp⟩, hbr⟩, by simp [intOf]; omega⟩
  ·have hk6 : k = 6 := by omega
   subst hk6
   have hd0 := hd
   have hd := keeph hbr hd
   have c0 : wr.cell? ⟨B, 0, none⟩ = some (.int .i64 0) := by rw [Lib.cell_of_heap hd]; rfl
   have c1 : wr.cell? ⟨B, 1, none⟩ = some (.int .i64 0) := by rw [Lib.cell_of_heap hd]; rfl
   have c2 : wr.cell? ⟨B, 2, none⟩ = some (.int .i64 0) := by rw [Lib.cell_of_heap hd]; rfl
   have c3 : wr.cell? ⟨B, 3, none⟩ = some (.int .u8 0) := by rw [Lib.cell_of_heap hd]; rfl
   have z0 : wr.frozen? ⟨B, 0, none⟩ = false := Lib.frozen_of_heap hd 0
   have z1 : wr.frozen? ⟨B, 1, none⟩ = false := Lib.frozen_of_heap hd 1
   have z2 : wr.frozen? ⟨B, 2, none⟩ = false := Lib.frozen_of_heap hd 2
   have z3 : wr.frozen? ⟨B, 3, none⟩ = false := Lib.frozen_of_heap hd 3
   go_wp2
   have hd2 := heap_set (heap_set (heap_set (heap_set hd 0 (.int .i64 0)) 1 (.int .i64 0)) 2 (.int .i64 0)) 3 (.int .u8 0)
   refine bodyPost_ret (Tryz.read_res 0 0 0 0 hd2 _ rfl) rfl ?_
   refine ⟨rfl, ?_⟩
   have hbb := below_trans hb hbr hn'
   rw [hB]
   exact (((hbb.setCell (p := ⟨B, 0, none⟩) (Nat.le_refl _) _).setCell (p := ⟨B, 1, none⟩) (Nat.le_refl _) _).setCell (p := ⟨B, 2, none⟩) (Nat.le_refl _) _).setCell (p := ⟨B, 3, none⟩) (Nat.le_refl _) _
end Go.Proofs
