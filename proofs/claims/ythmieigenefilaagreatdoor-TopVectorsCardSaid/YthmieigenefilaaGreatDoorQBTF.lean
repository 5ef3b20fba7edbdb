import Derived.Test.YthmieigenefilaaGreatDoorQBTE
set_option linter.unusedVariables false
set_option linter.unusedSimpArgs false
set_option maxRecDepth 100000
namespace Go.Proofs
open Go.RowKit Go.Bn
theorem cell_keep (w : World) (o : Obj) {b j : Nat} {v : Value} (h : w.cell? ⟨b, j, none⟩ = some v) : (w.alloc o).cell? ⟨b, j, none⟩ = some v :=
 (World.cell?_of_block (Below.heap_alloc w o b (Lib.lt_of_cell h))).trans h
theorem lineB_no (o : Bn.Op) (h : numOf o < 0 ∨ numOf o > 1099511627776) : lineB o = (bOf [], false) := by
 unfold lineB lineL
 by_cases h1 : o.1 < 1 ∨ o.1 > 6
 ·rw [if_pos h1]
 ·rw [if_neg h1, if_pos h]
theorem lineB_out (o : Bn.Op) (h : o.1 < 1 ∨ o.1 > 6) : lineB o = (bOf [], false) := by
 unfold lineB lineL
 rw [if_pos h]
theorem lineB_ok (o : Bn.Op) (h : ¬ (o.1 < 1 ∨ o.1 > 6)) (h2 : ¬ (numOf o < 0 ∨ numOf o > 1099511627776)) : lineB o = (bOf (wordsL.getD (o.1 - 1).toNat [] ++ [32] ++ itoaL (numOf o)), true) := by
 unfold lineB lineL
 rw [if_neg h, if_neg h2]
theorem numOf_one (c n b : Int) : numOf (1, c, n, b) = b := by simp [numOf]
theorem numOf_three (c n b : Int) : numOf (3, c, n, b) = n := by simp [numOf]
theorem numOf_else (k c n b : Int) (h1 : k ≠ 1) (h3 : k ≠ 3) : numOf (k, c, n, b) = c := by simp [numOf, h1, h3]
theorem Tryz.line (k c n b : Int) (hb : 0 ≤ b ∧ b ≤ 255) (w : World) (hT : PowIs w) :
  Calls Tryz.prog 54 #[opV k c n b] w fun e w' => e = .returned (.tuple #[.string (lineB (k, c, n, b)).1, .bool (lineB (k, c, n, b)).2]) ∧ Below w.heap.size w w' := by
 by_cases h0 : k < 1
 ·rw [lineB_out (k, c, n, b) (.inl h0)]; exact Tryz.line_kind0 k c n b h0 w
 by_cases h7 : 6 < k
 ·rw [lineB_out (k, c, n, b) (.inr h7)]; exact Tryz.line_kind7 k c n b h7 w
 have hk : ¬ (k < 1 ∨ k > 6) := by omega
 by_cases hn : numOf (k, c, n, b) < 0 ∨ numOf (k, c, n, b) > 1099511627776
 ·rw [lineB_no _ hn]
  by_cases h1 : k = 1
  ·subst h1; rw [numOf_one] at hn; omega
  by_cases h3 : k = 3
  ·subst h3
   rw [numOf_three] at hn
   rcases hn with hn | hn
   ·exact Tryz.line_read_neg c n b hn w hT
   ·exact Tryz.line_read_big c n b hn w hT
  ·rw [numOf_else k c n b h1 h3] at hn
   rcases hn with hn | hn
   ·exact Tryz.line_other_neg k c n b (by omega) (by omega) h3 hn w hT
   ·exact Tryz.line_other_big k c n b (by omega) (by omega) h3 hn w hT
 ·rw [lineB_ok (k, c, n, b) hk hn]
  by_cases h1 : k = 1
  ·subst h1; rw [numOf_one]; exact Tryz.line_byte_ok c n b hb.1 hb.2 w hT
  by_cases h3 : k = 3
  ·subst h3
   rw [numOf_three] at hn ⊢
   exact Tryz.line_read_ok c n b (by omega) (by omega) w hT
  ·rw [numOf_else k c n b h1 h3] at hn ⊢
   exact Tryz.line_other_ok k c n b (by omega) (by omega) h3 (k - 1).toNat (by omega) (by omega) (by omega) w hT
theorem Tryz.atoi_bad (s : ByteArray) (hs : s.size ≤ 140737488355328) (h : ∀ v, Lib.atoiAll s.data.toList ≠ .ok v) (w : World) (h2 : ∃ te pe, w.cell? ⟨1, 0, none⟩ = some (.iface te pe)) (h3 : ∃ te pe, w.cell? ⟨2, 0, none⟩ = some (.iface te pe)) :
  Calls Tryz.prog 51 #[.string s] w fun e w' => ∃ n x, e = .returned (.tuple #[.int .i64 n, .iface 195 x]) ∧ Below w.heap.size w w' := by
 obtain ⟨t2, p2, h2⟩ := h2
 obtain ⟨t3, p3, h3⟩ := h3
 have h4 : Lib.atoiAll s.data.toList = Lib.NumEnd.syntax ∨ Lib.atoiAll s.data.toList = Lib.NumEnd.range := by
  generalize Lib.atoiAll s.data.toList = x at h
  exact match x, h with
   | .ok v, h => absurd rfl (h v)
   | Lib.NumEnd.syntax, _ => .inl rfl
   | .range, _ => .inr rfl
 rcases h4 with ha | ha
 ·exact (Tryz.strconv_Atoi_syntax s (by omega) ha _ w h2 (.inr ⟨_, _, rfl⟩)).mono (by rintro e w' ⟨N, rfl, _, _, hb⟩; exact ⟨_, _, rfl, hb⟩)
 ·exact (Tryz.strconv_Atoi_range s (by omega) ha _ w h3 (.inr ⟨_, _, rfl⟩)).mono (by rintro e w' ⟨N, rfl, _, _, hb⟩; exact ⟨_, _, rfl, hb⟩)
theorem Tryz.atoi_good (s : ByteArray) (hs : s.size ≤ 140737488355328) (v : Int) (h : Lib.atoiAll s.data.toList = .ok v) (w : World) :
  Calls Tryz.prog 51 #[.string s] w fun e w' => e = .returned (.tuple #[.int .i64 v, .nilIface]) ∧ Below w.heap.size w w' :=
 (Tryz.strconv_Atoi_ok s (by omega) v h w).mono (by
  rintro e w' ⟨rfl, rfl | ⟨t, rfl⟩⟩
  ·exact ⟨rfl, Below.refl _ _⟩
  ·exact ⟨rfl, Lib.bytesWorld_below _ _ _⟩)
theorem keeph {w b w' : World} {g : Nat} {o : Obj} (hb : Below b.heap.size b w') (h : w.heap[g]? = some o) (e : b.heap = w.heap := by rfl) : w'.heap[g]? = some o := by
 have hlt : g < w.heap.size := by
  rcases Nat.lt_or_ge g w.heap.size with h' | h'
  ·exact h'
  ·rw [Array.getElem?_eq_none h'] at h; cases h
 rw [hb.block g (by rw [e]; exact hlt), e]; exact h
theorem hd_lt {w : World} {g : Nat} {o : Obj} (h : w.heap[g]? = some o) : g < w.heap.size := by
 rcases Nat.lt_or_ge g w.heap.size with h' | h'
 ·exact h'
 ·rw [Array.getElem?_eq_none h'] at h; cases h
theorem tab_lt {w : World} {P : Program} {nm : String} {k : IntKind} {zs : List Int} (h : Lib.TabIs P w nm k zs) {g : Nat} (hg : P.globalNamed nm = some g) : g < w.heap.size := by
 unfold Lib.TabIs World.var? at h
 rw [hg] at h
 simp only [Option.bind_some] at h
 rcases Nat.lt_or_ge g w.heap.size with h' | h'
 ·exact h'
 ·rw [Array.getElem?_eq_none h'] at h; cases h
theorem tab_set {w : World} {P : Program} {nm : String} {k : IntKind} {zs : List Int} (h : Lib.TabIs P w nm k zs) {n : Nat} (hn : ∀ g, P.globalNamed nm = some g → g < n) (p : Addr) (v : Value) (hp : n ≤ p.block := by exact Nat.le_refl _) : Lib.TabIs P (w.setCell p v) nm k zs := by
 unfold Lib.TabIs World.var? at *
 cases hg : P.globalNamed nm with
 | none => rw [hg] at h; simp at h
 | some g =>
  rw [hg] at h
  simp only [Option.bind_some] at h ⊢
  have := hn g hg
  rw [Below.heap_setCell w p v g (by omega)]
  exact h
theorem cut_rest (c : UInt8) : ∀ l : List UInt8, (cutL c l).2.1.length ≤ l.length
 | [] => Nat.le_refl _
 | b :: r => by
  unfold cutL
  split
  ·simp
  ·have := cut_rest c r; simp; omega
theorem eq_lists (a b : List UInt8) : ((bOf a).toList == (bOf b).toList) = decide (a = b) := by
 rw [ByteArray.toList_eq, ByteArray.toList_eq, Bool.eq_iff_iff]
 simp [bOf]
theorem read_cells {W : World} {N : Nat} (h : W.heap[N]? = some (.cells wordsV 9 (0, 0))) (j : Nat) (hj : j < 6) : W.cell? ⟨N, j, none⟩ = some (.string (bOf (wordsL.getD j []))) := by
 rw [Lib.cell_of_heap h]
 have : j = 0 ∨ j = 1 ∨ j = 2 ∨ j = 3 ∨ j = 4 ∨ j = 5 := by omega
 rcases this with rfl | rfl | rfl | rfl | rfl | rfl <;> rfl
theorem Tryz.words3 (w : World) : Calls Tryz.prog 52 #[] w fun e w' => e = .returned (.slice (some ⟨w.heap.size, 0, none⟩) 6 6) ∧ Below w.heap.size w w' ∧ w'.heap[w.heap.size]? = some (.cells wordsV 9 (0, 0)) :=
 (Tryz.words w).mono (by rintro e w' ⟨rfl, rfl⟩; exact ⟨rfl, (Below.refl _ _).alloc (Nat.le_refl _) _, heap_alloc_new w _⟩)
theorem heap_set {w : World} {g : Nat} {cs : Array Value} {t : TypeId} {fz : Nat × Nat} (h : w.heap[g]? = some (.cells cs t fz)) (o : Nat) (u : Value) :
  (w.setCell ⟨g, o, none⟩ u).heap[g]? = some (.cells (cs.setIfInBounds o u) t fz) := by
 have hlt : g < w.heap.size := (Array.getElem?_eq_some_iff.1 h).1
 have h' : w.heap[g] = .cells cs t fz := (Array.getElem?_eq_some_iff.1 h).2
 show (w.heap.modify g _)[g]? = _
 rw [Array.getElem?_modify, if_pos rfl, Array.getElem?_eq_getElem hlt, h']; rfl
theorem Tryz.read_res {W : World} {B : Nat} (k c n b : Int) (h : W.heap[B]? = some (.cells (opC k c n b) 26 (0, 0))) (tmps : Array Value) (hB : tmps.getD 2 undef = .pointer (some ⟨B, 0, none⟩)) :
  (results Tryz.f30 tmps).run Tryz.prog W = .ok (.tuple #[opV k c n b, tmps.getD 3 undef]) W := by
 have c0 : W.cell? ⟨B, 0, none⟩ = some (.int .i64 k) := by rw [Lib.cell_of_heap h]; rfl
 have c1 : W.cell? ⟨B, 1, none⟩ = some (.int .i64 c) := by rw [Lib.cell_of_heap h]; rfl
 have c2 : W.cell? ⟨B, 2, none⟩ = some (.int .i64 n) := by rw [Lib.cell_of_heap h]; rfl
 have c3 : W.cell? ⟨B, 3, none⟩ = some (.int .u8 b) := by rw [Lib.cell_of_heap h]; rfl
 rw [results_cell_tmp (show Tryz.f30.results = #[.cell 2 26, .tmp 3] by kernel_rfl), hB]
 generalize tmps.getD 3 undef = y
 go_simp
set_option maxHeartbeats 4000000 in
theorem Tryz.read_bad (s : ByteArray) (hs : s.size ≤ 140737488355328) (h : ∀ v, Lib.atoiAll (cutL 32 s.data.toList).2.1 ≠ .ok v) (w : World) (h2 : ∃ te pe, w.cell? ⟨1, 0, none⟩ = some (.iface te pe)) (h3 : ∃ te pe, w.cell? ⟨2, 0, none⟩ = some (.iface te pe)) :
  Calls Tryz.prog 30 #[.string s] w fun e w' => e = .returned (.tuple #[opV 0 0 0 0, .bool false]) ∧ Below w.heap.size w w' := by
 have hcut := fun w => Tryz.cut s ⟨#[32]⟩ 32 rfl w hs
 have hr : (bOf (cutL 32 s.data.toList).2.1).size ≤ 140737488355328 := by
  have h1 := cut_rest 32 s.data.toList
  have h2 : s.size = s.data.toList.length := rfl
  show (cutL 32 s.data.toList).2.1.length ≤ _
  omega
 have hat := fun w => Tryz.atoi_bad (bOf (cutL 32 s.data.toList).2.1) hr h w
 obtain ⟨wl, hwl⟩ : ∃ wl, wl = (cutL 32 s.data.toList).1 := ⟨_, rfl⟩
 rw [← hwl] at hcut
 generalize bOf (cutL 32 s.data.toList).2.1 = rest, (cutL 32 s.data.toList).2.2 = z at *
 clear h hs hr hwl
 have hn : w.heap.size ≤ w.heap.size := Nat.le_refl _
 go_enter Tryz.func30, Tryz.ntmps30
 go_wp2_with fail
 have hb := (Below.refl w.heap.size w).alloc (Nat.le_refl _) (.cells (opC 0 0 0 0) 26)
 have hd : (w.alloc (.cells (opC 0 0 0 0) 26)).heap[w.heap.size]? = some (.cells (opC 0 0 0 0) 26 (0, 0)) := heap_alloc_new w _
 obtain ⟨t2, p2, h2⟩ := h2
 obtain ⟨t3, p3, h3⟩ := h3
 have h2 := cell_keep w (.cells (opC 0 0 0 0) 26) h2
 have h3 := cell_keep w (.cells (opC 0 0 0 0) 26) h3
 generalize w.alloc (.cells (opC 0 0 0 0) 26) = W at *
 refine (hcut _).mono ?_
 rintro e w1 ⟨rfl, q, rfl⟩
 go_wp2_with fail
 refine (hat (W.drewN q) ⟨t2, p2, h2⟩ ⟨t3, p3, h3⟩).mono ?_
 rintro e w2 ⟨nn, x, rfl, hb2⟩
 have hb := below_trans hb hb2 hn
 have hd := keeph hb2 hd
 go_wp2_with fail
 refine (Tryz.words3 _).mono ?_
 rintro e w3 ⟨rfl, hb3, hw⟩
 have hb := below_trans hb hb3 hn
 have hd := keeph hb3 hd
 clear hat hcut h2 h3 hb2 hb3
 generalize hB : w.heap.size = B at *
 have hn' : B ≤ w.heap.size := by omega
 go_wp2
 go_loopw [27] (fun i wr => (∃ k : Nat, k ≤ 6 ∧ i = .int .i64 k) ∧ Below w3.heap.size w3 wr) (fun i _ => 7 - (intOf i).toNat)
 case atStart => exact ⟨⟨0, Nat.zero_le _, rfl⟩, Below.refl _ _⟩
 case round =>
  obtain ⟨⟨k, hk, rfl⟩, hbr⟩ := hrel
  by_cases h6 : k < 6
  ·have i0 : (0 : Int) ≤ (k : Int) := by omega
   have i1 : (k : Int) < 6 := by omega
   have hcell := read_cells (keeph hbr hw) k h6
   go_wp2
   all_goals exact ⟨⟨⟨k + 1, by omega, by simp⟩, hbr⟩, by simp [intOf]; omega⟩
  ·have hk6 : k = 6 := by omega
   subst hk6
   have hd := keeph hbr hd
   have c0 : wr.cell? ⟨B, 0, none⟩ = some (.int .i64 0) := by rw [Lib.cell_of_heap hd]; rfl
   have c1 : wr.cell? ⟨B, 1, none⟩ = some (.int .i64 0) := by rw [Lib.cell_of_heap hd]; rfl
   have c2 : wr.cell? ⟨B, 2, none⟩ = some (.int .i64 0) := by rw [Lib.cell_of_heap hd]; rfl
   have c3 : wr.cell? ⟨B, 3, none⟩ = some (.int .u8 0) := by rw [Lib.cell_of_heap hd]; rfl
   have z0 : wr.frozen? ⟨B, 0, none⟩ = false := Lib.frozen_of_heap hd 0
   have z1 : wr.frozen? ⟨B, 1, none⟩ = false := Lib.frozen_of_heap hd 1
   have z2 : wr.frozen? ⟨B, 2, none⟩ = false := Lib.frozen_of_heap hd 2
   have z3 : wr.frozen? ⟨B, 3, none⟩ = false := Lib.frozen_of_heap hd 3
   go_wp2
   have hd2 := heap_set (heap_set (heap_set (heap_set hd 0 (.int .i64 0)) 1 (.int .i64 0)) 2 (.int .i64 0)) 3 (.int .u8 0)
   refine bodyPost_ret (Tryz.read_res 0 0 0 0 hd2 _ rfl) rfl ?_
   refine ⟨rfl, ?_⟩
   have hbb := below_trans hb hbr hn'
   rw [hB]
   exact (((hbb.setCell (p := ⟨B, 0, none⟩) (Nat.le_refl _) _).setCell (p := ⟨B, 1, none⟩) (Nat.le_refl _) _).setCell (p := ⟨B, 2, none⟩) (Nat.le_refl _) _).setCell (p := ⟨B, 3, none⟩) (Nat.le_refl _) _
end Go.Proofs
