import Derived.Test.YthmieigenefilaaGreatDoorQBTD
import Derived.Lib.ItoaLen
import Derived.Deep.RegionWith
set_option linter.unusedVariables false
set_option linter.unusedSimpArgs false
set_option maxRecDepth 100000
namespace Go.Proofs
open Go.RowKit Go.Bn
theorem bOf_append (a b : List UInt8) : bOf a ++ bOf b = bOf (a ++ b) := by
 apply ByteArray.ext
 simp [bOf]
theorem tab_below {w b w' : World} {P : Program} {nm : String} {k : IntKind} {zs : List Int} (h : Lib.TabIs P w nm k zs) (hb : Below b.heap.size b w') (e : b.heap = w.heap := by rfl) : Lib.TabIs P w' nm k zs := by
 unfold Lib.TabIs World.var? at *
 cases hg : P.globalNamed nm with
 | none => rw [hg] at h; simp at h
 | some g =>
  rw [hg] at h
  simp only [Option.bind_some] at h ⊢
  have hlt : g < w.heap.size := by
   rcases Nat.lt_or_ge g w.heap.size with h' | h'
   ·exact h'
   ·rw [Array.getElem?_eq_none h'] at h; cases h
  rw [hb.block g (by rw [e]; exact hlt), e]
  exact h
theorem keepc {w w' : World} {b j : Nat} {v : Value} (hb : Below w.heap.size w w') (h : w.cell? ⟨b, j, none⟩ = some v) : w'.cell? ⟨b, j, none⟩ = some v :=
 (World.cell?_of_block (hb.block b (Lib.lt_of_cell h))).trans h
theorem cell_new (w : World) (cs : Array Value) (t : TypeId) (j : Nat) : (w.alloc (.cells cs t)).cell? ⟨w.heap.size, j, none⟩ = cs[j]? := Lib.cell_of_heap (heap_alloc_new w _) j
theorem below_trans {n : Nat} {a b b' c : World} (h : Below n a b) (k : Below b'.heap.size b' c) (hn : n ≤ a.heap.size) (e1 : b'.heap = b.heap := by rfl) (e2 : b'.os = b.os := by rfl) (e3 : b'.tape = b.tape := by rfl) (e4 : b'.output = b.output := by rfl) : Below n a c :=
 ⟨k.os.trans (e2.trans h.os), k.tape.trans (e3.trans h.tape), k.output.trans (e4.trans h.output), by have := h.size; have := k.size; rw [e1] at this; omega, fun i hi => (k.block i (by have := h.size; rw [e1]; omega)).trans (by rw [e1]; exact h.block i hi)⟩
abbrev PowIs (w : World) : Prop := Lib.TabIs Tryz.prog w "internal/strconv.uint64pow10" .u64 Lib.pow10Tab
abbrev opV (k c n b : Int) : Value := .agg #[.int .i64 k, .int .i64 c, .int .i64 n, .int .u8 b]
abbrev opC (k c n b : Int) : Array Value := #[.int .i64 k, .int .i64 c, .int .i64 n, .int .u8 b]
theorem Tryz.words2 (w : World) : Calls Tryz.prog 52 #[] w fun e w' => e = .returned (.slice (some ⟨w.heap.size, 0, none⟩) 6 6) ∧ Below w.heap.size w w' ∧ ∀ j, w'.cell? ⟨w.heap.size, j, none⟩ = wordsV[j]? :=
 (Tryz.words w).mono (by rintro e w' ⟨rfl, rfl⟩; exact ⟨rfl, (Below.refl _ _).alloc (Nat.le_refl _) _, fun j => cell_new _ _ _ j⟩)
theorem Tryz.itoa2 (n : Int) (h0 : -9223372036854775808 ≤ n) (h1 : n ≤ 9223372036854775807) (w : World) (hT : PowIs w) : Calls Tryz.prog 31 #[.int .i64 n] w fun e w' => e = .returned (.string (bOf (itoaL n))) ∧ Below w.heap.size w w' :=
 (Tryz.strconv_Itoa n h0 h1 w hT).mono (by
  rintro e w' ⟨rfl, k, os, rfl⟩
  refine ⟨by rw [itoaL_eq h0 h1]; rfl, ?_⟩
  refine ⟨rfl, rfl, rfl, by show w.heap.size ≤ (w.heap ++ os : Array Obj).size; simp, fun i hi => ?_⟩
  show ((w.heap ++ os : Array Obj))[i]? = w.heap[i]?
  rw [Array.getElem?_append_left hi])
set_option maxHeartbeats 1000000 in
theorem Tryz.line_kind0 (k c n b : Int) (hk : k < 1) (w : World) :
  Calls Tryz.prog 54 #[opV k c n b] w fun e w' => e = .returned (.tuple #[.string (bOf []), .bool false]) ∧ Below w.heap.size w w' := by
 have h1 : decide (k < 1) = true := by simpa using hk
 go_enter Tryz.func54, Tryz.ntmps54
 go_wp2
 go_ret2
 exact ⟨rfl, (Below.refl _ _).alloc (Nat.le_refl _) _⟩
set_option maxHeartbeats 1000000 in
theorem Tryz.line_kind7 (k c n b : Int) (hk : 6 < k) (w : World) :
  Calls Tryz.prog 54 #[opV k c n b] w fun e w' => e = .returned (.tuple #[.string (bOf []), .bool false]) ∧ Below w.heap.size w w' := by
 have h1 : decide (k < 1) = false := by simp; omega
 have h2 : decide (k > 6) = true := by simpa using hk
 go_enter Tryz.func54, Tryz.ntmps54
 go_wp2
 go_ret2
 exact ⟨rfl, (Below.refl _ _).alloc (Nat.le_refl _) _⟩
set_option maxHeartbeats 4000000 in
theorem Tryz.line_byte_ok (c n b : Int) (h0 : 0 ≤ b) (h1 : b ≤ 255) (w : World) (hT : PowIs w) :
  Calls Tryz.prog 54 #[opV 1 c n b] w fun e w' => e = .returned (.tuple #[.string (bOf ([105, 110] ++ [32] ++ itoaL b)), .bool true]) ∧ Below w.heap.size w w' := by
 have hw : IntKind.i64.wrap b = b := IntWalk.i64_in _ ⟨by omega, by omega⟩
 have f1 : decide (b < 0) = false := by simp; omega
 have f2 : decide (b > 1099511627776) = false := by simp; omega
 have hi1 : -9223372036854775808 ≤ b := by omega
 have hi2 : b ≤ 9223372036854775807 := by omega
 have hwj : wordsV[0]? = some (.string (bOf [105, 110])) := rfl
 have hsum : bOf [105, 110] ++ ⟨#[32]⟩ ++ bOf (itoaL b) = bOf ([105, 110] ++ [32] ++ itoaL b) := by
  rw [show (⟨#[32]⟩ : ByteArray) = bOf [32] from rfl, bOf_append, bOf_append]
 have hl1 : (bOf [105, 110]).size ≤ 20 := by decide
 have hl2 : (bOf (itoaL b)).size ≤ 30 := by
  have e1 := Lib.itoa_length_le b hi1 hi2
  rw [← itoaL_eq hi1 hi2] at e1
  show (itoaL b).length ≤ 30
  omega
 rw [← hsum]
 clear hsum
 generalize bOf [105, 110] = X at *
 have hIt := fun w hT => Tryz.itoa2 b hi1 hi2 w hT
 generalize bOf (itoaL b) = Y at *
 go_enter Tryz.func54, Tryz.ntmps54
 go_wp2_with fail
 have k0 := cell_new w (opC 1 c n b) 26 0
 have k1 := cell_new w (opC 1 c n b) 26 1
 have k2 := cell_new w (opC 1 c n b) 26 2
 have k3 := cell_new w (opC 1 c n b) 26 3
 have hb := (Below.refl w.heap.size w).alloc (Nat.le_refl _) (.cells (opC 1 c n b) 26)
 have hT1 : PowIs _ := tab_below hT hb
 have hsz : w.heap.size < (w.alloc (.cells (opC 1 c n b) 26)).heap.size := by simp
 generalize w.alloc (.cells (opC 1 c n b) 26) = W at *
 have k0 : W.cell? ⟨w.heap.size, 0, none⟩ = some (.int .i64 1) := k0
 have k1 : W.cell? ⟨w.heap.size, 1, none⟩ = some (.int .i64 c) := k1
 have k2 : W.cell? ⟨w.heap.size, 2, none⟩ = some (.int .i64 n) := k2
 have k3 : W.cell? ⟨w.heap.size, 3, none⟩ = some (.int .u8 b) := k3
 generalize hB : w.heap.size = B at *
 have hn : B ≤ w.heap.size := by omega
 refine (Tryz.number_core B 1 (by decide) _ k0).mono ?_
 rintro e w1 ⟨rfl, rfl⟩
 go_wp2_with fail
 go_region_with (first | (go_at_call 52; refine (Tryz.words2 _).mono ?_; rintro e w' ⟨rfl, hb2, hq⟩; have hq : w'.cell? ⟨w1.heap.size, 0, none⟩ = some (.string X) := (hq 0).trans hwj; have k0 : w'.cell? ⟨B, 0, none⟩ = _ := keepc hb2 k0; have hT1 : PowIs w' := tab_below hT1 hb2; have hb : Below B w w' := below_trans hb hb2 hn) | (go_at_call 31; refine (hIt _ ?_).mono ?_; (exact hT1); rintro e w' ⟨rfl, hb2⟩; have hq : w'.cell? ⟨w1.heap.size, 0, none⟩ = some (.string X) := keepc hb2 hq; have k0 : w'.cell? ⟨B, 0, none⟩ = _ := keepc hb2 k0; have hT1 : PowIs w' := tab_below hT1 hb2; have hb : Below B w w' := below_trans hb hb2 hn))
 all_goals go_wp2
 all_goals go_ret2
 all_goals exact ⟨rfl, by rw [hB]; assumption⟩
set_option maxHeartbeats 1000000 in
theorem Tryz.line_read_neg (c n b : Int) (hv : n < 0) (w : World) (hT : PowIs w) :
  Calls Tryz.prog 54 #[opV 3 c n b] w fun e w' => e = .returned (.tuple #[.string (bOf []), .bool false]) ∧ Below w.heap.size w w' := by
 have f1 : decide (n < 0) = true := by simpa using hv
 go_enter Tryz.func54, Tryz.ntmps54
 go_wp2_with fail
 have k0 := cell_new w (opC 3 c n b) 26 0
 have k1 := cell_new w (opC 3 c n b) 26 1
 have k2 := cell_new w (opC 3 c n b) 26 2
 have k3 := cell_new w (opC 3 c n b) 26 3
 have hb := (Below.refl w.heap.size w).alloc (Nat.le_refl _) (.cells (opC 3 c n b) 26)
 have hT1 : PowIs _ := tab_below hT hb
 have hsz : w.heap.size < (w.alloc (.cells (opC 3 c n b) 26)).heap.size := by simp
 generalize w.alloc (.cells (opC 3 c n b) 26) = W at *
 have k0 : W.cell? ⟨w.heap.size, 0, none⟩ = some (.int .i64 3) := k0
 have k1 : W.cell? ⟨w.heap.size, 1, none⟩ = some (.int .i64 c) := k1
 have k2 : W.cell? ⟨w.heap.size, 2, none⟩ = some (.int .i64 n) := k2
 have k3 : W.cell? ⟨w.heap.size, 3, none⟩ = some (.int .u8 b) := k3
 generalize hB : w.heap.size = B at *
 have hn : B ≤ w.heap.size := by omega
 refine (Tryz.number_read B _ k0).mono ?_
 rintro e w1 ⟨rfl, rfl⟩
 go_wp2
 go_ret2
 exact ⟨rfl, by rw [hB]; exact hb⟩
set_option maxHeartbeats 1000000 in
theorem Tryz.line_read_big (c n b : Int) (hv : 1099511627776 < n) (w : World) (hT : PowIs w) :
  Calls Tryz.prog 54 #[opV 3 c n b] w fun e w' => e = .returned (.tuple #[.string (bOf []), .bool false]) ∧ Below w.heap.size w w' := by
 have f1 : decide (n < 0) = false := by simp; omega
 have f2 : decide (n > 1099511627776) = true := by simpa using hv
 go_enter Tryz.func54, Tryz.ntmps54
 go_wp2_with fail
 have k0 := cell_new w (opC 3 c n b) 26 0
 have k1 := cell_new w (opC 3 c n b) 26 1
 have k2 := cell_new w (opC 3 c n b) 26 2
 have k3 := cell_new w (opC 3 c n b) 26 3
 have hb := (Below.refl w.heap.size w).alloc (Nat.le_refl _) (.cells (opC 3 c n b) 26)
 have hT1 : PowIs _ := tab_below hT hb
 have hsz : w.heap.size < (w.alloc (.cells (opC 3 c n b) 26)).heap.size := by simp
 generalize w.alloc (.cells (opC 3 c n b) 26) = W at *
 have k0 : W.cell? ⟨w.heap.size, 0, none⟩ = some (.int .i64 3) := k0
 have k1 : W.cell? ⟨w.heap.size, 1, none⟩ = some (.int .i64 c) := k1
 have k2 : W.cell? ⟨w.heap.size, 2, none⟩ = some (.int .i64 n) := k2
 have k3 : W.cell? ⟨w.heap.size, 3, none⟩ = some (.int .u8 b) := k3
 generalize hB : w.heap.size = B at *
 have hn : B ≤ w.heap.size := by omega
 refine (Tryz.number_read B _ k0).mono ?_
 rintro e w1 ⟨rfl, rfl⟩
 go_wp2
 go_ret2
 exact ⟨rfl, by rw [hB]; exact hb⟩
set_option maxHeartbeats 4000000 in
theorem Tryz.line_read_ok (c n b : Int) (h0 : 0 ≤ n) (h1 : n ≤ 1099511627776) (w : World) (hT : PowIs w) :
  Calls Tryz.prog 54 #[opV 3 c n b] w fun e w' => e = .returned (.tuple #[.string (bOf ([114, 101, 97, 100] ++ [32] ++ itoaL n)), .bool true]) ∧ Below w.heap.size w w' := by
 have f1 : decide (n < 0) = false := by simp; omega
 have f2 : decide (n > 1099511627776) = false := by simp; omega
 have hi1 : -9223372036854775808 ≤ n := by omega
 have hi2 : n ≤ 9223372036854775807 := by omega
 have hwj : wordsV[2]? = some (.string (bOf [114, 101, 97, 100])) := rfl
 have hsum : bOf [114, 101, 97, 100] ++ ⟨#[32]⟩ ++ bOf (itoaL n) = bOf ([114, 101, 97, 100] ++ [32] ++ itoaL n) := by
  rw [show (⟨#[32]⟩ : ByteArray) = bOf [32] from rfl, bOf_append, bOf_append]
 have hl1 : (bOf [114, 101, 97, 100]).size ≤ 20 := by decide
 have hl2 : (bOf (itoaL n)).size ≤ 30 := by
  have e1 := Lib.itoa_length_le n hi1 hi2
  rw [← itoaL_eq hi1 hi2] at e1
  show (itoaL n).length ≤ 30
  omega
 rw [← hsum]
 clear hsum
 generalize bOf [114, 101, 97, 100] = X at *
 have hIt := fun w hT => Tryz.itoa2 n hi1 hi2 w hT
 generalize bOf (itoaL n) = Y at *
 go_enter Tryz.func54, Tryz.ntmps54
 go_wp2_with fail
 have k0 := cell_new w (opC 3 c n b) 26 0
 have k1 := cell_new w (opC 3 c n b) 26 1
 have k2 := cell_new w (opC 3 c n b) 26 2
 have k3 := cell_new w (opC 3 c n b) 26 3
 have hb := (Below.refl w.heap.size w).alloc (Nat.le_refl _) (.cells (opC 3 c n b) 26)
 have hT1 : PowIs _ := tab_below hT hb
 have hsz : w.heap.size < (w.alloc (.cells (opC 3 c n b) 26)).heap.size := by simp
 generalize w.alloc (.cells (opC 3 c n b) 26) = W at *
 have k0 : W.cell? ⟨w.heap.size, 0, none⟩ = some (.int .i64 3) := k0
 have k1 : W.cell? ⟨w.heap.size, 1, none⟩ = some (.int .i64 c) := k1
 have k2 : W.cell? ⟨w.heap.size, 2, none⟩ = some (.int .i64 n) := k2
 have k3 : W.cell? ⟨w.heap.size, 3, none⟩ = some (.int .u8 b) := k3
 generalize hB : w.heap.size = B at *
 have hn : B ≤ w.heap.size := by omega
 refine (Tryz.number_read B _ k0).mono ?_
 rintro e w1 ⟨rfl, rfl⟩
 go_wp2_with fail
 go_region_with (first | (go_at_call 52; refine (Tryz.words2 _).mono ?_; rintro e w' ⟨rfl, hb2, hq⟩; have hq : w'.cell? ⟨w1.heap.size, 2, none⟩ = some (.string X) := (hq 2).trans hwj; have k0 : w'.cell? ⟨B, 0, none⟩ = _ := keepc hb2 k0; have hT1 : PowIs w' := tab_below hT1 hb2; have hb : Below B w w' := below_trans hb hb2 hn) | (go_at_call 31; refine (hIt _ ?_).mono ?_; (exact hT1); rintro e w' ⟨rfl, hb2⟩; have hq : w'.cell? ⟨w1.heap.size, 2, none⟩ = some (.string X) := keepc hb2 hq; have k0 : w'.cell? ⟨B, 0, none⟩ = _ := keepc hb2 k0; have hT1 : PowIs w' := tab_below hT1 hb2; have hb : Below B w w' := below_trans hb hb2 hn))
 all_goals go_wp2
 all_goals go_ret2
 all_goals exact ⟨rfl, by rw [hB]; assumption⟩
set_option maxHeartbeats 1000000 in
theorem Tryz.line_other_neg (k c n b : Int) (hk0 : 1 < k) (hk7 : k ≤ 6) (hk3 : k ≠ 3) (hv : c < 0) (w : World) (hT : PowIs w) :
  Calls Tryz.prog 54 #[opV k c n b] w fun e w' => e = .returned (.tuple #[.string (bOf []), .bool false]) ∧ Below w.heap.size w w' := by
 have f1 : decide (c < 0) = true := by simpa using hv
 have h1 : decide (k < 1) = false := by simp; omega
 have h2 : decide (k > 6) = false := by simp; omega
 have h4 : decide (k = 1) = false := by simp; omega
 go_enter Tryz.func54, Tryz.ntmps54
 go_wp2_with fail
 have k0 := cell_new w (opC k c n b) 26 0
 have k1 := cell_new w (opC k c n b) 26 1
 have k2 := cell_new w (opC k c n b) 26 2
 have k3 := cell_new w (opC k c n b) 26 3
 have hb := (Below.refl w.heap.size w).alloc (Nat.le_refl _) (.cells (opC k c n b) 26)
 have hT1 : PowIs _ := tab_below hT hb
 have hsz : w.heap.size < (w.alloc (.cells (opC k c n b) 26)).heap.size := by simp
 generalize w.alloc (.cells (opC k c n b) 26) = W at *
 have k0 : W.cell? ⟨w.heap.size, 0, none⟩ = some (.int .i64 k) := k0
 have k1 : W.cell? ⟨w.heap.size, 1, none⟩ = some (.int .i64 c) := k1
 have k2 : W.cell? ⟨w.heap.size, 2, none⟩ = some (.int .i64 n) := k2
 have k3 : W.cell? ⟨w.heap.size, 3, none⟩ = some (.int .u8 b) := k3
 generalize hB : w.heap.size = B at *
 have hn : B ≤ w.heap.size := by omega
 refine (Tryz.number_core B k hk3 _ k0).mono ?_
 rintro e w1 ⟨rfl, rfl⟩
 go_wp2
 go_ret2
 exact ⟨rfl, by rw [hB]; exact hb⟩
set_option maxHeartbeats 1000000 in
theorem Tryz.line_other_big (k c n b : Int) (hk0 : 1 < k) (hk7 : k ≤ 6) (hk3 : k ≠ 3) (hv : 1099511627776 < c) (w : World) (hT : PowIs w) :
  Calls Tryz.prog 54 #[opV k c n b] w fun e w' => e = .returned (.tuple #[.string (bOf []), .bool false]) ∧ Below w.heap.size w w' := by
 have f1 : decide (c < 0) = false := by simp; omega
 have f2 : decide (c > 1099511627776) = true := by simpa using hv
 have h1 : decide (k < 1) = false := by simp; omega
 have h2 : decide (k > 6) = false := by simp; omega
 have h4 : decide (k = 1) = false := by simp; omega
 go_enter Tryz.func54, Tryz.ntmps54
 go_wp2_with fail
 have k0 := cell_new w (opC k c n b) 26 0
 have k1 := cell_new w (opC k c n b) 26 1
 have k2 := cell_new w (opC k c n b) 26 2
 have k3 := cell_new w (opC k c n b) 26 3
 have hb := (Below.refl w.heap.size w).alloc (Nat.le_refl _) (.cells (opC k c n b) 26)
 have hT1 : PowIs _ := tab_below hT hb
 have hsz : w.heap.size < (w.alloc (.cells (opC k c n b) 26)).heap.size := by simp
 generalize w.alloc (.cells (opC k c n b) 26) = W at *
 have k0 : W.cell? ⟨w.heap.size, 0, none⟩ = some (.int .i64 k) := k0
 have k1 : W.cell? ⟨w.heap.size, 1, none⟩ = some (.int .i64 c) := k1
 have k2 : W.cell? ⟨w.heap.size, 2, none⟩ = some (.int .i64 n) := k2
 have k3 : W.cell? ⟨w.heap.size, 3, none⟩ = some (.int .u8 b) := k3
 generalize hB : w.heap.size = B at *
 have hn : B ≤ w.heap.size := by omega
 refine (Tryz.number_core B k hk3 _ k0).mono ?_
 rintro e w1 ⟨rfl, rfl⟩
 go_wp2
 go_ret2
 exact ⟨rfl, by rw [hB]; exact hb⟩
set_option maxHeartbeats 4000000 in
theorem Tryz.line_other_ok (k c n b : Int) (hk0 : 1 < k) (hk7 : k ≤ 6) (hk3 : k ≠ 3) (j : Nat) (hj : k = j + 1) (h0 : 0 ≤ c) (h1 : c ≤ 1099511627776) (w : World) (hT : PowIs w) :
  Calls Tryz.prog 54 #[opV k c n b] w fun e w' => e = .returned (.tuple #[.string (bOf ((wordsL.getD j []) ++ [32] ++ itoaL c)), .bool true]) ∧ Below w.heap.size w w' := by
 have f1 : decide (c < 0) = false := by simp; omega
 have f2 : decide (c > 1099511627776) = false := by simp; omega
 have hi1 : -9223372036854775808 ≤ c := by omega
 have hi2 : c ≤ 9223372036854775807 := by omega
 have hj6 : j < 6 := by omega
 have g1 : IntKind.i64.wrap (k - 1) = (j : Int) := by rw [IntWalk.i64_in _ ⟨by omega, by omega⟩]; omega
 have g2 : (0 : Int) ≤ (j : Int) := by omega
 have g3 : (j : Int) < 6 := by omega
 have hwj : wordsV[j]? = some (.string (bOf (wordsL.getD j []))) := by
  have : j = 0 ∨ j = 1 ∨ j = 2 ∨ j = 3 ∨ j = 4 ∨ j = 5 := by omega
  rcases this with rfl | rfl | rfl | rfl | rfl | rfl <;> rfl
 clear hj
 have hsum : bOf (wordsL.getD j []) ++ ⟨#[32]⟩ ++ bOf (itoaL c) = bOf ((wordsL.getD j []) ++ [32] ++ itoaL c) := by
  rw [show (⟨#[32]⟩ : ByteArray) = bOf [32] from rfl, bOf_append, bOf_append]
 have hl1 : (bOf (wordsL.getD j [])).size ≤ 20 := by
  have : j = 0 ∨ j = 1 ∨ j = 2 ∨ j = 3 ∨ j = 4 ∨ j = 5 := by omega
  rcases this with h | h | h | h | h | h <;> (subst h; decide)
 have hl2 : (bOf (itoaL c)).size ≤ 30 := by
  have e1 := Lib.itoa_length_le c hi1 hi2
  rw [← itoaL_eq hi1 hi2] at e1
  show (itoaL c).length ≤ 30
  omega
 rw [← hsum]
 clear hsum
 generalize bOf (wordsL.getD j []) = X at *
 have hIt := fun w hT => Tryz.itoa2 c hi1 hi2 w hT
 generalize bOf (itoaL c) = Y at *
 have h1 : decide (k < 1) = false := by simp; omega
 have h2 : decide (k > 6) = false := by simp; omega
 have h4 : decide (k = 1) = false := by simp; omega
 go_enter Tryz.func54, Tryz.ntmps54
 go_wp2_with fail
 have k0 := cell_new w (opC k c n b) 26 0
 have k1 := cell_new w (opC k c n b) 26 1
 have k2 := cell_new w (opC k c n b) 26 2
 have k3 := cell_new w (opC k c n b) 26 3
 have hb := (Below.refl w.heap.size w).alloc (Nat.le_refl _) (.cells (opC k c n b) 26)
 have hT1 : PowIs _ := tab_below hT hb
 have hsz : w.heap.size < (w.alloc (.cells (opC k c n b) 26)).heap.size := by simp
 generalize w.alloc (.cells (opC k c n b) 26) = W at *
 have k0 : W.cell? ⟨w.heap.size, 0, none⟩ = some (.int .i64 k) := k0
 have k1 : W.cell? ⟨w.heap.size, 1, none⟩ = some (.int .i64 c) := k1
 have k2 : W.cell? ⟨w.heap.size, 2, none⟩ = some (.int .i64 n) := k2
 have k3 : W.cell? ⟨w.heap.size, 3, none⟩ = some (.int .u8 b) := k3
 generalize hB : w.heap.size = B at *
 have hn : B ≤ w.heap.size := by omega
 refine (Tryz.number_core B k hk3 _ k0).mono ?_
 rintro e w1 ⟨rfl, rfl⟩
 go_wp2_with fail
 go_region_with (first | (go_at_call 52; refine (Tryz.words2 _).mono ?_; rintro e w' ⟨rfl, hb2, hq⟩; have hq : w'.cell? ⟨w1.heap.size, j, none⟩ = some (.string X) := (hq j).trans hwj; have k0 : w'.cell? ⟨B, 0, none⟩ = _ := keepc hb2 k0; have hT1 : PowIs w' := tab_below hT1 hb2; have hb : Below B w w' := below_trans hb hb2 hn) | (go_at_call 31; refine (hIt _ ?_).mono ?_; (exact hT1); rintro e w' ⟨rfl, hb2⟩; have hq : w'.cell? ⟨w1.heap.size, j, none⟩ = some (.string X) := keepc hb2 hq; have k0 : w'.cell? ⟨B, 0, none⟩ = _ := keepc hb2 k0; have hT1 : PowIs w' := tab_below hT1 hb2; have hb : Below B w w' := below_trans hb hb2 hn))
 all_goals go_wp2
 all_goals go_ret2
 all_goals exact ⟨rfl, by rw [hB]; assumption⟩
end Go.Proofs
