import Derived.WalkKit
import Derived.Deep.QuietTactic
import Derived.BigQuiet
import Derived.StillTailTactics
import Derived.Lib.Hide
import Derived.Test.YtaelmimkdjkmmaaGreatDoorQBBS
import Derived.Test.YtaelmimkdjkmmaaGreatDoorQBA
import Derived.Lib.ItoaLen
import Derived.Deep.RegionWith
set_option linter.unusedVariables false
set_option linter.unusedSimpArgs false
set_option maxRecDepth 100000
namespace Go.Proofs
open Go.RowKit Go.Bn
set_option maxHeartbeats 1000000 in
theorem Tryz.copy_fresh (b : Nat) (w : World) (h0 : w.cell? ⟨b, 0, none⟩ = some (.pointer none)) (hsh : w.shape? b = some (56, 2)) (hfz : w.frozen? ⟨b, 0, none⟩ = false) :
  Calls Tryz.prog 30 #[.pointer (some ⟨b, 0, none⟩)] w fun e w' => e = .returned (.tuple #[]) ∧ w' = w.setCell ⟨b, 0, none⟩ (.pointer (some ⟨b, 0, none⟩)) := by
 have hs : (Tryz.prog.info? 56).map (·.size) = some 2 := by kernel_rfl
 obtain ⟨j, hj, hjs⟩ := Option.map_eq_some_iff.1 hs
 go_enter Tryz.func30, Tryz.ntmps30
 go_wp2
 rw [Lib.run_to_unsafe w ⟨b, 0, none⟩ Tryz.underlying54 Tryz.underlying109 hj (by rw [hjs]; decide) hsh (Nat.zero_lt_succ 1)]
 simp only [Result.andThen]
 rw [Oper.upon_value]
 go_wp2
 rw [run_callFunc_extern Tryz.func43 (by kernel_rfl) (by kernel_rfl) (by kernel_rfl) (e := Extern.AbiNoEscape.same) (by kernel_rfl)]
 rw [Lib.run_noEscape]
 simp only [Result.andThen]
 rw [Oper.upon_value]
 go_wp2
 rw [Lib.run_from_unsafe w ⟨b, 0, none⟩ Tryz.underlying109 Tryz.underlying54 hj hsh Tryz.Builder_Extra_169.liesBuilder]
 simp only [Result.andThen]
 rw [Oper.upon_value]
 go_wp2
 go_end0
 exact ⟨rfl, rfl⟩
set_option maxHeartbeats 1000000 in
theorem Tryz.copy_used (b : Nat) (w : World) (h0 : w.cell? ⟨b, 0, none⟩ = some (.pointer (some ⟨b, 0, none⟩))) :
  Calls Tryz.prog 30 #[.pointer (some ⟨b, 0, none⟩)] w fun e w' => e = .returned (.tuple #[]) ∧ w' = w := by
 have hs : (Tryz.prog.info? 56).map (·.size) = some 2 := by kernel_rfl
 obtain ⟨j, hj, hjs⟩ := Option.map_eq_some_iff.1 hs
 go_enter Tryz.func30, Tryz.ntmps30
 go_wp2
 rw [Lib.run_neq_ptr_same w ⟨b, 0, none⟩ Tryz.underlying54 hj]
 simp only [Result.andThen]
 rw [Oper.upon_value]
 go_wp2
 go_end0
 exact ⟨rfl, rfl⟩
theorem Tryz.copy (B b : Nat) (bs : List Value) (w : World) (h : Lib.IsBuilderF 56 5 B b bs w) :
  Calls Tryz.prog 30 #[.pointer (some ⟨b, 0, none⟩)] w fun e w' => e = .returned (.tuple #[]) ∧ (Lib.BuilderAtF 56 5 B b (.pointer (some ⟨b, 0, none⟩)) bs w' ∧ Below B w w' ∧ Lib.OthersKept 5 (some b) w w') := by
 rcases h with h | h
 ·refine (Tryz.copy_fresh b w h.cell0 h.shape h.frozen0).mono ?_
  rintro e w' ⟨rfl, rfl⟩
  exact ⟨rfl, h.used _, (Below.refl B w).setCell (p := ⟨b, 0, none⟩) h.1 _, (Lib.OthersKept.refl _ _ w).setCell ⟨b, 0, none⟩ rfl _⟩
 ·refine (Tryz.copy_used b w h.cell0).mono ?_
  rintro e w' ⟨rfl, rfl⟩
  exact ⟨rfl, h, Below.refl B _, Lib.OthersKept.refl _ _ _⟩
set_option maxHeartbeats 2000000 in
set_option maxRecDepth 100000 in
theorem Tryz.writeByte (B b : Nat) (bs : List Value) (c : Int) (w : World) (h : Lib.IsBuilderF 56 5 B b bs w) (hlen : bs.length + 1 ≤ 140737488355328) (hBw : B ≤ w.heap.size) :
  Calls Tryz.prog 26 #[.pointer (some ⟨b, 0, none⟩), .int .u8 c] w fun e w' => e = .returned .nilIface ∧ (Lib.BuilderAtF 56 5 B b (.pointer (some ⟨b, 0, none⟩)) (bs ++ [.int .u8 c]) w' ∧ Below B w w' ∧ Lib.OthersKept 5 (some b) w w') := by
 obtain ⟨i0, hi, hz0, hz1, hz2⟩ := info_parts Tryz.Builder_Extra_169.infoByte
 go_enter Tryz.func26, Tryz.ntmps26
 go_wp2_with fail
 refine (Tryz.copy B b bs _ h).mono ?_
 rintro e w1 ⟨rfl, h1, hb1, hk1⟩
 obtain ⟨hB, v, hbk, hown, hne⟩ := h1
 have c0 : w1.cell? ⟨b, 0, none⟩ = some (.pointer (some ⟨b, 0, none⟩)) := by rw [Lib.cell_of_heap hbk]; rfl
 have c1 : w1.cell? ⟨b, 1, none⟩ = some v := by rw [Lib.cell_of_heap hbk]; rfl
 go_wp2_with (at_builtin; refine wpList_append_ownF _ rfl _ _ 37 rfl B 5 i0 (.int .u8 0) 1 1 Tryz.underlying37 hi hz0 hz1 hz2 rfl (by decide) _ _ _ rfl (hown.alloc _) ⟨w1.heap.size, 0, none⟩ 1 1 [.int .u8 c] rfl rfl ?c1 ?c2 ?c3 ?c4 ?c5 ?_)
 case c1 =>
  intro j u hj
  match j, hj with
  | 0, hj => simp at hj; subst hj; simp [Addr.add]
 case c2 => intro u hu; simp at hu; subst hu; rfl
 case c3 => unfold maxLen; omega
 case c4 => omega
 case c5 => have := hb1.size; simp; omega
 intro v' w2 hown' hgrow _
 have hlt : b < w1.heap.size := by
  rcases Nat.lt_or_ge b w1.heap.size with h' | h'
  ·exact h'
  ·simp [Array.getElem?_eq_none h'] at hbk
 have hb2 : w2.heap[b]? = some (.cells #[.pointer (some ⟨b, 0, none⟩), v] 56 (0, 0)) := by
  rw [hgrow.block b (by simp; omega) (fun e => hne e.symm), Lib.alloc_old w1 _ b hlt]
  exact hbk
 have d0 : w2.cell? ⟨b, 0, none⟩ = some (.pointer (some ⟨b, 0, none⟩)) := by rw [Lib.cell_of_heap hb2]; rfl
 have d1 : w2.cell? ⟨b, 1, none⟩ = some v := by rw [Lib.cell_of_heap hb2]; rfl
 have f1 : w2.frozen? ⟨b, 1, none⟩ = false := Lib.frozen_of_heap hb2 1
 obtain ⟨g, cap, rfl⟩ : ∃ g cap, v' = .slice (some ⟨g, 0, none⟩) (bs.length + 1) cap := by
  rcases hown'.2 with ⟨_, h0⟩ | ⟨g, cap, cur, fz, hv, _⟩
  ·omega
  ·exact ⟨g, cap, hv⟩
 go_wp2
 go_ret
 refine ⟨rfl, ?_, ?_, ((hk1.alloc _).grown hgrow (Lib.ownsRowF_kind (hown.alloc _))).setCell ⟨b, 1, none⟩ rfl _⟩
 ·exact Lib.BuilderAtF.put (T := 56) (e := 5) hB hb2 (bs' := bs ++ [.int .u8 c]) (by simpa using hown') Tryz.Builder_Extra_169.neB5
 ·exact ((hb1.alloc (by have := hb1.size; omega) _).grown hgrow (by have := hb1.size; simp; omega) (fun k hk => (hown.lt k hk).1)).setCell (p := ⟨b, 1, none⟩) hB _
set_option maxHeartbeats 1000000 in
theorem Tryz.cut0 (s sep : ByteArray) (c : UInt8) (hc : sep = ⟨#[c]⟩) (w : World) (hs : s.size ≤ 140737488355328) :
  Calls Tryz.prog 31 #[.string s, .string sep] w fun e w' => e = .returned (.tuple #[.string (bOf (cutL c s.data.toList).1), .string (bOf (cutL c s.data.toList).2.1), .bool (cutL c s.data.toList).2.2]) ∧ ∃ n, w' = w.drewN n := by
 have hsz : s.size = s.data.toList.length := rfl
 have hI : ∀ w, Calls Tryz.prog 27 #[.string s, .string sep] w fun e w' => e = .returned (.int .i64 (Lib.indexByte s.data.toList c)) ∧ w' = w := fun w => by rw [hc]; exact Tryz.stringslite_Index_one s c w
 have h1 : sep.size = 1 := by rw [hc]; rfl
 clear hc
 rcases cut_spec c s.data.toList with ⟨e1, e2⟩ | ⟨i, hi, e1, e2⟩
 ·rw [e2]
  have e3 : bOf s.data.toList = s := rfl
  rw [e3]
  go_enter Tryz.func31, Tryz.ntmps31
  go_wp2_with fail
  refine (hI _).mono ?_
  rintro e w' ⟨rfl, rfl⟩
  rw [e1]
  go_wp2
  go_ret3
  exact ⟨rfl, 0, rfl⟩
 ·rw [e2]
  have c1 : (0 : Int) ≤ ↑i := by omega
  have c2 : (↑i : Int) ≤ ↑s.size := by omega
  have c3 : (0 : Int) ≤ ↑i + ↑sep.size := by omega
  have c4 : (↑i + ↑sep.size : Int) ≤ ↑s.size := by omega
  have e3 : s.extract 0 i = bOf (s.data.toList.take i) := by
   apply ByteArray.ext
   apply Array.ext'
   simp [bOf, ByteArray.data_extract, List.extract_eq_take_drop]
  have e4 : s.extract (i + sep.size) s.size = bOf (s.data.toList.drop (i + 1)) := by
   apply ByteArray.ext
   apply Array.ext'
   rw [h1]
   simp only [bOf, ByteArray.data_extract, Array.toList_extract, List.extract_eq_take_drop]
   rw [hsz, List.take_of_length_le (by simp)]
  rw [← e3, ← e4]
  have mixed : Tryz.prog.follows Departure.mixedOrders = true := by kernel_rfl
  have c5 : IntKind.i64.wrap (↑i + ↑sep.size) = (↑i + ↑sep.size : Int) := IntWalk.i64_in _ ⟨by omega, by omega⟩
  have c6 : (↑i + ↑sep.size : Int).toNat = i + sep.size := by omega
  clear e3 e4 hsz h1
  go_enter Tryz.func31, Tryz.ntmps31
  go_wp2_with fail
  refine (hI _).mono ?_
  rintro e w' ⟨rfl, rfl⟩
  rw [e1]
  go_wp2
  go_region_o
  go_wp2
  go_ret3
  exact ⟨rfl, 1, rfl⟩
end Go.Proofs
set_option linter.unusedVariables false
set_option linter.unusedSimpArgs false
set_option maxRecDepth 100000
namespace Go.Proofs
open Go.RowKit Go.Bn
set_option maxHeartbeats 1000000 in
theorem Tryz.cut (s sep : ByteArray) (c : UInt8) (hc : sep = ⟨#[c]⟩) (w : World) (hs : s.size ≤ 140737488355328) :
  Calls Tryz.prog 20 #[.string s, .string sep] w fun e w' => e = .returned (.tuple #[.string (bOf (cutL c s.data.toList).1), .string (bOf (cutL c s.data.toList).2.1), .bool (cutL c s.data.toList).2.2]) ∧ ∃ n, w' = w.drewN n := by
 have hI := fun w => Tryz.cut0 s sep c hc w hs
 clear hc hs
 generalize bOf (cutL c s.data.toList).1 = x, bOf (cutL c s.data.toList).2.1 = y, (cutL c s.data.toList).2.2 = z at hI ⊢
 go_enter Tryz.func20, Tryz.ntmps20
 go_wp2_with fail
 refine (hI _).mono ?_
 rintro e w' ⟨rfl, n, rfl⟩
 go_wp2
 go_ret3
 exact ⟨rfl, n, rfl⟩
def wordsV : Array Value := #[.string (bOf [105, 110]), .string (bOf [114, 117, 110]), .string (bOf [114, 101, 97, 100]), .string (bOf [115, 97, 118, 101]), .string (bOf [114, 101, 115, 116, 111, 114, 101]), .string (bOf [109, 111, 118, 101])]
set_option maxHeartbeats 1000000 in
theorem Tryz.words (w : World) : Calls Tryz.prog 29 #[] w fun e w' => e = .returned (.slice (some ⟨w.heap.size, 0, none⟩) 6 6) ∧ w' = w.alloc (.cells wordsV 9) := by
 go_enter Tryz.func29, Tryz.ntmps29
 go_wp2
 go_ret
 exact ⟨rfl, rfl⟩
set_option maxHeartbeats 1000000 in
theorem Tryz.number_read (b : Nat) (w : World) (h : w.cell? ⟨b, 0, none⟩ = some (.int .i64 3)) :
  Calls Tryz.prog 28 #[.pointer (some ⟨b, 0, none⟩)] w fun e w' => e = .returned (.pointer (some ⟨b, 2, none⟩)) ∧ w' = w := by
 go_enter Tryz.func28, Tryz.ntmps28
 go_wp2
 go_ret
 exact ⟨rfl, rfl⟩
set_option maxHeartbeats 1000000 in
theorem Tryz.number_core (b : Nat) (k : Int) (hk : k ≠ 3) (w : World) (h : w.cell? ⟨b, 0, none⟩ = some (.int .i64 k)) :
  Calls Tryz.prog 28 #[.pointer (some ⟨b, 0, none⟩)] w fun e w' => e = .returned (.pointer (some ⟨b, 1, none⟩)) ∧ w' = w := by
 have h3 : decide (k = 3) = false := by simpa using hk
 go_enter Tryz.func28, Tryz.ntmps28
 go_wp2
 go_ret
 exact ⟨rfl, rfl⟩
end Go.Proofs
set_option linter.unusedVariables false
set_option linter.unusedSimpArgs false
set_option maxRecDepth 100000
namespace Go.Proofs
open Go.RowKit Go.Bn
theorem bOf_append (a b : List UInt8) : bOf a ++ bOf b = bOf (a ++ b) := by
 apply ByteArray.ext
 simp [bOf]
theorem tab_below {w b w' : World} {P : Program} {nm : String} {k : IntKind} {zs : List Int} (h : Lib.TabIs P w nm k zs) (hb : Below b.heap.size b w') (e : b.heap = w.heap := by rfl) : Lib.TabIs P w' nm k zs := by
 unfold Lib.TabIs World.var? at *
 cases hg : P.globalNamed nm with
 | none => rw [hg] at h; simp at h
 | some g =>
  rw [hg] at h
  simp only [Option.bind_some] at h ⊢
  have hlt : g < w.heap.size := by
   rcases Nat.lt_or_ge g w.heap.size with h' | h'
   ·exact h'
   ·rw [Array.getElem?_eq_none h'] at h; cases h
  rw [hb.block g (by rw [e]; exact hlt), e]
  exact h
theorem keepc {w w' : World} {b j : Nat} {v : Value} (hb : Below w.heap.size w w') (h : w.cell? ⟨b, j, none⟩ = some v) : w'.cell? ⟨b, j, none⟩ = some v :=
 (World.cell?_of_block (hb.block b (Lib.lt_of_cell h))).trans h
theorem cell_new (w : World) (cs : Array Value) (t : TypeId) (j : Nat) : (w.alloc (.cells cs t)).cell? ⟨w.heap.size, j, none⟩ = cs[j]? := Lib.cell_of_heap (heap_alloc_new w _) j
theorem below_trans {n : Nat} {a b b' c : World} (h : Below n a b) (k : Below b'.heap.size b' c) (hn : n ≤ a.heap.size) (e1 : b'.heap = b.heap := by rfl) (e2 : b'.os = b.os := by rfl) (e3 : b'.tape = b.tape := by rfl) (e4 : b'.output = b.output := by rfl) : Below n a c :=
 ⟨k.os.trans (e2.trans h.os), k.tape.trans (e3.trans h.tape), k.output.trans (e4.trans h.output), by have := h.size; have := k.size; rw [e1] at this; omega, fun i hi => (k.block i (by have := h.size; rw [e1]; omega)).trans (by rw [e1]; exact h.block i hi)⟩
abbrev PowIs (w : World) : Prop := Lib.TabIs Tryz.prog w "internal/strconv.uint64pow10" .u64 Lib.pow10Tab
abbrev opV (k c n b : Int) : Value := .agg #[.int .i64 k, .int .i64 c, .int .i64 n, .int .u8 b]
abbrev opC (k c n b : Int) : Array Value := #[.int .i64 k, .int .i64 c, .int .i64 n, .int .u8 b]
theorem Tryz.words2 (w : World) : Calls Tryz.prog 29 #[] w fun e w' => e = .returned (.slice (some ⟨w.heap.size, 0, none⟩) 6 6) ∧ Below w.heap.size w w' ∧ ∀ j, w'.cell? ⟨w.heap.size, j, none⟩ = wordsV[j]? :=
 (Tryz.words w).mono (by rintro e w' ⟨rfl, rfl⟩; exact ⟨rfl, (Below.refl _ _).alloc (Nat.le_refl _) _, fun j => cell_new _ _ _ j⟩)
theorem Tryz.itoa2 (n : Int) (h0 : -9223372036854775808 ≤ n) (h1 : n ≤ 9223372036854775807) (w : World) (hT : PowIs w) : Calls Tryz.prog 12 #[.int .i64 n] w fun e w' => e = .returned (.string (bOf (itoaL n))) ∧ Below w.heap.size w w' :=
 (Tryz.strconv_Itoa n h0 h1 w hT).mono (by
  rintro e w' ⟨rfl, k, os, rfl⟩
  refine ⟨by rw [itoaL_eq h0 h1]; rfl, ?_⟩
  refine ⟨rfl, rfl, rfl, by show w.heap.size ≤ (w.heap ++ os : Array Obj).size; simp, fun i hi => ?_⟩
  show ((w.heap ++ os : Array Obj))[i]? = w.heap[i]?
  rw [Array.getElem?_append_left hi])
set_option maxHeartbeats 1000000 in
theorem Tryz.line_kind0 (k c n b : Int) (hk : k < 1) (w : World) :
  Calls Tryz.prog 17 #[opV k c n b] w fun e w' => e = .returned (.tuple #[.string (bOf []), .bool false]) ∧ Below w.heap.size w w' := by
 have h1 : decide (k < 1) = true := by simpa using hk
 go_enter Tryz.func17, Tryz.ntmps17
 go_wp2
 go_ret2
 exact ⟨rfl, (Below.refl _ _).alloc (Nat.le_refl _) _⟩
set_option maxHeartbeats 1000000 in
theorem Tryz.line_kind7 (k c n b : Int) (hk : 6 < k) (w : World) :
  Calls Tryz.prog 17 #[opV k c n b] w fun e w' => e = .returned (.tuple #[.string (bOf []), .bool false]) ∧ Below w.heap.size w w' := by
 have h1 : decide (k < 1) = false := by simp; omega
 have h2 : decide (k > 6) = true := by simpa using hk
 go_enter Tryz.func17, Tryz.ntmps17
 go_wp2
 go_ret2
 exact ⟨rfl, (Below.refl _ _).alloc (Nat.le_refl _) _⟩
set_option maxHeartbeats 4000000 in
theorem Tryz.line_byte_ok (c n b : Int) (h0 : 0 ≤ b) (h1 : b ≤ 255) (w : World) (hT : PowIs w) :
  Calls Tryz.prog 17 #[opV 1 c n b] w fun e w' => e = .returned (.tuple #[.string (bOf ([105, 110] ++ [32] ++ itoaL b)), .bool true]) ∧ Below w.heap.size w w' := by
 have hw : IntKind.i64.wrap b = b := IntWalk.i64_in _ ⟨by omega, by omega⟩
 have f1 : decide (b < 0) = false := by simp; omega
 have f2 : decide (b > 1099511627776) = false := by simp; omega
 have hi1 : -9223372036854775808 ≤ b := by omega
 have hi2 : b ≤ 9223372036854775807 := by omega
 have hwj : wordsV[0]? = some (.string (bOf [105, 110])) := rfl
 have hsum : bOf [105, 110] ++ ⟨#[32]⟩ ++ bOf (itoaL b) = bOf ([105, 110] ++ [32] ++ itoaL b) := by
  rw [show (⟨#[32]⟩ : ByteArray) = bOf [32] from rfl, bOf_append, bOf_append]
 have hl1 : (bOf [105, 110]).size ≤ 20 := by decide
 have hl2 : (bOf (itoaL b)).size ≤ 30 := by
  have e1 := Lib.itoa_length_le b hi1 hi2
  rw [← itoaL_eq hi1 hi2] at e1
  show (itoaL b).length ≤ 30
  omega
 rw [← hsum]
 clear hsum
 generalize bOf [105, 110] = X at *
 have hIt := fun w hT => Tryz.itoa2 b hi1 hi2 w hT
 generalize bOf (itoaL b) = Y at *
 go_enter Tryz.func17, Tryz.ntmps17
 go_wp2_with fail
 have k0 := cell_new w (opC 1 c n b) 49 0
 have k1 := cell_new w (opC 1 c n b) 49 1
 have k2 := cell_new w (opC 1 c n b) 49 2
 have k3 := cell_new w (opC 1 c n b) 49 3
 have hb := (Below.refl w.heap.size w).alloc (Nat.le_refl _) (.cells (opC 1 c n b) 49)
 have hT1 : PowIs _ := tab_below hT hb
 have hsz : w.heap.size < (w.alloc (.cells (opC 1 c n b) 49)).heap.size := by simp
 generalize w.alloc (.cells (opC 1 c n b) 49) = W at *
 have k0 : W.cell? ⟨w.heap.size, 0, none⟩ = some (.int .i64 1) := k0
 have k1 : W.cell? ⟨w.heap.size, 1, none⟩ = some (.int .i64 c) := k1
 have k2 : W.cell? ⟨w.heap.size, 2, none⟩ = some (.int .i64 n) := k2
 have k3 : W.cell? ⟨w.heap.size, 3, none⟩ = some (.int .u8 b) := k3
 generalize hB : w.heap.size = B at *
 have hn : B ≤ w.heap.size := by omega
 refine (Tryz.number_core B 1 (by decide) _ k0).mono ?_
 rintro e w1 ⟨rfl, rfl⟩
 go_wp2_with fail
 go_region_with (first | (go_at_call 29; refine (Tryz.words2 _).mono ?_; rintro e w' ⟨rfl, hb2, hq⟩; have hq : w'.cell? ⟨w1.heap.size, 0, none⟩ = some (.string X) := (hq 0).trans hwj; have k0 : w'.cell? ⟨B, 0, none⟩ = _ := keepc hb2 k0; have hT1 : PowIs w' := tab_below hT1 hb2; have hb : Below B w w' := below_trans hb hb2 hn) | (go_at_call 12; refine (hIt _ ?_).mono ?_; (exact hT1); rintro e w' ⟨rfl, hb2⟩; have hq : w'.cell? ⟨w1.heap.size, 0, none⟩ = some (.string X) := keepc hb2 hq; have k0 : w'.cell? ⟨B, 0, none⟩ = _ := keepc hb2 k0; have hT1 : PowIs w' := tab_below hT1 hb2; have hb : Below B w w' := below_trans hb hb2 hn))
 all_goals go_wp2
 all_goals go_ret2
 all_goals exact ⟨rfl, by rw [hB]; assumption⟩
set_option maxHeartbeats 1000000 in
theorem Tryz.line_read_neg (c n b : Int) (hv : n < 0) (w : World) (hT : PowIs w) :
  Calls Tryz.prog 17 #[opV 3 c n b] w fun e w' => e = .returned (.tuple #[.string (bOf []), .bool false]) ∧ Below w.heap.size w w' := by
 have f1 : decide (n < 0) = true := by simpa using hv
 go_enter Tryz.func17, Tryz.ntmps17
 go_wp2_with fail
 have k0 := cell_new w (opC 3 c n b) 49 0
 have k1 := cell_new w (opC 3 c n b) 49 1
 have k2 := cell_new w (opC 3 c n b) 49 2
 have k3 := cell_new w (opC 3 c n b) 49 3
 have hb := (Below.refl w.heap.size w).alloc (Nat.le_refl _) (.cells (opC 3 c n b) 49)
 have hT1 : PowIs _ := tab_below hT hb
 have hsz : w.heap.size < (w.alloc (.cells (opC 3 c n b) 49)).heap.size := by simp
 generalize w.alloc (.cells (opC 3 c n b) 49) = W at *
 have k0 : W.cell? ⟨w.heap.size, 0, none⟩ = some (.int .i64 3) := k0
 have k1 : W.cell? ⟨w.heap.size, 1, none⟩ = some (.int .i64 c) := k1
 have k2 : W.cell? ⟨w.heap.size, 2, none⟩ = some (.int .i64 n) := k2
 have k3 : W.cell? ⟨w.heap.size, 3, none⟩ = some (.int .u8 b) := k3
 generalize hB : w.heap.size = B at *
 have hn : B ≤ w.heap.size := by omega
 refine (Tryz.number_read B _ k0).mono ?_
 rintro e w1 ⟨rfl, rfl⟩
 go_wp2
 go_ret2
 exact ⟨rfl, by rw [hB]; exact hb⟩
set_option maxHeartbeats 1000000 in
theorem Tryz.line_read_big (c n b : Int) (hv : 1099511627776 < n) (w : World) (hT : PowIs w) :
  Calls Tryz.prog 17 #[opV 3 c n b] w fun e w' => e = .returned (.tuple #[.string (bOf []), .bool false]) ∧ Below w.heap.size w w' := by
 have f1 : decide (n < 0) = false := by simp; omega
 have f2 : decide (n > 1099511627776) = true := by simpa using hv
 go_enter Tryz.func17, Tryz.ntmps17
 go_wp2_with fail
 have k0 := cell_new w (opC 3 c n b) 49 0
 have k1 := cell_new w (opC 3 c n b) 49 1
 have k2 := cell_new w (opC 3 c n b) 49 2
 have k3 := cell_new w (opC 3 c n b) 49 3
 have hb := (Below.refl w.heap.size w).alloc (Nat.le_refl _) (.cells (opC 3 c n b) 49)
 have hT1 : PowIs _ := tab_below hT hb
 have hsz : w.heap.size < (w.alloc (.cells (opC 3 c n b) 49)).heap.size := by simp
 generalize w.alloc (.cells (opC 3 c n b) 49) = W at *
 have k0 : W.cell? ⟨w.heap.size, 0, none⟩ = some (.int .i64 3) := k0
 have k1 : W.cell? ⟨w.heap.size, 1, none⟩ = some (.int .i64 c) := k1
 have k2 : W.cell? ⟨w.heap.size, 2, none⟩ = some (.int .i64 n) := k2
 have k3 : W.cell? ⟨w.heap.size, 3, none⟩ = some (.int .u8 b) := k3
 generalize hB : w.heap.size = B at *
 have hn : B ≤ w.heap.size := by omega
 refine (Tryz.number_read B _ k0).mono ?_
 rintro e w1 ⟨rfl, rfl⟩
 go_wp2
 go_ret2
 exact ⟨rfl, by rw [hB]; exact hb⟩
set_option maxHeartbeats 4000000 in
theorem Tryz.line_read_ok (c n b : Int) (h0 : 0 ≤ n) (h1 : n ≤ 1099511627776) (w : World) (hT : PowIs w) :
  Calls Tryz.prog 17 #[opV 3 c n b] w fun e w' => e = .returned (.tuple #[.string (bOf ([114, 101, 97, 100] ++ [32] ++ itoaL n)), .bool true]) ∧ Below w.heap.size w w' := by
 have f1 : decide (n < 0) = false := by simp; omega
 have f2 : decide (n > 1099511627776) = false := by simp; omega
 have hi1 : -9223372036854775808 ≤ n := by omega
 have hi2 : n ≤ 9223372036854775807 := by omega
 have hwj : wordsV[2]? = some (.string (bOf [114, 101, 97, 100])) := rfl
 have hsum : bOf [114, 101, 97, 100] ++ ⟨#[32]⟩ ++ bOf (itoaL n) = bOf ([114, 101, 97, 100] ++ [32] ++ itoaL n) := by
  rw [show (⟨#[32]⟩ : ByteArray) = bOf [32] from rfl, bOf_append, bOf_append]
 have hl1 : (bOf [114, 101, 97, 100]).size ≤ 20 := by decide
 have hl2 : (bOf (itoaL n)).size ≤ 30 := by
  have e1 := Lib.itoa_length_le n hi1 hi2
  rw [← itoaL_eq hi1 hi2] at e1
  show (itoaL n).length ≤ 30
  omega
 rw [← hsum]
 clear hsum
 generalize bOf [114, 101, 97, 100] = X at *
 have hIt := fun w hT => Tryz.itoa2 n hi1 hi2 w hT
 generalize bOf (itoaL n) = Y at *
 go_enter Tryz.func17, Tryz.ntmps17
 go_wp2_with fail
 have k0 := cell_new w (opC 3 c n b) 49 0
 have k1 := cell_new w (opC 3 c n b) 49 1
 have k2 := cell_new w (opC 3 c n b) 49 2
 have k3 := cell_new w (opC 3 c n b) 49 3
 have hb := (Below.refl w.heap.size w).alloc (Nat.le_refl _) (.cells (opC 3 c n b) 49)
 have hT1 : PowIs _ := tab_below hT hb
 have hsz : w.heap.size < (w.alloc (.cells (opC 3 c n b) 49)).heap.size := by simp
 generalize w.alloc (.cells (opC 3 c n b) 49) = W at *
 have k0 : W.cell? ⟨w.heap.size, 0, none⟩ = some (.int .i64 3) := k0
 have k1 : W.cell? ⟨w.heap.size, 1, none⟩ = some (.int .i64 c) := k1
 have k2 : W.cell? ⟨w.heap.size, 2, none⟩ = some (.int .i64 n) := k2
 have k3 : W.cell? ⟨w.heap.size, 3, none⟩ = some (.int .u8 b) := k3
 generalize hB : w.heap.size = B at *
 have hn : B ≤ w.heap.size := by omega
 refine (Tryz.number_read B _ k0).mono ?_
 rintro e w1 ⟨rfl, rfl⟩
 go_wp2_with fail
 go_region_with (first | (go_at_call 29; refine (Tryz.words2 _).mono ?_; rintro e w' ⟨rfl, hb2, hq⟩; have hq : w'.cell? ⟨w1.heap.size, 2, none⟩ = some (.string X) := (hq 2).trans hwj; have k0 : w'.cell? ⟨B, 0, none⟩ = _ := keepc hb2 k0; have hT1 : PowIs w' := tab_below hT1 hb2; have hb : Below B w w' := below_trans hb hb2 hn) | (go_at_call 12; refine (hIt _ ?_).mono ?_; (exact hT1); rintro e w' ⟨rfl, hb2⟩; have hq : w'.cell? ⟨w1.heap.size, 2, none⟩ = some (.string X) := keepc hb2 hq; have k0 : w'.cell? ⟨B, 0, none⟩ = _ := keepc hb2 k0; have hT1 : PowIs w' := tab_below hT1 hb2; have hb : Below B w w' := below_trans hb hb2 hn))
 all_goals go_wp2
 all_goals go_ret2
 all_goals exact ⟨rfl, by rw [hB]; assumption⟩
set_option maxHeartbeats 1000000 in
theorem Tryz.line_other_neg (k c n b : Int) (hk0 : 1 < k) (hk7 : k ≤ 6) (hk3 : k ≠ 3) (hv : c < 0) (w : World) (hT : PowIs w) :
  Calls Tryz.prog 17 #[opV k c n b] w fun e w' => e = .returned (.tuple #[.string (bOf []), .bool false]) ∧ Below w.heap.size w w' := by
 have f1 : decide (c < 0) = true := by simpa using hv
 have h1 : decide (k < 1) = false := by simp; omega
 have h2 : decide (k > 6) = false := by simp; omega
 have h4 : decide (k = 1) = false := by simp; omega
 go_enter Tryz.func17, Tryz.ntmps17
 go_wp2_with fail
 have k0 := cell_new w (opC k c n b) 49 0
 have k1 := cell_new w (opC k c n b) 49 1
 have k2 := cell_new w (opC k c n b) 49 2
 have k3 := cell_new w (opC k c n b) 49 3
 have hb := (Below.refl w.heap.size w).alloc (Nat.le_refl _) (.cells (opC k c n b) 49)
 have hT1 : PowIs _ := tab_below hT hb
 have hsz : w.heap.size < (w.alloc (.cells (opC k c n b) 49)).heap.size := by simp
 generalize w.alloc (.cells (opC k c n b) 49) = W at *
 have k0 : W.cell? ⟨w.heap.size, 0, none⟩ = some (.int .i64 k) := k0
 have k1 : W.cell? ⟨w.heap.size, 1, none⟩ = some (.int .i64 c) := k1
 have k2 : W.cell? ⟨w.heap.size, 2, none⟩ = some (.int .i64 n) := k2
 have k3 : W.cell? ⟨w.heap.size, 3, none⟩ = some (.int .u8 b) := k3
 generalize hB : w.heap.size = B at *
 have hn : B ≤ w.heap.size := by omega
 refine (Tryz.number_core B k hk3 _ k0).mono ?_
 rintro e w1 ⟨rfl, rfl⟩
 go_wp2
 go_ret2
 exact ⟨rfl, by rw [hB]; exact hb⟩
set_option maxHeartbeats 1000000 in
theorem Tryz.line_other_big (k c n b : Int) (hk0 : 1 < k) (hk7 : k ≤ 6) (hk3 : k ≠ 3) (hv : 1099511627776 < c) (w : World) (hT : PowIs w) :
  Calls Tryz.prog 17 #[opV k c n b] w fun e w' => e = .returned (.tuple #[.string (bOf []), .bool false]) ∧ Below w.heap.size w w' := by
 have f1 : decide (c < 0) = false := by simp; omega
 have f2 : decide (c > 1099511627776) = true := by simpa using hv
 have h1 : decide (k < 1) = false := by simp; omega
 have h2 : decide (k > 6) = false := by simp; omega
 have h4 : decide (k = 1) = false := by simp; omega
 go_enter Tryz.func17, Tryz.ntmps17
 go_wp2_with fail
 have k0 := cell_new w (opC k c n b) 49 0
 have k1 := cell_new w (opC k c n b) 49 1
 have k2 := cell_new w (opC k c n b) 49 2
 have k3 := cell_new w (opC k c n b) 49 3
 have hb := (Below.refl w.heap.size w).alloc (Nat.le_refl _) (.cells (opC k c n b) 49)
 have hT1 : PowIs _ := tab_below hT hb
 have hsz : w.heap.size < (w.alloc (.cells (opC k c n b) 49)).heap.size := by simp
 generalize w.alloc (.cells (opC k c n b) 49) = W at *
 have k0 : W.cell? ⟨w.heap.size, 0, none⟩ = some (.int .i64 k) := k0
 have k1 : W.cell? ⟨w.heap.size, 1, none⟩ = some (.int .i64 c) := k1
 have k2 : W.cell? ⟨w.heap.size, 2, none⟩ = some (.int .i64 n) := k2
 have k3 : W.cell? ⟨w.heap.size, 3, none⟩ = some (.int .u8 b) := k3
 generalize hB : w.heap.size = B at *
 have hn : B ≤ w.heap.size := by omega
 refine (Tryz.number_core B k hk3 _ k0).mono ?_
 rintro e w1 ⟨rfl, rfl⟩
 go_wp2
 go_ret2
 exact ⟨rfl, by rw [hB]; exact hb⟩
set_option maxHeartbeats 4000000 in
theorem Tryz.line_other_ok (k c n b : Int) (hk0 : 1 < k) (hk7 : k ≤ 6) (hk3 : k ≠ 3) (j : Nat) (hj : k = j + 1) (h0 : 0 ≤ c) (h1 : c ≤ 1099511627776) (w : World) (hT : PowIs w) :
  Calls Tryz.prog 17 #[opV k c n b] w fun e w' => e = .returned (.tuple #[.string (bOf ((wordsL.getD j []) ++ [32] ++ itoaL c)), .bool true]) ∧ Below w.heap.size w w' := by
 have f1 : decide (c < 0) = false := by simp; omega
 have f2 : decide (c > 1099511627776) = false := by simp; omega
 have hi1 : -9223372036854775808 ≤ c := by omega
 have hi2 : c ≤ 9223372036854775807 := by omega
 have hj6 : j < 6 := by omega
 have g1 : IntKind.i64.wrap (k - 1) = (j : Int) := by rw [IntWalk.i64_in _ ⟨by omega, by omega⟩]; omega
 have g2 : (0 : Int) ≤ (j : Int) := by omega
 have g3 : (j : Int) < 6 := by omega
 have hwj : wordsV[j]? = some (.string (bOf (wordsL.getD j []))) := by
  have : j = 0 ∨ j = 1 ∨ j = 2 ∨ j = 3 ∨ j = 4 ∨ j = 5 := by omega
  rcases this with rfl | rfl | rfl | rfl | rfl | rfl <;> rfl
 clear hj
 have hsum : bOf (wordsL.getD j []) ++ ⟨#[32]⟩ ++ bOf (itoaL c) = bOf ((wordsL.getD j []) ++ [32] ++ itoaL c) := by
  rw [show (⟨#[32]⟩ : ByteArray) = bOf [32] from rfl, bOf_append, bOf_append]
 have hl1 : (bOf (wordsL.getD j [])).size ≤ 20 := by
  have : j = 0 ∨ j = 1 ∨ j = 2 ∨ j = 3 ∨ j = 4 ∨ j = 5 := by omega
  rcases this with h | h | h | h | h | h <;> (subst h; decide)
 have hl2 : (bOf (itoaL c)).size ≤ 30 := by
  have e1 := Lib.itoa_length_le c hi1 hi2
  rw [← itoaL_eq hi1 hi2] at e1
  show (itoaL c).length ≤ 30
  omega
 rw [← hsum]
 clear hsum
 generalize bOf (wordsL.getD j []) = X at *
 have hIt := fun w hT => Tryz.itoa2 c hi1 hi2 w hT
 generalize bOf (itoaL c) = Y at *
 have h1 : decide (k < 1) = false := by simp; omega
 have h2 : decide (k > 6) = false := by simp; omega
 have h4 : decide (k = 1) = false := by simp; omega
 go_enter Tryz.func17, Tryz.ntmps17
 go_wp2_with fail
 have k0 := cell_new w (opC k c n b) 49 0
 have k1 := cell_new w (opC k c n b) 49 1
 have k2 := cell_new w (opC k c n b) 49 2
 have k3 := cell_new w (opC k c n b) 49 3
 have hb := (Below.refl w.heap.size w).alloc (Nat.le_refl _) (.cells (opC k c n b) 49)
 have hT1 : PowIs _ := tab_below hT hb
 have hsz : w.heap.size < (w.alloc (.cells (opC k c n b) 49)).heap.size := by simp
 generalize w.alloc (.cells (opC k c n b) 49) = W at *
 have k0 : W.cell? ⟨w.heap.size, 0, none⟩ = some (.int .i64 k) := k0
 have k1 : W.cell? ⟨w.heap.size, 1, none⟩ = some (.int .i64 c) := k1
 have k2 : W.cell? ⟨w.heap.size, 2, none⟩ = some (.int .i64 n) := k2
 have k3 : W.cell? ⟨w.heap.size, 3, none⟩ = some (.int .u8 b) := k3
 generalize hB : w.heap.size = B at *
 have hn : B ≤ w.heap.size := by omega
 refine (Tryz.number_core B k hk3 _ k0).mono ?_
 rintro e w1 ⟨rfl, rfl⟩
 go_wp2_with fail
 go_region_with (first | (go_at_call 29; refine (Tryz.words2 _).mono ?_; rintro e w' ⟨rfl, hb2, hq⟩; have hq : w'.cell? ⟨w1.heap.size, j, none⟩ = some (.string X) := (hq j).trans hwj; have k0 : w'.cell? ⟨B, 0, none⟩ = _ := keepc hb2 k0; have hT1 : PowIs w' := tab_below hT1 hb2; have hb : Below B w w' := below_trans hb hb2 hn) | (go_at_call 12; refine (hIt _ ?_).mono ?_; (exact hT1); rintro e w' ⟨rfl, hb2⟩; have hq : w'.cell? ⟨w1.heap.size, j, none⟩ = some (.string X) := keepc hb2 hq; have k0 : w'.cell? ⟨B, 0, none⟩ = _ := keepc hb2 k0; have hT1 : PowIs w' := tab_below hT1 hb2; have hb : Below B w w' := below_trans hb hb2 hn))
 all_goals go_wp2
 all_goals go_ret2
 all_goals exact ⟨rfl, by rw [hB]; assumption⟩
end Go.Proofs
set_option linter.unusedVariables false
set_option linter.unusedSimpArgs false
set_option maxRecDepth 100000
namespace Go.Proofs
open Go.RowKit Go.Bn
theorem cell_keep (w : World) (o : Obj) {b j : Nat} {v : Value} (h : w.cell? ⟨b, j, none⟩ = some v) : (w.alloc o).cell? ⟨b, j, none⟩ = some v :=
 (World.cell?_of_block (Below.heap_alloc w o b (Lib.lt_of_cell h))).trans h
theorem lineB_no (o : Bn.Op) (h : numOf o < 0 ∨ numOf o > 1099511627776) : lineB o = (bOf [], false) := by
 unfold lineB lineL
 by_cases h1 : o.1 < 1 ∨ o.1 > 6
 ·rw [if_pos h1]
 ·rw [if_neg h1, if_pos h]
theorem lineB_out (o : Bn.Op) (h : o.1 < 1 ∨ o.1 > 6) : lineB o = (bOf [], false) := by
 unfold lineB lineL
 rw [if_pos h]
theorem lineB_ok (o : Bn.Op) (h : ¬ (o.1 < 1 ∨ o.1 > 6)) (h2 : ¬ (numOf o < 0 ∨ numOf o > 1099511627776)) : lineB o = (bOf (wordsL.getD (o.1 - 1).toNat [] ++ [32] ++ itoaL (numOf o)), true) := by
 unfold lineB lineL
 rw [if_neg h, if_neg h2]
theorem numOf_one (c n b : Int) : numOf (1, c, n, b) = b := by simp [numOf]
theorem numOf_three (c n b : Int) : numOf (3, c, n, b) = n := by simp [numOf]
theorem numOf_else (k c n b : Int) (h1 : k ≠ 1) (h3 : k ≠ 3) : numOf (k, c, n, b) = c := by simp [numOf, h1, h3]
theorem Tryz.line (k c n b : Int) (hb : 0 ≤ b ∧ b ≤ 255) (w : World) (hT : PowIs w) :
  Calls Tryz.prog 17 #[opV k c n b] w fun e w' => e = .returned (.tuple #[.string (lineB (k, c, n, b)).1, .bool (lineB (k, c, n, b)).2]) ∧ Below w.heap.size w w' := by
 by_cases h0 : k < 1
 ·rw [lineB_out (k, c, n, b) (.inl h0)]; exact Tryz.line_kind0 k c n b h0 w
 by_cases h7 : 6 < k
 ·rw [lineB_out (k, c, n, b) (.inr h7)]; exact Tryz.line_kind7 k c n b h7 w
 have hk : ¬ (k < 1 ∨ k > 6) := by omega
 by_cases hn : numOf (k, c, n, b) < 0 ∨ numOf (k, c, n, b) > 1099511627776
 ·rw [lineB_no _ hn]
  by_cases h1 : k = 1
  ·subst h1; rw [numOf_one] at hn; omega
  by_cases h3 : k = 3
  ·subst h3
   rw [numOf_three] at hn
   rcases hn with hn | hn
   ·exact Tryz.line_read_neg c n b hn w hT
   ·exact Tryz.line_read_big c n b hn w hT
  ·rw [numOf_else k c n b h1 h3] at hn
   rcases hn with hn | hn
   ·exact Tryz.line_other_neg k c n b (by omega) (by omega) h3 hn w hT
   ·exact Tryz.line_other_big k c n b (by omega) (by omega) h3 hn w hT
 ·rw [lineB_ok (k, c, n, b) hk hn]
  by_cases h1 : k = 1
  ·subst h1; rw [numOf_one]; exact Tryz.line_byte_ok c n b hb.1 hb.2 w hT
  by_cases h3 : k = 3
  ·subst h3
   rw [numOf_three] at hn ⊢
   exact Tryz.line_read_ok c n b (by omega) (by omega) w hT
  ·rw [numOf_else k c n b h1 h3] at hn ⊢
   exact Tryz.line_other_ok k c n b (by omega) (by omega) h3 (k - 1).toNat (by omega) (by omega) (by omega) w hT
theorem Tryz.atoi_bad (s : ByteArray) (hs : s.size ≤ 140737488355328) (h : ∀ v, Lib.atoiAll s.data.toList ≠ .ok v) (w : World) (h2 : ∃ te pe, w.cell? ⟨2, 0, none⟩ = some (.iface te pe)) (h3 : ∃ te pe, w.cell? ⟨3, 0, none⟩ = some (.iface te pe)) :
  Calls Tryz.prog 32 #[.string s] w fun e w' => ∃ n x, e = .returned (.tuple #[.int .i64 n, .iface 137 x]) ∧ Below w.heap.size w w' := by
 obtain ⟨t2, p2, h2⟩ := h2
 obtain ⟨t3, p3, h3⟩ := h3
 have h4 : Lib.atoiAll s.data.toList = Lib.NumEnd.syntax ∨ Lib.atoiAll s.data.toList = Lib.NumEnd.range := by
  generalize Lib.atoiAll s.data.toList = x at h
  exact match x, h with
   | .ok v, h => absurd rfl (h v)
   | Lib.NumEnd.syntax, _ => .inl rfl
   | .range, _ => .inr rfl
 rcases h4 with ha | ha
 ·exact (Tryz.strconv_Atoi_syntax s (by omega) ha _ w h2 (.inr ⟨_, _, rfl⟩)).mono (by rintro e w' ⟨N, rfl, _, _, hb⟩; exact ⟨_, _, rfl, hb⟩)
 ·exact (Tryz.strconv_Atoi_range s (by omega) ha _ w h3 (.inr ⟨_, _, rfl⟩)).mono (by rintro e w' ⟨N, rfl, _, _, hb⟩; exact ⟨_, _, rfl, hb⟩)
theorem Tryz.atoi_good (s : ByteArray) (hs : s.size ≤ 140737488355328) (v : Int) (h : Lib.atoiAll s.data.toList = .ok v) (w : World) :
  Calls Tryz.prog 32 #[.string s] w fun e w' => e = .returned (.tuple #[.int .i64 v, .nilIface]) ∧ Below w.heap.size w w' :=
 (Tryz.strconv_Atoi_ok s (by omega) v h w).mono (by
  rintro e w' ⟨rfl, rfl | ⟨t, rfl⟩⟩
  ·exact ⟨rfl, Below.refl _ _⟩
  ·exact ⟨rfl, Lib.bytesWorld_below _ _ _⟩)
theorem keeph {w b w' : World} {g : Nat} {o : Obj} (hb : Below b.heap.size b w') (h : w.heap[g]? = some o) (e : b.heap = w.heap := by rfl) : w'.heap[g]? = some o := by
 have hlt : g < w.heap.size := by
  rcases Nat.lt_or_ge g w.heap.size with h' | h'
  ·exact h'
  ·rw [Array.getElem?_eq_none h'] at h; cases h
 rw [hb.block g (by rw [e]; exact hlt), e]; exact h
theorem hd_lt {w : World} {g : Nat} {o : Obj} (h : w.heap[g]? = some o) : g < w.heap.size := by
 rcases Nat.lt_or_ge g w.heap.size with h' | h'
 ·exact h'
 ·rw [Array.getElem?_eq_none h'] at h; cases h
theorem tab_lt {w : World} {P : Program} {nm : String} {k : IntKind} {zs : List Int} (h : Lib.TabIs P w nm k zs) {g : Nat} (hg : P.globalNamed nm = some g) : g < w.heap.size := by
 unfold Lib.TabIs World.var? at h
 rw [hg] at h
 simp only [Option.bind_some] at h
 rcases Nat.lt_or_ge g w.heap.size with h' | h'
 ·exact h'
 ·rw [Array.getElem?_eq_none h'] at h; cases h
theorem tab_set {w : World} {P : Program} {nm : String} {k : IntKind} {zs : List Int} (h : Lib.TabIs P w nm k zs) {n : Nat} (hn : ∀ g, P.globalNamed nm = some g → g < n) (p : Addr) (v : Value) (hp : n ≤ p.block := by exact Nat.le_refl _) : Lib.TabIs P (w.setCell p v) nm k zs := by
 unfold Lib.TabIs World.var? at *
 cases hg : P.globalNamed nm with
 | none => rw [hg] at h; simp at h
 | some g =>
  rw [hg] at h
  simp only [Option.bind_some] at h ⊢
  have := hn g hg
  rw [Below.heap_setCell w p v g (by omega)]
  exact h
theorem cut_rest (c : UInt8) : ∀ l : List UInt8, (cutL c l).2.1.length ≤ l.length
 | [] => Nat.le_refl _
 | b :: r => by
  unfold cutL
  split
  ·simp
  ·have := cut_rest c r; simp; omega
theorem eq_lists (a b : List UInt8) : ((bOf a).toList == (bOf b).toList) = decide (a = b) := by
 rw [ByteArray.toList_eq, ByteArray.toList_eq, Bool.eq_iff_iff]
 simp [bOf]
theorem read_cells {W : World} {N : Nat} (h : W.heap[N]? = some (.cells wordsV 9 (0, 0))) (j : Nat) (hj : j < 6) : W.cell? ⟨N, j, none⟩ = some (.string (bOf (wordsL.getD j []))) := by
 rw [Lib.cell_of_heap h]
 have : j = 0 ∨ j = 1 ∨ j = 2 ∨ j = 3 ∨ j = 4 ∨ j = 5 := by omega
 rcases this with rfl | rfl | rfl | rfl | rfl | rfl <;> rfl
theorem Tryz.words3 (w : World) : Calls Tryz.prog 29 #[] w fun e w' => e = .returned (.slice (some ⟨w.heap.size, 0, none⟩) 6 6) ∧ Below w.heap.size w w' ∧ w'.heap[w.heap.size]? = some (.cells wordsV 9 (0, 0)) :=
 (Tryz.words w).mono (by rintro e w' ⟨rfl, rfl⟩; exact ⟨rfl, (Below.refl _ _).alloc (Nat.le_refl _) _, heap_alloc_new w _⟩)
theorem heap_set {w : World} {g : Nat} {cs : Array Value} {t : TypeId} {fz : Nat × Nat} (h : w.heap[g]? = some (.cells cs t fz)) (o : Nat) (u : Value) :
  (w.setCell ⟨g, o, none⟩ u).heap[g]? = some (.cells (cs.setIfInBounds o u) t fz) := by
 have hlt : g < w.heap.size := (Array.getElem?_eq_some_iff.1 h).1
 have h' : w.heap[g] = .cells cs t fz := (Array.getElem?_eq_some_iff.1 h).2
 show (w.heap.modify g _)[g]? = _
 rw [Array.getElem?_modify, if_pos rfl, Array.getElem?_eq_getElem hlt, h']; rfl
theorem Tryz.read_res {W : World} {B : Nat} (k c n b : Int) (h : W.heap[B]? = some (.cells (opC k c n b) 49 (0, 0))) (tmps : Array Value) (hB : tmps.getD 2 undef = .pointer (some ⟨B, 0, none⟩)) :
  (results Tryz.f21 tmps).run Tryz.prog W = .ok (.tuple #[opV k c n b, tmps.getD 3 undef]) W := by
 have c0 : W.cell? ⟨B, 0, none⟩ = some (.int .i64 k) := by rw [Lib.cell_of_heap h]; rfl
 have c1 : W.cell? ⟨B, 1, none⟩ = some (.int .i64 c) := by rw [Lib.cell_of_heap h]; rfl
 have c2 : W.cell? ⟨B, 2, none⟩ = some (.int .i64 n) := by rw [Lib.cell_of_heap h]; rfl
 have c3 : W.cell? ⟨B, 3, none⟩ = some (.int .u8 b) := by rw [Lib.cell_of_heap h]; rfl
 rw [results_cell_tmp (show Tryz.f21.results = #[.cell 2 49, .tmp 3] by kernel_rfl), hB]
 generalize tmps.getD 3 undef = y
 go_simp
set_option maxHeartbeats 4000000 in
theorem Tryz.read_bad (s : ByteArray) (hs : s.size ≤ 140737488355328) (h : ∀ v, Lib.atoiAll (cutL 32 s.data.toList).2.1 ≠ .ok v) (w : World) (h2 : ∃ te pe, w.cell? ⟨2, 0, none⟩ = some (.iface te pe)) (h3 : ∃ te pe, w.cell? ⟨3, 0, none⟩ = some (.iface te pe)) :
  Calls Tryz.prog 21 #[.string s] w fun e w' => e = .returned (.tuple #[opV 0 0 0 0, .bool false]) ∧ Below w.heap.size w w' := by
 have hcut := fun w => Tryz.cut s ⟨#[32]⟩ 32 rfl w hs
 have hr : (bOf (cutL 32 s.data.toList).2.1).size ≤ 140737488355328 := by
  have h1 := cut_rest 32 s.data.toList
  have h2 : s.size = s.data.toList.length := rfl
  show (cutL 32 s.data.toList).2.1.length ≤ _
  omega
 have hat := fun w => Tryz.atoi_bad (bOf (cutL 32 s.data.toList).2.1) hr h w
 obtain ⟨wl, hwl⟩ : ∃ wl, wl = (cutL 32 s.data.toList).1 := ⟨_, rfl⟩
 rw [← hwl] at hcut
 generalize bOf (cutL 32 s.data.toList).2.1 = rest, (cutL 32 s.data.toList).2.2 = z at *
 clear h hs hr hwl
 have hn : w.heap.size ≤ w.heap.size := Nat.le_refl _
 go_enter Tryz.func21, Tryz.ntmps21
 go_wp2_with fail
 have hb := (Below.refl w.heap.size w).alloc (Nat.le_refl _) (.cells (opC 0 0 0 0) 49)
 have hd : (w.alloc (.cells (opC 0 0 0 0) 49)).heap[w.heap.size]? = some (.cells (opC 0 0 0 0) 49 (0, 0)) := heap_alloc_new w _
 obtain ⟨t2, p2, h2⟩ := h2
 obtain ⟨t3, p3, h3⟩ := h3
 have h2 := cell_keep w (.cells (opC 0 0 0 0) 49) h2
 have h3 := cell_keep w (.cells (opC 0 0 0 0) 49) h3
 generalize w.alloc (.cells (opC 0 0 0 0) 49) = W at *
 refine (hcut _).mono ?_
 rintro e w1 ⟨rfl, q, rfl⟩
 go_wp2_with fail
 refine (hat (W.drewN q) ⟨t2, p2, h2⟩ ⟨t3, p3, h3⟩).mono ?_
 rintro e w2 ⟨nn, x, rfl, hb2⟩
 have hb := below_trans hb hb2 hn
 have hd := keeph hb2 hd
 go_wp2_with fail
 refine (Tryz.words3 _).mono ?_
 rintro e w3 ⟨rfl, hb3, hw⟩
 have hb := below_trans hb hb3 hn
 have hd := keeph hb3 hd
 clear hat hcut h2 h3 hb2 hb3
 generalize hB : w.heap.size = B at *
 have hn' : B ≤ w.heap.size := by omega
 go_wp2
 go_loopw [27] (fun i wr => (∃ k : Nat, k ≤ 6 ∧ i = .int .i64 k) ∧ Below w3.heap.size w3 wr) (fun i _ => 7 - (intOf i).toNat)
 case atStart => exact ⟨⟨0, Nat.zero_le _, rfl⟩, Below.refl _ _⟩
 case round =>
  obtain ⟨⟨k, hk, rfl⟩, hbr⟩ := hrel
  by_cases h6 : k < 6
  ·have i0 : (0 : Int) ≤ (k : Int) := by omega
   have i1 : (k : Int) < 6 := by omega
   have hcell := read_cells (keeph hbr hw) k h6
   go_wp2
   all_goals exact ⟨⟨⟨k + 1, by omega, by simp⟩, hbr⟩, by simp [intOf]; omega⟩
  ·have hk6 : k = 6 := by omega
   subst hk6
   have hd := keeph hbr hd
   have c0 : wr.cell? ⟨B, 0, none⟩ = some (.int .i64 0) := by rw [Lib.cell_of_heap hd]; rfl
   have c1 : wr.cell? ⟨B, 1, none⟩ = some (.int .i64 0) := by rw [Lib.cell_of_heap hd]; rfl
   have c2 : wr.cell? ⟨B, 2, none⟩ = some (.int .i64 0) := by rw [Lib.cell_of_heap hd]; rfl
   have c3 : wr.cell? ⟨B, 3, none⟩ = some (.int .u8 0) := by rw [Lib.cell_of_heap hd]; rfl
   have z0 : wr.frozen? ⟨B, 0, none⟩ = false := Lib.frozen_of_heap hd 0
   have z1 : wr.frozen? ⟨B, 1, none⟩ = false := Lib.frozen_of_heap hd 1
   have z2 : wr.frozen? ⟨B, 2, none⟩ = false := Lib.frozen_of_heap hd 2
   have z3 : wr.frozen? ⟨B, 3, none⟩ = false := Lib.frozen_of_heap hd 3
   go_wp2
   have hd2 := heap_set (heap_set (heap_set (heap_set hd 0 (.int .i64 0)) 1 (.int .i64 0)) 2 (.int .i64 0)) 3 (.int .u8 0)
   refine bodyPost_ret (Tryz.read_res 0 0 0 0 hd2 _ rfl) rfl ?_
   refine ⟨rfl, ?_⟩
   have hbb := below_trans hb hbr hn'
   rw [hB]
   exact (((hbb.setCell (p := ⟨B, 0, none⟩) (Nat.le_refl _) _).setCell (p := ⟨B, 1, none⟩) (Nat.le_refl _) _).setCell (p := ⟨B, 2, none⟩) (Nat.le_refl _) _).setCell (p := ⟨B, 3, none⟩) (Nat.le_refl _) _
end Go.Proofs
