import Derived.Test.YthmieigenefilaaGreatDoorQBWPmore
set_option linter.unusedSimpArgs false
set_option linter.unusedVariables false
namespace Go.Proofs.YthmieigenefilaaGreatDoor
open Go Go.Ab Go.Bn
def RT : List AKO := [⟨5, 0, 0, 0⟩, ⟨2, 0, 0, 0⟩, ⟨5, 1, 0, 0⟩, ⟨2, 1, 0, 0⟩]
theorem runs_RT (s : KS) : runs s RT = (runA (restoreD (runA (restoreD s 0) 0).1 1) 1).1 := rfl
theorem round_lt (s : KS) (h : Inv s) (ht : RightT s.tty) : Inv (runs s RT) ∧ RightT (runs s RT).tty ∧ meas (runs s RT) ≤ meas s - 1 := by
 rw [runs_RT]
 obtain ⟨s1, hs1⟩ : ∃ s1, s1 = restoreD s 0 := ⟨_, rfl⟩
 obtain ⟨s2, hs2⟩ : ∃ s2, s2 = (runA s1 0).1 := ⟨_, rfl⟩
 obtain ⟨s3, hs3⟩ : ∃ s3, s3 = restoreD s2 1 := ⟨_, rfl⟩
 have i1 := restoreD_inv s h ht 0 (by omega)
 rw [← hs1] at i1
 have i2 := runA_inv s1 i1.1 i1.2 0 (by omega)
 rw [← hs2] at i2
 have i3 := restoreD_inv s2 i2.1 i2.2 1 (by omega)
 rw [← hs3] at i3
 have i4 := runA_inv s3 i3.1 i3.2 1 (by omega)
 have m1 := restore_meas s 0 (by omega)
 rw [← hs1] at m1
 have m2 := run_meas s1 i1.1 0 (by omega)
 rw [← hs2] at m2
 have m3 := restore_meas s2 1 (by omega)
 rw [← hs3] at m3
 have m4 := run_meas s3 i3.1 1 (by omega)
 rw [← hs1, ← hs2, ← hs3]
 refine ⟨i4.1, i4.2, ?_⟩
 have keep : ∀ (u : KS) (k c : Nat), (restoreD u k).fet = u.fet ∧ ((restoreD u k).cs c).served = (u.cs c).served ∧ ((restoreD u k).cs c).asked = (u.cs c).asked ∧ ((u.cs c).saves = 0 → ((restoreD u k).cs c).saves = 0) := by
  intro u k c
  unfold restoreD
  split
  ·exact ⟨rfl, rfl, rfl, id⟩
  ·refine ⟨rfl, ?_⟩
   show (updc u.cs k _ c).served = _ ∧ (updc u.cs k _ c).asked = _ ∧ (_ → (updc u.cs k _ c).saves = 0)
   unfold updc
   split
   ·rename_i hc; subst hc; exact ⟨rfl, rfl, fun h0 => by show (u.cs c).saves - 1 = 0; omega⟩
   ·exact ⟨rfl, rfl, id⟩
 have turn : ∀ (u v : KS) (k : Nat), k < 2 → v = restoreD u k → meas v ≤ meas u → (((u.cs k).served = false → (u.cs k).asked = true → 0 < (u.cs k).saves → meas v < meas u)) →
   (meas (runA v k).1 ≤ meas v ∧ ((v.cs k).served = true ∨ ((v.cs k).asked = true ∧ (v.cs k).saves = 0) ∨ v.fet ≠ [] → meas (runA v k).1 < meas v)) →
   meas (runA v k).1 < meas u ∨ ((u.cs k).served = false ∧ (u.cs k).asked = false ∧ u.fet = [] ∧ (runA v k).1 = v) := by
  intro u v k hk hv hm1 hm2 hm3
  obtain ⟨k1, k2, k3, k4⟩ := keep u k k
  rw [← hv] at k1 k2 k3 k4
  by_cases hf : u.fet = []
  ·cases hs : (u.cs k).served with
   | true => have := hm3.2 (.inl (by rw [k2]; exact hs)); exact .inl (by omega)
   | false =>
    cases ha : (u.cs k).asked with
    | true =>
     rcases Nat.eq_zero_or_pos (u.cs k).saves with h0 | h0
     ·have := hm3.2 (.inr (.inl ⟨by rw [k3]; exact ha, k4 h0⟩)); exact .inl (by omega)
     ·have := hm2 hs ha h0; exact .inl (by omega)
    | false =>
     refine .inr ⟨rfl, rfl, hf, ?_⟩
     unfold runA
     rw [k2, k3, hs, ha, k1, hf, if_neg (by decide), if_neg (by simp)]
  ·have := hm3.2 (.inr (.inr (by rw [k1]; exact hf))); exact .inl (by omega)
 rcases turn s s1 0 (by omega) hs1 m1.1 m1.2 (by rw [← hs2]; exact m2) with t | ⟨a1, a2, a3, a4⟩
 ·rw [← hs2] at t; omega
 rw [← hs2] at a4
 rcases turn s2 s3 1 (by omega) hs3 m3.1 m3.2 m4 with t | ⟨b1, b2, b3, b4⟩
 ·omega
 rw [b4]
 obtain ⟨k1, k2, k3, k4⟩ := keep s 0 1
 rw [← hs1, ← a4] at k1 k2 k3
 rw [k2] at b1
 rw [k3] at b2
 have hsent := h.fly
 rw [a1, a2, b1, b2] at hsent
 have hup : s.up = false := by
  cases hq : s.up with
  | false => rfl
  | true => have := h.sent hq; rw [hsent] at this; cases this
 have hdev := h.up
 rw [hup] at hdev
 have hd0 : ¬ 0 < s.dev.length := of_decide_eq_false hdev.symm
 have hm : meas s = 0 := by
  unfold meas wt
  rw [a3, a1, a2, b1, b2]
  simp
  omega
 omega
def rounds (m : Nat) : List AKO := (List.replicate m RT).flatten
theorem rounds_succ (m : Nat) : rounds (m + 1) = rounds m ++ RT := by unfold rounds; rw [List.replicate_succ', List.flatten_append]; simp
theorem rounds_meas (s : KS) (h : Inv s) (ht : RightT s.tty) : ∀ m, Inv (runs s (rounds m)) ∧ RightT (runs s (rounds m)).tty ∧ meas (runs s (rounds m)) ≤ meas s - m := by
 intro m
 induction m with
 | zero => exact ⟨h, ht, by simp [rounds, runs]⟩
 | succ m ih =>
  rw [rounds_succ, runs_append]
  have := round_lt _ ih.1 ih.2.1
  exact ⟨this.1, this.2.1, by omega⟩
theorem all_done (a0 : List AKO) (m : Nat) (hm : a0.length + 60 ≤ m) : (runs BEG (a0 ++ rounds m)).dev = [] ∧ (runs BEG (a0 ++ rounds m)).fet = [] := by
 have hi := runs_inv a0 BEG BEG_inv (by decide)
 have ht : tot BEG = 0 := by decide
 have hm2 := meas_tot _ hi.1
 have hr := rounds_meas _ hi.1 hi.2.1 m
 rw [← runs_append] at hr
 have h0 : meas (runs BEG (a0 ++ rounds m)) = 0 := by
  have := hr.2.2
  have h3 := hi.2.2
  omega
 unfold meas at h0
 exact ⟨List.eq_nil_of_length_eq_zero (by omega), List.eq_nil_of_length_eq_zero (by omega)⟩
def RTX : List UInt8 := [114, 101, 115, 116, 111, 114, 101, 32, 48, 10, 114, 117, 110, 32, 48, 10, 114, 101, 115, 116, 111, 114, 101, 32, 49, 10, 114, 117, 110, 32, 49, 10]
theorem parse_RTX : parseF (RTX.length + 1) RTX = (RT, none) := by decide +kernel
theorem parse_rounds : ∀ (m f : Nat), (Lib.repeatL RTX m).length < f → parseF f (Lib.repeatL RTX m) = (rounds m, none)
 | 0, f, h => by
  cases f with
  | zero => omega
  | succ f => rfl
 | m + 1, f, h => by
  have e : Lib.repeatL RTX (m + 1) = RTX ++ Lib.repeatL RTX m := rfl
  obtain ⟨g, hg, e2⟩ := parse_append (Lib.repeatL RTX m) (RTX.length + 1) RTX f (by omega) (by rw [parse_RTX]) (by rw [← e]; exact h)
  rw [e, e2, parse_RTX, parse_rounds m g hg]
  have e3 : rounds (m + 1) = RT ++ rounds m := by unfold rounds; rw [List.replicate_succ, List.flatten_cons]
  rw [e3]
  rfl
theorem rounds_len (m : Nat) : (rounds m).length = 4 * m := by
 induction m with
 | zero => rfl
 | succ m ih => rw [rounds_succ, List.length_append, ih]; show _ + 4 = _; omega
theorem left_zero (s : KS) (h1 : s.dev = []) (h2 : s.fet = []) : Lib.hasPrefix (leftF (valsOf (wholeOf s)) (bytesOf [108, 101, 102, 116])).data.toList (bytesOf [108, 101, 102, 116, 32, 48, 32, 48, 32]).data.toList = true := by
 have e : valsOf (wholeOf s) = 0 :: 0 :: ((s.tty.Lines.length : Nat) : Int) :: [((s.tty.Edit.length : Nat) : Int), s.lost, s.taken] := by
  unfold valsOf wholeOf
  simp only [h1, h2]
  rfl
 have pre : ∀ (vs : List Int) (x : ByteArray), ∃ t, (leftF vs x).data.toList = x.data.toList ++ t := by
  intro vs
  induction vs with
  | nil => exact fun x => ⟨[], by rw [List.append_nil]; rfl⟩
  | cons v vs ih =>
   intro x
   obtain ⟨t, ht⟩ := ih (x ++ (bytesOf [32] ++ bOf (itoaL v)))
   refine ⟨(bytesOf [32] ++ bOf (itoaL v)).data.toList ++ t, ?_⟩
   show (leftF vs (x ++ (bytesOf [32] ++ bOf (itoaL v)))).data.toList = _
   rw [ht, ByteArray.data_append, Array.toList_append, List.append_assoc]
 rw [e]
 obtain ⟨t, ht⟩ := pre [((s.tty.Edit.length : Nat) : Int), s.lost, s.taken] (bytesOf [108, 101, 102, 116] ++ (bytesOf [32] ++ bOf (itoaL 0)) ++ (bytesOf [32] ++ bOf (itoaL 0)) ++ (bytesOf [32] ++ bOf (itoaL ((s.tty.Lines.length : Nat) : Int))))
 have e2 : leftF (0 :: 0 :: ((s.tty.Lines.length : Nat) : Int) :: [((s.tty.Edit.length : Nat) : Int), s.lost, s.taken]) (bytesOf [108, 101, 102, 116]) = leftF [((s.tty.Edit.length : Nat) : Int), s.lost, s.taken] (bytesOf [108, 101, 102, 116] ++ (bytesOf [32] ++ bOf (itoaL 0)) ++ (bytesOf [32] ++ bOf (itoaL 0)) ++ (bytesOf [32] ++ bOf (itoaL ((s.tty.Lines.length : Nat) : Int)))) := rfl
 have e5 : (bytesOf [32] ++ bOf (itoaL ((s.tty.Lines.length : Nat) : Int))).data.toList = (bytesOf [32]).data.toList ++ (bOf (itoaL ((s.tty.Lines.length : Nat) : Int))).data.toList := by rw [ByteArray.data_append, Array.toList_append]
 rw [e2, ht, ByteArray.data_append, Array.toList_append, e5]
 have e3 : (bytesOf [108, 101, 102, 116, 32, 48, 32, 48, 32]).data.toList = (bytesOf [108, 101, 102, 116] ++ (bytesOf [32] ++ bOf (itoaL 0)) ++ (bytesOf [32] ++ bOf (itoaL 0))).data.toList ++ (bytesOf [32]).data.toList := by decide +kernel
 rw [e3]
 show List.isPrefixOf _ _ = true
 rw [List.isPrefixOf_iff_prefix]
 exact ⟨(bOf (itoaL ((s.tty.Lines.length : Nat) : Int))).data.toList ++ t, by simp only [List.append_assoc]⟩
theorem TopLive_trueU (a0 : ByteArray) (h0 : a0.size ≤ 1048576) : top_TopLive a0 = some true := by
 have hl : a0.data.toList.length = a0.size := rfl
 unfold top_TopLive
 rw [alive_eq, Option.bind_some]
 show ((bench_Parse a0).bind _) = _
 rw [Parse_eq a0 (by omega), Option.bind_some]
 cases hp : (parseF (a0.size + 1) a0.data.toList).2 with
 | some j =>
  have e : presult [] 0 (parseF (a0.size + 1) a0.data.toList) = ([], ((0 + j : Nat) : Int), 1) := by unfold presult; rw [hp]
  rw [e]
  rfl
 | none =>
  have e : presult [] 0 (parseF (a0.size + 1) a0.data.toList) = ((parseF (a0.size + 1) a0.data.toList).1, 0, 0) := by unfold presult; rw [hp]; simp
  rw [e]
  show (bif ((((0 : Int)) != 0) || decide (((((parseF (a0.size + 1) a0.data.toList).1.length : Nat) : Int) : Int) > 100)) then some true else _) = _
  by_cases hn : (parseF (a0.size + 1) a0.data.toList).1.length > 100
  ·have : (((0 : Int)) != 0 || decide (((((parseF (a0.size + 1) a0.data.toList).1.length : Nat) : Int) : Int) > 100)) = true := by simp; omega
   rw [this, cond_true]
  ·have : (((0 : Int)) != 0 || decide (((((parseF (a0.size + 1) a0.data.toList).1.length : Nat) : Int) : Int) > 100)) = false := by simp; omega
   rw [this, cond_false]
   show ((bn_repeat (bOf RTX) (IntKind.i64.wrap (((parseF (a0.size + 1) a0.data.toList).1.length : Nat) + 60))).bind _) = _
   rw [wrap_id (by omega) (by omega)]
   obtain ⟨m, hm⟩ : ∃ m : Nat, m = (parseF (a0.size + 1) a0.data.toList).1.length + 60 := ⟨_, rfl⟩
   have hm2 : ((((parseF (a0.size + 1) a0.data.toList).1.length : Nat) : Int) + 60) = (m : Int) := by omega
   rw [hm2]
   unfold bn_repeat
   have hsz : (bOf RTX).size = 32 := rfl
   rw [if_pos (by rw [hsz]; omega), Option.bind_some]
   show (if a0.size + (bOf (Lib.repeatL RTX m)).size ≤ _ then (bench_Tell (a0 ++ bOf (Lib.repeatL RTX m))).bind _ else _) = _
   have hsr : (bOf (Lib.repeatL RTX m)).size = m * 32 := Lib.repeatL_length RTX m
   rw [if_pos (by rw [hsr]; omega)]
   obtain ⟨f, hf, e2⟩ := parse_append (Lib.repeatL RTX m) (a0.size + 1) a0.data.toList ((a0 ++ bOf (Lib.repeatL RTX m)).size + 1) (by omega) hp (by rw [app_size]; show (a0.data.toList ++ (bOf (Lib.repeatL RTX m)).data.toList).length < _; rw [List.length_append]; show _ + (bOf (Lib.repeatL RTX m)).size < _; omega)
   rw [parse_rounds m f hf] at e2
   have e4 : (a0 ++ bOf (Lib.repeatL RTX m)).data.toList = a0.data.toList ++ Lib.repeatL RTX m := by rw [ByteArray.data_append, Array.toList_append]; rfl
   rw [← e4] at e2
   have ht := Tell_ok (a0 ++ bOf (Lib.repeatL RTX m)) (by rw [app_size, hsr]; omega) (by rw [e2]; rfl)
   rw [e2] at ht
   simp only at ht
   rw [ht, Option.bind_some]
   have hd := all_done (parseF (a0.size + 1) a0.data.toList).1 m (by omega)
   have hlz : (List.zipWith tl ((parseF (a0.size + 1) a0.data.toList).1 ++ rounds m) (ansL BEG ((parseF (a0.size + 1) a0.data.toList).1 ++ rounds m))).length ≤ 1000 := by
    rw [List.length_zipWith, List.length_append]
    have := rounds_len m
    omega
   generalize List.zipWith tl ((parseF (a0.size + 1) a0.data.toList).1 ++ rounds m) (ansL BEG ((parseF (a0.size + 1) a0.data.toList).1 ++ rounds m)) = zs at hlz ⊢
   have hlast := left_zero _ hd.1 hd.2
   generalize leftF (valsOf (wholeOf (runs BEG ((parseF (a0.size + 1) a0.data.toList).1 ++ rounds m)))) (bytesOf [108, 101, 102, 116]) = last at hlast ⊢
   have hlen : (zs ++ [last]).length = zs.length + 1 := by simp
   simp only [hlen]
   have c1 : (((0 : Int) != 0) || ((((zs.length + 1 : Nat) : Int) : Int) == 0)) = false := by
    have : ((((zs.length + 1 : Nat) : Int) : Int) == 0) = false := by
     apply beq_false_of_ne; omega
    rw [this]; rfl
   rw [c1, cond_false, wrap_id (by omega) (by omega), if_pos (by omega)]
   have hi : 0 + Int.toNat (((zs.length + 1 : Nat) : Int) - 1) = zs.length := by omega
   rw [hi]
   have hg : (zs ++ [last]).getD zs.length ByteArray.empty = last := by simp
   rw [hg]
   unfold bn_hasprefix
   rw [hlast]
   rfl
end Go.Proofs.YthmieigenefilaaGreatDoor
