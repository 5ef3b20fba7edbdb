import Derived.Test.YthmieigenefilaaGreatDoorQBWPbench
set_option linter.unusedSimpArgs false
set_option linter.unusedVariables false
namespace Go.Proofs.YthmieigenefilaaGreatDoor
open Go Go.Ab Go.Bn
def BY (b : Int) : Prop := 0 ≤ b ∧ b ≤ 255
structure BT (t : T) : Prop where
 edit : ∀ b ∈ t.Edit, BY b
 lines : ∀ l ∈ t.Lines, ∀ b ∈ l, BY b
structure BOk (s : KS) : Prop where
 dev : ∀ b ∈ s.dev, BY b
 fet : ∀ b ∈ s.fet, BY b
 tty : BT s.tty
theorem BOk.of {s u : KS} (h : BOk s) (e1 : u.dev = s.dev) (e2 : u.fet = s.fet) (e3 : u.tty = s.tty) : BOk u :=
 ⟨by rw [e1]; exact h.dev, by rw [e2]; exact h.fet, by rw [e3]; exact h.tty⟩
theorem BT_z : BT TZ := ⟨fun b h => by simp at h, fun l h => by simp at h⟩
theorem levelA_by {s : KS} (h : BOk s) : BOk (levelA s) := h.of (levelA_tty s).2.2.1 (levelA_fet s) (levelA_tty s).1
theorem inA_by {s : KS} (h : BOk s) {b : Int} (hb : BY b) : BOk (inA s b) := by
 unfold inA
 split
 ·refine levelA_by ⟨?_, h.fet, h.tty⟩
  intro x hx
  rcases List.mem_append.1 hx with hx | hx
  ·exact h.dev x hx
  ·rw [List.mem_singleton.1 hx]; exact hb
 ·split
  ·exact h
  ·exact levelA_by ⟨h.dev, h.fet, h.tty⟩
theorem keyF_by {t : T} (h : BT t) {b : Int} (hb : BY b) : BT (keyF t b).1 := by
 have ht : ∀ n, ∀ x ∈ t.Edit.take n, BY x := fun n x hx => h.edit x (List.mem_of_mem_take hx)
 have hl : ∀ e : List Int, (∀ x ∈ e, BY x) → ∀ l ∈ t.Lines ++ [t.Edit ++ e], ∀ x ∈ l, BY x := by
  intro e he l hl x hx
  rcases List.mem_append.1 hl with hl | hl
  ·exact h.lines l hl x hx
  ·rw [List.mem_singleton.1 hl] at hx
   rcases List.mem_append.1 hx with hx | hx
   ·exact h.edit x hx
   ·exact he x hx
 unfold keyF
 split
 ·exact BT_z
 split
 ·exact ⟨fun x hx => by simp at hx, hl [b] fun x hx => by rw [List.mem_singleton.1 hx]; exact hb⟩
 split
 ·exact ⟨fun x hx => by simp at hx, hl [] fun x hx => by simp at hx⟩
 split
 ·exact ⟨ht _, h.lines⟩
 split
 ·exact ⟨fun x hx => by simp at hx, h.lines⟩
 split
 ·exact ⟨ht _, h.lines⟩
 split
 ·exact BT_z
 ·refine ⟨fun x hx => ?_, h.lines⟩
  rcases List.mem_append.1 hx with hx | hx
  ·exact h.edit x hx
  ·rw [List.mem_singleton.1 hx]; exact hb
theorem typS_by {t : T} (h : BT t) {b : Int} (hb : BY b) : BT (typS t b) := by
 unfold typS
 split
 ·exact keyF_by h hb
 ·exact h
theorem readF_by {t : T} (h : BT t) (m : Int) : BT (readF t m).1 ∧ ∀ b ∈ (readF t m).2.1, BY b := by
 unfold readF
 split
 ·exact ⟨BT_z, fun b hb => by simp at hb⟩
 split
 ·exact ⟨BT_z, fun b hb => by simp at hb⟩
 split
 ·exact ⟨BT_z, fun b hb => by simp at hb⟩
 ·rename_i l r hl
  have h1 : ∀ x ∈ l, BY x := h.lines l (by rw [hl]; exact List.mem_cons_self ..)
  have h2 : ∀ y ∈ r, ∀ x ∈ y, BY x := fun y hy => h.lines y (by rw [hl]; exact List.mem_cons_of_mem _ hy)
  split
  ·exact ⟨⟨h.edit, h2⟩, h1⟩
  ·refine ⟨⟨h.edit, fun y hy x hx => ?_⟩, fun x hx => h1 x (List.mem_of_mem_take hx)⟩
   rcases List.mem_cons.1 hy with rfl | hy
   ·exact h1 x (List.mem_of_mem_drop hx)
   ·exact h2 y hy x hx
theorem runA_by {s : KS} (h : BOk s) (k : Nat) : BOk (runA s k).1 := by
 unfold runA
 split
 ·split
  ·rename_i b t hd
   have hl : BOk (levelA { s with dev := t }) := levelA_by ⟨fun x hx => h.dev x (by rw [hd]; exact List.mem_cons_of_mem _ hx), h.fet, h.tty⟩
   refine ⟨hl.dev, fun x hx => ?_, hl.tty⟩
   rcases List.mem_append.1 hx with hx | hx
   ·exact hl.fet x hx
   ·rw [List.mem_singleton.1 hx]; exact h.dev b (by rw [hd]; exact List.mem_cons_self ..)
  ·exact h.of rfl rfl rfl
 ·split
  ·exact h.of rfl rfl rfl
  ·split
   ·rename_i b r hf
    exact ⟨h.dev, fun x hx => h.fet x (by rw [hf]; exact List.mem_cons_of_mem _ hx), typS_by h.tty (h.fet b (by rw [hf]; exact List.mem_cons_self ..))⟩
   ·exact h
theorem doA_by {s : KS} (h : BOk s) (o : AKO) (hb : BY o.Byte) : BOk (doA s o) := by
 unfold doA
 split
 ·exact h
 split
 ·exact h
 split
 ·exact inA_by h hb
 split
 ·exact runA_by h _
 split
 ·refine ⟨h.dev, h.fet, ?_⟩
  show BT (if _ then _ else _)
  split
  ·exact (readF_by h.tty _).1
  ·exact h.tty
 split
 ·split
  ·exact h
  ·unfold saveA
   split
   ·exact h
   ·exact h.of rfl rfl rfl
 split
 ·split
  ·exact h
  ·exact h.of rfl rfl rfl
 ·exact h.of rfl rfl rfl
theorem beg_by : BOk BEG := ⟨fun b h => by simp [BEG] at h, fun b h => by simp [BEG] at h, ⟨fun b h => by simp [BEG] at h, fun b h => by simp [BEG] at h⟩⟩
structure AOk (a : AKA) : Prop where
 err : 0 ≤ a.Err ∧ a.Err ≤ 10
 len : a.Data.length ≤ 65
 byt : ∀ b ∈ a.Data, BY b
theorem readF_len {t : T} (h : RightT t) (m : Int) : (readF t m).2.1.length ≤ 65 := by
 unfold readF
 split
 ·simp
 split
 ·simp
 split
 ·simp
 ·rename_i l r hl
  have h1 := h.2.2 l (by rw [hl]; exact List.mem_cons_self ..)
  split
  ·exact h1
  ·simp only [List.length_take]; omega
theorem ans_ok : ∀ (ops : List AKO) (s : KS) (n : Nat), Good s n → BOk s → n + ops.length ≤ 50000000 → (∀ o ∈ ops, BY o.Byte) → ∀ a ∈ ansL s ops, AOk a
 | [], s, n, _, _, _, _, a, ha => by simp [ansL] at ha
 | o :: r, s, n, hg, hb, hn, ho, a, ha => by
  simp only [List.length_cons] at hn
  rcases List.mem_cons.1 ha with rfl | ha
  ·have hft : s.fet.length ≤ tot s := by unfold tot; omega
   have := hg.tot
   have := hg.taken
   obtain ⟨-, h1, h2⟩ := do_ans s hg.inv hg.right o (by omega) (by omega)
   refine ⟨h1, ?_, ?_⟩
   ·rcases h2 with h2 | h2
    ·rw [h2]; simp
    ·rw [h2]; exact readF_len hg.right _
   ·rcases h2 with h2 | h2
    ·rw [h2]; intro b hb; simp at hb
    ·rw [h2]; exact (readF_by hb.tty _).2
  ·exact ans_ok r (doA s o) (n + 1) (hg.step o) (doA_by hb o (ho o (List.mem_cons_self ..))) (by omega) (fun o h => ho o (List.mem_cons_of_mem _ h)) a ha
def tl (o : AKO) (a : AKA) : ByteArray :=
 if a.Err ≠ 0 then bytesOf [101, 114, 114, 111, 114, 32] ++ bOf (itoaL a.Err)
 else if o.Kind = 3 then bytesOf [111, 107] ++ (bytesOf [32] ++ hexB a.Data) else bytesOf [111, 107]
def leftF (vs : List Int) (s : ByteArray) : ByteArray := vs.foldl (fun s n => s ++ (bytesOf [32] ++ bOf (itoaL n))) s
theorem itoa_len {n : Int} (h0 : -9223372036854775808 ≤ n) (h1 : n ≤ 9223372036854775807) : (bOf (itoaL n)).size ≤ 21 := by
 have := Lib.itoa_length_le n h0 h1
 rw [← itoaL_eq h0 h1] at this
 exact this
theorem bn_itoa_eq {n : Int} (h0 : -9223372036854775808 ≤ n) (h1 : n ≤ 9223372036854775807) : bn_itoa n = some (bOf (itoaL n)) := by
 unfold bn_itoa
 rw [if_pos ⟨h0, h1⟩]
theorem hex_size (l : List Int) (h : l.length ≤ 65) : (hexB l).size ≤ 131 := by
 unfold hexB
 split
 ·show 1 ≤ 131; omega
 ·show (hexL l).length ≤ 131
  rw [hex_len]; omega
theorem bn_hex_eq {l : List Int} (h : l.length ≤ 65) (hb : ∀ b ∈ l, BY b) : bn_hex l = some (hexB l) := by
 unfold bn_hex
 rw [if_pos ⟨by omega, List.all_eq_true.2 fun b hm => by have := hb b hm; unfold BY at this; simpa using this⟩]
theorem z32 : (bytesOf [32]).size = 1 := by decide +kernel
theorem zerr : (bytesOf [101, 114, 114, 111, 114, 32]).size = 6 := by decide +kernel
theorem zok : (bytesOf [111, 107]).size = 2 := by decide +kernel
theorem zleft : (bytesOf [108, 101, 102, 116]).size = 4 := by decide +kernel
theorem app_size (a b : ByteArray) : (a ++ b).size = a.size + b.size := by simp
def valsOf (w : Api_Whole) : List Int := [((w.Device.length : Nat) : Int), ((w.Fetched.length : Nat) : Int), ((w.Tty.Lines.length : Nat) : Int), ((w.Tty.Edit.length : Nat) : Int), w.Lost, w.Taken]
theorem Tell_l2 (r4 : (List AKA) × Api_Whole) (l6 : List ByteArray) (hv : ∀ v ∈ valsOf r4.2, -9223372036854775808 ≤ v ∧ v ≤ 9223372036854775807) (hl : l6.length ≤ 10000000) :
  ∀ n k (s : ByteArray), k ≤ 6 → 6 - k < n → s.size ≤ 100 + 30 * k → bench_Tell_l2 r4 l6 n s k = some (l6 ++ [leftF ((valsOf r4.2).drop k) s], 0) := by
 intro n
 induction n with
 | zero => intro k s h1 h2; omega
 | succ n ih =>
  intro k s h1 h2 h3
  have hlen : (valsOf r4.2).length = 6 := rfl
  unfold bench_Tell_l2
  rcases Nat.lt_or_ge k 6 with hlt | hge
  ·rw [dec_lt hlt, cond_true]
   have hk : k < (valsOf r4.2).length := by omega
   rw [if_pos (by show 0 ≤ ((k : Nat) : Int) ∧ ((k : Nat) : Int) < (((valsOf r4.2).length : Nat) : Int); omega)]
   show ((bn_itoa ((valsOf r4.2).getD (0 + k) 0)).bind _) = _
   rw [Nat.zero_add, getD_lt _ _ hk]
   have hvk := hv _ (List.getElem_mem hk)
   have hsz := itoa_len hvk.1 hvk.2
   rw [bn_itoa_eq hvk.1 hvk.2, Option.bind_some, if_pos (by rw [z32]; omega), if_pos (by rw [app_size, z32]; omega)]
   rw [ih (k + 1) _ (by omega) (by omega) (by rw [app_size, app_size, z32]; omega)]
   rw [List.drop_eq_getElem_cons hk]
   rfl
  ·have : k = 6 := by omega
   subst this
   rw [dec_ge hge, cond_false, if_pos (by simp; omega)]
   rfl
theorem Tell_l1 (r1 : List AKO × Int × Int) (r4 : (List AKA) × Api_Whole) (hlen : r1.1.length = r4.1.length) (ha : ∀ a ∈ r4.1, AOk a) (hb : r4.1.length ≤ 5000000)
  (hv : ∀ v ∈ valsOf r4.2, -9223372036854775808 ≤ v ∧ v ≤ 9223372036854775807) :
  ∀ n k (l6 : List ByteArray), l6.length = k → k ≤ r4.1.length → r4.1.length - k < n →
   bench_Tell_l1 r1 r4 n l6 k = some (l6 ++ (List.zipWith tl r1.1 r4.1).drop k ++ [leftF (valsOf r4.2) (bytesOf [108, 101, 102, 116])], 0) := by
 intro n
 induction n with
 | zero => intro k l6 h1 h2 h3; omega
 | succ n ih =>
  intro k l6 h1 h2 h3
  have hzl : (List.zipWith tl r1.1 r4.1).length = r4.1.length := by simp [hlen]
  unfold bench_Tell_l1
  rcases Nat.lt_or_ge k r4.1.length with hlt | hge
  ·rw [dec_lt hlt, cond_true, Nat.zero_add, getD_lt _ _ hlt]
   have hak := ha _ (List.getElem_mem hlt)
   have hk1 : k < r1.1.length := by omega
   have hz : (List.zipWith tl r1.1 r4.1).drop k = tl r1.1[k] r4.1[k] :: (List.zipWith tl r1.1 r4.1).drop (k + 1) := by
    rw [List.drop_eq_getElem_cons (by omega)]
    simp
   have hstep : ∀ x : ByteArray, x = tl r1.1[k] r4.1[k] → bench_Tell_l1 r1 r4 n (l6 ++ [x]) (k + 1) = some (l6 ++ (List.zipWith tl r1.1 r4.1).drop k ++ [leftF (valsOf r4.2) (bytesOf [108, 101, 102, 116])], 0) := by
    intro x hx
    rw [ih (k + 1) (l6 ++ [x]) (by simp; omega) (by omega) (by omega), hz, hx]
    simp
   rw [getD_lt _ _ hk1]
   have hsz := itoa_len (n := r4.1[k].Err) (by have := hak.err; omega) (by have := hak.err; omega)
   have hitoa := bn_itoa_eq (n := r4.1[k].Err) (by have := hak.err; omega) (by have := hak.err; omega)
   by_cases he : r4.1[k].Err = 0
   ·have e1 : ((r4.1[k].Err : Int) != 0) = false := by simp [he]
    have e2 : ((r4.1[k].Err : Int) == 0) = true := by simp [he]
    rw [e1, e2, cond_false, Bool.and_true, if_pos (by omega)]
    by_cases hk3 : r1.1[k].Kind = 3
    ·have e3 : ((r1.1[k].Kind : Int) == 3) = true := by simp [hk3]
     have hh := hex_size _ hak.len
     rw [e3, cond_true, bn_hex_eq hak.len hak.byt, Option.bind_some, if_pos (by rw [z32]; omega), if_pos (by rw [app_size, z32, zok]; omega), if_pos (by simp; omega)]
     exact hstep _ (by unfold tl; rw [if_neg (by simp [he]), if_pos hk3])
    ·have e3 : ((r1.1[k].Kind : Int) == 3) = false := by simp [hk3]
     rw [e3, cond_false, if_pos (by simp; omega)]
     exact hstep _ (by unfold tl; rw [if_neg (by simp [he]), if_neg hk3])
   ·have e1 : ((r4.1[k].Err : Int) != 0) = true := by simp [he]
    have e2 : ((r4.1[k].Err : Int) == 0) = false := by simp [he]
    rw [e1, e2, cond_true, hitoa, Option.bind_some, if_pos (by rw [zerr]; omega), if_pos (by omega), Bool.and_false, cond_false, if_pos (by simp; omega)]
    exact hstep _ (by unfold tl; rw [if_pos he])
  ·rw [dec_ge hge, cond_false, List.drop_of_length_le (by omega), List.append_nil]
   rw [Tell_l2 r4 l6 hv (by omega) FUEL 0 _ (by omega) (fuel_gt (by omega)) (by rw [zleft]; omega)]
   rfl
def wholeOf (s : KS) : Api_Whole := ⟨s.dev, s.fet, s.tty, s.lost, s.taken⟩
theorem vals_ok {s : KS} {n : Nat} (h : Good s n) (hn : n ≤ 100000000) : ∀ v ∈ valsOf (wholeOf s), -9223372036854775808 ≤ v ∧ v ≤ 9223372036854775807 := by
 have h1 := h.inv.dev
 have h2 := h.inv.lost
 have h3 := h.right
 have h4 := h.tot
 have h5 := h.taken
 have h6 : s.fet.length ≤ tot s := by unfold tot; omega
 unfold RightT at h3
 intro v hv
 simp only [valsOf, wholeOf, List.mem_cons, List.not_mem_nil, or_false] at hv
 rcases hv with rfl | rfl | rfl | rfl | rfl | rfl <;> omega
theorem Tell_ok (s : ByteArray) (h : s.size ≤ 4000000) (hp : (parseF (s.size + 1) s.data.toList).2 = none) :
  bench_Tell s = some (List.zipWith tl (parseF (s.size + 1) s.data.toList).1 (ansL BEG (parseF (s.size + 1) s.data.toList).1) ++ [leftF (valsOf (wholeOf (runs BEG (parseF (s.size + 1) s.data.toList).1))) (bytesOf [108, 101, 102, 116])], 0) := by
 have hl : s.data.toList.length = s.size := rfl
 have hpl := parse_len (s.size + 1) s.data.toList (by omega)
 have hpb := parse_bytes (s.size + 1) s.data.toList (by omega)
 unfold bench_Tell
 rw [Parse_eq s (by omega), Option.bind_some]
 have e : presult [] 0 (parseF (s.size + 1) s.data.toList) = ((parseF (s.size + 1) s.data.toList).1, 0, 0) := by unfold presult; rw [hp]; simp
 rw [e]
 generalize (parseF (s.size + 1) s.data.toList).1 = ops at hpl hpb ⊢
 show ((kernel_Play ops).bind _) = _
 rw [Play_eq ops (by omega), Option.bind_some]
 have hg := good_runs ops BEG 0 good_beg
 have := Tell_l1 (ops, 0, 0) (ansL BEG ops, wholeOf (runs BEG ops)) (by simp [ansL_length]) (ans_ok ops BEG 0 good_beg beg_by (by omega) fun o ho => hpb o ho) (by simp [ansL_length]; omega) (vals_ok hg (by omega)) FUEL 0 [] rfl (Nat.zero_le _) (fuel_gt (by simp [ansL_length]; omega))
 rw [List.drop_zero, List.nil_append] at this
 exact this
end Go.Proofs.YthmieigenefilaaGreatDoor
