import Derived.Test.YthmieigenefilaaGreatDoorQBWPkernel
import Derived.Test.YthmieigenefilaaGreatDoorQBTP
set_option linter.unusedSimpArgs false
set_option linter.unusedVariables false
namespace Go.Proofs.YthmieigenefilaaGreatDoor
open Go Go.Ab Go.Bn
theorem alive_eq : top_alive = some true := by decide +kernel
theorem bOf_list (l : List UInt8) : (bOf l).data.toList = l := rfl
theorem cut_yes {c : UInt8} : ∀ {l : List UInt8}, (cutL c l).2.2 = true → l = (cutL c l).1 ++ c :: (cutL c l).2.1 ∧ c ∉ (cutL c l).1
 | [], h => by cases h
 | b :: r, h => by
  unfold cutL at h ⊢
  split
  ·rename_i hb; subst hb; exact ⟨rfl, by simp⟩
  ·rename_i hb
   rw [if_neg hb] at h
   obtain ⟨h1, h2⟩ := cut_yes h
   refine ⟨by simpa using h1, ?_⟩
   intro hm
   rcases List.mem_cons.1 hm with h3 | h3
   ·exact hb h3.symm
   ·exact h2 h3
theorem cut_at {c : UInt8} : ∀ {x t : List UInt8}, c ∉ x → cutL c (x ++ c :: t) = (x, t, true)
 | [], t, _ => by simp [cutL]
 | b :: x, t, h => by
  have hb : b ≠ c := fun e => h (by simp [e])
  have := cut_at (c := c) (x := x) (t := t) (fun hm => h (List.mem_cons_of_mem _ hm))
  simp [cutL, hb, this]
theorem cut_len1 (c : UInt8) : ∀ l : List UInt8, (cutL c l).1.length ≤ l.length
 | [] => Nat.le_refl _
 | b :: r => by
  unfold cutL
  split
  ·simp
  ·have := cut_len1 c r; simp; omega
theorem cut_rest_lt {c : UInt8} {l : List UInt8} (h : (cutL c l).2.2 = true) : (cutL c l).2.1.length + (cutL c l).1.length + 1 = l.length := by
 obtain ⟨h1, _⟩ := cut_yes h
 have := congrArg List.length h1
 simp at this
 omega
theorem digs_parse : ∀ (f u : Nat) (r : List UInt8), u < 10 ^ f → 0 < f → u < 1000000000000000000 → Lib.parseUint10 0 (digs f u ++ r) = Lib.parseUint10 u r
 | 0, u, r, _, h0, _ => by omega
 | f + 1, u, r, h, _, hu => by
  have hd : ∀ d : Nat, d < 10 → (UInt8.ofNat (48 + d)).toNat = 48 + d := fun d hd => by
   have : d = 0 ∨ d = 1 ∨ d = 2 ∨ d = 3 ∨ d = 4 ∨ d = 5 ∨ d = 6 ∨ d = 7 ∨ d = 8 ∨ d = 9 := by omega
   rcases this with rfl | rfl | rfl | rfl | rfl | rfl | rfl | rfl | rfl | rfl <;> rfl
  unfold digs
  split
  ·rename_i h10
   simp only [List.cons_append, List.nil_append, Lib.parseUint10]
   rw [hd u h10, if_pos (by omega), if_neg (by omega), if_neg (by omega)]
   congr 1; omega
  ·rename_i h10
   have h1 : u / 10 < 10 ^ f := by rw [Nat.pow_succ] at h; omega
   have h2 : 0 < f := by
    rcases Nat.eq_zero_or_pos f with rfl | h2
    ·simp at h; omega
    ·exact h2
   rw [List.append_assoc, digs_parse f (u / 10) _ h1 h2 (by omega)]
   simp only [List.cons_append, List.nil_append, Lib.parseUint10]
   rw [hd (u % 10) (by omega), if_pos (by omega), if_neg (by omega), if_neg (by omega)]
   congr 1; omega
theorem digs_head : ∀ (f u : Nat), u < 10 ^ f → 0 < f → ∃ c r, digs f u = c :: r ∧ 48 ≤ c.toNat ∧ c.toNat ≤ 57
 | 0, u, _, h0 => by omega
 | f + 1, u, h, _ => by
  unfold digs
  split
  ·rename_i h10
   refine ⟨_, [], rfl, ?_⟩
   have : u = 0 ∨ u = 1 ∨ u = 2 ∨ u = 3 ∨ u = 4 ∨ u = 5 ∨ u = 6 ∨ u = 7 ∨ u = 8 ∨ u = 9 := by omega
   rcases this with rfl | rfl | rfl | rfl | rfl | rfl | rfl | rfl | rfl | rfl <;> decide
  ·rename_i h10
   have h1 : u / 10 < 10 ^ f := by rw [Nat.pow_succ] at h; omega
   have h2 : 0 < f := by
    rcases Nat.eq_zero_or_pos f with rfl | h2
    ·simp at h; omega
    ·exact h2
   obtain ⟨c, r, e, hc⟩ := digs_head f (u / 10) h1 h2
   exact ⟨c, r ++ [UInt8.ofNat (48 + u % 10)], by rw [e]; rfl, hc⟩
theorem digs_all : ∀ (f u : Nat), ∀ x ∈ digs f u, 48 ≤ x.toNat ∧ x.toNat ≤ 57
 | 0, u, x, h => by simp [digs] at h
 | f + 1, u, x, h => by
  have hd : ∀ d : Nat, d < 10 → 48 ≤ (UInt8.ofNat (48 + d)).toNat ∧ (UInt8.ofNat (48 + d)).toNat ≤ 57 := fun d hd => by
   have : d = 0 ∨ d = 1 ∨ d = 2 ∨ d = 3 ∨ d = 4 ∨ d = 5 ∨ d = 6 ∨ d = 7 ∨ d = 8 ∨ d = 9 := by omega
   rcases this with rfl | rfl | rfl | rfl | rfl | rfl | rfl | rfl | rfl | rfl <;> decide
  unfold digs at h
  split at h
  ·rename_i h10
   obtain rfl := List.mem_singleton.1 h
   exact hd u h10
  ·rcases List.mem_append.1 h with h | h
   ·exact digs_all f (u / 10) x h
   ·obtain rfl := List.mem_singleton.1 h
    exact hd (u % 10) (by omega)
theorem atoi_itoa {n : Int} (h0 : 0 ≤ n) (h1 : n ≤ 1099511627776) : Lib.atoiAll (itoaL n) = .ok n := by
 unfold itoaL
 rw [if_neg (by omega)]
 have hu : n.toNat < 10 ^ 20 := by omega
 obtain ⟨c, r, e, hc⟩ := digs_head 20 n.toNat hu (by omega)
 have hp := digs_parse 20 n.toNat [] hu (by omega) (by omega)
 rw [List.append_nil, e] at hp
 rw [e, Lib.atoiAll_plain c r (by omega) (by omega)]
 unfold Lib.parseMag
 rw [if_neg (by simp), hp]
 simp only [Lib.parseUint10, Lib.signless]
 rw [if_neg (by omega)]
 congr 1; omega
theorem itoa_no {n : Int} (h0 : 0 ≤ n) {c : UInt8} (hc : c.toNat < 48) : c ∉ itoaL n := by
 unfold itoaL
 rw [if_neg (by omega)]
 intro hm
 have := digs_all 20 n.toNat c hm
 omega
theorem words_no : ∀ m, m < 6 → (32 : UInt8) ∉ wordsL.getD m [] ∧ (10 : UInt8) ∉ wordsL.getD m [] ∧ (∀ j, j < m → wordsL.getD j [] ≠ wordsL.getD m []) ∧ wordsL.getD m [] ≠ [] := by
 intro m hm
 have : m = 0 ∨ m = 1 ∨ m = 2 ∨ m = 3 ∨ m = 4 ∨ m = 5 := by omega
 rcases this with rfl | rfl | rfl | rfl | rfl | rfl <;> exact ⟨by decide, by decide, by decide, by decide⟩
theorem scan_line (s word : List UInt8) (n : Int) : ∀ (ws : List (List UInt8)) (k : Nat), (scan s word n k ws).2 = true → ∃ m, k ≤ m ∧ m < k + ws.length ∧ (scan s word n k ws).1 = mkOp m n ∧ lineL (mkOp m n) = some s
 | [], k, h => by cases h
 | w :: ws, k, h => by
  unfold scan at h ⊢
  split at h
  ·rename_i hw
   rw [if_pos hw]
   exact ⟨k, Nat.le_refl _, by simp, rfl, by simpa using h⟩
  ·rename_i hw
   rw [if_neg hw]
   obtain ⟨m, h1, h2, h3, h4⟩ := scan_line s word n ws (k + 1) h
   exact ⟨m, by omega, by simp; omega, h3, h4⟩
theorem read_line {l : List UInt8} (h : (readL l).2 = true) : lineL (readL l).1 = some l ∧ (0 ≤ (readL l).1.2.2.2 ∧ (readL l).1.2.2.2 ≤ 255) := by
 unfold readL at h ⊢
 split at h
 ·rename_i n hn
  obtain ⟨m, h1, h2, h3, h4⟩ := scan_line _ _ _ _ _ h
  rw [h3]
  refine ⟨h4, ?_⟩
  unfold Bn.mkOp
  split
  ·show 0 ≤ n % 256 ∧ n % 256 ≤ 255; omega
  ·split
   ·show (0 : Int) ≤ 0 ∧ (0 : Int) ≤ 255; omega
   ·show (0 : Int) ≤ 0 ∧ (0 : Int) ≤ 255; omega
 ·cases h
theorem line_read {o : Bn.Op} {x : List UInt8} (h : lineL o = some x) (hb : 0 ≤ o.2.2.2 ∧ o.2.2.2 ≤ 255) : (readL x).2 = true ∧ (10 : UInt8) ∉ x ∧ x ≠ [] := by
 unfold lineL at h
 split at h
 ·cases h
 rename_i h1
 split at h
 ·cases h
 rename_i h2
 cases h
 obtain ⟨m, hm, hk⟩ : ∃ m : Nat, m < 6 ∧ o.1 = m + 1 := ⟨(o.1 - 1).toNat, by omega, by omega⟩
 have hm1 : (o.1 - 1).toNat = m := by omega
 rw [hm1]
 obtain ⟨w1, w2, w3, w4⟩ := words_no m hm
 have hc : cutL 32 (wordsL.getD m [] ++ [32] ++ itoaL (numOf o)) = (wordsL.getD m [], itoaL (numOf o), true) := by
  rw [List.append_assoc]
  exact cut_at w1
 have ha : Lib.atoiAll (itoaL (numOf o)) = .ok (numOf o) := atoi_itoa (by omega) (by omega)
 refine ⟨?_, ?_, ?_⟩
 ·unfold readL
  rw [hc]
  simp only
  rw [ha]
  simp only
  rw [scan_hit _ _ _ wordsL 0 m hm w3 rfl, Nat.zero_add]
  show decide _ = true
  apply decide_eq_true
  have hn : numOf (mkOp m (numOf o)) = numOf o ∧ (mkOp m (numOf o)).1 = m + 1 := by
   unfold Bn.mkOp
   split
   ·rename_i h0
    subst h0
    have h1' : o.1 = 1 := by omega
    have hb2 : numOf o = o.2.2.2 := by unfold numOf; rw [if_pos h1']
    rw [hb2]
    refine ⟨?_, rfl⟩
    show o.2.2.2 % 256 = o.2.2.2
    omega
   ·split
    ·rename_i h0 h3
     subst h3
     exact ⟨by simp [numOf], rfl⟩
    ·rename_i h0 h3
     refine ⟨?_, by show (1 : Int) + (m : Int) = _; omega⟩
     show numOf (1 + (m : Int), numOf o, 0, 0) = numOf o
     rw [numOf_else _ _ _ _ (by omega) (by omega)]
  unfold lineL
  rw [hn.1, hn.2, if_neg (by omega), if_neg h2]
  congr 3
  show (wordsL.getD ((m : Int) + 1 - 1).toNat []) = _
  congr 1
  omega
 ·intro hm2
  rcases List.mem_append.1 hm2 with hm3 | hm3
  ·rcases List.mem_append.1 hm3 with hm4 | hm4
   ·exact w2 hm4
   ·exact absurd (List.mem_singleton.1 hm4) (by decide)
  ·exact itoa_no (by omega) (by decide) hm3
 ·simp
end Go.Proofs.YthmieigenefilaaGreatDoor
