import Derived.Test.YtfnmmlcmjmepjaaQUBM
import Derived.Test.YtfnmmlcmjmepjaaPLib
import Derived.Test.YtfnmmlcmjmepjaaQUBK
set_option linter.unusedSimpArgs false
set_option linter.unusedVariables false
namespace Go.Proofs.Ytfnmmlcmjmepjaa
open Go Go.Ab
theorem alive21_eq : keep_alive21 = some true := by decide +kernel
abbrev Pp := Api_Pipe
abbrev Po := Api_PipeOp
abbrev PZ : Pp := ⟨[], 0, 0⟩
def RightP (p : Pp) : Prop := p.Has.length ≤ 64 ∧ 0 ≤ p.Writers ∧ p.Writers ≤ 1099511627776 ∧ 0 ≤ p.Readers ∧ p.Readers ≤ 1099511627776
instance (p : Pp) : Decidable (RightP p) := by unfold RightP; infer_instance
theorem Right_eq (p : Pp) : pipe_Right p = some (decide (RightP p)) := by
 unfold pipe_Right
 congr 1
 rw [Bool.eq_iff_iff, decide_eq_true_iff]
 simp only [Bool.and_eq_true, decide_eq_true_eq]
 constructor
 ·rintro ⟨⟨⟨⟨h1, h2⟩, h3⟩, h4⟩, h5⟩; exact ⟨by omega, h2, h3, h4, h5⟩
 ·rintro ⟨h1, h2, h3, h4, h5⟩; exact ⟨⟨⟨⟨by omega, h2⟩, h3⟩, h4⟩, h5⟩
def noP (e : Int) : Pp × Int × List Int × Int := (PZ, 0, [], e)
def stepF (p : Pp) (o : Po) : Pp × Int × List Int × Int :=
 if ¬ RightP p then noP 1
 else if o.Kind = 1 then
  if p.Writers = 0 then noP 6 else if p.Readers = 0 then noP 3
  else if 64 < o.Data.length + p.Has.length ∧ (p.Has.length = 64 ∨ o.Data.length ≤ 16) then noP 7
  else (⟨p.Has ++ o.Data.take (64 - p.Has.length), p.Writers, p.Readers⟩, ((min (64 - p.Has.length) o.Data.length : Nat) : Int), [], 0)
 else if o.Kind = 2 then
  if p.Readers = 0 then noP 6 else if o.Most < 1 then noP 2 else if p.Has.length = 0 ∧ p.Writers > 0 then noP 7
  else (⟨p.Has.drop o.Most.toNat, p.Writers, p.Readers⟩, 0, p.Has.take o.Most.toNat, 0)
 else if o.Kind = 3 then if p.Writers = 1099511627776 then noP 4 else (⟨p.Has, p.Writers + 1, p.Readers⟩, 0, [], 0)
 else if o.Kind = 5 then if p.Writers = 0 then noP 3 else (⟨p.Has, p.Writers - 1, p.Readers⟩, 0, [], 0)
 else if o.Kind = 4 then if p.Readers = 1099511627776 then noP 4 else (⟨p.Has, p.Writers, p.Readers + 1⟩, 0, [], 0)
 else if o.Kind = 6 then if p.Readers = 0 then noP 3 else (⟨p.Has, p.Writers, p.Readers - 1⟩, 0, [], 0)
 else noP 5
theorem beqT {a b : Int} (h : a = b) : ((a : Int) == b) = true := by simpa using h
theorem beqF {a b : Int} (h : ¬ a = b) : ((a : Int) == b) = false := by simpa using h
theorem Step_eq (p : Pp) (o : Po) : pipe_Step p o = some (stepF p o) := by
 unfold pipe_Step stepF slices_Clone_byte pipe_Step_1
 rw [Right_eq, Option.bind_some]
 by_cases hr : RightP p
 ·have hr' := hr
  obtain ⟨r1, r2, r3, r4, r5⟩ := hr'
  rw [if_neg (show ¬ ¬ RightP p from fun h => h hr), decide_eq_true hr, Bool.not_true, cond_false, if_pos (show p.Has.length * 1 ≤ 140737488355328 by omega), Option.bind_some]
  have hw : IntKind.i64.wrap (64 - ((p.Has.length : Nat) : Int)) = 64 - (p.Has.length : Int) := wrap_id (by omega) (by omega)
  by_cases h1 : o.Kind = 1
  ·rw [beqT h1, cond_true, if_pos h1]
   by_cases hW : p.Writers = 0
   ·rw [beqT hW, if_pos hW]; rfl
   rw [beqF hW, cond_false, if_neg hW]
   by_cases hR : p.Readers = 0
   ·rw [beqT hR, if_pos hR]; rfl
   rw [beqF hR, cond_false, if_neg hR, hw]
   by_cases hc : 64 < o.Data.length + p.Has.length ∧ (p.Has.length = 64 ∨ o.Data.length ≤ 16)
   ·have : ((decide ((((o.Data.length : Nat) : Int) : Int) > (64 - ((p.Has.length : Nat) : Int)))) && (((64 - ((p.Has.length : Nat) : Int) : Int) == 0) || (decide ((((o.Data.length : Nat) : Int) : Int) ≤ 16)))) = true := by
     simp only [Bool.and_eq_true, Bool.or_eq_true, decide_eq_true_eq, beq_iff_eq]
     omega
    rw [this, if_pos hc]; rfl
   ·have : ((decide ((((o.Data.length : Nat) : Int) : Int) > (64 - ((p.Has.length : Nat) : Int)))) && (((64 - ((p.Has.length : Nat) : Int) : Int) == 0) || (decide ((((o.Data.length : Nat) : Int) : Int) ≤ 16)))) = false := by
     rw [Bool.eq_false_iff]
     simp only [ne_eq, Bool.and_eq_true, Bool.or_eq_true, decide_eq_true_eq, beq_iff_eq]
     omega
    rw [this, if_neg hc, cond_false]
    have hm : (if (((o.Data.length : Nat) : Int) : Int) < (64 - ((p.Has.length : Nat) : Int)) then ((o.Data.length : Nat) : Int) else (64 - ((p.Has.length : Nat) : Int))) = ((min (64 - p.Has.length) o.Data.length : Nat) : Int) := by
     split <;> omega
    rw [hm]
    have ht : (o.Data.drop 0).take ((Int.toNat ((min (64 - p.Has.length) o.Data.length : Nat) : Int)) - 0) = o.Data.take (64 - p.Has.length) := by
     rw [List.drop_zero, Int.toNat_natCast, Nat.sub_zero, ← List.take_take, List.take_length]
    rw [ht, if_pos (by omega), if_pos (by omega), if_pos (by simp only [List.length_take]; omega)]
  ·rw [beqF h1, cond_false, if_neg h1]
   by_cases h2 : o.Kind = 2
   ·rw [beqT h2, cond_true, if_pos h2]
    by_cases hR : p.Readers = 0
    ·rw [beqT hR, if_pos hR]; rfl
    rw [beqF hR, cond_false, if_neg hR]
    by_cases hM : o.Most < 1
    ·rw [decide_eq_true hM, if_pos hM]; rfl
    rw [decide_eq_false hM, cond_false, if_neg hM]
    by_cases hc : p.Has.length = 0 ∧ p.Writers > 0
    ·have : (((((p.Has.length : Nat) : Int) : Int) == 0) && (decide ((p.Writers : Int) > 0))) = true := by
      simp only [Bool.and_eq_true, decide_eq_true_eq, beq_iff_eq]; omega
     rw [this, if_pos hc]; rfl
    ·have : (((((p.Has.length : Nat) : Int) : Int) == 0) && (decide ((p.Writers : Int) > 0))) = false := by
      rw [Bool.eq_false_iff]
      simp only [ne_eq, Bool.and_eq_true, decide_eq_true_eq, beq_iff_eq]; omega
     rw [this, if_neg hc, cond_false]
     have hm : (if (((p.Has.length : Nat) : Int) : Int) < o.Most then ((p.Has.length : Nat) : Int) else o.Most) = ((min o.Most.toNat p.Has.length : Nat) : Int) := by
      split <;> omega
     have ht : (p.Has.drop (0 + 0)).take ((Int.toNat ((min o.Most.toNat p.Has.length : Nat) : Int)) - 0) = p.Has.take o.Most.toNat := by
      rw [Nat.add_zero, List.drop_zero, Int.toNat_natCast, Nat.sub_zero, ← List.take_take, List.take_length]
     have hd : (p.Has.drop (0 + (Int.toNat ((min o.Most.toNat p.Has.length : Nat) : Int)))).take (p.Has.length - (Int.toNat ((min o.Most.toNat p.Has.length : Nat) : Int))) = p.Has.drop o.Most.toNat := by
      rw [Int.toNat_natCast, Nat.zero_add, List.take_of_length_le (by simp)]
      rcases Nat.le_total o.Most.toNat p.Has.length with h | h
      ·rw [Nat.min_eq_left h]
      ·rw [Nat.min_eq_right h, List.drop_length, List.drop_of_length_le h]
     simp only [hm, ht, hd]
     rw [if_pos (by omega), if_pos (by omega), if_pos (by simp only [List.length_take]; omega), Option.bind_some, if_pos (by omega), if_pos (by omega), if_pos (by simp only [List.length_drop]; omega), Option.bind_some]
   ·rw [beqF h2, cond_false, if_neg h2]
    have w1 : IntKind.i64.wrap (p.Writers + 1) = p.Writers + 1 := wrap_id (by omega) (by omega)
    have w2 : IntKind.i64.wrap (p.Writers - 1) = p.Writers - 1 := wrap_id (by omega) (by omega)
    have w3 : IntKind.i64.wrap (p.Readers + 1) = p.Readers + 1 := wrap_id (by omega) (by omega)
    have w4 : IntKind.i64.wrap (p.Readers - 1) = p.Readers - 1 := wrap_id (by omega) (by omega)
    rw [w1, w2, w3, w4]
    by_cases h3 : o.Kind = 3
    ·rw [if_pos h3, h3]
     by_cases hW : p.Writers = 1099511627776
     ·rw [beqT hW, if_pos hW]; rfl
     ·rw [beqF hW, if_neg hW]; rfl
    rw [if_neg h3, beqF h3, cond_false]
    by_cases h5 : o.Kind = 5
    ·rw [if_pos h5, h5]
     by_cases hW : p.Writers = 0
     ·rw [beqT hW, if_pos hW]; rfl
     ·rw [beqF hW, if_neg hW]; rfl
    rw [if_neg h5, beqF h5, cond_false]
    by_cases h4 : o.Kind = 4
    ·rw [if_pos h4, h4]
     by_cases hW : p.Readers = 1099511627776
     ·rw [beqT hW, if_pos hW]; rfl
     ·rw [beqF hW, if_neg hW]; rfl
    rw [if_neg h4, beqF h4, cond_false]
    by_cases h6 : o.Kind = 6
    ·rw [if_pos h6, h6]
     by_cases hW : p.Readers = 0
     ·rw [beqT hW, if_pos hW]; rfl
     ·rw [beqF hW, if_neg hW]; rfl
    rw [if_neg h6, beqF h6, cond_false]
    rfl
 ·rw [if_pos hr, decide_eq_false hr]; rfl
theorem stepF_cases (p : Pp) (o : Po) (hp : RightP p) : (stepF p o).2.2.2 ≠ 0 ∨ ((stepF p o).2.2.2 = 0 ∧ RightP (stepF p o).1 ∧
  ((o.Kind = 1 ∧ (stepF p o).2.2.1 = [] ∧ (stepF p o).2.1 = ((min (64 - p.Has.length) o.Data.length : Nat) : Int) ∧ (stepF p o).1.Has = p.Has ++ o.Data.take (min (64 - p.Has.length) o.Data.length)) ∨
   (o.Kind ≠ 1 ∧ (stepF p o).2.2.1 ++ (stepF p o).1.Has = p.Has))) := by
 have hp' := hp
 obtain ⟨r1, r2, r3, r4, r5⟩ := hp'
 unfold stepF
 rw [if_neg (fun h => h hp)]
 by_cases h1 : o.Kind = 1
 ·rw [if_pos h1]
  split; · exact .inl (by decide)
  split; · exact .inl (by decide)
  split; · exact .inl (by decide)
  refine .inr ⟨rfl, ⟨by simp; omega, r2, r3, r4, r5⟩, .inl ⟨h1, rfl, rfl, ?_⟩⟩
  simp only
  rw [← List.take_take, List.take_length]
 ·rw [if_neg h1]
  split
  ·split; · exact .inl (by decide)
   split; · exact .inl (by decide)
   split; · exact .inl (by decide)
   refine .inr ⟨rfl, ⟨by simp; omega, r2, r3, r4, r5⟩, .inr ⟨h1, ?_⟩⟩
   exact List.take_append_drop _ _
  split
  ·split; · exact .inl (by decide)
   exact .inr ⟨rfl, ⟨by simpa using r1, by simp only; omega, by simp only; omega, r4, r5⟩, .inr ⟨h1, rfl⟩⟩
  split
  ·split; · exact .inl (by decide)
   exact .inr ⟨rfl, ⟨by simpa using r1, by simp only; omega, by simp only; omega, r4, r5⟩, .inr ⟨h1, rfl⟩⟩
  split
  ·split; · exact .inl (by decide)
   exact .inr ⟨rfl, ⟨by simpa using r1, r2, r3, by simp only; omega, by simp only; omega⟩, .inr ⟨h1, rfl⟩⟩
  split
  ·split; · exact .inl (by decide)
   exact .inr ⟨rfl, ⟨by simpa using r1, r2, r3, by simp only; omega, by simp only; omega⟩, .inr ⟨h1, rfl⟩⟩
  exact .inl (by decide)
abbrev St := List Int × List Int × Pp
def playS (s : St) (o : Po) : St :=
 let r := stepF s.2.2 o
 if r.2.2.2 = 0 then (s.1 ++ [r.2.2.2], s.2.1 ++ r.2.2.1, r.1) else (s.1 ++ [r.2.2.2], s.2.1, s.2.2)
structure Inv (k : Nat) (s : St) : Prop where
 e : s.1.length = k
 r : 2 * s.2.1.length + s.2.2.Has.length ≤ 64 * k
 p : RightP s.2.2
theorem Inv.step {k : Nat} {s : St} (h : Inv k s) (o : Po) : Inv (k + 1) (playS s o) := by
 obtain ⟨h1, h2, h3⟩ := h
 unfold playS
 have h3' := h3.1
 rcases stepF_cases s.2.2 o h3 with he | ⟨he, hr, hc⟩
 ·simp only [if_neg he]
  exact ⟨by simp; omega, by simp only; omega, h3⟩
 ·simp only [if_pos he]
  refine ⟨by simp; omega, ?_, hr⟩
  have hr' := hr.1
  rcases hc with ⟨_, c1, _, c2⟩ | ⟨_, c⟩
  ·simp only [c1, List.append_nil]; omega
  ·have := congrArg List.length c
   rw [List.length_append] at this
   simp only [List.length_append]
   omega
theorem read_grow (ops : List Po) : ∀ s, s.2.1.length ≤ (ops.foldl playS s).2.1.length := by
 induction ops with
 | nil => intro s; exact Nat.le_refl _
 | cons o r ih =>
  intro s
  rw [List.foldl_cons]
  refine Nat.le_trans ?_ (ih _)
  unfold playS
  simp only
  split
  ·rw [List.length_append]; omega
  ·exact Nat.le_refl _
theorem Play_l1_eq (ops : List Po) (hn : ops.length * 40 ≤ 200000000000000) : ∀ n k (s : St), k ≤ ops.length → ops.length - k < n → Inv k s → ((ops.drop k).foldl playS s).2.1.length ≤ 140737488355328 →
  pipe_Play_l1 ops n s.1 s.2.1 k s.2.2.Has s.2.2.Writers s.2.2.Readers = some ((ops.drop k).foldl playS s) := by
 intro n
 induction n with
 | zero => intro k s h1 h2; omega
 | succ n ih =>
  intro k s h1 h2 hI hB
  unfold pipe_Play_l1
  rcases Nat.lt_or_ge k ops.length with hlt | hge
  ·rw [List.drop_eq_getElem_cons hlt, List.foldl_cons] at hB
   rw [dec_lt hlt, cond_true, getD_lt _ _ hlt, List.drop_eq_getElem_cons hlt, List.foldl_cons]
   have hI' := hI.step ops[k]
   have ih' := ih (k + 1) (playS s ops[k]) (by omega) (by omega) hI' hB
   rw [← ih']
   have hs := hI.e
   have hI1 := Nat.le_trans (read_grow _ _) hB
   have hI2 := hI'.e
   change (pipe_Step s.2.2 ops[k]).bind _ = _
   rw [Step_eq, Option.bind_some]
   unfold playS at hI1 ⊢
   simp only at hI1 ⊢
   generalize hr : stepF s.2.2 ops[k] = r at *
   by_cases he : r.2.2.2 = 0
   ·rw [if_pos he] at hI1
    simp only [he, beq_self_eq_true, cond_true, if_true]
    simp only [List.length_append] at hI1
    rw [if_pos (by omega), if_pos (by simp only [List.length_cons, List.length_nil]; omega)]
   ·simp only [beqF he, cond_false, if_neg he]
    rw [if_pos (by simp only [List.length_cons, List.length_nil]; omega)]
  ·rw [dec_ge hge, cond_false, List.drop_of_length_le hge]; rfl
def P0 : Pp := ⟨[], 1, 1⟩
def playF (ops : List Po) : St := ops.foldl playS ([], [], P0)
theorem Inv0 : Inv 0 ([], [], P0) := ⟨rfl, by decide, by decide⟩
theorem Play_eqB (ops : List Po) (hn : ops.length * 40 ≤ 200000000000000) (hB : (playF ops).2.1.length ≤ 140737488355328) : pipe_Play ops = some (playF ops) := by
 unfold pipe_Play
 exact Play_l1_eq ops hn FUEL 0 ([], [], P0) (by omega) (fuel_gt (by omega)) Inv0 hB
theorem foldl_inv (ops : List Po) : ∀ k s, Inv k s → Inv (k + ops.length) (ops.foldl playS s) := by
 induction ops with
 | nil => intro k s h; exact h
 | cons o r ih => intro k s h; rw [List.foldl_cons, List.length_cons, show k + (r.length + 1) = (k + 1) + r.length by omega]; exact ih _ _ (h.step o)
theorem playF_inv (ops : List Po) : Inv ops.length (playF ops) := by
 have := foldl_inv ops 0 _ Inv0
 rwa [Nat.zero_add] at this
theorem Play_eq (ops : List Po) (hn : ops.length * 40 ≤ 140737488355328) : pipe_Play ops = some (playF ops) :=
 Play_eqB ops (by omega) (by have := (playF_inv ops).r; omega)
def clW : Po := ⟨5, 0, []⟩
def rdO (m : Int) : Po := ⟨2, m, []⟩
theorem closes (W : Nat) : ∀ (s : St), RightP s.2.2 → s.2.2.Writers = (W : Int) →
  (List.replicate W clW).foldl playS s = (s.1 ++ List.replicate W 0, s.2.1, ⟨s.2.2.Has, 0, s.2.2.Readers⟩) := by
 induction W with
 | zero => intro s hp hw; obtain ⟨a, b, ⟨c, d, e⟩⟩ := s; simp at hw; simp [hw]
 | succ W ih =>
  intro s hp hw
  have hp' := hp
  obtain ⟨r1, r2, r3, r4, r5⟩ := hp'
  have hs : stepF s.2.2 clW = (⟨s.2.2.Has, s.2.2.Writers - 1, s.2.2.Readers⟩, 0, [], 0) := by
   unfold stepF clW
   rw [if_neg (fun h => h hp), if_neg (by decide), if_neg (by decide), if_neg (by decide), if_pos rfl, if_neg (by omega)]
  rw [List.replicate_succ, List.foldl_cons]
  have : playS s clW = (s.1 ++ [0], s.2.1, ⟨s.2.2.Has, s.2.2.Writers - 1, s.2.2.Readers⟩) := by
   unfold playS; rw [hs]; simp
  rw [this, ih (s.1 ++ [0], s.2.1, ⟨s.2.2.Has, s.2.2.Writers - 1, s.2.2.Readers⟩) ⟨r1, by simp only; omega, by simp only; omega, r4, r5⟩ (by simp only; omega)]
  simp [List.replicate_succ]
theorem reads (m : Int) (hm : 1 ≤ m) (j : Nat) : ∀ (s : St), RightP s.2.2 → s.2.2.Writers = 0 → s.2.2.Readers ≠ 0 → s.2.2.Has.length ≤ j →
  (List.replicate (j + 1) (rdO m)).foldl playS s = (s.1 ++ List.replicate (j + 1) 0, s.2.1 ++ s.2.2.Has, ⟨[], 0, s.2.2.Readers⟩) := by
 have one : ∀ (s : St), RightP s.2.2 → s.2.2.Writers = 0 → s.2.2.Readers ≠ 0 → playS s (rdO m) = (s.1 ++ [0], s.2.1 ++ s.2.2.Has.take m.toNat, ⟨s.2.2.Has.drop m.toNat, 0, s.2.2.Readers⟩) := by
  intro s hp hw hr
  have hs : stepF s.2.2 (rdO m) = (⟨s.2.2.Has.drop m.toNat, 0, s.2.2.Readers⟩, 0, s.2.2.Has.take m.toNat, 0) := by
   unfold stepF rdO
   rw [if_neg (fun h => h hp), if_neg (by simp), if_pos rfl, if_neg hr, if_neg (show ¬ m < 1 by omega), if_neg (by omega), hw]
  unfold playS; rw [hs]; simp
 induction j with
 | zero =>
  intro s hp hw hr hl
  have : s.2.2.Has = [] := List.eq_nil_of_length_eq_zero (by omega)
  rw [List.replicate_succ, List.foldl_cons, one s hp hw hr, this]
  simp
 | succ j ih =>
  intro s hp hw hr hl
  have hp' := hp
  obtain ⟨r1, r2, r3, r4, r5⟩ := hp'
  rw [List.replicate_succ, List.foldl_cons, one s hp hw hr, ih (s.1 ++ [0], s.2.1 ++ s.2.2.Has.take m.toNat, ⟨s.2.2.Has.drop m.toNat, 0, s.2.2.Readers⟩) ⟨by simp; omega, by simp, by simp, r4, r5⟩ rfl hr (by simp; omega)]
  simp [List.replicate_succ]
theorem end_l2_eq (a1 : Int) (r4 : St) (l19 : List Po) (X : Option Bool) (hX : ∀ l, l = l19 ++ List.replicate (r4.2.2.Has.length + 1) (rdO a1) → keep_PipeEnd_l2 a1 r4 l19 1 l (((r4.2.2.Has.length + 1 : Nat) : Int)) = X)
  (hl : (l19.length + 65) * 40 ≤ 200000000000000) (hh : r4.2.2.Has.length ≤ 64) : ∀ n (k : Nat), k ≤ r4.2.2.Has.length + 1 → r4.2.2.Has.length + 1 - k < n →
  keep_PipeEnd_l2 a1 r4 l19 n (l19 ++ List.replicate k (rdO a1)) (k : Int) = X := by
 have hw : IntKind.i64.wrap (((r4.2.2.Has.length : Nat) : Int) + 1) = ((r4.2.2.Has.length + 1 : Nat) : Int) := by rw [wrap_id (by omega) (by omega)]; omega
 intro n
 induction n with
 | zero => intro k h1 h2; omega
 | succ n ih =>
  intro k h1 h2
  rcases Nat.lt_or_ge k (r4.2.2.Has.length + 1) with hlt | hge
  ·unfold keep_PipeEnd_l2
   rw [hw, dec_lt hlt, cond_true, if_pos (by simp only [List.length_append, List.length_replicate, List.length_cons, List.length_nil]; omega), wrap_id (by omega) (by omega), List.append_assoc]
   have : List.replicate k (rdO a1) ++ [(⟨2, a1, ([] : List Int)⟩ : Api_PipeOp)] = List.replicate (k + 1) (rdO a1) := by
    rw [List.replicate_succ']; rfl
   rw [this]
   exact ih (k + 1) (by omega) (by omega)
  ·have hk : k = r4.2.2.Has.length + 1 := by omega
   subst hk
   rw [← hX _ rfl]
   unfold keep_PipeEnd_l2
   rw [hw, dec_ge (Nat.le_refl _), cond_false, cond_false]
theorem end_l1_eq (a1 : Int) (r4 : St) (r17 : List Po) (W : Nat) (hW : r4.2.2.Writers = (W : Int)) (hl : (r17.length + W) * 40 ≤ 200000000000000) (hW2 : W ≤ 1099511627776) : ∀ n (k : Nat), k ≤ W → W - k < n →
  keep_PipeEnd_l1 a1 r4 r17 n (r17 ++ List.replicate k clW) (k : Int) = keep_PipeEnd_l2 a1 r4 (r17 ++ List.replicate W clW) FUEL (r17 ++ List.replicate W clW) 0 := by
 intro n
 induction n with
 | zero => intro k h1 h2; omega
 | succ n ih =>
  intro k h1 h2
  unfold keep_PipeEnd_l1
  rcases Nat.lt_or_ge k W with hlt | hge
  ·rw [hW, dec_lt hlt, cond_true, if_pos (by simp only [List.length_append, List.length_replicate, List.length_cons, List.length_nil]; omega), wrap_id (by omega) (by omega), List.append_assoc]
   have : List.replicate k clW ++ [(⟨5, 0, ([] : List Int)⟩ : Api_PipeOp)] = List.replicate (k + 1) clW := by
    rw [List.replicate_succ']; rfl
   rw [this]
   exact ih (k + 1) (by omega) (by omega)
  ·have hk : k = W := by omega
   subst hk
   rw [hW, dec_ge (Nat.le_refl _), cond_false]
theorem writers_le (ops : List Po) : ∀ s, RightP s.2.2 → (ops.foldl playS s).2.2.Writers ≤ s.2.2.Writers + ops.length := by
 induction ops with
 | nil => intro s h; simp
 | cons o r ih =>
  intro s h
  rw [List.foldl_cons]
  have hI := (Inv.step (k := s.1.length + s.2.1.length + 64) (s := s))
  have hp : RightP (playS s o).2.2 := by
   unfold playS
   rcases stepF_cases s.2.2 o h with he | ⟨he, hp, _⟩
   ·simp only [if_neg he]; exact h
   ·simp only [if_pos he]; exact hp
  have h1 := ih _ hp
  have h2 : (playS s o).2.2.Writers ≤ s.2.2.Writers + 1 := by
   unfold playS
   simp only
   split
   ·rename_i he
    revert he
    unfold stepF
    rw [if_neg (by simpa using h)]
    repeat' split
    all_goals simp [noP]
    all_goals omega
   ·simp only; omega
  rw [List.length_cons]
  omega
theorem PipeEnd_true (a0 : List Po) (a1 : Int) (h0 : a0.length * 40 ≤ 140737488351232 ∧ ∀ y ∈ a0, Ok_Api_PipeOp y) (h1 : -9223372036854775808 ≤ a1 ∧ a1 ≤ 9223372036854775807) : keep_PipeEnd a0 a1 = some true := by
 unfold keep_PipeEnd
 have hn := h0.1
 rw [alive21_eq, Option.bind_some, Bool.not_true, cond_false, Play_eq a0 (by omega), Option.bind_some]
 have hI := playF_inv a0
 have hI1 := hI.r
 have hp := hI.p
 have hwl := writers_le a0 ([], [], P0) (by decide)
 change (playF a0).2.2.Writers ≤ 1 + _ at hwl
 have hcat := fun (r : List Po) => show playF (a0 ++ r) = r.foldl playS (playF a0) from List.foldl_append
 generalize playF a0 = s at *
 have hp' := hp
 obtain ⟨r1, r2, r3, r4, r5⟩ := hp'
 by_cases hR : s.2.2.Readers = 0
 ·rw [beqT hR, cond_true, Step_eq, Option.bind_some]
  unfold stepF
  rw [if_neg (fun h => h hp), if_pos rfl]
  by_cases hW : s.2.2.Writers = 0
  ·rw [if_pos hW, beqT hW]; rfl
  ·rw [if_neg hW, if_pos hR]; rfl
 ·rw [beqF hR, cond_false]
  by_cases hm : a1 < 1
  ·rw [decide_eq_true hm]; rfl
  ·rw [decide_eq_false hm, cond_false]
   unfold slices_Clone_api_PipeOp
   rw [if_pos (by omega), Option.bind_some]
   obtain ⟨W, hW⟩ : ∃ W : Nat, s.2.2.Writers = (W : Int) := ⟨s.2.2.Writers.toNat, by omega⟩
   have e1 := end_l1_eq a1 s a0 W hW (by omega) (by omega) FUEL 0 (by omega) (fuel_gt (by omega))
   rw [List.replicate_zero, List.append_nil] at e1
   rw [show ((0 : Nat) : Int) = 0 from rfl] at e1
   rw [e1]
   have e2 := end_l2_eq a1 s (a0 ++ List.replicate W clW) (some true) ?_ (by rw [List.length_append, List.length_replicate]; omega) r1 FUEL 0 (by omega) (fuel_gt (by omega))
   ·rw [List.replicate_zero, List.append_nil] at e2
    exact e2
   ·rintro l rfl
    unfold keep_PipeEnd_l2
    have hw : IntKind.i64.wrap (((s.2.2.Has.length : Nat) : Int) + 1) = ((s.2.2.Has.length + 1 : Nat) : Int) := by rw [wrap_id (by omega) (by omega)]; omega
    rw [hw, dec_ge (Nat.le_refl _), cond_false, List.append_assoc, Play_eqB _ (by simp only [List.length_append, List.length_replicate]; omega) (by rw [hcat, List.foldl_append, closes W s hp hW,
     reads a1 (by omega) s.2.2.Has.length (s.1 ++ List.replicate W 0, s.2.1, ⟨s.2.2.Has, 0, s.2.2.Readers⟩) ⟨r1, by simp, by simp, r4, r5⟩ rfl hR (by simp)]; simp only [List.length_append]; omega), Option.bind_some, hcat, List.foldl_append, closes W s hp hW,
     reads a1 (by omega) s.2.2.Has.length (s.1 ++ List.replicate W 0, s.2.1, ⟨s.2.2.Has, 0, s.2.2.Readers⟩) ⟨r1, by simp, by simp, r4, r5⟩ rfl hR (by simp)]
    simp only [List.length_nil]
    have hf : [s.2.1, s.2.2.Has].flatten = s.2.1 ++ s.2.2.Has := by simp
    have hIe := hI.e
    rw [show ((((0 : Nat) : Int) : Int) == 0) = true from rfl, cond_true, slices_Concat_byte_eq _ (by simp) (by rw [hf, List.length_append]; omega), Option.bind_some, hf]
    have hlen : (s.1 ++ List.replicate W (0 : Int) ++ List.replicate (s.2.2.Has.length + 1) 0).length = (s.1.length + W + s.2.2.Has.length) + 1 := by simp; omega
    rw [hlen, wrap_id (by omega) (by omega)]
    have hi : 0 + Int.toNat (((((s.1.length + W + s.2.2.Has.length) + 1 : Nat) : Int)) - 1) = s.1.length + W + s.2.2.Has.length := by omega
    rw [hi, if_pos (fun _ => by omega)]
    have hg : (s.1 ++ List.replicate W (0 : Int) ++ List.replicate (s.2.2.Has.length + 1) 0).getD (s.1.length + W + s.2.2.Has.length) 0 = 0 := by
     rw [List.replicate_succ', ← List.append_assoc, List.getD_eq_getElem?_getD, List.getElem?_append_right (by simp; omega)]
     simp [Nat.add_assoc]
    rw [hg]
    simp
    omega
end Go.Proofs.Ytfnmmlcmjmepjaa

