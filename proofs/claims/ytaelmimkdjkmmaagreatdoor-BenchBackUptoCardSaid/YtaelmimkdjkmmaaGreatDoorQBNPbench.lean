import Derived.Test.YtaelmimkdjkmmaaGreatDoorQBNPpre
set_option linter.unusedSimpArgs false
set_option linter.unusedVariables false
namespace Go.Proofs.YtaelmimkdjkmmaaGreatDoor
open Go Go.Ab Go.Bn
def opK (o : Bn.Op) : Api_KernOp := ⟨o.1, o.2.1, o.2.2.1, o.2.2.2⟩
theorem op_opK (o : Bn.Op) : bn_op (opK o) = o := rfl
def parseF : Nat → List UInt8 → List Api_KernOp × Option Nat
 | 0, _ => ([], none)
 | f + 1, s => if s = [] then ([], none) else
  if (cutL 10 s).2.2 = true ∧ (readL (cutL 10 s).1).2 = true then (opK (readL (cutL 10 s).1).1 :: (parseF f (cutL 10 s).2.1).1, (parseF f (cutL 10 s).2.1).2.map (· + 1)) else ([], some 0)
theorem parse_len : ∀ (f : Nat) (s : List UInt8), s.length < f → (parseF f s).1.length * 2 ≤ s.length
 | 0, s, h => by omega
 | f + 1, s, h => by
  unfold parseF
  split
  ·simp
  ·split
   ·rename_i hc
    have h1 := cut_rest_lt hc.1
    have h2 := parse_len f (cutL 10 s).2.1 (by omega)
    have h3 := line_read (read_line hc.2).1 (read_line hc.2).2
    have h4 : 0 < (cutL 10 s).1.length := List.length_pos_iff.2 h3.2.2
    simp only [List.length_cons]
    omega
   ·simp
theorem parse_bytes : ∀ (f : Nat) (s : List UInt8), s.length < f → ∀ o ∈ (parseF f s).1, 0 ≤ o.Byte ∧ o.Byte ≤ 255
 | 0, s, h, o, ho => by omega
 | f + 1, s, h, o, ho => by
  unfold parseF at ho
  split at ho
  ·simp at ho
  ·split at ho
   ·rename_i hc
    have h1 := cut_rest_lt hc.1
    rcases List.mem_cons.1 ho with rfl | ho
    ·exact (read_line hc.2).2
    ·exact parse_bytes f _ (by omega) o ho
   ·simp at ho
theorem parse_ok : ∀ (f : Nat) (s : List UInt8), s.length < f → (parseF f s).2 = none → printL ((parseF f s).1.map bn_op) = some s ∧ s.count 10 = (parseF f s).1.length
 | 0, s, h, _ => by omega
 | f + 1, s, h, hn => by
  unfold parseF at hn ⊢
  split
  ·rename_i hs; subst hs; exact ⟨rfl, rfl⟩
  ·rename_i hs
   rw [if_neg hs] at hn
   split
   ·rename_i hc
    rw [if_pos hc] at hn
    have h1 := cut_rest_lt hc.1
    have hn : (parseF f (cutL 10 s).2.1).2 = none := by simpa using hn
    obtain ⟨i1, i2⟩ := parse_ok f (cutL 10 s).2.1 (by omega) hn
    obtain ⟨e1, e2⟩ := cut_yes hc.1
    have hl := (read_line hc.2).1
    constructor
    ·simp only [List.map_cons, op_opK, printL]
     rw [hl]
     simp only
     rw [i1]
     simp only
     rw [← e1]
    ·have e3 : s.count 10 = ((cutL 10 s).1 ++ 10 :: (cutL 10 s).2.1).count 10 := by rw [← e1]
     rw [e3, List.count_append, List.count_cons_self, i2, List.count_eq_zero.2 e2]
     simp only [List.length_cons]
     omega
   ·rename_i hc
    rw [if_neg hc] at hn
    cases hn
theorem parse_bad : ∀ (f : Nat) (s : List UInt8), s.length < f → ∀ j, (parseF f s).2 = some j → j ≤ s.count 10
 | 0, s, h, j, _ => by omega
 | f + 1, s, h, j, hn => by
  unfold parseF at hn
  split at hn
  ·cases hn
  ·split at hn
   ·rename_i hc
    have h1 := cut_rest_lt hc.1
    obtain ⟨i, hi, rfl⟩ := Option.map_eq_some_iff.1 hn
    have := parse_bad f _ (by omega) i hi
    obtain ⟨e1, e2⟩ := cut_yes hc.1
    have e3 : s.count 10 = ((cutL 10 s).1 ++ 10 :: (cutL 10 s).2.1).count 10 := by rw [← e1]
    rw [e3, List.count_append, List.count_cons_self]
    omega
   ·cases hn; omega
theorem parse_print : ∀ (ops : List Bn.Op) (t : List UInt8) (f : Nat), (∀ o ∈ ops, 0 ≤ o.2.2.2 ∧ o.2.2.2 ≤ 255) → printL ops = some t → t.length < f → (parseF f t).2 = none ∧ (parseF f t).1.length = ops.length
 | [], t, f, _, h, hf => by
  simp only [printL, Option.some.injEq] at h
  subst h
  cases f with
  | zero => omega
  | succ f => exact ⟨rfl, rfl⟩
 | o :: ops, t, f, hb, h, hf => by
  simp only [printL] at h
  cases hl : lineL o with
  | none => rw [hl] at h; cases h
  | some x =>
   rw [hl] at h
   simp only at h
   cases hp : printL ops with
   | none => rw [hp] at h; cases h
   | some r =>
    rw [hp] at h
    simp only [Option.some.injEq] at h
    subst h
    obtain ⟨r1, r2, r3⟩ := line_read hl (hb o (List.mem_cons_self ..))
    cases f with
    | zero => omega
    | succ f =>
     have hc : cutL 10 (x ++ 10 :: r) = (x, r, true) := cut_at r2
     unfold parseF
     rw [if_neg (by simp), hc, if_pos ⟨rfl, r1⟩]
     have := parse_print ops r f (fun o ho => hb o (List.mem_cons_of_mem _ ho)) hp (by simp at hf; omega)
     simp [this.1, this.2]
theorem ten_is : bytesOf [10] = (⟨#[(bytesOf [10]).data.toList.headD 0]⟩ : ByteArray) := by decide +kernel
theorem bn_cut_eq (s : ByteArray) (h : s.size ≤ 140737488355328) : bn_cut s (bytesOf [10]) = some (bOf (cutL 10 s.data.toList).1, bOf (cutL 10 s.data.toList).2.1, (cutL 10 s.data.toList).2.2) := by
 unfold bn_cut
 rw [if_pos ⟨ten_is, h⟩]
 rfl
theorem bn_count_eq (s : ByteArray) : bn_count s (bytesOf [10]) = some ((s.data.toList.count 10 : Nat) : Int) := by
 unfold bn_count
 rw [if_pos ten_is]
 rfl
theorem bn_read_eq (s : ByteArray) (h : s.size ≤ 140737488355328) : bn_read s = some (opK (readL s.data.toList).1, (readL s.data.toList).2) := by
 unfold bn_read
 rw [if_pos h]
 rfl
def presult (l2 : List Api_KernOp) (k : Nat) (p : List Api_KernOp × Option Nat) : List Api_KernOp × Int × Int :=
 match p.2 with
 | none => (l2 ++ p.1, 0, 0)
 | some j => ([], ((k + j : Nat) : Int), 1)
theorem Parse_l1 (a0 : ByteArray) : ∀ n f (s : List UInt8) (l2 : List Api_KernOp) (k : Nat), s.length < f → s.length < n → l2.length + s.length ≤ 100000000 → k + s.length ≤ 100000000 →
  bench_Parse_l1 a0 n (bOf s) l2 (k : Int) = some (presult l2 k (parseF f s)) := by
 intro n
 induction n with
 | zero => intro f s l2 k h1 h2; omega
 | succ n ih =>
  intro f s l2 k h1 h2 h3 h4
  cases f with
  | zero => omega
  | succ f =>
   unfold bench_Parse_l1 parseF
   have e0 : ((bOf s).toList == (bytesOf []).toList) = decide (s = []) := eq_lists s []
   rw [e0]
   by_cases hs : s = []
   ·rw [if_pos hs, decide_eq_true hs]
    show some (l2, (0 : Int), (0 : Int)) = some (l2 ++ [], 0, 0)
    rw [List.append_nil]
   ·rw [if_neg hs, decide_eq_false hs, Bool.not_false, cond_true]
    have hsz : (bOf s).size = s.length := rfl
    rw [bn_cut_eq _ (by rw [hsz]; omega), Option.bind_some]
    simp only [bOf_list]
    have hc1 := cut_len1 10 s
    have hsz1 : (bOf (cutL 10 s).1).size = (cutL 10 s).1.length := rfl
    rw [bn_read_eq _ (by rw [hsz1]; omega), Option.bind_some]
    simp only [bOf_list]
    by_cases hc : (cutL 10 s).2.2 = true ∧ (readL (cutL 10 s).1).2 = true
    ·rw [if_pos hc, hc.1, hc.2]
     have hl := cut_rest_lt hc.1
     show (if _ then _ else _) = _
     rw [if_pos (by simp only [List.length_cons, List.length_nil]; omega)]
     have hw : IntKind.i64.wrap ((k : Int) + 1) = ((k + 1 : Nat) : Int) := by rw [wrap_id (by omega) (by omega)]; omega
     rw [hw, ih f (cutL 10 s).2.1 (l2 ++ [opK (readL (cutL 10 s).1).1]) (k + 1) (by omega) (by omega) (by simp; omega) (by omega)]
     unfold presult
     cases hx : (parseF f (cutL 10 s).2.1).2 with
     | none => simp
     | some j => simp; omega
    ·rw [if_neg hc]
     have hb : ((!(cutL 10 s).2.2) || (!(readL (cutL 10 s).1).2)) = true := by
      cases h5 : (cutL 10 s).2.2 <;> cases h6 : (readL (cutL 10 s).1).2 <;> simp_all
     rw [hb]
     simp [presult]
theorem Parse_eq (s : ByteArray) (h : s.size ≤ 50000000) : bench_Parse s = some (presult [] 0 (parseF (s.size + 1) s.data.toList)) := by
 unfold bench_Parse
 have e : s = bOf s.data.toList := rfl
 have hl : s.data.toList.length = s.size := rfl
 have := Parse_l1 s FUEL (s.size + 1) s.data.toList [] 0 (by omega) (fuel_gt (by omega)) (by simp; omega) (by omega)
 rw [← e] at this
 exact this
theorem bn_print_eq (l : List Api_KernOp) (h : l.length ≤ 4000000) (hb : ∀ o ∈ l, 0 ≤ o.Byte ∧ o.Byte ≤ 255) : bn_print l = some (printB (l.map bn_op)) := by
 unfold bn_print
 rw [if_pos ⟨by omega, List.all_eq_true.2 fun o ho => by simpa using hb o ho⟩]
theorem BenchBack_trueU (a0 : List Api_KernOp) (a1 : ByteArray) (h0 : a0.length ≤ 1048576 ∧ ∀ y ∈ a0, (OkU_Api_KernOp y)) (h1 : a1.size ≤ 1048576) : keep_BenchBack a0 a1 = some true := by
 unfold keep_BenchBack
 rw [alive26_eq, Option.bind_some]
 show ((bn_print a0).bind _) = _
 have hb0 : ∀ o ∈ a0, 0 ≤ o.Byte ∧ o.Byte ≤ 255 := fun o ho => by
  have := h0.2 o ho
  unfold OkU_Api_KernOp at this
  omega
 rw [bn_print_eq a0 (by omega) hb0, Option.bind_some]
 have hl1 : a1.data.toList.length = a1.size := rfl
 have half : ((bench_Parse a1).bind fun r29 =>
   (bn_print r29.1).bind fun r31 =>
   bif ((r29.2.2 : Int) != 0) then
    (bif (decide ((r29.2.1 : Int) ≥ 0)) then bn_count a1 (bytesOf [10]) else some 0).bind fun r34 =>
    some (((decide ((r29.2.1 : Int) ≥ 0)) && (decide ((r29.2.1 : Int) ≤ r34))) && ((((r29.1.length : Nat) : Int) : Int) == 0))
   else
    some (((r31.2 : Int) == 0) && (r31.1.toList == a1.toList))) = some true := by
  rw [Parse_eq a1 (by omega), Option.bind_some]
  have hpl := parse_len (a1.size + 1) a1.data.toList (by omega)
  have hpb := parse_bytes (a1.size + 1) a1.data.toList (by omega)
  cases hp : (parseF (a1.size + 1) a1.data.toList).2 with
  | none =>
   obtain ⟨i1, i2⟩ := parse_ok _ _ (by omega) hp
   have e : presult [] 0 (parseF (a1.size + 1) a1.data.toList) = ((parseF (a1.size + 1) a1.data.toList).1, 0, 0) := by unfold presult; rw [hp]; simp
   rw [e]
   simp only
   rw [bn_print_eq _ (by omega) hpb, Option.bind_some]
   have e2 : printB ((parseF (a1.size + 1) a1.data.toList).1.map bn_op) = (a1, 0) := by unfold printB; rw [i1]; rfl
   rw [e2]
   simp
  | some j =>
   have hj := parse_bad _ _ (by omega) j hp
   have e : presult [] 0 (parseF (a1.size + 1) a1.data.toList) = ([], ((j : Nat) : Int), 1) := by unfold presult; rw [hp]; simp
   rw [e]
   simp only
   rw [bn_print_eq [] (by simp) (by simp), Option.bind_some]
   have d1 : decide (((j : Nat) : Int) ≥ 0) = true := by simp
   rw [d1, bn_count_eq]
   have d2 : decide (((j : Nat) : Int) ≤ ((a1.data.toList.count 10 : Nat) : Int)) = true := by simp only [decide_eq_true_eq]; omega
   show some ((true && decide (((j : Nat) : Int) ≤ ((a1.data.toList.count 10 : Nat) : Int))) && true) = some true
   rw [d2]; rfl
 cases hp : printL (a0.map bn_op) with
 | none =>
  have e : printB (a0.map bn_op) = (bOf [], 2) := by unfold printB; rw [hp]
  rw [e]
  simp only
  have e2 : bench_Parse (bOf []) = some ([], 0, 0) := by
   rw [Parse_eq (bOf []) (by decide)]; rfl
  rw [e2, Option.bind_some]
  simp only
  rw [bn_print_eq [] (by simp) (by simp), Option.bind_some]
  exact half
 | some t =>
  have e : printB (a0.map bn_op) = (bOf t, 0) := by unfold printB; rw [hp]
  rw [e]
  simp only
  have ht := print_len _ hp
  rw [List.length_map] at ht
  have hts : (bOf t).size = t.length := rfl
  have htl : (bOf t).data.toList = t := rfl
  have hb1 : ∀ o ∈ a0.map bn_op, 0 ≤ o.2.2.2 ∧ o.2.2.2 ≤ 255 := fun o ho => by
   obtain ⟨x, hx, rfl⟩ := List.mem_map.1 ho
   exact hb0 x hx
  have hpp := parse_print (a0.map bn_op) t (t.length + 1) hb1 hp (by omega)
  rw [List.length_map] at hpp
  rw [Parse_eq (bOf t) (by omega), Option.bind_some, hts, htl]
  have hpb := parse_bytes (t.length + 1) t (by omega)
  have hok := parse_ok (t.length + 1) t (by omega) hpp.1
  have e3 : presult [] 0 (parseF (t.length + 1) t) = ((parseF (t.length + 1) t).1, 0, 0) := by unfold presult; rw [hpp.1]; simp
  rw [e3]
  simp only
  rw [bn_print_eq _ (by omega) hpb, Option.bind_some]
  have e4 : printB ((parseF (t.length + 1) t).1.map bn_op) = (bOf t, 0) := by unfold printB; rw [hok.1]
  rw [e4, hpp.2]
  have c0 : ((((0 : Int)) == 0) && (((((0 : Int)) != 0) || (((0 : Int)) != 0)) || (!((bOf t).toList == (bOf t).toList)) || ((((a0.length : Nat) : Int) : Int) != ((a0.length : Nat) : Int)))) = false := by simp
  show (bif ((((0 : Int)) == 0) && (((((0 : Int)) != 0) || (((0 : Int)) != 0)) || (!((bOf t).toList == (bOf t).toList)) || ((((a0.length : Nat) : Int) : Int) != ((a0.length : Nat) : Int)))) then some false else _) = _
  rw [c0]
  exact half
end Go.Proofs.YtaelmimkdjkmmaaGreatDoor
