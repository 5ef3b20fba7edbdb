import Derived.Test.YthmieigenefilaaGreatDoorQBWPpre
set_option linter.unusedSimpArgs false
set_option linter.unusedVariables false
namespace Go.Proofs.YthmieigenefilaaGreatDoor
open Go Go.Ab Go.Bn
def opK (o : Bn.Op) : AKO := ⟨o.1, o.2.1, o.2.2.1, o.2.2.2⟩
def parseF : Nat → List UInt8 → List AKO × Option Nat
 | 0, _ => ([], none)
 | f + 1, s => if s = [] then ([], none) else
  if (cutL 10 s).2.2 = true ∧ (readL (cutL 10 s).1).2 = true then (opK (readL (cutL 10 s).1).1 :: (parseF f (cutL 10 s).2.1).1, (parseF f (cutL 10 s).2.1).2.map (· + 1)) else ([], some 0)
theorem parse_len : ∀ (f : Nat) (s : List UInt8), s.length < f → (parseF f s).1.length * 2 ≤ s.length
 | 0, s, h => by omega
 | f + 1, s, h => by
  unfold parseF
  split
  ·simp
  ·split
   ·rename_i hc
    have h1 := cut_rest_lt hc.1
    have h2 := parse_len f (cutL 10 s).2.1 (by omega)
    have h3 := line_read (read_line hc.2).1 (read_line hc.2).2
    have h4 : 0 < (cutL 10 s).1.length := List.length_pos_iff.2 h3.2.2
    simp only [List.length_cons]
    omega
   ·simp
theorem parse_bytes : ∀ (f : Nat) (s : List UInt8), s.length < f → ∀ o ∈ (parseF f s).1, 0 ≤ o.Byte ∧ o.Byte ≤ 255
 | 0, s, h, o, ho => by omega
 | f + 1, s, h, o, ho => by
  unfold parseF at ho
  split at ho
  ·simp at ho
  ·split at ho
   ·rename_i hc
    have h1 := cut_rest_lt hc.1
    rcases List.mem_cons.1 ho with rfl | ho
    ·exact (read_line hc.2).2
    ·exact parse_bytes f _ (by omega) o ho
   ·simp at ho
theorem parse_append (m : List UInt8) : ∀ (f : Nat) (s : List UInt8) (g : Nat), s.length < f → (parseF f s).2 = none → (s ++ m).length < g → ∃ h, m.length < h ∧ parseF g (s ++ m) = ((parseF f s).1 ++ (parseF h m).1, (parseF h m).2.map (· + (parseF f s).1.length))
 | 0, s, g, h, _, _ => by omega
 | f + 1, s, g, h, hn, hg => by
  by_cases hs : s = []
  ·subst hs
   refine ⟨g, by simpa using hg, ?_⟩
   simp [parseF]
  ·have e0 : parseF (f + 1) s = if (cutL 10 s).2.2 = true ∧ (readL (cutL 10 s).1).2 = true then (opK (readL (cutL 10 s).1).1 :: (parseF f (cutL 10 s).2.1).1, (parseF f (cutL 10 s).2.1).2.map (· + 1)) else ([], some 0) := by
    rw [parseF, if_neg hs]
   rw [e0] at hn ⊢
   by_cases hc : (cutL 10 s).2.2 = true ∧ (readL (cutL 10 s).1).2 = true
   ·rw [if_pos hc] at hn ⊢
    have h1 := cut_rest_lt hc.1
    have hn : (parseF f (cutL 10 s).2.1).2 = none := by simpa using hn
    obtain ⟨e1, e2⟩ := cut_yes hc.1
    cases g with
    | zero => omega
    | succ g =>
     have hcc : cutL 10 (s ++ m) = ((cutL 10 s).1, (cutL 10 s).2.1 ++ m, true) := by
      have : s ++ m = (cutL 10 s).1 ++ 10 :: ((cutL 10 s).2.1 ++ m) := by
       have := congrArg (· ++ m) e1
       simpa using this
      rw [this]
      exact cut_at e2
     obtain ⟨h', hh, e⟩ := parse_append m f (cutL 10 s).2.1 g (by omega) hn (by simp at hg ⊢; omega)
     refine ⟨h', hh, ?_⟩
     rw [parseF, if_neg (by simp [hs]), hcc, if_pos ⟨rfl, hc.2⟩, e]
     cases hx : (parseF h' m).2 with
     | none => simp
     | some j => simp; omega
   ·rw [if_neg hc] at hn; cases hn
theorem ten_is : bytesOf [10] = (⟨#[(bytesOf [10]).data.toList.headD 0]⟩ : ByteArray) := by decide +kernel
theorem bn_cut_eq (s : ByteArray) (h : s.size ≤ 140737488355328) : bn_cut s (bytesOf [10]) = some (bOf (cutL 10 s.data.toList).1, bOf (cutL 10 s.data.toList).2.1, (cutL 10 s.data.toList).2.2) := by
 unfold bn_cut
 rw [if_pos ⟨ten_is, h⟩]
 rfl
theorem bn_read_eq (s : ByteArray) (h : s.size ≤ 140737488355328) : bn_read s = some (opK (readL s.data.toList).1, (readL s.data.toList).2) := by
 unfold bn_read
 rw [if_pos h]
 rfl
def presult (l2 : List AKO) (k : Nat) (p : List AKO × Option Nat) : List AKO × Int × Int :=
 match p.2 with
 | none => (l2 ++ p.1, 0, 0)
 | some j => ([], ((k + j : Nat) : Int), 1)
theorem Parse_l1 (a0 : ByteArray) : ∀ n f (s : List UInt8) (l2 : List AKO) (k : Nat), s.length < f → s.length < n → l2.length + s.length ≤ 100000000 → k + s.length ≤ 100000000 →
  bench_Parse_l1 a0 n (bOf s) l2 (k : Int) = some (presult l2 k (parseF f s)) := by
 intro n
 induction n with
 | zero => intro f s l2 k h1 h2; omega
 | succ n ih =>
  intro f s l2 k h1 h2 h3 h4
  cases f with
  | zero => omega
  | succ f =>
   unfold bench_Parse_l1 parseF
   have e0 : ((bOf s).toList == (bytesOf []).toList) = decide (s = []) := eq_lists s []
   rw [e0]
   by_cases hs : s = []
   ·rw [if_pos hs, decide_eq_true hs]
    show some (l2, (0 : Int), (0 : Int)) = some (l2 ++ [], 0, 0)
    rw [List.append_nil]
   ·rw [if_neg hs, decide_eq_false hs, Bool.not_false, cond_true]
    have hsz : (bOf s).size = s.length := rfl
    rw [bn_cut_eq _ (by rw [hsz]; omega), Option.bind_some]
    simp only [bOf_list]
    have hc1 := cut_len1 10 s
    have hsz1 : (bOf (cutL 10 s).1).size = (cutL 10 s).1.length := rfl
    rw [bn_read_eq _ (by rw [hsz1]; omega), Option.bind_some]
    simp only [bOf_list]
    by_cases hc : (cutL 10 s).2.2 = true ∧ (readL (cutL 10 s).1).2 = true
    ·rw [if_pos hc, hc.1, hc.2]
     have hl := cut_rest_lt hc.1
     show (if _ then _ else _) = _
     rw [if_pos (by simp only [List.length_cons, List.length_nil]; omega)]
     have hw : IntKind.i64.wrap ((k : Int) + 1) = ((k + 1 : Nat) : Int) := by rw [wrap_id (by omega) (by omega)]; omega
     rw [hw, ih f (cutL 10 s).2.1 (l2 ++ [opK (readL (cutL 10 s).1).1]) (k + 1) (by omega) (by omega) (by simp; omega) (by omega)]
     unfold presult
     cases hx : (parseF f (cutL 10 s).2.1).2 with
     | none => simp
     | some j => simp; omega
    ·rw [if_neg hc]
     have hb : ((!(cutL 10 s).2.2) || (!(readL (cutL 10 s).1).2)) = true := by
      cases h5 : (cutL 10 s).2.2 <;> cases h6 : (readL (cutL 10 s).1).2 <;> simp_all
     rw [hb]
     simp [presult]
theorem Parse_eq (s : ByteArray) (h : s.size ≤ 50000000) : bench_Parse s = some (presult [] 0 (parseF (s.size + 1) s.data.toList)) := by
 unfold bench_Parse
 have e : s = bOf s.data.toList := rfl
 have hl : s.data.toList.length = s.size := rfl
 have := Parse_l1 s FUEL (s.size + 1) s.data.toList [] 0 (by omega) (fuel_gt (by omega)) (by simp; omega) (by omega)
 rw [← e] at this
 exact this
end Go.Proofs.YthmieigenefilaaGreatDoor
