import Derived.Test.YthmieigenefilaaGreatDoorQBTG
set_option linter.unusedVariables false
set_option linter.unusedSimpArgs false
set_option maxRecDepth 100000
namespace Go.Proofs
open Go.RowKit Go.Bn
theorem scan_hit (s word : List UInt8) (n : Int) : ∀ (ws : List (List UInt8)) (k m : Nat), m < ws.length → (∀ j, j < m → ws.getD j [] ≠ word) → ws.getD m [] = word → scan s word n k ws = (mkOp (k + m) n, decide (lineL (mkOp (k + m) n) = some s))
 | [], k, m, h, _, _ => by simp at h
 | w :: ws, k, 0, h, _, h3 => by
  have : w = word := by simpa using h3
  unfold scan; rw [if_pos this]; rfl
 | w :: ws, k, m + 1, h, h2, h3 => by
  have : ¬ w = word := by simpa using h2 0 (by omega)
  unfold scan
  rw [if_neg this, scan_hit s word n ws (k + 1) m (by simp at h; omega) (fun j hj => by simpa using h2 (j + 1) (by omega)) (by simpa using h3)]
  rw [show k + 1 + m = k + (m + 1) by omega]
theorem scan_miss (s word : List UInt8) (n : Int) : ∀ (ws : List (List UInt8)) (k : Nat), (∀ j, j < ws.length → ws.getD j [] ≠ word) → scan s word n k ws = ((0, 0, 0, 0), false)
 | [], k, _ => rfl
 | w :: ws, k, h => by
  have : ¬ w = word := by simpa using h 0 (by simp)
  unfold scan
  rw [if_neg this, scan_miss s word n ws (k + 1) (fun j hj => by simpa using h (j + 1) (by simp; omega))]
theorem lineB_is (o : Bn.Op) (s : ByteArray) : ((lineB o).2 && ((lineB o).1.toList == s.toList)) = decide (lineL o = some s.data.toList) := by
 unfold lineB
 cases h : lineL o with
 | none => simp
 | some l =>
  have := eq_lists l s.data.toList
  have e : bOf s.data.toList = s := rfl
  rw [e] at this
  simp [this]
abbrev opO (o : Bn.Op) : Value := opV o.1 o.2.1 o.2.2.1 o.2.2.2
theorem Tryz.read (s : ByteArray) (hs : s.size ≤ 140737488355328) (w : World) (hT : PowIs w) (h2 : ∃ te pe, w.cell? ⟨1, 0, none⟩ = some (.iface te pe)) (h3 : ∃ te pe, w.cell? ⟨2, 0, none⟩ = some (.iface te pe)) :
  Calls Tryz.prog 30 #[.string s] w fun e w' => e = .returned (.tuple #[opO (readL s.data.toList).1, .bool (readL s.data.toList).2]) ∧ Below w.heap.size w w' := by
 by_cases hv : ∃ v, Lib.atoiAll (cutL 32 s.data.toList).2.1 = .ok v
 ·obtain ⟨v, hv⟩ := hv
  have hr : readL s.data.toList = scan s.data.toList (cutL 32 s.data.toList).1 v 0 wordsL := by unfold readL; rw [hv]
  rw [hr]
  by_cases hw : ∀ j, j < 6 → wordsL.getD j [] ≠ (cutL 32 s.data.toList).1
  ·rw [scan_miss _ _ _ wordsL 0 hw]
   exact Tryz.read_6 s hs v hv hw w hT
  ·obtain ⟨m, hm, he, hlt⟩ : ∃ m, m < 6 ∧ wordsL.getD m [] = (cutL 32 s.data.toList).1 ∧ ∀ j, j < m → wordsL.getD j [] ≠ (cutL 32 s.data.toList).1 := by
    have hx : ∃ m, m < 6 ∧ wordsL.getD m [] = (cutL 32 s.data.toList).1 := by
     apply Classical.byContradiction
     intro hc
     exact hw fun j hj he => hc ⟨j, hj, he⟩
    obtain ⟨m0, hm0, he0⟩ := hx
    generalize (cutL 32 s.data.toList).1 = word at he0 ⊢
    have : m0 = 0 ∨ m0 = 1 ∨ m0 = 2 ∨ m0 = 3 ∨ m0 = 4 ∨ m0 = 5 := by omega
    refine ⟨m0, hm0, he0, fun j hj => ?_⟩
    rw [← he0]
    rcases this with rfl | rfl | rfl | rfl | rfl | rfl <;> (have : j = 0 ∨ j = 1 ∨ j = 2 ∨ j = 3 ∨ j = 4 := by omega) <;> rcases this with rfl | rfl | rfl | rfl | rfl <;> first | decide | omega
   rw [scan_hit s.data.toList _ v wordsL 0 m hm hlt he]
   rw [Nat.zero_add]
   show Calls Tryz.prog 30 #[.string s] w fun e w' => e = .returned (.tuple #[opO (mkOp m v), .bool (decide (lineL (mkOp m v) = some s.data.toList))]) ∧ Below w.heap.size w w'
   rw [← lineB_is]
   have : m = 0 ∨ m = 1 ∨ m = 2 ∨ m = 3 ∨ m = 4 ∨ m = 5 := by omega
   rcases this with rfl | rfl | rfl | rfl | rfl | rfl
   ·exact Tryz.read_0 s hs v hv he.symm w hT
   ·exact Tryz.read_1 s hs v hv he.symm w hT
   ·exact Tryz.read_2 s hs v hv he.symm w hT
   ·exact Tryz.read_3 s hs v hv he.symm w hT
   ·exact Tryz.read_4 s hs v hv he.symm w hT
   ·exact Tryz.read_5 s hs v hv he.symm w hT
 ·have hr : readL s.data.toList = ((0, 0, 0, 0), false) := by
   unfold readL
   have h5 : ∀ x : Lib.NumEnd Int, (∀ v, x ≠ .ok v) → (match x with
     | .ok n => scan s.data.toList (cutL 32 s.data.toList).1 n 0 wordsL
     | _ => (((0, 0, 0, 0), false) : Bn.Op × Bool)) = ((0, 0, 0, 0), false) := fun x h => match x, h with
    | .ok v, h => absurd rfl (h v)
    | Lib.NumEnd.syntax, _ => rfl
    | .range, _ => rfl
   exact h5 _ fun v e => hv ⟨v, e⟩
  rw [hr]
  exact Tryz.read_bad s hs (fun v h => hv ⟨v, h⟩) w h2 h3
end Go.Proofs
