import Derived.Lib.AtoiAllCases
import Derived.Lib.ItoaNum
import Derived.Lib.Bytealg
set_option linter.unusedVariables false
set_option linter.unusedSimpArgs false
namespace Go.Bn
abbrev Op := Int × Int × Int × Int
def digs : Nat → Nat → List UInt8
 | 0, _ => []
 | f + 1, u => if u < 10 then [UInt8.ofNat (48 + u)] else digs f (u / 10) ++ [UInt8.ofNat (48 + u % 10)]
theorem digs_eq : ∀ (f u : Nat), u < 10 ^ f → 0 < f → digs f u = Lib.decDigits u
 | 0, u, _, h0 => by omega
 | f + 1, u, h, _ => by
  unfold digs
  rw [Lib.decDigits]
  split
  ·rfl
  ·rename_i h10
   have h1 : u / 10 < 10 ^ f := by rw [Nat.pow_succ] at h; omega
   have h2 : 0 < f := by
    rcases Nat.eq_zero_or_pos f with rfl | h2
    ·simp at h; omega
    ·exact h2
   rw [digs_eq f (u / 10) h1 h2]
def itoaL (n : Int) : List UInt8 := if n < 0 then 45 :: digs 20 n.natAbs else digs 20 n.toNat
theorem itoaL_eq {n : Int} (h0 : -9223372036854775808 ≤ n) (h1 : n ≤ 9223372036854775807) : itoaL n = Lib.itoa n := by
 unfold itoaL Lib.itoa
 split
 ·rw [digs_eq 20 _ (by omega) (by omega)]
 ·rw [digs_eq 20 _ (by omega) (by omega)]
def cutL (c : UInt8) : List UInt8 → List UInt8 × List UInt8 × Bool
 | [] => ([], [], false)
 | b :: r => if b = c then ([], r, true) else (b :: (cutL c r).1, (cutL c r).2)
theorem cut_spec (c : UInt8) : ∀ l : List UInt8, (Lib.indexByte l c = -1 ∧ cutL c l = (l, [], false)) ∨ ∃ i : Nat, i < l.length ∧ Lib.indexByte l c = i ∧ cutL c l = (l.take i, l.drop (i + 1), true)
 | [] => .inl ⟨rfl, rfl⟩
 | b :: r => by
  unfold cutL Lib.indexByte
  by_cases h : b = c
  ·subst h
   exact .inr ⟨0, by simp, by simp, by simp⟩
  ·rw [if_neg h, if_neg (by simpa using h)]
   rcases cut_spec c r with ⟨e1, e2⟩ | ⟨i, hi, e1, e2⟩
   ·rw [e1, e2]; exact .inl ⟨rfl, rfl⟩
   ·rw [e1, e2]
    refine .inr ⟨i + 1, by simp; omega, ?_, by simp⟩
    rw [if_neg (by simp)]; simp
def wordsL : List (List UInt8) := [[105, 110], [114, 117, 110], [114, 101, 97, 100], [115, 97, 118, 101], [114, 101, 115, 116, 111, 114, 101], [109, 111, 118, 101]]
def numOf (o : Op) : Int := if o.1 = 1 then o.2.2.2 else if o.1 = 3 then o.2.2.1 else o.2.1
def lineL (o : Op) : Option (List UInt8) :=
 if o.1 < 1 ∨ o.1 > 6 then none
 else if numOf o < 0 ∨ numOf o > 1099511627776 then none
 else some (wordsL.getD (o.1 - 1).toNat [] ++ [32] ++ itoaL (numOf o))
def bOf (l : List UInt8) : ByteArray := ⟨l.toArray⟩
def lineB (o : Op) : ByteArray × Bool := match lineL o with
 | some l => (bOf l, true)
 | none => (bOf [], false)
def mkOp (k : Nat) (n : Int) : Op := if k = 0 then (1, 0, 0, n % 256) else if k = 2 then (3, 0, n, 0) else (1 + k, n, 0, 0)
def scan (s word : List UInt8) (n : Int) (k : Nat) : List (List UInt8) → Op × Bool
 | [] => ((0, 0, 0, 0), false)
 | w :: ws => if w = word then (mkOp k n, decide (lineL (mkOp k n) = some s)) else scan s word n (k + 1) ws
def readL (s : List UInt8) : Op × Bool :=
 match Lib.atoiAll (cutL 32 s).2.1 with
 | .ok n => scan s (cutL 32 s).1 n 0 wordsL
 | _ => ((0, 0, 0, 0), false)
def hexD (d : Nat) : UInt8 := UInt8.ofNat (if d < 10 then 48 + d else 87 + d)
def hexL : List Int → List UInt8
 | [] => []
 | c :: r => hexD (c.toNat / 16) :: hexD (c.toNat % 16) :: hexL r
def hexB (l : List Int) : ByteArray := if l = [] then bOf [45] else bOf (hexL l)
end Go.Bn
