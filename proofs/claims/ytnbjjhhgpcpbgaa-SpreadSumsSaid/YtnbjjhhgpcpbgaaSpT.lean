/- Spread: slices' stable sort walked: swapRange, rotate. -/
import Derived.Test.YtnbjjhhgpcpbgaaSpL
import Derived.Test.YtnbjjhhgpcpbgaaSpS
set_option linter.unusedVariables false
set_option linter.unusedSectionVars false
set_option linter.unnecessarySimpa false
set_option linter.unusedSimpArgs false
namespace Go.Proofs
open Go.Shelf Go.RowKit Go.Lib Go.Sort Go.Sp

abbrev eI {α : Type} (v : α → Int) (x : α) : Value := .int .i64 (v x)
variable {α : Type} [Inhabited α] {v : α → Int}

set_option maxHeartbeats 4000000 in
set_option maxRecDepth 100000 in
theorem Try.swapRange_s {blk off cap : Nat} {d0 : Array α} {w0 : World} (a b n : Nat) (d : Array α) (w : World) (fv : Value) (R : Row1 (eI v) w0 blk off d0) (hs : d0.size = d.size) (S : SW (eI v) w0 blk off d w) (ha : a + n ≤ d.size) (hb : b + n ≤ d.size) (hsz : d.size < 4611686018427387904) :
    Calls Try.prog 33 #[.slice (some ⟨blk, off, none⟩) d.size cap, .int .i64 a, .int .i64 b, .int .i64 n, fv] w fun e w' => e = .returned (.tuple #[]) ∧ SW (eI v) w0 blk off (swapR a b 0 n d) w' := by
  have mixed := Try.laysF20.mixed
  have S0 : Aside (SW (eI v) w0 blk off d w) := S
  clear S
  go_enter Try.func33, Try.ntmps33
  go_wp2
  go_loopg [10] n (fun g1 vi wr => ∃ (i : Nat) (dk : Array α), vi = .int .i64 i ∧ i ≤ n ∧ n - i ≤ g1 ∧ dk.size = d.size ∧ Aside (SW (eI v) w0 blk off dk wr) ∧ Hid (swapR a b i (n - i) dk = swapR a b 0 n d))
  case atStart => exact ⟨0, d, by go_num, by omega, by omega, rfl, S0, rfl⟩
  case round =>
    clear S0
    obtain ⟨i, dk, rfl, hin, hg1, hsk, S1, HO⟩ := hrel
    by_cases hlt : i < n
    · have hltz : (i : Int) < (n : Int) := by omega
      go_wp2_with fail
      obtain ⟨iN, hiN⟩ : ∃ q, q = a + i := ⟨_, rfl⟩
      obtain ⟨jN, hjN⟩ : ∃ q, q = b + i := ⟨_, rfl⟩
      have ea : ((a : Int) + (i : Int)).toNat = iN := by omega
      have pa : (0 : Int) ≤ (a : Int) + (i : Int) := by omega
      have ba : (a : Int) + (i : Int) < (d.size : Int) := by omega
      have ra : IntKind.i64.wrap ((a : Int) + (i : Int)) = (a : Int) + (i : Int) := by rw [IntKind.wrap_i64]; omega
      have ec : ((b : Int) + (i : Int)).toNat = jN := by omega
      have pc : (0 : Int) ≤ (b : Int) + (i : Int) := by omega
      have bc : (b : Int) + (i : Int) < (d.size : Int) := by omega
      have rc : IntKind.i64.wrap ((b : Int) + (i : Int)) = (b : Int) + (i : Int) := by rw [IntKind.wrap_i64]; omega
      obtain ⟨x1, hx1⟩ : ∃ x, x = dk[a + i]! := ⟨_, rfl⟩
      obtain ⟨y1, hy1⟩ : ∃ x, x = dk[b + i]! := ⟨_, rfl⟩
      have S3 : Aside (SW (eI v) w0 blk off (swp dk (a + i) (b + i)) ((wr.setCell ⟨blk, off + iN, none⟩ (.int .i64 (v y1))).setCell ⟨blk, off + jN, none⟩ (.int .i64 (v x1))).drew) := by rw [hiN, hjN, hx1, hy1]; exact S1.out.swapped R (a + i) (b + i) (by omega) (by omega)
      have ca : wr.cell? ⟨blk, off + (a + i), none⟩ = some (.int .i64 (v dk[a + i]!)) := S1.out.c1 R (by omega) (a + i) (by omega)
      have cb : wr.cell? ⟨blk, off + (b + i), none⟩ = some (.int .i64 (v dk[b + i]!)) := S1.out.c1 R (by omega) (b + i) (by omega)
      have fa := S1.out.f1 R (by omega) (a + i) (by omega)
      have fb := S1.out.f1 R (by omega) (b + i) (by omega)
      obtain ⟨u, cc⟩ := S1.out.c2 R (by omega) (a + i) (b + i) (by omega) (by omega) (.int .i64 (v y1))
      rw [← hjN, ← hiN] at cc
      rw [← hx1, ← hiN] at ca
      rw [← hy1, ← hjN] at cb
      rw [← hiN] at fa
      rw [← hjN] at fb
      clear S1 hx1 hy1 hiN hjN
      go_big_region_o
      clear ca cb cc fa fb
      generalize ((wr.setCell ⟨blk, off + iN, none⟩ (.int .i64 (v y1))).setCell ⟨blk, off + jN, none⟩ (.int .i64 (v x1))).drew = w3 at S3 ⊢
      clear ea ec
      go_wp2
      go_roundg (n - (i + 1))
      case measure => omega
      case rel => exact ⟨i + 1, swp dk (a + i) (b + i), by go_num, by omega, by omega, by rw [swp_size]; exact hsk, S3, (show Hid _ from by
        show _ = _
        rw [← HO.out, show n - i = (n - (i + 1)) + 1 by omega]; rfl)⟩
    · have hltz : ¬ (i : Int) < (n : Int) := by omega
      go_wp2
      go_end0
      refine ⟨rfl, ?_⟩
      have := HO.out
      rw [show n - i = 0 by omega] at this
      rw [← this]; exact S1.out
theorem Try.swapRange_i {blk off cap : Nat} {d0 : Array α} {w0 : World} {za zb zn : Int} (a b n : Nat) (d : Array α) (w : World) (fv : Value) (R : Row1 (eI v) w0 blk off d0) (hs : d0.size = d.size) (S : SW (eI v) w0 blk off d w) (ha : a + n ≤ d.size) (hb : b + n ≤ d.size) (hsz : d.size < 4611686018427387904)
    (hza : za = a) (hzb : zb = b) (hzn : zn = n) :
    Calls Try.prog 33 #[.slice (some ⟨blk, off, none⟩) d.size cap, .int .i64 za, .int .i64 zb, .int .i64 zn, fv] w fun e w' => e = .returned (.tuple #[]) ∧ SW (eI v) w0 blk off (swapR a b 0 n d) w' := by
  subst hza hzb hzn
  exact Try.swapRange_s a b n d w fv R hs S ha hb hsz

theorem rotL_fuel {m : Nat} : ∀ (f f' : Nat) {i j : Nat} {d : Array α}, 0 < i → 0 < j → i + j ≤ f → i + j ≤ f' → rotL m f i j d = rotL m f' i j d
  | 0, _, i, j, d, _, _, _, _ => by omega
  | _, 0, i, j, d, _, _, _, _ => by omega
  | f + 1, f' + 1, i, j, d, h1, h2, h, h' => by
    unfold rotL
    by_cases he : i = j
    · rw [if_pos he, if_pos he]
    · rw [if_neg he, if_neg he]
      by_cases hg : i > j
      · rw [if_pos hg, if_pos hg]
        exact rotL_fuel f f' (by omega) (by omega) (by omega) (by omega)
      · rw [if_neg hg, if_neg hg]
        exact rotL_fuel f f' (by omega) (by omega) (by omega) (by omega)

set_option maxHeartbeats 4000000 in
set_option maxRecDepth 100000 in
theorem Try.rotate_s {blk off cap : Nat} {d0 : Array α} {w0 : World} (a m b : Nat) (d : Array α) (w : World) (fv : Value) (R : Row1 (eI v) w0 blk off d0) (hs : d0.size = d.size) (S : SW (eI v) w0 blk off d w) (ha : a < m) (hb : m < b) (hbd : b ≤ d.size) (hsz : d.size < 4611686018427387904) :
    Calls Try.prog 32 #[.slice (some ⟨blk, off, none⟩) d.size cap, .int .i64 a, .int .i64 m, .int .i64 b, fv] w fun e w' => e = .returned (.tuple #[]) ∧ SW (eI v) w0 blk off (rotL m (m - a + (b - m)) (m - a) (b - m) d) w' := by
  have mixed := Try.laysF20.mixed
  have S0 : Aside (SW (eI v) w0 blk off d w) := S
  clear S
  go_enter Try.func32, Try.ntmps32
  go_wp2
  go_loopg [10, 11] (b - a) (fun g1 vi vj wr => ∃ (i j : Nat) (dk : Array α), vi = .int .i64 i ∧ vj = .int .i64 j ∧ 0 < i ∧ 0 < j ∧ i ≤ m ∧ m + j ≤ d.size ∧ i + j ≤ g1 ∧ dk.size = d.size ∧ Aside (SW (eI v) w0 blk off dk wr) ∧ Hid (rotL m (i + j) i j dk = rotL m (m - a + (b - m)) (m - a) (b - m) d))
  case atStart => exact ⟨m - a, b - m, d, by go_num, by go_num, by omega, by omega, by omega, by omega, by omega, rfl, S0, rfl⟩
  case round =>
    clear S0
    obtain ⟨i, j, dk, rfl, rfl, hi, hj, him, hjm, hg1, hsk, S1, HO⟩ := hrel
    by_cases he : i = j
    · subst he
      have key := fun {za zb zn : Int} => Try.swapRange_i (cap := cap) (za := za) (zb := zb) (zn := zn) (m - i) m i dk wr fv R (by omega) S1.out (by omega) (by omega) (by omega)
      rw [hsk] at key
      go_wp2_with (first | (refine (key (by go_num) rfl rfl).mono ?_; rintro e w' ⟨rfl, S2⟩))
      go_end0
      refine ⟨rfl, ?_⟩
      have := HO.out
      rw [← this]
      obtain ⟨f, hf⟩ : ∃ f, i + i = f + 1 := ⟨i + i - 1, by omega⟩
      rw [hf]
      unfold rotL
      rw [if_pos rfl]
      exact S2
    · have hez : ¬ (i : Int) = (j : Int) := by omega
      obtain ⟨f, hf⟩ : ∃ f, i + j = f + 1 := ⟨i + j - 1, by omega⟩
      by_cases hgt : j < i
      · have hgtz : (j : Int) < (i : Int) := by omega
        have key := fun {za zb zn : Int} => Try.swapRange_i (cap := cap) (za := za) (zb := zb) (zn := zn) (m - i) m j dk wr fv R (by omega) S1.out (by omega) (by omega) (by omega)
        rw [hsk] at key
        go_wp2_with (first | (refine (key (by go_num) rfl rfl).mono ?_; rintro e w' ⟨rfl, S2⟩))
        go_roundg (i - j + j)
        case measure => omega
        case rel => exact ⟨i - j, j, swapR (m - i) m 0 j dk, by go_num, rfl, by omega, by omega, by omega, by omega, by omega, by rw [swapR_size]; exact hsk, S2, (show Hid _ from by
          show _ = _
          rw [← HO.out, hf]
          conv => rhs; unfold rotL
          rw [if_neg he, if_pos hgt, rotL_fuel _ f]
          · omega
          · omega
          · omega
          · omega)⟩
      · have hgtz : ¬ (j : Int) < (i : Int) := by omega
        have key := fun {za zb zn : Int} => Try.swapRange_i (cap := cap) (za := za) (zb := zb) (zn := zn) (m - i) (m + j - i) i dk wr fv R (by omega) S1.out (by omega) (by omega) (by omega)
        rw [hsk] at key
        go_wp2_with (first | (refine (key (by go_num) (by go_num) rfl).mono ?_; rintro e w' ⟨rfl, S2⟩))
        go_roundg (i + (j - i))
        case measure => omega
        case rel => exact ⟨i, j - i, swapR (m - i) (m + j - i) 0 i dk, rfl, by go_num, by omega, by omega, by omega, by omega, by omega, by rw [swapR_size]; exact hsk, S2, (show Hid _ from by
          show _ = _
          rw [← HO.out, hf]
          conv => rhs; unfold rotL
          rw [if_neg he, if_neg (by omega), rotL_fuel _ f]
          · omega
          · omega
          · omega
          · omega)⟩
end Go.Proofs
