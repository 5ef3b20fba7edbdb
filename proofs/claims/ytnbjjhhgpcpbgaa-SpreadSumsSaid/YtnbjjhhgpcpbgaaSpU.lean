/- Spread: symMerge walked (printed by mksp.py). -/
import Derived.Test.YtnbjjhhgpcpbgaaSpT
set_option linter.unusedVariables false
set_option linter.unnecessarySimpa false
set_option linter.unusedSectionVars false
set_option linter.unusedSimpArgs false
namespace Go.Proofs
open Go.Shelf Go.RowKit Go.Lib Go.Sort Go.Sp
variable {α : Type} [Inhabited α] {v : α → Int}

theorem bs_fuel {p : Nat → Bool} : ∀ (f f' : Nat) {lo hi : Nat}, hi - lo ≤ f → hi - lo ≤ f' → bs p f lo hi = bs p f' lo hi
  | 0, 0, lo, hi, _, _ => rfl
  | 0, f' + 1, lo, hi, h, _ => by unfold bs; rw [if_neg (by omega)]
  | f + 1, 0, lo, hi, _, h => by unfold bs; rw [if_neg (by omega)]
  | f + 1, f' + 1, lo, hi, h, h' => by
    unfold bs
    by_cases hlt : lo < hi
    · rw [if_pos hlt, if_pos hlt, bs_fuel f f' (lo := (lo + hi) / 2 + 1) (by omega) (by omega), bs_fuel f f' (hi := (lo + hi) / 2) (by omega) (by omega)]
    · rw [if_neg hlt, if_neg hlt]
theorem bs_step {p : Nat → Bool} {i j h : Nat} (hlt : i < j) (hh : h = (i + j) / 2) : bs p (j - i) i j = if p h = true then bs p (j - (h + 1)) (h + 1) j else bs p (h - i) i h := by
  obtain ⟨f, hf⟩ : ∃ f, j - i = f + 1 := ⟨j - i - 1, by omega⟩
  rw [hf, hh]
  conv => lhs; unfold bs
  rw [if_pos hlt]
  split
  · exact bs_fuel _ _ (by omega) (by omega)
  · exact bs_fuel _ _ (by omega) (by omega)
theorem bs_end {p : Nat → Bool} {i j : Nat} (h : ¬ i < j) : bs p (j - i) i j = i := by
  rw [show j - i = 0 by omega]; rfl

set_option maxHeartbeats 16000000 in
set_option maxRecDepth 100000 in
theorem Try.sym_up {g : Nat} {cb : Array Value} {cf : α → α → Int} {blk off cap : Nat} {d0 : Array α} {w0 : World} (a m b : Nat) (d : Array α) (w : World) (eg : ∀ args w, (callFunc g args).run Try.prog w = .ok (.enter g args) w) (hcmp : CmpLays1 Try.prog g cb (eI v) cf blk off d0.size w0)
    (R : Row1 (eI v) w0 blk off d0) (hs : d0.size = d.size) (S : SW (eI v) w0 blk off d w) (ha : m = a + 1) (hb : m < b) (hbd : b ≤ d.size) (hsz : d.size < 4611686018427387904) :
    Calls Try.prog 31 #[.slice (some ⟨blk, off, none⟩) d.size cap, .int .i64 a, .int .i64 m, .int .i64 b, .func (.func g) #[] cb] w fun e w' => e = .returned (.tuple #[]) ∧ SW (eI v) w0 blk off (upR a (bs (fun h => (ltOf cf) d[h]! d[a]!) (b - m) m b - 1 - a) d) w' := by
  have mixed := Try.laysF20.mixed
  have HC : Aside _ := hcmp
  have S0 : Aside (SW (eI v) w0 blk off d w) := S
  clear S hcmp
  have hma : ((m : Int) - (a : Int) == 1) = true := by rw [beq_iff_eq]; omega
  have hm0 : a < m := by omega
  have HM : Aside (m = a + 1) := ha
  clear ha
  go_enter Try.func31, Try.ntmps31
  go_wp2
  clear hma
  go_loopg [10, 11] (b - m) (fun g1 vi vj wr => ∃ (i j : Nat), vi = .int .i64 i ∧ vj = .int .i64 j ∧ m ≤ i ∧ i ≤ j ∧ j ≤ b ∧ j - i ≤ g1 ∧ Aside (SW (eI v) w0 blk off d wr) ∧ Hid (bs (fun h => (ltOf cf) d[h]! d[a]!) (j - i) i j = bs (fun h => (ltOf cf) d[h]! d[a]!) (b - m) m b))
  case atStart => exact ⟨m, b, by go_num, by go_num, by omega, by omega, by omega, by omega, S0, rfl⟩
  case round =>
    clear S0
    obtain ⟨i, j, rfl, rfl, hi, hij, hjb, hg1, S1, HO⟩ := hrel
    by_cases hlt : i < j
    · have hltz : (i : Int) < (j : Int) := by omega
      go_wp2_with fail
      obtain ⟨h, hh⟩ : ∃ h : Nat, h = (i + j) / 2 := ⟨_, rfl⟩
      have hz : ((i : Int) + (j : Int)) / 2 = (h : Int) := by omega
      have OUT : Aside (_ = _) := bs_step (p := (fun h => (ltOf cf) d[h]! d[a]!)) hlt hh
      have hih : i ≤ h := by omega
      have hhj : h < j := by omega
      rw [hz]
      clear hh
      have b1 : (h : Int) < (d.size : Int) := by omega
      have b2 : (a : Int) < (d.size : Int) := by omega
      cases hlv : (ltOf cf) d[h]! d[a]! with
      | true =>
        obtain ⟨x1, hx1⟩ : ∃ x, x = d[h]! := ⟨_, rfl⟩
        obtain ⟨y1, hy1⟩ : ∃ x, x = d[a]! := ⟨_, rfl⟩
        have l1 : ∀ n os, (grow (wr.drewN n) os).cell? ⟨blk, off + (h), none⟩ = some (.int .i64 (v d[h]!)) := S1.out.cl R (by omega) (h) (by omega)
        have l2 : ∀ n os, (grow (wr.drewN n) os).cell? ⟨blk, off + (a), none⟩ = some (.int .i64 (v d[a]!)) := S1.out.cl R (by omega) (a) (by omega)
        rw [← hx1] at l1
        rw [← hy1] at l2
        have hc1 := S1.out.cmp HC.out (by omega) x1 y1
        have hv1 : cf x1 y1 < 0 := by rw [hx1, hy1]; exact of_decide_eq_true hlv
        have hd1 : decide (cf x1 y1 < 0) = true := decide_eq_true hv1
        have HLV : Aside ((ltOf cf) d[h]! d[a]! = true) := hlv
        clear hx1 hy1 hlv
        go_quiet_grown (first | (go_at_fn g; refine Calls.grown_of (hc1 _ _)))
        have S2 : Aside (SW (eI v) w0 blk off d (grow (wr.drewN nq) osq)) := S1.out.grown nq osq
        clear l1 l2 hc1 S1
        generalize grow (wr.drewN nq) osq = w2 at S2 ⊢
        clear nq osq
        go_wp2
        go_roundg (j - (h + 1))
        case measure => omega
        case rel => exact ⟨h + 1, j, by go_num, rfl, by omega, by omega, by omega, by omega, S2, (show Hid _ from by show _ = _; rw [← HO.out, OUT.out]; exact (if_pos (by simp [HLV.out])).symm)⟩
      | false =>
        obtain ⟨x1, hx1⟩ : ∃ x, x = d[h]! := ⟨_, rfl⟩
        obtain ⟨y1, hy1⟩ : ∃ x, x = d[a]! := ⟨_, rfl⟩
        have l1 : ∀ n os, (grow (wr.drewN n) os).cell? ⟨blk, off + (h), none⟩ = some (.int .i64 (v d[h]!)) := S1.out.cl R (by omega) (h) (by omega)
        have l2 : ∀ n os, (grow (wr.drewN n) os).cell? ⟨blk, off + (a), none⟩ = some (.int .i64 (v d[a]!)) := S1.out.cl R (by omega) (a) (by omega)
        rw [← hx1] at l1
        rw [← hy1] at l2
        have hc1 := S1.out.cmp HC.out (by omega) x1 y1
        have hv1 : ¬ cf x1 y1 < 0 := by rw [hx1, hy1]; exact of_decide_eq_false hlv
        have hd1 : decide (cf x1 y1 < 0) = false := decide_eq_false hv1
        have HLV : Aside ((ltOf cf) d[h]! d[a]! = false) := hlv
        clear hx1 hy1 hlv
        go_quiet_grown (first | (go_at_fn g; refine Calls.grown_of (hc1 _ _)))
        have S2 : Aside (SW (eI v) w0 blk off d (grow (wr.drewN nq) osq)) := S1.out.grown nq osq
        clear l1 l2 hc1 S1
        generalize grow (wr.drewN nq) osq = w2 at S2 ⊢
        clear nq osq
        go_wp2
        go_roundg (h - i)
        case measure => omega
        case rel => exact ⟨i, h, rfl, by go_num, by omega, by omega, by omega, by omega, S2, (show Hid _ from by show _ = _; rw [← HO.out, OUT.out]; exact (if_neg (by simp [HLV.out])).symm)⟩
    · have hltz : ¬ (i : Int) < (j : Int) := by omega
      have HB : Aside (i = bs (fun h => (ltOf cf) d[h]! d[a]!) (b - m) m b) := by show _ = _; rw [← HO.out, bs_end hlt]
      clear HO
      go_wp2_with fail
      go_loopg [13] i (fun g1 vk wr => ∃ (k : Nat) (dk : Array α), vk = .int .i64 k ∧ a ≤ k ∧ k ≤ i - 1 ∧ i - 1 - k ≤ g1 ∧ dk.size = d.size ∧ Aside (SW (eI v) w0 blk off dk wr) ∧ Hid (upR k (i - 1 - k) dk = upR a (i - 1 - a) d))
      case atStart => exact ⟨a, d, by go_num, by omega, by omega, by omega, rfl, S1, rfl⟩
      case round =>
        clear S1
        obtain ⟨k, dk, rfl, hk0, hk1, hk2, hsk, S1, HO⟩ := hrel
        by_cases hlt : k < i - 1
        · have hltz : (k : Int) < (i : Int) - 1 := by omega
          go_wp2_with fail
          obtain ⟨aN, haN⟩ : ∃ q, q = k := ⟨_, rfl⟩
          have ea : ((k : Int)).toNat = aN := by omega
          have pa : (0 : Int) ≤ (k : Int) := by omega
          have ba : (k : Int) < (d.size : Int) := by omega
          obtain ⟨cN, hcN⟩ : ∃ q, q = k + 1 := ⟨_, rfl⟩
          have ec : ((k : Int) + 1).toNat = cN := by omega
          have pc : (0 : Int) ≤ (k : Int) + 1 := by omega
          have bc : (k : Int) + 1 < (d.size : Int) := by omega
          have rc : IntKind.i64.wrap ((k : Int) + 1) = (k : Int) + 1 := by rw [IntKind.wrap_i64]; omega
          obtain ⟨x1, hx1⟩ : ∃ x, x = dk[k]! := ⟨_, rfl⟩
          obtain ⟨y1, hy1⟩ : ∃ x, x = dk[k + 1]! := ⟨_, rfl⟩
          have S3 : Aside (SW (eI v) w0 blk off (swp dk (k) (k + 1)) ((wr.setCell ⟨blk, off + k, none⟩ (.int .i64 (v y1))).setCell ⟨blk, off + cN, none⟩ (.int .i64 (v x1))).drew) := by rw [hcN, hx1, hy1]; exact S1.out.swapped R (k) (k + 1) (by omega) (by omega)
          have ca : wr.cell? ⟨blk, off + (k), none⟩ = some (.int .i64 (v dk[k]!)) := S1.out.c1 R (by omega) (k) (by omega)
          have cb_ : wr.cell? ⟨blk, off + (k + 1), none⟩ = some (.int .i64 (v dk[k + 1]!)) := S1.out.c1 R (by omega) (k + 1) (by omega)
          have fa := S1.out.f1 R (by omega) (k) (by omega)
          have fb := S1.out.f1 R (by omega) (k + 1) (by omega)
          obtain ⟨u, cc⟩ := S1.out.c2 R (by omega) (k) (k + 1) (by omega) (by omega) (.int .i64 (v y1))
          rw [← hcN] at cc
          rw [← hx1] at ca
          rw [← hy1, ← hcN] at cb_
          rw [← hcN] at fb
          clear S1 hx1 hy1 haN hcN
          clear ea pa aN
          go_big_region_o
          clear ca cb_ cc fa fb
          generalize ((wr.setCell ⟨blk, off + k, none⟩ (.int .i64 (v y1))).setCell ⟨blk, off + cN, none⟩ (.int .i64 (v x1))).drew = w3 at S3 ⊢
          clear ec
          go_wp2
          go_roundg (i - 1 - (k + 1))
          case measure => omega
          case rel => exact ⟨k + 1, swp dk (k) (k + 1), by go_num, by omega, by omega, by omega, by rw [swp_size]; exact hsk, S3, (show Hid _ from by show _ = _; rw [← HO.out, show i - 1 - k = (i - 1 - (k + 1)) + 1 by omega] <;> rfl)⟩
        · have hltz : ¬ (k : Int) < (i : Int) - 1 := by omega
          go_wp2
          (try simp only [Exit.inBlock, Exit.then])
          refine bodyPost_ret (results_none rfl _ _ _) rfl ?_
          refine ⟨rfl, ?_⟩
          have h2 := HO.out
          rw [show i - 1 - k = 0 by omega] at h2
          rw [← HB.out, ← h2]
          exact S1.out

set_option maxHeartbeats 16000000 in
set_option maxRecDepth 100000 in
theorem Try.sym_dn {g : Nat} {cb : Array Value} {cf : α → α → Int} {blk off cap : Nat} {d0 : Array α} {w0 : World} (a m b : Nat) (d : Array α) (w : World) (eg : ∀ args w, (callFunc g args).run Try.prog w = .ok (.enter g args) w) (hcmp : CmpLays1 Try.prog g cb (eI v) cf blk off d0.size w0)
    (R : Row1 (eI v) w0 blk off d0) (hs : d0.size = d.size) (S : SW (eI v) w0 blk off d w) (ha : a + 1 < m) (hb : b = m + 1) (hbd : b ≤ d.size) (hsz : d.size < 4611686018427387904) :
    Calls Try.prog 31 #[.slice (some ⟨blk, off, none⟩) d.size cap, .int .i64 a, .int .i64 m, .int .i64 b, .func (.func g) #[] cb] w fun e w' => e = .returned (.tuple #[]) ∧ SW (eI v) w0 blk off (dnR m (m - bs (fun h => !(ltOf cf) d[m]! d[h]!) (m - a) a m) d) w' := by
  have mixed := Try.laysF20.mixed
  have HC : Aside _ := hcmp
  have S0 : Aside (SW (eI v) w0 blk off d w) := S
  clear S hcmp
  have hma : ((m : Int) - (a : Int) == 1) = false := by rw [beq_eq_false_iff_ne]; omega
  have hmb : ((b : Int) - (m : Int) == 1) = true := by rw [beq_iff_eq]; omega
  have hm1 : m < b := by omega
  have HM : Aside (b = m + 1) := hb
  clear hb
  go_enter Try.func31, Try.ntmps31
  go_wp2
  clear hma hmb
  go_loopg [14, 15] (m - a) (fun g1 vi vj wr => ∃ (i j : Nat), vi = .int .i64 i ∧ vj = .int .i64 j ∧ a ≤ i ∧ i ≤ j ∧ j ≤ m ∧ j - i ≤ g1 ∧ Aside (SW (eI v) w0 blk off d wr) ∧ Hid (bs (fun h => !(ltOf cf) d[m]! d[h]!) (j - i) i j = bs (fun h => !(ltOf cf) d[m]! d[h]!) (m - a) a m))
  case atStart => exact ⟨a, m, by go_num, by go_num, by omega, by omega, by omega, by omega, S0, rfl⟩
  case round =>
    clear S0
    obtain ⟨i, j, rfl, rfl, hi, hij, hjb, hg1, S1, HO⟩ := hrel
    by_cases hlt : i < j
    · have hltz : (i : Int) < (j : Int) := by omega
      go_wp2_with fail
      obtain ⟨h, hh⟩ : ∃ h : Nat, h = (i + j) / 2 := ⟨_, rfl⟩
      have hz : ((i : Int) + (j : Int)) / 2 = (h : Int) := by omega
      have OUT : Aside (_ = _) := bs_step (p := (fun h => !(ltOf cf) d[m]! d[h]!)) hlt hh
      have hih : i ≤ h := by omega
      have hhj : h < j := by omega
      rw [hz]
      clear hh
      have b1 : (h : Int) < (d.size : Int) := by omega
      have b2 : (m : Int) < (d.size : Int) := by omega
      cases hlv : (ltOf cf) d[m]! d[h]! with
      | true =>
        obtain ⟨x1, hx1⟩ : ∃ x, x = d[m]! := ⟨_, rfl⟩
        obtain ⟨y1, hy1⟩ : ∃ x, x = d[h]! := ⟨_, rfl⟩
        have l1 : ∀ n os, (grow (wr.drewN n) os).cell? ⟨blk, off + (m), none⟩ = some (.int .i64 (v d[m]!)) := S1.out.cl R (by omega) (m) (by omega)
        have l2 : ∀ n os, (grow (wr.drewN n) os).cell? ⟨blk, off + (h), none⟩ = some (.int .i64 (v d[h]!)) := S1.out.cl R (by omega) (h) (by omega)
        rw [← hx1] at l1
        rw [← hy1] at l2
        have hc1 := S1.out.cmp HC.out (by omega) x1 y1
        have hv1 : cf x1 y1 < 0 := by rw [hx1, hy1]; exact of_decide_eq_true hlv
        have hd1 : decide (cf x1 y1 < 0) = true := decide_eq_true hv1
        have HLV : Aside ((ltOf cf) d[m]! d[h]! = true) := hlv
        clear hx1 hy1 hlv
        go_quiet_grown (first | (go_at_fn g; refine Calls.grown_of (hc1 _ _)))
        have S2 : Aside (SW (eI v) w0 blk off d (grow (wr.drewN nq) osq)) := S1.out.grown nq osq
        clear l1 l2 hc1 S1
        generalize grow (wr.drewN nq) osq = w2 at S2 ⊢
        clear nq osq
        go_wp2
        go_roundg (h - i)
        case measure => omega
        case rel => exact ⟨i, h, rfl, by go_num, by omega, by omega, by omega, by omega, S2, (show Hid _ from by show _ = _; rw [← HO.out, OUT.out]; exact (if_neg (by simp [HLV.out])).symm)⟩
      | false =>
        obtain ⟨x1, hx1⟩ : ∃ x, x = d[m]! := ⟨_, rfl⟩
        obtain ⟨y1, hy1⟩ : ∃ x, x = d[h]! := ⟨_, rfl⟩
        have l1 : ∀ n os, (grow (wr.drewN n) os).cell? ⟨blk, off + (m), none⟩ = some (.int .i64 (v d[m]!)) := S1.out.cl R (by omega) (m) (by omega)
        have l2 : ∀ n os, (grow (wr.drewN n) os).cell? ⟨blk, off + (h), none⟩ = some (.int .i64 (v d[h]!)) := S1.out.cl R (by omega) (h) (by omega)
        rw [← hx1] at l1
        rw [← hy1] at l2
        have hc1 := S1.out.cmp HC.out (by omega) x1 y1
        have hv1 : ¬ cf x1 y1 < 0 := by rw [hx1, hy1]; exact of_decide_eq_false hlv
        have hd1 : decide (cf x1 y1 < 0) = false := decide_eq_false hv1
        have HLV : Aside ((ltOf cf) d[m]! d[h]! = false) := hlv
        clear hx1 hy1 hlv
        go_quiet_grown (first | (go_at_fn g; refine Calls.grown_of (hc1 _ _)))
        have S2 : Aside (SW (eI v) w0 blk off d (grow (wr.drewN nq) osq)) := S1.out.grown nq osq
        clear l1 l2 hc1 S1
        generalize grow (wr.drewN nq) osq = w2 at S2 ⊢
        clear nq osq
        go_wp2
        go_roundg (j - (h + 1))
        case measure => omega
        case rel => exact ⟨h + 1, j, by go_num, rfl, by omega, by omega, by omega, by omega, S2, (show Hid _ from by show _ = _; rw [← HO.out, OUT.out]; exact (if_pos (by simp [HLV.out])).symm)⟩
    · have hltz : ¬ (i : Int) < (j : Int) := by omega
      have HB : Aside (i = bs (fun h => !(ltOf cf) d[m]! d[h]!) (m - a) a m) := by show _ = _; rw [← HO.out, bs_end hlt]
      clear HO
      go_wp2_with fail
      go_loopg [17] (m - i) (fun g1 vk wr => ∃ (k : Nat) (dk : Array α), vk = .int .i64 k ∧ i ≤ k ∧ k ≤ m ∧ k - i ≤ g1 ∧ dk.size = d.size ∧ Aside (SW (eI v) w0 blk off dk wr) ∧ Hid (dnR k (k - i) dk = dnR m (m - i) d))
      case atStart => exact ⟨m, d, by go_num, by omega, by omega, by omega, rfl, S1, rfl⟩
      case round =>
        clear S1
        obtain ⟨k, dk, rfl, hk0, hk1, hk2, hsk, S1, HO⟩ := hrel
        by_cases hlt : i < k
        · have hltz : (i : Int) < (k : Int) := by omega
          go_wp2_with fail
          obtain ⟨aN, haN⟩ : ∃ q, q = k := ⟨_, rfl⟩
          have ea : ((k : Int)).toNat = aN := by omega
          have pa : (0 : Int) ≤ (k : Int) := by omega
          have ba : (k : Int) < (d.size : Int) := by omega
          obtain ⟨cN, hcN⟩ : ∃ q, q = k - 1 := ⟨_, rfl⟩
          have ec : ((k : Int) - 1).toNat = cN := by omega
          have pc : (0 : Int) ≤ (k : Int) - 1 := by omega
          have bc : (k : Int) - 1 < (d.size : Int) := by omega
          have rc : IntKind.i64.wrap ((k : Int) - 1) = (k : Int) - 1 := by rw [IntKind.wrap_i64]; omega
          obtain ⟨x1, hx1⟩ : ∃ x, x = dk[k]! := ⟨_, rfl⟩
          obtain ⟨y1, hy1⟩ : ∃ x, x = dk[k - 1]! := ⟨_, rfl⟩
          have S3 : Aside (SW (eI v) w0 blk off (swp dk (k) (k - 1)) ((wr.setCell ⟨blk, off + k, none⟩ (.int .i64 (v y1))).setCell ⟨blk, off + cN, none⟩ (.int .i64 (v x1))).drew) := by rw [hcN, hx1, hy1]; exact S1.out.swapped R (k) (k - 1) (by omega) (by omega)
          have ca : wr.cell? ⟨blk, off + (k), none⟩ = some (.int .i64 (v dk[k]!)) := S1.out.c1 R (by omega) (k) (by omega)
          have cb_ : wr.cell? ⟨blk, off + (k - 1), none⟩ = some (.int .i64 (v dk[k - 1]!)) := S1.out.c1 R (by omega) (k - 1) (by omega)
          have fa := S1.out.f1 R (by omega) (k) (by omega)
          have fb := S1.out.f1 R (by omega) (k - 1) (by omega)
          obtain ⟨u, cc⟩ := S1.out.c2 R (by omega) (k) (k - 1) (by omega) (by omega) (.int .i64 (v y1))
          rw [← hcN] at cc
          rw [← hx1] at ca
          rw [← hy1, ← hcN] at cb_
          rw [← hcN] at fb
          clear S1 hx1 hy1 haN hcN
          clear ea pa aN
          go_big_region_o
          clear ca cb_ cc fa fb
          generalize ((wr.setCell ⟨blk, off + k, none⟩ (.int .i64 (v y1))).setCell ⟨blk, off + cN, none⟩ (.int .i64 (v x1))).drew = w3 at S3 ⊢
          clear ec
          go_wp2
          go_roundg (k - 1 - i)
          case measure => omega
          case rel => exact ⟨k - 1, swp dk (k) (k - 1), by go_num, by omega, by omega, by omega, by rw [swp_size]; exact hsk, S3, (show Hid _ from by show _ = _; rw [← HO.out, show k - i = (k - 1 - i) + 1 by omega] <;> rfl)⟩
        · have hltz : ¬ (i : Int) < (k : Int) := by omega
          go_wp2
          (try simp only [Exit.inBlock, Exit.then])
          refine bodyPost_ret (results_none rfl _ _ _) rfl ?_
          refine ⟨rfl, ?_⟩
          have h2 := HO.out
          rw [show k - i = 0 by omega] at h2
          rw [← HB.out, ← h2]
          exact S1.out
end Go.Proofs
