/- Spread: symMerge walked whole (printed by mksp2.py). -/
import Derived.Test.YtnbjjhhgpcpbgaaSpU
set_option linter.unusedVariables false
set_option linter.unnecessarySimpa false
set_option linter.unusedSectionVars false
set_option linter.unusedSimpArgs false
namespace Go.Proofs
open Go.Shelf Go.RowKit Go.Lib Go.Sort Go.Sp
variable {α : Type} [Inhabited α] {v : α → Int}

theorem rotL_size (m : Nat) : ∀ (f i j : Nat) (d : Array α), (rotL m f i j d).size = d.size
  | 0, _, _, _ => rfl
  | f + 1, i, j, d => by
    unfold rotL
    split
    · exact swapR_size ..
    · split
      · exact (rotL_size m f _ _ _).trans (swapR_size ..)
      · exact (rotL_size m f _ _ _).trans (swapR_size ..)
theorem symM_size (lt : α → α → Bool) : ∀ (f a m b : Nat) (d : Array α), (symM lt f a m b d).size = d.size
  | 0, _, _, _, _ => rfl
  | f + 1, a, m, b, d => by
    unfold symM
    split
    · exact upR_size ..
    · split
      · exact dnR_size ..
      · simp only
        repeat (first | rfl | (rw [symM_size lt f]) | (rw [rotL_size]) | split)
theorem symM_mid {lt : α → α → Bool} {f a m b : Nat} {d : Array α} {mid lo hi i e : Nat} (h1 : ¬ m - a = 1) (h2 : ¬ b - m = 1) (hmid : mid = (a + b) / 2) (hlo : lo = if m > mid then mid + m - b else a) (hhi : hi = if m > mid then mid else m)
    (hi' : i = bs (fun c => !lt d[mid + m - 1 - c]! d[c]!) (hi - lo) lo hi) (he : e = mid + m - i) :
    symM lt (f + 1) a m b d = if mid < e ∧ e < b then symM lt f mid e b (if a < i ∧ i < mid then symM lt f a i mid (if i < m ∧ m < e then rotL m (m - i + (e - m)) (m - i) (e - m) d else d) else (if i < m ∧ m < e then rotL m (m - i + (e - m)) (m - i) (e - m) d else d))
      else (if a < i ∧ i < mid then symM lt f a i mid (if i < m ∧ m < e then rotL m (m - i + (e - m)) (m - i) (e - m) d else d) else (if i < m ∧ m < e then rotL m (m - i + (e - m)) (m - i) (e - m) d else d)) := by
  subst hmid hlo hhi he hi'
  conv => lhs; unfold symM
  rw [if_neg h1, if_neg h2]

/-- What is known of the function itself, called inside. -/
def SymF (v : α → Int) (g : Nat) (cb : Array Value) (cf : α → α → Int) (blk off cap : Nat) (d0 : Array α) (w0 : World) (f : Nat) : Prop :=
  ∀ (a m b : Nat) (d : Array α) (w : World), SW (eI v) w0 blk off d w → d0.size = d.size → a < m → m < b → b - a ≤ f → b ≤ d.size →
    Calls Try.prog 31 #[.slice (some ⟨blk, off, none⟩) d.size cap, .int .i64 a, .int .i64 m, .int .i64 b, .func (.func g) #[] cb] w fun e w' => e = .returned (.tuple #[]) ∧ SW (eI v) w0 blk off (symM (ltOf cf) f a m b d) w'

set_option maxHeartbeats 16000000 in
set_option maxRecDepth 100000 in
theorem Try.sym_A {g : Nat} {cb : Array Value} {cf : α → α → Int} {blk off cap : Nat} {d0 : Array α} {w0 : World} (f a m b : Nat) (d : Array α) (w : World) (eg : ∀ args w, (callFunc g args).run Try.prog w = .ok (.enter g args) w) (hcmp : CmpLays1 Try.prog g cb (eI v) cf blk off d0.size w0)
    (R : Row1 (eI v) w0 blk off d0) (hs : d0.size = d.size) (S : SW (eI v) w0 blk off d w) (hrec : SymF v g cb cf blk off cap d0 w0 f) (ham : a < m) (hmb' : m < b) (hf : b - a ≤ f + 1) (ha1 : ¬ m - a = 1) (hb1 : ¬ b - m = 1) (hc : m > (a + b) / 2) (hbd : b ≤ d.size) (hsz : d.size < 4611686018427387904) :
    Calls Try.prog 31 #[.slice (some ⟨blk, off, none⟩) d.size cap, .int .i64 a, .int .i64 m, .int .i64 b, .func (.func g) #[] cb] w fun e w' => e = .returned (.tuple #[]) ∧ SW (eI v) w0 blk off (symM (ltOf cf) (f + 1) a m b d) w' := by
  have mixed := Try.laysF20.mixed
  have HC : Aside _ := hcmp
  have HR : Aside (SymF v g cb cf blk off cap d0 w0 f) := hrec
  have S0 : Aside (SW (eI v) w0 blk off d w) := S
  clear S hcmp hrec
  have hma : ((m : Int) - (a : Int) == 1) = false := by rw [beq_eq_false_iff_ne]; omega
  have hmb : ((b : Int) - (m : Int) == 1) = false := by rw [beq_eq_false_iff_ne]; omega
  obtain ⟨mid, hmid⟩ : ∃ q, q = (a + b) / 2 := ⟨_, rfl⟩
  have zm : ((a : Int) + (b : Int)) / 2 = (mid : Int) := by omega
  rw [← hmid] at hc
  have hcz : (m : Int) > (mid : Int) := by omega
  have m1 : a < mid := by omega
  have m2 : mid < b := by omega
  obtain ⟨p1, hp1⟩ : ∃ q, q = mid + m - 1 := ⟨_, rfl⟩
  have zp : (mid : Int) + (m : Int) - 1 = (p1 : Int) := by omega
  obtain ⟨lo, hlo⟩ : ∃ q, q = mid + m - b := ⟨_, rfl⟩
  have zl : (mid : Int) + (m : Int) - (b : Int) = (lo : Int) := by omega
  have hloa : a ≤ lo := by omega
  have hlom : lo ≤ mid := by omega
  have HMID : Aside (mid = (a + b) / 2) := hmid
  have HP1 : Aside (p1 = mid + m - 1) := hp1
  have HLO : Aside (lo = mid + m - b) := hlo
  have HA1 : Aside (¬ m - a = 1) := ha1
  have HB1 : Aside (¬ b - m = 1) := hb1
  clear hmid hp1 ha1 hb1 hlo
  go_enter Try.func31, Try.ntmps31
  go_wp2_with fail
  try rw [zm]
  go_wp2_with fail
  try rw [zl]
  try rw [zp]
  clear hma hmb
  go_loopg [20, 21] (mid - lo) (fun g1 vi vj wr => ∃ (i j : Nat), vi = .int .i64 i ∧ vj = .int .i64 j ∧ lo ≤ i ∧ i ≤ j ∧ j ≤ mid ∧ j - i ≤ g1 ∧ Aside (SW (eI v) w0 blk off d wr) ∧ Hid (bs (fun c => !(ltOf cf) d[mid + m - 1 - c]! d[c]!) (j - i) i j = bs (fun c => !(ltOf cf) d[mid + m - 1 - c]! d[c]!) (mid - lo) lo mid))
  case atStart => exact ⟨lo, mid, by go_num, by go_num, by omega, by omega, by omega, by omega, S0, rfl⟩
  case round =>
    clear S0
    obtain ⟨i, j, rfl, rfl, hi, hij, hjb, hg1, S1, HO⟩ := hrel
    by_cases hlt : i < j
    · have hltz : (i : Int) < (j : Int) := by omega
      go_wp2_with fail
      obtain ⟨h, hh⟩ : ∃ h : Nat, h = (i + j) / 2 := ⟨_, rfl⟩
      have hz : ((i : Int) + (j : Int)) / 2 = (h : Int) := by omega
      have OUT : Aside (_ = _) := bs_step (p := (fun c => !(ltOf cf) d[mid + m - 1 - c]! d[c]!)) hlt hh
      have hih : i ≤ h := by omega
      have hhj : h < j := by omega
      rw [hz]
      clear hh
      have b1 : (h : Int) < (d.size : Int) := by omega
      obtain ⟨xN, hxN⟩ : ∃ q, p1 = q + h := ⟨p1 - h, by have := HP1.out; have := HMID.out; omega⟩
      have zx : (p1 : Int) = (xN : Int) + (h : Int) := by omega
      have HX : Aside (xN = mid + m - 1 - h) := by show _ = _; have := HP1.out; omega
      have hxs : xN < d.size := by have := HP1.out; have := HMID.out; have := HLO.out; omega
      have hxsz : (xN : Int) < (d.size : Int) := by omega
      have hxs2 : xN + h < 9223372036854775807 := by have := HP1.out; have := HMID.out; have := HLO.out; omega
      have ra : IntKind.i64.wrap (xN : Int) = (xN : Int) := by rw [IntKind.wrap_i64]; omega
      have ra2 : IntKind.i64.wrap ((xN : Int) + (h : Int) - (h : Int)) = (xN : Int) := by rw [IntKind.wrap_i64]; omega
      rw [zx]
      have ZX : Aside ((p1 : Int) = (xN : Int) + (h : Int)) := zx
      clear zx hxN
      cases hlv : (ltOf cf) d[xN]! d[h]! with
      | true =>
        obtain ⟨x1, hx1⟩ : ∃ x, x = d[xN]! := ⟨_, rfl⟩
        obtain ⟨y1, hy1⟩ : ∃ x, x = d[h]! := ⟨_, rfl⟩
        have l1 : ∀ n os, (grow (wr.drewN n) os).cell? ⟨blk, off + (xN), none⟩ = some (.int .i64 (v d[xN]!)) := S1.out.cl R (by omega) (xN) (by omega)
        have l2 : ∀ n os, (grow (wr.drewN n) os).cell? ⟨blk, off + (h), none⟩ = some (.int .i64 (v d[h]!)) := S1.out.cl R (by omega) (h) (by omega)
        rw [← hx1] at l1
        rw [← hy1] at l2
        have hc1 := S1.out.cmp HC.out (by omega) x1 y1
        have hv1 : cf x1 y1 < 0 := by rw [hx1, hy1]; exact of_decide_eq_true hlv
        have hd1 : decide (cf x1 y1 < 0) = true := decide_eq_true hv1
        have HLV : Aside ((ltOf cf) d[xN]! d[h]! = true) := hlv
        clear hx1 hy1 hlv
        go_quiet_grown (first | (go_at_fn g; refine Calls.grown_of (hc1 _ _)))
        have S2 : Aside (SW (eI v) w0 blk off d (grow (wr.drewN nq) osq)) := S1.out.grown nq osq
        clear l1 l2 hc1 S1
        generalize grow (wr.drewN nq) osq = w2 at S2 ⊢
        clear nq osq
        rw [← ZX.out]
        go_wp2
        go_roundg (h - i)
        case measure => omega
        case rel => exact ⟨i, h, rfl, by go_num, by omega, by omega, by omega, by omega, S2, (show Hid _ from by show _ = _; rw [← HO.out, OUT.out]; exact (if_neg (by have q := HLV.out; rw [HX.out] at q; simp [q])).symm)⟩
      | false =>
        obtain ⟨x1, hx1⟩ : ∃ x, x = d[xN]! := ⟨_, rfl⟩
        obtain ⟨y1, hy1⟩ : ∃ x, x = d[h]! := ⟨_, rfl⟩
        have l1 : ∀ n os, (grow (wr.drewN n) os).cell? ⟨blk, off + (xN), none⟩ = some (.int .i64 (v d[xN]!)) := S1.out.cl R (by omega) (xN) (by omega)
        have l2 : ∀ n os, (grow (wr.drewN n) os).cell? ⟨blk, off + (h), none⟩ = some (.int .i64 (v d[h]!)) := S1.out.cl R (by omega) (h) (by omega)
        rw [← hx1] at l1
        rw [← hy1] at l2
        have hc1 := S1.out.cmp HC.out (by omega) x1 y1
        have hv1 : ¬ cf x1 y1 < 0 := by rw [hx1, hy1]; exact of_decide_eq_false hlv
        have hd1 : decide (cf x1 y1 < 0) = false := decide_eq_false hv1
        have HLV : Aside ((ltOf cf) d[xN]! d[h]! = false) := hlv
        clear hx1 hy1 hlv
        go_quiet_grown (first | (go_at_fn g; refine Calls.grown_of (hc1 _ _)))
        have S2 : Aside (SW (eI v) w0 blk off d (grow (wr.drewN nq) osq)) := S1.out.grown nq osq
        clear l1 l2 hc1 S1
        generalize grow (wr.drewN nq) osq = w2 at S2 ⊢
        clear nq osq
        rw [← ZX.out]
        go_wp2
        go_roundg (j - (h + 1))
        case measure => omega
        case rel => exact ⟨h + 1, j, by go_num, rfl, by omega, by omega, by omega, by omega, S2, (show Hid _ from by show _ = _; rw [← HO.out, OUT.out]; exact (if_pos (by have q := HLV.out; rw [HX.out] at q; simp [q])).symm)⟩
    · have hltz : ¬ (i : Int) < (j : Int) := by omega
      have HB : Aside (i = bs (fun c => !(ltOf cf) d[mid + m - 1 - c]! d[c]!) (mid - lo) lo mid) := by show _ = _; rw [← HO.out, bs_end hlt]
      clear HO hltz
      obtain ⟨e, he⟩ : ∃ q, q = mid + m - i := ⟨_, rfl⟩
      have ze : (mid : Int) + (m : Int) - (i : Int) = (e : Int) := by omega
      have hjz : ¬ (i : Int) < (j : Int) := by omega
      have HS : Aside (_ = _) := symM_mid (lt := ltOf cf) (f := f) HA1.out HB1.out HMID.out (lo := lo) (hi := mid) (by rw [if_pos hc]; exact HLO.out) (by rw [if_pos hc]) HB.out he
      clear HB
      have HE : Aside (e = mid + m - i) := he
      clear he
      by_cases q4 : i < m
      · by_cases q1 : i < mid
        · by_cases q2 : a < i
          · by_cases q3 : e < b
            · have z1 : (i : Int) < (mid : Int) := by have := HE.out; have := HMID.out; have := HLO.out; omega
              have z2 : (a : Int) < (i : Int) := by have := HE.out; have := HMID.out; have := HLO.out; omega
              have z3 : (e : Int) < (b : Int) := by have := HE.out; have := HMID.out; have := HLO.out; omega
              have z4 : (i : Int) < (m : Int) := by have := HE.out; have := HMID.out; have := HLO.out; omega
              have z5 : (m : Int) < (e : Int) := by have := HE.out; have := HMID.out; have := HLO.out; omega
              have z6 : (mid : Int) < (e : Int) := by have := HE.out; have := HMID.out; have := HLO.out; omega
              go_wp2_with fail
              refine (Try.rotate_s i m e d wr _ R hs S1.out (by omega) (by omega) (by have := HE.out; have := HMID.out; have := HLO.out; omega) hsz).mono ?_
              rintro _ w2 ⟨rfl, S2⟩
              have hsr := rotL_size m (m - i + (e - m)) (m - i) (e - m) d
              go_wp2_with fail
              have k1 := HR.out a i mid (rotL m (m - i + (e - m)) (m - i) (e - m) d) _ S2 (by rw [hsr]; exact hs) (by omega) (by omega) (by have := HE.out; have := HMID.out; have := HLO.out; omega) (by have := HE.out; have := HMID.out; have := HLO.out; first | omega | (rw [hsr]; omega))
              rw [hsr] at k1
              refine k1.mono ?_
              rintro _ w3 ⟨rfl, S3⟩
              have hss := symM_size (ltOf cf) f a i mid (rotL m (m - i + (e - m)) (m - i) (e - m) d)
              rw [hsr] at hss
              go_wp2_with fail
              have k2 := HR.out mid e b (symM (ltOf cf) f a i mid (rotL m (m - i + (e - m)) (m - i) (e - m) d)) _ S3 (by rw [hss]; exact hs) (by omega) (by omega) (by have := HE.out; have := HMID.out; have := HLO.out; omega) (by have := HE.out; have := HMID.out; have := HLO.out; first | omega | (rw [hss]; omega) | (rw [hsr]; omega))
              rw [hss] at k2
              refine k2.mono ?_
              rintro _ w4 ⟨rfl, S4⟩
              go_wp2_with fail
              first | done | (go_end0; refine ⟨rfl, ?_⟩; rw [HS.out, if_pos (by omega), if_pos (by omega), if_pos (by omega)]; exact S4)
            · have z1 : (i : Int) < (mid : Int) := by have := HE.out; have := HMID.out; have := HLO.out; omega
              have z2 : (a : Int) < (i : Int) := by have := HE.out; have := HMID.out; have := HLO.out; omega
              have z3 : ¬ (e : Int) < (b : Int) := by have := HE.out; have := HMID.out; have := HLO.out; omega
              have z4 : (i : Int) < (m : Int) := by have := HE.out; have := HMID.out; have := HLO.out; omega
              have z5 : (m : Int) < (e : Int) := by have := HE.out; have := HMID.out; have := HLO.out; omega
              have z6 : (mid : Int) < (e : Int) := by have := HE.out; have := HMID.out; have := HLO.out; omega
              go_wp2_with fail
              refine (Try.rotate_s i m e d wr _ R hs S1.out (by omega) (by omega) (by have := HE.out; have := HMID.out; have := HLO.out; omega) hsz).mono ?_
              rintro _ w2 ⟨rfl, S2⟩
              have hsr := rotL_size m (m - i + (e - m)) (m - i) (e - m) d
              go_wp2_with fail
              have k1 := HR.out a i mid (rotL m (m - i + (e - m)) (m - i) (e - m) d) _ S2 (by rw [hsr]; exact hs) (by omega) (by omega) (by have := HE.out; have := HMID.out; have := HLO.out; omega) (by have := HE.out; have := HMID.out; have := HLO.out; first | omega | (rw [hsr]; omega))
              rw [hsr] at k1
              refine k1.mono ?_
              rintro _ w3 ⟨rfl, S3⟩
              have hss := symM_size (ltOf cf) f a i mid (rotL m (m - i + (e - m)) (m - i) (e - m) d)
              rw [hsr] at hss
              go_wp2_with fail
              first | done | (go_end0; refine ⟨rfl, ?_⟩; rw [HS.out, if_neg (by omega), if_pos (by omega), if_pos (by omega)]; exact S3)
          · by_cases q3 : e < b
            · have z1 : (i : Int) < (mid : Int) := by have := HE.out; have := HMID.out; have := HLO.out; omega
              have z2 : ¬ (a : Int) < (i : Int) := by have := HE.out; have := HMID.out; have := HLO.out; omega
              have z3 : (e : Int) < (b : Int) := by have := HE.out; have := HMID.out; have := HLO.out; omega
              have z4 : (i : Int) < (m : Int) := by have := HE.out; have := HMID.out; have := HLO.out; omega
              have z5 : (m : Int) < (e : Int) := by have := HE.out; have := HMID.out; have := HLO.out; omega
              have z6 : (mid : Int) < (e : Int) := by have := HE.out; have := HMID.out; have := HLO.out; omega
              go_wp2_with fail
              refine (Try.rotate_s i m e d wr _ R hs S1.out (by omega) (by omega) (by have := HE.out; have := HMID.out; have := HLO.out; omega) hsz).mono ?_
              rintro _ w2 ⟨rfl, S2⟩
              have hsr := rotL_size m (m - i + (e - m)) (m - i) (e - m) d
              go_wp2_with fail
              have k2 := HR.out mid e b (rotL m (m - i + (e - m)) (m - i) (e - m) d) _ S2 (by rw [hsr]; exact hs) (by omega) (by omega) (by have := HE.out; have := HMID.out; have := HLO.out; omega) (by have := HE.out; have := HMID.out; have := HLO.out; first | omega | (rw [hss]; omega) | (rw [hsr]; omega))
              rw [hsr] at k2
              refine k2.mono ?_
              rintro _ w4 ⟨rfl, S4⟩
              go_wp2_with fail
              first | done | (go_end0; refine ⟨rfl, ?_⟩; rw [HS.out, if_pos (by omega), if_neg (by omega), if_pos (by omega)]; exact S4)
            · have z1 : (i : Int) < (mid : Int) := by have := HE.out; have := HMID.out; have := HLO.out; omega
              have z2 : ¬ (a : Int) < (i : Int) := by have := HE.out; have := HMID.out; have := HLO.out; omega
              have z3 : ¬ (e : Int) < (b : Int) := by have := HE.out; have := HMID.out; have := HLO.out; omega
              have z4 : (i : Int) < (m : Int) := by have := HE.out; have := HMID.out; have := HLO.out; omega
              have z5 : (m : Int) < (e : Int) := by have := HE.out; have := HMID.out; have := HLO.out; omega
              have z6 : (mid : Int) < (e : Int) := by have := HE.out; have := HMID.out; have := HLO.out; omega
              go_wp2_with fail
              refine (Try.rotate_s i m e d wr _ R hs S1.out (by omega) (by omega) (by have := HE.out; have := HMID.out; have := HLO.out; omega) hsz).mono ?_
              rintro _ w2 ⟨rfl, S2⟩
              have hsr := rotL_size m (m - i + (e - m)) (m - i) (e - m) d
              go_wp2_with fail
              first | done | (go_end0; refine ⟨rfl, ?_⟩; rw [HS.out, if_neg (by omega), if_neg (by omega), if_pos (by omega)]; exact S2)
        · by_cases q2 : a < i
          · by_cases q3 : e < b
            · have z1 : ¬ (i : Int) < (mid : Int) := by have := HE.out; have := HMID.out; have := HLO.out; omega
              have z2 : (a : Int) < (i : Int) := by have := HE.out; have := HMID.out; have := HLO.out; omega
              have z3 : (e : Int) < (b : Int) := by have := HE.out; have := HMID.out; have := HLO.out; omega
              have z4 : (i : Int) < (m : Int) := by have := HE.out; have := HMID.out; have := HLO.out; omega
              have z5 : ¬ (m : Int) < (e : Int) := by have := HE.out; have := HMID.out; have := HLO.out; omega
              have z6 : (mid : Int) < (e : Int) := by have := HE.out; have := HMID.out; have := HLO.out; omega
              go_wp2_with fail
              have k2 := HR.out mid e b d _ S1.out hs (by omega) (by omega) (by have := HE.out; have := HMID.out; have := HLO.out; omega) (by have := HE.out; have := HMID.out; have := HLO.out; first | omega | (rw [hss]; omega) | (rw [hsr]; omega))
              refine k2.mono ?_
              rintro _ w4 ⟨rfl, S4⟩
              go_wp2_with fail
              first | done | (go_end0; refine ⟨rfl, ?_⟩; rw [HS.out, if_pos (by omega), if_neg (by omega), if_neg (by omega)]; exact S4)
            · have z1 : ¬ (i : Int) < (mid : Int) := by have := HE.out; have := HMID.out; have := HLO.out; omega
              have z2 : (a : Int) < (i : Int) := by have := HE.out; have := HMID.out; have := HLO.out; omega
              have z3 : ¬ (e : Int) < (b : Int) := by have := HE.out; have := HMID.out; have := HLO.out; omega
              have z4 : (i : Int) < (m : Int) := by have := HE.out; have := HMID.out; have := HLO.out; omega
              have z5 : ¬ (m : Int) < (e : Int) := by have := HE.out; have := HMID.out; have := HLO.out; omega
              have z6 : (mid : Int) < (e : Int) := by have := HE.out; have := HMID.out; have := HLO.out; omega
              go_wp2_with fail
              first | done | (go_end0; refine ⟨rfl, ?_⟩; rw [HS.out, if_neg (by omega), if_neg (by omega), if_neg (by omega)]; exact S1.out)
          · by_cases q3 : e < b
            · have z1 : ¬ (i : Int) < (mid : Int) := by have := HE.out; have := HMID.out; have := HLO.out; omega
              have z2 : ¬ (a : Int) < (i : Int) := by have := HE.out; have := HMID.out; have := HLO.out; omega
              have z3 : (e : Int) < (b : Int) := by have := HE.out; have := HMID.out; have := HLO.out; omega
              have z4 : (i : Int) < (m : Int) := by have := HE.out; have := HMID.out; have := HLO.out; omega
              have z5 : ¬ (m : Int) < (e : Int) := by have := HE.out; have := HMID.out; have := HLO.out; omega
              have z6 : (mid : Int) < (e : Int) := by have := HE.out; have := HMID.out; have := HLO.out; omega
              go_wp2_with fail
              have k2 := HR.out mid e b d _ S1.out hs (by omega) (by omega) (by have := HE.out; have := HMID.out; have := HLO.out; omega) (by have := HE.out; have := HMID.out; have := HLO.out; first | omega | (rw [hss]; omega) | (rw [hsr]; omega))
              refine k2.mono ?_
              rintro _ w4 ⟨rfl, S4⟩
              go_wp2_with fail
              first | done | (go_end0; refine ⟨rfl, ?_⟩; rw [HS.out, if_pos (by omega), if_neg (by omega), if_neg (by omega)]; exact S4)
            · have z1 : ¬ (i : Int) < (mid : Int) := by have := HE.out; have := HMID.out; have := HLO.out; omega
              have z2 : ¬ (a : Int) < (i : Int) := by have := HE.out; have := HMID.out; have := HLO.out; omega
              have z3 : ¬ (e : Int) < (b : Int) := by have := HE.out; have := HMID.out; have := HLO.out; omega
              have z4 : (i : Int) < (m : Int) := by have := HE.out; have := HMID.out; have := HLO.out; omega
              have z5 : ¬ (m : Int) < (e : Int) := by have := HE.out; have := HMID.out; have := HLO.out; omega
              have z6 : (mid : Int) < (e : Int) := by have := HE.out; have := HMID.out; have := HLO.out; omega
              go_wp2_with fail
              first | done | (go_end0; refine ⟨rfl, ?_⟩; rw [HS.out, if_neg (by omega), if_neg (by omega), if_neg (by omega)]; exact S1.out)
      · by_cases q1 : i < mid
        · by_cases q2 : a < i
          · by_cases q3 : e < b
            · exfalso; have := HE.out; have := HMID.out; have := HLO.out; omega
            · exfalso; have := HE.out; have := HMID.out; have := HLO.out; omega
          · by_cases q3 : e < b
            · exfalso; have := HE.out; have := HMID.out; have := HLO.out; omega
            · exfalso; have := HE.out; have := HMID.out; have := HLO.out; omega
        · by_cases q2 : a < i
          · by_cases q3 : e < b
            · exfalso; have := HE.out; have := HMID.out; have := HLO.out; omega
            · exfalso; have := HE.out; have := HMID.out; have := HLO.out; omega
          · by_cases q3 : e < b
            · exfalso; have := HE.out; have := HMID.out; have := HLO.out; omega
            · exfalso; have := HE.out; have := HMID.out; have := HLO.out; omega

set_option maxHeartbeats 16000000 in
set_option maxRecDepth 100000 in
theorem Try.sym_B {g : Nat} {cb : Array Value} {cf : α → α → Int} {blk off cap : Nat} {d0 : Array α} {w0 : World} (f a m b : Nat) (d : Array α) (w : World) (eg : ∀ args w, (callFunc g args).run Try.prog w = .ok (.enter g args) w) (hcmp : CmpLays1 Try.prog g cb (eI v) cf blk off d0.size w0)
    (R : Row1 (eI v) w0 blk off d0) (hs : d0.size = d.size) (S : SW (eI v) w0 blk off d w) (hrec : SymF v g cb cf blk off cap d0 w0 f) (ham : a < m) (hmb' : m < b) (hf : b - a ≤ f + 1) (ha1 : ¬ m - a = 1) (hb1 : ¬ b - m = 1) (hc : ¬ m > (a + b) / 2) (hbd : b ≤ d.size) (hsz : d.size < 4611686018427387904) :
    Calls Try.prog 31 #[.slice (some ⟨blk, off, none⟩) d.size cap, .int .i64 a, .int .i64 m, .int .i64 b, .func (.func g) #[] cb] w fun e w' => e = .returned (.tuple #[]) ∧ SW (eI v) w0 blk off (symM (ltOf cf) (f + 1) a m b d) w' := by
  have mixed := Try.laysF20.mixed
  have HC : Aside _ := hcmp
  have HR : Aside (SymF v g cb cf blk off cap d0 w0 f) := hrec
  have S0 : Aside (SW (eI v) w0 blk off d w) := S
  clear S hcmp hrec
  have hma : ((m : Int) - (a : Int) == 1) = false := by rw [beq_eq_false_iff_ne]; omega
  have hmb : ((b : Int) - (m : Int) == 1) = false := by rw [beq_eq_false_iff_ne]; omega
  obtain ⟨mid, hmid⟩ : ∃ q, q = (a + b) / 2 := ⟨_, rfl⟩
  have zm : ((a : Int) + (b : Int)) / 2 = (mid : Int) := by omega
  rw [← hmid] at hc
  have hcz : ¬ (m : Int) > (mid : Int) := by omega
  have m1 : a < mid := by omega
  have m2 : mid < b := by omega
  obtain ⟨p1, hp1⟩ : ∃ q, q = mid + m - 1 := ⟨_, rfl⟩
  have zp : (mid : Int) + (m : Int) - 1 = (p1 : Int) := by omega
  have HMID : Aside (mid = (a + b) / 2) := hmid
  have HP1 : Aside (p1 = mid + m - 1) := hp1
  have HA1 : Aside (¬ m - a = 1) := ha1
  have HB1 : Aside (¬ b - m = 1) := hb1
  clear hmid hp1 ha1 hb1
  go_enter Try.func31, Try.ntmps31
  go_wp2_with fail
  try rw [zm]
  go_wp2_with fail
  skip
  try rw [zp]
  clear hma hmb
  go_loopg [20, 21] (m - a) (fun g1 vi vj wr => ∃ (i j : Nat), vi = .int .i64 i ∧ vj = .int .i64 j ∧ a ≤ i ∧ i ≤ j ∧ j ≤ m ∧ j - i ≤ g1 ∧ Aside (SW (eI v) w0 blk off d wr) ∧ Hid (bs (fun c => !(ltOf cf) d[mid + m - 1 - c]! d[c]!) (j - i) i j = bs (fun c => !(ltOf cf) d[mid + m - 1 - c]! d[c]!) (m - a) a m))
  case atStart => exact ⟨a, m, by go_num, by go_num, by omega, by omega, by omega, by omega, S0, rfl⟩
  case round =>
    clear S0
    obtain ⟨i, j, rfl, rfl, hi, hij, hjb, hg1, S1, HO⟩ := hrel
    by_cases hlt : i < j
    · have hltz : (i : Int) < (j : Int) := by omega
      go_wp2_with fail
      obtain ⟨h, hh⟩ : ∃ h : Nat, h = (i + j) / 2 := ⟨_, rfl⟩
      have hz : ((i : Int) + (j : Int)) / 2 = (h : Int) := by omega
      have OUT : Aside (_ = _) := bs_step (p := (fun c => !(ltOf cf) d[mid + m - 1 - c]! d[c]!)) hlt hh
      have hih : i ≤ h := by omega
      have hhj : h < j := by omega
      rw [hz]
      clear hh
      have b1 : (h : Int) < (d.size : Int) := by omega
      obtain ⟨xN, hxN⟩ : ∃ q, p1 = q + h := ⟨p1 - h, by have := HP1.out; have := HMID.out; omega⟩
      have zx : (p1 : Int) = (xN : Int) + (h : Int) := by omega
      have HX : Aside (xN = mid + m - 1 - h) := by show _ = _; have := HP1.out; omega
      have hxs : xN < d.size := by have := HP1.out; have := HMID.out; omega
      have hxsz : (xN : Int) < (d.size : Int) := by omega
      have hxs2 : xN + h < 9223372036854775807 := by have := HP1.out; have := HMID.out; omega
      have ra : IntKind.i64.wrap (xN : Int) = (xN : Int) := by rw [IntKind.wrap_i64]; omega
      have ra2 : IntKind.i64.wrap ((xN : Int) + (h : Int) - (h : Int)) = (xN : Int) := by rw [IntKind.wrap_i64]; omega
      rw [zx]
      have ZX : Aside ((p1 : Int) = (xN : Int) + (h : Int)) := zx
      clear zx hxN
      cases hlv : (ltOf cf) d[xN]! d[h]! with
      | true =>
        obtain ⟨x1, hx1⟩ : ∃ x, x = d[xN]! := ⟨_, rfl⟩
        obtain ⟨y1, hy1⟩ : ∃ x, x = d[h]! := ⟨_, rfl⟩
        have l1 : ∀ n os, (grow (wr.drewN n) os).cell? ⟨blk, off + (xN), none⟩ = some (.int .i64 (v d[xN]!)) := S1.out.cl R (by omega) (xN) (by omega)
        have l2 : ∀ n os, (grow (wr.drewN n) os).cell? ⟨blk, off + (h), none⟩ = some (.int .i64 (v d[h]!)) := S1.out.cl R (by omega) (h) (by omega)
        rw [← hx1] at l1
        rw [← hy1] at l2
        have hc1 := S1.out.cmp HC.out (by omega) x1 y1
        have hv1 : cf x1 y1 < 0 := by rw [hx1, hy1]; exact of_decide_eq_true hlv
        have hd1 : decide (cf x1 y1 < 0) = true := decide_eq_true hv1
        have HLV : Aside ((ltOf cf) d[xN]! d[h]! = true) := hlv
        clear hx1 hy1 hlv
        go_quiet_grown (first | (go_at_fn g; refine Calls.grown_of (hc1 _ _)))
        have S2 : Aside (SW (eI v) w0 blk off d (grow (wr.drewN nq) osq)) := S1.out.grown nq osq
        clear l1 l2 hc1 S1
        generalize grow (wr.drewN nq) osq = w2 at S2 ⊢
        clear nq osq
        rw [← ZX.out]
        go_wp2
        go_roundg (h - i)
        case measure => omega
        case rel => exact ⟨i, h, rfl, by go_num, by omega, by omega, by omega, by omega, S2, (show Hid _ from by show _ = _; rw [← HO.out, OUT.out]; exact (if_neg (by have q := HLV.out; rw [HX.out] at q; simp [q])).symm)⟩
      | false =>
        obtain ⟨x1, hx1⟩ : ∃ x, x = d[xN]! := ⟨_, rfl⟩
        obtain ⟨y1, hy1⟩ : ∃ x, x = d[h]! := ⟨_, rfl⟩
        have l1 : ∀ n os, (grow (wr.drewN n) os).cell? ⟨blk, off + (xN), none⟩ = some (.int .i64 (v d[xN]!)) := S1.out.cl R (by omega) (xN) (by omega)
        have l2 : ∀ n os, (grow (wr.drewN n) os).cell? ⟨blk, off + (h), none⟩ = some (.int .i64 (v d[h]!)) := S1.out.cl R (by omega) (h) (by omega)
        rw [← hx1] at l1
        rw [← hy1] at l2
        have hc1 := S1.out.cmp HC.out (by omega) x1 y1
        have hv1 : ¬ cf x1 y1 < 0 := by rw [hx1, hy1]; exact of_decide_eq_false hlv
        have hd1 : decide (cf x1 y1 < 0) = false := decide_eq_false hv1
        have HLV : Aside ((ltOf cf) d[xN]! d[h]! = false) := hlv
        clear hx1 hy1 hlv
        go_quiet_grown (first | (go_at_fn g; refine Calls.grown_of (hc1 _ _)))
        have S2 : Aside (SW (eI v) w0 blk off d (grow (wr.drewN nq) osq)) := S1.out.grown nq osq
        clear l1 l2 hc1 S1
        generalize grow (wr.drewN nq) osq = w2 at S2 ⊢
        clear nq osq
        rw [← ZX.out]
        go_wp2
        go_roundg (j - (h + 1))
        case measure => omega
        case rel => exact ⟨h + 1, j, by go_num, rfl, by omega, by omega, by omega, by omega, S2, (show Hid _ from by show _ = _; rw [← HO.out, OUT.out]; exact (if_pos (by have q := HLV.out; rw [HX.out] at q; simp [q])).symm)⟩
    · have hltz : ¬ (i : Int) < (j : Int) := by omega
      have HB : Aside (i = bs (fun c => !(ltOf cf) d[mid + m - 1 - c]! d[c]!) (m - a) a m) := by show _ = _; rw [← HO.out, bs_end hlt]
      clear HO hltz
      obtain ⟨e, he⟩ : ∃ q, q = mid + m - i := ⟨_, rfl⟩
      have ze : (mid : Int) + (m : Int) - (i : Int) = (e : Int) := by omega
      have hjz : ¬ (i : Int) < (j : Int) := by omega
      have HS : Aside (_ = _) := symM_mid (lt := ltOf cf) (f := f) HA1.out HB1.out HMID.out (lo := a) (hi := m) (by rw [if_neg hc]) (by rw [if_neg hc]) HB.out he
      clear HB
      have HE : Aside (e = mid + m - i) := he
      clear he
      by_cases q4 : i < m
      · by_cases q1 : i < mid
        · by_cases q2 : a < i
          · by_cases q3 : e < b
            · have z1 : (i : Int) < (mid : Int) := by have := HE.out; have := HMID.out; omega
              have z2 : (a : Int) < (i : Int) := by have := HE.out; have := HMID.out; omega
              have z3 : (e : Int) < (b : Int) := by have := HE.out; have := HMID.out; omega
              have z4 : (i : Int) < (m : Int) := by have := HE.out; have := HMID.out; omega
              have z5 : (m : Int) < (e : Int) := by have := HE.out; have := HMID.out; omega
              have z6 : (mid : Int) < (e : Int) := by have := HE.out; have := HMID.out; omega
              go_wp2_with fail
              refine (Try.rotate_s i m e d wr _ R hs S1.out (by omega) (by omega) (by have := HE.out; have := HMID.out; omega) hsz).mono ?_
              rintro _ w2 ⟨rfl, S2⟩
              have hsr := rotL_size m (m - i + (e - m)) (m - i) (e - m) d
              go_wp2_with fail
              have k1 := HR.out a i mid (rotL m (m - i + (e - m)) (m - i) (e - m) d) _ S2 (by rw [hsr]; exact hs) (by omega) (by omega) (by have := HE.out; have := HMID.out; omega) (by have := HE.out; have := HMID.out; first | omega | (rw [hsr]; omega))
              rw [hsr] at k1
              refine k1.mono ?_
              rintro _ w3 ⟨rfl, S3⟩
              have hss := symM_size (ltOf cf) f a i mid (rotL m (m - i + (e - m)) (m - i) (e - m) d)
              rw [hsr] at hss
              go_wp2_with fail
              have k2 := HR.out mid e b (symM (ltOf cf) f a i mid (rotL m (m - i + (e - m)) (m - i) (e - m) d)) _ S3 (by rw [hss]; exact hs) (by omega) (by omega) (by have := HE.out; have := HMID.out; omega) (by have := HE.out; have := HMID.out; first | omega | (rw [hss]; omega) | (rw [hsr]; omega))
              rw [hss] at k2
              refine k2.mono ?_
              rintro _ w4 ⟨rfl, S4⟩
              go_wp2_with fail
              first | done | (go_end0; refine ⟨rfl, ?_⟩; rw [HS.out, if_pos (by omega), if_pos (by omega), if_pos (by omega)]; exact S4)
            · have z1 : (i : Int) < (mid : Int) := by have := HE.out; have := HMID.out; omega
              have z2 : (a : Int) < (i : Int) := by have := HE.out; have := HMID.out; omega
              have z3 : ¬ (e : Int) < (b : Int) := by have := HE.out; have := HMID.out; omega
              have z4 : (i : Int) < (m : Int) := by have := HE.out; have := HMID.out; omega
              have z5 : (m : Int) < (e : Int) := by have := HE.out; have := HMID.out; omega
              have z6 : (mid : Int) < (e : Int) := by have := HE.out; have := HMID.out; omega
              go_wp2_with fail
              refine (Try.rotate_s i m e d wr _ R hs S1.out (by omega) (by omega) (by have := HE.out; have := HMID.out; omega) hsz).mono ?_
              rintro _ w2 ⟨rfl, S2⟩
              have hsr := rotL_size m (m - i + (e - m)) (m - i) (e - m) d
              go_wp2_with fail
              have k1 := HR.out a i mid (rotL m (m - i + (e - m)) (m - i) (e - m) d) _ S2 (by rw [hsr]; exact hs) (by omega) (by omega) (by have := HE.out; have := HMID.out; omega) (by have := HE.out; have := HMID.out; first | omega | (rw [hsr]; omega))
              rw [hsr] at k1
              refine k1.mono ?_
              rintro _ w3 ⟨rfl, S3⟩
              have hss := symM_size (ltOf cf) f a i mid (rotL m (m - i + (e - m)) (m - i) (e - m) d)
              rw [hsr] at hss
              go_wp2_with fail
              first | done | (go_end0; refine ⟨rfl, ?_⟩; rw [HS.out, if_neg (by omega), if_pos (by omega), if_pos (by omega)]; exact S3)
          · by_cases q3 : e < b
            · have z1 : (i : Int) < (mid : Int) := by have := HE.out; have := HMID.out; omega
              have z2 : ¬ (a : Int) < (i : Int) := by have := HE.out; have := HMID.out; omega
              have z3 : (e : Int) < (b : Int) := by have := HE.out; have := HMID.out; omega
              have z4 : (i : Int) < (m : Int) := by have := HE.out; have := HMID.out; omega
              have z5 : (m : Int) < (e : Int) := by have := HE.out; have := HMID.out; omega
              have z6 : (mid : Int) < (e : Int) := by have := HE.out; have := HMID.out; omega
              go_wp2_with fail
              refine (Try.rotate_s i m e d wr _ R hs S1.out (by omega) (by omega) (by have := HE.out; have := HMID.out; omega) hsz).mono ?_
              rintro _ w2 ⟨rfl, S2⟩
              have hsr := rotL_size m (m - i + (e - m)) (m - i) (e - m) d
              go_wp2_with fail
              have k2 := HR.out mid e b (rotL m (m - i + (e - m)) (m - i) (e - m) d) _ S2 (by rw [hsr]; exact hs) (by omega) (by omega) (by have := HE.out; have := HMID.out; omega) (by have := HE.out; have := HMID.out; first | omega | (rw [hss]; omega) | (rw [hsr]; omega))
              rw [hsr] at k2
              refine k2.mono ?_
              rintro _ w4 ⟨rfl, S4⟩
              go_wp2_with fail
              first | done | (go_end0; refine ⟨rfl, ?_⟩; rw [HS.out, if_pos (by omega), if_neg (by omega), if_pos (by omega)]; exact S4)
            · have z1 : (i : Int) < (mid : Int) := by have := HE.out; have := HMID.out; omega
              have z2 : ¬ (a : Int) < (i : Int) := by have := HE.out; have := HMID.out; omega
              have z3 : ¬ (e : Int) < (b : Int) := by have := HE.out; have := HMID.out; omega
              have z4 : (i : Int) < (m : Int) := by have := HE.out; have := HMID.out; omega
              have z5 : (m : Int) < (e : Int) := by have := HE.out; have := HMID.out; omega
              have z6 : (mid : Int) < (e : Int) := by have := HE.out; have := HMID.out; omega
              go_wp2_with fail
              refine (Try.rotate_s i m e d wr _ R hs S1.out (by omega) (by omega) (by have := HE.out; have := HMID.out; omega) hsz).mono ?_
              rintro _ w2 ⟨rfl, S2⟩
              have hsr := rotL_size m (m - i + (e - m)) (m - i) (e - m) d
              go_wp2_with fail
              first | done | (go_end0; refine ⟨rfl, ?_⟩; rw [HS.out, if_neg (by omega), if_neg (by omega), if_pos (by omega)]; exact S2)
        · by_cases q2 : a < i
          · by_cases q3 : e < b
            · exfalso; have := HE.out; have := HMID.out; omega
            · exfalso; have := HE.out; have := HMID.out; omega
          · by_cases q3 : e < b
            · exfalso; have := HE.out; have := HMID.out; omega
            · exfalso; have := HE.out; have := HMID.out; omega
      · by_cases q1 : i < mid
        · by_cases q2 : a < i
          · by_cases q3 : e < b
            · have z1 : (i : Int) < (mid : Int) := by have := HE.out; have := HMID.out; omega
              have z2 : (a : Int) < (i : Int) := by have := HE.out; have := HMID.out; omega
              have z3 : (e : Int) < (b : Int) := by have := HE.out; have := HMID.out; omega
              have z4 : ¬ (i : Int) < (m : Int) := by have := HE.out; have := HMID.out; omega
              have z5 : (m : Int) < (e : Int) := by have := HE.out; have := HMID.out; omega
              have z6 : ¬ (mid : Int) < (e : Int) := by have := HE.out; have := HMID.out; omega
              go_wp2_with fail
              have k1 := HR.out a i mid d _ S1.out hs (by omega) (by omega) (by have := HE.out; have := HMID.out; omega) (by have := HE.out; have := HMID.out; first | omega | (rw [hsr]; omega))
              refine k1.mono ?_
              rintro _ w3 ⟨rfl, S3⟩
              have hss := symM_size (ltOf cf) f a i mid d
              go_wp2_with fail
              first | done | (go_end0; refine ⟨rfl, ?_⟩; rw [HS.out, if_neg (by omega), if_pos (by omega), if_neg (by omega)]; exact S3)
            · have z1 : (i : Int) < (mid : Int) := by have := HE.out; have := HMID.out; omega
              have z2 : (a : Int) < (i : Int) := by have := HE.out; have := HMID.out; omega
              have z3 : ¬ (e : Int) < (b : Int) := by have := HE.out; have := HMID.out; omega
              have z4 : ¬ (i : Int) < (m : Int) := by have := HE.out; have := HMID.out; omega
              have z5 : (m : Int) < (e : Int) := by have := HE.out; have := HMID.out; omega
              have z6 : ¬ (mid : Int) < (e : Int) := by have := HE.out; have := HMID.out; omega
              go_wp2_with fail
              have k1 := HR.out a i mid d _ S1.out hs (by omega) (by omega) (by have := HE.out; have := HMID.out; omega) (by have := HE.out; have := HMID.out; first | omega | (rw [hsr]; omega))
              refine k1.mono ?_
              rintro _ w3 ⟨rfl, S3⟩
              have hss := symM_size (ltOf cf) f a i mid d
              go_wp2_with fail
              first | done | (go_end0; refine ⟨rfl, ?_⟩; rw [HS.out, if_neg (by omega), if_pos (by omega), if_neg (by omega)]; exact S3)
          · by_cases q3 : e < b
            · have z1 : (i : Int) < (mid : Int) := by have := HE.out; have := HMID.out; omega
              have z2 : ¬ (a : Int) < (i : Int) := by have := HE.out; have := HMID.out; omega
              have z3 : (e : Int) < (b : Int) := by have := HE.out; have := HMID.out; omega
              have z4 : ¬ (i : Int) < (m : Int) := by have := HE.out; have := HMID.out; omega
              have z5 : (m : Int) < (e : Int) := by have := HE.out; have := HMID.out; omega
              have z6 : ¬ (mid : Int) < (e : Int) := by have := HE.out; have := HMID.out; omega
              go_wp2_with fail
              first | done | (go_end0; refine ⟨rfl, ?_⟩; rw [HS.out, if_neg (by omega), if_neg (by omega), if_neg (by omega)]; exact S1.out)
            · have z1 : (i : Int) < (mid : Int) := by have := HE.out; have := HMID.out; omega
              have z2 : ¬ (a : Int) < (i : Int) := by have := HE.out; have := HMID.out; omega
              have z3 : ¬ (e : Int) < (b : Int) := by have := HE.out; have := HMID.out; omega
              have z4 : ¬ (i : Int) < (m : Int) := by have := HE.out; have := HMID.out; omega
              have z5 : (m : Int) < (e : Int) := by have := HE.out; have := HMID.out; omega
              have z6 : ¬ (mid : Int) < (e : Int) := by have := HE.out; have := HMID.out; omega
              go_wp2_with fail
              first | done | (go_end0; refine ⟨rfl, ?_⟩; rw [HS.out, if_neg (by omega), if_neg (by omega), if_neg (by omega)]; exact S1.out)
        · by_cases q2 : a < i
          · by_cases q3 : e < b
            · have z1 : ¬ (i : Int) < (mid : Int) := by have := HE.out; have := HMID.out; omega
              have z2 : (a : Int) < (i : Int) := by have := HE.out; have := HMID.out; omega
              have z3 : (e : Int) < (b : Int) := by have := HE.out; have := HMID.out; omega
              have z4 : ¬ (i : Int) < (m : Int) := by have := HE.out; have := HMID.out; omega
              have z5 : ¬ (m : Int) < (e : Int) := by have := HE.out; have := HMID.out; omega
              have z6 : ¬ (mid : Int) < (e : Int) := by have := HE.out; have := HMID.out; omega
              go_wp2_with fail
              first | done | (go_end0; refine ⟨rfl, ?_⟩; rw [HS.out, if_neg (by omega), if_neg (by omega), if_neg (by omega)]; exact S1.out)
            · have z1 : ¬ (i : Int) < (mid : Int) := by have := HE.out; have := HMID.out; omega
              have z2 : (a : Int) < (i : Int) := by have := HE.out; have := HMID.out; omega
              have z3 : ¬ (e : Int) < (b : Int) := by have := HE.out; have := HMID.out; omega
              have z4 : ¬ (i : Int) < (m : Int) := by have := HE.out; have := HMID.out; omega
              have z5 : ¬ (m : Int) < (e : Int) := by have := HE.out; have := HMID.out; omega
              have z6 : ¬ (mid : Int) < (e : Int) := by have := HE.out; have := HMID.out; omega
              go_wp2_with fail
              first | done | (go_end0; refine ⟨rfl, ?_⟩; rw [HS.out, if_neg (by omega), if_neg (by omega), if_neg (by omega)]; exact S1.out)
          · by_cases q3 : e < b
            · have z1 : ¬ (i : Int) < (mid : Int) := by have := HE.out; have := HMID.out; omega
              have z2 : ¬ (a : Int) < (i : Int) := by have := HE.out; have := HMID.out; omega
              have z3 : (e : Int) < (b : Int) := by have := HE.out; have := HMID.out; omega
              have z4 : ¬ (i : Int) < (m : Int) := by have := HE.out; have := HMID.out; omega
              have z5 : ¬ (m : Int) < (e : Int) := by have := HE.out; have := HMID.out; omega
              have z6 : ¬ (mid : Int) < (e : Int) := by have := HE.out; have := HMID.out; omega
              go_wp2_with fail
              first | done | (go_end0; refine ⟨rfl, ?_⟩; rw [HS.out, if_neg (by omega), if_neg (by omega), if_neg (by omega)]; exact S1.out)
            · have z1 : ¬ (i : Int) < (mid : Int) := by have := HE.out; have := HMID.out; omega
              have z2 : ¬ (a : Int) < (i : Int) := by have := HE.out; have := HMID.out; omega
              have z3 : ¬ (e : Int) < (b : Int) := by have := HE.out; have := HMID.out; omega
              have z4 : ¬ (i : Int) < (m : Int) := by have := HE.out; have := HMID.out; omega
              have z5 : ¬ (m : Int) < (e : Int) := by have := HE.out; have := HMID.out; omega
              have z6 : ¬ (mid : Int) < (e : Int) := by have := HE.out; have := HMID.out; omega
              go_wp2_with fail
              first | done | (go_end0; refine ⟨rfl, ?_⟩; rw [HS.out, if_neg (by omega), if_neg (by omega), if_neg (by omega)]; exact S1.out)

/-- symMerge. -/
theorem Try.symMerge {g : Nat} {cb : Array Value} {cf : α → α → Int} {blk off cap : Nat} {d0 : Array α} {w0 : World} (eg : ∀ args w, (callFunc g args).run Try.prog w = .ok (.enter g args) w) (hcmp : CmpLays1 Try.prog g cb (eI v) cf blk off d0.size w0) (R : Row1 (eI v) w0 blk off d0) (hsz : d0.size < 4611686018427387904) : ∀ f, SymF v g cb cf blk off cap d0 w0 f
  | 0, a, m, b, d, w, _, _, _, _, h, _ => by omega
  | f + 1, a, m, b, d, w, S, hs, ha, hb, hf, hbd => by
    have ih := Try.symMerge (cap := cap) eg hcmp R hsz f
    by_cases h1 : m - a = 1
    · have e : symM (ltOf cf) (f + 1) a m b d = upR a (bs (fun h => (ltOf cf) d[h]! d[a]!) (b - m) m b - 1 - a) d := by
        conv => lhs; unfold symM
        rw [if_pos h1]
      rw [e]
      exact Try.sym_up a m b d w eg hcmp R hs S (by omega) hb hbd (by omega)
    · by_cases h2 : b - m = 1
      · have e : symM (ltOf cf) (f + 1) a m b d = dnR m (m - bs (fun h => !(ltOf cf) d[m]! d[h]!) (m - a) a m) d := by
          conv => lhs; unfold symM
          rw [if_neg h1, if_pos h2]
        rw [e]
        exact Try.sym_dn a m b d w eg hcmp R hs S (by omega) (by omega) hbd (by omega)
      · by_cases hc : m > (a + b) / 2
        · exact Try.sym_A f a m b d w eg hcmp R hs S ih ha hb hf h1 h2 hc hbd (by omega)
        · exact Try.sym_B f a m b d w eg hcmp R hs S ih ha hb hf h1 h2 hc hbd (by omega)
end Go.Proofs
