/- Spread: the search of Best walked. -/
import Derived.Test.YtnbjjhhgpcpbgaaSpL
import Derived.Test.YtnbjjhhgpcpbgaaSpD
import Derived.WalkKit
import Derived.Deep.QuietTactic
import Derived.BigQuiet
import Derived.StillTailTactics
import Derived.Lib.Hide
set_option linter.unusedVariables false
set_option linter.unusedSectionVars false
set_option linter.unnecessarySimpa false
set_option linter.unusedSimpArgs false
namespace Go.Proofs
open Go.Shelf Go.RowKit Go.Lib Go.Sort Go.Sp

theorem mx_snoc (l : List Int) (x : Int) (h : 0 ≤ x) : mx (l ++ [x]) = max (mx l) x := by
  induction l with
  | nil => show max x 0 = max 0 x; omega
  | cons y l ih => show max y (mx (l ++ [x])) = max (max y (mx l)) x; rw [ih]; omega

set_option maxHeartbeats 1000000 in
theorem Try.max_s {has : List Int} {H c : Nat} {W : World} (hr : ∀ i (hi : i < has.length), W.cell? ⟨H, i, none⟩ = some (.int .i64 has[i])) (h0 : 0 < has.length) (hn : ∀ x ∈ has, 0 ≤ x) (hl : has.length < 1000000) :
    Calls Try.prog 12 #[.slice (some ⟨H, 0, none⟩) has.length c] W fun e w' => e = .returned (.int .i64 (mx has)) ∧ ∃ q, w' = W.drewN q := by
  have mixed := Try.laysF20.mixed
  have hc0 := hr 0 h0
  have h1 : ¬ (has.length : Int) < 1 := by omega
  have HR : Aside (∀ i (hi : i < has.length), W.cell? ⟨H, i, none⟩ = some (.int .i64 has[i])) := hr
  have HN : Aside (∀ x ∈ has, 0 ≤ x) := hn
  have hx0 : Aside (has[0] = mx (has.take 1)) := by
    show _ = _
    have := hn _ (List.getElem_mem h0)
    rw [List.take_succ_eq_append_getElem h0]
    show _ = max has[0] 0
    omega
  obtain ⟨x0, hx⟩ : ∃ x, x = has[0] := ⟨_, rfl⟩
  rw [← hx] at hc0 hx0
  clear hr hn hx
  have hz : (0 : Int) < (has.length : Int) := by omega
  go_enter Try.func12, Try.ntmps12
  go_wp2
  go_loopg [3, 4] has.length (fun g1 vm vk wr => ∃ (k : Nat) (x : Int) (q : Nat), vm = .int .i64 x ∧ vk = .int .i64 k ∧ 1 ≤ k ∧ k ≤ has.length ∧ has.length - k ≤ g1 ∧ Aside (x = mx (has.take k)) ∧ wr = W.drewN q)
  case atStart => exact ⟨1, x0, 0, rfl, by go_num, by omega, by omega, by omega, hx0, rfl⟩
  case round =>
    obtain ⟨k, x, q, rfl, rfl, hk1, hk, hg, HX, rfl⟩ := hrel
    by_cases hlt : k < has.length
    · have hltz : (k : Int) < (has.length : Int) := by omega
      have hck := HR.out k hlt
      have hnk := HN.out _ (List.getElem_mem hlt)
      have hm : Aside (max x has[k] = mx (has.take (k + 1))) := by
        show _ = _
        rw [List.take_succ_eq_append_getElem hlt, mx_snoc _ _ hnk, HX.out]
      obtain ⟨y, hy⟩ : ∃ y, y = has[k] := ⟨_, rfl⟩
      rw [← hy] at hck hm
      clear hy hnk
      by_cases hxy : x < y
      · have e : max x y = y := by omega
        go_wp2
        go_roundg (has.length - (k + 1))
        case measure => omega
        case rel => exact ⟨k + 1, y, q, by first | rfl | (congr 1; omega), by go_num, by omega, by omega, by omega, (by rw [e] at hm; exact hm), rfl⟩
      · have e : max x y = x := by omega
        go_wp2
        go_roundg (has.length - (k + 1))
        case measure => omega
        case rel => exact ⟨k + 1, x, q, by first | rfl | (congr 1; omega), by go_num, by omega, by omega, by omega, (by rw [e] at hm; exact hm), rfl⟩
    · have hltz : ¬ (k : Int) < (has.length : Int) := by omega
      have hfin := HX.out
      rw [List.take_of_length_le (by omega)] at hfin
      obtain ⟨M, hM⟩ : ∃ M, M = mx has := ⟨_, rfl⟩
      have HM : Aside (M = mx has) := hM
      rw [← hM] at hfin
      clear HX hM
      subst hfin
      go_wp2
      go_ret
      rw [← HM.out]
      exact ⟨rfl, q, rfl⟩

/-- Blocks of the search: what cores have, its box, the best's box, the work's box, the search's own box. -/
structure PS (work : List Int) (n H BH BB B0 BP wg wo : Nat) (wa : Option Addr) : Prop where
  n1 : 1 ≤ n
  n8 : n ≤ 8
  len : work.length ≤ 9
  ws : ∀ x ∈ work, 0 ≤ x ∧ x ≤ 1073741824
  wa : 0 < work.length → wa = some ⟨wg, wo, none⟩
  d1 : H ≠ BB
  d2 : H ≠ BH
  d3 : H ≠ B0
  d4 : H ≠ BP
  d5 : H ≠ wg
  d6 : BB ≠ BH
  d7 : BB ≠ B0
  d8 : BB ≠ BP
  d9 : BB ≠ wg

structure PB (work : List Int) (n H BH BB B0 BP wg wo wc : Nat) (wa : Option Addr) (W0 W : World) (has : List Int) (b : Int) : Prop where
  os : W.os = W0.os
  tape : W.tape = W0.tape
  output : W.output = W0.output
  size : W.heap.size = W0.heap.size
  block : ∀ k, k ≠ H → k ≠ BB → W.heap[k]? = W0.heap[k]?
  len : has.length = n
  row : ∀ i (hi : i < has.length), W.cell? ⟨H, i, none⟩ = some (.int .i64 has[i])
  rowf : ∀ i, i < has.length → W.frozen? ⟨H, i, none⟩ = false
  best : W.cell? ⟨BB, 0, none⟩ = some (.int .i64 b)
  bestf : W.frozen? ⟨BB, 0, none⟩ = false
  ch : W.cell? ⟨BH, 0, none⟩ = some (.slice (some ⟨H, 0, none⟩) n n)
  cw : W.cell? ⟨B0, 0, none⟩ = some (.slice wa work.length wc)
  cp : W.cell? ⟨BP, 0, none⟩ = some (.func (.func 22) #[] #[.pointer (some ⟨BH, 0, none⟩), .pointer (some ⟨BB, 0, none⟩), .pointer (some ⟨B0, 0, none⟩), .pointer (some ⟨BP, 0, none⟩)])
  work : ∀ i (hi : i < work.length), W.cell? ⟨wg, wo + i, none⟩ = some (.int .i64 work[i])

section
variable {work : List Int} {n H BH BB B0 BP wg wo wc : Nat} {wa : Option Addr} {W0 W : World} {has : List Int} {b : Int}
theorem PB.drewN (h : PB work n H BH BB B0 BP wg wo wc wa W0 W has b) (q : Nat) : PB work n H BH BB B0 BP wg wo wc wa W0 (W.drewN q) has b :=
  ⟨h.os, h.tape, h.output, h.size, h.block, h.len, h.row, h.rowf, h.best, h.bestf, h.ch, h.cw, h.cp, h.work⟩
theorem cell_set_other {W : World} {g g' o o' : Nat} {v u : Value} (hg : g ≠ g') (hc : W.cell? ⟨g', o', none⟩ = some v) : (W.setCell ⟨g, o, none⟩ u).cell? ⟨g', o', none⟩ = some v := by
  rw [World.cell?_setCell_other _ _ _ _ (by intro e'; simp only [Addr.mk.injEq] at e'; exact hg (by omega))]; exact hc
theorem PB.setH (S : PS work n H BH BB B0 BP wg wo wa) (h : PB work n H BH BB B0 BP wg wo wc wa W0 W has b) {c : Nat} (hc : c < has.length) (v : Int) : PB work n H BH BB B0 BP wg wo wc wa W0 (W.setCell ⟨H, c, none⟩ (.int .i64 v)) (has.set c v) b where
  os := h.os
  tape := h.tape
  output := h.output
  size := by simpa using h.size
  block := fun k h1 h2 => by
    rw [Below.heap_setCell _ _ _ _ h1]
    exact h.block k h1 h2
  len := by rw [List.length_set]; exact h.len
  row := fun i hi => by
    rw [List.length_set] at hi
    by_cases e : c = i
    · subst e
      rw [List.getElem_set_self]
      exact World.cell?_setCell_same _ _ _ (h.row c hi)
    · rw [List.getElem_set_ne e]
      rw [World.cell?_setCell_other _ _ _ _ (by intro e'; simp only [Addr.mk.injEq] at e'; omega)]
      exact h.row i hi
  rowf := fun i hi => by rw [List.length_set] at hi; rw [World.frozen?_setCell]; exact h.rowf i hi
  best := cell_set_other S.d1 h.best
  bestf := by rw [World.frozen?_setCell]; exact h.bestf
  ch := cell_set_other S.d2 h.ch
  cw := cell_set_other S.d3 h.cw
  cp := cell_set_other S.d4 h.cp
  work := fun i hi => cell_set_other S.d5 (h.work i hi)
theorem PB.setB (S : PS work n H BH BB B0 BP wg wo wa) (h : PB work n H BH BB B0 BP wg wo wc wa W0 W has b) (v : Int) : PB work n H BH BB B0 BP wg wo wc wa W0 (W.setCell ⟨BB, 0, none⟩ (.int .i64 v)) has v where
  os := h.os
  tape := h.tape
  output := h.output
  size := by simpa using h.size
  block := fun k h1 h2 => by
    rw [Below.heap_setCell _ _ _ _ h2]
    exact h.block k h1 h2
  len := h.len
  row := fun i hi => cell_set_other (fun e => S.d1 e.symm) (h.row i hi)
  rowf := fun i hi => by rw [World.frozen?_setCell]; exact h.rowf i hi
  best := World.cell?_setCell_same _ _ _ h.best
  bestf := by rw [World.frozen?_setCell]; exact h.bestf
  ch := cell_set_other S.d6 h.ch
  cw := cell_set_other S.d7 h.cw
  cp := cell_set_other S.d8 h.cp
  work := fun i hi => cell_set_other S.d9 (h.work i hi)
end

theorem add_eq_set {has : List Int} {c : Nat} (hc : c < has.length) (w : Int) : add has c w = has.set c (has[c] + w) := by
  unfold add
  refine List.ext_getElem? fun i => ?_
  rw [List.getElem?_modify, List.getElem?_set]
  by_cases e : c = i
  · subst e; simp [hc]
  · rw [if_neg e]; simp [e]
theorem set_back {has : List Int} {c : Nat} (hc : c < has.length) (x : Int) : (has.set c x).set c has[c] = has := by
  rw [List.set_set, List.set_getElem_self]
theorem go_step {f : Nat → Int → Int} {has : List Int} {c : Nat} (hc : c < has.length) (b : Int) : Go.Sp.go f (has.drop c) c b = if has[c] = 0 then f c b else Go.Sp.go f (has.drop (c + 1)) (c + 1) (f c b) := by
  rw [List.drop_eq_getElem_cons hc]; rfl

/-- What is known of the search, called inside. -/
def PutF (work : List Int) (n H BH BB B0 BP wg wo wc : Nat) (wa : Option Addr) (W0 : World) (ws : List Int) : Prop :=
  ∀ (k : Nat) (has : List Int) (b : Int) (W : World), k ≤ work.length → work.drop k = ws → PB work n H BH BB B0 BP wg wo wc wa W0 W has b → (∀ x ∈ has, 0 ≤ x ∧ x ≤ k * 1073741824) →
    Calls Try.prog 22 #[.int .i64 k, .pointer (some ⟨BH, 0, none⟩), .pointer (some ⟨BB, 0, none⟩), .pointer (some ⟨B0, 0, none⟩), .pointer (some ⟨BP, 0, none⟩)] W fun e W' => e = .returned (.tuple #[]) ∧ PB work n H BH BB B0 BP wg wo wc wa W0 W' has (put ws has b)

set_option maxHeartbeats 8000000 in
set_option maxRecDepth 100000 in
theorem Try.put_nil {work : List Int} {n H BH BB B0 BP wg wo wc : Nat} {wa : Option Addr} {W0 : World} (S : PS work n H BH BB B0 BP wg wo wa) : PutF work n H BH BB B0 BP wg wo wc wa W0 [] := by
  intro k has b W hk hd h hb
  have mixed := Try.laysF20.mixed
  have hkl : k = work.length := by have := congrArg List.length hd; simp at this; omega
  have hmx := Try.max_s (c := n) (W := W) h.row (by rw [h.len]; have := S.n1; omega) (fun x hx => (hb x hx).1) (by rw [h.len]; have := S.n8; omega)
  rw [h.len] at hmx
  have HM : Aside (Calls Try.prog 12 #[.slice (some ⟨H, 0, none⟩) n n] W fun e w' => e = .returned (.int .i64 (mx has)) ∧ ∃ q, w' = W.drewN q) := hmx
  have hch := h.ch
  have hS : Aside (PB work n H BH BB B0 BP wg wo wc wa W0 W has b) := h
  have SS : Aside (PS work n H BH BB B0 BP wg wo wa) := S
  clear hmx hb hd h S
  obtain ⟨M, hM⟩ : ∃ M, M = mx has := ⟨_, rfl⟩
  rw [← hM] at HM
  have hMM : Aside (M = mx has) := hM
  clear hM
  go_enter Try.func22, Try.ntmps22
  go_wp2_with fail
  refine HM.out.mono ?_
  rintro e w' ⟨rfl, q, rfl⟩
  have S1 : Aside (PB work n H BH BB B0 BP wg wo wc wa W0 (W.drewN q) has b) := hS.out.drewN q
  clear hch hS HM
  generalize W.drewN q = W1 at S1 ⊢
  clear W q
  have hbest := S1.out.best
  have hbestf := S1.out.bestf
  have hcw := S1.out.cw
  by_cases hle : b ≤ M
  · have HLE : Aside (b ≤ M) := hle
    go_wp2_with fail
    refine bodyPost_ret (results_none rfl _ _ _) rfl ?_
    refine ⟨rfl, ?_⟩
    unfold put
    rw [← hMM.out, if_pos HLE.out]
    exact S1.out
  · have HLE : Aside (¬ b ≤ M) := hle
    have hle' : M < b := by omega
    have hkz : (k : Int) = (work.length : Int) := by omega
    have S2 : Aside _ := S1.out.setB SS.out M
    clear S1
    go_wp2_with fail
    refine bodyPost_ret (results_none rfl _ _ _) rfl ?_
    refine ⟨rfl, ?_⟩
    unfold put
    rw [← hMM.out, if_neg (by have := HLE.out; omega)]
    exact S2.out

set_option maxHeartbeats 8000000 in
set_option maxRecDepth 100000 in
theorem Try.put_cons {work : List Int} {n H BH BB B0 BP wg wo wc : Nat} {wa : Option Addr} {W0 : World} (S : PS work n H BH BB B0 BP wg wo wa) {p : Int} {ws : List Int} (ih : PutF work n H BH BB B0 BP wg wo wc wa W0 ws) : PutF work n H BH BB B0 BP wg wo wc wa W0 (p :: ws) := by
  intro k has b W hk hd h hb
  have mixed := Try.laysF20.mixed
  have hkl : k < work.length := by have := congrArg List.length hd; simp at this; omega
  have hp : work[k] = p := by
    have := congrArg (fun l => l[0]?) hd
    simp only [List.getElem?_drop, Nat.add_zero, List.getElem?_cons_zero] at this
    rw [List.getElem?_eq_getElem hkl] at this
    exact Option.some.inj this
  have hdr : work.drop (k + 1) = ws := by
    have := congrArg (fun l => l.drop 1) hd
    simpa [List.drop_drop, Nat.add_comm] using this
  have hpb := S.ws p (by rw [← hp]; exact List.getElem_mem hkl)
  have hwa := S.wa (by omega)
  subst hwa
  have hmx := Try.max_s (c := n) (W := W) h.row (by rw [h.len]; have := S.n1; omega) (fun x hx => (hb x hx).1) (by rw [h.len]; have := S.n8; omega)
  rw [h.len] at hmx
  have HM : Aside (Calls Try.prog 12 #[.slice (some ⟨H, 0, none⟩) n n] W fun e w' => e = .returned (.int .i64 (mx has)) ∧ ∃ q, w' = W.drewN q) := hmx
  have hch := h.ch
  have hlen := h.len
  have hS : Aside (PB work n H BH BB B0 BP wg wo wc (some ⟨wg, wo, none⟩) W0 W has b) := h
  have SS : Aside (PS work n H BH BB B0 BP wg wo (some ⟨wg, wo, none⟩)) := S
  have HB : Aside (∀ x ∈ has, 0 ≤ x ∧ x ≤ k * 1073741824) := hb
  have IH : Aside (PutF work n H BH BB B0 BP wg wo wc (some ⟨wg, wo, none⟩) W0 ws) := ih
  have HDR : Aside (work.drop (k + 1) = ws) := hdr
  have HP : Aside (work[k] = p) := hp
  have hk9 : k < 9 := by have := S.len; omega
  clear hmx hb hd h S ih hdr hp
  obtain ⟨M, hM⟩ : ∃ M, M = mx has := ⟨_, rfl⟩
  rw [← hM] at HM
  have hMM : Aside (M = mx has) := hM
  clear hM
  go_enter Try.func22, Try.ntmps22
  go_wp2_with fail
  refine HM.out.mono ?_
  rintro e w' ⟨rfl, q, rfl⟩
  have S1 : Aside (PB work n H BH BB B0 BP wg wo wc (some ⟨wg, wo, none⟩) W0 (W.drewN q) has b) := hS.out.drewN q
  clear hch hS HM
  generalize W.drewN q = W1 at S1 ⊢
  clear W q
  have hbest := S1.out.best
  have hcw := S1.out.cw
  by_cases hle : b ≤ M
  · have HLE : Aside (b ≤ M) := hle
    go_wp2_with fail
    refine bodyPost_ret (results_none rfl _ _ _) rfl ?_
    refine ⟨rfl, ?_⟩
    unfold put
    rw [← hMM.out, if_pos HLE.out]
    exact S1.out
  · have HLE : Aside (¬ b ≤ M) := hle
    have hle' : M < b := by omega
    have hkz : ¬ (k : Int) = (work.length : Int) := by omega
    have hch := S1.out.ch
    go_wp2_with fail
    clear hbest hcw hch hle' hkz
    have hn8 := SS.out.n8
    generalize ((k : Int) == (work.length : Int)) = bk
    go_loopg [20] n (fun g1 vc wr => ∃ (c : Nat) (b' : Int), vc = .int .i64 c ∧ c ≤ n ∧ n - c ≤ g1 ∧ Aside (PB work n H BH BB B0 BP wg wo wc (some ⟨wg, wo, none⟩) W0 wr has b') ∧ Hid (Go.Sp.go (fun c b => put ws (add has c p) b) (has.drop c) c b' = Go.Sp.go (fun c b => put ws (add has c p) b) has 0 b))
    case atStart => exact ⟨0, b, by go_num, by omega, by omega, S1, rfl⟩
    case round =>
      clear S1
      obtain ⟨c, b', rfl, hcn, hg1, S1, HO⟩ := hrel
      by_cases hlt : c < n
      · have hltz : (c : Int) < (n : Int) := by omega
        have hcl : c < has.length := by omega
        obtain ⟨x, hx⟩ : ∃ x, x = has[c] := ⟨_, rfl⟩
        have HX : Aside (x = has[c]) := hx
        have hxb := HB.out x (by rw [hx]; exact List.getElem_mem hcl)
        have hch := S1.out.ch
        have hcw := S1.out.cw
        have cc : wr.cell? ⟨H, c, none⟩ = some (.int .i64 x) := by rw [hx]; exact S1.out.row c hcl
        have cf := S1.out.rowf c hcl
        have cp_ : wr.cell? ⟨wg, wo + k, none⟩ = some (.int .i64 p) := by rw [← HP.out]; exact S1.out.work k hkl
        have ra : IntKind.i64.wrap (x + p) = x + p := by rw [IntKind.wrap_i64]; omega
        have hkz2 : (k : Int) < (work.length : Int) := by omega
        have S2 : Aside (PB work n H BH BB B0 BP wg wo wc (some ⟨wg, wo, none⟩) W0 ((wr.setCell ⟨H, c, none⟩ (.int .i64 (x + p))).drew) (has.set c (x + p)) b') := (S1.out.setH SS.out hcl (x + p)).drewN 1
        clear S1 hx
        go_wp2_with fail
        go_big_region_o
        clear hch hcw cc cf cp_
        generalize ((wr.setCell ⟨H, c, none⟩ (.int .i64 (x + p))).drew) = w2 at S2 ⊢
        have hcp := S2.out.cp
        go_wp2_with fail
        have key := IH.out (k + 1) (has.set c (x + p)) b' w2 (by omega) HDR.out S2.out (fun y hy => by
          rcases List.mem_or_eq_of_mem_set hy with h | h
          · have := HB.out y h
            push_cast
            omega
          · push_cast
            omega)
        rw [show ((k + 1 : Nat) : Int) = (k : Int) + 1 by omega] at key
        refine key.mono ?_
        rintro e w' ⟨rfl, S3⟩
        clear key hcp S2
        obtain ⟨b2, hb2⟩ : ∃ q, q = put ws (has.set c (x + p)) b' := ⟨_, rfl⟩
        rw [← hb2] at S3
        have HB2 : Aside (b2 = put ws (has.set c (x + p)) b') := hb2
        have S3 : Aside (PB work n H BH BB B0 BP wg wo wc (some ⟨wg, wo, none⟩) W0 w' (has.set c (x + p)) b2) := S3
        clear hb2
        have hch := S3.out.ch
        have hcw := S3.out.cw
        have cc : w'.cell? ⟨H, c, none⟩ = some (.int .i64 (x + p)) := by have := S3.out.row c (by rw [List.length_set]; exact hcl); rwa [List.getElem_set_self] at this
        have cf := S3.out.rowf c (by rw [List.length_set]; exact hcl)
        have cp_ : w'.cell? ⟨wg, wo + k, none⟩ = some (.int .i64 p) := by rw [← HP.out]; exact S3.out.work k hkl
        have ra2 : IntKind.i64.wrap (x + p - p) = x := by rw [IntKind.wrap_i64]; omega
        have ra3 : IntKind.i64.wrap x = x := by rw [IntKind.wrap_i64]; omega
        have S4 : Aside (PB work n H BH BB B0 BP wg wo wc (some ⟨wg, wo, none⟩) W0 ((w'.setCell ⟨H, c, none⟩ (.int .i64 x)).drew) has b2) := by
          have := (S3.out.setH SS.out (c := c) (by rw [List.length_set]; exact hcl) x).drewN 1
          have e : (has.set c (x + p)).set c x = has := by rw [HX.out]; exact set_back hcl _
          rw [e] at this
          exact this
        clear S3
        go_wp2_with fail
        go_big_region_o
        clear hch hcw cc cf cp_ ra ra2 ra3
        generalize ((w'.setCell ⟨H, c, none⟩ (.int .i64 x)).drew) = w3 at S4 ⊢
        have hch := S4.out.ch
        have cc : w3.cell? ⟨H, c, none⟩ = some (.int .i64 x) := by rw [HX.out]; exact S4.out.row c hcl
        have hgo := go_step (f := fun c b => put ws (add has c p) b) hcl b'
        rw [← HX.out] at hgo
        have hadd : add has c p = has.set c (x + p) := by rw [add_eq_set hcl, ← HX.out]
        simp only [hadd, ← HB2.out] at hgo
        have HGO : Aside (_ = _) := hgo
        clear hgo hadd
        by_cases hx0 : x = 0
        · have HX0 : Aside (x = 0) := hx0
          have hxb0 : (x == 0) = true := by rw [hx0]; rfl
          clear hx0
          go_wp2_with fail
          go_end0
          refine ⟨rfl, ?_⟩
          unfold put
          rw [← hMM.out, if_neg (by have := HLE.out; omega), ← HO.out, HGO.out, if_pos HX0.out]
          exact S4.out
        · have HX0 : Aside (¬ x = 0) := hx0
          have hxb0 : (x == 0) = false := by rw [beq_eq_false_iff_ne]; exact hx0
          go_wp2_with fail
          go_roundg (n - (c + 1))
          case measure => omega
          case rel => exact ⟨c + 1, b2, by go_num, by omega, by omega, S4, (show Hid _ from by
            show _ = _
            rw [← HO.out, HGO.out, if_neg HX0.out])⟩
      · have hltz : ¬ (c : Int) < (n : Int) := by omega
        go_wp2_with fail
        go_end0
        refine ⟨rfl, ?_⟩
        unfold put
        rw [← hMM.out, if_neg (by have := HLE.out; omega), ← HO.out, List.drop_eq_nil_of_le (by omega)]
        exact S1.out

theorem Try.put_s {work : List Int} {n H BH BB B0 BP wg wo wc : Nat} {wa : Option Addr} {W0 : World} (S : PS work n H BH BB B0 BP wg wo wa) : ∀ ws, PutF work n H BH BB B0 BP wg wo wc wa W0 ws
  | [] => Try.put_nil S
  | p :: ws => Try.put_cons S (Try.put_s S ws)
end Go.Proofs
