/- Spread: Best walked, told as the models are. -/
import Derived.Test.YtnbjjhhgpcpbgaaSpY
import Derived.Test.YtnbjjhhgpcpbgaaSpV
import Derived.Test.YtnbjjhhgpcpbgaaQZSK
import Derived.Test.YtnbjjhhgpcpbgaaAbZ
set_option linter.unusedVariables false
set_option linter.unusedSectionVars false
set_option linter.unnecessarySimpa false
set_option linter.unusedSimpArgs false
namespace Go.Proofs
open Go.Shelf Go.RowKit Go.Lib Go.Sort Go.Sp Go.Ab Go.Proofs.Ytnbjjhhgpcpbgaa

theorem wrong_eq (ws : List Int) (m : Int) (hl : ws.length ≤ 140737488355328) : spread_Wrong ws m = some (if wrongS ws m = true then 2 else 0) := by
  unfold spread_Wrong wrongS
  have h := slices_ContainsFunc_int_spread_Wrong_1_eq (f := badW) (fun x => rfl) ws hl
  have e : decide ((((ws.length : Nat) : Int) : Int) > 400) = decide (400 < ws.length) := decide_eq_decide.2 (by omega)
  rw [h, e]
  cases decide (m < 1) <;> cases decide (m > 8) <;> cases decide (400 < ws.length) <;> cases ws.any badW <;> rfl

/-- Wrong, over the world. -/
theorem Try.wrong_w {work : List Int} {m : Int} {wa : Option Addr} {wc : Nat} {W : World} {R : Nat → Prop} (hR : ∀ k, R k → k < W.heap.size) (hrel : RelP R W (Pre.E3.ro work) (.slice wa work.length wc)) (hg : GOk Try.prog W) (hl : work.length ≤ 140737488355328) :
    Calls Try.prog 10 #[.slice wa work.length wc, .int .i64 m] W fun e w' => e = .returned (.int .i64 (if wrongS work m = true then 2 else 0)) ∧ Below W.heap.size W w' := by
  have key := (Pre.spread_Wrong_ok work m _ (wrong_eq work m hl) (al := true)).2 R W [.slice wa work.length wc, .int .i64 m] (by simp only [RelL, RelA, and_true]; exact ⟨hrel, rfl⟩) hR hg
  refine key.mono ?_
  rintro e w' ⟨v, ι', rfl, hb, _, hr, _⟩
  simp only [RelA] at hr
  refine ⟨?_, hb⟩
  have hr : v = _ := hr
  rw [hr]

noncomputable def Try.ti3 : TypeInfo := (Try.prog.info? 3).get (by kernel_rfl)
theorem Try.make_ints (n : Nat) (hn : n ≤ 8) (w : World) : (Instr.makeSlice 22 (.int .i64 n) (.int .i64 n)).run Try.prog w = .ok (.slice (some ⟨w.heap.size, 0, none⟩) n n) (w.alloc (.cells (madeCells #[.int .i64 0] n) 3)) := by
  have hi : Try.prog.info? 3 = some Try.ti3 := (Option.some_get _).symm
  have hz : Try.ti3.zero = some (.int .i64 0) := by kernel_rfl
  have hb : Try.ti3.bytes = 8 := by kernel_rfl
  have hs : Try.ti3.size = 1 := by kernel_rfl
  have := run_make (P := Try.prog) w 22 3 Try.ti3 (.int .i64 0) Try.underlying22 hi hz .i64 .i64 n n (by omega) (by omega) (by rw [hb]; omega) (by omega)
  rw [this, hs]
  simp [Value.cells]
theorem made_get {n i : Nat} (h : i < n) : (madeCells #[.int .i64 0] n)[i]? = some (.int .i64 0) := by
  unfold madeCells
  simp [h, Nat.mod_one]
theorem heap4 (w : World) (o1 o2 o3 o4 : Obj) : ((((w.alloc o1).alloc o2).alloc o3).alloc o4).heap[w.heap.size]? = some o1 ∧ ((((w.alloc o1).alloc o2).alloc o3).alloc o4).heap[w.heap.size + 1]? = some o2 ∧ ((((w.alloc o1).alloc o2).alloc o3).alloc o4).heap[w.heap.size + 1 + 1]? = some o3 ∧
    ((((w.alloc o1).alloc o2).alloc o3).alloc o4).heap[w.heap.size + 1 + 1 + 1]? = some o4 ∧ (∀ k, k < w.heap.size → ((((w.alloc o1).alloc o2).alloc o3).alloc o4).heap[k]? = w.heap[k]?) ∧ ((((w.alloc o1).alloc o2).alloc o3).alloc o4).heap.size = w.heap.size + 4 ∧
    ((((w.alloc o1).alloc o2).alloc o3).alloc o4).os = w.os ∧ ((((w.alloc o1).alloc o2).alloc o3).alloc o4).tape = w.tape ∧ ((((w.alloc o1).alloc o2).alloc o3).alloc o4).output = w.output := by
  have e : ((((w.alloc o1).alloc o2).alloc o3).alloc o4).heap = (((w.heap.push o1).push o2).push o3).push o4 := rfl
  rw [e]
  have k : ∀ i, ((((w.heap.push o1).push o2).push o3).push o4)[i]? = if i = w.heap.size + 1 + 1 + 1 then some o4 else if i = w.heap.size + 1 + 1 then some o3 else if i = w.heap.size + 1 then some o2 else if i = w.heap.size then some o1 else w.heap[i]? := by
    intro i
    simp only [Array.getElem?_push, Array.size_push]
  simp only [k]
  refine ⟨?_, ?_, ?_, ?_, fun j hj => ?_, by simp, rfl, rfl, rfl⟩
  · rw [if_neg (by omega), if_neg (by omega), if_neg (by omega), if_true]
  · rw [if_neg (by omega), if_neg (by omega), if_true]
  · rw [if_neg (by omega), if_true]
  · rw [if_true]
  · rw [if_neg (by omega), if_neg (by omega), if_neg (by omega), if_neg (by omega)]
set_option maxHeartbeats 8000000 in
set_option maxRecDepth 100000 in
theorem Try.best_w {work : List Int} {m : Int} {wa : Option Addr} {wc : Nat} {W : World} {R : Nat → Prop} (hR : ∀ k, R k → k < W.heap.size) (hrel : RelP R W (Pre.E3.ro work) (.slice wa work.length wc)) (hg : GOk Try.prog W) (hm : -9223372036854775808 ≤ m ∧ m ≤ 9223372036854775807) :
    Calls Try.prog 13 #[.slice wa work.length wc, .int .i64 m] W fun e w' => e = .returned (.tuple #[.int .i64 (bestF work m).1, .int .i64 (bestF work m).2]) ∧ Below W.heap.size W w' := by
  have hl : work.length ≤ 140737488355328 := by
    have : RelP R W (.ro 1 work.length _) _ := hrel
    simp only [RelP] at this
    obtain ⟨_, _, h, _, h2, _⟩ := this
    simp at h
    omega
  have mixed := Try.laysF20.mixed
  have hgk : ∀ W, GOk Try.prog W := fun W => gok_nil (by kernel_rfl)
  have hrelp : RelP R W (.ro 1 work.length (fun i _ => .raw (.int .i64 (work.getD i 0)))) (.slice wa work.length wc) := hrel
  have hb1 : Aside (Below W.heap.size W (W.alloc (Obj.cells #[Value.slice wa work.length wc] 22))) := ⟨rfl, rfl, rfl, by simp, fun k hk => Below.heap_alloc _ _ _ hk⟩
  have hw1 := Try.wrong_w (m := m) (W := W.alloc (Obj.cells #[Value.slice wa work.length wc] 22)) (R := R) (fun k hk => by have := hR k hk; simp; omega) (RelP.mono (fun _ h => h) (fun k hk => Below.heap_alloc _ _ _ (hR k hk)) _ _ hrel) (hgk _) hl
  have HW1 : Aside _ := hw1
  have HRP : Aside (RelP R W (.ro 1 work.length (fun i _ => .raw (.int .i64 (work.getD i 0)))) (.slice wa work.length wc)) := hrelp
  have HRR : Aside (∀ k, R k → k < W.heap.size) := hR
  obtain ⟨N, hN⟩ : ∃ N, N = W.heap.size := ⟨_, rfl⟩
  have HN : Aside (N = W.heap.size) := hN
  have hcell : Aside ((W.alloc (Obj.cells #[Value.slice wa work.length wc] 22)).cell? ⟨N, 0, none⟩ = some (.slice wa work.length wc)) := by rw [hN]; show _ = _; simp
  have hsz1 : (W.alloc (Obj.cells #[Value.slice wa work.length wc] 22)).heap.size = N + 1 := by rw [hN]; simp
  have HSZ1 : Aside _ := hsz1
  clear hrelp hw1 hrel hR hgk hsz1
  go_enter Try.func13, Try.ntmps13
  go_wp2_with fail
  clear hN
  refine (show Calls _ _ _ _ _ from HW1.out).mono ?_
  rintro e w2 ⟨rfl, hB⟩
  have HB2 : Aside (Below (N + 1) (W.alloc (Obj.cells #[Value.slice wa work.length wc] 22)) w2) := by rw [HSZ1.out] at hB; exact hB
  clear hB HW1
  have hc0 : w2.cell? ⟨N, 0, none⟩ = some (.slice wa work.length wc) := (HB2.out.cell (p := ⟨N, 0, none⟩) (by show N < N + 1; omega)).trans hcell.out
  have HBW : Aside (Below W.heap.size W w2) := hb1.out.trans (by rw [← HN.out]; exact HB2.out.mono (by omega))
  rw [← HN.out]
  cases hwr : wrongS work m with
  | true =>
    have e1 : bestF work m = (0, 2) := by unfold bestF; rw [if_pos hwr]
    have E1 : Aside (bestF work m = (0, 2)) := e1
    clear e1 hwr
    simp only [if_true]
    go_wp2_with fail
    refine bodyPost_ret (results_tmp2 rfl _ _ _) rfl ?_
    rw [E1.out]
    exact ⟨rfl, HBW.out⟩
  | false =>
    have HWR : Aside (wrongS work m = false) := hwr
    obtain ⟨hm1, hm2, _, hws⟩ := wrongS_ok hwr
    have HWS : Aside (∀ w ∈ work, 0 ≤ w ∧ w ≤ 1073741824) := hws
    clear hws hwr
    simp only [Bool.false_eq_true, if_false]
    by_cases h9 : 9 < work.length
    · have e1 : bestF work m = (0, 4) := by unfold bestF; rw [if_neg (by rw [HWR.out]; decide), if_pos h9]
      have E1 : Aside (bestF work m = (0, 4)) := e1
      have h9z : (9 : Int) < (work.length : Int) := by omega
      clear e1
      go_wp2_with fail
      refine bodyPost_ret (results_tmp2 rfl _ _ _) rfl ?_
      rw [E1.out]
      exact ⟨rfl, HBW.out⟩
    · have e1 : bestF work m = (best work m.toNat, 0) := by unfold bestF; rw [if_neg (by rw [HWR.out]; decide), if_neg h9]
      have E1 : Aside (bestF work m = (best work m.toNat, 0)) := e1
      have h9z : ¬ (9 : Int) < (work.length : Int) := by omega
      clear e1
      obtain ⟨n, rfl⟩ : ∃ n : Nat, m = n := ⟨m.toNat, by omega⟩
      go_wp2_with fail
      rw [Try.make_ints n (by omega) w2]
      simp only [Result.andThen, Oper.upon_value]
      go_wp2_with fail
      obtain ⟨g1, g2, g3, g4, g5, g6, g7, g8, g9⟩ := heap4 w2 (Obj.cells (madeCells #[Value.int IntKind.i64 0] n) 3) (Obj.cells #[Value.slice (some ⟨w2.heap.size, 0, none⟩) n n] 22) (Obj.cells #[Value.int IntKind.i64 4611686018427387904] 3) (Obj.cells #[Value.nilFunc] 42)
      obtain ⟨W5, hW5⟩ : ∃ q, q = ((((w2.alloc (Obj.cells (madeCells #[Value.int IntKind.i64 0] n) 3)).alloc (Obj.cells #[Value.slice (some ⟨w2.heap.size, 0, none⟩) n n] 22)).alloc (Obj.cells #[Value.int IntKind.i64 4611686018427387904] 3)).alloc (Obj.cells #[Value.nilFunc] 42)) := ⟨_, rfl⟩
      rw [← hW5] at g1 g2 g3 g4 g5 g6 g7 g8 g9 ⊢
      clear hW5
      obtain ⟨H, hH⟩ : ∃ H, H = w2.heap.size := ⟨_, rfl⟩
      rw [← hH] at g1 g2 g3 g4 g5 g6 ⊢
      have c4 : W5.cell? ⟨H + 1 + 1 + 1, 0, none⟩ = some .nilFunc := by unfold World.cell?; simp only [g4]; rfl
      have f4 : W5.frozen? ⟨H + 1 + 1 + 1, 0, none⟩ = false := by unfold World.frozen?; simp only [g4]; rfl
      rw [run_store _ _ _ _ _ (by rfl)]
      simp only [stored, c4, f4, Result.andThen, Oper.upon_skip]
      have HM1 : Aside (1 ≤ (n : Int) ∧ (n : Int) ≤ 8) := ⟨hm1, hm2⟩
      have hNH : N + 1 ≤ H := by rw [hH]; have := HB2.out.size; rw [HSZ1.out] at this; exact this
      have HNW : N = W.heap.size := HN.out
      obtain ⟨W6, hW6⟩ : ∃ q, q = W5.setCell ⟨H + 1 + 1 + 1, 0, none⟩ (.func (.func 22) #[] #[.pointer (some ⟨H + 1, 0, none⟩), .pointer (some ⟨H + 1 + 1, 0, none⟩), .pointer (some ⟨N, 0, none⟩), .pointer (some ⟨H + 1 + 1 + 1, 0, none⟩)]) := ⟨_, rfl⟩
      rw [← hW6]
      have k4 : W6.cell? ⟨H + 1 + 1 + 1, 0, none⟩ = some (.func (.func 22) #[] #[.pointer (some ⟨H + 1, 0, none⟩), .pointer (some ⟨H + 1 + 1, 0, none⟩), .pointer (some ⟨N, 0, none⟩), .pointer (some ⟨H + 1 + 1 + 1, 0, none⟩)]) := by rw [hW6]; exact World.cell?_setCell_same _ _ _ c4
      have h6 : ∀ k, k ≠ H + 1 + 1 + 1 → W6.heap[k]? = W5.heap[k]? := fun k hk => by rw [hW6]; exact Below.heap_setCell _ _ _ _ hk
      have s6 : W6.heap.size = W5.heap.size := by rw [hW6]; simp
      have o6 : W6.os = W5.os ∧ W6.tape = W5.tape ∧ W6.output = W5.output := by rw [hW6]; exact ⟨rfl, rfl, rfl⟩
      clear hW6 c4 f4
      have hwg : ∃ wg wo, (0 < work.length → wa = some ⟨wg, wo, none⟩) ∧ wg < N + 1 ∧ ∀ i (hi : i < work.length), W.cell? ⟨wg, wo + i, none⟩ = some (.int .i64 work[i]) := by
        have hrp := HRP.out
        simp only [RelP] at hrp
        obtain ⟨a, cap, e, _, _, hx⟩ := hrp
        by_cases h0 : 0 < work.length
        · obtain ⟨wg, wo, rfl, hRg, hcs⟩ := hx h0
          have e : wa = some ⟨wg, wo, none⟩ := by simp only [Value.slice.injEq] at e; exact e.1
          refine ⟨wg, wo, fun _ => e, by have := HRR.out wg hRg; omega, fun i hi => ?_⟩
          obtain ⟨x, hx1, _, hx2⟩ := hcs i hi 0 Nat.one_pos
          have hx2 : x = _ := hx2
          subst hx2
          rw [Nat.mul_one, Nat.add_zero] at hx1
          rw [hx1]
          simp [List.getD_eq_getElem?_getD, hi]
        · exact ⟨N, 0, fun h => absurd h h0, by omega, fun i hi => absurd hi (by omega)⟩
      obtain ⟨wg, wo, hwa, hwgl, hwc⟩ := hwg
      have S : PS work n H (H + 1) (H + 1 + 1) N (H + 1 + 1 + 1) wg wo wa :=
        ⟨by omega, by omega, by omega, HWS.out, hwa, by omega, by omega, by omega, by omega, by omega, by omega, by omega, by omega, by omega⟩
      have hold : ∀ k, k < H → W6.heap[k]? = w2.heap[k]? := fun k hk => (h6 k (by omega)).trans (g5 k hk)
      have hP : PB work n H (H + 1) (H + 1 + 1) N (H + 1 + 1 + 1) wg wo wc wa W6 W6 (List.replicate n 0) 4611686018427387904 := {
        os := rfl,
        tape := rfl,
        output := rfl,
        size := rfl,
        block := fun _ _ _ => rfl,
        len := by simp,
        row := fun i hi => by
          have hi : i < n := by simpa using hi
          have := (h6 H (by omega)).trans g1
          unfold World.cell?
          simp only [this, made_get hi, Nat.zero_le]
          simp,
        rowf := fun i hi => by
          have := (h6 H (by omega)).trans g1
          unfold World.frozen?
          simp only [this]
          rfl,
        best := by
          have := (h6 (H + 1 + 1) (by omega)).trans g3
          unfold World.cell?
          simp only [this]
          rfl,
        bestf := by
          have := (h6 (H + 1 + 1) (by omega)).trans g3
          unfold World.frozen?
          simp only [this]
          rfl,
        ch := by
          have := (h6 (H + 1) (by omega)).trans g2
          unfold World.cell?
          simp only [this]
          rfl,
        cw := (World.cell?_of_block (w := w2) (a := ⟨N, 0, none⟩) (hold N (by omega))).trans hc0,
        cp := k4,
        work := fun i hi => ((World.cell?_of_block (w := w2) (a := ⟨wg, wo + i, none⟩) (hold wg (by omega))).trans ((HBW.out.cell (p := ⟨wg, wo + i, none⟩) (World.block_lt_of_cell? W _ (hwc i hi))))).trans (hwc i hi) }
      have key := Try.put_s S work 0 (List.replicate n 0) 4611686018427387904 W6 (by omega) (by simp) hP (fun x hx => by rw [(List.mem_replicate.1 hx).2]; simp)
      rw [show ((0 : Nat) : Int) = 0 from rfl] at key
      have KEY : Aside (Calls _ _ _ _ _) := key
      have hBe : best work ((n : Int)).toNat = put work (List.replicate n 0) 4611686018427387904 := by rw [Int.toNat_natCast]; rfl
      have HBE : Aside _ := hBe
      have HH : Aside (H = w2.heap.size) := hH
      clear key hP S hBe hH HNW
      go_wp2_with fail
      refine (show Calls _ _ _ _ _ from KEY.out).mono ?_
      rintro e w7 ⟨rfl, P7⟩
      have hbest := P7.best
      have P8 : Aside (PB _ _ _ _ _ _ _ _ _ _ _ _ _ _ _) := P7
      clear P7 KEY
      go_wp2_with fail
      refine bodyPost_ret (results_tmp2 rfl _ _ _) rfl ?_
      rw [E1.out, ← HBE.out]
      refine ⟨rfl, ?_⟩
      have HNW := HN.out
      have hH := HH.out
      have P9 : PB _ _ _ _ _ _ _ _ _ _ _ _ _ _ _ := P8
      refine ⟨?_, ?_, ?_, ?_, fun k hk => ?_⟩
      · rw [P9.os, o6.1, g7]; exact HBW.out.os
      · rw [P9.tape, o6.2.1, g8]; exact HBW.out.tape
      · rw [P9.output, o6.2.2, g9]; exact HBW.out.output
      · rw [P9.size, s6, g6]; have := HBW.out.size; omega
      · rw [P9.block k (by omega) (by omega), hold k (by omega)]
        exact HBW.out.block k hk

theorem best_pcalls (hf : FnOk Try.prog 13) {E : Elem Int} (hs : E.s = 1) (hcf : ∀ x, E.cf x 0 = .raw (.int .i64 x)) {a0 : List Int} {a1 : Int} (g : a1 ≤ 9223372036854775807 ∧ -9223372036854775808 ≤ a1) {al : Bool} :
    PCalls Try.prog 13 [.pv (E.ro a0), .pv (.raw (.int .i64 a1))] al (.tup [.pv (.raw (.int .i64 (bestF a0 a1).1)), .pv (.raw (.int .i64 (bestF a0 a1).2))]) [] := by
  refine ⟨hf, fun R w vs hv hR hg => ?_⟩
  obtain ⟨u, u2, rfl⟩ : ∃ u u2, vs = [u, u2] := by
    match vs, hv with
    | [u, u2], _ => exact ⟨u, u2, rfl⟩
    | [], hv => simp [RelL] at hv
    | [_], hv => simp [RelL] at hv
    | _ :: _ :: _ :: _, hv => simp [RelL] at hv
  simp only [RelL, and_true, RelA] at hv
  obtain ⟨h1, h2⟩ := hv
  have h2 : u2 = _ := h2
  subst h2
  have h1 : RelP R w (.ro E.s a0.length (fun i j => E.cf (a0.getD i E.z) j)) u := h1
  rw [hs] at h1
  simp only [RelP] at h1
  obtain ⟨a, cap, rfl, hc, hn, hx⟩ := h1
  have hrel : RelP R w (Pre.E3.ro a0) (.slice a a0.length cap) := by
    show RelP R w (.ro 1 a0.length (fun i j => Pre.E3.cf (a0.getD i Pre.E3.z) j)) _
    simp only [RelP]
    refine ⟨a, cap, rfl, hc, hn, fun h => ?_⟩
    obtain ⟨gg, o, rfl, hRg, hcs⟩ := hx h
    refine ⟨gg, o, rfl, hRg, fun i hi j hj => ?_⟩
    obtain ⟨x, hx1, hx2, hx3⟩ := hcs i hi j hj
    obtain rfl : j = 0 := by omega
    refine ⟨x, hx1, hx2, ?_⟩
    rw [hcf] at hx3
    have hx3 : x = _ := hx3
    show x = _
    rw [hx3]
    have e : a0.getD i E.z = a0.getD i 0 := by simp [List.getD_eq_getElem?_getD, hi]
    rw [e]; rfl
  refine (Try.best_w hR hrel hg (by omega)).mono ?_
  rintro e w' ⟨rfl, hb⟩
  refine ⟨_, fun _ => none, rfl, hb, fun i b h => by simp at h, ?_, fun i b g c h => by simp at h, fun i j b b' g c c' h => by simp at h, fun i x h => by cases h⟩
  simp only [RelA]
  exact ⟨_, rfl, by simp only [RelL, and_true]; exact ⟨rfl, rfl⟩⟩
end Go.Proofs
