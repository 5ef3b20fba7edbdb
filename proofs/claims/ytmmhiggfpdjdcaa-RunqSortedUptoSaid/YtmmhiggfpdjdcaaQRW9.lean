/- The functions do as their models: printed by program. -/
import Derived.Test.YtmmhiggfpdjdcaaQRW8
set_option linter.unusedSimpArgs false
set_option linter.unusedVariables false
namespace Go.Proofs.Ytmmhiggfpdjdcaa
open Go Go.Ab
attribute [local irreducible] V VS runS Sk.Holds

set_option maxRecDepth 100000 in
set_option maxHeartbeats 2000000 in
theorem slices_Grow_int_nil_calls (n : Nat) (hb : n * 8 ≤ 140737488355328) (hb2 : n ≤ 140737488355328) (w : World) : Calls Try.prog 27 #[.slice none 0 0, .int .i64 n] w fun ex w' => GrowPost 3 1 w ex w' := by
  obtain ⟨_, info, hi, hi1, hi2, hz, _⟩ := tabOk 3 _ tab_3
  have hi1 : info.size = 1 := hi1
  have hi2 : info.bytes = 8 := hi2
  obtain ⟨z, hz, hzs⟩ : ∃ z, info.zero = some z ∧ z.cells.size = 1 := ⟨_, hz, by kernel_rfl⟩
  have h1 : ¬ ((n : Int) < 0) := by omega
  have h2 : Go.RowKit.wrap64 (0 - 0 : Int) = 0 := by unfold Go.RowKit.wrap64; omega
  have h3 : Go.RowKit.wrap64 ((n : Int) - 0) = (n : Int) := by unfold Go.RowKit.wrap64; omega
  by_cases h0 : n = 0
  · subst h0
    go_enter Try.func27, Try.ntmps27
    go_wp2
    all_goals first | (go_ret; exact .inl ⟨rfl, rfl⟩) | skip
  · have hn : 0 < n := by omega
    have h4 : ((n : Int) > 0) := by omega
    have hrun := fun ty => Go.Lib.run_append_nil_zeros (P := Try.prog) w 25 3 ty 3 info z .i64 .i64 Try.underlying25 Try.underlying3 hi hz n hn (by rw [hi1]; decide) (by omega) (by rw [hi2]; omega)
    have hGn : n ≤ grownCap w n 0 3 := grownCap_ge w _ _ _
    have hG63 := grownCap_le_maxLen w n 0 3 (by unfold maxLen; omega)
    obtain ⟨G, hG⟩ : ∃ G, G = grownCap w n 0 3 := ⟨_, rfl⟩
    rw [← hG] at hrun hGn hG63
    obtain ⟨cur, hcur⟩ : ∃ cur, cur = Builtin.zeroCells z.cells n ++ Builtin.zeroCells z.cells (G - n) := ⟨_, rfl⟩
    rw [← hcur] at hrun
    have hsz : cur.size = G * 1 := by rw [hcur, Array.size_append, size_zeroCells, size_zeroCells, hzs, ← Nat.add_mul]; congr 1; omega
    clear hcur hG hi hz
    go_enter Try.func27, Try.ntmps27
    go_wp2_with (at_builtin; refine Go.Lib.wpList_append_run _ rfl _ _ _ _ rfl _ _ rfl rfl _ _ (hrun _) ?_)
    all_goals (go_ret; exact .inr ⟨G, cur, rfl, rfl, hsz, hG63⟩)
theorem slices_Grow_int_nil_ok (a0 : Int) (r : List Int) (h : slices_Grow_int_nil a0 = some r) {al : Bool} : PCalls Try.prog 27 [.pv (.raw (.slice none 0 0)), .pv (.raw (.int .i64 a0))] al (.row 0 1 0 r.length) [.row 3 1 (E3.cR r)] := by
  unfold slices_Grow_int_nil at h
  obtain ⟨g, h⟩ := if_ h
  obtain rfl := some_ h
  obtain ⟨n, rfl⟩ : ∃ n : Nat, a0 = n := ⟨a0.toNat, by omega⟩
  exact grow_pcalls ⟨_, Try.func27, by kernel_rfl, by kernel_rfl⟩ (E := E3) (by decide) (slices_Grow_int_nil_calls n (by omega) (by omega))

set_option maxHeartbeats 40000000 in
set_option maxRecDepth 100000 in
theorem slices_Concat_int_ok (a0 : (List (List Int))) (r : (List Int)) (h : slices_Concat_int a0 = some r) {al : Bool} : PCalls Try.prog 17 [.pv ((E25.ro a0))] al (.row 0 1 0 r.length) [.row 3 1 (E3.cR r)] := by
  unfold slices_Concat_int at h
  refine fn_ok tabOk Try.func17 (by as_aux_lemma => kernel_rfl) (by as_aux_lemma => kernel_rfl) Try.ntmps17 (by simp) ?_
  refine segs [] tabOk mixed 4000 (S := .leaf 0) (by as_aux_lemma => kernel_rfl) ?_
  refine sk_leaf ?_
  refine len_ro (by as_aux_lemma => kernel_rfl) 0 (s := 1) (n := a0.length) (c := fun i j => E25.cf (a0.getD i E25.z) j) (by as_aux_lemma => kernel_rfl) ?_; intro hl1_0
  refine len_ro (by as_aux_lemma => kernel_rfl) 9 (s := 1) (n := a0.length) (c := fun i j => E25.cf (a0.getD i E25.z) j) (by as_aux_lemma => kernel_rfl) ?_; intro hl1_1
  replace h : (fun (x : Nat × Int × Nat) => slices_Concat_int_l1 a0 x.1 x.2.1 x.2.2 = some r) (FUEL, 0, 0) := h
  refine loop_ok (by as_aux_lemma => kernel_rfl) (X := Nat × Int × Nat) (fun x => slices_Concat_int_l1 a0 x.1 x.2.1 x.2.2 = some r) (fun x => x.1) (fun x => mk 36 [(0, .pv ((E25.ro a0))), (2, .pv (.raw (.slice none 0 0))), (3, .pv (.raw (.int .i64 x.2.1))), (9, .pv ((E25.ro a0))), (10, .pv (.raw (.int .i64 ((a0.length : Nat) : Int)))), (11, .pv (.raw (.int .i64 ((x.2.2 : Nat) : Int))))] []) (FUEL, 0, 0) h ?_ ?_
  · exact sub_ok (ρ := []) (l := [a0.length = a0.length, ∀ i, i < a0.length → ∀ j, j < 1 → E25.cf (a0.getD i E25.z) j = E25.cf (a0.getD i E25.z) j, (0 : Int) = 0, a0.length = a0.length, ∀ i, i < a0.length → ∀ j, j < 1 → E25.cf (a0.getD i E25.z) j = E25.cf (a0.getD i E25.z) j, (((a0.length : Nat) : Int) : Int) = ((a0.length : Nat) : Int), (0 : Int) = ((0 : Nat) : Int)]) (by as_aux_lemma => kernel_rfl) ⟨rfl, fun _ _ _ _ => rfl, rfl, rfl, fun _ _ _ _ => rfl, rfl, (by first | rfl | simp), trivial⟩
  · clear h; rintro ⟨n1, x1, k2⟩ h p1 hp1
    obtain _ | n1 := n1
    · cases (show (none : Option ((List Int))) = some r from h)
    have h : slices_Concat_int_l1 a0 (n1 + 1) x1 k2 = some r := h
    unfold slices_Concat_int_l1 at h
    refine segs [] tabOk mixed 4000 (S := .br (decide ((((k2 : Nat) : Int) : Int) < ((a0.length : Nat) : Int))) (.and (0 ≤ (((k2 : Nat) : Int) : Int) ∧ ((k2 : Nat) : Int) < ((a0.length : Nat) : Int)) (.br (decide (((IntKind.i64.wrap (x1 + (((a0.getD k2 []).length : Nat) : Int))) : Int) < 0)) (.bad) (.leaf 0))) (.leaf 1)) (by as_aux_lemma => kernel_rfl) ?_
    refine br_ h ?_ ?_ <;> clear h <;> intro c3 h
    · refine sk_and ⟨Int.natCast_nonneg _, of_decide_eq_true c3⟩ ?_
      refine br_ h ?_ ?_ <;> clear h <;> intro c5 h
      · cases h
      · refine sk_leaf ?_
        refine back_ok (p := p1) (by as_aux_lemma => kernel_rfl) (hp1 (n1, (IntKind.i64.wrap (x1 + (((a0.getD k2 []).length : Nat) : Int))), k2 + 1) _ h (Nat.lt_succ_self n1) ?_)
        exact sub_ok (ρ := []) (l := [a0.length = a0.length, ∀ i, i < a0.length → ∀ j, j < 1 → E25.cf (a0.getD i E25.z) j = E25.cf (a0.getD i E25.z) j, ((IntKind.i64.wrap (x1 + (((a0.getD k2 []).length : Nat) : Int))) : Int) = (IntKind.i64.wrap (x1 + (((a0.getD k2 []).length : Nat) : Int))), a0.length = a0.length, ∀ i, i < a0.length → ∀ j, j < 1 → E25.cf (a0.getD i E25.z) j = E25.cf (a0.getD i E25.z) j, (((a0.length : Nat) : Int) : Int) = ((a0.length : Nat) : Int), ((IntKind.i64.wrap (((k2 : Nat) : Int) + 1)) : Int) = (((k2 + 1) : Nat) : Int)]) (by as_aux_lemma => kernel_rfl) ⟨rfl, fun _ _ _ _ => rfl, rfl, rfl, fun _ _ _ _ => rfl, rfl, (wrap_nat (Int.ofNat_lt.1 (of_decide_eq_true c3)) (by omega)), trivial⟩
    · refine sk_leaf ?_
      obtain ⟨r6, e7, h⟩ := bd_ h
      refine call_ok (d := some 24) (fn := 27) (ax := [.pv (.raw (.slice none 0 0)), .pv (.raw (.int .i64 x1))]) (args := [.pv (.raw (.slice none 0 0)), .pv (.raw (.int .i64 x1))]) (ps := [(x1 : Int) = x1]) (hb' := [.row 3 1 (E3.cR r6)]) (by as_aux_lemma => kernel_rfl) (slices_Grow_int_nil_ok _ _ e7 (al := true)) (by as_aux_lemma => kernel_rfl) ⟨rfl, trivial⟩ (fun _ => (by as_aux_lemma => kernel_rfl)) (by simp) (by simp only [List.map_cons, List.map_nil, Elem.row_up, up_map] <;> rfl) (by as_aux_lemma => kernel_rfl) ?_
      refine segs [] tabOk mixed 4000 (S := .leaf 0) (by as_aux_lemma => kernel_rfl) ?_
      refine sk_leaf ?_
      refine len_ro (by as_aux_lemma => kernel_rfl) 25 (s := 1) (n := a0.length) (c := fun i j => E25.cf (a0.getD i E25.z) j) (by as_aux_lemma => kernel_rfl) ?_; intro hl2_0
      refine len_row (by as_aux_lemma => kernel_rfl) 17920 (e := 3) (s := 1) (n := r6.length) (cs := E3.cR r6) (by as_aux_lemma => kernel_rfl) (Elem.cR_length _ _) ?_; intro hl2_1
      replace h : (fun (x : Nat × List Int × Nat) => slices_Concat_int_l2 a0 r6 x.1 x.2.1 x.2.2 = some r) (FUEL, r6, 0) := h
      refine loop_ok (by as_aux_lemma => kernel_rfl) (X := Nat × List Int × Nat) (fun x => slices_Concat_int_l2 a0 r6 x.1 x.2.1 x.2.2 = some r) (fun x => x.1) (fun x => mk 36 [(2, .pv (.raw (.slice none 0 0))), (6, .row 0 1 0 x.2.1.length), (25, .pv ((E25.ro a0))), (26, .pv (.raw (.int .i64 ((a0.length : Nat) : Int)))), (27, .pv (.raw (.int .i64 ((x.2.2 : Nat) : Int))))] [(0, .row 3 1 (E3.cR x.2.1))]) (FUEL, r6, 0) h ?_ ?_
      · exact sub_ok (ρ := [(0, some 17920)]) (l := [0 = 0, r6.length = r6.length, a0.length = a0.length, ∀ i, i < a0.length → ∀ j, j < 1 → E25.cf (a0.getD i E25.z) j = E25.cf (a0.getD i E25.z) j, (((a0.length : Nat) : Int) : Int) = ((a0.length : Nat) : Int), (0 : Int) = ((0 : Nat) : Int), E3.cR r6 = E3.cR r6, AllPv (E3.cR r6)]) (by as_aux_lemma => kernel_rfl) ⟨rfl, rfl, rfl, fun _ _ _ _ => rfl, rfl, (by first | rfl | simp), rfl, (Elem.cR_pv _ _), trivial⟩
      · clear h; rintro ⟨n2, l8, k9⟩ h p2 hp2
        obtain _ | n2 := n2
        · cases (show (none : Option ((List Int))) = some r from h)
        have h : slices_Concat_int_l2 a0 r6 (n2 + 1) l8 k9 = some r := h
        unfold slices_Concat_int_l2 at h
        refine segs [] tabOk mixed 4000 (S := .br (decide ((((k9 : Nat) : Int) : Int) < ((a0.length : Nat) : Int))) (.and (0 ≤ (((k9 : Nat) : Int) : Int) ∧ ((k9 : Nat) : Int) < ((a0.length : Nat) : Int)) (.leaf 0)) (.leaf 1)) (by as_aux_lemma => kernel_rfl) ?_
        refine br_ h ?_ ?_ <;> clear h <;> intro c10 h
        · refine sk_and ⟨Int.natCast_nonneg _, of_decide_eq_true c10⟩ ?_
          refine sk_leaf ?_
          obtain ⟨g12, h⟩ := if_ h
          refine app_ok (d := 33) (e := 3) (s := 1) (b := 8) (x := .row 0 1 0 l8.length) (y := .pv ((E3.ro (a0.getD k9 [])))) E3 (xs := l8) (ys := (a0.getD k9 [])) (by as_aux_lemma => kernel_rfl) rfl (.row 0 l8 l8.length rfl (by as_aux_lemma => kernel_rfl)) (.ro (a0.getD k9 [])) g12 (by as_aux_lemma => kernel_rfl) ?_
          refine segs [] tabOk mixed 4000 (S := .leaf 0) (by as_aux_lemma => kernel_rfl) ?_
          refine sk_leaf ?_
          refine back_ok (p := p2) (by as_aux_lemma => kernel_rfl) (hp2 (n2, (l8 ++ (a0.getD k9 [])), k9 + 1) _ h (Nat.lt_succ_self n2) ?_)
          exact sub_ok (ρ := [(0, some 18496)]) (l := [0 = 0, ((l8 ++ (a0.getD k9 [])).length) = ((l8 ++ (a0.getD k9 [])).length), a0.length = a0.length, ∀ i, i < a0.length → ∀ j, j < 1 → E25.cf (a0.getD i E25.z) j = E25.cf (a0.getD i E25.z) j, (((a0.length : Nat) : Int) : Int) = ((a0.length : Nat) : Int), ((IntKind.i64.wrap (((k9 : Nat) : Int) + 1)) : Int) = (((k9 + 1) : Nat) : Int), E3.cR (l8 ++ (a0.getD k9 [])) = E3.cR (l8 ++ (a0.getD k9 [])), AllPv (E3.cR (l8 ++ (a0.getD k9 [])))]) (by as_aux_lemma => kernel_rfl) ⟨rfl, rfl, rfl, fun _ _ _ _ => rfl, rfl, (wrap_nat (Int.ofNat_lt.1 (of_decide_eq_true c10)) (by omega)), rfl, (Elem.cR_pv _ _), trivial⟩
        · refine sk_leaf ?_
          obtain rfl := some_ h
          exact end_ok [(0, some 0)] Try.results17 (ps := [0 = 0, l8.length = l8.length, E3.cR l8 = E3.cR l8, AllPv (E3.cR l8)]) (by as_aux_lemma => kernel_rfl) ⟨rfl, rfl, rfl, (Elem.cR_pv _ _), trivial⟩ (fun _ => ⟨rfl, by simp only [List.mem_cons, List.not_mem_nil, or_false, forall_eq_or_imp, forall_eq]; exact Elem.cR_bald E3_raw _⟩)

set_option maxHeartbeats 40000000 in
set_option maxRecDepth 100000 in
theorem keep_RunqSorted_ok (a0 : (List Api_RunOp)) (r : Bool) (h : keep_RunqSorted a0 = some r) {al : Bool} : PCalls Try.prog 5 [.pv ((E31.ro a0))] al (.pv (.raw (.bool r))) [] := by
  unfold keep_RunqSorted at h
  refine fn_ok tabOk Try.func5 (by as_aux_lemma => kernel_rfl) (by as_aux_lemma => kernel_rfl) Try.ntmps5 (by simp) ?_
  refine segs [] tabOk mixed 4000 (S := .leaf 0) (by as_aux_lemma => kernel_rfl) ?_
  refine sk_leaf ?_
  obtain ⟨r1, e2, h⟩ := bd_ h
  refine call_ok (d := some 10) (fn := 8) (ax := []) (args := []) (ps := []) (hb' := []) (by as_aux_lemma => kernel_rfl) (keep_alive13_ok  _ e2 (al := true)) (by as_aux_lemma => kernel_rfl) trivial (fun _ => (by as_aux_lemma => kernel_rfl)) (by simp) rfl (by as_aux_lemma => kernel_rfl) ?_
  refine segs [] tabOk mixed 4000 (S := .br (!r1) (.leaf 0) (.leaf 1)) (by as_aux_lemma => kernel_rfl) ?_
  refine br_ h ?_ ?_ <;> clear h <;> intro c3 h
  · refine sk_leaf ?_
    obtain rfl := some_ h
    exact end_ok [] Try.results5 (ps := [false = false]) (by as_aux_lemma => kernel_rfl) ⟨rfl, trivial⟩ (fun _ => ⟨rfl, by simp⟩)
  · refine sk_leaf ?_
    obtain ⟨r4, e5, h⟩ := bd_ h
    refine callF_ok (d := some 14) (fn := 9) (ax := [.pv ((E31.ro a0))]) (args := [.pv ((E31.ro a0))]) (ps := [a0.length = a0.length, ∀ i, i < a0.length → ∀ j, j < 3 → E31.cf (a0.getD i E31.z) j = E31.cf (a0.getD i E31.z) j]) (hb' := [.row 36 1 (E36.cR r4.1), .row 3 1 (E3.cR r4.2.1), .row 3 1 (E3.cR r4.2.2)]) (ps2 := [r4.1.length = r4.1.length, rowQ (E36.cR r4.1) 1 0 r4.1.length (fun i j => E36.cf (r4.1.getD i E36.z) j), r4.2.1.length = r4.2.1.length, rowQ (E3.cR r4.2.1) 1 0 r4.2.1.length (fun i j => E3.cf (r4.2.1.getD i E3.z) j), r4.2.2.length = r4.2.2.length, rowQ (E3.cR r4.2.2) 1 0 r4.2.2.length (fun i j => E3.cf (r4.2.2.getD i E3.z) j)]) (.tup [.pv ((E36.ro r4.1)), .pv ((E3.ro r4.2.1)), .pv ((E3.ro r4.2.2))]) (by as_aux_lemma => kernel_rfl) (runq_Play_ok _ _ e5 (al := true)) (by as_aux_lemma => kernel_rfl) ⟨rfl, fun _ _ _ _ => rfl, trivial⟩ (fun _ => (by as_aux_lemma => kernel_rfl)) (by simp) (by simp only [List.map_cons, List.map_nil, Elem.row_up, up_map] <;> rfl) (by as_aux_lemma => kernel_rfl) (by as_aux_lemma => kernel_rfl) ⟨(by first | rfl | exact Elem.sub_len _ (by omega) | omega | simp | (simp <;> omega)), E36.rowQ_all r4.1 rfl, (by first | rfl | exact Elem.sub_len _ (by omega) | omega | simp | (simp <;> omega)), E3.rowQ_all r4.2.1 rfl, (by first | rfl | exact Elem.sub_len _ (by omega) | omega | simp | (simp <;> omega)), E3.rowQ_all r4.2.2 rfl, trivial⟩ ?_
    refine segs [] tabOk mixed 4000 (S := .leaf 0) (by as_aux_lemma => kernel_rfl) ?_
    refine sk_leaf ?_
    obtain ⟨r6, e7, h⟩ := bd_ h
    refine call_ok (d := some 19) (fn := 11) (ax := [.pv ((E31.ro a0))]) (args := [.pv ((E31.ro a0))]) (ps := [a0.length = a0.length, ∀ i, i < a0.length → ∀ j, j < 3 → E31.cf (a0.getD i E31.z) j = E31.cf (a0.getD i E31.z) j]) (hb' := [.row 31 3 (E31.cR r6)]) (by as_aux_lemma => kernel_rfl) (slices_Clone_api_RunOp_ok _ _ e7 (al := true)) (by as_aux_lemma => kernel_rfl) ⟨rfl, fun _ _ _ _ => rfl, trivial⟩ (fun _ => (by as_aux_lemma => kernel_rfl)) (by simp) (by simp only [List.map_cons, List.map_nil, Elem.row_up, up_map] <;> rfl) (by as_aux_lemma => kernel_rfl) ?_
    refine segs [] tabOk mixed 4000 (S := .leaf 0) (by as_aux_lemma => kernel_rfl) ?_
    refine sk_leaf ?_
    refine len_ro (by as_aux_lemma => kernel_rfl) 4 (s := 1) (n := r4.2.1.length) (c := fun i j => E3.cf (r4.2.1.getD i E3.z) j) (by as_aux_lemma => kernel_rfl) ?_; intro hl1_0
    refine len_ro (by as_aux_lemma => kernel_rfl) 5 (s := 1) (n := r4.2.2.length) (c := fun i j => E3.cf (r4.2.2.getD i E3.z) j) (by as_aux_lemma => kernel_rfl) ?_; intro hl1_1
    refine len_row (by as_aux_lemma => kernel_rfl) 17600 (e := 31) (s := 3) (n := r6.length) (cs := E31.cR r6) (by as_aux_lemma => kernel_rfl) (Elem.cR_length _ _) ?_; intro hl1_2
    replace h : (fun (x : Nat × List Api_RunOp × Nat) => keep_RunqSorted_l1 r4 r6 x.1 x.2.1 x.2.2 = some r) (FUEL, r6, 0) := h
    refine loop_ok (by as_aux_lemma => kernel_rfl) (X := Nat × List Api_RunOp × Nat) (fun x => keep_RunqSorted_l1 r4 r6 x.1 x.2.1 x.2.2 = some r) (fun x => x.1) (fun x => mk 46 [(2, .pv (.raw (.bool false))), (4, .pv ((E3.ro r4.2.1))), (5, .pv ((E3.ro r4.2.2))), (6, .row 0 3 0 x.2.1.length), (21, .pv (.raw (.int .i64 ((r4.2.2.length : Nat) : Int)))), (22, .pv (.raw (.int .i64 ((x.2.2 : Nat) : Int))))] [(0, .row 31 3 (E31.cR x.2.1))]) (FUEL, r6, 0) h ?_ ?_
    · exact sub_ok (ρ := [(0, some 17600)]) (l := [false = false, r4.2.1.length = r4.2.1.length, ∀ i, i < r4.2.1.length → ∀ j, j < 1 → E3.cf (r4.2.1.getD i E3.z) j = E3.cf (r4.2.1.getD i E3.z) j, r4.2.2.length = r4.2.2.length, ∀ i, i < r4.2.2.length → ∀ j, j < 1 → E3.cf (r4.2.2.getD i E3.z) j = E3.cf (r4.2.2.getD i E3.z) j, 0 = 0, r6.length = r6.length, (((r4.2.2.length : Nat) : Int) : Int) = ((r4.2.2.length : Nat) : Int), (0 : Int) = ((0 : Nat) : Int), E31.cR r6 = E31.cR r6, AllPv (E31.cR r6)]) (by as_aux_lemma => kernel_rfl) ⟨rfl, rfl, fun _ _ _ _ => rfl, rfl, fun _ _ _ _ => rfl, rfl, rfl, rfl, (by first | rfl | simp), rfl, (Elem.cR_pv _ _), trivial⟩
    · clear h; rintro ⟨n1, l8, k9⟩ h p1 hp1
      obtain _ | n1 := n1
      · cases (show (none : Option (Bool)) = some r from h)
      have h : keep_RunqSorted_l1 r4 r6 (n1 + 1) l8 k9 = some r := h
      unfold keep_RunqSorted_l1 at h
      refine segs [] tabOk mixed 4000 (S := .br (decide ((((k9 : Nat) : Int) : Int) < ((r4.2.2.length : Nat) : Int))) (.leaf 0) (.leaf 1)) (by as_aux_lemma => kernel_rfl) ?_
      refine br_ h ?_ ?_ <;> clear h <;> intro c10 h
      · refine sk_leaf ?_
        refine bs_ok (d := 26) (e := 31) (s := 3) (n := 1) (cs := [.pv (.raw (.int .i64 3)), .pv (.raw (.int .i64 0)), .pv (.raw (.int .i64 0))]) (cs' := E31.cR [(⟨3, 0, 0⟩ : Api_RunOp)]) (by as_aux_lemma => kernel_rfl) rfl (by as_aux_lemma => kernel_rfl) ?_
        refine segs [] tabOk mixed 4000 (S := .leaf 0) (by as_aux_lemma => kernel_rfl) ?_
        refine sk_leaf ?_
        obtain ⟨g11, h⟩ := if_ h
        refine app_ok (d := 27) (e := 31) (s := 3) (b := 24) (x := .row 0 3 0 l8.length) (y := .row 18048 3 0 1) E31 (xs := l8) (ys := [(⟨3, 0, 0⟩ : Api_RunOp)]) (by as_aux_lemma => kernel_rfl) rfl (.row 0 l8 l8.length rfl (by as_aux_lemma => kernel_rfl)) (.all 18048 31 [(⟨3, 0, 0⟩ : Api_RunOp)] 1 rfl (by as_aux_lemma => kernel_rfl)) g11 (by as_aux_lemma => kernel_rfl) ?_
        refine segs [] tabOk mixed 4000 (S := .leaf 0) (by as_aux_lemma => kernel_rfl) ?_
        refine sk_leaf ?_
        refine back_ok (p := p1) (by as_aux_lemma => kernel_rfl) (hp1 (n1, (l8 ++ [(⟨3, 0, 0⟩ : Api_RunOp)]), k9 + 1) _ h (Nat.lt_succ_self n1) ?_)
        exact sub_ok (ρ := [(0, some 18112)]) (l := [false = false, r4.2.1.length = r4.2.1.length, ∀ i, i < r4.2.1.length → ∀ j, j < 1 → E3.cf (r4.2.1.getD i E3.z) j = E3.cf (r4.2.1.getD i E3.z) j, r4.2.2.length = r4.2.2.length, ∀ i, i < r4.2.2.length → ∀ j, j < 1 → E3.cf (r4.2.2.getD i E3.z) j = E3.cf (r4.2.2.getD i E3.z) j, 0 = 0, ((l8 ++ [(⟨3, 0, 0⟩ : Api_RunOp)]).length) = ((l8 ++ [(⟨3, 0, 0⟩ : Api_RunOp)]).length), (((r4.2.2.length : Nat) : Int) : Int) = ((r4.2.2.length : Nat) : Int), ((IntKind.i64.wrap (((k9 : Nat) : Int) + 1)) : Int) = (((k9 + 1) : Nat) : Int), E31.cR (l8 ++ [(⟨3, 0, 0⟩ : Api_RunOp)]) = E31.cR (l8 ++ [(⟨3, 0, 0⟩ : Api_RunOp)]), AllPv (E31.cR (l8 ++ [(⟨3, 0, 0⟩ : Api_RunOp)]))]) (by as_aux_lemma => kernel_rfl) ⟨rfl, rfl, fun _ _ _ _ => rfl, rfl, fun _ _ _ _ => rfl, rfl, rfl, rfl, (wrap_nat (Int.ofNat_lt.1 (of_decide_eq_true c10)) (by omega)), rfl, (Elem.cR_pv _ _), trivial⟩
      · refine sk_leaf ?_
        obtain ⟨r12, e13, h⟩ := bd_ h
        refine call_ok (d := some 31) (fn := 9) (ax := [.row 0 3 0 l8.length]) (args := [.pv ((E31.ro l8))]) (ps := [l8.length = l8.length, rowQ (E31.cR l8) 3 0 l8.length (fun i j => E31.cf (l8.getD i E31.z) j)]) (hb' := [.row 36 1 (E36.cR r12.1), .row 3 1 (E3.cR r12.2.1), .row 3 1 (E3.cR r12.2.2)]) (by as_aux_lemma => kernel_rfl) (runq_Play_ok _ _ e13 (al := false)) (by as_aux_lemma => kernel_rfl) ⟨(by first | rfl | exact Elem.sub_len _ (by omega) | omega | simp | (simp <;> omega)), E31.rowQ_all l8 rfl, trivial⟩ (fun hx => by cases hx) (by simp) (by simp only [List.map_cons, List.map_nil, Elem.row_up, up_map] <;> rfl) (by as_aux_lemma => kernel_rfl) ?_
        refine segs [] tabOk mixed 4000 (S := .leaf 0) (by as_aux_lemma => kernel_rfl) ?_
        refine sk_leaf ?_
        refine gsp_ h ?_ ?_ <;> clear h <;> intro c14 h
        · refine unG_ok (g := ((((r12.2.2.length : Nat) : Int) : Int) == 0)) (ws := [((((r12.2.2.length : Nat) : Int) : Int) == 0) = true, ((((r12.2.2.length : Nat) : Int) : Int) == 0) = true]) (by as_aux_lemma => kernel_rfl) (by as_aux_lemma => kernel_rfl) c14 ⟨((by decide : ∀ y0 : Bool, ((y0 = true) → (y0 = true))) ((((r12.2.2.length : Nat) : Int) : Int) == 0)) c14, ((by decide : ∀ y0 : Bool, ((y0 = true) → (y0 = true))) ((((r12.2.2.length : Nat) : Int) : Int) == 0)) c14, trivial⟩ ?_
          refine bs_ok (d := 42) (e := 25) (s := 1) (n := 2) (cs := [.pv ((E3.ro r4.2.1)), .pv ((E3.ro r4.2.2))]) (cs' := E25.cR [r4.2.1, r4.2.2]) (by as_aux_lemma => kernel_rfl) rfl (by as_aux_lemma => kernel_rfl) ?_
          refine gdw_ok (g := ((((r12.2.2.length : Nat) : Int) : Int) == 0)) (ws := [((((r12.2.2.length : Nat) : Int) : Int) == 0) = true, ((((r12.2.2.length : Nat) : Int) : Int) == 0) = true]) (by as_aux_lemma => kernel_rfl) ?_
          refine segs [] tabOk mixed 4000 (S := .leaf 0) (by as_aux_lemma => kernel_rfl) ?_
          refine sk_leaf ?_
          refine unG_ok (g := ((((r12.2.2.length : Nat) : Int) : Int) == 0)) (ws := [((((r12.2.2.length : Nat) : Int) : Int) == 0) = true]) (by as_aux_lemma => kernel_rfl) (by as_aux_lemma => kernel_rfl) c14 ⟨((by decide : ∀ y0 : Bool, ((y0 = true) → (y0 = true))) ((((r12.2.2.length : Nat) : Int) : Int) == 0)) c14, trivial⟩ ?_
          obtain ⟨r15, e16, h⟩ := bd_ h
          refine call_ok (d := some 43) (fn := 17) (ax := [.row 19072 1 0 2]) (args := [.pv ((E25.ro [r4.2.1, r4.2.2]))]) (ps := [2 = [r4.2.1, r4.2.2].length, rowQ (E25.cR [r4.2.1, r4.2.2]) 1 0 2 (fun i j => E25.cf ([r4.2.1, r4.2.2].getD i E25.z) j)]) (hb' := [.row 3 1 (E3.cR r15)]) (by as_aux_lemma => kernel_rfl) (slices_Concat_int_ok _ _ e16 (al := false)) (by as_aux_lemma => kernel_rfl) ⟨(by first | rfl | exact Elem.sub_len _ (by omega) | omega | simp | (simp <;> omega)), E25.rowQ_all [r4.2.1, r4.2.2] rfl, trivial⟩ (fun hx => by cases hx) (by simp) (by simp only [List.map_cons, List.map_nil, Elem.row_up, up_map] <;> rfl) (by as_aux_lemma => kernel_rfl) ?_
          refine gdw_ok (g := ((((r12.2.2.length : Nat) : Int) : Int) == 0)) (ws := [((((r12.2.2.length : Nat) : Int) : Int) == 0) = true]) (by as_aux_lemma => kernel_rfl) ?_
          refine segs [] tabOk mixed 4000 (S := .leaf 0) (by as_aux_lemma => kernel_rfl) ?_
          refine sk_leaf ?_
          refine unG_ok (g := ((((r12.2.2.length : Nat) : Int) : Int) == 0)) (ws := [((((r12.2.2.length : Nat) : Int) : Int) == 0) = true, ((((r12.2.2.length : Nat) : Int) : Int) == 0) = true]) (by as_aux_lemma => kernel_rfl) (by as_aux_lemma => kernel_rfl) c14 ⟨((by decide : ∀ y0 : Bool, ((y0 = true) → (y0 = true))) ((((r12.2.2.length : Nat) : Int) : Int) == 0)) c14, ((by decide : ∀ y0 : Bool, ((y0 = true) → (y0 = true))) ((((r12.2.2.length : Nat) : Int) : Int) == 0)) c14, trivial⟩ ?_
          obtain ⟨r17, e18, h⟩ := bd_ h
          refine call_ok (d := some 44) (fn := 12) (ax := [.row 18369 1 0 r12.2.1.length, .row 19136 1 0 r15.length]) (args := [.pv ((E3.ro r12.2.1)), .pv ((E3.ro r15))]) (ps := [r12.2.1.length = r12.2.1.length, rowQ (E3.cR r12.2.1) 1 0 r12.2.1.length (fun i j => E3.cf (r12.2.1.getD i E3.z) j), r15.length = r15.length, rowQ (E3.cR r15) 1 0 r15.length (fun i j => E3.cf (r15.getD i E3.z) j)]) (hb' := []) (by as_aux_lemma => kernel_rfl) (slices_Equal_int_ok _ _ _ e18 (al := false)) (by as_aux_lemma => kernel_rfl) ⟨(by first | rfl | exact Elem.sub_len _ (by omega) | omega | simp | (simp <;> omega)), E3.rowQ_all r12.2.1 rfl, (by first | rfl | exact Elem.sub_len _ (by omega) | omega | simp | (simp <;> omega)), E3.rowQ_all r15 rfl, trivial⟩ (fun hx => by cases hx) (by simp) rfl (by as_aux_lemma => kernel_rfl) ?_
          refine gdw_ok (g := ((((r12.2.2.length : Nat) : Int) : Int) == 0)) (ws := [((((r12.2.2.length : Nat) : Int) : Int) == 0) = true, ((((r12.2.2.length : Nat) : Int) : Int) == 0) = true]) (by as_aux_lemma => kernel_rfl) ?_
          refine segs [] tabOk mixed 4000 (S := .and (((((r12.2.2.length : Nat) : Int) : Int) == 0) = true → ((((r12.2.2.length : Nat) : Int) : Int) == 0) = true) (.leaf 0)) (by as_aux_lemma => kernel_rfl) ?_
          refine sk_and ((by decide : ∀ y0 : Bool, ((y0 = true) → (y0 = true))) ((((r12.2.2.length : Nat) : Int) : Int) == 0)) ?_
          refine sk_leaf ?_
          obtain rfl := some_ h
          exact end_ok [] Try.results5 (ps := [(((((r12.2.2.length : Nat) : Int) : Int) == 0) && r17) = (((((r12.2.2.length : Nat) : Int) : Int) == 0) && r17)]) (by as_aux_lemma => kernel_rfl) ⟨rfl, trivial⟩ (fun _ => ⟨rfl, by simp⟩)
        · refine skG_ok (g := ((((r12.2.2.length : Nat) : Int) : Int) == 0)) (ws := [((((r12.2.2.length : Nat) : Int) : Int) == 0) = true, ((((r12.2.2.length : Nat) : Int) : Int) == 0) = true]) (.pv (.raw (.slice none 0 0))) (by as_aux_lemma => kernel_rfl) c14 ?_
          refine segs [] tabOk mixed 4000 (S := .leaf 0) (by as_aux_lemma => kernel_rfl) ?_
          refine sk_leaf ?_
          refine skG_ok (g := ((((r12.2.2.length : Nat) : Int) : Int) == 0)) (ws := [((((r12.2.2.length : Nat) : Int) : Int) == 0) = true]) (.pv (.raw (.slice none 0 0))) (by as_aux_lemma => kernel_rfl) c14 ?_
          refine segs [] tabOk mixed 4000 (S := .leaf 0) (by as_aux_lemma => kernel_rfl) ?_
          refine sk_leaf ?_
          refine skG_ok (g := ((((r12.2.2.length : Nat) : Int) : Int) == 0)) (ws := [((((r12.2.2.length : Nat) : Int) : Int) == 0) = true, ((((r12.2.2.length : Nat) : Int) : Int) == 0) = true]) (.pv (.raw (.bool false))) (by as_aux_lemma => kernel_rfl) c14 ?_
          refine segs [] tabOk mixed 4000 (S := .and (((((r12.2.2.length : Nat) : Int) : Int) == 0) = true → ((((r12.2.2.length : Nat) : Int) : Int) == 0) = true) (.leaf 0)) (by as_aux_lemma => kernel_rfl) ?_
          refine sk_and ((by decide : ∀ y0 : Bool, ((y0 = true) → (y0 = true))) ((((r12.2.2.length : Nat) : Int) : Int) == 0)) ?_
          refine sk_leaf ?_
          obtain rfl := some_ h
          exact end_ok [] Try.results5 (ps := [(((((r12.2.2.length : Nat) : Int) : Int) == 0) && false) = (((((r12.2.2.length : Nat) : Int) : Int) == 0) && false)]) (by as_aux_lemma => kernel_rfl) ⟨rfl, trivial⟩ (fun _ => ⟨rfl, by simp⟩)

end Go.Proofs.Ytmmhiggfpdjdcaa
