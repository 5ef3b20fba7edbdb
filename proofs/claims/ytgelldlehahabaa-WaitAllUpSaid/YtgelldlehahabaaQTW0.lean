/- The functions do as their models: printed by program. -/
import Derived.Test.YtgelldlehahabaaQTT
import Derived.Test.YtgelldlehahabaaQTM
import Derived.Test.YtgelldlehahabaaAbYh
set_option linter.unusedSimpArgs false
set_option linter.unusedVariables false
namespace Go.Proofs.Ytgelldlehahabaa
open Go Go.Ab
theorem mixed : Try.prog.follows .mixedOrders = true := by kernel_rfl
def E3 : Elem Int := { s := 1, cf := fun x j => match j with | _ => .raw (.int .i64 x), z := 0 }
theorem E3_raw : E3.Raw := by
  intro x j
  exact ⟨_, rfl⟩
def E4 : Elem Bool := { s := 1, cf := fun x j => match j with | _ => .raw (.bool x), z := false }
theorem E4_raw : E4.Raw := by
  intro x j
  exact ⟨_, rfl⟩
def E29 : Elem Int := { s := 1, cf := fun x j => match j with | _ => .raw (.int .i64 x), z := 0 }
theorem E29_raw : E29.Raw := by
  intro x j
  exact ⟨_, rfl⟩
def E65 : Elem Api_WaitOp := { s := 2, cf := fun x j => match j with | 0 => .raw (.int .i64 x.Kind) | _ => .raw (.int .i64 x.Thread), z := (⟨0, 0⟩ : Api_WaitOp) }
theorem E65_raw : E65.Raw := by
  intro x j
  match j with
  | 0 => exact ⟨_, rfl⟩
  | n + 1 => exact ⟨_, rfl⟩
attribute [local irreducible] V VS runS Sk.Holds

set_option maxHeartbeats 40000000 in
set_option maxRecDepth 100000 in
theorem slices_Index_int_ok (a0 : (List Int)) (a1 : Int) (r : Int) (h : slices_Index_int a0 a1 = some r) {al : Bool} : PCalls Try.prog 40 [.pv ((E3.ro a0)), .pv (.raw (.int .i64 a1))] al (.pv (.raw (.int .i64 r))) [] := by
  unfold slices_Index_int at h
  refine fn_ok tabOk Try.func40 (by as_aux_lemma => kernel_rfl) (by as_aux_lemma => kernel_rfl) Try.ntmps40 (by simp) ?_
  refine segs [] tabOk mixed 4000 (S := .leaf 0) (by as_aux_lemma => kernel_rfl) ?_
  refine sk_leaf ?_
  refine len_ro (by as_aux_lemma => kernel_rfl) 0 (s := 1) (n := a0.length) (c := fun i j => E3.cf (a0.getD i E3.z) j) (by as_aux_lemma => kernel_rfl) ?_; intro hl1_0
  replace h : (fun (x : Nat × Nat) => slices_Index_int_l1 a0 a1 x.1 x.2 = some r) (FUEL, 0) := h
  refine loop_ok (by as_aux_lemma => kernel_rfl) (X := Nat × Nat) (fun x => slices_Index_int_l1 a0 a1 x.1 x.2 = some r) (fun x => x.1) (fun x => mk 19 [(0, .pv ((E3.ro a0))), (1, .pv (.raw (.int .i64 a1))), (4, .pv (.raw (.int .i64 0))), (7, .pv (.raw (.int .i64 ((a0.length : Nat) : Int)))), (8, .pv (.raw (.int .i64 ((x.2 : Nat) : Int))))] []) (FUEL, 0) h ?_ ?_
  · exact sub_ok (ρ := []) (l := [a0.length = a0.length, ∀ i, i < a0.length → ∀ j, j < 1 → E3.cf (a0.getD i E3.z) j = E3.cf (a0.getD i E3.z) j, (a1 : Int) = a1, (0 : Int) = 0, (((a0.length : Nat) : Int) : Int) = ((a0.length : Nat) : Int), (0 : Int) = ((0 : Nat) : Int)]) (by as_aux_lemma => kernel_rfl) ⟨rfl, fun _ _ _ _ => rfl, rfl, rfl, rfl, (by first | rfl | simp), trivial⟩
  · clear h; rintro ⟨n1, k1⟩ h p1 hp1
    obtain _ | n1 := n1
    · cases (show (none : Option (Int)) = some r from h)
    have h : slices_Index_int_l1 a0 a1 (n1 + 1) k1 = some r := h
    unfold slices_Index_int_l1 at h
    refine segs [] tabOk mixed 4000 (S := .br (decide ((((k1 : Nat) : Int) : Int) < ((a0.length : Nat) : Int))) (.and (0 ≤ (((k1 : Nat) : Int) : Int) ∧ ((k1 : Nat) : Int) < ((a0.length : Nat) : Int)) (.br ((a1 : Int) == (a0.getD k1 0)) (.leaf 0) (.leaf 1))) (.leaf 2)) (by as_aux_lemma => kernel_rfl) ?_
    refine br_ h ?_ ?_ <;> clear h <;> intro c2 h
    · refine sk_and ⟨Int.natCast_nonneg _, of_decide_eq_true c2⟩ ?_
      refine br_ h ?_ ?_ <;> clear h <;> intro c4 h
      · refine sk_leaf ?_
        obtain rfl := some_ h
        exact end_ok [] Try.results40 (ps := [(((k1 : Nat) : Int) : Int) = ((k1 : Nat) : Int)]) (by as_aux_lemma => kernel_rfl) ⟨rfl, trivial⟩ (fun _ => ⟨rfl, by simp⟩)
      · refine sk_leaf ?_
        refine back_ok (p := p1) (by as_aux_lemma => kernel_rfl) (hp1 (n1, k1 + 1) _ h (Nat.lt_succ_self n1) ?_)
        exact sub_ok (ρ := []) (l := [a0.length = a0.length, ∀ i, i < a0.length → ∀ j, j < 1 → E3.cf (a0.getD i E3.z) j = E3.cf (a0.getD i E3.z) j, (a1 : Int) = a1, (0 : Int) = 0, (((a0.length : Nat) : Int) : Int) = ((a0.length : Nat) : Int), ((IntKind.i64.wrap (((k1 : Nat) : Int) + 1)) : Int) = (((k1 + 1) : Nat) : Int)]) (by as_aux_lemma => kernel_rfl) ⟨rfl, fun _ _ _ _ => rfl, rfl, rfl, rfl, (wrap_nat (Int.ofNat_lt.1 (of_decide_eq_true c2)) (by omega)), trivial⟩
    · refine sk_leaf ?_
      obtain rfl := some_ h
      exact end_ok [] Try.results40 (ps := [((-1) : Int) = (-1)]) (by as_aux_lemma => kernel_rfl) ⟨rfl, trivial⟩ (fun _ => ⟨rfl, by simp⟩)

set_option maxHeartbeats 40000000 in
set_option maxRecDepth 100000 in
theorem slices_Contains_int_ok (a0 : (List Int)) (a1 : Int) (r : Bool) (h : slices_Contains_int a0 a1 = some r) {al : Bool} : PCalls Try.prog 27 [.pv ((E3.ro a0)), .pv (.raw (.int .i64 a1))] al (.pv (.raw (.bool r))) [] := by
  unfold slices_Contains_int at h
  refine fn_ok tabOk Try.func27 (by as_aux_lemma => kernel_rfl) (by as_aux_lemma => kernel_rfl) Try.ntmps27 (by simp) ?_
  refine segs [] tabOk mixed 4000 (S := .leaf 0) (by as_aux_lemma => kernel_rfl) ?_
  refine sk_leaf ?_
  obtain ⟨r1, e2, h⟩ := bd_ h
  refine call_ok (d := some 7) (fn := 40) (ax := [.pv ((E3.ro a0)), .pv (.raw (.int .i64 a1))]) (args := [.pv ((E3.ro a0)), .pv (.raw (.int .i64 a1))]) (ps := [a0.length = a0.length, ∀ i, i < a0.length → ∀ j, j < 1 → E3.cf (a0.getD i E3.z) j = E3.cf (a0.getD i E3.z) j, (a1 : Int) = a1]) (hb' := []) (by as_aux_lemma => kernel_rfl) (slices_Index_int_ok _ _ _ e2 (al := true)) (by as_aux_lemma => kernel_rfl) ⟨rfl, fun _ _ _ _ => rfl, rfl, trivial⟩ (fun _ => (by as_aux_lemma => kernel_rfl)) (by simp) rfl (by as_aux_lemma => kernel_rfl) ?_
  refine segs [] tabOk mixed 4000 (S := .leaf 0) (by as_aux_lemma => kernel_rfl) ?_
  refine sk_leaf ?_
  obtain rfl := some_ h
  exact end_ok [] Try.results27 (ps := [(decide ((r1 : Int) ≥ 0)) = (decide ((r1 : Int) ≥ 0))]) (by as_aux_lemma => kernel_rfl) ⟨rfl, trivial⟩ (fun _ => ⟨rfl, by simp⟩)

set_option maxRecDepth 100000 in
theorem slices_Clone_int_ok (a0 r : List Int) (h : slices_Clone_int a0 = some r) {al : Bool} : PCalls Try.prog 38 [.pv (E3.ro a0)] al (.row 0 1 0 r.length) [.row 3 1 (E3.cR r)] := by
  unfold slices_Clone_int at h
  obtain ⟨g, h⟩ := if_ h
  obtain rfl := some_ h
  refine fn_ok tabOk Try.func38 (by as_aux_lemma => kernel_rfl) (by as_aux_lemma => kernel_rfl) Try.ntmps38 (by simp) ?_
  refine segs [1] tabOk mixed 4000 (S := .leaf 0) (by as_aux_lemma => kernel_rfl) ?_
  refine sk_leaf ?_
  refine nil_ok (d1 := 3) (d2 := 4) (s := 1) (n := a0.length) (c := fun i j => E3.cf (a0.getD i E3.z) j) tabOk (by as_aux_lemma => kernel_rfl) ?_
  intro b hb
  refine segs [] tabOk mixed 4000 (S := .br b (.leaf 0) (.leaf 1)) (by as_aux_lemma => kernel_rfl) ?_
  refine sk_br ?_ ?_ <;> intro hc <;> refine sk_leaf ?_
  · obtain rfl : a0 = [] := List.eq_nil_of_length_eq_zero (hb hc)
    exact end_ok [(0, none)] Try.results38 (ps := [0 = 0, 0 = 0, E3.cR [] = []]) (by as_aux_lemma => kernel_rfl) ⟨rfl, rfl, rfl, trivial⟩ (fun _ => ⟨rfl, by simp only [List.mem_cons, List.not_mem_nil, or_false, forall_eq]; exact Elem.cR_bald E3_raw _⟩)
  · refine bs_ok (d := 5) (e := 3) (s := 1) (n := 0) (cs := []) (cs' := E3.cR []) (by as_aux_lemma => kernel_rfl) rfl (by as_aux_lemma => kernel_rfl) ?_
    refine segs [] tabOk mixed 4000 (S := .leaf 0) (by as_aux_lemma => kernel_rfl) ?_
    refine sk_leaf ?_
    refine app_ok (d := 7) (e := 3) (s := 1) (b := 8) (x := .row 16464 1 0 0) (y := .pv (E3.ro a0)) E3 (xs := []) (ys := a0) (by as_aux_lemma => kernel_rfl) rfl (.row 16464 [] 0 rfl (by as_aux_lemma => kernel_rfl)) (.ro a0) ⟨by simpa using g, by simp; omega⟩ (by as_aux_lemma => kernel_rfl) ?_
    refine segs [] tabOk mixed 4000 (S := .leaf 0) (by as_aux_lemma => kernel_rfl) ?_
    refine sk_leaf ?_
    exact end_ok [(0, some 16496)] Try.results38 (ps := [0 = 0, a0.length = a0.length, E3.cR a0 = E3.cR a0, AllPv (E3.cR a0)]) (by as_aux_lemma => kernel_rfl) ⟨rfl, rfl, rfl, Elem.cR_pv _ _, trivial⟩ (fun _ => ⟨rfl, by simp only [List.mem_cons, List.not_mem_nil, or_false, forall_eq]; exact Elem.cR_bald E3_raw _⟩)

set_option maxHeartbeats 40000000 in
set_option maxRecDepth 100000 in
theorem wait_queue_leave_1_ok (a0 : Int) (a1 : Int) (r : Bool) (h : wait_queue_leave_1 a0 a1 = some r) {al : Bool} : PCalls Try.prog 51 [.pv (.raw (.int .i64 a0)), .roat 1 (fun j => E3.cf a1 j)] al (.pv (.raw (.bool r))) [] := by
  unfold wait_queue_leave_1 at h
  refine fn_ok tabOk Try.func51 (by as_aux_lemma => kernel_rfl) (by as_aux_lemma => kernel_rfl) Try.ntmps51 (by simp) ?_
  refine segs [] tabOk mixed 4000 (S := .leaf 0) (by as_aux_lemma => kernel_rfl) ?_
  refine sk_leaf ?_
  obtain rfl := some_ h
  exact end_ok [] Try.results51 (ps := [((a0 : Int) == a1) = ((a0 : Int) == a1)]) (by as_aux_lemma => kernel_rfl) ⟨rfl, trivial⟩ (fun _ => ⟨rfl, by simp⟩)

set_option maxHeartbeats 40000000 in
set_option maxRecDepth 100000 in
theorem slices_IndexFunc_int_wait_queue_leave_1_ok (a0 : (List Int)) (a1 : Int) (r : Int) (h : slices_IndexFunc_int_wait_queue_leave_1 a0 a1 = some r) {al : Bool} : PCalls Try.prog 48 [.pv ((E3.ro a0)), .fn 51 [.roat 1 (fun j => E3.cf a1 j)]] al (.pv (.raw (.int .i64 r))) [] := by
  unfold slices_IndexFunc_int_wait_queue_leave_1 at h
  refine fn_ok tabOk Try.func48 (by as_aux_lemma => kernel_rfl) (by as_aux_lemma => kernel_rfl) Try.ntmps48 (by simp) ?_
  refine segs [] tabOk mixed 4000 (S := .leaf 0) (by as_aux_lemma => kernel_rfl) ?_
  refine sk_leaf ?_
  refine len_ro (by as_aux_lemma => kernel_rfl) 0 (s := 1) (n := a0.length) (c := fun i j => E3.cf (a0.getD i E3.z) j) (by as_aux_lemma => kernel_rfl) ?_; intro hl1_0
  replace h : (fun (x : Nat × Nat) => slices_IndexFunc_int_wait_queue_leave_1_l1 a0 a1 x.1 x.2 = some r) (FUEL, 0) := h
  refine loop_ok (by as_aux_lemma => kernel_rfl) (X := Nat × Nat) (fun x => slices_IndexFunc_int_wait_queue_leave_1_l1 a0 a1 x.1 x.2 = some r) (fun x => x.1) (fun x => mk 19 [(0, .pv ((E3.ro a0))), (1, .fn 51 [.roat 1 (fun j => E3.cf a1 j)]), (4, .pv (.raw (.int .i64 0))), (7, .pv (.raw (.int .i64 ((a0.length : Nat) : Int)))), (8, .pv (.raw (.int .i64 ((x.2 : Nat) : Int))))] []) (FUEL, 0) h ?_ ?_
  · exact sub_ok (ρ := []) (l := [a0.length = a0.length, ∀ i, i < a0.length → ∀ j, j < 1 → E3.cf (a0.getD i E3.z) j = E3.cf (a0.getD i E3.z) j, (a1 : Int) = a1, (0 : Int) = 0, (((a0.length : Nat) : Int) : Int) = ((a0.length : Nat) : Int), (0 : Int) = ((0 : Nat) : Int)]) (by as_aux_lemma => kernel_rfl) ⟨rfl, fun _ _ _ _ => rfl, rfl, rfl, rfl, (by first | rfl | simp), trivial⟩
  · clear h; rintro ⟨n1, k1⟩ h p1 hp1
    obtain _ | n1 := n1
    · cases (show (none : Option (Int)) = some r from h)
    have h : slices_IndexFunc_int_wait_queue_leave_1_l1 a0 a1 (n1 + 1) k1 = some r := h
    unfold slices_IndexFunc_int_wait_queue_leave_1_l1 at h
    refine segs [] tabOk mixed 4000 (S := .br (decide ((((k1 : Nat) : Int) : Int) < ((a0.length : Nat) : Int))) (.and (0 ≤ (((k1 : Nat) : Int) : Int) ∧ ((k1 : Nat) : Int) < ((a0.length : Nat) : Int)) (.leaf 0)) (.leaf 1)) (by as_aux_lemma => kernel_rfl) ?_
    refine br_ h ?_ ?_ <;> clear h <;> intro c2 h
    · refine sk_and ⟨Int.natCast_nonneg _, of_decide_eq_true c2⟩ ?_
      refine sk_leaf ?_
      obtain ⟨r4, e5, h⟩ := bd_ h
      refine call_ok (d := some 16) (fn := 51) (ax := [.pv (.raw (.int .i64 (a0.getD k1 0))), .roat 1 (fun j => E3.cf a1 j)]) (args := [.pv (.raw (.int .i64 (a0.getD k1 0))), .roat 1 (fun j => E3.cf a1 j)]) (ps := [((a0.getD k1 0) : Int) = (a0.getD k1 0), (a1 : Int) = a1]) (hb' := []) (by as_aux_lemma => kernel_rfl) (wait_queue_leave_1_ok _ _ _ e5 (al := false)) (by as_aux_lemma => kernel_rfl) ⟨rfl, rfl, trivial⟩ (fun hx => by cases hx) (by simp) rfl (by as_aux_lemma => kernel_rfl) ?_
      refine segs [] tabOk mixed 4000 (S := .br r4 (.leaf 0) (.leaf 1)) (by as_aux_lemma => kernel_rfl) ?_
      refine br_ h ?_ ?_ <;> clear h <;> intro c6 h
      · refine sk_leaf ?_
        obtain rfl := some_ h
        exact end_ok [] Try.results48 (ps := [(((k1 : Nat) : Int) : Int) = ((k1 : Nat) : Int)]) (by as_aux_lemma => kernel_rfl) ⟨rfl, trivial⟩ (fun _ => ⟨rfl, by simp⟩)
      · refine sk_leaf ?_
        refine back_ok (p := p1) (by as_aux_lemma => kernel_rfl) (hp1 (n1, k1 + 1) _ h (Nat.lt_succ_self n1) ?_)
        exact sub_ok (ρ := []) (l := [a0.length = a0.length, ∀ i, i < a0.length → ∀ j, j < 1 → E3.cf (a0.getD i E3.z) j = E3.cf (a0.getD i E3.z) j, (a1 : Int) = a1, (0 : Int) = 0, (((a0.length : Nat) : Int) : Int) = ((a0.length : Nat) : Int), ((IntKind.i64.wrap (((k1 : Nat) : Int) + 1)) : Int) = (((k1 + 1) : Nat) : Int)]) (by as_aux_lemma => kernel_rfl) ⟨rfl, fun _ _ _ _ => rfl, rfl, rfl, rfl, (wrap_nat (Int.ofNat_lt.1 (of_decide_eq_true c2)) (by omega)), trivial⟩
    · refine sk_leaf ?_
      obtain rfl := some_ h
      exact end_ok [] Try.results48 (ps := [((-1) : Int) = (-1)]) (by as_aux_lemma => kernel_rfl) ⟨rfl, trivial⟩ (fun _ => ⟨rfl, by simp⟩)

set_option maxHeartbeats 40000000 in
set_option maxRecDepth 100000 in
theorem slices_DeleteFunc_int_wait_queue_leave_1_h0_ok (a0 : (List Int)) (a1 : Int) (r : (List Int)) (h : slices_DeleteFunc_int_wait_queue_leave_1_h0 a0 a1 = some r) {al : Bool} : MCalls Try.prog 37 [.row 0 1 0 a0.length, .fn 51 [.roat 1 (fun j => E3.cf a1 j)]] [.row 3 1 (E3.cR a0)] 0 al (.row 0 1 0 r.length) [.row 3 1 (E3.cR r)] := by
  unfold slices_DeleteFunc_int_wait_queue_leave_1_h0 at h
  refine fnM_ok tabOk (fz := []) Try.func37 (by as_aux_lemma => kernel_rfl) (by as_aux_lemma => kernel_rfl) Try.ntmps37 (by simp) (by simp) ?_
  refine segs [] tabOk mixed 4000 (S := .leaf 0) (by as_aux_lemma => kernel_rfl) ?_
  refine sk_leaf ?_
  obtain ⟨r1, e2, h⟩ := bd_ h
  refine call_ok (d := some 10) (fn := 48) (ax := [.row 0 1 0 a0.length, .fn 51 [.roat 1 (fun j => E3.cf a1 j)]]) (args := [.pv ((E3.ro a0)), .fn 51 [.roat 1 (fun j => E3.cf a1 j)]]) (ps := [a0.length = a0.length, rowQ (E3.cR a0) 1 0 a0.length (fun i j => E3.cf (a0.getD i E3.z) j), (a1 : Int) = a1]) (hb' := []) (by as_aux_lemma => kernel_rfl) (slices_IndexFunc_int_wait_queue_leave_1_ok _ _ _ e2 (al := false)) (by as_aux_lemma => kernel_rfl) ⟨(by first | rfl | exact Elem.sub_len _ (by omega) | omega | simp | (simp <;> omega)), E3.rowQ_all a0 rfl, rfl, trivial⟩ (fun hx => by cases hx) (by simp) rfl (by as_aux_lemma => kernel_rfl) ?_
  refine segs [] tabOk mixed 4000 (S := .br ((r1 : Int) == (-1)) (.leaf 0) (.leaf 1)) (by as_aux_lemma => kernel_rfl) ?_
  refine br_ h ?_ ?_ <;> clear h <;> intro c3 h
  · refine sk_leaf ?_
    obtain rfl := some_ h
    exact endM_ok [(0, some 0)] Try.results37 (ps := [0 = 0, a0.length = a0.length, E3.cR a0 = E3.cR a0, AllPv (E3.cR a0)]) (by as_aux_lemma => kernel_rfl) ⟨rfl, (by first | rfl | simp), rfl, (Elem.cR_pv _ _), trivial⟩ (fun _ => ⟨rfl, by simp only [List.mem_cons, List.not_mem_nil, or_false, forall_eq_or_imp, forall_eq]; exact Elem.cR_bald E3_raw _⟩)
  · refine sk_leaf ?_
    refine len_row (by as_aux_lemma => kernel_rfl) 0 (e := 3) (s := 1) (n := a0.length) (cs := E3.cR a0) (by as_aux_lemma => kernel_rfl) (Elem.cR_length _ _) ?_; intro hl1_0
    replace h : (fun (x : Nat × Int × Int × List Int) => slices_DeleteFunc_int_wait_queue_leave_1_h0_l1 a0 a1 r1 x.1 x.2.1 x.2.2.1 x.2.2.2 = some r) (FUEL, r1, (IntKind.i64.wrap (r1 + 1)), a0) := h
    refine loop_ok (by as_aux_lemma => kernel_rfl) (X := Nat × Int × Int × List Int) (fun x => slices_DeleteFunc_int_wait_queue_leave_1_h0_l1 a0 a1 r1 x.1 x.2.1 x.2.2.1 x.2.2.2 = some r) (fun x => x.1) (fun x => mk 42 [(0, .row 0 1 0 x.2.2.2.length), (1, .fn 51 [.roat 1 (fun j => E3.cf a1 j)]), (4, .pv (.raw (.slice none 0 0))), (5, .pv (.raw (.int .i64 x.2.1))), (6, .pv (.raw (.int .i64 x.2.2.1)))] [(0, .row 3 1 (E3.cR x.2.2.2))]) (FUEL, r1, (IntKind.i64.wrap (r1 + 1)), a0) h ?_ ?_
    · exact sub_ok (ρ := [(0, some 0)]) (l := [0 = 0, a0.length = a0.length, (a1 : Int) = a1, (r1 : Int) = r1, ((IntKind.i64.wrap (r1 + 1)) : Int) = (IntKind.i64.wrap (r1 + 1)), E3.cR a0 = E3.cR a0, AllPv (E3.cR a0)]) (by as_aux_lemma => kernel_rfl) ⟨rfl, rfl, rfl, rfl, rfl, rfl, (Elem.cR_pv _ _), trivial⟩
    · clear h; rintro ⟨n1, x4, x5, l6⟩ h p1 hp1
      obtain _ | n1 := n1
      · cases (show (none : Option ((List Int))) = some r from h)
      have h : slices_DeleteFunc_int_wait_queue_leave_1_h0_l1 a0 a1 r1 (n1 + 1) x4 x5 l6 = some r := h
      unfold slices_DeleteFunc_int_wait_queue_leave_1_h0_l1 at h
      refine segs [] tabOk mixed 4000 (S := .br (decide ((x5 : Int) < ((l6.length : Nat) : Int))) (.and (0 ≤ (x5 : Int) ∧ x5 < ((l6.length : Nat) : Int)) (.leaf 0)) (.and (0 ≤ (x4 : Int)) (.and ((Int.toNat x4) ≤ l6.length) (.leaf 1)))) (by as_aux_lemma => kernel_rfl) ?_
      refine br_ h ?_ ?_ <;> clear h <;> intro c7 h
      · refine gd_ h ?_; clear h; intro g8 h
        refine sk_leaf ?_
        refine ld_ok (d := 25) (id := 0) (i := (0 + (Int.toNat x5))) (j := 0) (e := 3) (n := 1) E3 (xs := l6) (by as_aux_lemma => kernel_rfl) (by as_aux_lemma => kernel_rfl) (by first | omega | (simp at * <;> omega) | (simp_all <;> omega)) (by exact Nat.le_of_ble_eq_true rfl) ?_
        refine segs [] tabOk mixed 4000 (S := .leaf 0) (by as_aux_lemma => kernel_rfl) ?_
        refine sk_leaf ?_
        obtain ⟨r9, e10, h⟩ := bd_ h
        refine call_ok (d := some 28) (fn := 51) (ax := [.pv (.raw (.int .i64 (l6.getD (0 + (Int.toNat x5)) 0))), .roat 1 (fun j => E3.cf a1 j)]) (args := [.pv (.raw (.int .i64 (l6.getD (0 + (Int.toNat x5)) 0))), .roat 1 (fun j => E3.cf a1 j)]) (ps := [((l6.getD (0 + (Int.toNat x5)) 0) : Int) = (l6.getD (0 + (Int.toNat x5)) 0), (a1 : Int) = a1]) (hb' := []) (by as_aux_lemma => kernel_rfl) (wait_queue_leave_1_ok _ _ _ e10 (al := false)) (by as_aux_lemma => kernel_rfl) ⟨rfl, rfl, trivial⟩ (fun hx => by cases hx) (by simp) rfl (by as_aux_lemma => kernel_rfl) ?_
        refine segs [] tabOk mixed 4000 (S := .br (!r9) (.and (0 ≤ (x4 : Int) ∧ x4 < ((l6.length : Nat) : Int)) (.leaf 0)) (.leaf 1)) (by as_aux_lemma => kernel_rfl) ?_
        refine br_ h ?_ ?_ <;> clear h <;> intro c11 h
        · refine gd_ h ?_; clear h; intro g12 h
          refine sk_leaf ?_
          refine st_ok (id := 0) (i := (0 + (Int.toNat x4))) (j := 0) (e := 3) (vs := [.pv (.raw (.int .i64 (l6.getD (0 + (Int.toNat x5)) 0)))]) E3 (xs := l6) (l6.getD (0 + (Int.toNat x5)) 0) (by as_aux_lemma => kernel_rfl) (by as_aux_lemma => kernel_rfl) (by first | omega | (simp at * <;> omega) | (simp_all <;> omega)) (by exact Nat.le_of_ble_eq_true rfl) rfl ?_
          refine segs [] tabOk mixed 4000 (S := .leaf 0) (by as_aux_lemma => kernel_rfl) ?_
          refine sk_leaf ?_
          refine back_ok (p := p1) (by as_aux_lemma => kernel_rfl) (hp1 (n1, (IntKind.i64.wrap (x4 + 1)), (IntKind.i64.wrap (x5 + 1)), (l6.set (0 + (Int.toNat x4)) (l6.getD (0 + (Int.toNat x5)) 0))) _ h (Nat.lt_succ_self n1) ?_)
          exact sub_ok (ρ := [(0, some 0)]) (l := [0 = 0, l6.length = ((l6.set (0 + (Int.toNat x4)) (l6.getD (0 + (Int.toNat x5)) 0)).length), (a1 : Int) = a1, ((IntKind.i64.wrap (x4 + 1)) : Int) = (IntKind.i64.wrap (x4 + 1)), ((IntKind.i64.wrap (x5 + 1)) : Int) = (IntKind.i64.wrap (x5 + 1)), E3.cR (l6.set (0 + (Int.toNat x4)) (l6.getD (0 + (Int.toNat x5)) 0)) = E3.cR (l6.set (0 + (Int.toNat x4)) (l6.getD (0 + (Int.toNat x5)) 0)), AllPv (E3.cR (l6.set (0 + (Int.toNat x4)) (l6.getD (0 + (Int.toNat x5)) 0)))]) (by as_aux_lemma => kernel_rfl) ⟨rfl, (by first | rfl | (simp; done) | omega | (simp <;> omega)), rfl, rfl, rfl, rfl, (Elem.cR_pv _ _), trivial⟩
        · refine sk_leaf ?_
          refine back_ok (p := p1) (by as_aux_lemma => kernel_rfl) (hp1 (n1, x4, (IntKind.i64.wrap (x5 + 1)), l6) _ h (Nat.lt_succ_self n1) ?_)
          exact sub_ok (ρ := [(0, some 0)]) (l := [0 = 0, l6.length = l6.length, (a1 : Int) = a1, (x4 : Int) = x4, ((IntKind.i64.wrap (x5 + 1)) : Int) = (IntKind.i64.wrap (x5 + 1)), E3.cR l6 = E3.cR l6, AllPv (E3.cR l6)]) (by as_aux_lemma => kernel_rfl) ⟨rfl, rfl, rfl, rfl, rfl, rfl, (Elem.cR_pv _ _), trivial⟩
      · refine gd_ h ?_; clear h; intro g13 h
        refine gd_ h ?_; clear h; intro g14 h
        refine sk_leaf ?_
        obtain ⟨g15, h⟩ := if_ h
        refine cl_ok (s := 1) (id := 0) (e := 3) (off := (0 + (Int.toNat x4))) (len := (l6.length - (Int.toNat x4))) E3 (xs := l6) (by as_aux_lemma => kernel_rfl) rfl rfl (by as_aux_lemma => kernel_rfl) g15 ?_
        refine segs [] tabOk mixed 4000 (S := .and (0 ≤ (x4 : Int)) (.and ((Int.toNat x4) ≤ l6.length) (.leaf 0))) (by as_aux_lemma => kernel_rfl) ?_
        refine gd_ h ?_; clear h; intro g16 h
        refine gd_ h ?_; clear h; intro g17 h
        refine sk_leaf ?_
        obtain rfl := some_ h
        exact endR_ok E3 (xs := (cpL l6 (0 + (Int.toNat x4)) (l6.length - (Int.toNat x4)) (List.replicate (l6.length - (Int.toNat x4)) (0 : Int)))) 0 (0 + 0) 17056 ((Int.toNat x4) - 0) 3 1 rfl (by as_aux_lemma => kernel_rfl) (by first | omega | (simp at * <;> omega) | (simp_all <;> omega)) (by as_aux_lemma => kernel_rfl) [(0, some 17056)] Try.results37 (ps := [0 = 0, ((Int.toNat x4) - 0) = (((cpL l6 (0 + (Int.toNat x4)) (l6.length - (Int.toNat x4)) (List.replicate (l6.length - (Int.toNat x4)) (0 : Int))).drop (0 + 0)).take ((Int.toNat x4) - 0)).length, E3.cR (((cpL l6 (0 + (Int.toNat x4)) (l6.length - (Int.toNat x4)) (List.replicate (l6.length - (Int.toNat x4)) (0 : Int))).drop (0 + 0)).take ((Int.toNat x4) - 0)) = E3.cR (((cpL l6 (0 + (Int.toNat x4)) (l6.length - (Int.toNat x4)) (List.replicate (l6.length - (Int.toNat x4)) (0 : Int))).drop (0 + 0)).take ((Int.toNat x4) - 0)), AllPv (E3.cR (((cpL l6 (0 + (Int.toNat x4)) (l6.length - (Int.toNat x4)) (List.replicate (l6.length - (Int.toNat x4)) (0 : Int))).drop (0 + 0)).take ((Int.toNat x4) - 0)))]) (by as_aux_lemma => kernel_rfl) ⟨rfl, (by first | omega | (simp; done) | (simp <;> omega) | (simp at * <;> omega)), rfl, (Elem.cR_pv _ _), trivial⟩ (fun _ => ⟨rfl, by simp only [List.mem_cons, List.not_mem_nil, or_false, forall_eq_or_imp, forall_eq]; exact Elem.cR_bald E3_raw _⟩)

set_option maxHeartbeats 40000000 in
set_option maxRecDepth 100000 in
theorem wait_queue_leave_ok (a0 : Wait_queue) (a1 : Int) (r : Wait_queue) (h : wait_queue_leave a0 a1 = some r) {al : Bool} : MCalls Try.prog 46 [.ptr 0 0, .pv (.raw (.int .i64 a1))] [.box [.pv (.raw (.int .i64 a0.things_)), .row 1 1 0 a0.line_.length, .map 2, .map 3, .row 4 1 0 a0.got_.length], .row 3 1 (E3.cR a0.line_), .map (mK a0.woken_) (E4.mX a0.woken_), .map (mK a0.sleeps_) (E4.mX a0.sleeps_), .row 3 1 (E3.cR a0.got_)] 1 al (.tup []) [.box [.pv (.raw (.int .i64 r.things_)), .row 1 1 0 r.line_.length, .map 2, .map 3, .row 4 1 0 r.got_.length], .row 3 1 (E3.cR r.line_), .map (mK r.woken_) (E4.mX r.woken_), .map (mK r.sleeps_) (E4.mX r.sleeps_), .row 3 1 (E3.cR r.got_)] := by
  unfold wait_queue_leave at h
  refine fnM_ok tabOk (fz := [37]) Try.func46 (by as_aux_lemma => kernel_rfl) (by as_aux_lemma => kernel_rfl) Try.ntmps46 (by simp) (by simp) ?_
  refine segs [] tabOk mixed 4000 (S := .leaf 0) (by as_aux_lemma => kernel_rfl) ?_
  refine sk_leaf ?_
  obtain ⟨r1, e2, h⟩ := bd_ h
  refine call_ok (d := some 9) (fn := 38) (ax := [.row 1 1 0 a0.line_.length]) (args := [.pv ((E3.ro a0.line_))]) (ps := [a0.line_.length = a0.line_.length, rowQ (E3.cR a0.line_) 1 0 a0.line_.length (fun i j => E3.cf (a0.line_.getD i E3.z) j)]) (hb' := [.row 3 1 (E3.cR r1)]) (by as_aux_lemma => kernel_rfl) (slices_Clone_int_ok _ _ e2 (al := false)) (by as_aux_lemma => kernel_rfl) ⟨(by first | rfl | exact Elem.sub_len _ (by omega) | omega | simp | (simp <;> omega)), E3.rowQ_all a0.line_ rfl, trivial⟩ (fun hx => by cases hx) (by simp) (by simp only [List.map_cons, List.map_nil, Elem.row_up, up_map] <;> rfl) (by as_aux_lemma => kernel_rfl) ?_
  refine segs [] tabOk mixed 4000 (S := .leaf 0) (by as_aux_lemma => kernel_rfl) ?_
  refine sk_leaf ?_
  obtain ⟨r3, e4, h⟩ := bd_ h
  refine mcall_ok (d := some 11) (fn := 37) (ax := [.row 16528 1 0 r1.length, .fn 51 [.ptr 16432 0]]) (hs := [(16560, .row 3 1 (E3.cR r3))]) (del := [16528]) (ps := [0 = 0, r1.length = r1.length, (a1 : Int) = a1, E3.cR r1 = E3.cR r1, AllPv (E3.cR r1)]) [(0, some 16528)] (by as_aux_lemma => kernel_rfl) (slices_DeleteFunc_int_wait_queue_leave_1_h0_ok _ _ _ e4 (al := false)) (by as_aux_lemma => kernel_rfl) ⟨rfl, rfl, rfl, rfl, (Elem.cR_pv _ _), trivial⟩ (by as_aux_lemma => kernel_rfl) (by simp only [mset_row, mset_box, mset_nil, mset_map, List.set_set]; kernel_rfl) (by as_aux_lemma => kernel_rfl) ?_
  refine segs [] tabOk mixed 4000 (S := .leaf 0) (by as_aux_lemma => kernel_rfl) ?_
  refine sk_leaf ?_
  refine md_ok (id := 2) (kv := a1) E4 (m := a0.woken_) (by as_aux_lemma => kernel_rfl) (by as_aux_lemma => kernel_rfl) ?_
  refine segs [] tabOk mixed 4000 (S := .leaf 0) (by as_aux_lemma => kernel_rfl) ?_
  refine sk_leaf ?_
  refine md_ok (id := 3) (kv := a1) E4 (m := a0.sleeps_) (by as_aux_lemma => kernel_rfl) (by as_aux_lemma => kernel_rfl) ?_
  refine segs [] tabOk mixed 4000 (S := .leaf 0) (by as_aux_lemma => kernel_rfl) ?_
  refine sk_leaf ?_
  obtain rfl := some_ h
  exact endM_ok [(0, some 0), (1, some 16560), (2, some 2), (3, some 3), (4, some 4)] Try.results46 (ps := [(a0.things_ : Int) = a0.things_, 0 = 0, r3.length = r3.length, 0 = 0, a0.got_.length = a0.got_.length, E3.cR r3 = E3.cR r3, AllPv (E3.cR r3), mK (mdelete a1 a0.woken_) = mK (mdelete a1 a0.woken_), E4.mX (mdelete a1 a0.woken_) = E4.mX (mdelete a1 a0.woken_), AllPv (E4.mX (mdelete a1 a0.woken_)), mK (mdelete a1 a0.sleeps_) = mK (mdelete a1 a0.sleeps_), E4.mX (mdelete a1 a0.sleeps_) = E4.mX (mdelete a1 a0.sleeps_), AllPv (E4.mX (mdelete a1 a0.sleeps_)), E3.cR a0.got_ = E3.cR a0.got_, AllPv (E3.cR a0.got_)]) (by as_aux_lemma => kernel_rfl) ⟨rfl, rfl, (by first | rfl | simp), rfl, (by first | rfl | simp), rfl, (Elem.cR_pv _ _), rfl, rfl, (Elem.mX_pv _ _), rfl, rfl, (Elem.mX_pv _ _), rfl, (Elem.cR_pv _ _), trivial⟩ (fun _ => ⟨rfl, by simp only [List.mem_cons, List.not_mem_nil, or_false, forall_eq_or_imp, forall_eq]; exact ⟨rfl, Elem.cR_bald E3_raw _, Elem.mX_bald E4_raw _, Elem.mX_bald E4_raw _, Elem.cR_bald E3_raw _⟩⟩)

set_option maxHeartbeats 40000000 in
set_option maxRecDepth 100000 in
theorem wait_queue_wake_ok (a0 : Wait_queue) (r : Bool × Wait_queue) (h : wait_queue_wake a0 = some r) {al : Bool} : MCalls Try.prog 47 [.ptr 0 0] [.box [.pv (.raw (.int .i64 a0.things_)), .row 1 1 0 a0.line_.length, .map 2, .map 3, .row 4 1 0 a0.got_.length], .row 3 1 (E3.cR a0.line_), .map (mK a0.woken_) (E4.mX a0.woken_), .map (mK a0.sleeps_) (E4.mX a0.sleeps_), .row 3 1 (E3.cR a0.got_)] 1 al (.pv (.raw (.bool r.1))) [.box [.pv (.raw (.int .i64 r.2.things_)), .row 1 1 0 r.2.line_.length, .map 2, .map 3, .row 4 1 0 r.2.got_.length], .row 3 1 (E3.cR r.2.line_), .map (mK r.2.woken_) (E4.mX r.2.woken_), .map (mK r.2.sleeps_) (E4.mX r.2.sleeps_), .row 3 1 (E3.cR r.2.got_)] := by
  unfold wait_queue_wake at h
  refine fnM_ok tabOk (fz := []) Try.func47 (by as_aux_lemma => kernel_rfl) (by as_aux_lemma => kernel_rfl) Try.ntmps47 (by simp) (by simp) ?_
  refine segs [] tabOk mixed 4000 (S := .leaf 0) (by as_aux_lemma => kernel_rfl) ?_
  refine sk_leaf ?_
  refine len_row (by as_aux_lemma => kernel_rfl) 1 (e := 3) (s := 1) (n := a0.line_.length) (cs := E3.cR a0.line_) (by as_aux_lemma => kernel_rfl) (Elem.cR_length _ _) ?_; intro hl1_0
  refine len_row (by as_aux_lemma => kernel_rfl) 4 (e := 3) (s := 1) (n := a0.got_.length) (cs := E3.cR a0.got_) (by as_aux_lemma => kernel_rfl) (Elem.cR_length _ _) ?_; intro hl1_1
  replace h : (fun (x : Nat × Nat) => wait_queue_wake_l1 a0 x.1 x.2 = some r) (FUEL, 0) := h
  refine loop_ok (by as_aux_lemma => kernel_rfl) (X := Nat × Nat) (fun x => wait_queue_wake_l1 a0 x.1 x.2 = some r) (fun x => x.1) (fun x => mk 32 [(0, .ptr 0 0), (2, .pv (.raw (.bool false))), (8, .row 1 1 0 a0.line_.length), (9, .pv (.raw (.int .i64 ((a0.line_.length : Nat) : Int)))), (10, .pv (.raw (.int .i64 ((x.2 : Nat) : Int))))] [(0, .box [.pv (.raw (.int .i64 a0.things_)), .row 1 1 0 a0.line_.length, .map 2, .map 3, .row 4 1 0 a0.got_.length]), (1, .row 3 1 (E3.cR a0.line_)), (2, .map (mK a0.woken_) (E4.mX a0.woken_)), (3, .map (mK a0.sleeps_) (E4.mX a0.sleeps_)), (4, .row 3 1 (E3.cR a0.got_))] [] 1) (FUEL, 0) h ?_ ?_
  · exact sub_ok (ρ := [(0, some 0), (1, some 1), (2, some 2), (3, some 3), (4, some 4)]) (l := [0 = 0, false = false, 0 = 0, a0.line_.length = a0.line_.length, (((a0.line_.length : Nat) : Int) : Int) = ((a0.line_.length : Nat) : Int), (0 : Int) = ((0 : Nat) : Int), (a0.things_ : Int) = a0.things_, 0 = 0, a0.line_.length = a0.line_.length, 0 = 0, a0.got_.length = a0.got_.length, E3.cR a0.line_ = E3.cR a0.line_, AllPv (E3.cR a0.line_), mK a0.woken_ = mK a0.woken_, E4.mX a0.woken_ = E4.mX a0.woken_, AllPv (E4.mX a0.woken_), mK a0.sleeps_ = mK a0.sleeps_, E4.mX a0.sleeps_ = E4.mX a0.sleeps_, AllPv (E4.mX a0.sleeps_), E3.cR a0.got_ = E3.cR a0.got_, AllPv (E3.cR a0.got_)]) (by as_aux_lemma => kernel_rfl) ⟨rfl, rfl, rfl, rfl, rfl, (by first | rfl | simp), rfl, rfl, rfl, rfl, rfl, rfl, (Elem.cR_pv _ _), rfl, rfl, (Elem.mX_pv _ _), rfl, rfl, (Elem.mX_pv _ _), rfl, (Elem.cR_pv _ _), trivial⟩
  · clear h; rintro ⟨n1, k1⟩ h p1 hp1
    obtain _ | n1 := n1
    · cases (show (none : Option (Bool × Wait_queue)) = some r from h)
    have h : wait_queue_wake_l1 a0 (n1 + 1) k1 = some r := h
    unfold wait_queue_wake_l1 at h
    refine segs [] tabOk mixed 4000 (S := .br (decide ((((k1 : Nat) : Int) : Int) < ((a0.line_.length : Nat) : Int))) (.and (0 ≤ (((k1 : Nat) : Int) : Int) ∧ ((k1 : Nat) : Int) < ((a0.line_.length : Nat) : Int)) (.leaf 0)) (.leaf 1)) (by as_aux_lemma => kernel_rfl) ?_
    refine br_ h ?_ ?_ <;> clear h <;> intro c2 h
    · refine sk_and ⟨Int.natCast_nonneg _, of_decide_eq_true c2⟩ ?_
      refine sk_leaf ?_
      refine ld_ok (d := 13) (id := 1) (i := (0 + k1)) (j := 0) (e := 3) (n := 1) E3 (xs := a0.line_) (by as_aux_lemma => kernel_rfl) (by as_aux_lemma => kernel_rfl) (by first | omega | (simp at * <;> omega) | (simp_all <;> omega)) (by exact Nat.le_of_ble_eq_true rfl) ?_
      refine segs [] tabOk mixed 4000 (S := .leaf 0) (by as_aux_lemma => kernel_rfl) ?_
      refine sk_leaf ?_
      refine lkm_ok (d := 19) (id := 2) (kv := (a0.line_.getD (0 + k1) 0)) (z := .pv (.raw (.bool false))) E4 (m := a0.woken_) (.pv (.raw (.bool ((mget (a0.line_.getD (0 + k1) 0) a0.woken_).getD false)))) (by as_aux_lemma => kernel_rfl) (by as_aux_lemma => kernel_rfl) rfl rfl ?_
      refine segs [] tabOk mixed 4000 (S := .br (!((mget (a0.line_.getD (0 + k1) 0) a0.woken_).getD false)) (.leaf 0) (.leaf 1)) (by as_aux_lemma => kernel_rfl) ?_
      refine br_ h ?_ ?_ <;> clear h <;> intro c4 h
      · refine sk_leaf ?_
        refine mu_ok (id := 2) (ik := .i64) (kk := .i64) (kv := (a0.line_.getD (0 + k1) 0)) (x := .pv (.raw (.bool true))) (ks := mK a0.woken_) (ks' := mK (mput (a0.line_.getD (0 + k1) 0) true a0.woken_)) (xs := E4.mX a0.woken_) (xs' := E4.mX (mput (a0.line_.getD (0 + k1) 0) true a0.woken_)) (by as_aux_lemma => kernel_rfl) (by as_aux_lemma => kernel_rfl) (mK_ok _ _) rfl (mapPut_m E4 (a0.line_.getD (0 + k1) 0) true a0.woken_) ?_
        refine segs [] tabOk mixed 4000 (S := .leaf 0) (by as_aux_lemma => kernel_rfl) ?_
        refine sk_leaf ?_
        refine md_ok (id := 3) (kv := (a0.line_.getD (0 + k1) 0)) E4 (m := a0.sleeps_) (by as_aux_lemma => kernel_rfl) (by as_aux_lemma => kernel_rfl) ?_
        refine segs [] tabOk mixed 4000 (S := .leaf 0) (by as_aux_lemma => kernel_rfl) ?_
        refine sk_leaf ?_
        obtain rfl := some_ h
        exact endM_ok [(0, some 0), (1, some 1), (2, some 2), (3, some 3), (4, some 4)] Try.results47 (ps := [true = true, (a0.things_ : Int) = a0.things_, 0 = 0, a0.line_.length = a0.line_.length, 0 = 0, a0.got_.length = a0.got_.length, E3.cR a0.line_ = E3.cR a0.line_, AllPv (E3.cR a0.line_), mK (mput (a0.line_.getD (0 + k1) 0) true a0.woken_) = mK (mput (a0.line_.getD (0 + k1) 0) true a0.woken_), E4.mX (mput (a0.line_.getD (0 + k1) 0) true a0.woken_) = E4.mX (mput (a0.line_.getD (0 + k1) 0) true a0.woken_), AllPv (E4.mX (mput (a0.line_.getD (0 + k1) 0) true a0.woken_)), mK (mdelete (a0.line_.getD (0 + k1) 0) a0.sleeps_) = mK (mdelete (a0.line_.getD (0 + k1) 0) a0.sleeps_), E4.mX (mdelete (a0.line_.getD (0 + k1) 0) a0.sleeps_) = E4.mX (mdelete (a0.line_.getD (0 + k1) 0) a0.sleeps_), AllPv (E4.mX (mdelete (a0.line_.getD (0 + k1) 0) a0.sleeps_)), E3.cR a0.got_ = E3.cR a0.got_, AllPv (E3.cR a0.got_)]) (by as_aux_lemma => kernel_rfl) ⟨rfl, rfl, rfl, (by first | rfl | simp), rfl, (by first | rfl | simp), rfl, (Elem.cR_pv _ _), rfl, rfl, (Elem.mX_pv _ _), rfl, rfl, (Elem.mX_pv _ _), rfl, (Elem.cR_pv _ _), trivial⟩ (fun _ => ⟨rfl, by simp only [List.mem_cons, List.not_mem_nil, or_false, forall_eq_or_imp, forall_eq]; exact ⟨rfl, Elem.cR_bald E3_raw _, Elem.mX_bald E4_raw _, Elem.mX_bald E4_raw _, Elem.cR_bald E3_raw _⟩⟩)
      · refine sk_leaf ?_
        refine back_ok (p := p1) (by as_aux_lemma => kernel_rfl) (hp1 (n1, k1 + 1) _ h (Nat.lt_succ_self n1) ?_)
        exact sub_ok (ρ := [(0, some 0), (1, some 1), (2, some 2), (3, some 3), (4, some 4)]) (l := [0 = 0, false = false, 0 = 0, a0.line_.length = a0.line_.length, (((a0.line_.length : Nat) : Int) : Int) = ((a0.line_.length : Nat) : Int), ((IntKind.i64.wrap (((k1 : Nat) : Int) + 1)) : Int) = (((k1 + 1) : Nat) : Int), (a0.things_ : Int) = a0.things_, 0 = 0, a0.line_.length = a0.line_.length, 0 = 0, a0.got_.length = a0.got_.length, E3.cR a0.line_ = E3.cR a0.line_, AllPv (E3.cR a0.line_), mK a0.woken_ = mK a0.woken_, E4.mX a0.woken_ = E4.mX a0.woken_, AllPv (E4.mX a0.woken_), mK a0.sleeps_ = mK a0.sleeps_, E4.mX a0.sleeps_ = E4.mX a0.sleeps_, AllPv (E4.mX a0.sleeps_), E3.cR a0.got_ = E3.cR a0.got_, AllPv (E3.cR a0.got_)]) (by as_aux_lemma => kernel_rfl) ⟨rfl, rfl, rfl, rfl, rfl, (wrap_nat (Int.ofNat_lt.1 (of_decide_eq_true c2)) (by omega)), rfl, rfl, rfl, rfl, rfl, rfl, (Elem.cR_pv _ _), rfl, rfl, (Elem.mX_pv _ _), rfl, rfl, (Elem.mX_pv _ _), rfl, (Elem.cR_pv _ _), trivial⟩
    · refine sk_leaf ?_
      obtain rfl := some_ h
      exact endM_ok [(0, some 0), (1, some 1), (2, some 2), (3, some 3), (4, some 4)] Try.results47 (ps := [false = false, (a0.things_ : Int) = a0.things_, 0 = 0, a0.line_.length = a0.line_.length, 0 = 0, a0.got_.length = a0.got_.length, E3.cR a0.line_ = E3.cR a0.line_, AllPv (E3.cR a0.line_), mK a0.woken_ = mK a0.woken_, E4.mX a0.woken_ = E4.mX a0.woken_, AllPv (E4.mX a0.woken_), mK a0.sleeps_ = mK a0.sleeps_, E4.mX a0.sleeps_ = E4.mX a0.sleeps_, AllPv (E4.mX a0.sleeps_), E3.cR a0.got_ = E3.cR a0.got_, AllPv (E3.cR a0.got_)]) (by as_aux_lemma => kernel_rfl) ⟨rfl, rfl, rfl, (by first | rfl | simp), rfl, (by first | rfl | simp), rfl, (Elem.cR_pv _ _), rfl, rfl, (Elem.mX_pv _ _), rfl, rfl, (Elem.mX_pv _ _), rfl, (Elem.cR_pv _ _), trivial⟩ (fun _ => ⟨rfl, by simp only [List.mem_cons, List.not_mem_nil, or_false, forall_eq_or_imp, forall_eq]; exact ⟨rfl, Elem.cR_bald E3_raw _, Elem.mX_bald E4_raw _, Elem.mX_bald E4_raw _, Elem.cR_bald E3_raw _⟩⟩)

set_option maxHeartbeats 40000000 in
set_option maxRecDepth 100000 in
theorem wait_queue_do_ok (a0 : Wait_queue) (a1 : Api_WaitOp) (r : Int × Wait_queue) (h : wait_queue_do a0 a1 = some r) {al : Bool} : MCalls Try.prog 36 [.ptr 0 0, .agg [.pv (.raw (.int .i64 a1.Kind)), .pv (.raw (.int .i64 a1.Thread))]] [.box [.pv (.raw (.int .i64 a0.things_)), .row 1 1 0 a0.line_.length, .map 2, .map 3, .row 4 1 0 a0.got_.length], .row 3 1 (E3.cR a0.line_), .map (mK a0.woken_) (E4.mX a0.woken_), .map (mK a0.sleeps_) (E4.mX a0.sleeps_), .row 3 1 (E3.cR a0.got_)] 1 al (.pv (.raw (.int .i64 r.1))) [.box [.pv (.raw (.int .i64 r.2.things_)), .row 1 1 0 r.2.line_.length, .map 2, .map 3, .row 4 1 0 r.2.got_.length], .row 3 1 (E3.cR r.2.line_), .map (mK r.2.woken_) (E4.mX r.2.woken_), .map (mK r.2.sleeps_) (E4.mX r.2.sleeps_), .row 3 1 (E3.cR r.2.got_)] := by
  unfold wait_queue_do at h
  refine fnM_ok tabOk (fz := [46, 47]) Try.func36 (by as_aux_lemma => kernel_rfl) (by as_aux_lemma => kernel_rfl) Try.ntmps36 (by simp) (by simp) ?_
  refine segs [] tabOk mixed 4000 (S := .and (((!(decide ((a1.Kind : Int) < 1))) = true → ((!(decide ((a1.Kind : Int) < 1))) = true))) (.and (((!(decide ((a1.Kind : Int) < 1))) = true → ((!(decide ((a1.Kind : Int) < 1))) = true))) (.and ((decide ((a1.Kind : Int) < 1)) = false → (!(decide ((a1.Kind : Int) < 1))) = true) (.br ((decide ((a1.Kind : Int) < 1)) || (decide ((a1.Kind : Int) > 5))) (.leaf 0) (.and (((!(decide ((a1.Thread : Int) < 0))) = true → ((!(decide ((a1.Thread : Int) < 0))) = true))) (.and (((!(decide ((a1.Thread : Int) < 0))) = true → ((!(decide ((a1.Thread : Int) < 0))) = true))) (.and ((decide ((a1.Thread : Int) < 0)) = false → (!(decide ((a1.Thread : Int) < 0))) = true) (.br ((decide ((a1.Thread : Int) < 0)) || (decide ((a1.Thread : Int) > 63))) (.leaf 1) (.leaf 2))))))))) (by as_aux_lemma => kernel_rfl) ?_
  refine sk_and ((by decide : ∀ y0 : Bool, ((y0 = true) → (y0 = true))) (!(decide ((a1.Kind : Int) < 1)))) ?_
  refine sk_and ((by decide : ∀ y0 : Bool, ((y0 = true) → (y0 = true))) (!(decide ((a1.Kind : Int) < 1)))) ?_
  refine sk_and ((by decide : ∀ y0 : Bool, ((y0 = false) → ((!y0) = true))) (decide ((a1.Kind : Int) < 1))) ?_
  refine br_ h ?_ ?_ <;> clear h <;> intro c4 h
  · refine sk_leaf ?_
    obtain rfl := some_ h
    exact endM_ok [(0, some 0), (1, some 1), (2, some 2), (3, some 3), (4, some 4)] Try.results36 (ps := [(5 : Int) = 5, (a0.things_ : Int) = a0.things_, 0 = 0, a0.line_.length = a0.line_.length, 0 = 0, a0.got_.length = a0.got_.length, E3.cR a0.line_ = E3.cR a0.line_, AllPv (E3.cR a0.line_), mK a0.woken_ = mK a0.woken_, E4.mX a0.woken_ = E4.mX a0.woken_, AllPv (E4.mX a0.woken_), mK a0.sleeps_ = mK a0.sleeps_, E4.mX a0.sleeps_ = E4.mX a0.sleeps_, AllPv (E4.mX a0.sleeps_), E3.cR a0.got_ = E3.cR a0.got_, AllPv (E3.cR a0.got_)]) (by as_aux_lemma => kernel_rfl) ⟨rfl, rfl, rfl, (by first | rfl | simp), rfl, (by first | rfl | simp), rfl, (Elem.cR_pv _ _), rfl, rfl, (Elem.mX_pv _ _), rfl, rfl, (Elem.mX_pv _ _), rfl, (Elem.cR_pv _ _), trivial⟩ (fun _ => ⟨rfl, by simp only [List.mem_cons, List.not_mem_nil, or_false, forall_eq_or_imp, forall_eq]; exact ⟨rfl, Elem.cR_bald E3_raw _, Elem.mX_bald E4_raw _, Elem.mX_bald E4_raw _, Elem.cR_bald E3_raw _⟩⟩)
  · refine sk_and ((by decide : ∀ y0 : Bool, ((y0 = true) → (y0 = true))) (!(decide ((a1.Thread : Int) < 0)))) ?_
    refine sk_and ((by decide : ∀ y0 : Bool, ((y0 = true) → (y0 = true))) (!(decide ((a1.Thread : Int) < 0)))) ?_
    refine sk_and ((by decide : ∀ y0 : Bool, ((y0 = false) → ((!y0) = true))) (decide ((a1.Thread : Int) < 0))) ?_
    refine br_ h ?_ ?_ <;> clear h <;> intro c8 h
    · refine sk_leaf ?_
      obtain rfl := some_ h
      exact endM_ok [(0, some 0), (1, some 1), (2, some 2), (3, some 3), (4, some 4)] Try.results36 (ps := [(2 : Int) = 2, (a0.things_ : Int) = a0.things_, 0 = 0, a0.line_.length = a0.line_.length, 0 = 0, a0.got_.length = a0.got_.length, E3.cR a0.line_ = E3.cR a0.line_, AllPv (E3.cR a0.line_), mK a0.woken_ = mK a0.woken_, E4.mX a0.woken_ = E4.mX a0.woken_, AllPv (E4.mX a0.woken_), mK a0.sleeps_ = mK a0.sleeps_, E4.mX a0.sleeps_ = E4.mX a0.sleeps_, AllPv (E4.mX a0.sleeps_), E3.cR a0.got_ = E3.cR a0.got_, AllPv (E3.cR a0.got_)]) (by as_aux_lemma => kernel_rfl) ⟨rfl, rfl, rfl, (by first | rfl | simp), rfl, (by first | rfl | simp), rfl, (Elem.cR_pv _ _), rfl, rfl, (Elem.mX_pv _ _), rfl, rfl, (Elem.mX_pv _ _), rfl, (Elem.cR_pv _ _), trivial⟩ (fun _ => ⟨rfl, by simp only [List.mem_cons, List.not_mem_nil, or_false, forall_eq_or_imp, forall_eq]; exact ⟨rfl, Elem.cR_bald E3_raw _, Elem.mX_bald E4_raw _, Elem.mX_bald E4_raw _, Elem.cR_bald E3_raw _⟩⟩)
    · refine sk_leaf ?_
      obtain ⟨r9, e10, h⟩ := bd_ h
      refine call_ok (d := some 30) (fn := 27) (ax := [.row 1 1 0 a0.line_.length, .pv (.raw (.int .i64 a1.Thread))]) (args := [.pv ((E3.ro a0.line_)), .pv (.raw (.int .i64 a1.Thread))]) (ps := [a0.line_.length = a0.line_.length, rowQ (E3.cR a0.line_) 1 0 a0.line_.length (fun i j => E3.cf (a0.line_.getD i E3.z) j), (a1.Thread : Int) = a1.Thread]) (hb' := []) (by as_aux_lemma => kernel_rfl) (slices_Contains_int_ok _ _ _ e10 (al := false)) (by as_aux_lemma => kernel_rfl) ⟨(by first | rfl | exact Elem.sub_len _ (by omega) | omega | simp | (simp <;> omega)), E3.rowQ_all a0.line_ rfl, rfl, trivial⟩ (fun hx => by cases hx) (by simp) rfl (by as_aux_lemma => kernel_rfl) ?_
      refine segs [] tabOk mixed 4000 (S := .br ((a1.Kind : Int) == 1) (.leaf 0) (.br ((a1.Kind : Int) == 2) (.leaf 1) (.br ((a1.Kind : Int) == 3) (.leaf 2) (.br ((a1.Kind : Int) == 4) (.br ((a0.things_ : Int) == 400) (.leaf 3) (.leaf 4)) (.br ((a1.Kind : Int) == 5) (.leaf 5) (.leaf 6)))))) (by as_aux_lemma => kernel_rfl) ?_
      refine br_ h ?_ ?_ <;> clear h <;> intro c11 h
      · refine sk_leaf ?_
        refine lkm_ok (d := 42) (id := 3) (kv := a1.Thread) (z := .pv (.raw (.bool false))) E4 (m := a0.sleeps_) (.pv (.raw (.bool ((mget a1.Thread a0.sleeps_).getD false)))) (by as_aux_lemma => kernel_rfl) (by as_aux_lemma => kernel_rfl) rfl rfl ?_
        refine segs [] tabOk mixed 4000 (S := .br ((mget a1.Thread a0.sleeps_).getD false) (.leaf 0) (.br (!r9) (.leaf 1) (.leaf 2))) (by as_aux_lemma => kernel_rfl) ?_
        refine br_ h ?_ ?_ <;> clear h <;> intro c12 h
        · refine sk_leaf ?_
          obtain rfl := some_ h
          exact endM_ok [(0, some 0), (1, some 1), (2, some 2), (3, some 3), (4, some 4)] Try.results36 (ps := [(7 : Int) = 7, (a0.things_ : Int) = a0.things_, 0 = 0, a0.line_.length = a0.line_.length, 0 = 0, a0.got_.length = a0.got_.length, E3.cR a0.line_ = E3.cR a0.line_, AllPv (E3.cR a0.line_), mK a0.woken_ = mK a0.woken_, E4.mX a0.woken_ = E4.mX a0.woken_, AllPv (E4.mX a0.woken_), mK a0.sleeps_ = mK a0.sleeps_, E4.mX a0.sleeps_ = E4.mX a0.sleeps_, AllPv (E4.mX a0.sleeps_), E3.cR a0.got_ = E3.cR a0.got_, AllPv (E3.cR a0.got_)]) (by as_aux_lemma => kernel_rfl) ⟨rfl, rfl, rfl, (by first | rfl | simp), rfl, (by first | rfl | simp), rfl, (Elem.cR_pv _ _), rfl, rfl, (Elem.mX_pv _ _), rfl, rfl, (Elem.mX_pv _ _), rfl, (Elem.cR_pv _ _), trivial⟩ (fun _ => ⟨rfl, by simp only [List.mem_cons, List.not_mem_nil, or_false, forall_eq_or_imp, forall_eq]; exact ⟨rfl, Elem.cR_bald E3_raw _, Elem.mX_bald E4_raw _, Elem.mX_bald E4_raw _, Elem.cR_bald E3_raw _⟩⟩)
        · refine br_ h ?_ ?_ <;> clear h <;> intro c13 h
          · refine sk_leaf ?_
            refine bs_ok (d := 53) (e := 3) (s := 1) (n := 1) (cs := [.pv (.raw (.int .i64 a1.Thread))]) (cs' := E3.cR [a1.Thread]) (by as_aux_lemma => kernel_rfl) rfl (by as_aux_lemma => kernel_rfl) ?_
            refine segs [] tabOk mixed 4000 (S := .leaf 0) (by as_aux_lemma => kernel_rfl) ?_
            refine sk_leaf ?_
            obtain ⟨g14, h⟩ := if_ h
            refine app_ok (d := 54) (e := 3) (s := 1) (b := 8) (x := .row 1 1 0 a0.line_.length) (y := .row 17232 1 0 1) E3 (xs := a0.line_) (ys := [a1.Thread]) (by as_aux_lemma => kernel_rfl) rfl (.row 1 a0.line_ a0.line_.length rfl (by as_aux_lemma => kernel_rfl)) (.all 17232 3 [a1.Thread] 1 rfl (by as_aux_lemma => kernel_rfl)) g14 (by as_aux_lemma => kernel_rfl) ?_
            refine segs [] tabOk mixed 4000 (S := .leaf 0) (by as_aux_lemma => kernel_rfl) ?_
            refine sk_leaf ?_
            refine md_ok (id := 2) (kv := a1.Thread) E4 (m := a0.woken_) (by as_aux_lemma => kernel_rfl) (by as_aux_lemma => kernel_rfl) ?_
            refine segs [] tabOk mixed 4000 (S := .leaf 0) (by as_aux_lemma => kernel_rfl) ?_
            refine sk_leaf ?_
            obtain rfl := some_ h
            exact endM_ok [(0, some 0), (1, some 17248), (2, some 2), (3, some 3), (4, some 4)] Try.results36 (ps := [(0 : Int) = 0, (a0.things_ : Int) = a0.things_, 0 = 0, ((a0.line_ ++ [a1.Thread]).length) = (a0.line_ ++ [a1.Thread]).length, 0 = 0, a0.got_.length = a0.got_.length, E3.cR (a0.line_ ++ [a1.Thread]) = E3.cR (a0.line_ ++ [a1.Thread]), AllPv (E3.cR (a0.line_ ++ [a1.Thread])), mK (mdelete a1.Thread a0.woken_) = mK (mdelete a1.Thread a0.woken_), E4.mX (mdelete a1.Thread a0.woken_) = E4.mX (mdelete a1.Thread a0.woken_), AllPv (E4.mX (mdelete a1.Thread a0.woken_)), mK a0.sleeps_ = mK a0.sleeps_, E4.mX a0.sleeps_ = E4.mX a0.sleeps_, AllPv (E4.mX a0.sleeps_), E3.cR a0.got_ = E3.cR a0.got_, AllPv (E3.cR a0.got_)]) (by as_aux_lemma => kernel_rfl) ⟨rfl, rfl, rfl, (by first | rfl | simp), rfl, (by first | rfl | simp), rfl, (Elem.cR_pv _ _), rfl, rfl, (Elem.mX_pv _ _), rfl, rfl, (Elem.mX_pv _ _), rfl, (Elem.cR_pv _ _), trivial⟩ (fun _ => ⟨rfl, by simp only [List.mem_cons, List.not_mem_nil, or_false, forall_eq_or_imp, forall_eq]; exact ⟨rfl, Elem.cR_bald E3_raw _, Elem.mX_bald E4_raw _, Elem.mX_bald E4_raw _, Elem.cR_bald E3_raw _⟩⟩)
          · refine sk_leaf ?_
            refine md_ok (id := 2) (kv := a1.Thread) E4 (m := a0.woken_) (by as_aux_lemma => kernel_rfl) (by as_aux_lemma => kernel_rfl) ?_
            refine segs [] tabOk mixed 4000 (S := .leaf 0) (by as_aux_lemma => kernel_rfl) ?_
            refine sk_leaf ?_
            obtain rfl := some_ h
            exact endM_ok [(0, some 0), (1, some 1), (2, some 2), (3, some 3), (4, some 4)] Try.results36 (ps := [(0 : Int) = 0, (a0.things_ : Int) = a0.things_, 0 = 0, a0.line_.length = a0.line_.length, 0 = 0, a0.got_.length = a0.got_.length, E3.cR a0.line_ = E3.cR a0.line_, AllPv (E3.cR a0.line_), mK (mdelete a1.Thread a0.woken_) = mK (mdelete a1.Thread a0.woken_), E4.mX (mdelete a1.Thread a0.woken_) = E4.mX (mdelete a1.Thread a0.woken_), AllPv (E4.mX (mdelete a1.Thread a0.woken_)), mK a0.sleeps_ = mK a0.sleeps_, E4.mX a0.sleeps_ = E4.mX a0.sleeps_, AllPv (E4.mX a0.sleeps_), E3.cR a0.got_ = E3.cR a0.got_, AllPv (E3.cR a0.got_)]) (by as_aux_lemma => kernel_rfl) ⟨rfl, rfl, rfl, (by first | rfl | simp), rfl, (by first | rfl | simp), rfl, (Elem.cR_pv _ _), rfl, rfl, (Elem.mX_pv _ _), rfl, rfl, (Elem.mX_pv _ _), rfl, (Elem.cR_pv _ _), trivial⟩ (fun _ => ⟨rfl, by simp only [List.mem_cons, List.not_mem_nil, or_false, forall_eq_or_imp, forall_eq]; exact ⟨rfl, Elem.cR_bald E3_raw _, Elem.mX_bald E4_raw _, Elem.mX_bald E4_raw _, Elem.cR_bald E3_raw _⟩⟩)
      · refine br_ h ?_ ?_ <;> clear h <;> intro c15 h
        · refine sk_leaf ?_
          refine lkm_ok (d := 72) (id := 3) (kv := a1.Thread) (z := .pv (.raw (.bool false))) E4 (m := a0.sleeps_) (.pv (.raw (.bool ((mget a1.Thread a0.sleeps_).getD false)))) (by as_aux_lemma => kernel_rfl) (by as_aux_lemma => kernel_rfl) rfl rfl ?_
          refine segs [] tabOk mixed 4000 (S := .br ((mget a1.Thread a0.sleeps_).getD false) (.leaf 0) (.br (!r9) (.leaf 1) (.br ((a0.things_ : Int) == 0) (.leaf 2) (.leaf 3)))) (by as_aux_lemma => kernel_rfl) ?_
          refine br_ h ?_ ?_ <;> clear h <;> intro c16 h
          · refine sk_leaf ?_
            obtain rfl := some_ h
            exact endM_ok [(0, some 0), (1, some 1), (2, some 2), (3, some 3), (4, some 4)] Try.results36 (ps := [(7 : Int) = 7, (a0.things_ : Int) = a0.things_, 0 = 0, a0.line_.length = a0.line_.length, 0 = 0, a0.got_.length = a0.got_.length, E3.cR a0.line_ = E3.cR a0.line_, AllPv (E3.cR a0.line_), mK a0.woken_ = mK a0.woken_, E4.mX a0.woken_ = E4.mX a0.woken_, AllPv (E4.mX a0.woken_), mK a0.sleeps_ = mK a0.sleeps_, E4.mX a0.sleeps_ = E4.mX a0.sleeps_, AllPv (E4.mX a0.sleeps_), E3.cR a0.got_ = E3.cR a0.got_, AllPv (E3.cR a0.got_)]) (by as_aux_lemma => kernel_rfl) ⟨rfl, rfl, rfl, (by first | rfl | simp), rfl, (by first | rfl | simp), rfl, (Elem.cR_pv _ _), rfl, rfl, (Elem.mX_pv _ _), rfl, rfl, (Elem.mX_pv _ _), rfl, (Elem.cR_pv _ _), trivial⟩ (fun _ => ⟨rfl, by simp only [List.mem_cons, List.not_mem_nil, or_false, forall_eq_or_imp, forall_eq]; exact ⟨rfl, Elem.cR_bald E3_raw _, Elem.mX_bald E4_raw _, Elem.mX_bald E4_raw _, Elem.cR_bald E3_raw _⟩⟩)
          · refine br_ h ?_ ?_ <;> clear h <;> intro c17 h
            · refine sk_leaf ?_
              obtain rfl := some_ h
              exact endM_ok [(0, some 0), (1, some 1), (2, some 2), (3, some 3), (4, some 4)] Try.results36 (ps := [(3 : Int) = 3, (a0.things_ : Int) = a0.things_, 0 = 0, a0.line_.length = a0.line_.length, 0 = 0, a0.got_.length = a0.got_.length, E3.cR a0.line_ = E3.cR a0.line_, AllPv (E3.cR a0.line_), mK a0.woken_ = mK a0.woken_, E4.mX a0.woken_ = E4.mX a0.woken_, AllPv (E4.mX a0.woken_), mK a0.sleeps_ = mK a0.sleeps_, E4.mX a0.sleeps_ = E4.mX a0.sleeps_, AllPv (E4.mX a0.sleeps_), E3.cR a0.got_ = E3.cR a0.got_, AllPv (E3.cR a0.got_)]) (by as_aux_lemma => kernel_rfl) ⟨rfl, rfl, rfl, (by first | rfl | simp), rfl, (by first | rfl | simp), rfl, (Elem.cR_pv _ _), rfl, rfl, (Elem.mX_pv _ _), rfl, rfl, (Elem.mX_pv _ _), rfl, (Elem.cR_pv _ _), trivial⟩ (fun _ => ⟨rfl, by simp only [List.mem_cons, List.not_mem_nil, or_false, forall_eq_or_imp, forall_eq]; exact ⟨rfl, Elem.cR_bald E3_raw _, Elem.mX_bald E4_raw _, Elem.mX_bald E4_raw _, Elem.cR_bald E3_raw _⟩⟩)
            · refine br_ h ?_ ?_ <;> clear h <;> intro c18 h
              · refine sk_leaf ?_
                obtain rfl := some_ h
                exact endM_ok [(0, some 0), (1, some 1), (2, some 2), (3, some 3), (4, some 4)] Try.results36 (ps := [(6 : Int) = 6, (a0.things_ : Int) = a0.things_, 0 = 0, a0.line_.length = a0.line_.length, 0 = 0, a0.got_.length = a0.got_.length, E3.cR a0.line_ = E3.cR a0.line_, AllPv (E3.cR a0.line_), mK a0.woken_ = mK a0.woken_, E4.mX a0.woken_ = E4.mX a0.woken_, AllPv (E4.mX a0.woken_), mK a0.sleeps_ = mK a0.sleeps_, E4.mX a0.sleeps_ = E4.mX a0.sleeps_, AllPv (E4.mX a0.sleeps_), E3.cR a0.got_ = E3.cR a0.got_, AllPv (E3.cR a0.got_)]) (by as_aux_lemma => kernel_rfl) ⟨rfl, rfl, rfl, (by first | rfl | simp), rfl, (by first | rfl | simp), rfl, (Elem.cR_pv _ _), rfl, rfl, (Elem.mX_pv _ _), rfl, rfl, (Elem.mX_pv _ _), rfl, (Elem.cR_pv _ _), trivial⟩ (fun _ => ⟨rfl, by simp only [List.mem_cons, List.not_mem_nil, or_false, forall_eq_or_imp, forall_eq]; exact ⟨rfl, Elem.cR_bald E3_raw _, Elem.mX_bald E4_raw _, Elem.mX_bald E4_raw _, Elem.cR_bald E3_raw _⟩⟩)
              · refine sk_leaf ?_
                obtain ⟨r19, e20, h⟩ := bd_ h
                refine mcall_ok (d := some 92) (fn := 46) (ax := [.ptr 0 0, .pv (.raw (.int .i64 a1.Thread))]) (hs := [(0, .box [.pv (.raw (.int .i64 r19.things_)), .row 17857 1 0 r19.line_.length, .map 17858, .map 17859, .row 17860 1 0 r19.got_.length]), (17857, .row 3 1 (E3.cR r19.line_)), (17858, .map (mK r19.woken_) (E4.mX r19.woken_)), (17859, .map (mK r19.sleeps_) (E4.mX r19.sleeps_)), (17860, .row 3 1 (E3.cR r19.got_))]) (del := [1, 2, 3, 4]) (ps := [0 = 0, (a1.Thread : Int) = a1.Thread, ((IntKind.i64.wrap (a0.things_ - 1)) : Int) = (IntKind.i64.wrap (a0.things_ - 1)), 0 = 0, a0.line_.length = a0.line_.length, 0 = 0, a0.got_.length = a0.got_.length, E3.cR a0.line_ = E3.cR a0.line_, AllPv (E3.cR a0.line_), mK a0.woken_ = mK a0.woken_, E4.mX a0.woken_ = E4.mX a0.woken_, AllPv (E4.mX a0.woken_), mK a0.sleeps_ = mK a0.sleeps_, E4.mX a0.sleeps_ = E4.mX a0.sleeps_, AllPv (E4.mX a0.sleeps_), E3.cR a0.got_ = E3.cR a0.got_, AllPv (E3.cR a0.got_)]) [(0, some 0), (1, some 1), (2, some 2), (3, some 3), (4, some 4)] (by as_aux_lemma => kernel_rfl) (wait_queue_leave_ok _ _ _ e20 (al := true)) (by as_aux_lemma => kernel_rfl) ⟨rfl, rfl, rfl, rfl, rfl, rfl, rfl, rfl, (Elem.cR_pv _ _), rfl, rfl, (Elem.mX_pv _ _), rfl, rfl, (Elem.mX_pv _ _), rfl, (Elem.cR_pv _ _), trivial⟩ (by as_aux_lemma => kernel_rfl) (by simp only [mset_row, mset_box, mset_nil, mset_map, List.set_set]; kernel_rfl) (by as_aux_lemma => kernel_rfl) ?_
                refine segs [] tabOk mixed 4000 (S := .leaf 0) (by as_aux_lemma => kernel_rfl) ?_
                refine sk_leaf ?_
                refine bs_ok (d := 100) (e := 3) (s := 1) (n := 1) (cs := [.pv (.raw (.int .i64 a1.Thread))]) (cs' := E3.cR [a1.Thread]) (by as_aux_lemma => kernel_rfl) rfl (by as_aux_lemma => kernel_rfl) ?_
                refine segs [] tabOk mixed 4000 (S := .leaf 0) (by as_aux_lemma => kernel_rfl) ?_
                refine sk_leaf ?_
                obtain ⟨g21, h⟩ := if_ h
                refine app_ok (d := 101) (e := 3) (s := 1) (b := 8) (x := .row 17860 1 0 r19.got_.length) (y := .row 17984 1 0 1) E3 (xs := r19.got_) (ys := [a1.Thread]) (by as_aux_lemma => kernel_rfl) rfl (.row 17860 r19.got_ r19.got_.length rfl (by as_aux_lemma => kernel_rfl)) (.all 17984 3 [a1.Thread] 1 rfl (by as_aux_lemma => kernel_rfl)) g21 (by as_aux_lemma => kernel_rfl) ?_
                refine segs [] tabOk mixed 4000 (S := .br (decide ((r19.things_ : Int) > 0)) (.leaf 0) (.leaf 1)) (by as_aux_lemma => kernel_rfl) ?_
                refine br_ h ?_ ?_ <;> clear h <;> intro c22 h
                · refine sk_leaf ?_
                  obtain ⟨r23, e24, h⟩ := bd_ h
                  refine mcall_ok (d := some 110) (fn := 47) (ax := [.ptr 0 0]) (hs := [(0, .box [.pv (.raw (.int .i64 r23.2.things_)), .row 18145 1 0 r23.2.line_.length, .map 18146, .map 18147, .row 18148 1 0 r23.2.got_.length]), (18145, .row 3 1 (E3.cR r23.2.line_)), (18146, .map (mK r23.2.woken_) (E4.mX r23.2.woken_)), (18147, .map (mK r23.2.sleeps_) (E4.mX r23.2.sleeps_)), (18148, .row 3 1 (E3.cR r23.2.got_))]) (del := [17857, 17858, 17859, 18000]) (ps := [0 = 0, (r19.things_ : Int) = r19.things_, 0 = 0, r19.line_.length = r19.line_.length, 0 = 0, ((r19.got_ ++ [a1.Thread]).length) = ((r19.got_ ++ [a1.Thread]).length), E3.cR r19.line_ = E3.cR r19.line_, AllPv (E3.cR r19.line_), mK r19.woken_ = mK r19.woken_, E4.mX r19.woken_ = E4.mX r19.woken_, AllPv (E4.mX r19.woken_), mK r19.sleeps_ = mK r19.sleeps_, E4.mX r19.sleeps_ = E4.mX r19.sleeps_, AllPv (E4.mX r19.sleeps_), E3.cR (r19.got_ ++ [a1.Thread]) = E3.cR (r19.got_ ++ [a1.Thread]), AllPv (E3.cR (r19.got_ ++ [a1.Thread]))]) [(0, some 0), (1, some 17857), (2, some 17858), (3, some 17859), (4, some 18000)] (by as_aux_lemma => kernel_rfl) (wait_queue_wake_ok _ _ e24 (al := true)) (by as_aux_lemma => kernel_rfl) ⟨rfl, rfl, rfl, rfl, rfl, rfl, rfl, (Elem.cR_pv _ _), rfl, rfl, (Elem.mX_pv _ _), rfl, rfl, (Elem.mX_pv _ _), rfl, (Elem.cR_pv _ _), trivial⟩ (by as_aux_lemma => kernel_rfl) (by simp only [mset_row, mset_box, mset_nil, mset_map, List.set_set]; kernel_rfl) (by as_aux_lemma => kernel_rfl) ?_
                  refine segs [] tabOk mixed 4000 (S := .leaf 0) (by as_aux_lemma => kernel_rfl) ?_
                  refine sk_leaf ?_
                  obtain rfl := some_ h
                  exact endM_ok [(0, some 0), (1, some 18145), (2, some 18146), (3, some 18147), (4, some 18148)] Try.results36 (ps := [(0 : Int) = 0, (r23.2.things_ : Int) = r23.2.things_, 0 = 0, r23.2.line_.length = r23.2.line_.length, 0 = 0, r23.2.got_.length = r23.2.got_.length, E3.cR r23.2.line_ = E3.cR r23.2.line_, AllPv (E3.cR r23.2.line_), mK r23.2.woken_ = mK r23.2.woken_, E4.mX r23.2.woken_ = E4.mX r23.2.woken_, AllPv (E4.mX r23.2.woken_), mK r23.2.sleeps_ = mK r23.2.sleeps_, E4.mX r23.2.sleeps_ = E4.mX r23.2.sleeps_, AllPv (E4.mX r23.2.sleeps_), E3.cR r23.2.got_ = E3.cR r23.2.got_, AllPv (E3.cR r23.2.got_)]) (by as_aux_lemma => kernel_rfl) ⟨rfl, rfl, rfl, (by first | rfl | simp), rfl, (by first | rfl | simp), rfl, (Elem.cR_pv _ _), rfl, rfl, (Elem.mX_pv _ _), rfl, rfl, (Elem.mX_pv _ _), rfl, (Elem.cR_pv _ _), trivial⟩ (fun _ => ⟨rfl, by simp only [List.mem_cons, List.not_mem_nil, or_false, forall_eq_or_imp, forall_eq]; exact ⟨rfl, Elem.cR_bald E3_raw _, Elem.mX_bald E4_raw _, Elem.mX_bald E4_raw _, Elem.cR_bald E3_raw _⟩⟩)
                · refine sk_leaf ?_
                  obtain rfl := some_ h
                  exact endM_ok [(0, some 0), (1, some 17857), (2, some 17858), (3, some 17859), (4, some 18000)] Try.results36 (ps := [(0 : Int) = 0, (r19.things_ : Int) = r19.things_, 0 = 0, r19.line_.length = r19.line_.length, 0 = 0, ((r19.got_ ++ [a1.Thread]).length) = (r19.got_ ++ [a1.Thread]).length, E3.cR r19.line_ = E3.cR r19.line_, AllPv (E3.cR r19.line_), mK r19.woken_ = mK r19.woken_, E4.mX r19.woken_ = E4.mX r19.woken_, AllPv (E4.mX r19.woken_), mK r19.sleeps_ = mK r19.sleeps_, E4.mX r19.sleeps_ = E4.mX r19.sleeps_, AllPv (E4.mX r19.sleeps_), E3.cR (r19.got_ ++ [a1.Thread]) = E3.cR (r19.got_ ++ [a1.Thread]), AllPv (E3.cR (r19.got_ ++ [a1.Thread]))]) (by as_aux_lemma => kernel_rfl) ⟨rfl, rfl, rfl, (by first | rfl | simp), rfl, (by first | rfl | simp), rfl, (Elem.cR_pv _ _), rfl, rfl, (Elem.mX_pv _ _), rfl, rfl, (Elem.mX_pv _ _), rfl, (Elem.cR_pv _ _), trivial⟩ (fun _ => ⟨rfl, by simp only [List.mem_cons, List.not_mem_nil, or_false, forall_eq_or_imp, forall_eq]; exact ⟨rfl, Elem.cR_bald E3_raw _, Elem.mX_bald E4_raw _, Elem.mX_bald E4_raw _, Elem.cR_bald E3_raw _⟩⟩)
        · refine br_ h ?_ ?_ <;> clear h <;> intro c25 h
          · refine sk_leaf ?_
            refine lkm_ok (d := 120) (id := 3) (kv := a1.Thread) (z := .pv (.raw (.bool false))) E4 (m := a0.sleeps_) (.pv (.raw (.bool ((mget a1.Thread a0.sleeps_).getD false)))) (by as_aux_lemma => kernel_rfl) (by as_aux_lemma => kernel_rfl) rfl rfl ?_
            refine segs [] tabOk mixed 4000 (S := .br ((mget a1.Thread a0.sleeps_).getD false) (.leaf 0) (.br (!r9) (.leaf 1) (.leaf 2))) (by as_aux_lemma => kernel_rfl) ?_
            refine br_ h ?_ ?_ <;> clear h <;> intro c26 h
            · refine sk_leaf ?_
              obtain rfl := some_ h
              exact endM_ok [(0, some 0), (1, some 1), (2, some 2), (3, some 3), (4, some 4)] Try.results36 (ps := [(7 : Int) = 7, (a0.things_ : Int) = a0.things_, 0 = 0, a0.line_.length = a0.line_.length, 0 = 0, a0.got_.length = a0.got_.length, E3.cR a0.line_ = E3.cR a0.line_, AllPv (E3.cR a0.line_), mK a0.woken_ = mK a0.woken_, E4.mX a0.woken_ = E4.mX a0.woken_, AllPv (E4.mX a0.woken_), mK a0.sleeps_ = mK a0.sleeps_, E4.mX a0.sleeps_ = E4.mX a0.sleeps_, AllPv (E4.mX a0.sleeps_), E3.cR a0.got_ = E3.cR a0.got_, AllPv (E3.cR a0.got_)]) (by as_aux_lemma => kernel_rfl) ⟨rfl, rfl, rfl, (by first | rfl | simp), rfl, (by first | rfl | simp), rfl, (Elem.cR_pv _ _), rfl, rfl, (Elem.mX_pv _ _), rfl, rfl, (Elem.mX_pv _ _), rfl, (Elem.cR_pv _ _), trivial⟩ (fun _ => ⟨rfl, by simp only [List.mem_cons, List.not_mem_nil, or_false, forall_eq_or_imp, forall_eq]; exact ⟨rfl, Elem.cR_bald E3_raw _, Elem.mX_bald E4_raw _, Elem.mX_bald E4_raw _, Elem.cR_bald E3_raw _⟩⟩)
            · refine br_ h ?_ ?_ <;> clear h <;> intro c27 h
              · refine sk_leaf ?_
                obtain rfl := some_ h
                exact endM_ok [(0, some 0), (1, some 1), (2, some 2), (3, some 3), (4, some 4)] Try.results36 (ps := [(3 : Int) = 3, (a0.things_ : Int) = a0.things_, 0 = 0, a0.line_.length = a0.line_.length, 0 = 0, a0.got_.length = a0.got_.length, E3.cR a0.line_ = E3.cR a0.line_, AllPv (E3.cR a0.line_), mK a0.woken_ = mK a0.woken_, E4.mX a0.woken_ = E4.mX a0.woken_, AllPv (E4.mX a0.woken_), mK a0.sleeps_ = mK a0.sleeps_, E4.mX a0.sleeps_ = E4.mX a0.sleeps_, AllPv (E4.mX a0.sleeps_), E3.cR a0.got_ = E3.cR a0.got_, AllPv (E3.cR a0.got_)]) (by as_aux_lemma => kernel_rfl) ⟨rfl, rfl, rfl, (by first | rfl | simp), rfl, (by first | rfl | simp), rfl, (Elem.cR_pv _ _), rfl, rfl, (Elem.mX_pv _ _), rfl, rfl, (Elem.mX_pv _ _), rfl, (Elem.cR_pv _ _), trivial⟩ (fun _ => ⟨rfl, by simp only [List.mem_cons, List.not_mem_nil, or_false, forall_eq_or_imp, forall_eq]; exact ⟨rfl, Elem.cR_bald E3_raw _, Elem.mX_bald E4_raw _, Elem.mX_bald E4_raw _, Elem.cR_bald E3_raw _⟩⟩)
              · refine sk_leaf ?_
                refine lkm_ok (d := 131) (id := 2) (kv := a1.Thread) (z := .pv (.raw (.bool false))) E4 (m := a0.woken_) (.pv (.raw (.bool ((mget a1.Thread a0.woken_).getD false)))) (by as_aux_lemma => kernel_rfl) (by as_aux_lemma => kernel_rfl) rfl rfl ?_
                refine segs [] tabOk mixed 4000 (S := .and (((!((mget a1.Thread a0.woken_).getD false)) = true → ((!((mget a1.Thread a0.woken_).getD false)) = true))) (.and (((!((mget a1.Thread a0.woken_).getD false)) = true → ((!((mget a1.Thread a0.woken_).getD false)) = true))) (.and (((!((mget a1.Thread a0.woken_).getD false)) = true → ((!((mget a1.Thread a0.woken_).getD false)) = true))) (.and (((!((mget a1.Thread a0.woken_).getD false)) = true → ((!((mget a1.Thread a0.woken_).getD false)) = true))) (.and ((!((mget a1.Thread a0.woken_).getD false)) = true → (!((mget a1.Thread a0.woken_).getD false)) = true) (.br ((!((mget a1.Thread a0.woken_).getD false)) && ((a0.things_ : Int) == 0)) (.leaf 0) (.leaf 1))))))) (by as_aux_lemma => kernel_rfl) ?_
                refine sk_and ((by decide : ∀ y0 : Bool, ((y0 = true) → (y0 = true))) (!((mget a1.Thread a0.woken_).getD false))) ?_
                refine sk_and ((by decide : ∀ y0 : Bool, ((y0 = true) → (y0 = true))) (!((mget a1.Thread a0.woken_).getD false))) ?_
                refine sk_and ((by decide : ∀ y0 : Bool, ((y0 = true) → (y0 = true))) (!((mget a1.Thread a0.woken_).getD false))) ?_
                refine sk_and ((by decide : ∀ y0 : Bool, ((y0 = true) → (y0 = true))) (!((mget a1.Thread a0.woken_).getD false))) ?_
                refine sk_and ((by decide : ∀ y0 : Bool, ((y0 = true) → (y0 = true))) (!((mget a1.Thread a0.woken_).getD false))) ?_
                refine br_ h ?_ ?_ <;> clear h <;> intro c33 h
                · refine sk_leaf ?_
                  refine mu_ok (id := 3) (ik := .i64) (kk := .i64) (kv := a1.Thread) (x := .pv (.raw (.bool true))) (ks := mK a0.sleeps_) (ks' := mK (mput a1.Thread true a0.sleeps_)) (xs := E4.mX a0.sleeps_) (xs' := E4.mX (mput a1.Thread true a0.sleeps_)) (by as_aux_lemma => kernel_rfl) (by as_aux_lemma => kernel_rfl) (mK_ok _ _) rfl (mapPut_m E4 a1.Thread true a0.sleeps_) ?_
                  refine segs [] tabOk mixed 4000 (S := .leaf 0) (by as_aux_lemma => kernel_rfl) ?_
                  refine sk_leaf ?_
                  obtain rfl := some_ h
                  exact endM_ok [(0, some 0), (1, some 1), (2, some 2), (3, some 3), (4, some 4)] Try.results36 (ps := [(0 : Int) = 0, (a0.things_ : Int) = a0.things_, 0 = 0, a0.line_.length = a0.line_.length, 0 = 0, a0.got_.length = a0.got_.length, E3.cR a0.line_ = E3.cR a0.line_, AllPv (E3.cR a0.line_), mK a0.woken_ = mK a0.woken_, E4.mX a0.woken_ = E4.mX a0.woken_, AllPv (E4.mX a0.woken_), mK (mput a1.Thread true a0.sleeps_) = mK (mput a1.Thread true a0.sleeps_), E4.mX (mput a1.Thread true a0.sleeps_) = E4.mX (mput a1.Thread true a0.sleeps_), AllPv (E4.mX (mput a1.Thread true a0.sleeps_)), E3.cR a0.got_ = E3.cR a0.got_, AllPv (E3.cR a0.got_)]) (by as_aux_lemma => kernel_rfl) ⟨rfl, rfl, rfl, (by first | rfl | simp), rfl, (by first | rfl | simp), rfl, (Elem.cR_pv _ _), rfl, rfl, (Elem.mX_pv _ _), rfl, rfl, (Elem.mX_pv _ _), rfl, (Elem.cR_pv _ _), trivial⟩ (fun _ => ⟨rfl, by simp only [List.mem_cons, List.not_mem_nil, or_false, forall_eq_or_imp, forall_eq]; exact ⟨rfl, Elem.cR_bald E3_raw _, Elem.mX_bald E4_raw _, Elem.mX_bald E4_raw _, Elem.cR_bald E3_raw _⟩⟩)
                · refine sk_leaf ?_
                  obtain rfl := some_ h
                  exact endM_ok [(0, some 0), (1, some 1), (2, some 2), (3, some 3), (4, some 4)] Try.results36 (ps := [(0 : Int) = 0, (a0.things_ : Int) = a0.things_, 0 = 0, a0.line_.length = a0.line_.length, 0 = 0, a0.got_.length = a0.got_.length, E3.cR a0.line_ = E3.cR a0.line_, AllPv (E3.cR a0.line_), mK a0.woken_ = mK a0.woken_, E4.mX a0.woken_ = E4.mX a0.woken_, AllPv (E4.mX a0.woken_), mK a0.sleeps_ = mK a0.sleeps_, E4.mX a0.sleeps_ = E4.mX a0.sleeps_, AllPv (E4.mX a0.sleeps_), E3.cR a0.got_ = E3.cR a0.got_, AllPv (E3.cR a0.got_)]) (by as_aux_lemma => kernel_rfl) ⟨rfl, rfl, rfl, (by first | rfl | simp), rfl, (by first | rfl | simp), rfl, (Elem.cR_pv _ _), rfl, rfl, (Elem.mX_pv _ _), rfl, rfl, (Elem.mX_pv _ _), rfl, (Elem.cR_pv _ _), trivial⟩ (fun _ => ⟨rfl, by simp only [List.mem_cons, List.not_mem_nil, or_false, forall_eq_or_imp, forall_eq]; exact ⟨rfl, Elem.cR_bald E3_raw _, Elem.mX_bald E4_raw _, Elem.mX_bald E4_raw _, Elem.cR_bald E3_raw _⟩⟩)
          · refine br_ h ?_ ?_ <;> clear h <;> intro c34 h
            · refine br_ h ?_ ?_ <;> clear h <;> intro c35 h
              · refine sk_leaf ?_
                obtain rfl := some_ h
                exact endM_ok [(0, some 0), (1, some 1), (2, some 2), (3, some 3), (4, some 4)] Try.results36 (ps := [(4 : Int) = 4, (a0.things_ : Int) = a0.things_, 0 = 0, a0.line_.length = a0.line_.length, 0 = 0, a0.got_.length = a0.got_.length, E3.cR a0.line_ = E3.cR a0.line_, AllPv (E3.cR a0.line_), mK a0.woken_ = mK a0.woken_, E4.mX a0.woken_ = E4.mX a0.woken_, AllPv (E4.mX a0.woken_), mK a0.sleeps_ = mK a0.sleeps_, E4.mX a0.sleeps_ = E4.mX a0.sleeps_, AllPv (E4.mX a0.sleeps_), E3.cR a0.got_ = E3.cR a0.got_, AllPv (E3.cR a0.got_)]) (by as_aux_lemma => kernel_rfl) ⟨rfl, rfl, rfl, (by first | rfl | simp), rfl, (by first | rfl | simp), rfl, (Elem.cR_pv _ _), rfl, rfl, (Elem.mX_pv _ _), rfl, rfl, (Elem.mX_pv _ _), rfl, (Elem.cR_pv _ _), trivial⟩ (fun _ => ⟨rfl, by simp only [List.mem_cons, List.not_mem_nil, or_false, forall_eq_or_imp, forall_eq]; exact ⟨rfl, Elem.cR_bald E3_raw _, Elem.mX_bald E4_raw _, Elem.mX_bald E4_raw _, Elem.cR_bald E3_raw _⟩⟩)
              · refine sk_leaf ?_
                obtain ⟨r36, e37, h⟩ := bd_ h
                refine mcall_ok (d := some 161) (fn := 47) (ax := [.ptr 0 0]) (hs := [(0, .box [.pv (.raw (.int .i64 r36.2.things_)), .row 18961 1 0 r36.2.line_.length, .map 18962, .map 18963, .row 18964 1 0 r36.2.got_.length]), (18961, .row 3 1 (E3.cR r36.2.line_)), (18962, .map (mK r36.2.woken_) (E4.mX r36.2.woken_)), (18963, .map (mK r36.2.sleeps_) (E4.mX r36.2.sleeps_)), (18964, .row 3 1 (E3.cR r36.2.got_))]) (del := [1, 2, 3, 4]) (ps := [0 = 0, ((IntKind.i64.wrap (a0.things_ + 1)) : Int) = (IntKind.i64.wrap (a0.things_ + 1)), 0 = 0, a0.line_.length = a0.line_.length, 0 = 0, a0.got_.length = a0.got_.length, E3.cR a0.line_ = E3.cR a0.line_, AllPv (E3.cR a0.line_), mK a0.woken_ = mK a0.woken_, E4.mX a0.woken_ = E4.mX a0.woken_, AllPv (E4.mX a0.woken_), mK a0.sleeps_ = mK a0.sleeps_, E4.mX a0.sleeps_ = E4.mX a0.sleeps_, AllPv (E4.mX a0.sleeps_), E3.cR a0.got_ = E3.cR a0.got_, AllPv (E3.cR a0.got_)]) [(0, some 0), (1, some 1), (2, some 2), (3, some 3), (4, some 4)] (by as_aux_lemma => kernel_rfl) (wait_queue_wake_ok _ _ e37 (al := true)) (by as_aux_lemma => kernel_rfl) ⟨rfl, rfl, rfl, rfl, rfl, rfl, rfl, (Elem.cR_pv _ _), rfl, rfl, (Elem.mX_pv _ _), rfl, rfl, (Elem.mX_pv _ _), rfl, (Elem.cR_pv _ _), trivial⟩ (by as_aux_lemma => kernel_rfl) (by simp only [mset_row, mset_box, mset_nil, mset_map, List.set_set]; kernel_rfl) (by as_aux_lemma => kernel_rfl) ?_
                refine segs [] tabOk mixed 4000 (S := .leaf 0) (by as_aux_lemma => kernel_rfl) ?_
                refine sk_leaf ?_
                obtain rfl := some_ h
                exact endM_ok [(0, some 0), (1, some 18961), (2, some 18962), (3, some 18963), (4, some 18964)] Try.results36 (ps := [(0 : Int) = 0, (r36.2.things_ : Int) = r36.2.things_, 0 = 0, r36.2.line_.length = r36.2.line_.length, 0 = 0, r36.2.got_.length = r36.2.got_.length, E3.cR r36.2.line_ = E3.cR r36.2.line_, AllPv (E3.cR r36.2.line_), mK r36.2.woken_ = mK r36.2.woken_, E4.mX r36.2.woken_ = E4.mX r36.2.woken_, AllPv (E4.mX r36.2.woken_), mK r36.2.sleeps_ = mK r36.2.sleeps_, E4.mX r36.2.sleeps_ = E4.mX r36.2.sleeps_, AllPv (E4.mX r36.2.sleeps_), E3.cR r36.2.got_ = E3.cR r36.2.got_, AllPv (E3.cR r36.2.got_)]) (by as_aux_lemma => kernel_rfl) ⟨rfl, rfl, rfl, (by first | rfl | simp), rfl, (by first | rfl | simp), rfl, (Elem.cR_pv _ _), rfl, rfl, (Elem.mX_pv _ _), rfl, rfl, (Elem.mX_pv _ _), rfl, (Elem.cR_pv _ _), trivial⟩ (fun _ => ⟨rfl, by simp only [List.mem_cons, List.not_mem_nil, or_false, forall_eq_or_imp, forall_eq]; exact ⟨rfl, Elem.cR_bald E3_raw _, Elem.mX_bald E4_raw _, Elem.mX_bald E4_raw _, Elem.cR_bald E3_raw _⟩⟩)
            · refine br_ h ?_ ?_ <;> clear h <;> intro c38 h
              · refine sk_leaf ?_
                refine len_row (by as_aux_lemma => kernel_rfl) 1 (e := 3) (s := 1) (n := a0.line_.length) (cs := E3.cR a0.line_) (by as_aux_lemma => kernel_rfl) (Elem.cR_length _ _) ?_; intro hl1_0
                refine len_row (by as_aux_lemma => kernel_rfl) 4 (e := 3) (s := 1) (n := a0.got_.length) (cs := E3.cR a0.got_) (by as_aux_lemma => kernel_rfl) (Elem.cR_length _ _) ?_; intro hl1_1
                replace h : (fun (x : Nat × Int × List Int × List (Int × Bool) × List (Int × Bool) × List Int) => wait_queue_do_l1 a0 x.1 x.2.1 x.2.2.1 x.2.2.2.1 x.2.2.2.2.1 x.2.2.2.2.2 = some r) (FUEL, a0.things_, a0.line_, a0.woken_, a0.sleeps_, a0.got_) := h
                refine loop_ok (by as_aux_lemma => kernel_rfl) (X := Nat × Int × List Int × List (Int × Bool) × List (Int × Bool) × List Int) (fun x => wait_queue_do_l1 a0 x.1 x.2.1 x.2.2.1 x.2.2.2.1 x.2.2.2.2.1 x.2.2.2.2.2 = some r) (fun x => x.1) (fun x => mk 166 [(0, .ptr 0 0), (4, .pv (.raw (.int .i64 0)))] [(0, .box [.pv (.raw (.int .i64 x.2.1)), .row 1 1 0 x.2.2.1.length, .map 2, .map 3, .row 4 1 0 x.2.2.2.2.2.length]), (1, .row 3 1 (E3.cR x.2.2.1)), (2, .map (mK x.2.2.2.1) (E4.mX x.2.2.2.1)), (3, .map (mK x.2.2.2.2.1) (E4.mX x.2.2.2.2.1)), (4, .row 3 1 (E3.cR x.2.2.2.2.2))] [46, 47] 1) (FUEL, a0.things_, a0.line_, a0.woken_, a0.sleeps_, a0.got_) h ?_ ?_
                · exact sub_ok (ρ := [(0, some 0), (1, some 1), (2, some 2), (3, some 3), (4, some 4)]) (l := [0 = 0, (0 : Int) = 0, (a0.things_ : Int) = a0.things_, 0 = 0, a0.line_.length = a0.line_.length, 0 = 0, a0.got_.length = a0.got_.length, E3.cR a0.line_ = E3.cR a0.line_, AllPv (E3.cR a0.line_), mK a0.woken_ = mK a0.woken_, E4.mX a0.woken_ = E4.mX a0.woken_, AllPv (E4.mX a0.woken_), mK a0.sleeps_ = mK a0.sleeps_, E4.mX a0.sleeps_ = E4.mX a0.sleeps_, AllPv (E4.mX a0.sleeps_), E3.cR a0.got_ = E3.cR a0.got_, AllPv (E3.cR a0.got_)]) (by as_aux_lemma => kernel_rfl) ⟨rfl, rfl, rfl, rfl, rfl, rfl, rfl, rfl, (Elem.cR_pv _ _), rfl, rfl, (Elem.mX_pv _ _), rfl, rfl, (Elem.mX_pv _ _), rfl, (Elem.cR_pv _ _), trivial⟩
                · clear h; rintro ⟨n1, x39, l40, m41, m42, l43⟩ h p1 hp1
                  obtain _ | n1 := n1
                  · cases (show (none : Option (Int × Wait_queue)) = some r from h)
                  have h : wait_queue_do_l1 a0 (n1 + 1) x39 l40 m41 m42 l43 = some r := h
                  unfold wait_queue_do_l1 at h
                  refine segs [] tabOk mixed 4000 (S := .leaf 0) (by as_aux_lemma => kernel_rfl) ?_
                  refine sk_leaf ?_
                  obtain ⟨r44, e45, h⟩ := bd_ h
                  refine mcall_ok (d := some 165) (fn := 47) (ax := [.ptr 0 0]) (hs := [(0, .box [.pv (.raw (.int .i64 r44.2.things_)), .row 19025 1 0 r44.2.line_.length, .map 19026, .map 19027, .row 19028 1 0 r44.2.got_.length]), (19025, .row 3 1 (E3.cR r44.2.line_)), (19026, .map (mK r44.2.woken_) (E4.mX r44.2.woken_)), (19027, .map (mK r44.2.sleeps_) (E4.mX r44.2.sleeps_)), (19028, .row 3 1 (E3.cR r44.2.got_))]) (del := [1, 2, 3, 4]) (ps := [0 = 0, (x39 : Int) = x39, 0 = 0, l40.length = l40.length, 0 = 0, l43.length = l43.length, E3.cR l40 = E3.cR l40, AllPv (E3.cR l40), mK m41 = mK m41, E4.mX m41 = E4.mX m41, AllPv (E4.mX m41), mK m42 = mK m42, E4.mX m42 = E4.mX m42, AllPv (E4.mX m42), E3.cR l43 = E3.cR l43, AllPv (E3.cR l43)]) [(0, some 0), (1, some 1), (2, some 2), (3, some 3), (4, some 4)] (by as_aux_lemma => kernel_rfl) (wait_queue_wake_ok _ _ e45 (al := true)) (by as_aux_lemma => kernel_rfl) ⟨rfl, rfl, rfl, rfl, rfl, rfl, rfl, (Elem.cR_pv _ _), rfl, rfl, (Elem.mX_pv _ _), rfl, rfl, (Elem.mX_pv _ _), rfl, (Elem.cR_pv _ _), trivial⟩ (by as_aux_lemma => kernel_rfl) (by simp only [mset_row, mset_box, mset_nil, mset_map, List.set_set]; kernel_rfl) (by as_aux_lemma => kernel_rfl) ?_
                  refine segs [] tabOk mixed 4000 (S := .br r44.1 (.leaf 0) (.leaf 1)) (by as_aux_lemma => kernel_rfl) ?_
                  refine br_ h ?_ ?_ <;> clear h <;> intro c46 h
                  · refine sk_leaf ?_
                    refine back_ok (p := p1) (by as_aux_lemma => kernel_rfl) (hp1 (n1, r44.2.things_, r44.2.line_, r44.2.woken_, r44.2.sleeps_, r44.2.got_) _ h (Nat.lt_succ_self n1) ?_)
                    exact sub_ok (ρ := [(0, some 0), (1, some 19025), (2, some 19026), (3, some 19027), (4, some 19028)]) (l := [0 = 0, (0 : Int) = 0, (r44.2.things_ : Int) = r44.2.things_, 0 = 0, r44.2.line_.length = r44.2.line_.length, 0 = 0, r44.2.got_.length = r44.2.got_.length, E3.cR r44.2.line_ = E3.cR r44.2.line_, AllPv (E3.cR r44.2.line_), mK r44.2.woken_ = mK r44.2.woken_, E4.mX r44.2.woken_ = E4.mX r44.2.woken_, AllPv (E4.mX r44.2.woken_), mK r44.2.sleeps_ = mK r44.2.sleeps_, E4.mX r44.2.sleeps_ = E4.mX r44.2.sleeps_, AllPv (E4.mX r44.2.sleeps_), E3.cR r44.2.got_ = E3.cR r44.2.got_, AllPv (E3.cR r44.2.got_)]) (by as_aux_lemma => kernel_rfl) ⟨rfl, rfl, rfl, rfl, rfl, rfl, rfl, rfl, (Elem.cR_pv _ _), rfl, rfl, (Elem.mX_pv _ _), rfl, rfl, (Elem.mX_pv _ _), rfl, (Elem.cR_pv _ _), trivial⟩
                  · refine sk_leaf ?_
                    obtain rfl := some_ h
                    exact endM_ok [(0, some 0), (1, some 19025), (2, some 19026), (3, some 19027), (4, some 19028)] Try.results36 (ps := [(0 : Int) = 0, (r44.2.things_ : Int) = r44.2.things_, 0 = 0, r44.2.line_.length = r44.2.line_.length, 0 = 0, r44.2.got_.length = r44.2.got_.length, E3.cR r44.2.line_ = E3.cR r44.2.line_, AllPv (E3.cR r44.2.line_), mK r44.2.woken_ = mK r44.2.woken_, E4.mX r44.2.woken_ = E4.mX r44.2.woken_, AllPv (E4.mX r44.2.woken_), mK r44.2.sleeps_ = mK r44.2.sleeps_, E4.mX r44.2.sleeps_ = E4.mX r44.2.sleeps_, AllPv (E4.mX r44.2.sleeps_), E3.cR r44.2.got_ = E3.cR r44.2.got_, AllPv (E3.cR r44.2.got_)]) (by as_aux_lemma => kernel_rfl) ⟨rfl, rfl, rfl, (by first | rfl | simp), rfl, (by first | rfl | simp), rfl, (Elem.cR_pv _ _), rfl, rfl, (Elem.mX_pv _ _), rfl, rfl, (Elem.mX_pv _ _), rfl, (Elem.cR_pv _ _), trivial⟩ (fun _ => ⟨rfl, by simp only [List.mem_cons, List.not_mem_nil, or_false, forall_eq_or_imp, forall_eq]; exact ⟨rfl, Elem.cR_bald E3_raw _, Elem.mX_bald E4_raw _, Elem.mX_bald E4_raw _, Elem.cR_bald E3_raw _⟩⟩)
              · refine sk_leaf ?_
                obtain rfl := some_ h
                exact endM_ok [(0, some 0), (1, some 1), (2, some 2), (3, some 3), (4, some 4)] Try.results36 (ps := [(0 : Int) = 0, (a0.things_ : Int) = a0.things_, 0 = 0, a0.line_.length = a0.line_.length, 0 = 0, a0.got_.length = a0.got_.length, E3.cR a0.line_ = E3.cR a0.line_, AllPv (E3.cR a0.line_), mK a0.woken_ = mK a0.woken_, E4.mX a0.woken_ = E4.mX a0.woken_, AllPv (E4.mX a0.woken_), mK a0.sleeps_ = mK a0.sleeps_, E4.mX a0.sleeps_ = E4.mX a0.sleeps_, AllPv (E4.mX a0.sleeps_), E3.cR a0.got_ = E3.cR a0.got_, AllPv (E3.cR a0.got_)]) (by as_aux_lemma => kernel_rfl) ⟨rfl, rfl, rfl, (by first | rfl | simp), rfl, (by first | rfl | simp), rfl, (Elem.cR_pv _ _), rfl, rfl, (Elem.mX_pv _ _), rfl, rfl, (Elem.mX_pv _ _), rfl, (Elem.cR_pv _ _), trivial⟩ (fun _ => ⟨rfl, by simp only [List.mem_cons, List.not_mem_nil, or_false, forall_eq_or_imp, forall_eq]; exact ⟨rfl, Elem.cR_bald E3_raw _, Elem.mX_bald E4_raw _, Elem.mX_bald E4_raw _, Elem.cR_bald E3_raw _⟩⟩)

set_option maxHeartbeats 40000000 in
set_option maxRecDepth 100000 in
theorem wait_Play_1_ok (a0 : Int) (a1 : Wait_queue) (r : Bool) (h : wait_Play_1 a0 a1 = some r) {al : Bool} : MCalls Try.prog 39 [.pv (.raw (.int .i64 a0)), .ptr 0 0] [.box [.ptr 1 0], .box [.pv (.raw (.int .i64 a1.things_)), .row 2 1 0 a1.line_.length, .map 3, .map 4, .row 5 1 0 a1.got_.length], .row 3 1 (E3.cR a1.line_), .map (mK a1.woken_) (E4.mX a1.woken_), .map (mK a1.sleeps_) (E4.mX a1.sleeps_), .row 3 1 (E3.cR a1.got_)] 2 al (.pv (.raw (.bool r))) [.box [.ptr 1 0], .box [.pv (.raw (.int .i64 a1.things_)), .row 2 1 0 a1.line_.length, .map 3, .map 4, .row 5 1 0 a1.got_.length], .row 3 1 (E3.cR a1.line_), .map (mK a1.woken_) (E4.mX a1.woken_), .map (mK a1.sleeps_) (E4.mX a1.sleeps_), .row 3 1 (E3.cR a1.got_)] := by
  unfold wait_Play_1 at h
  refine fnM_ok tabOk (fz := []) Try.func39 (by as_aux_lemma => kernel_rfl) (by as_aux_lemma => kernel_rfl) Try.ntmps39 (by simp) (by simp) ?_
  refine segs [] tabOk mixed 4000 (S := .leaf 0) (by as_aux_lemma => kernel_rfl) ?_
  refine sk_leaf ?_
  refine lkm_ok (d := 9) (id := 4) (kv := a0) (z := .pv (.raw (.bool false))) E4 (m := a1.sleeps_) (.pv (.raw (.bool ((mget a0 a1.sleeps_).getD false)))) (by as_aux_lemma => kernel_rfl) (by as_aux_lemma => kernel_rfl) rfl rfl ?_
  refine segs [] tabOk mixed 4000 (S := .leaf 0) (by as_aux_lemma => kernel_rfl) ?_
  refine sk_leaf ?_
  obtain rfl := some_ h
  exact endM_ok [(0, some 0), (1, some 1), (2, some 2), (3, some 3), (4, some 4), (5, some 5)] Try.results39 (ps := [(!((mget a0 a1.sleeps_).getD false)) = (!((mget a0 a1.sleeps_).getD false)), 0 = 0, (a1.things_ : Int) = a1.things_, 0 = 0, a1.line_.length = a1.line_.length, 0 = 0, a1.got_.length = a1.got_.length, E3.cR a1.line_ = E3.cR a1.line_, AllPv (E3.cR a1.line_), mK a1.woken_ = mK a1.woken_, E4.mX a1.woken_ = E4.mX a1.woken_, AllPv (E4.mX a1.woken_), mK a1.sleeps_ = mK a1.sleeps_, E4.mX a1.sleeps_ = E4.mX a1.sleeps_, AllPv (E4.mX a1.sleeps_), E3.cR a1.got_ = E3.cR a1.got_, AllPv (E3.cR a1.got_)]) (by as_aux_lemma => kernel_rfl) ⟨rfl, rfl, rfl, rfl, (by first | rfl | simp), rfl, (by first | rfl | simp), rfl, (Elem.cR_pv _ _), rfl, rfl, (Elem.mX_pv _ _), rfl, rfl, (Elem.mX_pv _ _), rfl, (Elem.cR_pv _ _), trivial⟩ (fun _ => ⟨rfl, by simp only [List.mem_cons, List.not_mem_nil, or_false, forall_eq_or_imp, forall_eq]; exact ⟨rfl, rfl, Elem.cR_bald E3_raw _, Elem.mX_bald E4_raw _, Elem.mX_bald E4_raw _, Elem.cR_bald E3_raw _⟩⟩)

set_option maxHeartbeats 40000000 in
set_option maxRecDepth 100000 in
theorem slices_IndexFunc_int_wait_Play_1_h0_ok (a0 : (List Int)) (a1 : Wait_queue) (r : Int × Wait_queue) (h : slices_IndexFunc_int_wait_Play_1_h0 a0 a1 = some r) {al : Bool} : MCalls Try.prog 48 [.row 0 1 0 a0.length, .fn 39 [.ptr 1 0]] [.row 3 1 (E3.cR a0), .box [.ptr 2 0], .box [.pv (.raw (.int .i64 a1.things_)), .row 3 1 0 a1.line_.length, .map 4, .map 5, .row 6 1 0 a1.got_.length], .row 3 1 (E3.cR a1.line_), .map (mK a1.woken_) (E4.mX a1.woken_), .map (mK a1.sleeps_) (E4.mX a1.sleeps_), .row 3 1 (E3.cR a1.got_)] 3 al (.pv (.raw (.int .i64 r.1))) [.row 3 1 (E3.cR a0), .box [.ptr 2 0], .box [.pv (.raw (.int .i64 r.2.things_)), .row 3 1 0 r.2.line_.length, .map 4, .map 5, .row 6 1 0 r.2.got_.length], .row 3 1 (E3.cR r.2.line_), .map (mK r.2.woken_) (E4.mX r.2.woken_), .map (mK r.2.sleeps_) (E4.mX r.2.sleeps_), .row 3 1 (E3.cR r.2.got_)] := by
  unfold slices_IndexFunc_int_wait_Play_1_h0 at h
  refine fnM_ok tabOk (fz := [1048576]) Try.func48 (by as_aux_lemma => kernel_rfl) (by as_aux_lemma => kernel_rfl) Try.ntmps48 (by simp) (by simp) ?_
  refine segs [] tabOk mixed 4000 (S := .leaf 0) (by as_aux_lemma => kernel_rfl) ?_
  refine sk_leaf ?_
  refine len_row (by as_aux_lemma => kernel_rfl) 0 (e := 3) (s := 1) (n := a0.length) (cs := E3.cR a0) (by as_aux_lemma => kernel_rfl) (Elem.cR_length _ _) ?_; intro hl1_0
  refine len_row (by as_aux_lemma => kernel_rfl) 3 (e := 3) (s := 1) (n := a1.line_.length) (cs := E3.cR a1.line_) (by as_aux_lemma => kernel_rfl) (Elem.cR_length _ _) ?_; intro hl1_1
  refine len_row (by as_aux_lemma => kernel_rfl) 6 (e := 3) (s := 1) (n := a1.got_.length) (cs := E3.cR a1.got_) (by as_aux_lemma => kernel_rfl) (Elem.cR_length _ _) ?_; intro hl1_2
  replace h : (fun (x : Nat × Nat × List Int × List (Int × Bool) × List (Int × Bool) × List Int) => slices_IndexFunc_int_wait_Play_1_h0_l1 a0 a1 x.1 x.2.1 x.2.2.1 x.2.2.2.1 x.2.2.2.2.1 x.2.2.2.2.2 = some r) (FUEL, 0, a1.line_, a1.woken_, a1.sleeps_, a1.got_) := h
  refine loop_ok (by as_aux_lemma => kernel_rfl) (X := Nat × Nat × List Int × List (Int × Bool) × List (Int × Bool) × List Int) (fun x => slices_IndexFunc_int_wait_Play_1_h0_l1 a0 a1 x.1 x.2.1 x.2.2.1 x.2.2.2.1 x.2.2.2.2.1 x.2.2.2.2.2 = some r) (fun x => x.1) (fun x => mk 19 [(0, .row 0 1 0 a0.length), (1, .fn 39 [.ptr 1 0]), (4, .pv (.raw (.int .i64 0))), (7, .pv (.raw (.int .i64 ((a0.length : Nat) : Int)))), (8, .pv (.raw (.int .i64 ((x.2.1 : Nat) : Int))))] [(0, .row 3 1 (E3.cR a0)), (1, .box [.ptr 2 0]), (2, .box [.pv (.raw (.int .i64 a1.things_)), .row 3 1 0 x.2.2.1.length, .map 4, .map 5, .row 6 1 0 x.2.2.2.2.2.length]), (3, .row 3 1 (E3.cR x.2.2.1)), (4, .map (mK x.2.2.2.1) (E4.mX x.2.2.2.1)), (5, .map (mK x.2.2.2.2.1) (E4.mX x.2.2.2.2.1)), (6, .row 3 1 (E3.cR x.2.2.2.2.2))] [1048576] 3) (FUEL, 0, a1.line_, a1.woken_, a1.sleeps_, a1.got_) h ?_ ?_
  · exact sub_ok (ρ := [(0, some 0), (1, some 1), (2, some 2), (3, some 3), (4, some 4), (5, some 5), (6, some 6)]) (l := [0 = 0, a0.length = a0.length, 0 = 0, (0 : Int) = 0, (((a0.length : Nat) : Int) : Int) = ((a0.length : Nat) : Int), (0 : Int) = ((0 : Nat) : Int), E3.cR a0 = E3.cR a0, AllPv (E3.cR a0), 0 = 0, (a1.things_ : Int) = a1.things_, 0 = 0, a1.line_.length = a1.line_.length, 0 = 0, a1.got_.length = a1.got_.length, E3.cR a1.line_ = E3.cR a1.line_, AllPv (E3.cR a1.line_), mK a1.woken_ = mK a1.woken_, E4.mX a1.woken_ = E4.mX a1.woken_, AllPv (E4.mX a1.woken_), mK a1.sleeps_ = mK a1.sleeps_, E4.mX a1.sleeps_ = E4.mX a1.sleeps_, AllPv (E4.mX a1.sleeps_), E3.cR a1.got_ = E3.cR a1.got_, AllPv (E3.cR a1.got_)]) (by as_aux_lemma => kernel_rfl) ⟨rfl, rfl, rfl, rfl, rfl, (by first | rfl | simp), rfl, (Elem.cR_pv _ _), rfl, rfl, rfl, rfl, rfl, rfl, rfl, (Elem.cR_pv _ _), rfl, rfl, (Elem.mX_pv _ _), rfl, rfl, (Elem.mX_pv _ _), rfl, (Elem.cR_pv _ _), trivial⟩
  · clear h; rintro ⟨n1, k1, l2, m3, m4, l5⟩ h p1 hp1
    obtain _ | n1 := n1
    · cases (show (none : Option (Int × Wait_queue)) = some r from h)
    have h : slices_IndexFunc_int_wait_Play_1_h0_l1 a0 a1 (n1 + 1) k1 l2 m3 m4 l5 = some r := h
    unfold slices_IndexFunc_int_wait_Play_1_h0_l1 at h
    refine segs [] tabOk mixed 4000 (S := .br (decide ((((k1 : Nat) : Int) : Int) < ((a0.length : Nat) : Int))) (.and (0 ≤ (((k1 : Nat) : Int) : Int) ∧ ((k1 : Nat) : Int) < ((a0.length : Nat) : Int)) (.leaf 0)) (.leaf 1)) (by as_aux_lemma => kernel_rfl) ?_
    refine br_ h ?_ ?_ <;> clear h <;> intro c6 h
    · refine sk_and ⟨Int.natCast_nonneg _, of_decide_eq_true c6⟩ ?_
      refine sk_leaf ?_
      refine ld_ok (d := 15) (id := 0) (i := (0 + k1)) (j := 0) (e := 3) (n := 1) E3 (xs := a0) (by as_aux_lemma => kernel_rfl) (by as_aux_lemma => kernel_rfl) (by first | omega | (simp at * <;> omega) | (simp_all <;> omega)) (by exact Nat.le_of_ble_eq_true rfl) ?_
      refine segs [] tabOk mixed 4000 (S := .leaf 0) (by as_aux_lemma => kernel_rfl) ?_
      refine sk_leaf ?_
      obtain ⟨r8, e9, h⟩ := bd_ h
      refine mcall_ok (d := some 16) (fn := 39) (ax := [.pv (.raw (.int .i64 (a0.getD (0 + k1) 0))), .ptr 1 0]) (hs := [(1, .box [.ptr 2 0]), (2, .box [.pv (.raw (.int .i64 a1.things_)), .row 16642 1 0 l2.length, .map 16643, .map 16644, .row 16645 1 0 l5.length]), (16642, .row 3 1 (E3.cR l2)), (16643, .map (mK m3) (E4.mX m3)), (16644, .map (mK m4) (E4.mX m4)), (16645, .row 3 1 (E3.cR l5))]) (del := [3, 4, 5, 6]) (ps := [((a0.getD (0 + k1) 0) : Int) = (a0.getD (0 + k1) 0), 0 = 0, 0 = 0, (a1.things_ : Int) = a1.things_, 0 = 0, l2.length = l2.length, 0 = 0, l5.length = l5.length, E3.cR l2 = E3.cR l2, AllPv (E3.cR l2), mK m3 = mK m3, E4.mX m3 = E4.mX m3, AllPv (E4.mX m3), mK m4 = mK m4, E4.mX m4 = E4.mX m4, AllPv (E4.mX m4), E3.cR l5 = E3.cR l5, AllPv (E3.cR l5)]) [(0, some 1), (1, some 2), (2, some 3), (3, some 4), (4, some 5), (5, some 6)] (by as_aux_lemma => kernel_rfl) (wait_Play_1_ok _ _ _ e9 (al := true)) (by as_aux_lemma => kernel_rfl) ⟨rfl, rfl, rfl, rfl, rfl, rfl, rfl, rfl, rfl, (Elem.cR_pv _ _), rfl, rfl, (Elem.mX_pv _ _), rfl, rfl, (Elem.mX_pv _ _), rfl, (Elem.cR_pv _ _), trivial⟩ (by as_aux_lemma => kernel_rfl) (by simp only [mset_row, mset_box, mset_nil, mset_map, List.set_set]; kernel_rfl) (by as_aux_lemma => kernel_rfl) ?_
      refine segs [] tabOk mixed 4000 (S := .br r8 (.leaf 0) (.leaf 1)) (by as_aux_lemma => kernel_rfl) ?_
      refine br_ h ?_ ?_ <;> clear h <;> intro c10 h
      · refine sk_leaf ?_
        obtain rfl := some_ h
        exact endM_ok [(0, some 0), (1, some 1), (2, some 2), (3, some 16642), (4, some 16643), (5, some 16644), (6, some 16645)] Try.results48 (ps := [(((k1 : Nat) : Int) : Int) = ((k1 : Nat) : Int), E3.cR a0 = E3.cR a0, AllPv (E3.cR a0), 0 = 0, (a1.things_ : Int) = a1.things_, 0 = 0, l2.length = l2.length, 0 = 0, l5.length = l5.length, E3.cR l2 = E3.cR l2, AllPv (E3.cR l2), mK m3 = mK m3, E4.mX m3 = E4.mX m3, AllPv (E4.mX m3), mK m4 = mK m4, E4.mX m4 = E4.mX m4, AllPv (E4.mX m4), E3.cR l5 = E3.cR l5, AllPv (E3.cR l5)]) (by as_aux_lemma => kernel_rfl) ⟨rfl, rfl, (Elem.cR_pv _ _), rfl, rfl, rfl, (by first | rfl | simp), rfl, (by first | rfl | simp), rfl, (Elem.cR_pv _ _), rfl, rfl, (Elem.mX_pv _ _), rfl, rfl, (Elem.mX_pv _ _), rfl, (Elem.cR_pv _ _), trivial⟩ (fun _ => ⟨rfl, by simp only [List.mem_cons, List.not_mem_nil, or_false, forall_eq_or_imp, forall_eq]; exact ⟨Elem.cR_bald E3_raw _, rfl, rfl, Elem.cR_bald E3_raw _, Elem.mX_bald E4_raw _, Elem.mX_bald E4_raw _, Elem.cR_bald E3_raw _⟩⟩)
      · refine sk_leaf ?_
        refine back_ok (p := p1) (by as_aux_lemma => kernel_rfl) (hp1 (n1, k1 + 1, l2, m3, m4, l5) _ h (Nat.lt_succ_self n1) ?_)
        exact sub_ok (ρ := [(0, some 0), (1, some 1), (2, some 2), (3, some 16642), (4, some 16643), (5, some 16644), (6, some 16645)]) (l := [0 = 0, a0.length = a0.length, 0 = 0, (0 : Int) = 0, (((a0.length : Nat) : Int) : Int) = ((a0.length : Nat) : Int), ((IntKind.i64.wrap (((k1 : Nat) : Int) + 1)) : Int) = (((k1 + 1) : Nat) : Int), E3.cR a0 = E3.cR a0, AllPv (E3.cR a0), 0 = 0, (a1.things_ : Int) = a1.things_, 0 = 0, l2.length = l2.length, 0 = 0, l5.length = l5.length, E3.cR l2 = E3.cR l2, AllPv (E3.cR l2), mK m3 = mK m3, E4.mX m3 = E4.mX m3, AllPv (E4.mX m3), mK m4 = mK m4, E4.mX m4 = E4.mX m4, AllPv (E4.mX m4), E3.cR l5 = E3.cR l5, AllPv (E3.cR l5)]) (by as_aux_lemma => kernel_rfl) ⟨rfl, rfl, rfl, rfl, rfl, (wrap_nat (Int.ofNat_lt.1 (of_decide_eq_true c6)) (by omega)), rfl, (Elem.cR_pv _ _), rfl, rfl, rfl, rfl, rfl, rfl, rfl, (Elem.cR_pv _ _), rfl, rfl, (Elem.mX_pv _ _), rfl, rfl, (Elem.mX_pv _ _), rfl, (Elem.cR_pv _ _), trivial⟩
    · refine sk_leaf ?_
      obtain rfl := some_ h
      exact endM_ok [(0, some 0), (1, some 1), (2, some 2), (3, some 3), (4, some 4), (5, some 5), (6, some 6)] Try.results48 (ps := [((-1) : Int) = (-1), E3.cR a0 = E3.cR a0, AllPv (E3.cR a0), 0 = 0, (a1.things_ : Int) = a1.things_, 0 = 0, l2.length = l2.length, 0 = 0, l5.length = l5.length, E3.cR l2 = E3.cR l2, AllPv (E3.cR l2), mK m3 = mK m3, E4.mX m3 = E4.mX m3, AllPv (E4.mX m3), mK m4 = mK m4, E4.mX m4 = E4.mX m4, AllPv (E4.mX m4), E3.cR l5 = E3.cR l5, AllPv (E3.cR l5)]) (by as_aux_lemma => kernel_rfl) ⟨rfl, rfl, (Elem.cR_pv _ _), rfl, rfl, rfl, (by first | rfl | simp), rfl, (by first | rfl | simp), rfl, (Elem.cR_pv _ _), rfl, rfl, (Elem.mX_pv _ _), rfl, rfl, (Elem.mX_pv _ _), rfl, (Elem.cR_pv _ _), trivial⟩ (fun _ => ⟨rfl, by simp only [List.mem_cons, List.not_mem_nil, or_false, forall_eq_or_imp, forall_eq]; exact ⟨Elem.cR_bald E3_raw _, rfl, rfl, Elem.cR_bald E3_raw _, Elem.mX_bald E4_raw _, Elem.mX_bald E4_raw _, Elem.cR_bald E3_raw _⟩⟩)

set_option maxHeartbeats 40000000 in
set_option maxRecDepth 100000 in
theorem slices_DeleteFunc_int_wait_Play_1_h0_ok (a0 : (List Int)) (a1 : Wait_queue) (r : (List Int) × Wait_queue) (h : slices_DeleteFunc_int_wait_Play_1_h0 a0 a1 = some r) {al : Bool} : MCalls Try.prog 37 [.row 2 1 0 a0.length, .fn 39 [.ptr 0 0]] [.box [.ptr 1 0], .box [.pv (.raw (.int .i64 a1.things_)), .row 3 1 0 a1.line_.length, .map 4, .map 5, .row 6 1 0 a1.got_.length], .row 3 1 (E3.cR a0), .row 3 1 (E3.cR a1.line_), .map (mK a1.woken_) (E4.mX a1.woken_), .map (mK a1.sleeps_) (E4.mX a1.sleeps_), .row 3 1 (E3.cR a1.got_)] 2 al (.row 2 1 0 r.1.length) [.box [.ptr 1 0], .box [.pv (.raw (.int .i64 r.2.things_)), .row 3 1 0 r.2.line_.length, .map 4, .map 5, .row 6 1 0 r.2.got_.length], .row 3 1 (E3.cR r.1), .row 3 1 (E3.cR r.2.line_), .map (mK r.2.woken_) (E4.mX r.2.woken_), .map (mK r.2.sleeps_) (E4.mX r.2.sleeps_), .row 3 1 (E3.cR r.2.got_)] := by
  unfold slices_DeleteFunc_int_wait_Play_1_h0 at h
  refine fnM_ok tabOk (fz := [48, 1048576]) Try.func37 (by as_aux_lemma => kernel_rfl) (by as_aux_lemma => kernel_rfl) Try.ntmps37 (by simp) (by simp) ?_
  refine segs [] tabOk mixed 4000 (S := .leaf 0) (by as_aux_lemma => kernel_rfl) ?_
  refine sk_leaf ?_
  obtain ⟨r1, e2, h⟩ := bd_ h
  refine mcall_ok (d := some 10) (fn := 48) (ax := [.row 2 1 0 a0.length, .fn 39 [.ptr 0 0]]) (hs := [(2, .row 3 1 (E3.cR a0)), (0, .box [.ptr 1 0]), (1, .box [.pv (.raw (.int .i64 r1.2.things_)), .row 16547 1 0 r1.2.line_.length, .map 16548, .map 16549, .row 16550 1 0 r1.2.got_.length]), (16547, .row 3 1 (E3.cR r1.2.line_)), (16548, .map (mK r1.2.woken_) (E4.mX r1.2.woken_)), (16549, .map (mK r1.2.sleeps_) (E4.mX r1.2.sleeps_)), (16550, .row 3 1 (E3.cR r1.2.got_))]) (del := [3, 4, 5, 6]) (ps := [0 = 0, a0.length = a0.length, 0 = 0, E3.cR a0 = E3.cR a0, AllPv (E3.cR a0), 0 = 0, (a1.things_ : Int) = a1.things_, 0 = 0, a1.line_.length = a1.line_.length, 0 = 0, a1.got_.length = a1.got_.length, E3.cR a1.line_ = E3.cR a1.line_, AllPv (E3.cR a1.line_), mK a1.woken_ = mK a1.woken_, E4.mX a1.woken_ = E4.mX a1.woken_, AllPv (E4.mX a1.woken_), mK a1.sleeps_ = mK a1.sleeps_, E4.mX a1.sleeps_ = E4.mX a1.sleeps_, AllPv (E4.mX a1.sleeps_), E3.cR a1.got_ = E3.cR a1.got_, AllPv (E3.cR a1.got_)]) [(0, some 2), (1, some 0), (2, some 1), (3, some 3), (4, some 4), (5, some 5), (6, some 6)] (by as_aux_lemma => kernel_rfl) (slices_IndexFunc_int_wait_Play_1_h0_ok _ _ _ e2 (al := true)) (by as_aux_lemma => kernel_rfl) ⟨rfl, rfl, rfl, rfl, (Elem.cR_pv _ _), rfl, rfl, rfl, rfl, rfl, rfl, rfl, (Elem.cR_pv _ _), rfl, rfl, (Elem.mX_pv _ _), rfl, rfl, (Elem.mX_pv _ _), rfl, (Elem.cR_pv _ _), trivial⟩ (by as_aux_lemma => kernel_rfl) (by simp only [mset_row, mset_box, mset_nil, mset_map, List.set_set]; kernel_rfl) (by as_aux_lemma => kernel_rfl) ?_
  refine segs [] tabOk mixed 4000 (S := .br ((r1.1 : Int) == (-1)) (.leaf 0) (.leaf 1)) (by as_aux_lemma => kernel_rfl) ?_
  refine br_ h ?_ ?_ <;> clear h <;> intro c3 h
  · refine sk_leaf ?_
    obtain rfl := some_ h
    exact endM_ok [(0, some 0), (1, some 1), (2, some 2), (3, some 16547), (4, some 16548), (5, some 16549), (6, some 16550)] Try.results37 (ps := [0 = 0, a0.length = a0.length, 0 = 0, (r1.2.things_ : Int) = r1.2.things_, 0 = 0, r1.2.line_.length = r1.2.line_.length, 0 = 0, r1.2.got_.length = r1.2.got_.length, E3.cR a0 = E3.cR a0, AllPv (E3.cR a0), E3.cR r1.2.line_ = E3.cR r1.2.line_, AllPv (E3.cR r1.2.line_), mK r1.2.woken_ = mK r1.2.woken_, E4.mX r1.2.woken_ = E4.mX r1.2.woken_, AllPv (E4.mX r1.2.woken_), mK r1.2.sleeps_ = mK r1.2.sleeps_, E4.mX r1.2.sleeps_ = E4.mX r1.2.sleeps_, AllPv (E4.mX r1.2.sleeps_), E3.cR r1.2.got_ = E3.cR r1.2.got_, AllPv (E3.cR r1.2.got_)]) (by as_aux_lemma => kernel_rfl) ⟨rfl, (by first | rfl | simp), rfl, rfl, rfl, (by first | rfl | simp), rfl, (by first | rfl | simp), rfl, (Elem.cR_pv _ _), rfl, (Elem.cR_pv _ _), rfl, rfl, (Elem.mX_pv _ _), rfl, rfl, (Elem.mX_pv _ _), rfl, (Elem.cR_pv _ _), trivial⟩ (fun _ => ⟨rfl, by simp only [List.mem_cons, List.not_mem_nil, or_false, forall_eq_or_imp, forall_eq]; exact ⟨rfl, rfl, Elem.cR_bald E3_raw _, Elem.cR_bald E3_raw _, Elem.mX_bald E4_raw _, Elem.mX_bald E4_raw _, Elem.cR_bald E3_raw _⟩⟩)
  · refine sk_leaf ?_
    refine len_row (by as_aux_lemma => kernel_rfl) 2 (e := 3) (s := 1) (n := a0.length) (cs := E3.cR a0) (by as_aux_lemma => kernel_rfl) (Elem.cR_length _ _) ?_; intro hl1_0
    refine len_row (by as_aux_lemma => kernel_rfl) 16547 (e := 3) (s := 1) (n := r1.2.line_.length) (cs := E3.cR r1.2.line_) (by as_aux_lemma => kernel_rfl) (Elem.cR_length _ _) ?_; intro hl1_1
    refine len_row (by as_aux_lemma => kernel_rfl) 16550 (e := 3) (s := 1) (n := r1.2.got_.length) (cs := E3.cR r1.2.got_) (by as_aux_lemma => kernel_rfl) (Elem.cR_length _ _) ?_; intro hl1_2
    replace h : (fun (x : Nat × Int × Int × List Int × List (Int × Bool) × List (Int × Bool) × List Int × List Int) => slices_DeleteFunc_int_wait_Play_1_h0_l1 a0 r1 x.1 x.2.1 x.2.2.1 x.2.2.2.1 x.2.2.2.2.1 x.2.2.2.2.2.1 x.2.2.2.2.2.2.1 x.2.2.2.2.2.2.2 = some r) (FUEL, r1.1, (IntKind.i64.wrap (r1.1 + 1)), r1.2.line_, r1.2.woken_, r1.2.sleeps_, r1.2.got_, a0) := h
    refine loop_ok (by as_aux_lemma => kernel_rfl) (X := Nat × Int × Int × List Int × List (Int × Bool) × List (Int × Bool) × List Int × List Int) (fun x => slices_DeleteFunc_int_wait_Play_1_h0_l1 a0 r1 x.1 x.2.1 x.2.2.1 x.2.2.2.1 x.2.2.2.2.1 x.2.2.2.2.2.1 x.2.2.2.2.2.2.1 x.2.2.2.2.2.2.2 = some r) (fun x => x.1) (fun x => mk 42 [(0, .row 6 1 0 x.2.2.2.2.2.2.2.length), (1, .fn 39 [.ptr 0 0]), (4, .pv (.raw (.slice none 0 0))), (5, .pv (.raw (.int .i64 x.2.1))), (6, .pv (.raw (.int .i64 x.2.2.1)))] [(0, .box [.ptr 1 0]), (1, .box [.pv (.raw (.int .i64 r1.2.things_)), .row 2 1 0 x.2.2.2.1.length, .map 3, .map 4, .row 5 1 0 x.2.2.2.2.2.2.1.length]), (2, .row 3 1 (E3.cR x.2.2.2.1)), (3, .map (mK x.2.2.2.2.1) (E4.mX x.2.2.2.2.1)), (4, .map (mK x.2.2.2.2.2.1) (E4.mX x.2.2.2.2.2.1)), (5, .row 3 1 (E3.cR x.2.2.2.2.2.2.1)), (6, .row 3 1 (E3.cR x.2.2.2.2.2.2.2))] [48, 1048576] 2) (FUEL, r1.1, (IntKind.i64.wrap (r1.1 + 1)), r1.2.line_, r1.2.woken_, r1.2.sleeps_, r1.2.got_, a0) h ?_ ?_
    · exact sub_ok (ρ := [(0, some 0), (1, some 1), (2, some 16547), (3, some 16548), (4, some 16549), (5, some 16550), (6, some 2)]) (l := [0 = 0, a0.length = a0.length, 0 = 0, (r1.1 : Int) = r1.1, ((IntKind.i64.wrap (r1.1 + 1)) : Int) = (IntKind.i64.wrap (r1.1 + 1)), 0 = 0, (r1.2.things_ : Int) = r1.2.things_, 0 = 0, r1.2.line_.length = r1.2.line_.length, 0 = 0, r1.2.got_.length = r1.2.got_.length, E3.cR r1.2.line_ = E3.cR r1.2.line_, AllPv (E3.cR r1.2.line_), mK r1.2.woken_ = mK r1.2.woken_, E4.mX r1.2.woken_ = E4.mX r1.2.woken_, AllPv (E4.mX r1.2.woken_), mK r1.2.sleeps_ = mK r1.2.sleeps_, E4.mX r1.2.sleeps_ = E4.mX r1.2.sleeps_, AllPv (E4.mX r1.2.sleeps_), E3.cR r1.2.got_ = E3.cR r1.2.got_, AllPv (E3.cR r1.2.got_), E3.cR a0 = E3.cR a0, AllPv (E3.cR a0)]) (by as_aux_lemma => kernel_rfl) ⟨rfl, rfl, rfl, rfl, rfl, rfl, rfl, rfl, rfl, rfl, rfl, rfl, (Elem.cR_pv _ _), rfl, rfl, (Elem.mX_pv _ _), rfl, rfl, (Elem.mX_pv _ _), rfl, (Elem.cR_pv _ _), rfl, (Elem.cR_pv _ _), trivial⟩
    · clear h; rintro ⟨n1, x4, x5, l6, m7, m8, l9, l10⟩ h p1 hp1
      obtain _ | n1 := n1
      · cases (show (none : Option ((List Int) × Wait_queue)) = some r from h)
      have h : slices_DeleteFunc_int_wait_Play_1_h0_l1 a0 r1 (n1 + 1) x4 x5 l6 m7 m8 l9 l10 = some r := h
      unfold slices_DeleteFunc_int_wait_Play_1_h0_l1 at h
      refine segs [] tabOk mixed 4000 (S := .br (decide ((x5 : Int) < ((l10.length : Nat) : Int))) (.and (0 ≤ (x5 : Int) ∧ x5 < ((l10.length : Nat) : Int)) (.leaf 0)) (.and (0 ≤ (x4 : Int)) (.and ((Int.toNat x4) ≤ l10.length) (.leaf 1)))) (by as_aux_lemma => kernel_rfl) ?_
      refine br_ h ?_ ?_ <;> clear h <;> intro c11 h
      · refine gd_ h ?_; clear h; intro g12 h
        refine sk_leaf ?_
        refine ld_ok (d := 25) (id := 6) (i := (0 + (Int.toNat x5))) (j := 0) (e := 3) (n := 1) E3 (xs := l10) (by as_aux_lemma => kernel_rfl) (by as_aux_lemma => kernel_rfl) (by first | omega | (simp at * <;> omega) | (simp_all <;> omega)) (by exact Nat.le_of_ble_eq_true rfl) ?_
        refine segs [] tabOk mixed 4000 (S := .leaf 0) (by as_aux_lemma => kernel_rfl) ?_
        refine sk_leaf ?_
        obtain ⟨r13, e14, h⟩ := bd_ h
        refine mcall_ok (d := some 28) (fn := 39) (ax := [.pv (.raw (.int .i64 (l10.getD (0 + (Int.toNat x5)) 0))), .ptr 0 0]) (hs := [(0, .box [.ptr 1 0]), (1, .box [.pv (.raw (.int .i64 r1.2.things_)), .row 16834 1 0 l6.length, .map 16835, .map 16836, .row 16837 1 0 l9.length]), (16834, .row 3 1 (E3.cR l6)), (16835, .map (mK m7) (E4.mX m7)), (16836, .map (mK m8) (E4.mX m8)), (16837, .row 3 1 (E3.cR l9))]) (del := [2, 3, 4, 5]) (ps := [((l10.getD (0 + (Int.toNat x5)) 0) : Int) = (l10.getD (0 + (Int.toNat x5)) 0), 0 = 0, 0 = 0, (r1.2.things_ : Int) = r1.2.things_, 0 = 0, l6.length = l6.length, 0 = 0, l9.length = l9.length, E3.cR l6 = E3.cR l6, AllPv (E3.cR l6), mK m7 = mK m7, E4.mX m7 = E4.mX m7, AllPv (E4.mX m7), mK m8 = mK m8, E4.mX m8 = E4.mX m8, AllPv (E4.mX m8), E3.cR l9 = E3.cR l9, AllPv (E3.cR l9)]) [(0, some 0), (1, some 1), (2, some 2), (3, some 3), (4, some 4), (5, some 5)] (by as_aux_lemma => kernel_rfl) (wait_Play_1_ok _ _ _ e14 (al := true)) (by as_aux_lemma => kernel_rfl) ⟨rfl, rfl, rfl, rfl, rfl, rfl, rfl, rfl, rfl, (Elem.cR_pv _ _), rfl, rfl, (Elem.mX_pv _ _), rfl, rfl, (Elem.mX_pv _ _), rfl, (Elem.cR_pv _ _), trivial⟩ (by as_aux_lemma => kernel_rfl) (by simp only [mset_row, mset_box, mset_nil, mset_map, List.set_set]; kernel_rfl) (by as_aux_lemma => kernel_rfl) ?_
        refine segs [] tabOk mixed 4000 (S := .br (!r13) (.and (0 ≤ (x4 : Int) ∧ x4 < ((l10.length : Nat) : Int)) (.leaf 0)) (.leaf 1)) (by as_aux_lemma => kernel_rfl) ?_
        refine br_ h ?_ ?_ <;> clear h <;> intro c15 h
        · refine gd_ h ?_; clear h; intro g16 h
          refine sk_leaf ?_
          refine st_ok (id := 6) (i := (0 + (Int.toNat x4))) (j := 0) (e := 3) (vs := [.pv (.raw (.int .i64 (l10.getD (0 + (Int.toNat x5)) 0)))]) E3 (xs := l10) (l10.getD (0 + (Int.toNat x5)) 0) (by as_aux_lemma => kernel_rfl) (by as_aux_lemma => kernel_rfl) (by first | omega | (simp at * <;> omega) | (simp_all <;> omega)) (by exact Nat.le_of_ble_eq_true rfl) rfl ?_
          refine segs [] tabOk mixed 4000 (S := .leaf 0) (by as_aux_lemma => kernel_rfl) ?_
          refine sk_leaf ?_
          refine back_ok (p := p1) (by as_aux_lemma => kernel_rfl) (hp1 (n1, (IntKind.i64.wrap (x4 + 1)), (IntKind.i64.wrap (x5 + 1)), l6, m7, m8, l9, (l10.set (0 + (Int.toNat x4)) (l10.getD (0 + (Int.toNat x5)) 0))) _ h (Nat.lt_succ_self n1) ?_)
          exact sub_ok (ρ := [(0, some 0), (1, some 1), (2, some 16834), (3, some 16835), (4, some 16836), (5, some 16837), (6, some 6)]) (l := [0 = 0, l10.length = ((l10.set (0 + (Int.toNat x4)) (l10.getD (0 + (Int.toNat x5)) 0)).length), 0 = 0, ((IntKind.i64.wrap (x4 + 1)) : Int) = (IntKind.i64.wrap (x4 + 1)), ((IntKind.i64.wrap (x5 + 1)) : Int) = (IntKind.i64.wrap (x5 + 1)), 0 = 0, (r1.2.things_ : Int) = r1.2.things_, 0 = 0, l6.length = l6.length, 0 = 0, l9.length = l9.length, E3.cR l6 = E3.cR l6, AllPv (E3.cR l6), mK m7 = mK m7, E4.mX m7 = E4.mX m7, AllPv (E4.mX m7), mK m8 = mK m8, E4.mX m8 = E4.mX m8, AllPv (E4.mX m8), E3.cR l9 = E3.cR l9, AllPv (E3.cR l9), E3.cR (l10.set (0 + (Int.toNat x4)) (l10.getD (0 + (Int.toNat x5)) 0)) = E3.cR (l10.set (0 + (Int.toNat x4)) (l10.getD (0 + (Int.toNat x5)) 0)), AllPv (E3.cR (l10.set (0 + (Int.toNat x4)) (l10.getD (0 + (Int.toNat x5)) 0)))]) (by as_aux_lemma => kernel_rfl) ⟨rfl, (by first | rfl | (simp; done) | omega | (simp <;> omega)), rfl, rfl, rfl, rfl, rfl, rfl, rfl, rfl, rfl, rfl, (Elem.cR_pv _ _), rfl, rfl, (Elem.mX_pv _ _), rfl, rfl, (Elem.mX_pv _ _), rfl, (Elem.cR_pv _ _), rfl, (Elem.cR_pv _ _), trivial⟩
        · refine sk_leaf ?_
          refine back_ok (p := p1) (by as_aux_lemma => kernel_rfl) (hp1 (n1, x4, (IntKind.i64.wrap (x5 + 1)), l6, m7, m8, l9, l10) _ h (Nat.lt_succ_self n1) ?_)
          exact sub_ok (ρ := [(0, some 0), (1, some 1), (2, some 16834), (3, some 16835), (4, some 16836), (5, some 16837), (6, some 6)]) (l := [0 = 0, l10.length = l10.length, 0 = 0, (x4 : Int) = x4, ((IntKind.i64.wrap (x5 + 1)) : Int) = (IntKind.i64.wrap (x5 + 1)), 0 = 0, (r1.2.things_ : Int) = r1.2.things_, 0 = 0, l6.length = l6.length, 0 = 0, l9.length = l9.length, E3.cR l6 = E3.cR l6, AllPv (E3.cR l6), mK m7 = mK m7, E4.mX m7 = E4.mX m7, AllPv (E4.mX m7), mK m8 = mK m8, E4.mX m8 = E4.mX m8, AllPv (E4.mX m8), E3.cR l9 = E3.cR l9, AllPv (E3.cR l9), E3.cR l10 = E3.cR l10, AllPv (E3.cR l10)]) (by as_aux_lemma => kernel_rfl) ⟨rfl, rfl, rfl, rfl, rfl, rfl, rfl, rfl, rfl, rfl, rfl, rfl, (Elem.cR_pv _ _), rfl, rfl, (Elem.mX_pv _ _), rfl, rfl, (Elem.mX_pv _ _), rfl, (Elem.cR_pv _ _), rfl, (Elem.cR_pv _ _), trivial⟩
      · refine gd_ h ?_; clear h; intro g17 h
        refine gd_ h ?_; clear h; intro g18 h
        refine sk_leaf ?_
        obtain ⟨g19, h⟩ := if_ h
        refine cl_ok (s := 1) (id := 6) (e := 3) (off := (0 + (Int.toNat x4))) (len := (l10.length - (Int.toNat x4))) E3 (xs := l10) (by as_aux_lemma => kernel_rfl) rfl rfl (by as_aux_lemma => kernel_rfl) g19 ?_
        refine segs [] tabOk mixed 4000 (S := .and (0 ≤ (x4 : Int)) (.and ((Int.toNat x4) ≤ l10.length) (.leaf 0))) (by as_aux_lemma => kernel_rfl) ?_
        refine gd_ h ?_; clear h; intro g20 h
        refine gd_ h ?_; clear h; intro g21 h
        refine sk_leaf ?_
        obtain rfl := some_ h
        exact endR_ok E3 (xs := (cpL l10 (0 + (Int.toNat x4)) (l10.length - (Int.toNat x4)) (List.replicate (l10.length - (Int.toNat x4)) (0 : Int)))) 6 (0 + 0) 17056 ((Int.toNat x4) - 0) 3 1 rfl (by as_aux_lemma => kernel_rfl) (by first | omega | (simp at * <;> omega) | (simp_all <;> omega)) (by as_aux_lemma => kernel_rfl) [(0, some 0), (1, some 1), (2, some 17056), (3, some 2), (4, some 3), (5, some 4), (6, some 5)] Try.results37 (ps := [0 = 0, ((Int.toNat x4) - 0) = (((cpL l10 (0 + (Int.toNat x4)) (l10.length - (Int.toNat x4)) (List.replicate (l10.length - (Int.toNat x4)) (0 : Int))).drop (0 + 0)).take ((Int.toNat x4) - 0)).length, 0 = 0, (r1.2.things_ : Int) = r1.2.things_, 0 = 0, l6.length = l6.length, 0 = 0, l9.length = l9.length, E3.cR (((cpL l10 (0 + (Int.toNat x4)) (l10.length - (Int.toNat x4)) (List.replicate (l10.length - (Int.toNat x4)) (0 : Int))).drop (0 + 0)).take ((Int.toNat x4) - 0)) = E3.cR (((cpL l10 (0 + (Int.toNat x4)) (l10.length - (Int.toNat x4)) (List.replicate (l10.length - (Int.toNat x4)) (0 : Int))).drop (0 + 0)).take ((Int.toNat x4) - 0)), AllPv (E3.cR (((cpL l10 (0 + (Int.toNat x4)) (l10.length - (Int.toNat x4)) (List.replicate (l10.length - (Int.toNat x4)) (0 : Int))).drop (0 + 0)).take ((Int.toNat x4) - 0))), E3.cR l6 = E3.cR l6, AllPv (E3.cR l6), mK m7 = mK m7, AV.rbL 6 (0 + 0) 17056 1 (E4.mX m7) = E4.mX m7, AllPv (E4.mX m7), mK m8 = mK m8, AV.rbL 6 (0 + 0) 17056 1 (E4.mX m8) = E4.mX m8, AllPv (E4.mX m8), E3.cR l9 = E3.cR l9, AllPv (E3.cR l9)]) (by as_aux_lemma => kernel_rfl) ⟨rfl, (by first | omega | (simp; done) | (simp <;> omega) | (simp at * <;> omega)), rfl, rfl, rfl, (by first | rfl | simp), rfl, (by first | rfl | simp), rfl, (Elem.cR_pv _ _), rfl, (Elem.cR_pv _ _), rfl, (rbL_pv _ _ _ _ (Elem.mX_pv _ _)), (Elem.mX_pv _ _), rfl, (rbL_pv _ _ _ _ (Elem.mX_pv _ _)), (Elem.mX_pv _ _), rfl, (Elem.cR_pv _ _), trivial⟩ (fun _ => ⟨rfl, by simp only [List.mem_cons, List.not_mem_nil, or_false, forall_eq_or_imp, forall_eq]; exact ⟨rfl, rfl, Elem.cR_bald E3_raw _, Elem.cR_bald E3_raw _, Elem.mX_bald E4_raw _, Elem.mX_bald E4_raw _, Elem.cR_bald E3_raw _⟩⟩)

set_option maxHeartbeats 40000000 in
set_option maxRecDepth 100000 in
theorem wait_Play_ok (a0 : (List Api_WaitOp)) (r : (List Int) × (List Int) × (List Int) × Int) (h : wait_Play a0 = some r) {al : Bool} : PCalls Try.prog 26 [.pv ((E65.ro a0))] al (.tup [.row 0 1 0 r.1.length, .row 1 1 0 r.2.1.length, .row 2 1 0 r.2.2.1.length, .pv (.raw (.int .i64 r.2.2.2))]) [.row 29 1 (E29.cR r.1), .row 3 1 (E3.cR r.2.1), .row 3 1 (E3.cR r.2.2.1)] := by
  unfold wait_Play at h
  refine fnZ_ok tabOk [36, 37] Try.func26 (by as_aux_lemma => kernel_rfl) (by as_aux_lemma => kernel_rfl) Try.ntmps26 (by simp) ?_
  refine segs [] tabOk mixed 4000 (S := .leaf 0) (by as_aux_lemma => kernel_rfl) ?_
  refine sk_leaf ?_
  refine mk_ok (d := 11) (by as_aux_lemma => kernel_rfl) (by as_aux_lemma => kernel_rfl) ?_
  refine segs [] tabOk mixed 4000 (S := .leaf 0) (by as_aux_lemma => kernel_rfl) ?_
  refine sk_leaf ?_
  refine mk_ok (d := 12) (by as_aux_lemma => kernel_rfl) (by as_aux_lemma => kernel_rfl) ?_
  refine segs [] tabOk mixed 4000 (S := .leaf 0) (by as_aux_lemma => kernel_rfl) ?_
  refine sk_leaf ?_
  refine len_ro (by as_aux_lemma => kernel_rfl) 15 (s := 2) (n := a0.length) (c := fun i j => E65.cf (a0.getD i E65.z) j) (by as_aux_lemma => kernel_rfl) ?_; intro hl1_0
  replace h : (fun (x : Nat × List Int × Nat × Int × List Int × List (Int × Bool) × List (Int × Bool) × List Int) => wait_Play_l1 a0 x.1 x.2.1 x.2.2.1 x.2.2.2.1 x.2.2.2.2.1 x.2.2.2.2.2.1 x.2.2.2.2.2.2.1 x.2.2.2.2.2.2.2 = some r) (FUEL, ([] : List Int), 0, 0, ([] : List Int), ([] : List (Int × Bool)), ([] : List (Int × Bool)), ([] : List Int)) := h
  refine loop_ok (by as_aux_lemma => kernel_rfl) (X := Nat × List Int × Nat × Int × List Int × List (Int × Bool) × List (Int × Bool) × List Int) (fun x => wait_Play_l1 a0 x.1 x.2.1 x.2.2.1 x.2.2.2.1 x.2.2.2.2.1 x.2.2.2.2.2.1 x.2.2.2.2.2.2.1 x.2.2.2.2.2.2.2 = some r) (fun x => x.1) (fun x => mk 45 [(2, .pv (.raw (.slice none 0 0))), (3, .pv (.raw (.slice none 0 0))), (4, .pv (.raw (.slice none 0 0))), (5, .pv (.raw (.int .i64 0))), (6, .ptr 0 0), (7, .row 4 1 0 x.2.1.length), (15, .pv ((E65.ro a0))), (16, .pv (.raw (.int .i64 ((a0.length : Nat) : Int)))), (17, .pv (.raw (.int .i64 ((x.2.2.1 : Nat) : Int))))] [(0, .box [.ptr 1 0]), (1, .box [.pv (.raw (.int .i64 x.2.2.2.1)), .row 5 1 0 x.2.2.2.2.1.length, .map 2, .map 3, .row 6 1 0 x.2.2.2.2.2.2.2.length]), (2, .map (mK x.2.2.2.2.2.1) (E4.mX x.2.2.2.2.2.1)), (3, .map (mK x.2.2.2.2.2.2.1) (E4.mX x.2.2.2.2.2.2.1)), (4, .row 29 1 (E29.cR x.2.1)), (5, .row 3 1 (E3.cR x.2.2.2.2.1)), (6, .row 3 1 (E3.cR x.2.2.2.2.2.2.2))] [36, 37]) (FUEL, ([] : List Int), 0, 0, ([] : List Int), ([] : List (Int × Bool)), ([] : List (Int × Bool)), ([] : List Int)) h ?_ ?_
  · exact sub_ok (ρ := [(0, some 16480), (1, some 16608), (2, some 16560), (3, some 16576), (4, none), (5, none), (6, none)]) (l := [(0 : Int) = 0, 0 = 0, 0 = 0, (([] : List Int).length) = 0, a0.length = a0.length, ∀ i, i < a0.length → ∀ j, j < 2 → E65.cf (a0.getD i E65.z) j = E65.cf (a0.getD i E65.z) j, (((a0.length : Nat) : Int) : Int) = ((a0.length : Nat) : Int), (0 : Int) = ((0 : Nat) : Int), 0 = 0, (0 : Int) = 0, 0 = 0, (([] : List Int).length) = 0, 0 = 0, (([] : List Int).length) = 0, mK ([] : List (Int × Bool)) = mK ([] : List (Int × Bool)), E4.mX ([] : List (Int × Bool)) = E4.mX ([] : List (Int × Bool)), AllPv (E4.mX ([] : List (Int × Bool))), mK ([] : List (Int × Bool)) = mK ([] : List (Int × Bool)), E4.mX ([] : List (Int × Bool)) = E4.mX ([] : List (Int × Bool)), AllPv (E4.mX ([] : List (Int × Bool))), E29.cR ([] : List Int) = [], E3.cR ([] : List Int) = [], E3.cR ([] : List Int) = []]) (by as_aux_lemma => kernel_rfl) ⟨rfl, rfl, rfl, (by first | rfl | simp), rfl, fun _ _ _ _ => rfl, rfl, (by first | rfl | simp), rfl, rfl, rfl, (by first | rfl | simp), rfl, (by first | rfl | simp), rfl, rfl, (Elem.mX_pv _ _), rfl, rfl, (Elem.mX_pv _ _), rfl, rfl, rfl, trivial⟩
  · clear h; rintro ⟨n1, l1, k2, x3, l4, m5, m6, l7⟩ h p1 hp1
    obtain _ | n1 := n1
    · cases (show (none : Option ((List Int) × (List Int) × (List Int) × Int)) = some r from h)
    have h : wait_Play_l1 a0 (n1 + 1) l1 k2 x3 l4 m5 m6 l7 = some r := h
    unfold wait_Play_l1 at h
    refine segs [] tabOk mixed 4000 (S := .br (decide ((((k2 : Nat) : Int) : Int) < ((a0.length : Nat) : Int))) (.and (0 ≤ (((k2 : Nat) : Int) : Int) ∧ ((k2 : Nat) : Int) < ((a0.length : Nat) : Int)) (.leaf 0)) (.leaf 1)) (by as_aux_lemma => kernel_rfl) ?_
    refine br_ h ?_ ?_ <;> clear h <;> intro c8 h
    · refine sk_and ⟨Int.natCast_nonneg _, of_decide_eq_true c8⟩ ?_
      refine sk_leaf ?_
      obtain ⟨r10, e11, h⟩ := bd_ h
      refine mcall_ok (d := some 24) (fn := 36) (ax := [.ptr 1 0, .agg [.pv (.raw (.int .i64 ((a0.getD k2 (⟨0, 0⟩ : Api_WaitOp)).Kind))), .pv (.raw (.int .i64 ((a0.getD k2 (⟨0, 0⟩ : Api_WaitOp)).Thread)))]]) (hs := [(1, .box [.pv (.raw (.int .i64 r10.2.things_)), .row 16769 1 0 r10.2.line_.length, .map 16770, .map 16771, .row 16772 1 0 r10.2.got_.length]), (16769, .row 3 1 (E3.cR r10.2.line_)), (16770, .map (mK r10.2.woken_) (E4.mX r10.2.woken_)), (16771, .map (mK r10.2.sleeps_) (E4.mX r10.2.sleeps_)), (16772, .row 3 1 (E3.cR r10.2.got_))]) (del := [5, 2, 3, 6]) (ps := [0 = 0, ((a0.getD k2 (⟨0, 0⟩ : Api_WaitOp)).Kind : Int) = ((a0.getD k2 (⟨0, 0⟩ : Api_WaitOp)).Kind), ((a0.getD k2 (⟨0, 0⟩ : Api_WaitOp)).Thread : Int) = ((a0.getD k2 (⟨0, 0⟩ : Api_WaitOp)).Thread), (x3 : Int) = x3, 0 = 0, l4.length = l4.length, 0 = 0, l7.length = l7.length, E3.cR l4 = E3.cR l4, AllPv (E3.cR l4), mK m5 = mK m5, E4.mX m5 = E4.mX m5, AllPv (E4.mX m5), mK m6 = mK m6, E4.mX m6 = E4.mX m6, AllPv (E4.mX m6), E3.cR l7 = E3.cR l7, AllPv (E3.cR l7)]) [(0, some 1), (1, some 5), (2, some 2), (3, some 3), (4, some 6)] (by as_aux_lemma => kernel_rfl) (wait_queue_do_ok _ _ _ e11 (al := true)) (by as_aux_lemma => kernel_rfl) ⟨rfl, rfl, rfl, rfl, rfl, rfl, rfl, rfl, rfl, (Elem.cR_pv _ _), rfl, rfl, (Elem.mX_pv _ _), rfl, rfl, (Elem.mX_pv _ _), rfl, (Elem.cR_pv _ _), trivial⟩ (by as_aux_lemma => kernel_rfl) (by simp only [mset_row, mset_box, mset_nil, mset_map, List.set_set]; kernel_rfl) (by as_aux_lemma => kernel_rfl) ?_
      refine segs [] tabOk mixed 4000 (S := .leaf 0) (by as_aux_lemma => kernel_rfl) ?_
      refine sk_leaf ?_
      refine bs_ok (d := 25) (e := 29) (s := 1) (n := 1) (cs := [.pv (.raw (.int .i64 r10.1))]) (cs' := E29.cR [r10.1]) (by as_aux_lemma => kernel_rfl) rfl (by as_aux_lemma => kernel_rfl) ?_
      refine segs [] tabOk mixed 4000 (S := .leaf 0) (by as_aux_lemma => kernel_rfl) ?_
      refine sk_leaf ?_
      obtain ⟨g12, h⟩ := if_ h
      refine app_ok (d := 26) (e := 29) (s := 1) (b := 8) (x := .row 4 1 0 l1.length) (y := .row 16784 1 0 1) E29 (xs := l1) (ys := [r10.1]) (by as_aux_lemma => kernel_rfl) rfl (.row 4 l1 l1.length rfl (by as_aux_lemma => kernel_rfl)) (.all 16784 29 [r10.1] 1 rfl (by as_aux_lemma => kernel_rfl)) g12 (by as_aux_lemma => kernel_rfl) ?_
      refine segs [] tabOk mixed 4000 (S := .leaf 0) (by as_aux_lemma => kernel_rfl) ?_
      refine sk_leaf ?_
      refine back_ok (p := p1) (by as_aux_lemma => kernel_rfl) (hp1 (n1, (l1 ++ [r10.1]), k2 + 1, r10.2.things_, r10.2.line_, r10.2.woken_, r10.2.sleeps_, r10.2.got_) _ h (Nat.lt_succ_self n1) ?_)
      exact sub_ok (ρ := [(0, some 0), (1, some 1), (2, some 16770), (3, some 16771), (4, some 16800), (5, some 16769), (6, some 16772)]) (l := [(0 : Int) = 0, 0 = 0, 0 = 0, ((l1 ++ [r10.1]).length) = ((l1 ++ [r10.1]).length), a0.length = a0.length, ∀ i, i < a0.length → ∀ j, j < 2 → E65.cf (a0.getD i E65.z) j = E65.cf (a0.getD i E65.z) j, (((a0.length : Nat) : Int) : Int) = ((a0.length : Nat) : Int), ((IntKind.i64.wrap (((k2 : Nat) : Int) + 1)) : Int) = (((k2 + 1) : Nat) : Int), 0 = 0, (r10.2.things_ : Int) = r10.2.things_, 0 = 0, r10.2.line_.length = r10.2.line_.length, 0 = 0, r10.2.got_.length = r10.2.got_.length, mK r10.2.woken_ = mK r10.2.woken_, E4.mX r10.2.woken_ = E4.mX r10.2.woken_, AllPv (E4.mX r10.2.woken_), mK r10.2.sleeps_ = mK r10.2.sleeps_, E4.mX r10.2.sleeps_ = E4.mX r10.2.sleeps_, AllPv (E4.mX r10.2.sleeps_), E29.cR (l1 ++ [r10.1]) = E29.cR (l1 ++ [r10.1]), AllPv (E29.cR (l1 ++ [r10.1])), E3.cR r10.2.line_ = E3.cR r10.2.line_, AllPv (E3.cR r10.2.line_), E3.cR r10.2.got_ = E3.cR r10.2.got_, AllPv (E3.cR r10.2.got_)]) (by as_aux_lemma => kernel_rfl) ⟨rfl, rfl, rfl, rfl, rfl, fun _ _ _ _ => rfl, rfl, (wrap_nat (Int.ofNat_lt.1 (of_decide_eq_true c8)) (by omega)), rfl, rfl, rfl, rfl, rfl, rfl, rfl, rfl, (Elem.mX_pv _ _), rfl, rfl, (Elem.mX_pv _ _), rfl, (Elem.cR_pv _ _), rfl, (Elem.cR_pv _ _), rfl, (Elem.cR_pv _ _), trivial⟩
    · refine sk_leaf ?_
      obtain ⟨r13, e14, h⟩ := bd_ h
      refine call_ok (d := some 32) (fn := 38) (ax := [.row 5 1 0 l4.length]) (args := [.pv ((E3.ro l4))]) (ps := [l4.length = l4.length, rowQ (E3.cR l4) 1 0 l4.length (fun i j => E3.cf (l4.getD i E3.z) j)]) (hb' := [.row 3 1 (E3.cR r13)]) (by as_aux_lemma => kernel_rfl) (slices_Clone_int_ok _ _ e14 (al := false)) (by as_aux_lemma => kernel_rfl) ⟨(by first | rfl | exact Elem.sub_len _ (by omega) | omega | simp | (simp <;> omega)), E3.rowQ_all l4 rfl, trivial⟩ (fun hx => by cases hx) (by simp) (by simp only [List.map_cons, List.map_nil, Elem.row_up, up_map] <;> rfl) (by as_aux_lemma => kernel_rfl) ?_
      refine segs [] tabOk mixed 4000 (S := .leaf 0) (by as_aux_lemma => kernel_rfl) ?_
      refine sk_leaf ?_
      obtain ⟨r15, e16, h⟩ := bd_ h
      refine mcall_ok (d := some 34) (fn := 37) (ax := [.row 16896 1 0 r13.length, .fn 39 [.ptr 0 0]]) (hs := [(0, .box [.ptr 1 0]), (1, .box [.pv (.raw (.int .i64 r15.2.things_)), .row 16931 1 0 r15.2.line_.length, .map 16932, .map 16933, .row 16934 1 0 r15.2.got_.length]), (16930, .row 3 1 (E3.cR r15.1)), (16931, .row 3 1 (E3.cR r15.2.line_)), (16932, .map (mK r15.2.woken_) (E4.mX r15.2.woken_)), (16933, .map (mK r15.2.sleeps_) (E4.mX r15.2.sleeps_)), (16934, .row 3 1 (E3.cR r15.2.got_))]) (del := [16896, 5, 2, 3, 6]) (ps := [0 = 0, r13.length = r13.length, 0 = 0, 0 = 0, (x3 : Int) = x3, 0 = 0, l4.length = l4.length, 0 = 0, l7.length = l7.length, E3.cR r13 = E3.cR r13, AllPv (E3.cR r13), E3.cR l4 = E3.cR l4, AllPv (E3.cR l4), mK m5 = mK m5, E4.mX m5 = E4.mX m5, AllPv (E4.mX m5), mK m6 = mK m6, E4.mX m6 = E4.mX m6, AllPv (E4.mX m6), E3.cR l7 = E3.cR l7, AllPv (E3.cR l7)]) [(0, some 0), (1, some 1), (2, some 16896), (3, some 5), (4, some 2), (5, some 3), (6, some 6)] (by as_aux_lemma => kernel_rfl) (slices_DeleteFunc_int_wait_Play_1_h0_ok _ _ _ e16 (al := true)) (by as_aux_lemma => kernel_rfl) ⟨rfl, rfl, rfl, rfl, rfl, rfl, rfl, rfl, rfl, rfl, (Elem.cR_pv _ _), rfl, (Elem.cR_pv _ _), rfl, rfl, (Elem.mX_pv _ _), rfl, rfl, (Elem.mX_pv _ _), rfl, (Elem.cR_pv _ _), trivial⟩ (by as_aux_lemma => kernel_rfl) (by simp only [mset_row, mset_box, mset_nil, mset_map, List.set_set]; kernel_rfl) (by as_aux_lemma => kernel_rfl) ?_
      refine segs [] tabOk mixed 4000 (S := .leaf 0) (by as_aux_lemma => kernel_rfl) ?_
      refine sk_leaf ?_
      obtain rfl := some_ h
      exact end_ok [(0, some 4), (1, some 16934), (2, some 16930)] Try.results26 (ps := [0 = 0, l1.length = l1.length, 0 = 0, r15.2.got_.length = r15.2.got_.length, 0 = 0, r15.1.length = r15.1.length, (r15.2.things_ : Int) = r15.2.things_, E29.cR l1 = E29.cR l1, AllPv (E29.cR l1), E3.cR r15.2.got_ = E3.cR r15.2.got_, AllPv (E3.cR r15.2.got_), E3.cR r15.1 = E3.cR r15.1, AllPv (E3.cR r15.1)]) (by as_aux_lemma => kernel_rfl) ⟨rfl, (by first | rfl | simp), rfl, (by first | rfl | simp), rfl, (by first | rfl | simp), rfl, rfl, (Elem.cR_pv _ _), rfl, (Elem.cR_pv _ _), rfl, (Elem.cR_pv _ _), trivial⟩ (fun _ => ⟨rfl, by simp only [List.mem_cons, List.not_mem_nil, or_false, forall_eq_or_imp, forall_eq]; exact ⟨Elem.cR_bald E29_raw _, Elem.cR_bald E3_raw _, Elem.cR_bald E3_raw _⟩⟩)

set_option maxHeartbeats 40000000 in
set_option maxRecDepth 100000 in
theorem slices_Equal_api_Errno_ok (a0 : (List Int)) (a1 : (List Int)) (r : Bool) (h : slices_Equal_api_Errno a0 a1 = some r) {al : Bool} : PCalls Try.prog 30 [.pv ((E29.ro a0)), .pv ((E29.ro a1))] al (.pv (.raw (.bool r))) [] := by
  unfold slices_Equal_api_Errno at h
  refine fn_ok tabOk Try.func30 (by as_aux_lemma => kernel_rfl) (by as_aux_lemma => kernel_rfl) Try.ntmps30 (by simp) ?_
  refine segs [] tabOk mixed 4000 (S := .br ((((a0.length : Nat) : Int) : Int) != ((a1.length : Nat) : Int)) (.leaf 0) (.leaf 1)) (by as_aux_lemma => kernel_rfl) ?_
  refine br_ h ?_ ?_ <;> clear h <;> intro c1 h
  · refine sk_leaf ?_
    obtain rfl := some_ h
    exact end_ok [] Try.results30 (ps := [false = false]) (by as_aux_lemma => kernel_rfl) ⟨rfl, trivial⟩ (fun _ => ⟨rfl, by simp⟩)
  · refine sk_leaf ?_
    refine len_ro (by as_aux_lemma => kernel_rfl) 0 (s := 1) (n := a0.length) (c := fun i j => E29.cf (a0.getD i E29.z) j) (by as_aux_lemma => kernel_rfl) ?_; intro hl1_0
    refine len_ro (by as_aux_lemma => kernel_rfl) 1 (s := 1) (n := a1.length) (c := fun i j => E29.cf (a1.getD i E29.z) j) (by as_aux_lemma => kernel_rfl) ?_; intro hl1_1
    replace h : (fun (x : Nat × Nat) => slices_Equal_api_Errno_l1 a0 a1 x.1 x.2 = some r) (FUEL, 0) := h
    refine loop_ok (by as_aux_lemma => kernel_rfl) (X := Nat × Nat) (fun x => slices_Equal_api_Errno_l1 a0 a1 x.1 x.2 = some r) (fun x => x.1) (fun x => mk 26 [(0, .pv ((E29.ro a0))), (1, .pv ((E29.ro a1))), (4, .pv (.raw (.bool false))), (12, .pv (.raw (.int .i64 ((a0.length : Nat) : Int)))), (13, .pv (.raw (.int .i64 ((x.2 : Nat) : Int))))] []) (FUEL, 0) h ?_ ?_
    · exact sub_ok (ρ := []) (l := [a0.length = a0.length, ∀ i, i < a0.length → ∀ j, j < 1 → E29.cf (a0.getD i E29.z) j = E29.cf (a0.getD i E29.z) j, a1.length = a1.length, ∀ i, i < a1.length → ∀ j, j < 1 → E29.cf (a1.getD i E29.z) j = E29.cf (a1.getD i E29.z) j, false = false, (((a0.length : Nat) : Int) : Int) = ((a0.length : Nat) : Int), (0 : Int) = ((0 : Nat) : Int)]) (by as_aux_lemma => kernel_rfl) ⟨rfl, fun _ _ _ _ => rfl, rfl, fun _ _ _ _ => rfl, rfl, rfl, (by first | rfl | simp), trivial⟩
    · clear h; rintro ⟨n1, k2⟩ h p1 hp1
      obtain _ | n1 := n1
      · cases (show (none : Option (Bool)) = some r from h)
      have h : slices_Equal_api_Errno_l1 a0 a1 (n1 + 1) k2 = some r := h
      unfold slices_Equal_api_Errno_l1 at h
      refine segs [] tabOk mixed 4000 (S := .br (decide ((((k2 : Nat) : Int) : Int) < ((a0.length : Nat) : Int))) (.and (0 ≤ (((k2 : Nat) : Int) : Int) ∧ ((k2 : Nat) : Int) < ((a0.length : Nat) : Int)) (.and (0 ≤ (((k2 : Nat) : Int) : Int) ∧ ((k2 : Nat) : Int) < ((a1.length : Nat) : Int)) (.br (((a0.getD k2 0) : Int) != (a1.getD k2 0)) (.leaf 0) (.leaf 1)))) (.leaf 2)) (by as_aux_lemma => kernel_rfl) ?_
      refine br_ h ?_ ?_ <;> clear h <;> intro c3 h
      · refine sk_and ⟨Int.natCast_nonneg _, of_decide_eq_true c3⟩ ?_
        refine gd_ h ?_; clear h; intro g5 h
        refine br_ h ?_ ?_ <;> clear h <;> intro c6 h
        · refine sk_leaf ?_
          obtain rfl := some_ h
          exact end_ok [] Try.results30 (ps := [false = false]) (by as_aux_lemma => kernel_rfl) ⟨rfl, trivial⟩ (fun _ => ⟨rfl, by simp⟩)
        · refine sk_leaf ?_
          refine back_ok (p := p1) (by as_aux_lemma => kernel_rfl) (hp1 (n1, k2 + 1) _ h (Nat.lt_succ_self n1) ?_)
          exact sub_ok (ρ := []) (l := [a0.length = a0.length, ∀ i, i < a0.length → ∀ j, j < 1 → E29.cf (a0.getD i E29.z) j = E29.cf (a0.getD i E29.z) j, a1.length = a1.length, ∀ i, i < a1.length → ∀ j, j < 1 → E29.cf (a1.getD i E29.z) j = E29.cf (a1.getD i E29.z) j, false = false, (((a0.length : Nat) : Int) : Int) = ((a0.length : Nat) : Int), ((IntKind.i64.wrap (((k2 : Nat) : Int) + 1)) : Int) = (((k2 + 1) : Nat) : Int)]) (by as_aux_lemma => kernel_rfl) ⟨rfl, fun _ _ _ _ => rfl, rfl, fun _ _ _ _ => rfl, rfl, rfl, (wrap_nat (Int.ofNat_lt.1 (of_decide_eq_true c3)) (by omega)), trivial⟩
      · refine sk_leaf ?_
        obtain rfl := some_ h
        exact end_ok [] Try.results30 (ps := [true = true]) (by as_aux_lemma => kernel_rfl) ⟨rfl, trivial⟩ (fun _ => ⟨rfl, by simp⟩)

set_option maxHeartbeats 40000000 in
set_option maxRecDepth 100000 in
theorem slices_Equal_int_ok (a0 : (List Int)) (a1 : (List Int)) (r : Bool) (h : slices_Equal_int a0 a1 = some r) {al : Bool} : PCalls Try.prog 18 [.pv ((E3.ro a0)), .pv ((E3.ro a1))] al (.pv (.raw (.bool r))) [] := by
  unfold slices_Equal_int at h
  refine fn_ok tabOk Try.func18 (by as_aux_lemma => kernel_rfl) (by as_aux_lemma => kernel_rfl) Try.ntmps18 (by simp) ?_
  refine segs [] tabOk mixed 4000 (S := .br ((((a0.length : Nat) : Int) : Int) != ((a1.length : Nat) : Int)) (.leaf 0) (.leaf 1)) (by as_aux_lemma => kernel_rfl) ?_
  refine br_ h ?_ ?_ <;> clear h <;> intro c1 h
  · refine sk_leaf ?_
    obtain rfl := some_ h
    exact end_ok [] Try.results18 (ps := [false = false]) (by as_aux_lemma => kernel_rfl) ⟨rfl, trivial⟩ (fun _ => ⟨rfl, by simp⟩)
  · refine sk_leaf ?_
    refine len_ro (by as_aux_lemma => kernel_rfl) 0 (s := 1) (n := a0.length) (c := fun i j => E3.cf (a0.getD i E3.z) j) (by as_aux_lemma => kernel_rfl) ?_; intro hl1_0
    refine len_ro (by as_aux_lemma => kernel_rfl) 1 (s := 1) (n := a1.length) (c := fun i j => E3.cf (a1.getD i E3.z) j) (by as_aux_lemma => kernel_rfl) ?_; intro hl1_1
    replace h : (fun (x : Nat × Nat) => slices_Equal_int_l1 a0 a1 x.1 x.2 = some r) (FUEL, 0) := h
    refine loop_ok (by as_aux_lemma => kernel_rfl) (X := Nat × Nat) (fun x => slices_Equal_int_l1 a0 a1 x.1 x.2 = some r) (fun x => x.1) (fun x => mk 26 [(0, .pv ((E3.ro a0))), (1, .pv ((E3.ro a1))), (4, .pv (.raw (.bool false))), (12, .pv (.raw (.int .i64 ((a0.length : Nat) : Int)))), (13, .pv (.raw (.int .i64 ((x.2 : Nat) : Int))))] []) (FUEL, 0) h ?_ ?_
    · exact sub_ok (ρ := []) (l := [a0.length = a0.length, ∀ i, i < a0.length → ∀ j, j < 1 → E3.cf (a0.getD i E3.z) j = E3.cf (a0.getD i E3.z) j, a1.length = a1.length, ∀ i, i < a1.length → ∀ j, j < 1 → E3.cf (a1.getD i E3.z) j = E3.cf (a1.getD i E3.z) j, false = false, (((a0.length : Nat) : Int) : Int) = ((a0.length : Nat) : Int), (0 : Int) = ((0 : Nat) : Int)]) (by as_aux_lemma => kernel_rfl) ⟨rfl, fun _ _ _ _ => rfl, rfl, fun _ _ _ _ => rfl, rfl, rfl, (by first | rfl | simp), trivial⟩
    · clear h; rintro ⟨n1, k2⟩ h p1 hp1
      obtain _ | n1 := n1
      · cases (show (none : Option (Bool)) = some r from h)
      have h : slices_Equal_int_l1 a0 a1 (n1 + 1) k2 = some r := h
      unfold slices_Equal_int_l1 at h
      refine segs [] tabOk mixed 4000 (S := .br (decide ((((k2 : Nat) : Int) : Int) < ((a0.length : Nat) : Int))) (.and (0 ≤ (((k2 : Nat) : Int) : Int) ∧ ((k2 : Nat) : Int) < ((a0.length : Nat) : Int)) (.and (0 ≤ (((k2 : Nat) : Int) : Int) ∧ ((k2 : Nat) : Int) < ((a1.length : Nat) : Int)) (.br (((a0.getD k2 0) : Int) != (a1.getD k2 0)) (.leaf 0) (.leaf 1)))) (.leaf 2)) (by as_aux_lemma => kernel_rfl) ?_
      refine br_ h ?_ ?_ <;> clear h <;> intro c3 h
      · refine sk_and ⟨Int.natCast_nonneg _, of_decide_eq_true c3⟩ ?_
        refine gd_ h ?_; clear h; intro g5 h
        refine br_ h ?_ ?_ <;> clear h <;> intro c6 h
        · refine sk_leaf ?_
          obtain rfl := some_ h
          exact end_ok [] Try.results18 (ps := [false = false]) (by as_aux_lemma => kernel_rfl) ⟨rfl, trivial⟩ (fun _ => ⟨rfl, by simp⟩)
        · refine sk_leaf ?_
          refine back_ok (p := p1) (by as_aux_lemma => kernel_rfl) (hp1 (n1, k2 + 1) _ h (Nat.lt_succ_self n1) ?_)
          exact sub_ok (ρ := []) (l := [a0.length = a0.length, ∀ i, i < a0.length → ∀ j, j < 1 → E3.cf (a0.getD i E3.z) j = E3.cf (a0.getD i E3.z) j, a1.length = a1.length, ∀ i, i < a1.length → ∀ j, j < 1 → E3.cf (a1.getD i E3.z) j = E3.cf (a1.getD i E3.z) j, false = false, (((a0.length : Nat) : Int) : Int) = ((a0.length : Nat) : Int), ((IntKind.i64.wrap (((k2 : Nat) : Int) + 1)) : Int) = (((k2 + 1) : Nat) : Int)]) (by as_aux_lemma => kernel_rfl) ⟨rfl, fun _ _ _ _ => rfl, rfl, fun _ _ _ _ => rfl, rfl, rfl, (wrap_nat (Int.ofNat_lt.1 (of_decide_eq_true c3)) (by omega)), trivial⟩
      · refine sk_leaf ?_
        obtain rfl := some_ h
        exact end_ok [] Try.results18 (ps := [true = true]) (by as_aux_lemma => kernel_rfl) ⟨rfl, trivial⟩ (fun _ => ⟨rfl, by simp⟩)

set_option maxHeartbeats 40000000 in
set_option maxRecDepth 100000 in
theorem keep_alive15_ok (r : Bool) (h : keep_alive15 = some r) {al : Bool} : PCalls Try.prog 25 [] al (.pv (.raw (.bool r))) [] := by
  unfold keep_alive15 at h
  refine fn_ok tabOk Try.func25 (by as_aux_lemma => kernel_rfl) (by as_aux_lemma => kernel_rfl) Try.ntmps25 (by simp) ?_
  refine segs [] tabOk mixed 4000 (S := .leaf 0) (by as_aux_lemma => kernel_rfl) ?_
  refine sk_leaf ?_
  refine bs_ok (d := 13) (e := 65) (s := 2) (n := 7) (cs := [.pv (.raw (.int .i64 1)), .pv (.raw (.int .i64 3)), .pv (.raw (.int .i64 2)), .pv (.raw (.int .i64 3)), .pv (.raw (.int .i64 4)), .pv (.raw (.int .i64 0)), .pv (.raw (.int .i64 3)), .pv (.raw (.int .i64 3)), .pv (.raw (.int .i64 2)), .pv (.raw (.int .i64 3)), .pv (.raw (.int .i64 1)), .pv (.raw (.int .i64 5)), .pv (.raw (.int .i64 3)), .pv (.raw (.int .i64 5))]) (cs' := E65.cR [(⟨1, 3⟩ : Api_WaitOp), (⟨2, 3⟩ : Api_WaitOp), (⟨4, 0⟩ : Api_WaitOp), (⟨3, 3⟩ : Api_WaitOp), (⟨2, 3⟩ : Api_WaitOp), (⟨1, 5⟩ : Api_WaitOp), (⟨3, 5⟩ : Api_WaitOp)]) (by as_aux_lemma => kernel_rfl) rfl (by as_aux_lemma => kernel_rfl) ?_
  refine segs [] tabOk mixed 4000 (S := .leaf 0) (by as_aux_lemma => kernel_rfl) ?_
  refine sk_leaf ?_
  obtain ⟨r1, e2, h⟩ := bd_ h
  refine call_ok (d := some 14) (fn := 26) (ax := [.row 16592 2 0 7]) (args := [.pv ((E65.ro [(⟨1, 3⟩ : Api_WaitOp), (⟨2, 3⟩ : Api_WaitOp), (⟨4, 0⟩ : Api_WaitOp), (⟨3, 3⟩ : Api_WaitOp), (⟨2, 3⟩ : Api_WaitOp), (⟨1, 5⟩ : Api_WaitOp), (⟨3, 5⟩ : Api_WaitOp)]))]) (ps := [7 = [(⟨1, 3⟩ : Api_WaitOp), (⟨2, 3⟩ : Api_WaitOp), (⟨4, 0⟩ : Api_WaitOp), (⟨3, 3⟩ : Api_WaitOp), (⟨2, 3⟩ : Api_WaitOp), (⟨1, 5⟩ : Api_WaitOp), (⟨3, 5⟩ : Api_WaitOp)].length, rowQ (E65.cR [(⟨1, 3⟩ : Api_WaitOp), (⟨2, 3⟩ : Api_WaitOp), (⟨4, 0⟩ : Api_WaitOp), (⟨3, 3⟩ : Api_WaitOp), (⟨2, 3⟩ : Api_WaitOp), (⟨1, 5⟩ : Api_WaitOp), (⟨3, 5⟩ : Api_WaitOp)]) 2 0 7 (fun i j => E65.cf ([(⟨1, 3⟩ : Api_WaitOp), (⟨2, 3⟩ : Api_WaitOp), (⟨4, 0⟩ : Api_WaitOp), (⟨3, 3⟩ : Api_WaitOp), (⟨2, 3⟩ : Api_WaitOp), (⟨1, 5⟩ : Api_WaitOp), (⟨3, 5⟩ : Api_WaitOp)].getD i E65.z) j)]) (hb' := [.row 29 1 (E29.cR r1.1), .row 3 1 (E3.cR r1.2.1), .row 3 1 (E3.cR r1.2.2.1)]) (by as_aux_lemma => kernel_rfl) (wait_Play_ok _ _ e2 (al := false)) (by as_aux_lemma => kernel_rfl) ⟨(by first | rfl | exact Elem.sub_len _ (by omega) | omega | simp | (simp <;> omega)), E65.rowQ_all [(⟨1, 3⟩ : Api_WaitOp), (⟨2, 3⟩ : Api_WaitOp), (⟨4, 0⟩ : Api_WaitOp), (⟨3, 3⟩ : Api_WaitOp), (⟨2, 3⟩ : Api_WaitOp), (⟨1, 5⟩ : Api_WaitOp), (⟨3, 5⟩ : Api_WaitOp)] rfl, trivial⟩ (fun hx => by cases hx) (by simp) (by simp only [List.map_cons, List.map_nil, Elem.row_up, up_map] <;> rfl) (by as_aux_lemma => kernel_rfl) ?_
  refine segs [] tabOk mixed 4000 (S := .leaf 0) (by as_aux_lemma => kernel_rfl) ?_
  refine sk_leaf ?_
  refine bs_ok (d := 20) (e := 29) (s := 1) (n := 7) (cs := [.pv (.raw (.int .i64 0)), .pv (.raw (.int .i64 6)), .pv (.raw (.int .i64 0)), .pv (.raw (.int .i64 0)), .pv (.raw (.int .i64 0)), .pv (.raw (.int .i64 0)), .pv (.raw (.int .i64 0))]) (cs' := E29.cR [0, 6, 0, 0, 0, 0, 0]) (by as_aux_lemma => kernel_rfl) rfl (by as_aux_lemma => kernel_rfl) ?_
  refine segs [] tabOk mixed 4000 (S := .leaf 0) (by as_aux_lemma => kernel_rfl) ?_
  refine sk_leaf ?_
  obtain ⟨r3, e4, h⟩ := bd_ h
  refine call_ok (d := some 21) (fn := 30) (ax := [.row 16608 1 0 r1.1.length, .row 16704 1 0 7]) (args := [.pv ((E29.ro r1.1)), .pv ((E29.ro [0, 6, 0, 0, 0, 0, 0]))]) (ps := [r1.1.length = r1.1.length, rowQ (E29.cR r1.1) 1 0 r1.1.length (fun i j => E29.cf (r1.1.getD i E29.z) j), 7 = [0, 6, 0, 0, 0, 0, 0].length, rowQ (E29.cR [0, 6, 0, 0, 0, 0, 0]) 1 0 7 (fun i j => E29.cf ([0, 6, 0, 0, 0, 0, 0].getD i E29.z) j)]) (hb' := []) (by as_aux_lemma => kernel_rfl) (slices_Equal_api_Errno_ok _ _ _ e4 (al := false)) (by as_aux_lemma => kernel_rfl) ⟨(by first | rfl | exact Elem.sub_len _ (by omega) | omega | simp | (simp <;> omega)), E29.rowQ_all r1.1 rfl, (by first | rfl | exact Elem.sub_len _ (by omega) | omega | simp | (simp <;> omega)), E29.rowQ_all [0, 6, 0, 0, 0, 0, 0] rfl, trivial⟩ (fun hx => by cases hx) (by simp) rfl (by as_aux_lemma => kernel_rfl) ?_
  refine segs [] tabOk mixed 4000 (S := .leaf 0) (by as_aux_lemma => kernel_rfl) ?_
  refine sk_leaf ?_
  refine bsG_ok (d := 24) (e := 3) (s := 1) (n := 1) (g := r3) (ws := []) (cs := [.pv (.raw (.int .i64 3))]) E3 [3] (by as_aux_lemma => kernel_rfl) (fun _ => trivial) rfl rfl rfl (by as_aux_lemma => kernel_rfl) ?_
  refine segs [] tabOk mixed 4000 (S := .leaf 0) (by as_aux_lemma => kernel_rfl) ?_
  refine sk_leaf ?_
  obtain ⟨r5, e6, h⟩ := bd_ h
  refine callG_ok (d := some 25) (fn := 18) (ax := [.row 16609 1 0 r1.2.1.length, .pv ((E3.ro [3]))]) (args := [.pv ((E3.ro r1.2.1)), .pv ((E3.ro [3]))]) (g := r3) (ws := [r3 = true, r3 = true]) (ps := [r1.2.1.length = r1.2.1.length, rowQ (E3.cR r1.2.1) 1 0 r1.2.1.length (fun i j => E3.cf (r1.2.1.getD i E3.z) j), [3].length = [3].length, ∀ i, i < [3].length → ∀ j, j < 1 → E3.cf ([3].getD i E3.z) j = E3.cf ([3].getD i E3.z) j]) (by as_aux_lemma => kernel_rfl) (fun hg => ⟨((by decide : ∀ y0 : Bool, ((y0 = true) → (y0 = true))) r3) hg, ((by decide : ∀ y0 : Bool, ((y0 = true) → (y0 = true))) r3) hg, trivial⟩) (fun hg => slices_Equal_int_ok _ _ _ (by rw [hg] at e6; exact e6) (al := false)) (by as_aux_lemma => kernel_rfl) (fun hg => ⟨(by first | rfl | exact Elem.sub_len _ (by omega) | omega | simp | (simp <;> omega)), E3.rowQ_all r1.2.1 rfl, rfl, fun _ _ _ _ => rfl, trivial⟩) (fun hx => by cases hx) ?_
  refine segs [] tabOk mixed 4000 (S := .and (r3 = true → r3 = true) (.leaf 0)) (by as_aux_lemma => kernel_rfl) ?_
  refine sk_and ((by decide : ∀ y0 : Bool, ((y0 = true) → (y0 = true))) r3) ?_
  refine sk_leaf ?_
  refine bsG_ok (d := 29) (e := 3) (s := 1) (n := 1) (g := (r3 && r5)) (ws := []) (cs := [.pv (.raw (.int .i64 5))]) E3 [5] (by as_aux_lemma => kernel_rfl) (fun _ => trivial) rfl rfl rfl (by as_aux_lemma => kernel_rfl) ?_
  refine segs [] tabOk mixed 4000 (S := .leaf 0) (by as_aux_lemma => kernel_rfl) ?_
  refine sk_leaf ?_
  obtain ⟨r8, e9, h⟩ := bd_ h
  refine callG_ok (d := some 30) (fn := 18) (ax := [.row 16610 1 0 r1.2.2.1.length, .pv ((E3.ro [5]))]) (args := [.pv ((E3.ro r1.2.2.1)), .pv ((E3.ro [5]))]) (g := (r3 && r5)) (ws := [(r3 && r5) = true, (r3 && r5) = true]) (ps := [r1.2.2.1.length = r1.2.2.1.length, rowQ (E3.cR r1.2.2.1) 1 0 r1.2.2.1.length (fun i j => E3.cf (r1.2.2.1.getD i E3.z) j), [5].length = [5].length, ∀ i, i < [5].length → ∀ j, j < 1 → E3.cf ([5].getD i E3.z) j = E3.cf ([5].getD i E3.z) j]) (by as_aux_lemma => kernel_rfl) (fun hg => ⟨((by decide : ∀ y0 : Bool, ((y0 = true) → (y0 = true))) (r3 && r5)) hg, ((by decide : ∀ y0 : Bool, ((y0 = true) → (y0 = true))) (r3 && r5)) hg, trivial⟩) (fun hg => slices_Equal_int_ok _ _ _ (by rw [hg] at e9; exact e9) (al := false)) (by as_aux_lemma => kernel_rfl) (fun hg => ⟨(by first | rfl | exact Elem.sub_len _ (by omega) | omega | simp | (simp <;> omega)), E3.rowQ_all r1.2.2.1 rfl, rfl, fun _ _ _ _ => rfl, trivial⟩) (fun hx => by cases hx) ?_
  refine segs [] tabOk mixed 4000 (S := .and ((r3 && r5) = true → (r3 && r5) = true) (.and ((((r3 && r5) && r8) = true → (((r3 && r5) && r8) = true))) (.and (((r3 && r5) && r8) = true → ((r3 && r5) && r8) = true) (.leaf 0)))) (by as_aux_lemma => kernel_rfl) ?_
  refine sk_and ((by decide : ∀ y0 : Bool, ((y0 = true) → (y0 = true))) (r3 && r5)) ?_
  refine sk_and ((by decide : ∀ y0 : Bool, ((y0 = true) → (y0 = true))) ((r3 && r5) && r8)) ?_
  refine sk_and ((by decide : ∀ y0 : Bool, ((y0 = true) → (y0 = true))) ((r3 && r5) && r8)) ?_
  refine sk_leaf ?_
  obtain rfl := some_ h
  exact end_ok [] Try.results25 (ps := [(((r3 && r5) && r8) && ((r1.2.2.2 : Int) == 0)) = (((r3 && r5) && r8) && ((r1.2.2.2 : Int) == 0))]) (by as_aux_lemma => kernel_rfl) ⟨rfl, trivial⟩ (fun _ => ⟨rfl, by simp⟩)

set_option maxRecDepth 100000 in
theorem slices_Clone_api_WaitOp_ok (a0 r : List Api_WaitOp) (h : slices_Clone_api_WaitOp a0 = some r) {al : Bool} : PCalls Try.prog 28 [.pv (E65.ro a0)] al (.row 0 2 0 r.length) [.row 65 2 (E65.cR r)] := by
  unfold slices_Clone_api_WaitOp at h
  obtain ⟨g, h⟩ := if_ h
  obtain rfl := some_ h
  refine fn_ok tabOk Try.func28 (by as_aux_lemma => kernel_rfl) (by as_aux_lemma => kernel_rfl) Try.ntmps28 (by simp) ?_
  refine segs [1] tabOk mixed 4000 (S := .leaf 0) (by as_aux_lemma => kernel_rfl) ?_
  refine sk_leaf ?_
  refine nil_ok (d1 := 3) (d2 := 4) (s := 2) (n := a0.length) (c := fun i j => E65.cf (a0.getD i E65.z) j) tabOk (by as_aux_lemma => kernel_rfl) ?_
  intro b hb
  refine segs [] tabOk mixed 4000 (S := .br b (.leaf 0) (.leaf 1)) (by as_aux_lemma => kernel_rfl) ?_
  refine sk_br ?_ ?_ <;> intro hc <;> refine sk_leaf ?_
  · obtain rfl : a0 = [] := List.eq_nil_of_length_eq_zero (hb hc)
    exact end_ok [(0, none)] Try.results28 (ps := [0 = 0, 0 = 0, E65.cR [] = []]) (by as_aux_lemma => kernel_rfl) ⟨rfl, rfl, rfl, trivial⟩ (fun _ => ⟨rfl, by simp only [List.mem_cons, List.not_mem_nil, or_false, forall_eq]; exact Elem.cR_bald E65_raw _⟩)
  · refine bs_ok (d := 5) (e := 65) (s := 2) (n := 0) (cs := []) (cs' := E65.cR []) (by as_aux_lemma => kernel_rfl) rfl (by as_aux_lemma => kernel_rfl) ?_
    refine segs [] tabOk mixed 4000 (S := .leaf 0) (by as_aux_lemma => kernel_rfl) ?_
    refine sk_leaf ?_
    refine app_ok (d := 7) (e := 65) (s := 2) (b := 16) (x := .row 16464 2 0 0) (y := .pv (E65.ro a0)) E65 (xs := []) (ys := a0) (by as_aux_lemma => kernel_rfl) rfl (.row 16464 [] 0 rfl (by as_aux_lemma => kernel_rfl)) (.ro a0) ⟨by simpa using g, by simp; omega⟩ (by as_aux_lemma => kernel_rfl) ?_
    refine segs [] tabOk mixed 4000 (S := .leaf 0) (by as_aux_lemma => kernel_rfl) ?_
    refine sk_leaf ?_
    exact end_ok [(0, some 16496)] Try.results28 (ps := [0 = 0, a0.length = a0.length, E65.cR a0 = E65.cR a0, AllPv (E65.cR a0)]) (by as_aux_lemma => kernel_rfl) ⟨rfl, rfl, rfl, Elem.cR_pv _ _, trivial⟩ (fun _ => ⟨rfl, by simp only [List.mem_cons, List.not_mem_nil, or_false, forall_eq]; exact Elem.cR_bald E65_raw _⟩)

set_option maxHeartbeats 40000000 in
set_option maxRecDepth 100000 in
theorem keep_WaitNever_ok (a0 : (List Api_WaitOp)) (r : Bool) (h : keep_WaitNever a0 = some r) {al : Bool} : PCalls Try.prog 10 [.pv ((E65.ro a0))] al (.pv (.raw (.bool r))) [] := by
  unfold keep_WaitNever at h
  refine fn_ok tabOk Try.func10 (by as_aux_lemma => kernel_rfl) (by as_aux_lemma => kernel_rfl) Try.ntmps10 (by simp) ?_
  refine segs [] tabOk mixed 4000 (S := .leaf 0) (by as_aux_lemma => kernel_rfl) ?_
  refine sk_leaf ?_
  obtain ⟨r1, e2, h⟩ := bd_ h
  refine call_ok (d := some 12) (fn := 25) (ax := []) (args := []) (ps := []) (hb' := []) (by as_aux_lemma => kernel_rfl) (keep_alive15_ok  _ e2 (al := true)) (by as_aux_lemma => kernel_rfl) trivial (fun _ => (by as_aux_lemma => kernel_rfl)) (by simp) rfl (by as_aux_lemma => kernel_rfl) ?_
  refine segs [] tabOk mixed 4000 (S := .br (!r1) (.leaf 0) (.leaf 1)) (by as_aux_lemma => kernel_rfl) ?_
  refine br_ h ?_ ?_ <;> clear h <;> intro c3 h
  · refine sk_leaf ?_
    obtain rfl := some_ h
    exact end_ok [] Try.results10 (ps := [false = false]) (by as_aux_lemma => kernel_rfl) ⟨rfl, trivial⟩ (fun _ => ⟨rfl, by simp⟩)
  · refine sk_leaf ?_
    obtain ⟨r4, e5, h⟩ := bd_ h
    refine call_ok (d := some 16) (fn := 26) (ax := [.pv ((E65.ro a0))]) (args := [.pv ((E65.ro a0))]) (ps := [a0.length = a0.length, ∀ i, i < a0.length → ∀ j, j < 2 → E65.cf (a0.getD i E65.z) j = E65.cf (a0.getD i E65.z) j]) (hb' := [.row 29 1 (E29.cR r4.1), .row 3 1 (E3.cR r4.2.1), .row 3 1 (E3.cR r4.2.2.1)]) (by as_aux_lemma => kernel_rfl) (wait_Play_ok _ _ e5 (al := true)) (by as_aux_lemma => kernel_rfl) ⟨rfl, fun _ _ _ _ => rfl, trivial⟩ (fun _ => (by as_aux_lemma => kernel_rfl)) (by simp) (by simp only [List.map_cons, List.map_nil, Elem.row_up, up_map] <;> rfl) (by as_aux_lemma => kernel_rfl) ?_
    refine segs [] tabOk mixed 4000 (S := .and (((!((r4.2.2.2 : Int) == 0)) = true → ((!((r4.2.2.2 : Int) == 0)) = true))) (.and (((!((r4.2.2.2 : Int) == 0)) = true → ((!((r4.2.2.2 : Int) == 0)) = true))) (.and (((r4.2.2.2 : Int) == 0) = false → (!((r4.2.2.2 : Int) == 0)) = true) (.br (((r4.2.2.2 : Int) == 0) || ((((r4.2.2.1.length : Nat) : Int) : Int) == 0)) (.leaf 0) (.leaf 1))))) (by as_aux_lemma => kernel_rfl) ?_
    refine sk_and ((by decide : ∀ y0 : Bool, ((y0 = true) → (y0 = true))) (!((r4.2.2.2 : Int) == 0))) ?_
    refine sk_and ((by decide : ∀ y0 : Bool, ((y0 = true) → (y0 = true))) (!((r4.2.2.2 : Int) == 0))) ?_
    refine sk_and ((by decide : ∀ y0 : Bool, ((y0 = false) → ((!y0) = true))) ((r4.2.2.2 : Int) == 0)) ?_
    refine br_ h ?_ ?_ <;> clear h <;> intro c9 h
    · refine sk_leaf ?_
      obtain rfl := some_ h
      exact end_ok [] Try.results10 (ps := [true = true]) (by as_aux_lemma => kernel_rfl) ⟨rfl, trivial⟩ (fun _ => ⟨rfl, by simp⟩)
    · refine sk_leaf ?_
      refine len_ro (by as_aux_lemma => kernel_rfl) 0 (s := 2) (n := a0.length) (c := fun i j => E65.cf (a0.getD i E65.z) j) (by as_aux_lemma => kernel_rfl) ?_; intro hl1_0
      refine len_row (by as_aux_lemma => kernel_rfl) 16640 (e := 29) (s := 1) (n := r4.1.length) (cs := E29.cR r4.1) (by as_aux_lemma => kernel_rfl) (Elem.cR_length _ _) ?_; intro hl1_1
      refine len_row (by as_aux_lemma => kernel_rfl) 16641 (e := 3) (s := 1) (n := r4.2.1.length) (cs := E3.cR r4.2.1) (by as_aux_lemma => kernel_rfl) (Elem.cR_length _ _) ?_; intro hl1_2
      refine len_row (by as_aux_lemma => kernel_rfl) 16642 (e := 3) (s := 1) (n := r4.2.2.1.length) (cs := E3.cR r4.2.2.1) (by as_aux_lemma => kernel_rfl) (Elem.cR_length _ _) ?_; intro hl1_3
      replace h : (fun (x : Nat × Nat) => keep_WaitNever_l1 a0 r4 x.1 x.2 = some r) (FUEL, 0) := h
      refine loop_ok (by as_aux_lemma => kernel_rfl) (X := Nat × Nat) (fun x => keep_WaitNever_l1 a0 r4 x.1 x.2 = some r) (fun x => x.1) (fun x => mk 76 [(0, .pv ((E65.ro a0))), (2, .pv (.raw (.bool false))), (5, .row 0 1 0 r4.2.2.1.length), (28, .pv (.raw (.int .i64 ((x.2 : Nat) : Int))))] [(0, .row 3 1 (E3.cR r4.2.2.1))]) (FUEL, 0) h ?_ ?_
      · exact sub_ok (ρ := [(0, some 16642)]) (l := [a0.length = a0.length, ∀ i, i < a0.length → ∀ j, j < 2 → E65.cf (a0.getD i E65.z) j = E65.cf (a0.getD i E65.z) j, false = false, 0 = 0, r4.2.2.1.length = r4.2.2.1.length, (0 : Int) = ((0 : Nat) : Int), E3.cR r4.2.2.1 = E3.cR r4.2.2.1, AllPv (E3.cR r4.2.2.1)]) (by as_aux_lemma => kernel_rfl) ⟨rfl, fun _ _ _ _ => rfl, rfl, rfl, rfl, (by first | rfl | simp), rfl, (Elem.cR_pv _ _), trivial⟩
      · clear h; rintro ⟨n1, k10⟩ h p1 hp1
        obtain _ | n1 := n1
        · cases (show (none : Option (Bool)) = some r from h)
        have h : keep_WaitNever_l1 a0 r4 (n1 + 1) k10 = some r := h
        unfold keep_WaitNever_l1 at h
        refine segs [] tabOk mixed 4000 (S := .br (decide ((((k10 : Nat) : Int) : Int) < 64)) (.leaf 0) (.leaf 1)) (by as_aux_lemma => kernel_rfl) ?_
        refine br_ h ?_ ?_ <;> clear h <;> intro c11 h
        · refine sk_leaf ?_
          obtain ⟨r12, e13, h⟩ := bd_ h
          refine call_ok (d := some 33) (fn := 27) (ax := [.row 0 1 0 r4.2.2.1.length, .pv (.raw (.int .i64 ((k10 : Nat) : Int)))]) (args := [.pv ((E3.ro r4.2.2.1)), .pv (.raw (.int .i64 ((k10 : Nat) : Int)))]) (ps := [r4.2.2.1.length = r4.2.2.1.length, rowQ (E3.cR r4.2.2.1) 1 0 r4.2.2.1.length (fun i j => E3.cf (r4.2.2.1.getD i E3.z) j), (((k10 : Nat) : Int) : Int) = ((k10 : Nat) : Int)]) (hb' := []) (by as_aux_lemma => kernel_rfl) (slices_Contains_int_ok _ _ _ e13 (al := false)) (by as_aux_lemma => kernel_rfl) ⟨(by first | rfl | exact Elem.sub_len _ (by omega) | omega | simp | (simp <;> omega)), E3.rowQ_all r4.2.2.1 rfl, rfl, trivial⟩ (fun hx => by cases hx) (by simp) rfl (by as_aux_lemma => kernel_rfl) ?_
          refine segs [] tabOk mixed 4000 (S := .br r12 (.leaf 0) (.leaf 1)) (by as_aux_lemma => kernel_rfl) ?_
          refine br_ h ?_ ?_ <;> clear h <;> intro c14 h
          · refine sk_leaf ?_
            refine back_ok (p := p1) (by as_aux_lemma => kernel_rfl) (hp1 (n1, k10 + 1) _ h (Nat.lt_succ_self n1) ?_)
            exact sub_ok (ρ := [(0, some 0)]) (l := [a0.length = a0.length, ∀ i, i < a0.length → ∀ j, j < 2 → E65.cf (a0.getD i E65.z) j = E65.cf (a0.getD i E65.z) j, false = false, 0 = 0, r4.2.2.1.length = r4.2.2.1.length, ((IntKind.i64.wrap (((k10 : Nat) : Int) + 1)) : Int) = (((k10 + 1) : Nat) : Int), E3.cR r4.2.2.1 = E3.cR r4.2.2.1, AllPv (E3.cR r4.2.2.1)]) (by as_aux_lemma => kernel_rfl) ⟨rfl, fun _ _ _ _ => rfl, rfl, rfl, rfl, (wrap_nat_lit (by simp at * <;> omega)), rfl, (Elem.cR_pv _ _), trivial⟩
          · refine sk_leaf ?_
            obtain ⟨r15, e16, h⟩ := bd_ h
            refine call_ok (d := some 36) (fn := 28) (ax := [.pv ((E65.ro a0))]) (args := [.pv ((E65.ro a0))]) (ps := [a0.length = a0.length, ∀ i, i < a0.length → ∀ j, j < 2 → E65.cf (a0.getD i E65.z) j = E65.cf (a0.getD i E65.z) j]) (hb' := [.row 65 2 (E65.cR r15)]) (by as_aux_lemma => kernel_rfl) (slices_Clone_api_WaitOp_ok _ _ e16 (al := true)) (by as_aux_lemma => kernel_rfl) ⟨rfl, fun _ _ _ _ => rfl, trivial⟩ (fun _ => (by as_aux_lemma => kernel_rfl)) (by simp) (by simp only [List.map_cons, List.map_nil, Elem.row_up, up_map] <;> rfl) (by as_aux_lemma => kernel_rfl) ?_
            refine segs [] tabOk mixed 4000 (S := .leaf 0) (by as_aux_lemma => kernel_rfl) ?_
            refine sk_leaf ?_
            refine bs_ok (d := 39) (e := 65) (s := 2) (n := 1) (cs := [.pv (.raw (.int .i64 2)), .pv (.raw (.int .i64 ((k10 : Nat) : Int)))]) (cs' := E65.cR [(⟨2, ((k10 : Nat) : Int)⟩ : Api_WaitOp)]) (by as_aux_lemma => kernel_rfl) rfl (by as_aux_lemma => kernel_rfl) ?_
            refine segs [] tabOk mixed 4000 (S := .leaf 0) (by as_aux_lemma => kernel_rfl) ?_
            refine sk_leaf ?_
            obtain ⟨g17, h⟩ := if_ h
            refine app_ok (d := 40) (e := 65) (s := 2) (b := 16) (x := .row 16960 2 0 r15.length) (y := .row 17008 2 0 1) E65 (xs := r15) (ys := [(⟨2, ((k10 : Nat) : Int)⟩ : Api_WaitOp)]) (by as_aux_lemma => kernel_rfl) rfl (.row 16960 r15 r15.length rfl (by as_aux_lemma => kernel_rfl)) (.all 17008 65 [(⟨2, ((k10 : Nat) : Int)⟩ : Api_WaitOp)] 1 rfl (by as_aux_lemma => kernel_rfl)) g17 (by as_aux_lemma => kernel_rfl) ?_
            refine segs [] tabOk mixed 4000 (S := .leaf 0) (by as_aux_lemma => kernel_rfl) ?_
            refine sk_leaf ?_
            obtain ⟨r18, e19, h⟩ := bd_ h
            refine call_ok (d := some 41) (fn := 26) (ax := [.row 17024 2 0 ((r15 ++ [(⟨2, ((k10 : Nat) : Int)⟩ : Api_WaitOp)]).length)]) (args := [.pv ((E65.ro (r15 ++ [(⟨2, ((k10 : Nat) : Int)⟩ : Api_WaitOp)])))]) (ps := [((r15 ++ [(⟨2, ((k10 : Nat) : Int)⟩ : Api_WaitOp)]).length) = (r15 ++ [(⟨2, ((k10 : Nat) : Int)⟩ : Api_WaitOp)]).length, rowQ (E65.cR (r15 ++ [(⟨2, ((k10 : Nat) : Int)⟩ : Api_WaitOp)])) 2 0 ((r15 ++ [(⟨2, ((k10 : Nat) : Int)⟩ : Api_WaitOp)]).length) (fun i j => E65.cf ((r15 ++ [(⟨2, ((k10 : Nat) : Int)⟩ : Api_WaitOp)]).getD i E65.z) j)]) (hb' := [.row 29 1 (E29.cR r18.1), .row 3 1 (E3.cR r18.2.1), .row 3 1 (E3.cR r18.2.2.1)]) (by as_aux_lemma => kernel_rfl) (wait_Play_ok _ _ e19 (al := false)) (by as_aux_lemma => kernel_rfl) ⟨(by first | rfl | exact Elem.sub_len _ (by omega) | omega | simp | (simp <;> omega)), E65.rowQ_all (r15 ++ [(⟨2, ((k10 : Nat) : Int)⟩ : Api_WaitOp)]) rfl, trivial⟩ (fun hx => by cases hx) (by simp) (by simp only [List.map_cons, List.map_nil, Elem.row_up, up_map] <;> rfl) (by as_aux_lemma => kernel_rfl) ?_
            refine segs [] tabOk mixed 4000 (S := .and ((((((r18.1.length : Nat) : Int) : Int) == (IntKind.i64.wrap (((a0.length : Nat) : Int) + 1))) = true → (((((r18.1.length : Nat) : Int) : Int) == (IntKind.i64.wrap (((a0.length : Nat) : Int) + 1))) = true))) (.and ((((((r18.1.length : Nat) : Int) : Int) == (IntKind.i64.wrap (((a0.length : Nat) : Int) + 1))) = true → (((((r18.1.length : Nat) : Int) : Int) == (IntKind.i64.wrap (((a0.length : Nat) : Int) + 1))) = true))) (.and ((((((r18.1.length : Nat) : Int) : Int) == (IntKind.i64.wrap (((a0.length : Nat) : Int) + 1))) = true → (((((r18.1.length : Nat) : Int) : Int) == (IntKind.i64.wrap (((a0.length : Nat) : Int) + 1))) = true))) (.and ((((((r18.1.length : Nat) : Int) : Int) == (IntKind.i64.wrap (((a0.length : Nat) : Int) + 1))) = true → (0 ≤ (((a0.length : Nat) : Int) : Int) ∧ ((a0.length : Nat) : Int) < ((r18.1.length : Nat) : Int)))) (.leaf 0))))) (by as_aux_lemma => kernel_rfl) ?_
            refine sk_and ((by decide : ∀ y0 : Bool, ((y0 = true) → (y0 = true))) ((((r18.1.length : Nat) : Int) : Int) == (IntKind.i64.wrap (((a0.length : Nat) : Int) + 1)))) ?_
            refine sk_and ((by decide : ∀ y0 : Bool, ((y0 = true) → (y0 = true))) ((((r18.1.length : Nat) : Int) : Int) == (IntKind.i64.wrap (((a0.length : Nat) : Int) + 1)))) ?_
            refine sk_and ((by decide : ∀ y0 : Bool, ((y0 = true) → (y0 = true))) ((((r18.1.length : Nat) : Int) : Int) == (IntKind.i64.wrap (((a0.length : Nat) : Int) + 1)))) ?_
            refine gd_ h ?_; clear h; intro g23 h
            refine sk_leaf ?_
            refine ldG_ok (d := 57) (id := 17040) (i := (0 + a0.length)) (j := 0) (e := 29) (n := 1) (g := ((((r18.1.length : Nat) : Int) : Int) == (IntKind.i64.wrap (((a0.length : Nat) : Int) + 1)))) (ws := [((((r18.1.length : Nat) : Int) : Int) == (IntKind.i64.wrap (((a0.length : Nat) : Int) + 1))) = true]) E29 (xs := r18.1) (by as_aux_lemma => kernel_rfl) (fun hg => ⟨((by decide : ∀ y0 : Bool, ((y0 = true) → (y0 = true))) ((((r18.1.length : Nat) : Int) : Int) == (IntKind.i64.wrap (((a0.length : Nat) : Int) + 1)))) hg, trivial⟩) (by as_aux_lemma => kernel_rfl) (fun hg => (by first | omega | (simp at * <;> omega) | (simp_all <;> omega))) (by exact Nat.le_of_ble_eq_true rfl) ?_
            refine segs [] tabOk mixed 4000 (S := .and ((((((r18.1.length : Nat) : Int) : Int) == (IntKind.i64.wrap (((a0.length : Nat) : Int) + 1))) = true → (((((r18.1.length : Nat) : Int) : Int) == (IntKind.i64.wrap (((a0.length : Nat) : Int) + 1))) = true))) (.and (((((r18.1.length : Nat) : Int) : Int) == (IntKind.i64.wrap (((a0.length : Nat) : Int) + 1))) = true → ((((r18.1.length : Nat) : Int) : Int) == (IntKind.i64.wrap (((a0.length : Nat) : Int) + 1))) = true) (.and (((((((r18.1.length : Nat) : Int) : Int) == (IntKind.i64.wrap (((a0.length : Nat) : Int) + 1))) && (((r18.1.getD (0 + a0.length) 0) : Int) == 0)) = true → ((((((r18.1.length : Nat) : Int) : Int) == (IntKind.i64.wrap (((a0.length : Nat) : Int) + 1))) && (((r18.1.getD (0 + a0.length) 0) : Int) == 0)) = true))) (.and (((((((r18.1.length : Nat) : Int) : Int) == (IntKind.i64.wrap (((a0.length : Nat) : Int) + 1))) && (((r18.1.getD (0 + a0.length) 0) : Int) == 0)) = true → ((((((r18.1.length : Nat) : Int) : Int) == (IntKind.i64.wrap (((a0.length : Nat) : Int) + 1))) && (((r18.1.getD (0 + a0.length) 0) : Int) == 0)) = true))) (.and ((((((r18.1.length : Nat) : Int) : Int) == (IntKind.i64.wrap (((a0.length : Nat) : Int) + 1))) && (((r18.1.getD (0 + a0.length) 0) : Int) == 0)) = true → (((((r18.1.length : Nat) : Int) : Int) == (IntKind.i64.wrap (((a0.length : Nat) : Int) + 1))) && (((r18.1.getD (0 + a0.length) 0) : Int) == 0)) = true) (.and ((((((((r18.1.length : Nat) : Int) : Int) == (IntKind.i64.wrap (((a0.length : Nat) : Int) + 1))) && (((r18.1.getD (0 + a0.length) 0) : Int) == 0)) && (decide ((((r18.2.1.length : Nat) : Int) : Int) > 0))) = true → (((((((r18.1.length : Nat) : Int) : Int) == (IntKind.i64.wrap (((a0.length : Nat) : Int) + 1))) && (((r18.1.getD (0 + a0.length) 0) : Int) == 0)) && (decide ((((r18.2.1.length : Nat) : Int) : Int) > 0))) = true))) (.and ((((((((r18.1.length : Nat) : Int) : Int) == (IntKind.i64.wrap (((a0.length : Nat) : Int) + 1))) && (((r18.1.getD (0 + a0.length) 0) : Int) == 0)) && (decide ((((r18.2.1.length : Nat) : Int) : Int) > 0))) = true → (((((((r18.1.length : Nat) : Int) : Int) == (IntKind.i64.wrap (((a0.length : Nat) : Int) + 1))) && (((r18.1.getD (0 + a0.length) 0) : Int) == 0)) && (decide ((((r18.2.1.length : Nat) : Int) : Int) > 0))) = true))) (.and ((((((((r18.1.length : Nat) : Int) : Int) == (IntKind.i64.wrap (((a0.length : Nat) : Int) + 1))) && (((r18.1.getD (0 + a0.length) 0) : Int) == 0)) && (decide ((((r18.2.1.length : Nat) : Int) : Int) > 0))) = true → (((((((r18.1.length : Nat) : Int) : Int) == (IntKind.i64.wrap (((a0.length : Nat) : Int) + 1))) && (((r18.1.getD (0 + a0.length) 0) : Int) == 0)) && (decide ((((r18.2.1.length : Nat) : Int) : Int) > 0))) = true))) (.and ((((((((r18.1.length : Nat) : Int) : Int) == (IntKind.i64.wrap (((a0.length : Nat) : Int) + 1))) && (((r18.1.getD (0 + a0.length) 0) : Int) == 0)) && (decide ((((r18.2.1.length : Nat) : Int) : Int) > 0))) = true → (((((((r18.1.length : Nat) : Int) : Int) == (IntKind.i64.wrap (((a0.length : Nat) : Int) + 1))) && (((r18.1.getD (0 + a0.length) 0) : Int) == 0)) && (decide ((((r18.2.1.length : Nat) : Int) : Int) > 0))) = true))) (.and ((((((((r18.1.length : Nat) : Int) : Int) == (IntKind.i64.wrap (((a0.length : Nat) : Int) + 1))) && (((r18.1.getD (0 + a0.length) 0) : Int) == 0)) && (decide ((((r18.2.1.length : Nat) : Int) : Int) > 0))) = true → (0 ≤ ((IntKind.i64.wrap (((r18.2.1.length : Nat) : Int) - 1)) : Int) ∧ (IntKind.i64.wrap (((r18.2.1.length : Nat) : Int) - 1)) < ((r18.2.1.length : Nat) : Int)))) (.leaf 0))))))))))) (by as_aux_lemma => kernel_rfl) ?_
            refine sk_and ((by decide : ∀ y0 : Bool, ((y0 = true) → (y0 = true))) ((((r18.1.length : Nat) : Int) : Int) == (IntKind.i64.wrap (((a0.length : Nat) : Int) + 1)))) ?_
            refine sk_and ((by decide : ∀ y0 : Bool, ((y0 = true) → (y0 = true))) ((((r18.1.length : Nat) : Int) : Int) == (IntKind.i64.wrap (((a0.length : Nat) : Int) + 1)))) ?_
            refine sk_and ((by decide : ∀ y0 : Bool, ((y0 = true) → (y0 = true))) (((((r18.1.length : Nat) : Int) : Int) == (IntKind.i64.wrap (((a0.length : Nat) : Int) + 1))) && (((r18.1.getD (0 + a0.length) 0) : Int) == 0))) ?_
            refine sk_and ((by decide : ∀ y0 : Bool, ((y0 = true) → (y0 = true))) (((((r18.1.length : Nat) : Int) : Int) == (IntKind.i64.wrap (((a0.length : Nat) : Int) + 1))) && (((r18.1.getD (0 + a0.length) 0) : Int) == 0))) ?_
            refine sk_and ((by decide : ∀ y0 : Bool, ((y0 = true) → (y0 = true))) (((((r18.1.length : Nat) : Int) : Int) == (IntKind.i64.wrap (((a0.length : Nat) : Int) + 1))) && (((r18.1.getD (0 + a0.length) 0) : Int) == 0))) ?_
            refine sk_and ((by decide : ∀ y0 : Bool, ((y0 = true) → (y0 = true))) ((((((r18.1.length : Nat) : Int) : Int) == (IntKind.i64.wrap (((a0.length : Nat) : Int) + 1))) && (((r18.1.getD (0 + a0.length) 0) : Int) == 0)) && (decide ((((r18.2.1.length : Nat) : Int) : Int) > 0)))) ?_
            refine sk_and ((by decide : ∀ y0 : Bool, ((y0 = true) → (y0 = true))) ((((((r18.1.length : Nat) : Int) : Int) == (IntKind.i64.wrap (((a0.length : Nat) : Int) + 1))) && (((r18.1.getD (0 + a0.length) 0) : Int) == 0)) && (decide ((((r18.2.1.length : Nat) : Int) : Int) > 0)))) ?_
            refine sk_and ((by decide : ∀ y0 : Bool, ((y0 = true) → (y0 = true))) ((((((r18.1.length : Nat) : Int) : Int) == (IntKind.i64.wrap (((a0.length : Nat) : Int) + 1))) && (((r18.1.getD (0 + a0.length) 0) : Int) == 0)) && (decide ((((r18.2.1.length : Nat) : Int) : Int) > 0)))) ?_
            refine sk_and ((by decide : ∀ y0 : Bool, ((y0 = true) → (y0 = true))) ((((((r18.1.length : Nat) : Int) : Int) == (IntKind.i64.wrap (((a0.length : Nat) : Int) + 1))) && (((r18.1.getD (0 + a0.length) 0) : Int) == 0)) && (decide ((((r18.2.1.length : Nat) : Int) : Int) > 0)))) ?_
            refine gd_ h ?_; clear h; intro g33 h
            refine sk_leaf ?_
            refine ldG_ok (d := 71) (id := 17041) (i := (0 + (Int.toNat (IntKind.i64.wrap (((r18.2.1.length : Nat) : Int) - 1))))) (j := 0) (e := 3) (n := 1) (g := ((((((r18.1.length : Nat) : Int) : Int) == (IntKind.i64.wrap (((a0.length : Nat) : Int) + 1))) && (((r18.1.getD (0 + a0.length) 0) : Int) == 0)) && (decide ((((r18.2.1.length : Nat) : Int) : Int) > 0)))) (ws := [((((((r18.1.length : Nat) : Int) : Int) == (IntKind.i64.wrap (((a0.length : Nat) : Int) + 1))) && (((r18.1.getD (0 + a0.length) 0) : Int) == 0)) && (decide ((((r18.2.1.length : Nat) : Int) : Int) > 0))) = true]) E3 (xs := r18.2.1) (by as_aux_lemma => kernel_rfl) (fun hg => ⟨((by decide : ∀ y0 : Bool, ((y0 = true) → (y0 = true))) ((((((r18.1.length : Nat) : Int) : Int) == (IntKind.i64.wrap (((a0.length : Nat) : Int) + 1))) && (((r18.1.getD (0 + a0.length) 0) : Int) == 0)) && (decide ((((r18.2.1.length : Nat) : Int) : Int) > 0)))) hg, trivial⟩) (by as_aux_lemma => kernel_rfl) (fun hg => (by first | omega | (simp at * <;> omega) | (simp_all <;> omega))) (by exact Nat.le_of_ble_eq_true rfl) ?_
            refine segs [] tabOk mixed 4000 (S := .and ((((((((r18.1.length : Nat) : Int) : Int) == (IntKind.i64.wrap (((a0.length : Nat) : Int) + 1))) && (((r18.1.getD (0 + a0.length) 0) : Int) == 0)) && (decide ((((r18.2.1.length : Nat) : Int) : Int) > 0))) = true → (((((((r18.1.length : Nat) : Int) : Int) == (IntKind.i64.wrap (((a0.length : Nat) : Int) + 1))) && (((r18.1.getD (0 + a0.length) 0) : Int) == 0)) && (decide ((((r18.2.1.length : Nat) : Int) : Int) > 0))) = true))) (.and ((((((((r18.1.length : Nat) : Int) : Int) == (IntKind.i64.wrap (((a0.length : Nat) : Int) + 1))) && (((r18.1.getD (0 + a0.length) 0) : Int) == 0)) && (decide ((((r18.2.1.length : Nat) : Int) : Int) > 0))) = true → (((((((r18.1.length : Nat) : Int) : Int) == (IntKind.i64.wrap (((a0.length : Nat) : Int) + 1))) && (((r18.1.getD (0 + a0.length) 0) : Int) == 0)) && (decide ((((r18.2.1.length : Nat) : Int) : Int) > 0))) = true))) (.and (((((((r18.1.length : Nat) : Int) : Int) == (IntKind.i64.wrap (((a0.length : Nat) : Int) + 1))) && (((r18.1.getD (0 + a0.length) 0) : Int) == 0)) && (decide ((((r18.2.1.length : Nat) : Int) : Int) > 0))) = true → ((((((r18.1.length : Nat) : Int) : Int) == (IntKind.i64.wrap (((a0.length : Nat) : Int) + 1))) && (((r18.1.getD (0 + a0.length) 0) : Int) == 0)) && (decide ((((r18.2.1.length : Nat) : Int) : Int) > 0))) = true) (.br (((((((r18.1.length : Nat) : Int) : Int) == (IntKind.i64.wrap (((a0.length : Nat) : Int) + 1))) && (((r18.1.getD (0 + a0.length) 0) : Int) == 0)) && (decide ((((r18.2.1.length : Nat) : Int) : Int) > 0))) && (((r18.2.1.getD (0 + (Int.toNat (IntKind.i64.wrap (((r18.2.1.length : Nat) : Int) - 1)))) 0) : Int) == ((k10 : Nat) : Int))) (.leaf 0) (.leaf 1))))) (by as_aux_lemma => kernel_rfl) ?_
            refine sk_and ((by decide : ∀ y0 : Bool, ((y0 = true) → (y0 = true))) ((((((r18.1.length : Nat) : Int) : Int) == (IntKind.i64.wrap (((a0.length : Nat) : Int) + 1))) && (((r18.1.getD (0 + a0.length) 0) : Int) == 0)) && (decide ((((r18.2.1.length : Nat) : Int) : Int) > 0)))) ?_
            refine sk_and ((by decide : ∀ y0 : Bool, ((y0 = true) → (y0 = true))) ((((((r18.1.length : Nat) : Int) : Int) == (IntKind.i64.wrap (((a0.length : Nat) : Int) + 1))) && (((r18.1.getD (0 + a0.length) 0) : Int) == 0)) && (decide ((((r18.2.1.length : Nat) : Int) : Int) > 0)))) ?_
            refine sk_and ((by decide : ∀ y0 : Bool, ((y0 = true) → (y0 = true))) ((((((r18.1.length : Nat) : Int) : Int) == (IntKind.i64.wrap (((a0.length : Nat) : Int) + 1))) && (((r18.1.getD (0 + a0.length) 0) : Int) == 0)) && (decide ((((r18.2.1.length : Nat) : Int) : Int) > 0)))) ?_
            refine br_ h ?_ ?_ <;> clear h <;> intro c37 h
            · refine sk_leaf ?_
              obtain rfl := some_ h
              exact end_ok [] Try.results10 (ps := [true = true]) (by as_aux_lemma => kernel_rfl) ⟨rfl, trivial⟩ (fun _ => ⟨rfl, by simp⟩)
            · refine sk_leaf ?_
              refine back_ok (p := p1) (by as_aux_lemma => kernel_rfl) (hp1 (n1, k10 + 1) _ h (Nat.lt_succ_self n1) ?_)
              exact sub_ok (ρ := [(0, some 0)]) (l := [a0.length = a0.length, ∀ i, i < a0.length → ∀ j, j < 2 → E65.cf (a0.getD i E65.z) j = E65.cf (a0.getD i E65.z) j, false = false, 0 = 0, r4.2.2.1.length = r4.2.2.1.length, ((IntKind.i64.wrap (((k10 : Nat) : Int) + 1)) : Int) = (((k10 + 1) : Nat) : Int), E3.cR r4.2.2.1 = E3.cR r4.2.2.1, AllPv (E3.cR r4.2.2.1)]) (by as_aux_lemma => kernel_rfl) ⟨rfl, fun _ _ _ _ => rfl, rfl, rfl, rfl, (wrap_nat_lit (by simp at * <;> omega)), rfl, (Elem.cR_pv _ _), trivial⟩
        · refine sk_leaf ?_
          obtain rfl := some_ h
          exact end_ok [] Try.results10 (ps := [false = false]) (by as_aux_lemma => kernel_rfl) ⟨rfl, trivial⟩ (fun _ => ⟨rfl, by simp⟩)

set_option maxHeartbeats 40000000 in
set_option maxRecDepth 100000 in
theorem keep_WaitSum_ok (a0 : (List Api_WaitOp)) (r : Bool) (h : keep_WaitSum a0 = some r) {al : Bool} : PCalls Try.prog 11 [.pv ((E65.ro a0))] al (.pv (.raw (.bool r))) [] := by
  unfold keep_WaitSum at h
  refine fn_ok tabOk Try.func11 (by as_aux_lemma => kernel_rfl) (by as_aux_lemma => kernel_rfl) Try.ntmps11 (by simp) ?_
  refine segs [] tabOk mixed 4000 (S := .leaf 0) (by as_aux_lemma => kernel_rfl) ?_
  refine sk_leaf ?_
  obtain ⟨r1, e2, h⟩ := bd_ h
  refine call_ok (d := some 10) (fn := 25) (ax := []) (args := []) (ps := []) (hb' := []) (by as_aux_lemma => kernel_rfl) (keep_alive15_ok  _ e2 (al := true)) (by as_aux_lemma => kernel_rfl) trivial (fun _ => (by as_aux_lemma => kernel_rfl)) (by simp) rfl (by as_aux_lemma => kernel_rfl) ?_
  refine segs [] tabOk mixed 4000 (S := .br (!r1) (.leaf 0) (.leaf 1)) (by as_aux_lemma => kernel_rfl) ?_
  refine br_ h ?_ ?_ <;> clear h <;> intro c3 h
  · refine sk_leaf ?_
    obtain rfl := some_ h
    exact end_ok [] Try.results11 (ps := [false = false]) (by as_aux_lemma => kernel_rfl) ⟨rfl, trivial⟩ (fun _ => ⟨rfl, by simp⟩)
  · refine sk_leaf ?_
    obtain ⟨r4, e5, h⟩ := bd_ h
    refine call_ok (d := some 14) (fn := 26) (ax := [.pv ((E65.ro a0))]) (args := [.pv ((E65.ro a0))]) (ps := [a0.length = a0.length, ∀ i, i < a0.length → ∀ j, j < 2 → E65.cf (a0.getD i E65.z) j = E65.cf (a0.getD i E65.z) j]) (hb' := [.row 29 1 (E29.cR r4.1), .row 3 1 (E3.cR r4.2.1), .row 3 1 (E3.cR r4.2.2.1)]) (by as_aux_lemma => kernel_rfl) (wait_Play_ok _ _ e5 (al := true)) (by as_aux_lemma => kernel_rfl) ⟨rfl, fun _ _ _ _ => rfl, trivial⟩ (fun _ => (by as_aux_lemma => kernel_rfl)) (by simp) (by simp only [List.map_cons, List.map_nil, Elem.row_up, up_map] <;> rfl) (by as_aux_lemma => kernel_rfl) ?_
    refine segs [] tabOk mixed 4000 (S := .leaf 0) (by as_aux_lemma => kernel_rfl) ?_
    refine sk_leaf ?_
    refine len_ro (by as_aux_lemma => kernel_rfl) 0 (s := 2) (n := a0.length) (c := fun i j => E65.cf (a0.getD i E65.z) j) (by as_aux_lemma => kernel_rfl) ?_; intro hl1_0
    refine len_ro (by as_aux_lemma => kernel_rfl) 19 (s := 2) (n := a0.length) (c := fun i j => E65.cf (a0.getD i E65.z) j) (by as_aux_lemma => kernel_rfl) ?_; intro hl1_1
    refine len_row (by as_aux_lemma => kernel_rfl) 16608 (e := 29) (s := 1) (n := r4.1.length) (cs := E29.cR r4.1) (by as_aux_lemma => kernel_rfl) (Elem.cR_length _ _) ?_; intro hl1_2
    refine len_row (by as_aux_lemma => kernel_rfl) 16609 (e := 3) (s := 1) (n := r4.2.1.length) (cs := E3.cR r4.2.1) (by as_aux_lemma => kernel_rfl) (Elem.cR_length _ _) ?_; intro hl1_3
    refine len_row (by as_aux_lemma => kernel_rfl) 16610 (e := 3) (s := 1) (n := r4.2.2.1.length) (cs := E3.cR r4.2.2.1) (by as_aux_lemma => kernel_rfl) (Elem.cR_length _ _) ?_; intro hl1_4
    replace h : (fun (x : Nat × Int × Nat) => keep_WaitSum_l1 a0 r4 x.1 x.2.1 x.2.2 = some r) (FUEL, 0, 0) := h
    refine loop_ok (by as_aux_lemma => kernel_rfl) (X := Nat × Int × Nat) (fun x => keep_WaitSum_l1 a0 r4 x.1 x.2.1 x.2.2 = some r) (fun x => x.1) (fun x => mk 62 [(0, .pv ((E65.ro a0))), (2, .pv (.raw (.bool false))), (3, .row 0 1 0 r4.1.length), (4, .row 1 1 0 r4.2.1.length), (6, .pv (.raw (.int .i64 r4.2.2.2))), (7, .pv (.raw (.int .i64 x.2.1))), (19, .pv ((E65.ro a0))), (20, .pv (.raw (.int .i64 ((a0.length : Nat) : Int)))), (21, .pv (.raw (.int .i64 ((x.2.2 : Nat) : Int))))] [(0, .row 29 1 (E29.cR r4.1)), (1, .row 3 1 (E3.cR r4.2.1))]) (FUEL, 0, 0) h ?_ ?_
    · exact sub_ok (ρ := [(0, some 16608), (1, some 16609)]) (l := [a0.length = a0.length, ∀ i, i < a0.length → ∀ j, j < 2 → E65.cf (a0.getD i E65.z) j = E65.cf (a0.getD i E65.z) j, false = false, 0 = 0, r4.1.length = r4.1.length, 0 = 0, r4.2.1.length = r4.2.1.length, (r4.2.2.2 : Int) = r4.2.2.2, (0 : Int) = 0, a0.length = a0.length, ∀ i, i < a0.length → ∀ j, j < 2 → E65.cf (a0.getD i E65.z) j = E65.cf (a0.getD i E65.z) j, (((a0.length : Nat) : Int) : Int) = ((a0.length : Nat) : Int), (0 : Int) = ((0 : Nat) : Int), E29.cR r4.1 = E29.cR r4.1, AllPv (E29.cR r4.1), E3.cR r4.2.1 = E3.cR r4.2.1, AllPv (E3.cR r4.2.1)]) (by as_aux_lemma => kernel_rfl) ⟨rfl, fun _ _ _ _ => rfl, rfl, rfl, rfl, rfl, rfl, rfl, rfl, rfl, fun _ _ _ _ => rfl, rfl, (by first | rfl | simp), rfl, (Elem.cR_pv _ _), rfl, (Elem.cR_pv _ _), trivial⟩
    · clear h; rintro ⟨n1, x6, k7⟩ h p1 hp1
      obtain _ | n1 := n1
      · cases (show (none : Option (Bool)) = some r from h)
      have h : keep_WaitSum_l1 a0 r4 (n1 + 1) x6 k7 = some r := h
      unfold keep_WaitSum_l1 at h
      refine segs [] tabOk mixed 4000 (S := .br (decide ((((k7 : Nat) : Int) : Int) < ((a0.length : Nat) : Int))) (.and (0 ≤ (((k7 : Nat) : Int) : Int) ∧ ((k7 : Nat) : Int) < ((a0.length : Nat) : Int)) (.and (((decide ((((k7 : Nat) : Int) : Int) < ((r4.1.length : Nat) : Int))) = true → ((decide ((((k7 : Nat) : Int) : Int) < ((r4.1.length : Nat) : Int))) = true))) (.and (((decide ((((k7 : Nat) : Int) : Int) < ((r4.1.length : Nat) : Int))) = true → ((decide ((((k7 : Nat) : Int) : Int) < ((r4.1.length : Nat) : Int))) = true))) (.and (((decide ((((k7 : Nat) : Int) : Int) < ((r4.1.length : Nat) : Int))) = true → (0 ≤ (((k7 : Nat) : Int) : Int) ∧ ((k7 : Nat) : Int) < ((r4.1.length : Nat) : Int)))) (.leaf 0))))) (.and ((((((r4.1.length : Nat) : Int) : Int) == ((a0.length : Nat) : Int)) = true → (((((r4.1.length : Nat) : Int) : Int) == ((a0.length : Nat) : Int)) = true))) (.and (((((r4.1.length : Nat) : Int) : Int) == ((a0.length : Nat) : Int)) = true → ((((r4.1.length : Nat) : Int) : Int) == ((a0.length : Nat) : Int)) = true) (.and (((((((r4.1.length : Nat) : Int) : Int) == ((a0.length : Nat) : Int)) && (decide ((r4.2.2.2 : Int) ≥ 0))) = true → ((((((r4.1.length : Nat) : Int) : Int) == ((a0.length : Nat) : Int)) && (decide ((r4.2.2.2 : Int) ≥ 0))) = true))) (.and (((((((r4.1.length : Nat) : Int) : Int) == ((a0.length : Nat) : Int)) && (decide ((r4.2.2.2 : Int) ≥ 0))) = true → ((((((r4.1.length : Nat) : Int) : Int) == ((a0.length : Nat) : Int)) && (decide ((r4.2.2.2 : Int) ≥ 0))) = true))) (.and (((((((r4.1.length : Nat) : Int) : Int) == ((a0.length : Nat) : Int)) && (decide ((r4.2.2.2 : Int) ≥ 0))) = true → ((((((r4.1.length : Nat) : Int) : Int) == ((a0.length : Nat) : Int)) && (decide ((r4.2.2.2 : Int) ≥ 0))) = true))) (.and (((((((r4.1.length : Nat) : Int) : Int) == ((a0.length : Nat) : Int)) && (decide ((r4.2.2.2 : Int) ≥ 0))) = true → ((((((r4.1.length : Nat) : Int) : Int) == ((a0.length : Nat) : Int)) && (decide ((r4.2.2.2 : Int) ≥ 0))) = true))) (.and (((((((r4.1.length : Nat) : Int) : Int) == ((a0.length : Nat) : Int)) && (decide ((r4.2.2.2 : Int) ≥ 0))) = true → ((((((r4.1.length : Nat) : Int) : Int) == ((a0.length : Nat) : Int)) && (decide ((r4.2.2.2 : Int) ≥ 0))) = true))) (.and ((((((r4.1.length : Nat) : Int) : Int) == ((a0.length : Nat) : Int)) && (decide ((r4.2.2.2 : Int) ≥ 0))) = true → (((((r4.1.length : Nat) : Int) : Int) == ((a0.length : Nat) : Int)) && (decide ((r4.2.2.2 : Int) ≥ 0))) = true) (.leaf 1)))))))))) (by as_aux_lemma => kernel_rfl) ?_
      refine br_ h ?_ ?_ <;> clear h <;> intro c8 h
      · refine sk_and ⟨Int.natCast_nonneg _, of_decide_eq_true c8⟩ ?_
        refine sk_and ((by decide : ∀ y0 : Bool, ((y0 = true) → (y0 = true))) (decide ((((k7 : Nat) : Int) : Int) < ((r4.1.length : Nat) : Int)))) ?_
        refine sk_and ((by decide : ∀ y0 : Bool, ((y0 = true) → (y0 = true))) (decide ((((k7 : Nat) : Int) : Int) < ((r4.1.length : Nat) : Int)))) ?_
        refine gd_ h ?_; clear h; intro g12 h
        refine sk_leaf ?_
        refine ldG_ok (d := 34) (id := 0) (i := (0 + k7)) (j := 0) (e := 29) (n := 1) (g := (decide ((((k7 : Nat) : Int) : Int) < ((r4.1.length : Nat) : Int)))) (ws := [(decide ((((k7 : Nat) : Int) : Int) < ((r4.1.length : Nat) : Int))) = true]) E29 (xs := r4.1) (by as_aux_lemma => kernel_rfl) (fun hg => ⟨((by decide : ∀ y0 : Bool, ((y0 = true) → (y0 = true))) (decide ((((k7 : Nat) : Int) : Int) < ((r4.1.length : Nat) : Int)))) hg, trivial⟩) (by as_aux_lemma => kernel_rfl) (fun hg => (by first | omega | (simp at * <;> omega) | (simp_all <;> omega))) (by exact Nat.le_of_ble_eq_true rfl) ?_
        refine segs [] tabOk mixed 4000 (S := .and (((decide ((((k7 : Nat) : Int) : Int) < ((r4.1.length : Nat) : Int))) = true → ((decide ((((k7 : Nat) : Int) : Int) < ((r4.1.length : Nat) : Int))) = true))) (.and ((decide ((((k7 : Nat) : Int) : Int) < ((r4.1.length : Nat) : Int))) = true → (decide ((((k7 : Nat) : Int) : Int) < ((r4.1.length : Nat) : Int))) = true) (.and ((((decide ((((k7 : Nat) : Int) : Int) < ((r4.1.length : Nat) : Int))) && (((r4.1.getD (0 + k7) 0) : Int) == 0)) = true → (((decide ((((k7 : Nat) : Int) : Int) < ((r4.1.length : Nat) : Int))) && (((r4.1.getD (0 + k7) 0) : Int) == 0)) = true))) (.and ((((decide ((((k7 : Nat) : Int) : Int) < ((r4.1.length : Nat) : Int))) && (((r4.1.getD (0 + k7) 0) : Int) == 0)) = true → (((decide ((((k7 : Nat) : Int) : Int) < ((r4.1.length : Nat) : Int))) && (((r4.1.getD (0 + k7) 0) : Int) == 0)) = true))) (.and (((decide ((((k7 : Nat) : Int) : Int) < ((r4.1.length : Nat) : Int))) && (((r4.1.getD (0 + k7) 0) : Int) == 0)) = true → ((decide ((((k7 : Nat) : Int) : Int) < ((r4.1.length : Nat) : Int))) && (((r4.1.getD (0 + k7) 0) : Int) == 0)) = true) (.br (((decide ((((k7 : Nat) : Int) : Int) < ((r4.1.length : Nat) : Int))) && (((r4.1.getD (0 + k7) 0) : Int) == 0)) && (((a0.getD k7 (⟨0, 0⟩ : Api_WaitOp)).Kind : Int) == 4)) (.leaf 0) (.leaf 1))))))) (by as_aux_lemma => kernel_rfl) ?_
        refine sk_and ((by decide : ∀ y0 : Bool, ((y0 = true) → (y0 = true))) (decide ((((k7 : Nat) : Int) : Int) < ((r4.1.length : Nat) : Int)))) ?_
        refine sk_and ((by decide : ∀ y0 : Bool, ((y0 = true) → (y0 = true))) (decide ((((k7 : Nat) : Int) : Int) < ((r4.1.length : Nat) : Int)))) ?_
        refine sk_and ((by decide : ∀ y0 : Bool, ((y0 = true) → (y0 = true))) ((decide ((((k7 : Nat) : Int) : Int) < ((r4.1.length : Nat) : Int))) && (((r4.1.getD (0 + k7) 0) : Int) == 0))) ?_
        refine sk_and ((by decide : ∀ y0 : Bool, ((y0 = true) → (y0 = true))) ((decide ((((k7 : Nat) : Int) : Int) < ((r4.1.length : Nat) : Int))) && (((r4.1.getD (0 + k7) 0) : Int) == 0))) ?_
        refine sk_and ((by decide : ∀ y0 : Bool, ((y0 = true) → (y0 = true))) ((decide ((((k7 : Nat) : Int) : Int) < ((r4.1.length : Nat) : Int))) && (((r4.1.getD (0 + k7) 0) : Int) == 0))) ?_
        refine br_ h ?_ ?_ <;> clear h <;> intro c18 h
        · refine sk_leaf ?_
          refine back_ok (p := p1) (by as_aux_lemma => kernel_rfl) (hp1 (n1, (IntKind.i64.wrap (x6 + 1)), k7 + 1) _ h (Nat.lt_succ_self n1) ?_)
          exact sub_ok (ρ := [(0, some 0), (1, some 1)]) (l := [a0.length = a0.length, ∀ i, i < a0.length → ∀ j, j < 2 → E65.cf (a0.getD i E65.z) j = E65.cf (a0.getD i E65.z) j, false = false, 0 = 0, r4.1.length = r4.1.length, 0 = 0, r4.2.1.length = r4.2.1.length, (r4.2.2.2 : Int) = r4.2.2.2, ((IntKind.i64.wrap (x6 + 1)) : Int) = (IntKind.i64.wrap (x6 + 1)), a0.length = a0.length, ∀ i, i < a0.length → ∀ j, j < 2 → E65.cf (a0.getD i E65.z) j = E65.cf (a0.getD i E65.z) j, (((a0.length : Nat) : Int) : Int) = ((a0.length : Nat) : Int), ((IntKind.i64.wrap (((k7 : Nat) : Int) + 1)) : Int) = (((k7 + 1) : Nat) : Int), E29.cR r4.1 = E29.cR r4.1, AllPv (E29.cR r4.1), E3.cR r4.2.1 = E3.cR r4.2.1, AllPv (E3.cR r4.2.1)]) (by as_aux_lemma => kernel_rfl) ⟨rfl, fun _ _ _ _ => rfl, rfl, rfl, rfl, rfl, rfl, rfl, rfl, rfl, fun _ _ _ _ => rfl, rfl, (wrap_nat (Int.ofNat_lt.1 (of_decide_eq_true c8)) (by omega)), rfl, (Elem.cR_pv _ _), rfl, (Elem.cR_pv _ _), trivial⟩
        · refine sk_leaf ?_
          refine back_ok (p := p1) (by as_aux_lemma => kernel_rfl) (hp1 (n1, x6, k7 + 1) _ h (Nat.lt_succ_self n1) ?_)
          exact sub_ok (ρ := [(0, some 0), (1, some 1)]) (l := [a0.length = a0.length, ∀ i, i < a0.length → ∀ j, j < 2 → E65.cf (a0.getD i E65.z) j = E65.cf (a0.getD i E65.z) j, false = false, 0 = 0, r4.1.length = r4.1.length, 0 = 0, r4.2.1.length = r4.2.1.length, (r4.2.2.2 : Int) = r4.2.2.2, (x6 : Int) = x6, a0.length = a0.length, ∀ i, i < a0.length → ∀ j, j < 2 → E65.cf (a0.getD i E65.z) j = E65.cf (a0.getD i E65.z) j, (((a0.length : Nat) : Int) : Int) = ((a0.length : Nat) : Int), ((IntKind.i64.wrap (((k7 : Nat) : Int) + 1)) : Int) = (((k7 + 1) : Nat) : Int), E29.cR r4.1 = E29.cR r4.1, AllPv (E29.cR r4.1), E3.cR r4.2.1 = E3.cR r4.2.1, AllPv (E3.cR r4.2.1)]) (by as_aux_lemma => kernel_rfl) ⟨rfl, fun _ _ _ _ => rfl, rfl, rfl, rfl, rfl, rfl, rfl, rfl, rfl, fun _ _ _ _ => rfl, rfl, (wrap_nat (Int.ofNat_lt.1 (of_decide_eq_true c8)) (by omega)), rfl, (Elem.cR_pv _ _), rfl, (Elem.cR_pv _ _), trivial⟩
      · refine sk_and ((by decide : ∀ y0 : Bool, ((y0 = true) → (y0 = true))) ((((r4.1.length : Nat) : Int) : Int) == ((a0.length : Nat) : Int))) ?_
        refine sk_and ((by decide : ∀ y0 : Bool, ((y0 = true) → (y0 = true))) ((((r4.1.length : Nat) : Int) : Int) == ((a0.length : Nat) : Int))) ?_
        refine sk_and ((by decide : ∀ y0 : Bool, ((y0 = true) → (y0 = true))) (((((r4.1.length : Nat) : Int) : Int) == ((a0.length : Nat) : Int)) && (decide ((r4.2.2.2 : Int) ≥ 0)))) ?_
        refine sk_and ((by decide : ∀ y0 : Bool, ((y0 = true) → (y0 = true))) (((((r4.1.length : Nat) : Int) : Int) == ((a0.length : Nat) : Int)) && (decide ((r4.2.2.2 : Int) ≥ 0)))) ?_
        refine sk_and ((by decide : ∀ y0 : Bool, ((y0 = true) → (y0 = true))) (((((r4.1.length : Nat) : Int) : Int) == ((a0.length : Nat) : Int)) && (decide ((r4.2.2.2 : Int) ≥ 0)))) ?_
        refine sk_and ((by decide : ∀ y0 : Bool, ((y0 = true) → (y0 = true))) (((((r4.1.length : Nat) : Int) : Int) == ((a0.length : Nat) : Int)) && (decide ((r4.2.2.2 : Int) ≥ 0)))) ?_
        refine sk_and ((by decide : ∀ y0 : Bool, ((y0 = true) → (y0 = true))) (((((r4.1.length : Nat) : Int) : Int) == ((a0.length : Nat) : Int)) && (decide ((r4.2.2.2 : Int) ≥ 0)))) ?_
        refine sk_and ((by decide : ∀ y0 : Bool, ((y0 = true) → (y0 = true))) (((((r4.1.length : Nat) : Int) : Int) == ((a0.length : Nat) : Int)) && (decide ((r4.2.2.2 : Int) ≥ 0)))) ?_
        refine sk_leaf ?_
        obtain rfl := some_ h
        exact end_ok [] Try.results11 (ps := [((((((r4.1.length : Nat) : Int) : Int) == ((a0.length : Nat) : Int)) && (decide ((r4.2.2.2 : Int) ≥ 0))) && (((IntKind.i64.wrap (((r4.2.1.length : Nat) : Int) + r4.2.2.2)) : Int) == x6)) = ((((((r4.1.length : Nat) : Int) : Int) == ((a0.length : Nat) : Int)) && (decide ((r4.2.2.2 : Int) ≥ 0))) && (((IntKind.i64.wrap (((r4.2.1.length : Nat) : Int) + r4.2.2.2)) : Int) == x6))]) (by as_aux_lemma => kernel_rfl) ⟨rfl, trivial⟩ (fun _ => ⟨rfl, by simp⟩)

set_option maxHeartbeats 40000000 in
set_option maxRecDepth 100000 in
theorem keep_WaitFirst_ok (a0 : (List Int)) (a1 : Int) (r : Bool) (h : keep_WaitFirst a0 a1 = some r) {al : Bool} : PCalls Try.prog 12 [.pv ((E3.ro a0)), .pv (.raw (.int .i64 a1))] al (.pv (.raw (.bool r))) [] := by
  unfold keep_WaitFirst at h
  refine fn_ok tabOk Try.func12 (by as_aux_lemma => kernel_rfl) (by as_aux_lemma => kernel_rfl) Try.ntmps12 (by simp) ?_
  refine segs [] tabOk mixed 4000 (S := .leaf 0) (by as_aux_lemma => kernel_rfl) ?_
  refine sk_leaf ?_
  obtain ⟨r1, e2, h⟩ := bd_ h
  refine call_ok (d := some 13) (fn := 25) (ax := []) (args := []) (ps := []) (hb' := []) (by as_aux_lemma => kernel_rfl) (keep_alive15_ok  _ e2 (al := true)) (by as_aux_lemma => kernel_rfl) trivial (fun _ => (by as_aux_lemma => kernel_rfl)) (by simp) rfl (by as_aux_lemma => kernel_rfl) ?_
  refine segs [] tabOk mixed 4000 (S := .br (!r1) (.leaf 0) (.leaf 1)) (by as_aux_lemma => kernel_rfl) ?_
  refine br_ h ?_ ?_ <;> clear h <;> intro c3 h
  · refine sk_leaf ?_
    obtain rfl := some_ h
    exact end_ok [] Try.results12 (ps := [false = false]) (by as_aux_lemma => kernel_rfl) ⟨rfl, trivial⟩ (fun _ => ⟨rfl, by simp⟩)
  · refine sk_leaf ?_
    refine len_ro (by as_aux_lemma => kernel_rfl) 15 (s := 1) (n := a0.length) (c := fun i j => E3.cf (a0.getD i E3.z) j) (by as_aux_lemma => kernel_rfl) ?_; intro hl1_0
    replace h : (fun (x : Nat × List Int × List Api_WaitOp × Nat) => keep_WaitFirst_l1 a0 a1 x.1 x.2.1 x.2.2.1 x.2.2.2 = some r) (FUEL, ([] : List Int), ([] : List Api_WaitOp), 0) := h
    refine loop_ok (by as_aux_lemma => kernel_rfl) (X := Nat × List Int × List Api_WaitOp × Nat) (fun x => keep_WaitFirst_l1 a0 a1 x.1 x.2.1 x.2.2.1 x.2.2.2 = some r) (fun x => x.1) (fun x => mk 78 [(1, .pv (.raw (.int .i64 a1))), (4, .pv (.raw (.bool false))), (5, .row 0 1 0 x.2.1.length), (6, .row 1 2 0 x.2.2.1.length), (15, .pv ((E3.ro a0))), (16, .pv (.raw (.int .i64 ((a0.length : Nat) : Int)))), (17, .pv (.raw (.int .i64 ((x.2.2.2 : Nat) : Int))))] [(0, .row 3 1 (E3.cR x.2.1)), (1, .row 65 2 (E65.cR x.2.2.1))]) (FUEL, ([] : List Int), ([] : List Api_WaitOp), 0) h ?_ ?_
    · exact sub_ok (ρ := [(0, none), (1, none)]) (l := [(a1 : Int) = a1, false = false, 0 = 0, (([] : List Int).length) = 0, 0 = 0, (([] : List Api_WaitOp).length) = 0, a0.length = a0.length, ∀ i, i < a0.length → ∀ j, j < 1 → E3.cf (a0.getD i E3.z) j = E3.cf (a0.getD i E3.z) j, (((a0.length : Nat) : Int) : Int) = ((a0.length : Nat) : Int), (0 : Int) = ((0 : Nat) : Int), E3.cR ([] : List Int) = [], E65.cR ([] : List Api_WaitOp) = []]) (by as_aux_lemma => kernel_rfl) ⟨rfl, rfl, rfl, (by first | rfl | simp), rfl, (by first | rfl | simp), rfl, fun _ _ _ _ => rfl, rfl, (by first | rfl | simp), rfl, rfl, trivial⟩
    · clear h; rintro ⟨n1, l4, l5, k6⟩ h p1 hp1
      obtain _ | n1 := n1
      · cases (show (none : Option (Bool)) = some r from h)
      have h : keep_WaitFirst_l1 a0 a1 (n1 + 1) l4 l5 k6 = some r := h
      unfold keep_WaitFirst_l1 at h
      refine segs [] tabOk mixed 4000 (S := .br (decide ((((k6 : Nat) : Int) : Int) < ((a0.length : Nat) : Int))) (.and (0 ≤ (((k6 : Nat) : Int) : Int) ∧ ((k6 : Nat) : Int) < ((a0.length : Nat) : Int)) (.and (((!(decide (((a0.getD k6 0) : Int) < 0))) = true → ((!(decide (((a0.getD k6 0) : Int) < 0))) = true))) (.and ((decide (((a0.getD k6 0) : Int) < 0)) = false → (!(decide (((a0.getD k6 0) : Int) < 0))) = true) (.leaf 0)))) (.and (((!(decide ((a1 : Int) < 0))) = true → ((!(decide ((a1 : Int) < 0))) = true))) (.and ((decide ((a1 : Int) < 0)) = false → (!(decide ((a1 : Int) < 0))) = true) (.br ((decide ((a1 : Int) < 0)) || (decide ((a1 : Int) > 100))) (.leaf 1) (.leaf 2))))) (by as_aux_lemma => kernel_rfl) ?_
      refine br_ h ?_ ?_ <;> clear h <;> intro c7 h
      · refine sk_and ⟨Int.natCast_nonneg _, of_decide_eq_true c7⟩ ?_
        refine sk_and ((by decide : ∀ y0 : Bool, ((y0 = true) → (y0 = true))) (!(decide (((a0.getD k6 0) : Int) < 0)))) ?_
        refine sk_and ((by decide : ∀ y0 : Bool, ((y0 = false) → ((!y0) = true))) (decide (((a0.getD k6 0) : Int) < 0))) ?_
        refine sk_leaf ?_
        obtain ⟨r11, e12, h⟩ := bd_ h
        refine callG_ok (d := some 30) (fn := 27) (ax := [.row 0 1 0 l4.length, .pv (.raw (.int .i64 (a0.getD k6 0)))]) (args := [.pv ((E3.ro l4)), .pv (.raw (.int .i64 (a0.getD k6 0)))]) (g := (!((decide (((a0.getD k6 0) : Int) < 0)) || (decide (((a0.getD k6 0) : Int) > 63))))) (ws := [(!((decide (((a0.getD k6 0) : Int) < 0)) || (decide (((a0.getD k6 0) : Int) > 63)))) = true, (!((decide (((a0.getD k6 0) : Int) < 0)) || (decide (((a0.getD k6 0) : Int) > 63)))) = true]) (ps := [l4.length = l4.length, rowQ (E3.cR l4) 1 0 l4.length (fun i j => E3.cf (l4.getD i E3.z) j), ((a0.getD k6 0) : Int) = (a0.getD k6 0)]) (by as_aux_lemma => kernel_rfl) (fun hg => ⟨((by decide : ∀ y0 : Bool, ((y0 = true) → (y0 = true))) (!((decide (((a0.getD k6 0) : Int) < 0)) || (decide (((a0.getD k6 0) : Int) > 63))))) hg, ((by decide : ∀ y0 : Bool, ((y0 = true) → (y0 = true))) (!((decide (((a0.getD k6 0) : Int) < 0)) || (decide (((a0.getD k6 0) : Int) > 63))))) hg, trivial⟩) (fun hg => slices_Contains_int_ok _ _ _ (by rw [hg] at e12; exact e12) (al := false)) (by as_aux_lemma => kernel_rfl) (fun hg => ⟨(by first | rfl | exact Elem.sub_len _ (by omega) | omega | simp | (simp <;> omega)), E3.rowQ_all l4 rfl, rfl, trivial⟩) (fun hx => by cases hx) ?_
        refine segs [] tabOk mixed 4000 (S := .and (((decide (((a0.getD k6 0) : Int) < 0)) || (decide (((a0.getD k6 0) : Int) > 63))) = false → (!((decide (((a0.getD k6 0) : Int) < 0)) || (decide (((a0.getD k6 0) : Int) > 63)))) = true) (.br (((decide (((a0.getD k6 0) : Int) < 0)) || (decide (((a0.getD k6 0) : Int) > 63))) || r11) (.leaf 0) (.leaf 1))) (by as_aux_lemma => kernel_rfl) ?_
        refine sk_and ((by decide : ∀ y0 : Bool, ((y0 = false) → ((!y0) = true))) ((decide (((a0.getD k6 0) : Int) < 0)) || (decide (((a0.getD k6 0) : Int) > 63)))) ?_
        refine br_ h ?_ ?_ <;> clear h <;> intro c14 h
        · refine sk_leaf ?_
          refine back_ok (p := p1) (by as_aux_lemma => kernel_rfl) (hp1 (n1, l4, l5, k6 + 1) _ h (Nat.lt_succ_self n1) ?_)
          exact sub_ok (ρ := [(0, some 0), (1, some 1)]) (l := [(a1 : Int) = a1, false = false, 0 = 0, l4.length = l4.length, 0 = 0, l5.length = l5.length, a0.length = a0.length, ∀ i, i < a0.length → ∀ j, j < 1 → E3.cf (a0.getD i E3.z) j = E3.cf (a0.getD i E3.z) j, (((a0.length : Nat) : Int) : Int) = ((a0.length : Nat) : Int), ((IntKind.i64.wrap (((k6 : Nat) : Int) + 1)) : Int) = (((k6 + 1) : Nat) : Int), E3.cR l4 = E3.cR l4, AllPv (E3.cR l4), E65.cR l5 = E65.cR l5, AllPv (E65.cR l5)]) (by as_aux_lemma => kernel_rfl) ⟨rfl, rfl, rfl, rfl, rfl, rfl, rfl, fun _ _ _ _ => rfl, rfl, (wrap_nat (Int.ofNat_lt.1 (of_decide_eq_true c7)) (by omega)), rfl, (Elem.cR_pv _ _), rfl, (Elem.cR_pv _ _), trivial⟩
        · refine sk_leaf ?_
          refine bs_ok (d := 34) (e := 3) (s := 1) (n := 1) (cs := [.pv (.raw (.int .i64 (a0.getD k6 0)))]) (cs' := E3.cR [(a0.getD k6 0)]) (by as_aux_lemma => kernel_rfl) rfl (by as_aux_lemma => kernel_rfl) ?_
          refine segs [] tabOk mixed 4000 (S := .leaf 0) (by as_aux_lemma => kernel_rfl) ?_
          refine sk_leaf ?_
          obtain ⟨g15, h⟩ := if_ h
          refine app_ok (d := 35) (e := 3) (s := 1) (b := 8) (x := .row 0 1 0 l4.length) (y := .row 16928 1 0 1) E3 (xs := l4) (ys := [(a0.getD k6 0)]) (by as_aux_lemma => kernel_rfl) rfl (.row 0 l4 l4.length rfl (by as_aux_lemma => kernel_rfl)) (.all 16928 3 [(a0.getD k6 0)] 1 rfl (by as_aux_lemma => kernel_rfl)) g15 (by as_aux_lemma => kernel_rfl) ?_
          refine segs [] tabOk mixed 4000 (S := .leaf 0) (by as_aux_lemma => kernel_rfl) ?_
          refine sk_leaf ?_
          refine bs_ok (d := 41) (e := 65) (s := 2) (n := 2) (cs := [.pv (.raw (.int .i64 1)), .pv (.raw (.int .i64 (a0.getD k6 0))), .pv (.raw (.int .i64 3)), .pv (.raw (.int .i64 (a0.getD k6 0)))]) (cs' := E65.cR [(⟨1, (a0.getD k6 0)⟩ : Api_WaitOp), (⟨3, (a0.getD k6 0)⟩ : Api_WaitOp)]) (by as_aux_lemma => kernel_rfl) rfl (by as_aux_lemma => kernel_rfl) ?_
          refine segs [] tabOk mixed 4000 (S := .leaf 0) (by as_aux_lemma => kernel_rfl) ?_
          refine sk_leaf ?_
          obtain ⟨g16, h⟩ := if_ h
          refine app_ok (d := 42) (e := 65) (s := 2) (b := 16) (x := .row 1 2 0 l5.length) (y := .row 17040 2 0 2) E65 (xs := l5) (ys := [(⟨1, (a0.getD k6 0)⟩ : Api_WaitOp), (⟨3, (a0.getD k6 0)⟩ : Api_WaitOp)]) (by as_aux_lemma => kernel_rfl) rfl (.row 1 l5 l5.length rfl (by as_aux_lemma => kernel_rfl)) (.all 17040 65 [(⟨1, (a0.getD k6 0)⟩ : Api_WaitOp), (⟨3, (a0.getD k6 0)⟩ : Api_WaitOp)] 2 rfl (by as_aux_lemma => kernel_rfl)) g16 (by as_aux_lemma => kernel_rfl) ?_
          refine segs [] tabOk mixed 4000 (S := .leaf 0) (by as_aux_lemma => kernel_rfl) ?_
          refine sk_leaf ?_
          refine back_ok (p := p1) (by as_aux_lemma => kernel_rfl) (hp1 (n1, (l4 ++ [(a0.getD k6 0)]), (l5 ++ [(⟨1, (a0.getD k6 0)⟩ : Api_WaitOp), (⟨3, (a0.getD k6 0)⟩ : Api_WaitOp)]), k6 + 1) _ h (Nat.lt_succ_self n1) ?_)
          exact sub_ok (ρ := [(0, some 16944), (1, some 17056)]) (l := [(a1 : Int) = a1, false = false, 0 = 0, ((l4 ++ [(a0.getD k6 0)]).length) = ((l4 ++ [(a0.getD k6 0)]).length), 0 = 0, ((l5 ++ [(⟨1, (a0.getD k6 0)⟩ : Api_WaitOp), (⟨3, (a0.getD k6 0)⟩ : Api_WaitOp)]).length) = ((l5 ++ [(⟨1, (a0.getD k6 0)⟩ : Api_WaitOp), (⟨3, (a0.getD k6 0)⟩ : Api_WaitOp)]).length), a0.length = a0.length, ∀ i, i < a0.length → ∀ j, j < 1 → E3.cf (a0.getD i E3.z) j = E3.cf (a0.getD i E3.z) j, (((a0.length : Nat) : Int) : Int) = ((a0.length : Nat) : Int), ((IntKind.i64.wrap (((k6 : Nat) : Int) + 1)) : Int) = (((k6 + 1) : Nat) : Int), E3.cR (l4 ++ [(a0.getD k6 0)]) = E3.cR (l4 ++ [(a0.getD k6 0)]), AllPv (E3.cR (l4 ++ [(a0.getD k6 0)])), E65.cR (l5 ++ [(⟨1, (a0.getD k6 0)⟩ : Api_WaitOp), (⟨3, (a0.getD k6 0)⟩ : Api_WaitOp)]) = E65.cR (l5 ++ [(⟨1, (a0.getD k6 0)⟩ : Api_WaitOp), (⟨3, (a0.getD k6 0)⟩ : Api_WaitOp)]), AllPv (E65.cR (l5 ++ [(⟨1, (a0.getD k6 0)⟩ : Api_WaitOp), (⟨3, (a0.getD k6 0)⟩ : Api_WaitOp)]))]) (by as_aux_lemma => kernel_rfl) ⟨rfl, rfl, rfl, rfl, rfl, rfl, rfl, fun _ _ _ _ => rfl, rfl, (wrap_nat (Int.ofNat_lt.1 (of_decide_eq_true c7)) (by omega)), rfl, (Elem.cR_pv _ _), rfl, (Elem.cR_pv _ _), trivial⟩
      · refine sk_and ((by decide : ∀ y0 : Bool, ((y0 = true) → (y0 = true))) (!(decide ((a1 : Int) < 0)))) ?_
        refine sk_and ((by decide : ∀ y0 : Bool, ((y0 = false) → ((!y0) = true))) (decide ((a1 : Int) < 0))) ?_
        refine br_ h ?_ ?_ <;> clear h <;> intro c19 h
        · refine sk_leaf ?_
          obtain rfl := some_ h
          exact end_ok [] Try.results12 (ps := [true = true]) (by as_aux_lemma => kernel_rfl) ⟨rfl, trivial⟩ (fun _ => ⟨rfl, by simp⟩)
        · refine sk_leaf ?_
          refine len_row (by as_aux_lemma => kernel_rfl) 0 (e := 3) (s := 1) (n := l4.length) (cs := E3.cR l4) (by as_aux_lemma => kernel_rfl) (Elem.cR_length _ _) ?_; intro hl2_0
          refine len_row (by as_aux_lemma => kernel_rfl) 1 (e := 65) (s := 2) (n := l5.length) (cs := E65.cR l5) (by as_aux_lemma => kernel_rfl) (Elem.cR_length _ _) ?_; intro hl2_1
          replace h : (fun (x : Nat × List Api_WaitOp × Int) => keep_WaitFirst_l2 a1 l4 l5 x.1 x.2.1 x.2.2 = some r) (FUEL, l5, 0) := h
          refine loop_ok (by as_aux_lemma => kernel_rfl) (X := Nat × List Api_WaitOp × Int) (fun x => keep_WaitFirst_l2 a1 l4 l5 x.1 x.2.1 x.2.2 = some r) (fun x => x.1) (fun x => mk 78 [(1, .pv (.raw (.int .i64 a1))), (4, .pv (.raw (.bool false))), (5, .row 0 1 0 l4.length), (6, .row 1 2 0 x.2.1.length), (50, .pv (.raw (.int .i64 a1))), (51, .pv (.raw (.int .i64 x.2.2)))] [(0, .row 3 1 (E3.cR l4)), (1, .row 65 2 (E65.cR x.2.1))]) (FUEL, l5, 0) h ?_ ?_
          · exact sub_ok (ρ := [(0, some 0), (1, some 1)]) (l := [(a1 : Int) = a1, false = false, 0 = 0, l4.length = l4.length, 0 = 0, l5.length = l5.length, (a1 : Int) = a1, (0 : Int) = 0, E3.cR l4 = E3.cR l4, AllPv (E3.cR l4), E65.cR l5 = E65.cR l5, AllPv (E65.cR l5)]) (by as_aux_lemma => kernel_rfl) ⟨rfl, rfl, rfl, rfl, rfl, rfl, rfl, rfl, rfl, (Elem.cR_pv _ _), rfl, (Elem.cR_pv _ _), trivial⟩
          · clear h; rintro ⟨n2, l20, x21⟩ h p2 hp2
            obtain _ | n2 := n2
            · cases (show (none : Option (Bool)) = some r from h)
            have h : keep_WaitFirst_l2 a1 l4 l5 (n2 + 1) l20 x21 = some r := h
            unfold keep_WaitFirst_l2 at h
            refine segs [] tabOk mixed 4000 (S := .br (decide ((x21 : Int) < a1)) (.leaf 0) (.leaf 1)) (by as_aux_lemma => kernel_rfl) ?_
            refine br_ h ?_ ?_ <;> clear h <;> intro c22 h
            · refine sk_leaf ?_
              refine bs_ok (d := 55) (e := 65) (s := 2) (n := 1) (cs := [.pv (.raw (.int .i64 4)), .pv (.raw (.int .i64 0))]) (cs' := E65.cR [(⟨4, 0⟩ : Api_WaitOp)]) (by as_aux_lemma => kernel_rfl) rfl (by as_aux_lemma => kernel_rfl) ?_
              refine segs [] tabOk mixed 4000 (S := .leaf 0) (by as_aux_lemma => kernel_rfl) ?_
              refine sk_leaf ?_
              obtain ⟨g23, h⟩ := if_ h
              refine app_ok (d := 56) (e := 65) (s := 2) (b := 16) (x := .row 1 2 0 l20.length) (y := .row 17264 2 0 1) E65 (xs := l20) (ys := [(⟨4, 0⟩ : Api_WaitOp)]) (by as_aux_lemma => kernel_rfl) rfl (.row 1 l20 l20.length rfl (by as_aux_lemma => kernel_rfl)) (.all 17264 65 [(⟨4, 0⟩ : Api_WaitOp)] 1 rfl (by as_aux_lemma => kernel_rfl)) g23 (by as_aux_lemma => kernel_rfl) ?_
              refine segs [] tabOk mixed 4000 (S := .leaf 0) (by as_aux_lemma => kernel_rfl) ?_
              refine sk_leaf ?_
              refine back_ok (p := p2) (by as_aux_lemma => kernel_rfl) (hp2 (n2, (l20 ++ [(⟨4, 0⟩ : Api_WaitOp)]), (IntKind.i64.wrap (x21 + 1))) _ h (Nat.lt_succ_self n2) ?_)
              exact sub_ok (ρ := [(0, some 0), (1, some 17280)]) (l := [(a1 : Int) = a1, false = false, 0 = 0, l4.length = l4.length, 0 = 0, ((l20 ++ [(⟨4, 0⟩ : Api_WaitOp)]).length) = ((l20 ++ [(⟨4, 0⟩ : Api_WaitOp)]).length), (a1 : Int) = a1, ((IntKind.i64.wrap (x21 + 1)) : Int) = (IntKind.i64.wrap (x21 + 1)), E3.cR l4 = E3.cR l4, AllPv (E3.cR l4), E65.cR (l20 ++ [(⟨4, 0⟩ : Api_WaitOp)]) = E65.cR (l20 ++ [(⟨4, 0⟩ : Api_WaitOp)]), AllPv (E65.cR (l20 ++ [(⟨4, 0⟩ : Api_WaitOp)]))]) (by as_aux_lemma => kernel_rfl) ⟨rfl, rfl, rfl, rfl, rfl, rfl, rfl, rfl, rfl, (Elem.cR_pv _ _), rfl, (Elem.cR_pv _ _), trivial⟩
            · refine sk_leaf ?_
              obtain ⟨r24, e25, h⟩ := bd_ h
              refine call_ok (d := some 60) (fn := 26) (ax := [.row 1 2 0 l20.length]) (args := [.pv ((E65.ro l20))]) (ps := [l20.length = l20.length, rowQ (E65.cR l20) 2 0 l20.length (fun i j => E65.cf (l20.getD i E65.z) j)]) (hb' := [.row 29 1 (E29.cR r24.1), .row 3 1 (E3.cR r24.2.1), .row 3 1 (E3.cR r24.2.2.1)]) (by as_aux_lemma => kernel_rfl) (wait_Play_ok _ _ e25 (al := false)) (by as_aux_lemma => kernel_rfl) ⟨(by first | rfl | exact Elem.sub_len _ (by omega) | omega | simp | (simp <;> omega)), E65.rowQ_all l20 rfl, trivial⟩ (fun hx => by cases hx) (by simp) (by simp only [List.map_cons, List.map_nil, Elem.row_up, up_map] <;> rfl) (by as_aux_lemma => kernel_rfl) ?_
              refine segs [] tabOk mixed 4000 (S := .and ((((r24.2.2.2 : Int) == a1) = true → (((r24.2.2.2 : Int) == a1) = true))) (.and ((((r24.2.2.2 : Int) == a1) = true → (((r24.2.2.2 : Int) == a1) = true))) (.and ((((r24.2.2.2 : Int) == a1) = true → (((r24.2.2.2 : Int) == a1) = true))) (.and ((((r24.2.2.2 : Int) == a1) = true → (((r24.2.2.2 : Int) == a1) = true))) (.and ((((r24.2.2.2 : Int) == a1) = true → (((r24.2.2.2 : Int) == a1) = true))) (.and ((((r24.2.2.2 : Int) == a1) = true → (0 ≤ ((if (((l4.length : Nat) : Int) : Int) < a1 then ((l4.length : Nat) : Int) else a1) : Int)))) (.and ((((r24.2.2.2 : Int) == a1) = true → ((Int.toNat (if (((l4.length : Nat) : Int) : Int) < a1 then ((l4.length : Nat) : Int) else a1)) ≤ l4.length))) (.leaf 0)))))))) (by as_aux_lemma => kernel_rfl) ?_
              refine sk_and ((by decide : ∀ y0 : Bool, ((y0 = true) → (y0 = true))) ((r24.2.2.2 : Int) == a1)) ?_
              refine sk_and ((by decide : ∀ y0 : Bool, ((y0 = true) → (y0 = true))) ((r24.2.2.2 : Int) == a1)) ?_
              refine sk_and ((by decide : ∀ y0 : Bool, ((y0 = true) → (y0 = true))) ((r24.2.2.2 : Int) == a1)) ?_
              refine sk_and ((by decide : ∀ y0 : Bool, ((y0 = true) → (y0 = true))) ((r24.2.2.2 : Int) == a1)) ?_
              refine sk_and ((by decide : ∀ y0 : Bool, ((y0 = true) → (y0 = true))) ((r24.2.2.2 : Int) == a1)) ?_
              refine gd_ h ?_; clear h; intro g31 h
              refine gd_ h ?_; clear h; intro g32 h
              refine sk_leaf ?_
              obtain ⟨r33, e34, h⟩ := bd_ h
              refine callG_ok (d := some 76) (fn := 18) (ax := [.row 17346 1 0 r24.2.2.1.length, .row 0 1 (0 + (Int.toNat (if (((l4.length : Nat) : Int) : Int) < a1 then ((l4.length : Nat) : Int) else a1))) (l4.length - (Int.toNat (if (((l4.length : Nat) : Int) : Int) < a1 then ((l4.length : Nat) : Int) else a1)))]) (args := [.pv ((E3.ro r24.2.2.1)), .pv ((E3.ro ((l4.drop (0 + (Int.toNat (if (((l4.length : Nat) : Int) : Int) < a1 then ((l4.length : Nat) : Int) else a1)))).take (l4.length - (Int.toNat (if (((l4.length : Nat) : Int) : Int) < a1 then ((l4.length : Nat) : Int) else a1))))))]) (g := ((r24.2.2.2 : Int) == a1)) (ws := [((r24.2.2.2 : Int) == a1) = true, ((r24.2.2.2 : Int) == a1) = true]) (ps := [r24.2.2.1.length = r24.2.2.1.length, rowQ (E3.cR r24.2.2.1) 1 0 r24.2.2.1.length (fun i j => E3.cf (r24.2.2.1.getD i E3.z) j), (l4.length - (Int.toNat (if (((l4.length : Nat) : Int) : Int) < a1 then ((l4.length : Nat) : Int) else a1))) = ((l4.drop (0 + (Int.toNat (if (((l4.length : Nat) : Int) : Int) < a1 then ((l4.length : Nat) : Int) else a1)))).take (l4.length - (Int.toNat (if (((l4.length : Nat) : Int) : Int) < a1 then ((l4.length : Nat) : Int) else a1)))).length, rowQ (E3.cR l4) 1 (0 + (Int.toNat (if (((l4.length : Nat) : Int) : Int) < a1 then ((l4.length : Nat) : Int) else a1))) (l4.length - (Int.toNat (if (((l4.length : Nat) : Int) : Int) < a1 then ((l4.length : Nat) : Int) else a1))) (fun i j => E3.cf (((l4.drop (0 + (Int.toNat (if (((l4.length : Nat) : Int) : Int) < a1 then ((l4.length : Nat) : Int) else a1)))).take (l4.length - (Int.toNat (if (((l4.length : Nat) : Int) : Int) < a1 then ((l4.length : Nat) : Int) else a1)))).getD i E3.z) j)]) (by as_aux_lemma => kernel_rfl) (fun hg => ⟨((by decide : ∀ y0 : Bool, ((y0 = true) → (y0 = true))) ((r24.2.2.2 : Int) == a1)) hg, ((by decide : ∀ y0 : Bool, ((y0 = true) → (y0 = true))) ((r24.2.2.2 : Int) == a1)) hg, trivial⟩) (fun hg => slices_Equal_int_ok _ _ _ (by rw [hg] at e34; exact e34) (al := false)) (by as_aux_lemma => kernel_rfl) (fun hg => (by have q0 := g31 hg; have q1 := g32 hg; exact ⟨(by first | rfl | exact Elem.sub_len _ (by omega) | omega | simp | (simp <;> omega)), E3.rowQ_all r24.2.2.1 rfl, (by first | rfl | exact Elem.sub_len _ (by omega) | omega | simp | (simp <;> omega)), E3.rowQ_part l4 (0 + (Int.toNat (if (((l4.length : Nat) : Int) : Int) < a1 then ((l4.length : Nat) : Int) else a1))) (l4.length - (Int.toNat (if (((l4.length : Nat) : Int) : Int) < a1 then ((l4.length : Nat) : Int) else a1))) (by first | omega | (simp at * <;> omega) | (simp_all <;> omega)), trivial⟩)) (fun hx => by cases hx) ?_
              refine segs [] tabOk mixed 4000 (S := .and (((r24.2.2.2 : Int) == a1) = true → ((r24.2.2.2 : Int) == a1) = true) (.leaf 0)) (by as_aux_lemma => kernel_rfl) ?_
              refine sk_and ((by decide : ∀ y0 : Bool, ((y0 = true) → (y0 = true))) ((r24.2.2.2 : Int) == a1)) ?_
              refine sk_leaf ?_
              obtain rfl := some_ h
              exact end_ok [] Try.results12 (ps := [(((r24.2.2.2 : Int) == a1) && r33) = (((r24.2.2.2 : Int) == a1) && r33)]) (by as_aux_lemma => kernel_rfl) ⟨rfl, trivial⟩ (fun _ => ⟨rfl, by simp⟩)

end Go.Proofs.Ytgelldlehahabaa
