import Derived.Test.YtfnmmlcmjmepjaaQUAW1
set_option linter.unusedSimpArgs false
set_option linter.unusedVariables false
namespace Go.Proofs.Ytfnmmlcmjmepjaa
open Go Go.Ab
attribute [local irreducible] V VS runS Sk.Holds
set_option maxHeartbeats 40000000 in
set_option maxRecDepth 100000 in
theorem line_Play_ok (a0 : (List Api_Pin)) (a1 : (List Api_PinOp)) (r : (List Api_Pin) × (List Api_Sent) × Int) (h : line_Play a0 a1 = some r) {al : Bool} : PCalls Try.prog 11 [.pv ((E35.ro a0)), .pv ((E28.ro a1))] al (.tup [.row 0 7 0 r.1.length, .row 1 3 0 r.2.1.length, .pv (.raw (.int .i64 r.2.2))]) [.row 35 7 (E35.cR r.1), .row 39 3 (E39.cR r.2.1)] := by
  unfold line_Play at h
  refine fn_ok tabOk Try.func11 (by kernel_rfl) (by kernel_rfl) Try.ntmps11 (by simp) ?_
  refine segs [] tabOk mixed 4000 (S := .leaf 0) (by kernel_rfl) ?_
  refine sk_leaf ?_
  obtain ⟨r1, e2, h⟩ := bd_ h
  refine call_ok (d := some 14) (fn := 8) (ax := [.pv ((E35.ro a0))]) (args := [.pv ((E35.ro a0))]) (ps := [a0.length = a0.length, ∀ i, i < a0.length → ∀ j, j < 7 → E35.cf (a0.getD i E35.z) j = E35.cf (a0.getD i E35.z) j]) (hb' := []) (by kernel_rfl) (line_Right_ok _ _ e2 (al := true)) (by kernel_rfl) ⟨rfl, fun _ _ _ _ => rfl, trivial⟩ (fun _ => (by kernel_rfl)) (by simp) rfl (by kernel_rfl) ?_
  refine segs [] tabOk mixed 4000 (S := .br (!r1) (.leaf 0) (.leaf 1)) (by kernel_rfl) ?_
  refine br_ h ?_ ?_ <;> clear h <;> intro c3 h
  · refine sk_leaf ?_
    obtain rfl := some_ h
    exact end_ok [(0, none), (1, none)] Try.results11 (ps := [0 = 0, ([] : List Api_Pin).length = 0, 0 = 0, ([] : List Api_Sent).length = 0, (1 : Int) = 1, E35.cR [] = [], E39.cR [] = []]) (by kernel_rfl) ⟨rfl, rfl, rfl, rfl, rfl, rfl, rfl, trivial⟩ (fun _ => ⟨rfl, by simp only [List.mem_cons, List.not_mem_nil, or_false, forall_eq_or_imp, forall_eq]; exact ⟨Elem.cR_bald E35_raw _, Elem.cR_bald E39_raw _⟩⟩)
  · refine sk_leaf ?_
    refine len_ro (by kernel_rfl) 0 (s := 7) (n := a0.length) (c := fun i j => E35.cf (a0.getD i E35.z) j) (by kernel_rfl) ?_; intro hl1_0
    refine len_ro (by kernel_rfl) 16 (s := 2) (n := a1.length) (c := fun i j => E28.cf (a1.getD i E28.z) j) (by kernel_rfl) ?_; intro hl1_1
    replace h : (fun (x : Nat × List Api_Pin × List Api_Sent × Nat) => line_Play_l1 a0 a1 x.1 x.2.1 x.2.2.1 x.2.2.2 = some r) (FUEL, a0, ([] : List Api_Sent), 0) := h
    refine loop_ok (by kernel_rfl) (X := Nat × List Api_Pin × List Api_Sent × Nat) (fun x => line_Play_l1 a0 a1 x.1 x.2.1 x.2.2.1 x.2.2.2 = some r) (fun x => x.1) (fun x => mk 39 [(0, .pv ((E35.ro x.2.1))), (4, .pv (.raw (.slice none 0 0))), (5, .pv (.raw (.slice none 0 0))), (6, .pv (.raw (.int .i64 0))), (7, .row 0 3 0 x.2.2.1.length), (16, .pv ((E28.ro a1))), (17, .pv (.raw (.int .i64 ((a1.length : Nat) : Int)))), (18, .pv (.raw (.int .i64 ((x.2.2.2 : Nat) : Int))))] [(0, .row 39 3 (E39.cR x.2.2.1))]) (FUEL, a0, ([] : List Api_Sent), 0) h ?_ ?_
    · exact sub_ok (ρ := [(0, none)]) (l := [a0.length = a0.length, ∀ i, i < a0.length → ∀ j, j < 7 → E35.cf (a0.getD i E35.z) j = E35.cf (a0.getD i E35.z) j, (0 : Int) = 0, 0 = 0, (([] : List Api_Sent).length) = 0, a1.length = a1.length, ∀ i, i < a1.length → ∀ j, j < 2 → E28.cf (a1.getD i E28.z) j = E28.cf (a1.getD i E28.z) j, (((a1.length : Nat) : Int) : Int) = ((a1.length : Nat) : Int), (0 : Int) = ((0 : Nat) : Int), E39.cR ([] : List Api_Sent) = []]) (by kernel_rfl) ⟨rfl, fun _ _ _ _ => rfl, rfl, rfl, (by first | rfl | simp), rfl, fun _ _ _ _ => rfl, rfl, (by first | rfl | simp), rfl, trivial⟩
    · clear h; rintro ⟨n1, l4, l5, k6⟩ h p1 hp1
      obtain _ | n1 := n1
      · cases (show (none : Option ((List Api_Pin) × (List Api_Sent) × Int)) = some r from h)
      have h : line_Play_l1 a0 a1 (n1 + 1) l4 l5 k6 = some r := h
      unfold line_Play_l1 at h
      refine segs [] tabOk mixed 4000 (S := .br (decide ((((k6 : Nat) : Int) : Int) < ((a1.length : Nat) : Int))) (.and (0 ≤ (((k6 : Nat) : Int) : Int) ∧ ((k6 : Nat) : Int) < ((a1.length : Nat) : Int)) (.leaf 0)) (.leaf 1)) (by kernel_rfl) ?_
      refine br_ h ?_ ?_ <;> clear h <;> intro c7 h
      · refine sk_and ⟨Int.natCast_nonneg _, of_decide_eq_true c7⟩ ?_
        refine sk_leaf ?_
        obtain ⟨r9, e10, h⟩ := bd_ h
        refine call_ok (d := some 25) (fn := 32) (ax := [.pv ((E35.ro l4)), .agg [.pv (.raw (.int .i64 ((a1.getD k6 (⟨0, 0⟩ : Api_PinOp)).Kind))), .pv (.raw (.int .i64 ((a1.getD k6 (⟨0, 0⟩ : Api_PinOp)).Pin)))]]) (args := [.pv ((E35.ro l4)), .agg [.pv (.raw (.int .i64 ((a1.getD k6 (⟨0, 0⟩ : Api_PinOp)).Kind))), .pv (.raw (.int .i64 ((a1.getD k6 (⟨0, 0⟩ : Api_PinOp)).Pin)))]]) (ps := [l4.length = l4.length, ∀ i, i < l4.length → ∀ j, j < 7 → E35.cf (l4.getD i E35.z) j = E35.cf (l4.getD i E35.z) j, ((a1.getD k6 (⟨0, 0⟩ : Api_PinOp)).Kind : Int) = ((a1.getD k6 (⟨0, 0⟩ : Api_PinOp)).Kind), ((a1.getD k6 (⟨0, 0⟩ : Api_PinOp)).Pin : Int) = ((a1.getD k6 (⟨0, 0⟩ : Api_PinOp)).Pin)]) (hb' := [.row 35 7 (E35.cR r9.1), .row 39 3 (E39.cR r9.2.1)]) (by kernel_rfl) (line_Step_ok _ _ _ e10 (al := true)) (by kernel_rfl) ⟨rfl, fun _ _ _ _ => rfl, rfl, rfl, trivial⟩ (fun _ => (by kernel_rfl)) (by simp) (by simp only [List.map_cons, List.map_nil, Elem.row_up, up_map] <;> rfl) (by kernel_rfl) ?_
        refine segs [] tabOk mixed 4000 (S := .br ((r9.2.2 : Int) == 0) (.leaf 0) (.leaf 1)) (by kernel_rfl) ?_
        refine br_ h ?_ ?_ <;> clear h <;> intro c11 h
        · refine sk_leaf ?_
          obtain ⟨g12, h⟩ := if_ h
          refine app_ok (d := 34) (e := 39) (s := 3) (b := 24) (x := .row 0 3 0 l5.length) (y := .row 17985 3 0 r9.2.1.length) E39 (xs := l5) (ys := r9.2.1) (by kernel_rfl) rfl (.row 0 l5 l5.length rfl (by kernel_rfl)) (.all 17985 39 r9.2.1 r9.2.1.length rfl (by kernel_rfl)) g12 (by kernel_rfl) ?_
          refine segs [] tabOk mixed 4000 (S := .leaf 0) (by kernel_rfl) ?_
          refine sk_leaf ?_
          refine back_ok (p := p1) (by kernel_rfl) (hp1 (n1, r9.1, (l5 ++ r9.2.1), k6 + 1) _ h (Nat.lt_succ_self n1) ?_)
          exact sub_ok (ρ := [(0, some 18560)]) (l := [r9.1.length = r9.1.length, rowQ (E35.cR r9.1) 7 0 r9.1.length (fun i j => E35.cf (r9.1.getD i E35.z) j), (0 : Int) = 0, 0 = 0, ((l5 ++ r9.2.1).length) = ((l5 ++ r9.2.1).length), a1.length = a1.length, ∀ i, i < a1.length → ∀ j, j < 2 → E28.cf (a1.getD i E28.z) j = E28.cf (a1.getD i E28.z) j, (((a1.length : Nat) : Int) : Int) = ((a1.length : Nat) : Int), ((IntKind.i64.wrap (((k6 : Nat) : Int) + 1)) : Int) = (((k6 + 1) : Nat) : Int), E39.cR (l5 ++ r9.2.1) = E39.cR (l5 ++ r9.2.1), AllPv (E39.cR (l5 ++ r9.2.1))]) (by kernel_rfl) ⟨(by first | rfl | exact Elem.sub_len _ (by omega) | omega | simp | (simp <;> omega)), E35.rowQ_all r9.1 rfl, rfl, rfl, rfl, rfl, fun _ _ _ _ => rfl, rfl, (wrap_nat (Int.ofNat_lt.1 (of_decide_eq_true c7)) (by omega)), rfl, (Elem.cR_pv _ _), trivial⟩
        · refine sk_leaf ?_
          refine back_ok (p := p1) (by kernel_rfl) (hp1 (n1, l4, l5, k6 + 1) _ h (Nat.lt_succ_self n1) ?_)
          exact sub_ok (ρ := [(0, some 0)]) (l := [l4.length = l4.length, ∀ i, i < l4.length → ∀ j, j < 7 → E35.cf (l4.getD i E35.z) j = E35.cf (l4.getD i E35.z) j, (0 : Int) = 0, 0 = 0, l5.length = l5.length, a1.length = a1.length, ∀ i, i < a1.length → ∀ j, j < 2 → E28.cf (a1.getD i E28.z) j = E28.cf (a1.getD i E28.z) j, (((a1.length : Nat) : Int) : Int) = ((a1.length : Nat) : Int), ((IntKind.i64.wrap (((k6 : Nat) : Int) + 1)) : Int) = (((k6 + 1) : Nat) : Int), E39.cR l5 = E39.cR l5, AllPv (E39.cR l5)]) (by kernel_rfl) ⟨rfl, fun _ _ _ _ => rfl, rfl, rfl, rfl, rfl, fun _ _ _ _ => rfl, rfl, (wrap_nat (Int.ofNat_lt.1 (of_decide_eq_true c7)) (by omega)), rfl, (Elem.cR_pv _ _), trivial⟩
      · refine sk_leaf ?_
        obtain ⟨r13, e14, h⟩ := bd_ h
        refine call_ok (d := some 37) (fn := 33) (ax := [.pv ((E35.ro l4))]) (args := [.pv ((E35.ro l4))]) (ps := [l4.length = l4.length, ∀ i, i < l4.length → ∀ j, j < 7 → E35.cf (l4.getD i E35.z) j = E35.cf (l4.getD i E35.z) j]) (hb' := [.row 35 7 (E35.cR r13)]) (by kernel_rfl) (slices_Clone_api_Pin_ok _ _ e14 (al := true)) (by kernel_rfl) ⟨rfl, fun _ _ _ _ => rfl, trivial⟩ (fun _ => (by kernel_rfl)) (by simp) (by simp only [List.map_cons, List.map_nil, Elem.row_up, up_map] <;> rfl) (by kernel_rfl) ?_
        refine segs [] tabOk mixed 4000 (S := .leaf 0) (by kernel_rfl) ?_
        refine sk_leaf ?_
        obtain rfl := some_ h
        exact end_ok [(0, some 18752), (1, some 0)] Try.results11 (ps := [0 = 0, r13.length = r13.length, 0 = 0, l5.length = l5.length, (0 : Int) = 0, E35.cR r13 = E35.cR r13, AllPv (E35.cR r13), E39.cR l5 = E39.cR l5, AllPv (E39.cR l5)]) (by kernel_rfl) ⟨rfl, rfl, rfl, rfl, rfl, rfl, (Elem.cR_pv _ _), rfl, (Elem.cR_pv _ _), trivial⟩ (fun _ => ⟨rfl, by simp only [List.mem_cons, List.not_mem_nil, or_false, forall_eq_or_imp, forall_eq]; exact ⟨Elem.cR_bald E35_raw _, Elem.cR_bald E39_raw _⟩⟩)
set_option maxHeartbeats 40000000 in
set_option maxRecDepth 100000 in
theorem slices_Equal_api_Sent_ok (a0 : (List Api_Sent)) (a1 : (List Api_Sent)) (r : Bool) (h : slices_Equal_api_Sent a0 a1 = some r) {al : Bool} : PCalls Try.prog 13 [.pv ((E39.ro a0)), .pv ((E39.ro a1))] al (.pv (.raw (.bool r))) [] := by
  unfold slices_Equal_api_Sent at h
  refine fn_ok tabOk Try.func13 (by kernel_rfl) (by kernel_rfl) Try.ntmps13 (by simp) ?_
  refine segs [] tabOk mixed 4000 (S := .br ((((a0.length : Nat) : Int) : Int) != ((a1.length : Nat) : Int)) (.leaf 0) (.leaf 1)) (by kernel_rfl) ?_
  refine br_ h ?_ ?_ <;> clear h <;> intro c1 h
  · refine sk_leaf ?_
    obtain rfl := some_ h
    exact end_ok [] Try.results13 (ps := [false = false]) (by kernel_rfl) ⟨rfl, trivial⟩ (fun _ => ⟨rfl, by simp⟩)
  · refine sk_leaf ?_
    refine len_ro (by kernel_rfl) 0 (s := 3) (n := a0.length) (c := fun i j => E39.cf (a0.getD i E39.z) j) (by kernel_rfl) ?_; intro hl1_0
    refine len_ro (by kernel_rfl) 1 (s := 3) (n := a1.length) (c := fun i j => E39.cf (a1.getD i E39.z) j) (by kernel_rfl) ?_; intro hl1_1
    replace h : (fun (x : Nat × Nat) => slices_Equal_api_Sent_l1 a0 a1 x.1 x.2 = some r) (FUEL, 0) := h
    refine loop_ok (by kernel_rfl) (X := Nat × Nat) (fun x => slices_Equal_api_Sent_l1 a0 a1 x.1 x.2 = some r) (fun x => x.1) (fun x => mk 26 [(0, .pv ((E39.ro a0))), (1, .pv ((E39.ro a1))), (4, .pv (.raw (.bool false))), (12, .pv (.raw (.int .i64 ((a0.length : Nat) : Int)))), (13, .pv (.raw (.int .i64 ((x.2 : Nat) : Int))))] []) (FUEL, 0) h ?_ ?_
    · exact sub_ok (ρ := []) (l := [a0.length = a0.length, ∀ i, i < a0.length → ∀ j, j < 3 → E39.cf (a0.getD i E39.z) j = E39.cf (a0.getD i E39.z) j, a1.length = a1.length, ∀ i, i < a1.length → ∀ j, j < 3 → E39.cf (a1.getD i E39.z) j = E39.cf (a1.getD i E39.z) j, false = false, (((a0.length : Nat) : Int) : Int) = ((a0.length : Nat) : Int), (0 : Int) = ((0 : Nat) : Int)]) (by kernel_rfl) ⟨rfl, fun _ _ _ _ => rfl, rfl, fun _ _ _ _ => rfl, rfl, rfl, (by first | rfl | simp), trivial⟩
    · clear h; rintro ⟨n1, k2⟩ h p1 hp1
      obtain _ | n1 := n1
      · cases (show (none : Option (Bool)) = some r from h)
      have h : slices_Equal_api_Sent_l1 a0 a1 (n1 + 1) k2 = some r := h
      unfold slices_Equal_api_Sent_l1 at h
      refine segs [] tabOk mixed 4000 (S := .br (decide ((((k2 : Nat) : Int) : Int) < ((a0.length : Nat) : Int))) (.and (0 ≤ (((k2 : Nat) : Int) : Int) ∧ ((k2 : Nat) : Int) < ((a0.length : Nat) : Int)) (.and (0 ≤ (((k2 : Nat) : Int) : Int) ∧ ((k2 : Nat) : Int) < ((a1.length : Nat) : Int)) (.br (!((((a0.getD k2 (⟨0, 0, 0⟩ : Api_Sent)).Pin : Int) == ((a1.getD k2 (⟨0, 0, 0⟩ : Api_Sent)).Pin)) && ((((a0.getD k2 (⟨0, 0, 0⟩ : Api_Sent)).Core : Int) == ((a1.getD k2 (⟨0, 0, 0⟩ : Api_Sent)).Core)) && ((((a0.getD k2 (⟨0, 0, 0⟩ : Api_Sent)).Vec : Int) == ((a1.getD k2 (⟨0, 0, 0⟩ : Api_Sent)).Vec)) && true)))) (.leaf 0) (.leaf 1)))) (.leaf 2)) (by kernel_rfl) ?_
      refine br_ h ?_ ?_ <;> clear h <;> intro c3 h
      · refine sk_and ⟨Int.natCast_nonneg _, of_decide_eq_true c3⟩ ?_
        refine gd_ h ?_; clear h; intro g5 h
        refine br_ h ?_ ?_ <;> clear h <;> intro c6 h
        · refine sk_leaf ?_
          obtain rfl := some_ h
          exact end_ok [] Try.results13 (ps := [false = false]) (by kernel_rfl) ⟨rfl, trivial⟩ (fun _ => ⟨rfl, by simp⟩)
        · refine sk_leaf ?_
          refine back_ok (p := p1) (by kernel_rfl) (hp1 (n1, k2 + 1) _ h (Nat.lt_succ_self n1) ?_)
          exact sub_ok (ρ := []) (l := [a0.length = a0.length, ∀ i, i < a0.length → ∀ j, j < 3 → E39.cf (a0.getD i E39.z) j = E39.cf (a0.getD i E39.z) j, a1.length = a1.length, ∀ i, i < a1.length → ∀ j, j < 3 → E39.cf (a1.getD i E39.z) j = E39.cf (a1.getD i E39.z) j, false = false, (((a0.length : Nat) : Int) : Int) = ((a0.length : Nat) : Int), ((IntKind.i64.wrap (((k2 : Nat) : Int) + 1)) : Int) = (((k2 + 1) : Nat) : Int)]) (by kernel_rfl) ⟨rfl, fun _ _ _ _ => rfl, rfl, fun _ _ _ _ => rfl, rfl, rfl, (wrap_nat (Int.ofNat_lt.1 (of_decide_eq_true c3)) (by omega)), trivial⟩
      · refine sk_leaf ?_
        obtain rfl := some_ h
        exact end_ok [] Try.results13 (ps := [true = true]) (by kernel_rfl) ⟨rfl, trivial⟩ (fun _ => ⟨rfl, by simp⟩)
set_option maxHeartbeats 40000000 in
set_option maxRecDepth 100000 in
theorem keep_alive3_ok (r : Bool) (h : keep_alive3 = some r) {al : Bool} : PCalls Try.prog 7 [] al (.pv (.raw (.bool r))) [] := by
  unfold keep_alive3 at h
  refine fn_ok tabOk Try.func7 (by kernel_rfl) (by kernel_rfl) Try.ntmps7 (by simp) ?_
  refine segs [] tabOk mixed 4000 (S := .leaf 0) (by kernel_rfl) ?_
  refine sk_leaf ?_
  refine bs_ok (d := 7) (e := 35) (s := 7) (n := 2) (cs := [.pv (.raw (.int .i64 0)), .pv (.raw (.int .i64 40)), .pv (.raw (.bool false)), .pv (.raw (.bool false)), .pv (.raw (.bool false)), .pv (.raw (.bool false)), .pv (.raw (.bool false)), .pv (.raw (.int .i64 1)), .pv (.raw (.int .i64 50)), .pv (.raw (.bool true)), .pv (.raw (.bool false)), .pv (.raw (.bool false)), .pv (.raw (.bool false)), .pv (.raw (.bool false))]) (cs' := E35.cR [(⟨0, 40, false, false, false, false, false⟩ : Api_Pin), (⟨1, 50, true, false, false, false, false⟩ : Api_Pin)]) (by kernel_rfl) rfl (by kernel_rfl) ?_
  refine segs [] tabOk mixed 4000 (S := .leaf 0) (by kernel_rfl) ?_
  refine sk_leaf ?_
  refine bs_ok (d := 15) (e := 28) (s := 2) (n := 5) (cs := [.pv (.raw (.int .i64 3)), .pv (.raw (.int .i64 0)), .pv (.raw (.int .i64 1)), .pv (.raw (.int .i64 0)), .pv (.raw (.int .i64 4)), .pv (.raw (.int .i64 0)), .pv (.raw (.int .i64 1)), .pv (.raw (.int .i64 1)), .pv (.raw (.int .i64 5)), .pv (.raw (.int .i64 1))]) (cs' := E28.cR [(⟨3, 0⟩ : Api_PinOp), (⟨1, 0⟩ : Api_PinOp), (⟨4, 0⟩ : Api_PinOp), (⟨1, 1⟩ : Api_PinOp), (⟨5, 1⟩ : Api_PinOp)]) (by kernel_rfl) rfl (by kernel_rfl) ?_
  refine segs [] tabOk mixed 4000 (S := .leaf 0) (by kernel_rfl) ?_
  refine sk_leaf ?_
  obtain ⟨r1, e2, h⟩ := bd_ h
  refine call_ok (d := some 16) (fn := 11) (ax := [.row 16832 7 0 2, .row 17344 2 0 5]) (args := [.pv ((E35.ro [(⟨0, 40, false, false, false, false, false⟩ : Api_Pin), (⟨1, 50, true, false, false, false, false⟩ : Api_Pin)])), .pv ((E28.ro [(⟨3, 0⟩ : Api_PinOp), (⟨1, 0⟩ : Api_PinOp), (⟨4, 0⟩ : Api_PinOp), (⟨1, 1⟩ : Api_PinOp), (⟨5, 1⟩ : Api_PinOp)]))]) (ps := [2 = [(⟨0, 40, false, false, false, false, false⟩ : Api_Pin), (⟨1, 50, true, false, false, false, false⟩ : Api_Pin)].length, rowQ (E35.cR [(⟨0, 40, false, false, false, false, false⟩ : Api_Pin), (⟨1, 50, true, false, false, false, false⟩ : Api_Pin)]) 7 0 2 (fun i j => E35.cf ([(⟨0, 40, false, false, false, false, false⟩ : Api_Pin), (⟨1, 50, true, false, false, false, false⟩ : Api_Pin)].getD i E35.z) j), 5 = [(⟨3, 0⟩ : Api_PinOp), (⟨1, 0⟩ : Api_PinOp), (⟨4, 0⟩ : Api_PinOp), (⟨1, 1⟩ : Api_PinOp), (⟨5, 1⟩ : Api_PinOp)].length, rowQ (E28.cR [(⟨3, 0⟩ : Api_PinOp), (⟨1, 0⟩ : Api_PinOp), (⟨4, 0⟩ : Api_PinOp), (⟨1, 1⟩ : Api_PinOp), (⟨5, 1⟩ : Api_PinOp)]) 2 0 5 (fun i j => E28.cf ([(⟨3, 0⟩ : Api_PinOp), (⟨1, 0⟩ : Api_PinOp), (⟨4, 0⟩ : Api_PinOp), (⟨1, 1⟩ : Api_PinOp), (⟨5, 1⟩ : Api_PinOp)].getD i E28.z) j)]) (hb' := [.row 35 7 (E35.cR r1.1), .row 39 3 (E39.cR r1.2.1)]) (by kernel_rfl) (line_Play_ok _ _ _ e2 (al := false)) (by kernel_rfl) ⟨(by first | rfl | exact Elem.sub_len _ (by omega) | omega | simp | (simp <;> omega)), E35.rowQ_all [(⟨0, 40, false, false, false, false, false⟩ : Api_Pin), (⟨1, 50, true, false, false, false, false⟩ : Api_Pin)] rfl, (by first | rfl | exact Elem.sub_len _ (by omega) | omega | simp | (simp <;> omega)), E28.rowQ_all [(⟨3, 0⟩ : Api_PinOp), (⟨1, 0⟩ : Api_PinOp), (⟨4, 0⟩ : Api_PinOp), (⟨1, 1⟩ : Api_PinOp), (⟨5, 1⟩ : Api_PinOp)] rfl, trivial⟩ (fun hx => by cases hx) (by simp) (by simp only [List.map_cons, List.map_nil, Elem.row_up, up_map] <;> rfl) (by kernel_rfl) ?_
  refine segs [] tabOk mixed 4000 (S := .and ((((r1.2.2 : Int) == 0) = true → (((r1.2.2 : Int) == 0) = true))) (.and ((((r1.2.2 : Int) == 0) = true → (((r1.2.2 : Int) == 0) = true))) (.and (((r1.2.2 : Int) == 0) = true → ((r1.2.2 : Int) == 0) = true) (.leaf 0)))) (by kernel_rfl) ?_
  refine sk_and (fun h => h) ?_
  refine sk_and (fun h => h) ?_
  refine sk_and (fun h => h) ?_
  refine sk_leaf ?_
  refine bsG_ok (d := 32) (e := 39) (s := 3) (n := 3) (g := (((r1.2.2 : Int) == 0) && ((((r1.1.length : Nat) : Int) : Int) == 2))) (ws := [(((r1.2.2 : Int) == 0) && ((((r1.1.length : Nat) : Int) : Int) == 2)) = true, (((r1.2.2 : Int) == 0) && ((((r1.1.length : Nat) : Int) : Int) == 2)) = true, (((r1.2.2 : Int) == 0) && ((((r1.1.length : Nat) : Int) : Int) == 2)) = true]) (cs := [.pv (.raw (.int .i64 0)), .pv (.raw (.int .i64 0)), .pv (.raw (.int .i64 40)), .pv (.raw (.int .i64 1)), .pv (.raw (.int .i64 1)), .pv (.raw (.int .i64 50)), .pv (.raw (.int .i64 1)), .pv (.raw (.int .i64 1)), .pv (.raw (.int .i64 50))]) E39 [(⟨0, 0, 40⟩ : Api_Sent), (⟨1, 1, 50⟩ : Api_Sent), (⟨1, 1, 50⟩ : Api_Sent)] (by kernel_rfl) (fun hg => ⟨((by decide : ∀ y0 : Bool, ((y0 = true) → (y0 = true))) (((r1.2.2 : Int) == 0) && ((((r1.1.length : Nat) : Int) : Int) == 2))) hg, ((by decide : ∀ y0 : Bool, ((y0 = true) → (y0 = true))) (((r1.2.2 : Int) == 0) && ((((r1.1.length : Nat) : Int) : Int) == 2))) hg, ((by decide : ∀ y0 : Bool, ((y0 = true) → (y0 = true))) (((r1.2.2 : Int) == 0) && ((((r1.1.length : Nat) : Int) : Int) == 2))) hg, trivial⟩) rfl rfl rfl (by kernel_rfl) ?_
  refine segs [] tabOk mixed 4000 (S := .leaf 0) (by kernel_rfl) ?_
  refine sk_leaf ?_
  obtain ⟨r6, e7, h⟩ := bd_ h
  refine callG_ok (d := some 33) (fn := 13) (ax := [.row 17409 3 0 r1.2.1.length, .pv ((E39.ro [(⟨0, 0, 40⟩ : Api_Sent), (⟨1, 1, 50⟩ : Api_Sent), (⟨1, 1, 50⟩ : Api_Sent)]))]) (args := [.pv ((E39.ro r1.2.1)), .pv ((E39.ro [(⟨0, 0, 40⟩ : Api_Sent), (⟨1, 1, 50⟩ : Api_Sent), (⟨1, 1, 50⟩ : Api_Sent)]))]) (g := (((r1.2.2 : Int) == 0) && ((((r1.1.length : Nat) : Int) : Int) == 2))) (ws := [(((r1.2.2 : Int) == 0) && ((((r1.1.length : Nat) : Int) : Int) == 2)) = true, (((r1.2.2 : Int) == 0) && ((((r1.1.length : Nat) : Int) : Int) == 2)) = true]) (ps := [r1.2.1.length = r1.2.1.length, rowQ (E39.cR r1.2.1) 3 0 r1.2.1.length (fun i j => E39.cf (r1.2.1.getD i E39.z) j), [(⟨0, 0, 40⟩ : Api_Sent), (⟨1, 1, 50⟩ : Api_Sent), (⟨1, 1, 50⟩ : Api_Sent)].length = [(⟨0, 0, 40⟩ : Api_Sent), (⟨1, 1, 50⟩ : Api_Sent), (⟨1, 1, 50⟩ : Api_Sent)].length, ∀ i, i < [(⟨0, 0, 40⟩ : Api_Sent), (⟨1, 1, 50⟩ : Api_Sent), (⟨1, 1, 50⟩ : Api_Sent)].length → ∀ j, j < 3 → E39.cf ([(⟨0, 0, 40⟩ : Api_Sent), (⟨1, 1, 50⟩ : Api_Sent), (⟨1, 1, 50⟩ : Api_Sent)].getD i E39.z) j = E39.cf ([(⟨0, 0, 40⟩ : Api_Sent), (⟨1, 1, 50⟩ : Api_Sent), (⟨1, 1, 50⟩ : Api_Sent)].getD i E39.z) j]) (by kernel_rfl) (fun hg => ⟨((by decide : ∀ y0 : Bool, ((y0 = true) → (y0 = true))) (((r1.2.2 : Int) == 0) && ((((r1.1.length : Nat) : Int) : Int) == 2))) hg, ((by decide : ∀ y0 : Bool, ((y0 = true) → (y0 = true))) (((r1.2.2 : Int) == 0) && ((((r1.1.length : Nat) : Int) : Int) == 2))) hg, trivial⟩) (fun hg => slices_Equal_api_Sent_ok _ _ _ (by rw [hg] at e7; exact e7) (al := false)) (by kernel_rfl) (fun hg => ⟨(by first | rfl | exact Elem.sub_len _ (by omega) | omega | simp | (simp <;> omega)), E39.rowQ_all r1.2.1 rfl, rfl, fun _ _ _ _ => rfl, trivial⟩) (fun hx => by cases hx) ?_
  refine segs [] tabOk mixed 4000 (S := .and ((((r1.2.2 : Int) == 0) && ((((r1.1.length : Nat) : Int) : Int) == 2)) = true → (((r1.2.2 : Int) == 0) && ((((r1.1.length : Nat) : Int) : Int) == 2)) = true) (.leaf 0)) (by kernel_rfl) ?_
  refine sk_and (fun h => h) ?_
  refine sk_leaf ?_
  obtain rfl := some_ h
  exact end_ok [] Try.results7 (ps := [((((r1.2.2 : Int) == 0) && ((((r1.1.length : Nat) : Int) : Int) == 2)) && r6) = ((((r1.2.2 : Int) == 0) && ((((r1.1.length : Nat) : Int) : Int) == 2)) && r6)]) (by kernel_rfl) ⟨rfl, trivial⟩ (fun _ => ⟨rfl, by simp⟩)
set_option maxRecDepth 100000 in
theorem slices_Clone_api_PinOp_ok (a0 r : List Api_PinOp) (h : slices_Clone_api_PinOp a0 = some r) {al : Bool} : PCalls Try.prog 10 [.pv (E28.ro a0)] al (.row 0 2 0 r.length) [.row 28 2 (E28.cR r)] := by
  unfold slices_Clone_api_PinOp at h
  obtain ⟨g, h⟩ := if_ h
  obtain rfl := some_ h
  refine fn_ok tabOk Try.func10 (by kernel_rfl) (by kernel_rfl) Try.ntmps10 (by simp) ?_
  refine segs [1] tabOk mixed 4000 (S := .leaf 0) (by kernel_rfl) ?_
  refine sk_leaf ?_
  refine nil_ok (d1 := 3) (d2 := 4) (s := 2) (n := a0.length) (c := fun i j => E28.cf (a0.getD i E28.z) j) tabOk (by kernel_rfl) ?_
  intro b hb
  refine segs [] tabOk mixed 4000 (S := .br b (.leaf 0) (.leaf 1)) (by kernel_rfl) ?_
  refine sk_br ?_ ?_ <;> intro hc <;> refine sk_leaf ?_
  · obtain rfl : a0 = [] := List.eq_nil_of_length_eq_zero (hb hc)
    exact end_ok [(0, none)] Try.results10 (ps := [0 = 0, 0 = 0, E28.cR [] = []]) (by kernel_rfl) ⟨rfl, rfl, rfl, trivial⟩ (fun _ => ⟨rfl, by simp only [List.mem_cons, List.not_mem_nil, or_false, forall_eq]; exact Elem.cR_bald E28_raw _⟩)
  · refine bs_ok (d := 5) (e := 28) (s := 2) (n := 0) (cs := []) (cs' := E28.cR []) (by kernel_rfl) rfl (by kernel_rfl) ?_
    refine segs [] tabOk mixed 4000 (S := .leaf 0) (by kernel_rfl) ?_
    refine sk_leaf ?_
    refine app_ok (d := 7) (e := 28) (s := 2) (b := 16) (x := .row 16704 2 0 0) (y := .pv (E28.ro a0)) E28 (xs := []) (ys := a0) (by kernel_rfl) rfl (.row 16704 [] 0 rfl (by kernel_rfl)) (.ro a0) ⟨by simp; omega, by simp; omega⟩ (by kernel_rfl) ?_
    refine segs [] tabOk mixed 4000 (S := .leaf 0) (by kernel_rfl) ?_
    refine sk_leaf ?_
    exact end_ok [(0, some 16832)] Try.results10 (ps := [0 = 0, a0.length = a0.length, E28.cR a0 = E28.cR a0, AllPv (E28.cR a0)]) (by kernel_rfl) ⟨rfl, rfl, rfl, Elem.cR_pv _ _, trivial⟩ (fun _ => ⟨rfl, by simp only [List.mem_cons, List.not_mem_nil, or_false, forall_eq]; exact Elem.cR_bald E28_raw _⟩)
set_option maxRecDepth 100000 in
theorem slices_Insert_api_PinOp_ok (a0 : List Api_PinOp) (a1 : Int) (a2 r : List Api_PinOp) (h : slices_Insert_api_PinOp a0 a1 a2 = some r) {al : Bool} : MCalls Try.prog 9 [.row 0 2 0 a0.length, .pv (.raw (.int .i64 a1)), .row 1 2 0 a2.length] [.row 28 2 (E28.cR a0), .row 28 2 (E28.cR a2)] 0 al (.row 0 2 0 r.length) [.row 28 2 (E28.cR r)] := by
  unfold slices_Insert_api_PinOp at h
  obtain ⟨⟨g1, g2, g3, g4, g5⟩, h⟩ := if_ h
  obtain rfl := some_ h
  obtain ⟨i, rfl⟩ : ∃ i : Nat, a1 = i := ⟨a1.toNat, by omega⟩
  simp only [Int.toNat_natCast]
  obtain ⟨_, info, hi, hi1, hi2, hz, _⟩ := tabOk 28 _ tab_28
  have hi1 : info.size = 2 := hi1
  have hi2 : info.bytes = 16 := hi2
  obtain ⟨z, hz, hzs⟩ : ∃ z, info.zero = some z ∧ z.cells.size = 2 := ⟨_, hz, by kernel_rfl⟩
  exact ins_mcalls (ρ := (⟨fun | 21 => 9 | 27 => 30 | 28 => 31 | n => n, fun | 0 => 0 | 3 => 3 | 4 => 4 | 22 => 23 | n => n, fun | n => n⟩ : Go.Shelf.Ren)) (nm := Try.f9.name) (og := Try.f9.origin) (ta := Try.f9.targs) (e := 28) (ti := info) (z := z)
    { mixed := mixed, f21 := Try.func9.trans (congrArg some (by kernel_rfl)),
      ov := fun w x y => run_callFunc_extern Try.func30 (by kernel_rfl) (by kernel_rfl) (by kernel_rfl) (e := Extern.SlicesOverlaps.overlaps #[23, 23] #[4]) (by kernel_rfl) #[x, y] w,
      t3 := Try.underlying3, a3 := Try.isAgg3, z3 := Try.sizeOf3, v3 := Try.zeroValue3, t4 := Try.underlying4, a4 := Try.isAgg4, z4 := Try.sizeOf4, v4 := Try.zeroValue4,
      t22 := Try.underlying23, a22 := Try.isAgg23, z22 := Try.sizeOf23, v22 := Try.zeroValue23, ie := hi, ze := fun w => by rw [hi1]; exact Try.sizeOf28 w, zv := hz, zc := by rw [hzs, hi1], pos := by rw [hi1]; decide }
    rfl ⟨_, Try.func9, by kernel_rfl, by kernel_rfl⟩ E28_raw rfl hi1.symm hi2 (by omega) g3 (by simpa using g4) (by omega)
set_option maxHeartbeats 40000000 in
set_option maxRecDepth 100000 in
theorem slices_Equal_api_Pin_ok (a0 : (List Api_Pin)) (a1 : (List Api_Pin)) (r : Bool) (h : slices_Equal_api_Pin a0 a1 = some r) {al : Bool} : PCalls Try.prog 12 [.pv ((E35.ro a0)), .pv ((E35.ro a1))] al (.pv (.raw (.bool r))) [] := by
  unfold slices_Equal_api_Pin at h
  refine fn_ok tabOk Try.func12 (by kernel_rfl) (by kernel_rfl) Try.ntmps12 (by simp) ?_
  refine segs [] tabOk mixed 4000 (S := .br ((((a0.length : Nat) : Int) : Int) != ((a1.length : Nat) : Int)) (.leaf 0) (.leaf 1)) (by kernel_rfl) ?_
  refine br_ h ?_ ?_ <;> clear h <;> intro c1 h
  · refine sk_leaf ?_
    obtain rfl := some_ h
    exact end_ok [] Try.results12 (ps := [false = false]) (by kernel_rfl) ⟨rfl, trivial⟩ (fun _ => ⟨rfl, by simp⟩)
  · refine sk_leaf ?_
    refine len_ro (by kernel_rfl) 0 (s := 7) (n := a0.length) (c := fun i j => E35.cf (a0.getD i E35.z) j) (by kernel_rfl) ?_; intro hl1_0
    refine len_ro (by kernel_rfl) 1 (s := 7) (n := a1.length) (c := fun i j => E35.cf (a1.getD i E35.z) j) (by kernel_rfl) ?_; intro hl1_1
    replace h : (fun (x : Nat × Nat) => slices_Equal_api_Pin_l1 a0 a1 x.1 x.2 = some r) (FUEL, 0) := h
    refine loop_ok (by kernel_rfl) (X := Nat × Nat) (fun x => slices_Equal_api_Pin_l1 a0 a1 x.1 x.2 = some r) (fun x => x.1) (fun x => mk 26 [(0, .pv ((E35.ro a0))), (1, .pv ((E35.ro a1))), (4, .pv (.raw (.bool false))), (12, .pv (.raw (.int .i64 ((a0.length : Nat) : Int)))), (13, .pv (.raw (.int .i64 ((x.2 : Nat) : Int))))] []) (FUEL, 0) h ?_ ?_
    · exact sub_ok (ρ := []) (l := [a0.length = a0.length, ∀ i, i < a0.length → ∀ j, j < 7 → E35.cf (a0.getD i E35.z) j = E35.cf (a0.getD i E35.z) j, a1.length = a1.length, ∀ i, i < a1.length → ∀ j, j < 7 → E35.cf (a1.getD i E35.z) j = E35.cf (a1.getD i E35.z) j, false = false, (((a0.length : Nat) : Int) : Int) = ((a0.length : Nat) : Int), (0 : Int) = ((0 : Nat) : Int)]) (by kernel_rfl) ⟨rfl, fun _ _ _ _ => rfl, rfl, fun _ _ _ _ => rfl, rfl, rfl, (by first | rfl | simp), trivial⟩
    · clear h; rintro ⟨n1, k2⟩ h p1 hp1
      obtain _ | n1 := n1
      · cases (show (none : Option (Bool)) = some r from h)
      have h : slices_Equal_api_Pin_l1 a0 a1 (n1 + 1) k2 = some r := h
      unfold slices_Equal_api_Pin_l1 at h
      refine segs [] tabOk mixed 4000 (S := .br (decide ((((k2 : Nat) : Int) : Int) < ((a0.length : Nat) : Int))) (.and (0 ≤ (((k2 : Nat) : Int) : Int) ∧ ((k2 : Nat) : Int) < ((a0.length : Nat) : Int)) (.and (0 ≤ (((k2 : Nat) : Int) : Int) ∧ ((k2 : Nat) : Int) < ((a1.length : Nat) : Int)) (.br (!((((a0.getD k2 (⟨0, 0, false, false, false, false, false⟩ : Api_Pin)).Core : Int) == ((a1.getD k2 (⟨0, 0, false, false, false, false, false⟩ : Api_Pin)).Core)) && ((((a0.getD k2 (⟨0, 0, false, false, false, false, false⟩ : Api_Pin)).Vec : Int) == ((a1.getD k2 (⟨0, 0, false, false, false, false, false⟩ : Api_Pin)).Vec)) && ((((a0.getD k2 (⟨0, 0, false, false, false, false, false⟩ : Api_Pin)).Level) == ((a1.getD k2 (⟨0, 0, false, false, false, false, false⟩ : Api_Pin)).Level)) && ((((a0.getD k2 (⟨0, 0, false, false, false, false, false⟩ : Api_Pin)).Masked) == ((a1.getD k2 (⟨0, 0, false, false, false, false, false⟩ : Api_Pin)).Masked)) && ((((a0.getD k2 (⟨0, 0, false, false, false, false, false⟩ : Api_Pin)).Up) == ((a1.getD k2 (⟨0, 0, false, false, false, false, false⟩ : Api_Pin)).Up)) && ((((a0.getD k2 (⟨0, 0, false, false, false, false, false⟩ : Api_Pin)).Kept) == ((a1.getD k2 (⟨0, 0, false, false, false, false, false⟩ : Api_Pin)).Kept)) && ((((a0.getD k2 (⟨0, 0, false, false, false, false, false⟩ : Api_Pin)).Sent) == ((a1.getD k2 (⟨0, 0, false, false, false, false, false⟩ : Api_Pin)).Sent)) && true)))))))) (.leaf 0) (.leaf 1)))) (.leaf 2)) (by kernel_rfl) ?_
      refine br_ h ?_ ?_ <;> clear h <;> intro c3 h
      · refine sk_and ⟨Int.natCast_nonneg _, of_decide_eq_true c3⟩ ?_
        refine gd_ h ?_; clear h; intro g5 h
        refine br_ h ?_ ?_ <;> clear h <;> intro c6 h
        · refine sk_leaf ?_
          obtain rfl := some_ h
          exact end_ok [] Try.results12 (ps := [false = false]) (by kernel_rfl) ⟨rfl, trivial⟩ (fun _ => ⟨rfl, by simp⟩)
        · refine sk_leaf ?_
          refine back_ok (p := p1) (by kernel_rfl) (hp1 (n1, k2 + 1) _ h (Nat.lt_succ_self n1) ?_)
          exact sub_ok (ρ := []) (l := [a0.length = a0.length, ∀ i, i < a0.length → ∀ j, j < 7 → E35.cf (a0.getD i E35.z) j = E35.cf (a0.getD i E35.z) j, a1.length = a1.length, ∀ i, i < a1.length → ∀ j, j < 7 → E35.cf (a1.getD i E35.z) j = E35.cf (a1.getD i E35.z) j, false = false, (((a0.length : Nat) : Int) : Int) = ((a0.length : Nat) : Int), ((IntKind.i64.wrap (((k2 : Nat) : Int) + 1)) : Int) = (((k2 + 1) : Nat) : Int)]) (by kernel_rfl) ⟨rfl, fun _ _ _ _ => rfl, rfl, fun _ _ _ _ => rfl, rfl, rfl, (wrap_nat (Int.ofNat_lt.1 (of_decide_eq_true c3)) (by omega)), trivial⟩
      · refine sk_leaf ?_
        obtain rfl := some_ h
        exact end_ok [] Try.results12 (ps := [true = true]) (by kernel_rfl) ⟨rfl, trivial⟩ (fun _ => ⟨rfl, by simp⟩)
set_option maxHeartbeats 40000000 in
set_option maxRecDepth 100000 in
theorem keep_LineMask_ok (a0 : (List Api_Pin)) (a1 : (List Api_PinOp)) (a2 : Int) (a3 : Int) (r : Bool) (h : keep_LineMask a0 a1 a2 a3 = some r) {al : Bool} : PCalls Try.prog 3 [.pv ((E35.ro a0)), .pv ((E28.ro a1)), .pv (.raw (.int .i64 a2)), .pv (.raw (.int .i64 a3))] al (.pv (.raw (.bool r))) [] := by
  unfold keep_LineMask at h
  refine fnZ_ok tabOk [9] Try.func3 (by kernel_rfl) (by kernel_rfl) Try.ntmps3 (by simp) ?_
  refine segs [] tabOk mixed 4000 (S := .leaf 0) (by kernel_rfl) ?_
  refine sk_leaf ?_
  obtain ⟨r1, e2, h⟩ := bd_ h
  refine call_ok (d := some 19) (fn := 7) (ax := []) (args := []) (ps := []) (hb' := []) (by kernel_rfl) (keep_alive3_ok  _ e2 (al := true)) (by kernel_rfl) trivial (fun _ => (by kernel_rfl)) (by simp) rfl (by kernel_rfl) ?_
  refine segs [] tabOk mixed 4000 (S := .br (!r1) (.leaf 0) (.leaf 1)) (by kernel_rfl) ?_
  refine br_ h ?_ ?_ <;> clear h <;> intro c3 h
  · refine sk_leaf ?_
    obtain rfl := some_ h
    exact end_ok [] Try.results3 (ps := [false = false]) (by kernel_rfl) ⟨rfl, trivial⟩ (fun _ => ⟨rfl, by simp⟩)
  · refine sk_leaf ?_
    obtain ⟨r4, e5, h⟩ := bd_ h
    refine call_ok (d := some 22) (fn := 8) (ax := [.pv ((E35.ro a0))]) (args := [.pv ((E35.ro a0))]) (ps := [a0.length = a0.length, ∀ i, i < a0.length → ∀ j, j < 7 → E35.cf (a0.getD i E35.z) j = E35.cf (a0.getD i E35.z) j]) (hb' := []) (by kernel_rfl) (line_Right_ok _ _ e5 (al := true)) (by kernel_rfl) ⟨rfl, fun _ _ _ _ => rfl, trivial⟩ (fun _ => (by kernel_rfl)) (by simp) rfl (by kernel_rfl) ?_
    refine segs [] tabOk mixed 4000 (S := .and (((!(!r4)) = true → ((!(!r4)) = true))) (.and ((!r4) = false → (!(!r4)) = true) (.and (((!((!r4) || (decide ((a2 : Int) < 0)))) = true → ((!((!r4) || (decide ((a2 : Int) < 0)))) = true))) (.and (((!((!r4) || (decide ((a2 : Int) < 0)))) = true → ((!((!r4) || (decide ((a2 : Int) < 0)))) = true))) (.and (((!((!r4) || (decide ((a2 : Int) < 0)))) = true → ((!((!r4) || (decide ((a2 : Int) < 0)))) = true))) (.and (((!r4) || (decide ((a2 : Int) < 0))) = false → (!((!r4) || (decide ((a2 : Int) < 0)))) = true) (.and (((!(((!r4) || (decide ((a2 : Int) < 0))) || (decide ((a2 : Int) ≥ ((a0.length : Nat) : Int))))) = true → ((!(((!r4) || (decide ((a2 : Int) < 0))) || (decide ((a2 : Int) ≥ ((a0.length : Nat) : Int))))) = true))) (.and ((((!r4) || (decide ((a2 : Int) < 0))) || (decide ((a2 : Int) ≥ ((a0.length : Nat) : Int)))) = false → (!(((!r4) || (decide ((a2 : Int) < 0))) || (decide ((a2 : Int) ≥ ((a0.length : Nat) : Int))))) = true) (.and (((!((((!r4) || (decide ((a2 : Int) < 0))) || (decide ((a2 : Int) ≥ ((a0.length : Nat) : Int)))) || (decide ((a3 : Int) < 0)))) = true → ((!((((!r4) || (decide ((a2 : Int) < 0))) || (decide ((a2 : Int) ≥ ((a0.length : Nat) : Int)))) || (decide ((a3 : Int) < 0)))) = true))) (.and (((!((((!r4) || (decide ((a2 : Int) < 0))) || (decide ((a2 : Int) ≥ ((a0.length : Nat) : Int)))) || (decide ((a3 : Int) < 0)))) = true → ((!((((!r4) || (decide ((a2 : Int) < 0))) || (decide ((a2 : Int) ≥ ((a0.length : Nat) : Int)))) || (decide ((a3 : Int) < 0)))) = true))) (.and (((!((((!r4) || (decide ((a2 : Int) < 0))) || (decide ((a2 : Int) ≥ ((a0.length : Nat) : Int)))) || (decide ((a3 : Int) < 0)))) = true → ((!((((!r4) || (decide ((a2 : Int) < 0))) || (decide ((a2 : Int) ≥ ((a0.length : Nat) : Int)))) || (decide ((a3 : Int) < 0)))) = true))) (.and (((((!r4) || (decide ((a2 : Int) < 0))) || (decide ((a2 : Int) ≥ ((a0.length : Nat) : Int)))) || (decide ((a3 : Int) < 0))) = false → (!((((!r4) || (decide ((a2 : Int) < 0))) || (decide ((a2 : Int) ≥ ((a0.length : Nat) : Int)))) || (decide ((a3 : Int) < 0)))) = true) (.br (((((!r4) || (decide ((a2 : Int) < 0))) || (decide ((a2 : Int) ≥ ((a0.length : Nat) : Int)))) || (decide ((a3 : Int) < 0))) || (decide ((a3 : Int) > ((a1.length : Nat) : Int)))) (.leaf 0) (.leaf 1)))))))))))))) (by kernel_rfl) ?_
    refine sk_and (fun h => h) ?_
    refine sk_and ((by decide : ∀ y0 : Bool, ((y0 = false) → ((!y0) = true))) (!r4)) ?_
    refine sk_and (fun h => h) ?_
    refine sk_and (fun h => h) ?_
    refine sk_and (fun h => h) ?_
    refine sk_and ((by decide : ∀ y0 : Bool, ((y0 = false) → ((!y0) = true))) ((!r4) || (decide ((a2 : Int) < 0)))) ?_
    refine sk_and (fun h => h) ?_
    refine sk_and ((by decide : ∀ y0 : Bool, ((y0 = false) → ((!y0) = true))) (((!r4) || (decide ((a2 : Int) < 0))) || (decide ((a2 : Int) ≥ ((a0.length : Nat) : Int))))) ?_
    refine sk_and (fun h => h) ?_
    refine sk_and (fun h => h) ?_
    refine sk_and (fun h => h) ?_
    refine sk_and ((by decide : ∀ y0 : Bool, ((y0 = false) → ((!y0) = true))) ((((!r4) || (decide ((a2 : Int) < 0))) || (decide ((a2 : Int) ≥ ((a0.length : Nat) : Int)))) || (decide ((a3 : Int) < 0)))) ?_
    refine br_ h ?_ ?_ <;> clear h <;> intro c18 h
    · refine sk_leaf ?_
      obtain rfl := some_ h
      exact end_ok [] Try.results3 (ps := [true = true]) (by kernel_rfl) ⟨rfl, trivial⟩ (fun _ => ⟨rfl, by simp⟩)
    · refine sk_leaf ?_
      obtain ⟨r19, e20, h⟩ := bd_ h
      refine call_ok (d := some 45) (fn := 10) (ax := [.pv ((E28.ro a1))]) (args := [.pv ((E28.ro a1))]) (ps := [a1.length = a1.length, ∀ i, i < a1.length → ∀ j, j < 2 → E28.cf (a1.getD i E28.z) j = E28.cf (a1.getD i E28.z) j]) (hb' := [.row 28 2 (E28.cR r19)]) (by kernel_rfl) (slices_Clone_api_PinOp_ok _ _ e20 (al := true)) (by kernel_rfl) ⟨rfl, fun _ _ _ _ => rfl, trivial⟩ (fun _ => (by kernel_rfl)) (by simp) (by simp only [List.map_cons, List.map_nil, Elem.row_up, up_map] <;> rfl) (by kernel_rfl) ?_
      refine segs [] tabOk mixed 4000 (S := .leaf 0) (by kernel_rfl) ?_
      refine sk_leaf ?_
      refine bs_ok (d := 51) (e := 28) (s := 2) (n := 2) (cs := [.pv (.raw (.int .i64 3)), .pv (.raw (.int .i64 a2)), .pv (.raw (.int .i64 4)), .pv (.raw (.int .i64 a2))]) (cs' := E28.cR [(⟨3, a2⟩ : Api_PinOp), (⟨4, a2⟩ : Api_PinOp)]) (by kernel_rfl) rfl (by kernel_rfl) ?_
      refine segs [] tabOk mixed 4000 (S := .leaf 0) (by kernel_rfl) ?_
      refine sk_leaf ?_
      obtain ⟨r21, e22, h⟩ := bd_ h
      refine mcall_ok (d := some 52) (fn := 9) (ax := [.row 19264 2 0 r19.length, .pv (.raw (.int .i64 a3)), .row 19648 2 0 2]) (hs := [(19712, .row 28 2 (E28.cR r21))]) (del := [19264, 19648]) (ps := [0 = 0, r19.length = r19.length, (a3 : Int) = a3, 0 = 0, 2 = ([(⟨3, a2⟩ : Api_PinOp), (⟨4, a2⟩ : Api_PinOp)].length), E28.cR r19 = E28.cR r19, AllPv (E28.cR r19), E28.cR [(⟨3, a2⟩ : Api_PinOp), (⟨4, a2⟩ : Api_PinOp)] = E28.cR [(⟨3, a2⟩ : Api_PinOp), (⟨4, a2⟩ : Api_PinOp)], AllPv (E28.cR [(⟨3, a2⟩ : Api_PinOp), (⟨4, a2⟩ : Api_PinOp)])]) [(0, some 19264), (1, some 19648)] (by kernel_rfl) (slices_Insert_api_PinOp_ok _ _ _ _ e22 (al := false)) (by kernel_rfl) ⟨rfl, rfl, rfl, rfl, (by first | rfl | simp), rfl, (Elem.cR_pv _ _), rfl, (Elem.cR_pv _ _), trivial⟩ (by kernel_rfl) (by simp only [List.cons_append, List.nil_append, List.append_nil, rB, rA, fl, mset_row, mset_box, mset_nil, mset_map, List.set_set]; kernel_rfl) (by kernel_rfl) ?_
      refine segs [] tabOk mixed 4000 (S := .leaf 0) (by kernel_rfl) ?_
      refine sk_leaf ?_
      obtain ⟨r23, e24, h⟩ := bd_ h
      refine call_ok (d := some 56) (fn := 11) (ax := [.pv ((E35.ro a0)), .pv ((E28.ro a1))]) (args := [.pv ((E35.ro a0)), .pv ((E28.ro a1))]) (ps := [a0.length = a0.length, ∀ i, i < a0.length → ∀ j, j < 7 → E35.cf (a0.getD i E35.z) j = E35.cf (a0.getD i E35.z) j, a1.length = a1.length, ∀ i, i < a1.length → ∀ j, j < 2 → E28.cf (a1.getD i E28.z) j = E28.cf (a1.getD i E28.z) j]) (hb' := [.row 35 7 (E35.cR r23.1), .row 39 3 (E39.cR r23.2.1)]) (by kernel_rfl) (line_Play_ok _ _ _ e24 (al := true)) (by kernel_rfl) ⟨rfl, fun _ _ _ _ => rfl, rfl, fun _ _ _ _ => rfl, trivial⟩ (fun _ => (by kernel_rfl)) (by simp) (by simp only [List.map_cons, List.map_nil, Elem.row_up, up_map] <;> rfl) (by kernel_rfl) ?_
      refine segs [] tabOk mixed 4000 (S := .leaf 0) (by kernel_rfl) ?_
      refine sk_leaf ?_
      obtain ⟨r25, e26, h⟩ := bd_ h
      refine call_ok (d := some 63) (fn := 11) (ax := [.pv ((E35.ro a0)), .row 19712 2 0 r21.length]) (args := [.pv ((E35.ro a0)), .pv ((E28.ro r21))]) (ps := [a0.length = a0.length, ∀ i, i < a0.length → ∀ j, j < 7 → E35.cf (a0.getD i E35.z) j = E35.cf (a0.getD i E35.z) j, r21.length = r21.length, rowQ (E28.cR r21) 2 0 r21.length (fun i j => E28.cf (r21.getD i E28.z) j)]) (hb' := [.row 35 7 (E35.cR r25.1), .row 39 3 (E39.cR r25.2.1)]) (by kernel_rfl) (line_Play_ok _ _ _ e26 (al := false)) (by kernel_rfl) ⟨rfl, fun _ _ _ _ => rfl, (by first | rfl | exact Elem.sub_len _ (by omega) | omega | simp | (simp <;> omega)), E28.rowQ_all r21 rfl, trivial⟩ (fun hx => by cases hx) (by simp) (by simp only [List.map_cons, List.map_nil, Elem.row_up, up_map] <;> rfl) (by kernel_rfl) ?_
      refine segs [] tabOk mixed 4000 (S := .and (0 ≤ (a3 : Int)) (.and ((Int.toNat a3) ≤ a1.length) (.leaf 0))) (by kernel_rfl) ?_
      refine gd_ h ?_; clear h; intro g27 h
      refine gd_ h ?_; clear h; intro g28 h
      refine sk_leaf ?_
      obtain ⟨r29, e30, h⟩ := bd_ h
      refine call_ok (d := some 72) (fn := 11) (ax := [.pv ((E35.ro a0)), .pv (.ro E28.s ((Int.toNat a3) - 0) (fun i j => E28.cf (a1.getD (0 + i) E28.z) j))]) (args := [.pv ((E35.ro a0)), .pv ((E28.ro ((a1.drop 0).take ((Int.toNat a3) - 0))))]) (ps := [a0.length = a0.length, ∀ i, i < a0.length → ∀ j, j < 7 → E35.cf (a0.getD i E35.z) j = E35.cf (a0.getD i E35.z) j, ((Int.toNat a3) - 0) = ((a1.drop 0).take ((Int.toNat a3) - 0)).length, ∀ i, i < ((Int.toNat a3) - 0) → ∀ j, j < 2 → E28.cf (a1.getD (0 + i) E28.z) j = E28.cf (((a1.drop 0).take ((Int.toNat a3) - 0)).getD i E28.z) j]) (hb' := [.row 35 7 (E35.cR r29.1), .row 39 3 (E39.cR r29.2.1)]) (by kernel_rfl) (line_Play_ok _ _ _ e30 (al := true)) (by kernel_rfl) ⟨rfl, fun _ _ _ _ => rfl, (Elem.sub_len _ (by omega)), (Elem.sub_cf _ _ (by omega)), trivial⟩ (fun _ => (by kernel_rfl)) (by simp) (by simp only [List.map_cons, List.map_nil, Elem.row_up, up_map] <;> rfl) (by kernel_rfl) ?_
      refine segs [] tabOk mixed 4000 (S := .and (((!((r23.2.2 : Int) != 0)) = true → ((!((r23.2.2 : Int) != 0)) = true))) (.and (((r23.2.2 : Int) != 0) = false → (!((r23.2.2 : Int) != 0)) = true) (.and (((!(((r23.2.2 : Int) != 0) || ((r25.2.2 : Int) != 0))) = true → ((!(((r23.2.2 : Int) != 0) || ((r25.2.2 : Int) != 0))) = true))) (.and ((((r23.2.2 : Int) != 0) || ((r25.2.2 : Int) != 0)) = false → (!(((r23.2.2 : Int) != 0) || ((r25.2.2 : Int) != 0))) = true) (.br ((((r23.2.2 : Int) != 0) || ((r25.2.2 : Int) != 0)) || ((r29.2.2 : Int) != 0)) (.leaf 0) (.and (0 ≤ (a2 : Int) ∧ a2 < ((r29.1.length : Nat) : Int)) (.leaf 1))))))) (by kernel_rfl) ?_
      refine sk_and (fun h => h) ?_
      refine sk_and ((by decide : ∀ y0 : Bool, ((y0 = false) → ((!y0) = true))) ((r23.2.2 : Int) != 0)) ?_
      refine sk_and (fun h => h) ?_
      refine sk_and ((by decide : ∀ y0 : Bool, ((y0 = false) → ((!y0) = true))) (((r23.2.2 : Int) != 0) || ((r25.2.2 : Int) != 0))) ?_
      refine br_ h ?_ ?_ <;> clear h <;> intro c35 h
      · refine sk_leaf ?_
        obtain rfl := some_ h
        exact end_ok [] Try.results3 (ps := [false = false]) (by kernel_rfl) ⟨rfl, trivial⟩ (fun _ => ⟨rfl, by simp⟩)
      · refine gd_ h ?_; clear h; intro g36 h
        refine sk_leaf ?_
        refine ld_ok (d := 90) (id := 20992) (i := (0 + (Int.toNat a2))) (j := 3) (e := 35) (n := 1) E35 (xs := r29.1) (by kernel_rfl) (by kernel_rfl) (by first | omega | (simp at * <;> omega) | (simp_all <;> omega)) (by exact Nat.le_of_ble_eq_true rfl) ?_
        refine segs [] tabOk mixed 4000 (S := .leaf 0) (by kernel_rfl) ?_
        refine sk_leaf ?_
        obtain ⟨r37, e38, h⟩ := bd_ h
        refine callG_ok (d := some 94) (fn := 12) (ax := [.row 19968 7 0 r23.1.length, .row 20416 7 0 r25.1.length]) (args := [.pv ((E35.ro r23.1)), .pv ((E35.ro r25.1))]) (g := (!((r29.1.getD (0 + (Int.toNat a2)) (⟨0, 0, false, false, false, false, false⟩ : Api_Pin)).Masked))) (ws := [(!((r29.1.getD (0 + (Int.toNat a2)) (⟨0, 0, false, false, false, false, false⟩ : Api_Pin)).Masked)) = true, (!((r29.1.getD (0 + (Int.toNat a2)) (⟨0, 0, false, false, false, false, false⟩ : Api_Pin)).Masked)) = true]) (ps := [r23.1.length = r23.1.length, rowQ (E35.cR r23.1) 7 0 r23.1.length (fun i j => E35.cf (r23.1.getD i E35.z) j), r25.1.length = r25.1.length, rowQ (E35.cR r25.1) 7 0 r25.1.length (fun i j => E35.cf (r25.1.getD i E35.z) j)]) (by kernel_rfl) (fun hg => ⟨((by decide : ∀ y0 : Bool, ((y0 = true) → (y0 = true))) (!((r29.1.getD (0 + (Int.toNat a2)) (⟨0, 0, false, false, false, false, false⟩ : Api_Pin)).Masked))) hg, ((by decide : ∀ y0 : Bool, ((y0 = true) → (y0 = true))) (!((r29.1.getD (0 + (Int.toNat a2)) (⟨0, 0, false, false, false, false, false⟩ : Api_Pin)).Masked))) hg, trivial⟩) (fun hg => slices_Equal_api_Pin_ok _ _ _ (by rw [hg] at e38; exact e38) (al := false)) (by kernel_rfl) (fun hg => ⟨(by first | rfl | exact Elem.sub_len _ (by omega) | omega | simp | (simp <;> omega)), E35.rowQ_all r23.1 rfl, (by first | rfl | exact Elem.sub_len _ (by omega) | omega | simp | (simp <;> omega)), E35.rowQ_all r25.1 rfl, trivial⟩) (fun hx => by cases hx) ?_
        refine segs [] tabOk mixed 4000 (S := .and (((!((r29.1.getD (0 + (Int.toNat a2)) (⟨0, 0, false, false, false, false, false⟩ : Api_Pin)).Masked)) = true → ((!((r29.1.getD (0 + (Int.toNat a2)) (⟨0, 0, false, false, false, false, false⟩ : Api_Pin)).Masked)) = true))) (.leaf 0)) (by kernel_rfl) ?_
        refine sk_and (fun h => h) ?_
        refine sk_leaf ?_
        obtain ⟨r40, e41, h⟩ := bd_ h
        refine callG_ok (d := some 98) (fn := 13) (ax := [.row 19969 3 0 r23.2.1.length, .row 20417 3 0 r25.2.1.length]) (args := [.pv ((E39.ro r23.2.1)), .pv ((E39.ro r25.2.1))]) (g := ((!((r29.1.getD (0 + (Int.toNat a2)) (⟨0, 0, false, false, false, false, false⟩ : Api_Pin)).Masked)) && r37)) (ws := [((!((r29.1.getD (0 + (Int.toNat a2)) (⟨0, 0, false, false, false, false, false⟩ : Api_Pin)).Masked)) && r37) = true, ((!((r29.1.getD (0 + (Int.toNat a2)) (⟨0, 0, false, false, false, false, false⟩ : Api_Pin)).Masked)) && r37) = true]) (ps := [r23.2.1.length = r23.2.1.length, rowQ (E39.cR r23.2.1) 3 0 r23.2.1.length (fun i j => E39.cf (r23.2.1.getD i E39.z) j), r25.2.1.length = r25.2.1.length, rowQ (E39.cR r25.2.1) 3 0 r25.2.1.length (fun i j => E39.cf (r25.2.1.getD i E39.z) j)]) (by kernel_rfl) (fun hg => ⟨((by decide : ∀ y0 : Bool, ((y0 = true) → (y0 = true))) ((!((r29.1.getD (0 + (Int.toNat a2)) (⟨0, 0, false, false, false, false, false⟩ : Api_Pin)).Masked)) && r37)) hg, ((by decide : ∀ y0 : Bool, ((y0 = true) → (y0 = true))) ((!((r29.1.getD (0 + (Int.toNat a2)) (⟨0, 0, false, false, false, false, false⟩ : Api_Pin)).Masked)) && r37)) hg, trivial⟩) (fun hg => slices_Equal_api_Sent_ok _ _ _ (by rw [hg] at e41; exact e41) (al := false)) (by kernel_rfl) (fun hg => ⟨(by first | rfl | exact Elem.sub_len _ (by omega) | omega | simp | (simp <;> omega)), E39.rowQ_all r23.2.1 rfl, (by first | rfl | exact Elem.sub_len _ (by omega) | omega | simp | (simp <;> omega)), E39.rowQ_all r25.2.1 rfl, trivial⟩) (fun hx => by cases hx) ?_
        refine segs [] tabOk mixed 4000 (S := .and (((!((r29.1.getD (0 + (Int.toNat a2)) (⟨0, 0, false, false, false, false, false⟩ : Api_Pin)).Masked)) = true → ((!((r29.1.getD (0 + (Int.toNat a2)) (⟨0, 0, false, false, false, false, false⟩ : Api_Pin)).Masked)) = true))) (.and (((!((r29.1.getD (0 + (Int.toNat a2)) (⟨0, 0, false, false, false, false, false⟩ : Api_Pin)).Masked)) = true → (r37 = true → ((!((r29.1.getD (0 + (Int.toNat a2)) (⟨0, 0, false, false, false, false, false⟩ : Api_Pin)).Masked)) && r37) = true))) (.and (((r29.1.getD (0 + (Int.toNat a2)) (⟨0, 0, false, false, false, false, false⟩ : Api_Pin)).Masked) = false → (!((r29.1.getD (0 + (Int.toNat a2)) (⟨0, 0, false, false, false, false, false⟩ : Api_Pin)).Masked)) = true) (.leaf 0)))) (by kernel_rfl) ?_
        refine sk_and (fun h => h) ?_
        refine sk_and ((by decide : ∀ y0 y1 : Bool, ((y0 = true) → ((y1 = true) → ((y0 && y1) = true)))) (!((r29.1.getD (0 + (Int.toNat a2)) (⟨0, 0, false, false, false, false, false⟩ : Api_Pin)).Masked)) r37) ?_
        refine sk_and ((by decide : ∀ y0 : Bool, ((y0 = false) → ((!y0) = true))) ((r29.1.getD (0 + (Int.toNat a2)) (⟨0, 0, false, false, false, false, false⟩ : Api_Pin)).Masked)) ?_
        refine sk_leaf ?_
        obtain rfl := some_ h
        exact end_ok [] Try.results3 (ps := [(((r29.1.getD (0 + (Int.toNat a2)) (⟨0, 0, false, false, false, false, false⟩ : Api_Pin)).Masked) || (r37 && r40)) = (((r29.1.getD (0 + (Int.toNat a2)) (⟨0, 0, false, false, false, false, false⟩ : Api_Pin)).Masked) || (r37 && r40))]) (by kernel_rfl) ⟨rfl, trivial⟩ (fun _ => ⟨rfl, by simp⟩)
end Go.Proofs.Ytfnmmlcmjmepjaa

