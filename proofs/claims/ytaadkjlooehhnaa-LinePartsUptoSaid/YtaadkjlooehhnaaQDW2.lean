/- The functions do as their models: printed by program. -/
import Derived.Test.YtaadkjlooehhnaaQDW1
set_option linter.unusedSimpArgs false
set_option linter.unusedVariables false
namespace Go.Proofs.Ytaadkjlooehhnaa
open Go Go.Ab
attribute [local irreducible] V VS runS Sk.Holds

set_option maxHeartbeats 40000000 in
set_option maxRecDepth 100000 in
theorem line_Play_ok (a0 : (List Api_Pin)) (a1 : (List Api_PinOp)) (r : (List Api_Pin) × (List Api_Sent) × Int) (h : line_Play a0 a1 = some r) {al : Bool} : PCalls Try.prog 34 [.pv ((E31.ro a0)), .pv ((E24.ro a1))] al (.tup [.row 0 7 0 r.1.length, .row 1 3 0 r.2.1.length, .pv (.raw (.int .i64 r.2.2))]) [.row 31 7 (E31.cR r.1), .row 76 3 (E76.cR r.2.1)] := by
  unfold line_Play at h
  refine fn_ok tabOk Try.func34 (by as_aux_lemma => kernel_rfl) (by as_aux_lemma => kernel_rfl) Try.ntmps34 (by simp) ?_
  refine segs [] tabOk mixed 4000 (S := .leaf 0) (by as_aux_lemma => kernel_rfl) ?_
  refine sk_leaf ?_
  obtain ⟨r1, e2, h⟩ := bd_ h
  refine call_ok (d := some 14) (fn := 17) (ax := [.pv ((E31.ro a0))]) (args := [.pv ((E31.ro a0))]) (ps := [a0.length = a0.length, ∀ i, i < a0.length → ∀ j, j < 7 → E31.cf (a0.getD i E31.z) j = E31.cf (a0.getD i E31.z) j]) (hb' := []) (by as_aux_lemma => kernel_rfl) (line_Right_ok _ _ e2 (al := true)) (by as_aux_lemma => kernel_rfl) ⟨rfl, fun _ _ _ _ => rfl, trivial⟩ (fun _ => (by as_aux_lemma => kernel_rfl)) (by simp) rfl (by as_aux_lemma => kernel_rfl) ?_
  refine segs [] tabOk mixed 4000 (S := .br (!r1) (.leaf 0) (.leaf 1)) (by as_aux_lemma => kernel_rfl) ?_
  refine br_ h ?_ ?_ <;> clear h <;> intro c3 h
  · refine sk_leaf ?_
    obtain rfl := some_ h
    exact end_ok [(0, none), (1, none)] Try.results34 (ps := [0 = 0, ([] : List Api_Pin).length = 0, 0 = 0, ([] : List Api_Sent).length = 0, (1 : Int) = 1, E31.cR [] = [], E76.cR [] = []]) (by as_aux_lemma => kernel_rfl) ⟨rfl, rfl, rfl, rfl, rfl, rfl, rfl, trivial⟩ (fun _ => ⟨rfl, by simp only [List.mem_cons, List.not_mem_nil, or_false, forall_eq_or_imp, forall_eq]; exact ⟨Elem.cR_bald E31_raw _, Elem.cR_bald E76_raw _⟩⟩)
  · refine sk_leaf ?_
    refine len_ro (by as_aux_lemma => kernel_rfl) 0 (s := 7) (n := a0.length) (c := fun i j => E31.cf (a0.getD i E31.z) j) (by as_aux_lemma => kernel_rfl) ?_; intro hl1_0
    refine len_ro (by as_aux_lemma => kernel_rfl) 16 (s := 2) (n := a1.length) (c := fun i j => E24.cf (a1.getD i E24.z) j) (by as_aux_lemma => kernel_rfl) ?_; intro hl1_1
    replace h : (fun (x : Nat × List Api_Pin × List Api_Sent × Nat) => line_Play_l1 a0 a1 x.1 x.2.1 x.2.2.1 x.2.2.2 = some r) (FUEL, a0, ([] : List Api_Sent), 0) := h
    refine loop_ok (by as_aux_lemma => kernel_rfl) (X := Nat × List Api_Pin × List Api_Sent × Nat) (fun x => line_Play_l1 a0 a1 x.1 x.2.1 x.2.2.1 x.2.2.2 = some r) (fun x => x.1) (fun x => mk 39 [(0, .pv ((E31.ro x.2.1))), (4, .pv (.raw (.slice none 0 0))), (5, .pv (.raw (.slice none 0 0))), (6, .pv (.raw (.int .i64 0))), (7, .row 0 3 0 x.2.2.1.length), (16, .pv ((E24.ro a1))), (17, .pv (.raw (.int .i64 ((a1.length : Nat) : Int)))), (18, .pv (.raw (.int .i64 ((x.2.2.2 : Nat) : Int))))] [(0, .row 76 3 (E76.cR x.2.2.1))]) (FUEL, a0, ([] : List Api_Sent), 0) h ?_ ?_
    · exact sub_ok (ρ := [(0, none)]) (l := [a0.length = a0.length, ∀ i, i < a0.length → ∀ j, j < 7 → E31.cf (a0.getD i E31.z) j = E31.cf (a0.getD i E31.z) j, (0 : Int) = 0, 0 = 0, (([] : List Api_Sent).length) = 0, a1.length = a1.length, ∀ i, i < a1.length → ∀ j, j < 2 → E24.cf (a1.getD i E24.z) j = E24.cf (a1.getD i E24.z) j, (((a1.length : Nat) : Int) : Int) = ((a1.length : Nat) : Int), (0 : Int) = ((0 : Nat) : Int), E76.cR ([] : List Api_Sent) = []]) (by as_aux_lemma => kernel_rfl) ⟨rfl, fun _ _ _ _ => rfl, rfl, rfl, (by first | rfl | simp), rfl, fun _ _ _ _ => rfl, rfl, (by first | rfl | simp), rfl, trivial⟩
    · clear h; rintro ⟨n1, l4, l5, k6⟩ h p1 hp1
      obtain _ | n1 := n1
      · cases (show (none : Option ((List Api_Pin) × (List Api_Sent) × Int)) = some r from h)
      have h : line_Play_l1 a0 a1 (n1 + 1) l4 l5 k6 = some r := h
      unfold line_Play_l1 at h
      refine segs [] tabOk mixed 4000 (S := .br (decide ((((k6 : Nat) : Int) : Int) < ((a1.length : Nat) : Int))) (.and (0 ≤ (((k6 : Nat) : Int) : Int) ∧ ((k6 : Nat) : Int) < ((a1.length : Nat) : Int)) (.leaf 0)) (.leaf 1)) (by as_aux_lemma => kernel_rfl) ?_
      refine br_ h ?_ ?_ <;> clear h <;> intro c7 h
      · refine sk_and ⟨Int.natCast_nonneg _, of_decide_eq_true c7⟩ ?_
        refine sk_leaf ?_
        obtain ⟨r9, e10, h⟩ := bd_ h
        refine call_ok (d := some 25) (fn := 16) (ax := [.pv ((E31.ro l4)), .agg [.pv (.raw (.int .i64 ((a1.getD k6 (⟨0, 0⟩ : Api_PinOp)).Kind))), .pv (.raw (.int .i64 ((a1.getD k6 (⟨0, 0⟩ : Api_PinOp)).Pin)))]]) (args := [.pv ((E31.ro l4)), .agg [.pv (.raw (.int .i64 ((a1.getD k6 (⟨0, 0⟩ : Api_PinOp)).Kind))), .pv (.raw (.int .i64 ((a1.getD k6 (⟨0, 0⟩ : Api_PinOp)).Pin)))]]) (ps := [l4.length = l4.length, ∀ i, i < l4.length → ∀ j, j < 7 → E31.cf (l4.getD i E31.z) j = E31.cf (l4.getD i E31.z) j, ((a1.getD k6 (⟨0, 0⟩ : Api_PinOp)).Kind : Int) = ((a1.getD k6 (⟨0, 0⟩ : Api_PinOp)).Kind), ((a1.getD k6 (⟨0, 0⟩ : Api_PinOp)).Pin : Int) = ((a1.getD k6 (⟨0, 0⟩ : Api_PinOp)).Pin)]) (hb' := [.row 31 7 (E31.cR r9.1), .row 76 3 (E76.cR r9.2.1)]) (by as_aux_lemma => kernel_rfl) (line_Step_ok _ _ _ e10 (al := true)) (by as_aux_lemma => kernel_rfl) ⟨rfl, fun _ _ _ _ => rfl, rfl, rfl, trivial⟩ (fun _ => (by as_aux_lemma => kernel_rfl)) (by simp) (by simp only [List.map_cons, List.map_nil, Elem.row_up]) (by as_aux_lemma => kernel_rfl) ?_
        refine segs [] tabOk mixed 4000 (S := .br ((r9.2.2 : Int) == 0) (.leaf 0) (.leaf 1)) (by as_aux_lemma => kernel_rfl) ?_
        refine br_ h ?_ ?_ <;> clear h <;> intro c11 h
        · refine sk_leaf ?_
          obtain ⟨g12, h⟩ := if_ h
          refine app_ok (d := 34) (e := 76) (s := 3) (b := 24) (x := .row 0 3 0 l5.length) (y := .row 16785 3 0 r9.2.1.length) E76 (xs := l5) (ys := r9.2.1) (by as_aux_lemma => kernel_rfl) rfl (.row 0 l5 l5.length rfl (by as_aux_lemma => kernel_rfl)) (.all 16785 76 r9.2.1 r9.2.1.length rfl (by as_aux_lemma => kernel_rfl)) g12 (by as_aux_lemma => kernel_rfl) ?_
          refine segs [] tabOk mixed 4000 (S := .leaf 0) (by as_aux_lemma => kernel_rfl) ?_
          refine sk_leaf ?_
          refine back_ok (p := p1) (by as_aux_lemma => kernel_rfl) (hp1 (n1, r9.1, (l5 ++ r9.2.1), k6 + 1) _ h (Nat.lt_succ_self n1) ?_)
          exact sub_ok (ρ := [(0, some 16928)]) (l := [r9.1.length = r9.1.length, rowQ (E31.cR r9.1) 7 0 r9.1.length (fun i j => E31.cf (r9.1.getD i E31.z) j), (0 : Int) = 0, 0 = 0, ((l5 ++ r9.2.1).length) = ((l5 ++ r9.2.1).length), a1.length = a1.length, ∀ i, i < a1.length → ∀ j, j < 2 → E24.cf (a1.getD i E24.z) j = E24.cf (a1.getD i E24.z) j, (((a1.length : Nat) : Int) : Int) = ((a1.length : Nat) : Int), ((IntKind.i64.wrap (((k6 : Nat) : Int) + 1)) : Int) = (((k6 + 1) : Nat) : Int), E76.cR (l5 ++ r9.2.1) = E76.cR (l5 ++ r9.2.1), AllPv (E76.cR (l5 ++ r9.2.1))]) (by as_aux_lemma => kernel_rfl) ⟨(by first | rfl | exact Elem.sub_len _ (by omega) | simp | (simp <;> omega)), E31.rowQ_all r9.1 rfl, rfl, rfl, rfl, rfl, fun _ _ _ _ => rfl, rfl, (wrap_nat (Int.ofNat_lt.1 (of_decide_eq_true c7)) (by omega)), rfl, (Elem.cR_pv _ _), trivial⟩
        · refine sk_leaf ?_
          refine back_ok (p := p1) (by as_aux_lemma => kernel_rfl) (hp1 (n1, l4, l5, k6 + 1) _ h (Nat.lt_succ_self n1) ?_)
          exact sub_ok (ρ := [(0, some 0)]) (l := [l4.length = l4.length, ∀ i, i < l4.length → ∀ j, j < 7 → E31.cf (l4.getD i E31.z) j = E31.cf (l4.getD i E31.z) j, (0 : Int) = 0, 0 = 0, l5.length = l5.length, a1.length = a1.length, ∀ i, i < a1.length → ∀ j, j < 2 → E24.cf (a1.getD i E24.z) j = E24.cf (a1.getD i E24.z) j, (((a1.length : Nat) : Int) : Int) = ((a1.length : Nat) : Int), ((IntKind.i64.wrap (((k6 : Nat) : Int) + 1)) : Int) = (((k6 + 1) : Nat) : Int), E76.cR l5 = E76.cR l5, AllPv (E76.cR l5)]) (by as_aux_lemma => kernel_rfl) ⟨rfl, fun _ _ _ _ => rfl, rfl, rfl, rfl, rfl, fun _ _ _ _ => rfl, rfl, (wrap_nat (Int.ofNat_lt.1 (of_decide_eq_true c7)) (by omega)), rfl, (Elem.cR_pv _ _), trivial⟩
      · refine sk_leaf ?_
        obtain ⟨r13, e14, h⟩ := bd_ h
        refine call_ok (d := some 37) (fn := 41) (ax := [.pv ((E31.ro l4))]) (args := [.pv ((E31.ro l4))]) (ps := [l4.length = l4.length, ∀ i, i < l4.length → ∀ j, j < 7 → E31.cf (l4.getD i E31.z) j = E31.cf (l4.getD i E31.z) j]) (hb' := [.row 31 7 (E31.cR r13)]) (by as_aux_lemma => kernel_rfl) (slices_Clone_api_Pin_ok _ _ e14 (al := true)) (by as_aux_lemma => kernel_rfl) ⟨rfl, fun _ _ _ _ => rfl, trivial⟩ (fun _ => (by as_aux_lemma => kernel_rfl)) (by simp) (by simp only [List.map_cons, List.map_nil, Elem.row_up]) (by as_aux_lemma => kernel_rfl) ?_
        refine segs [] tabOk mixed 4000 (S := .leaf 0) (by as_aux_lemma => kernel_rfl) ?_
        refine sk_leaf ?_
        obtain rfl := some_ h
        exact end_ok [(0, some 16976), (1, some 0)] Try.results34 (ps := [0 = 0, r13.length = r13.length, 0 = 0, l5.length = l5.length, (0 : Int) = 0, E31.cR r13 = E31.cR r13, AllPv (E31.cR r13), E76.cR l5 = E76.cR l5, AllPv (E76.cR l5)]) (by as_aux_lemma => kernel_rfl) ⟨rfl, (by first | rfl | simp), rfl, (by first | rfl | simp), rfl, rfl, (Elem.cR_pv _ _), rfl, (Elem.cR_pv _ _), trivial⟩ (fun _ => ⟨rfl, by simp only [List.mem_cons, List.not_mem_nil, or_false, forall_eq_or_imp, forall_eq]; exact ⟨Elem.cR_bald E31_raw _, Elem.cR_bald E76_raw _⟩⟩)

set_option maxHeartbeats 40000000 in
set_option maxRecDepth 100000 in
theorem slices_Equal_api_Sent_ok (a0 : (List Api_Sent)) (a1 : (List Api_Sent)) (r : Bool) (h : slices_Equal_api_Sent a0 a1 = some r) {al : Bool} : PCalls Try.prog 37 [.pv ((E76.ro a0)), .pv ((E76.ro a1))] al (.pv (.raw (.bool r))) [] := by
  unfold slices_Equal_api_Sent at h
  refine fn_ok tabOk Try.func37 (by as_aux_lemma => kernel_rfl) (by as_aux_lemma => kernel_rfl) Try.ntmps37 (by simp) ?_
  refine segs [] tabOk mixed 4000 (S := .br ((((a0.length : Nat) : Int) : Int) != ((a1.length : Nat) : Int)) (.leaf 0) (.leaf 1)) (by as_aux_lemma => kernel_rfl) ?_
  refine br_ h ?_ ?_ <;> clear h <;> intro c1 h
  · refine sk_leaf ?_
    obtain rfl := some_ h
    exact end_ok [] Try.results37 (ps := [false = false]) (by as_aux_lemma => kernel_rfl) ⟨rfl, trivial⟩ (fun _ => ⟨rfl, by simp⟩)
  · refine sk_leaf ?_
    refine len_ro (by as_aux_lemma => kernel_rfl) 0 (s := 3) (n := a0.length) (c := fun i j => E76.cf (a0.getD i E76.z) j) (by as_aux_lemma => kernel_rfl) ?_; intro hl1_0
    refine len_ro (by as_aux_lemma => kernel_rfl) 1 (s := 3) (n := a1.length) (c := fun i j => E76.cf (a1.getD i E76.z) j) (by as_aux_lemma => kernel_rfl) ?_; intro hl1_1
    replace h : (fun (x : Nat × Nat) => slices_Equal_api_Sent_l1 a0 a1 x.1 x.2 = some r) (FUEL, 0) := h
    refine loop_ok (by as_aux_lemma => kernel_rfl) (X := Nat × Nat) (fun x => slices_Equal_api_Sent_l1 a0 a1 x.1 x.2 = some r) (fun x => x.1) (fun x => mk 26 [(0, .pv ((E76.ro a0))), (1, .pv ((E76.ro a1))), (4, .pv (.raw (.bool false))), (12, .pv (.raw (.int .i64 ((a0.length : Nat) : Int)))), (13, .pv (.raw (.int .i64 ((x.2 : Nat) : Int))))] []) (FUEL, 0) h ?_ ?_
    · exact sub_ok (ρ := []) (l := [a0.length = a0.length, ∀ i, i < a0.length → ∀ j, j < 3 → E76.cf (a0.getD i E76.z) j = E76.cf (a0.getD i E76.z) j, a1.length = a1.length, ∀ i, i < a1.length → ∀ j, j < 3 → E76.cf (a1.getD i E76.z) j = E76.cf (a1.getD i E76.z) j, false = false, (((a0.length : Nat) : Int) : Int) = ((a0.length : Nat) : Int), (0 : Int) = ((0 : Nat) : Int)]) (by as_aux_lemma => kernel_rfl) ⟨rfl, fun _ _ _ _ => rfl, rfl, fun _ _ _ _ => rfl, rfl, rfl, (by first | rfl | simp), trivial⟩
    · clear h; rintro ⟨n1, k2⟩ h p1 hp1
      obtain _ | n1 := n1
      · cases (show (none : Option (Bool)) = some r from h)
      have h : slices_Equal_api_Sent_l1 a0 a1 (n1 + 1) k2 = some r := h
      unfold slices_Equal_api_Sent_l1 at h
      refine segs [] tabOk mixed 4000 (S := .br (decide ((((k2 : Nat) : Int) : Int) < ((a0.length : Nat) : Int))) (.and (0 ≤ (((k2 : Nat) : Int) : Int) ∧ ((k2 : Nat) : Int) < ((a0.length : Nat) : Int)) (.and (0 ≤ (((k2 : Nat) : Int) : Int) ∧ ((k2 : Nat) : Int) < ((a1.length : Nat) : Int)) (.br (!((((a0.getD k2 (⟨0, 0, 0⟩ : Api_Sent)).Pin : Int) == ((a1.getD k2 (⟨0, 0, 0⟩ : Api_Sent)).Pin)) && ((((a0.getD k2 (⟨0, 0, 0⟩ : Api_Sent)).Core : Int) == ((a1.getD k2 (⟨0, 0, 0⟩ : Api_Sent)).Core)) && ((((a0.getD k2 (⟨0, 0, 0⟩ : Api_Sent)).Vec : Int) == ((a1.getD k2 (⟨0, 0, 0⟩ : Api_Sent)).Vec)) && true)))) (.leaf 0) (.leaf 1)))) (.leaf 2)) (by as_aux_lemma => kernel_rfl) ?_
      refine br_ h ?_ ?_ <;> clear h <;> intro c3 h
      · refine sk_and ⟨Int.natCast_nonneg _, of_decide_eq_true c3⟩ ?_
        refine gd_ h ?_; clear h; intro g5 h
        refine br_ h ?_ ?_ <;> clear h <;> intro c6 h
        · refine sk_leaf ?_
          obtain rfl := some_ h
          exact end_ok [] Try.results37 (ps := [false = false]) (by as_aux_lemma => kernel_rfl) ⟨rfl, trivial⟩ (fun _ => ⟨rfl, by simp⟩)
        · refine sk_leaf ?_
          refine back_ok (p := p1) (by as_aux_lemma => kernel_rfl) (hp1 (n1, k2 + 1) _ h (Nat.lt_succ_self n1) ?_)
          exact sub_ok (ρ := []) (l := [a0.length = a0.length, ∀ i, i < a0.length → ∀ j, j < 3 → E76.cf (a0.getD i E76.z) j = E76.cf (a0.getD i E76.z) j, a1.length = a1.length, ∀ i, i < a1.length → ∀ j, j < 3 → E76.cf (a1.getD i E76.z) j = E76.cf (a1.getD i E76.z) j, false = false, (((a0.length : Nat) : Int) : Int) = ((a0.length : Nat) : Int), ((IntKind.i64.wrap (((k2 : Nat) : Int) + 1)) : Int) = (((k2 + 1) : Nat) : Int)]) (by as_aux_lemma => kernel_rfl) ⟨rfl, fun _ _ _ _ => rfl, rfl, fun _ _ _ _ => rfl, rfl, rfl, (wrap_nat (Int.ofNat_lt.1 (of_decide_eq_true c3)) (by omega)), trivial⟩
      · refine sk_leaf ?_
        obtain rfl := some_ h
        exact end_ok [] Try.results37 (ps := [true = true]) (by as_aux_lemma => kernel_rfl) ⟨rfl, trivial⟩ (fun _ => ⟨rfl, by simp⟩)

set_option maxHeartbeats 40000000 in
set_option maxRecDepth 100000 in
theorem keep_alive3_ok (r : Bool) (h : keep_alive3 = some r) {al : Bool} : PCalls Try.prog 15 [] al (.pv (.raw (.bool r))) [] := by
  unfold keep_alive3 at h
  refine fn_ok tabOk Try.func15 (by as_aux_lemma => kernel_rfl) (by as_aux_lemma => kernel_rfl) Try.ntmps15 (by simp) ?_
  refine segs [] tabOk mixed 4000 (S := .leaf 0) (by as_aux_lemma => kernel_rfl) ?_
  refine sk_leaf ?_
  refine bs_ok (d := 7) (e := 31) (s := 7) (n := 2) (cs := [.pv (.raw (.int .i64 0)), .pv (.raw (.int .i64 40)), .pv (.raw (.bool false)), .pv (.raw (.bool false)), .pv (.raw (.bool false)), .pv (.raw (.bool false)), .pv (.raw (.bool false)), .pv (.raw (.int .i64 1)), .pv (.raw (.int .i64 50)), .pv (.raw (.bool true)), .pv (.raw (.bool false)), .pv (.raw (.bool false)), .pv (.raw (.bool false)), .pv (.raw (.bool false))]) (cs' := E31.cR [(⟨0, 40, false, false, false, false, false⟩ : Api_Pin), (⟨1, 50, true, false, false, false, false⟩ : Api_Pin)]) (by as_aux_lemma => kernel_rfl) rfl (by as_aux_lemma => kernel_rfl) ?_
  refine segs [] tabOk mixed 4000 (S := .leaf 0) (by as_aux_lemma => kernel_rfl) ?_
  refine sk_leaf ?_
  refine bs_ok (d := 15) (e := 24) (s := 2) (n := 5) (cs := [.pv (.raw (.int .i64 3)), .pv (.raw (.int .i64 0)), .pv (.raw (.int .i64 1)), .pv (.raw (.int .i64 0)), .pv (.raw (.int .i64 4)), .pv (.raw (.int .i64 0)), .pv (.raw (.int .i64 1)), .pv (.raw (.int .i64 1)), .pv (.raw (.int .i64 5)), .pv (.raw (.int .i64 1))]) (cs' := E24.cR [(⟨3, 0⟩ : Api_PinOp), (⟨1, 0⟩ : Api_PinOp), (⟨4, 0⟩ : Api_PinOp), (⟨1, 1⟩ : Api_PinOp), (⟨5, 1⟩ : Api_PinOp)]) (by as_aux_lemma => kernel_rfl) rfl (by as_aux_lemma => kernel_rfl) ?_
  refine segs [] tabOk mixed 4000 (S := .leaf 0) (by as_aux_lemma => kernel_rfl) ?_
  refine sk_leaf ?_
  obtain ⟨r1, e2, h⟩ := bd_ h
  refine call_ok (d := some 16) (fn := 34) (ax := [.row 16496 7 0 2, .row 16624 2 0 5]) (args := [.pv ((E31.ro [(⟨0, 40, false, false, false, false, false⟩ : Api_Pin), (⟨1, 50, true, false, false, false, false⟩ : Api_Pin)])), .pv ((E24.ro [(⟨3, 0⟩ : Api_PinOp), (⟨1, 0⟩ : Api_PinOp), (⟨4, 0⟩ : Api_PinOp), (⟨1, 1⟩ : Api_PinOp), (⟨5, 1⟩ : Api_PinOp)]))]) (ps := [2 = [(⟨0, 40, false, false, false, false, false⟩ : Api_Pin), (⟨1, 50, true, false, false, false, false⟩ : Api_Pin)].length, rowQ (E31.cR [(⟨0, 40, false, false, false, false, false⟩ : Api_Pin), (⟨1, 50, true, false, false, false, false⟩ : Api_Pin)]) 7 0 2 (fun i j => E31.cf ([(⟨0, 40, false, false, false, false, false⟩ : Api_Pin), (⟨1, 50, true, false, false, false, false⟩ : Api_Pin)].getD i E31.z) j), 5 = [(⟨3, 0⟩ : Api_PinOp), (⟨1, 0⟩ : Api_PinOp), (⟨4, 0⟩ : Api_PinOp), (⟨1, 1⟩ : Api_PinOp), (⟨5, 1⟩ : Api_PinOp)].length, rowQ (E24.cR [(⟨3, 0⟩ : Api_PinOp), (⟨1, 0⟩ : Api_PinOp), (⟨4, 0⟩ : Api_PinOp), (⟨1, 1⟩ : Api_PinOp), (⟨5, 1⟩ : Api_PinOp)]) 2 0 5 (fun i j => E24.cf ([(⟨3, 0⟩ : Api_PinOp), (⟨1, 0⟩ : Api_PinOp), (⟨4, 0⟩ : Api_PinOp), (⟨1, 1⟩ : Api_PinOp), (⟨5, 1⟩ : Api_PinOp)].getD i E24.z) j)]) (hb' := [.row 31 7 (E31.cR r1.1), .row 76 3 (E76.cR r1.2.1)]) (by as_aux_lemma => kernel_rfl) (line_Play_ok _ _ _ e2 (al := false)) (by as_aux_lemma => kernel_rfl) ⟨(by first | rfl | exact Elem.sub_len _ (by omega) | simp | (simp <;> omega)), E31.rowQ_all [(⟨0, 40, false, false, false, false, false⟩ : Api_Pin), (⟨1, 50, true, false, false, false, false⟩ : Api_Pin)] rfl, (by first | rfl | exact Elem.sub_len _ (by omega) | simp | (simp <;> omega)), E24.rowQ_all [(⟨3, 0⟩ : Api_PinOp), (⟨1, 0⟩ : Api_PinOp), (⟨4, 0⟩ : Api_PinOp), (⟨1, 1⟩ : Api_PinOp), (⟨5, 1⟩ : Api_PinOp)] rfl, trivial⟩ (fun hx => by cases hx) (by simp) (by simp only [List.map_cons, List.map_nil, Elem.row_up]) (by as_aux_lemma => kernel_rfl) ?_
  refine segs [] tabOk mixed 4000 (S := .and ((((r1.2.2 : Int) == 0) = true → (((r1.2.2 : Int) == 0) = true))) (.and ((((r1.2.2 : Int) == 0) = true → (((r1.2.2 : Int) == 0) = true))) (.and (((r1.2.2 : Int) == 0) = true → ((r1.2.2 : Int) == 0) = true) (.leaf 0)))) (by as_aux_lemma => kernel_rfl) ?_
  refine sk_and ((by decide : ∀ y0 : Bool, ((y0 = true) → (y0 = true))) ((r1.2.2 : Int) == 0)) ?_
  refine sk_and ((by decide : ∀ y0 : Bool, ((y0 = true) → (y0 = true))) ((r1.2.2 : Int) == 0)) ?_
  refine sk_and ((by decide : ∀ y0 : Bool, ((y0 = true) → (y0 = true))) ((r1.2.2 : Int) == 0)) ?_
  refine sk_leaf ?_
  refine bsG_ok (d := 32) (e := 76) (s := 3) (n := 3) (g := (((r1.2.2 : Int) == 0) && ((((r1.1.length : Nat) : Int) : Int) == 2))) (ws := [(((r1.2.2 : Int) == 0) && ((((r1.1.length : Nat) : Int) : Int) == 2)) = true, (((r1.2.2 : Int) == 0) && ((((r1.1.length : Nat) : Int) : Int) == 2)) = true, (((r1.2.2 : Int) == 0) && ((((r1.1.length : Nat) : Int) : Int) == 2)) = true]) (cs := [.pv (.raw (.int .i64 0)), .pv (.raw (.int .i64 0)), .pv (.raw (.int .i64 40)), .pv (.raw (.int .i64 1)), .pv (.raw (.int .i64 1)), .pv (.raw (.int .i64 50)), .pv (.raw (.int .i64 1)), .pv (.raw (.int .i64 1)), .pv (.raw (.int .i64 50))]) E76 [(⟨0, 0, 40⟩ : Api_Sent), (⟨1, 1, 50⟩ : Api_Sent), (⟨1, 1, 50⟩ : Api_Sent)] (by as_aux_lemma => kernel_rfl) (fun hg => ⟨((by decide : ∀ y0 y1 : Bool, (((y0 && y1) = true) → ((y0 && y1) = true))) ((r1.2.2 : Int) == 0) ((((r1.1.length : Nat) : Int) : Int) == 2)) hg, ((by decide : ∀ y0 y1 : Bool, (((y0 && y1) = true) → ((y0 && y1) = true))) ((r1.2.2 : Int) == 0) ((((r1.1.length : Nat) : Int) : Int) == 2)) hg, ((by decide : ∀ y0 y1 : Bool, (((y0 && y1) = true) → ((y0 && y1) = true))) ((r1.2.2 : Int) == 0) ((((r1.1.length : Nat) : Int) : Int) == 2)) hg, trivial⟩) rfl rfl rfl (by as_aux_lemma => kernel_rfl) ?_
  refine segs [] tabOk mixed 4000 (S := .leaf 0) (by as_aux_lemma => kernel_rfl) ?_
  refine sk_leaf ?_
  obtain ⟨r6, e7, h⟩ := bd_ h
  refine callG_ok (d := some 33) (fn := 37) (ax := [.row 16641 3 0 r1.2.1.length, .pv ((E76.ro [(⟨0, 0, 40⟩ : Api_Sent), (⟨1, 1, 50⟩ : Api_Sent), (⟨1, 1, 50⟩ : Api_Sent)]))]) (args := [.pv ((E76.ro r1.2.1)), .pv ((E76.ro [(⟨0, 0, 40⟩ : Api_Sent), (⟨1, 1, 50⟩ : Api_Sent), (⟨1, 1, 50⟩ : Api_Sent)]))]) (g := (((r1.2.2 : Int) == 0) && ((((r1.1.length : Nat) : Int) : Int) == 2))) (ws := [(((r1.2.2 : Int) == 0) && ((((r1.1.length : Nat) : Int) : Int) == 2)) = true, (((r1.2.2 : Int) == 0) && ((((r1.1.length : Nat) : Int) : Int) == 2)) = true]) (ps := [r1.2.1.length = r1.2.1.length, rowQ (E76.cR r1.2.1) 3 0 r1.2.1.length (fun i j => E76.cf (r1.2.1.getD i E76.z) j), [(⟨0, 0, 40⟩ : Api_Sent), (⟨1, 1, 50⟩ : Api_Sent), (⟨1, 1, 50⟩ : Api_Sent)].length = [(⟨0, 0, 40⟩ : Api_Sent), (⟨1, 1, 50⟩ : Api_Sent), (⟨1, 1, 50⟩ : Api_Sent)].length, ∀ i, i < [(⟨0, 0, 40⟩ : Api_Sent), (⟨1, 1, 50⟩ : Api_Sent), (⟨1, 1, 50⟩ : Api_Sent)].length → ∀ j, j < 3 → E76.cf ([(⟨0, 0, 40⟩ : Api_Sent), (⟨1, 1, 50⟩ : Api_Sent), (⟨1, 1, 50⟩ : Api_Sent)].getD i E76.z) j = E76.cf ([(⟨0, 0, 40⟩ : Api_Sent), (⟨1, 1, 50⟩ : Api_Sent), (⟨1, 1, 50⟩ : Api_Sent)].getD i E76.z) j]) (by as_aux_lemma => kernel_rfl) (fun hg => ⟨((by decide : ∀ y0 y1 : Bool, (((y0 && y1) = true) → ((y0 && y1) = true))) ((r1.2.2 : Int) == 0) ((((r1.1.length : Nat) : Int) : Int) == 2)) hg, ((by decide : ∀ y0 y1 : Bool, (((y0 && y1) = true) → ((y0 && y1) = true))) ((r1.2.2 : Int) == 0) ((((r1.1.length : Nat) : Int) : Int) == 2)) hg, trivial⟩) (fun hg => slices_Equal_api_Sent_ok _ _ _ (by rw [hg] at e7; exact e7) (al := false)) (by as_aux_lemma => kernel_rfl) (fun hg => ⟨(by first | rfl | exact Elem.sub_len _ (by omega) | simp | (simp <;> omega)), E76.rowQ_all r1.2.1 rfl, rfl, fun _ _ _ _ => rfl, trivial⟩) (fun hx => by cases hx) ?_
  refine segs [] tabOk mixed 4000 (S := .and ((((r1.2.2 : Int) == 0) && ((((r1.1.length : Nat) : Int) : Int) == 2)) = true → (((r1.2.2 : Int) == 0) && ((((r1.1.length : Nat) : Int) : Int) == 2)) = true) (.leaf 0)) (by as_aux_lemma => kernel_rfl) ?_
  refine sk_and ((by decide : ∀ y0 y1 : Bool, (((y0 && y1) = true) → ((y0 && y1) = true))) ((r1.2.2 : Int) == 0) ((((r1.1.length : Nat) : Int) : Int) == 2)) ?_
  refine sk_leaf ?_
  obtain rfl := some_ h
  exact end_ok [] Try.results15 (ps := [((((r1.2.2 : Int) == 0) && ((((r1.1.length : Nat) : Int) : Int) == 2)) && r6) = ((((r1.2.2 : Int) == 0) && ((((r1.1.length : Nat) : Int) : Int) == 2)) && r6)]) (by as_aux_lemma => kernel_rfl) ⟨rfl, trivial⟩ (fun _ => ⟨rfl, by simp⟩)

set_option maxRecDepth 100000 in
set_option maxHeartbeats 2000000 in
theorem slices_Grow_api_PinOp_nil_calls (n : Nat) (hb : n * 16 ≤ 140737488355328) (hb2 : n ≤ 140737488355328) (w : World) : Calls Try.prog 51 #[.slice none 0 0, .int .i64 n] w fun ex w' => GrowPost 24 2 w ex w' := by
  obtain ⟨_, info, hi, hi1, hi2, hz, _⟩ := tabOk 24 _ tab_24
  have hi1 : info.size = 2 := hi1
  have hi2 : info.bytes = 16 := hi2
  obtain ⟨z, hz, hzs⟩ : ∃ z, info.zero = some z ∧ z.cells.size = 2 := ⟨_, hz, by kernel_rfl⟩
  have h1 : ¬ ((n : Int) < 0) := by omega
  have h2 : Go.RowKit.wrap64 (0 - 0 : Int) = 0 := by unfold Go.RowKit.wrap64; omega
  have h3 : Go.RowKit.wrap64 ((n : Int) - 0) = (n : Int) := by unfold Go.RowKit.wrap64; omega
  by_cases h0 : n = 0
  · subst h0
    go_enter Try.func51, Try.ntmps51
    go_wp2
    all_goals first | (go_ret; exact .inl ⟨rfl, rfl⟩) | skip
  · have hn : 0 < n := by omega
    have h4 : ((n : Int) > 0) := by omega
    have hrun := fun ty => Go.Lib.run_append_nil_zeros (P := Try.prog) w 34 3 ty 24 info z .i64 .i64 Try.underlying34 Try.underlying3 hi hz n hn (by rw [hi1]; decide) (by omega) (by rw [hi2]; omega)
    have hGn : n ≤ grownCap w n 0 24 := grownCap_ge w _ _ _
    have hG63 := grownCap_le_maxLen w n 0 24 (by unfold maxLen; omega)
    obtain ⟨G, hG⟩ : ∃ G, G = grownCap w n 0 24 := ⟨_, rfl⟩
    rw [← hG] at hrun hGn hG63
    obtain ⟨cur, hcur⟩ : ∃ cur, cur = Builtin.zeroCells z.cells n ++ Builtin.zeroCells z.cells (G - n) := ⟨_, rfl⟩
    rw [← hcur] at hrun
    have hsz : cur.size = G * 2 := by rw [hcur, Array.size_append, size_zeroCells, size_zeroCells, hzs, ← Nat.add_mul]; congr 1; omega
    clear hcur hG hi hz
    go_enter Try.func51, Try.ntmps51
    go_wp2_with (at_builtin; refine Go.Lib.wpList_append_run _ rfl _ _ _ _ rfl _ _ rfl rfl _ _ (hrun _) ?_)
    all_goals (go_ret; exact .inr ⟨G, cur, rfl, rfl, hsz, hG63⟩)
theorem slices_Grow_api_PinOp_nil_ok (a0 : Int) (r : List Api_PinOp) (h : slices_Grow_api_PinOp_nil a0 = some r) {al : Bool} : PCalls Try.prog 51 [.pv (.raw (.slice none 0 0)), .pv (.raw (.int .i64 a0))] al (.row 0 2 0 r.length) [.row 24 2 (E24.cR r)] := by
  unfold slices_Grow_api_PinOp_nil at h
  obtain ⟨g, h⟩ := if_ h
  obtain rfl := some_ h
  obtain ⟨n, rfl⟩ : ∃ n : Nat, a0 = n := ⟨a0.toNat, by omega⟩
  exact grow_pcalls ⟨_, Try.func51, by kernel_rfl, by kernel_rfl⟩ (E := E24) (by decide) (slices_Grow_api_PinOp_nil_calls n (by omega) (by omega))

set_option maxHeartbeats 40000000 in
set_option maxRecDepth 100000 in
theorem slices_Concat_api_PinOp_ok (a0 : (List (List Api_PinOp))) (r : (List Api_PinOp)) (h : slices_Concat_api_PinOp a0 = some r) {al : Bool} : PCalls Try.prog 35 [.pv ((E34.ro a0))] al (.row 0 2 0 r.length) [.row 24 2 (E24.cR r)] := by
  unfold slices_Concat_api_PinOp at h
  refine fn_ok tabOk Try.func35 (by as_aux_lemma => kernel_rfl) (by as_aux_lemma => kernel_rfl) Try.ntmps35 (by simp) ?_
  refine segs [] tabOk mixed 4000 (S := .leaf 0) (by as_aux_lemma => kernel_rfl) ?_
  refine sk_leaf ?_
  refine len_ro (by as_aux_lemma => kernel_rfl) 0 (s := 1) (n := a0.length) (c := fun i j => E34.cf (a0.getD i E34.z) j) (by as_aux_lemma => kernel_rfl) ?_; intro hl1_0
  refine len_ro (by as_aux_lemma => kernel_rfl) 9 (s := 1) (n := a0.length) (c := fun i j => E34.cf (a0.getD i E34.z) j) (by as_aux_lemma => kernel_rfl) ?_; intro hl1_1
  replace h : (fun (x : Nat × Int × Nat) => slices_Concat_api_PinOp_l1 a0 x.1 x.2.1 x.2.2 = some r) (FUEL, 0, 0) := h
  refine loop_ok (by as_aux_lemma => kernel_rfl) (X := Nat × Int × Nat) (fun x => slices_Concat_api_PinOp_l1 a0 x.1 x.2.1 x.2.2 = some r) (fun x => x.1) (fun x => mk 36 [(0, .pv ((E34.ro a0))), (2, .pv (.raw (.slice none 0 0))), (3, .pv (.raw (.int .i64 x.2.1))), (9, .pv ((E34.ro a0))), (10, .pv (.raw (.int .i64 ((a0.length : Nat) : Int)))), (11, .pv (.raw (.int .i64 ((x.2.2 : Nat) : Int))))] []) (FUEL, 0, 0) h ?_ ?_
  · exact sub_ok (ρ := []) (l := [a0.length = a0.length, ∀ i, i < a0.length → ∀ j, j < 1 → E34.cf (a0.getD i E34.z) j = E34.cf (a0.getD i E34.z) j, (0 : Int) = 0, a0.length = a0.length, ∀ i, i < a0.length → ∀ j, j < 1 → E34.cf (a0.getD i E34.z) j = E34.cf (a0.getD i E34.z) j, (((a0.length : Nat) : Int) : Int) = ((a0.length : Nat) : Int), (0 : Int) = ((0 : Nat) : Int)]) (by as_aux_lemma => kernel_rfl) ⟨rfl, fun _ _ _ _ => rfl, rfl, rfl, fun _ _ _ _ => rfl, rfl, (by first | rfl | simp), trivial⟩
  · clear h; rintro ⟨n1, x1, k2⟩ h p1 hp1
    obtain _ | n1 := n1
    · cases (show (none : Option ((List Api_PinOp))) = some r from h)
    have h : slices_Concat_api_PinOp_l1 a0 (n1 + 1) x1 k2 = some r := h
    unfold slices_Concat_api_PinOp_l1 at h
    refine segs [] tabOk mixed 4000 (S := .br (decide ((((k2 : Nat) : Int) : Int) < ((a0.length : Nat) : Int))) (.and (0 ≤ (((k2 : Nat) : Int) : Int) ∧ ((k2 : Nat) : Int) < ((a0.length : Nat) : Int)) (.br (decide (((IntKind.i64.wrap (x1 + (((a0.getD k2 []).length : Nat) : Int))) : Int) < 0)) (.bad) (.leaf 0))) (.leaf 1)) (by as_aux_lemma => kernel_rfl) ?_
    refine br_ h ?_ ?_ <;> clear h <;> intro c3 h
    · refine sk_and ⟨Int.natCast_nonneg _, of_decide_eq_true c3⟩ ?_
      refine br_ h ?_ ?_ <;> clear h <;> intro c5 h
      · cases h
      · refine sk_leaf ?_
        refine back_ok (p := p1) (by as_aux_lemma => kernel_rfl) (hp1 (n1, (IntKind.i64.wrap (x1 + (((a0.getD k2 []).length : Nat) : Int))), k2 + 1) _ h (Nat.lt_succ_self n1) ?_)
        exact sub_ok (ρ := []) (l := [a0.length = a0.length, ∀ i, i < a0.length → ∀ j, j < 1 → E34.cf (a0.getD i E34.z) j = E34.cf (a0.getD i E34.z) j, ((IntKind.i64.wrap (x1 + (((a0.getD k2 []).length : Nat) : Int))) : Int) = (IntKind.i64.wrap (x1 + (((a0.getD k2 []).length : Nat) : Int))), a0.length = a0.length, ∀ i, i < a0.length → ∀ j, j < 1 → E34.cf (a0.getD i E34.z) j = E34.cf (a0.getD i E34.z) j, (((a0.length : Nat) : Int) : Int) = ((a0.length : Nat) : Int), ((IntKind.i64.wrap (((k2 : Nat) : Int) + 1)) : Int) = (((k2 + 1) : Nat) : Int)]) (by as_aux_lemma => kernel_rfl) ⟨rfl, fun _ _ _ _ => rfl, rfl, rfl, fun _ _ _ _ => rfl, rfl, (wrap_nat (Int.ofNat_lt.1 (of_decide_eq_true c3)) (by omega)), trivial⟩
    · refine sk_leaf ?_
      obtain ⟨r6, e7, h⟩ := bd_ h
      refine call_ok (d := some 24) (fn := 51) (ax := [.pv (.raw (.slice none 0 0)), .pv (.raw (.int .i64 x1))]) (args := [.pv (.raw (.slice none 0 0)), .pv (.raw (.int .i64 x1))]) (ps := [(x1 : Int) = x1]) (hb' := [.row 24 2 (E24.cR r6)]) (by as_aux_lemma => kernel_rfl) (slices_Grow_api_PinOp_nil_ok _ _ e7 (al := true)) (by as_aux_lemma => kernel_rfl) ⟨rfl, trivial⟩ (fun _ => (by as_aux_lemma => kernel_rfl)) (by simp) (by simp only [List.map_cons, List.map_nil, Elem.row_up]) (by as_aux_lemma => kernel_rfl) ?_
      refine segs [] tabOk mixed 4000 (S := .leaf 0) (by as_aux_lemma => kernel_rfl) ?_
      refine sk_leaf ?_
      refine len_ro (by as_aux_lemma => kernel_rfl) 25 (s := 1) (n := a0.length) (c := fun i j => E34.cf (a0.getD i E34.z) j) (by as_aux_lemma => kernel_rfl) ?_; intro hl2_0
      refine len_row (by as_aux_lemma => kernel_rfl) 16768 (e := 24) (s := 2) (n := r6.length) (cs := E24.cR r6) (by as_aux_lemma => kernel_rfl) (Elem.cR_length _ _) ?_; intro hl2_1
      replace h : (fun (x : Nat × List Api_PinOp × Nat) => slices_Concat_api_PinOp_l2 a0 r6 x.1 x.2.1 x.2.2 = some r) (FUEL, r6, 0) := h
      refine loop_ok (by as_aux_lemma => kernel_rfl) (X := Nat × List Api_PinOp × Nat) (fun x => slices_Concat_api_PinOp_l2 a0 r6 x.1 x.2.1 x.2.2 = some r) (fun x => x.1) (fun x => mk 36 [(2, .pv (.raw (.slice none 0 0))), (6, .row 0 2 0 x.2.1.length), (25, .pv ((E34.ro a0))), (26, .pv (.raw (.int .i64 ((a0.length : Nat) : Int)))), (27, .pv (.raw (.int .i64 ((x.2.2 : Nat) : Int))))] [(0, .row 24 2 (E24.cR x.2.1))]) (FUEL, r6, 0) h ?_ ?_
      · exact sub_ok (ρ := [(0, some 16768)]) (l := [0 = 0, r6.length = r6.length, a0.length = a0.length, ∀ i, i < a0.length → ∀ j, j < 1 → E34.cf (a0.getD i E34.z) j = E34.cf (a0.getD i E34.z) j, (((a0.length : Nat) : Int) : Int) = ((a0.length : Nat) : Int), (0 : Int) = ((0 : Nat) : Int), E24.cR r6 = E24.cR r6, AllPv (E24.cR r6)]) (by as_aux_lemma => kernel_rfl) ⟨rfl, rfl, rfl, fun _ _ _ _ => rfl, rfl, (by first | rfl | simp), rfl, (Elem.cR_pv _ _), trivial⟩
      · clear h; rintro ⟨n2, l8, k9⟩ h p2 hp2
        obtain _ | n2 := n2
        · cases (show (none : Option ((List Api_PinOp))) = some r from h)
        have h : slices_Concat_api_PinOp_l2 a0 r6 (n2 + 1) l8 k9 = some r := h
        unfold slices_Concat_api_PinOp_l2 at h
        refine segs [] tabOk mixed 4000 (S := .br (decide ((((k9 : Nat) : Int) : Int) < ((a0.length : Nat) : Int))) (.and (0 ≤ (((k9 : Nat) : Int) : Int) ∧ ((k9 : Nat) : Int) < ((a0.length : Nat) : Int)) (.leaf 0)) (.leaf 1)) (by as_aux_lemma => kernel_rfl) ?_
        refine br_ h ?_ ?_ <;> clear h <;> intro c10 h
        · refine sk_and ⟨Int.natCast_nonneg _, of_decide_eq_true c10⟩ ?_
          refine sk_leaf ?_
          obtain ⟨g12, h⟩ := if_ h
          refine app_ok (d := 33) (e := 24) (s := 2) (b := 16) (x := .row 0 2 0 l8.length) (y := .pv ((E24.ro (a0.getD k9 [])))) E24 (xs := l8) (ys := (a0.getD k9 [])) (by as_aux_lemma => kernel_rfl) rfl (.row 0 l8 l8.length rfl (by as_aux_lemma => kernel_rfl)) (.ro (a0.getD k9 [])) g12 (by as_aux_lemma => kernel_rfl) ?_
          refine segs [] tabOk mixed 4000 (S := .leaf 0) (by as_aux_lemma => kernel_rfl) ?_
          refine sk_leaf ?_
          refine back_ok (p := p2) (by as_aux_lemma => kernel_rfl) (hp2 (n2, (l8 ++ (a0.getD k9 [])), k9 + 1) _ h (Nat.lt_succ_self n2) ?_)
          exact sub_ok (ρ := [(0, some 16912)]) (l := [0 = 0, ((l8 ++ (a0.getD k9 [])).length) = ((l8 ++ (a0.getD k9 [])).length), a0.length = a0.length, ∀ i, i < a0.length → ∀ j, j < 1 → E34.cf (a0.getD i E34.z) j = E34.cf (a0.getD i E34.z) j, (((a0.length : Nat) : Int) : Int) = ((a0.length : Nat) : Int), ((IntKind.i64.wrap (((k9 : Nat) : Int) + 1)) : Int) = (((k9 + 1) : Nat) : Int), E24.cR (l8 ++ (a0.getD k9 [])) = E24.cR (l8 ++ (a0.getD k9 [])), AllPv (E24.cR (l8 ++ (a0.getD k9 [])))]) (by as_aux_lemma => kernel_rfl) ⟨rfl, rfl, rfl, fun _ _ _ _ => rfl, rfl, (wrap_nat (Int.ofNat_lt.1 (of_decide_eq_true c10)) (by omega)), rfl, (Elem.cR_pv _ _), trivial⟩
        · refine sk_leaf ?_
          obtain rfl := some_ h
          exact end_ok [(0, some 0)] Try.results35 (ps := [0 = 0, l8.length = l8.length, E24.cR l8 = E24.cR l8, AllPv (E24.cR l8)]) (by as_aux_lemma => kernel_rfl) ⟨rfl, (by first | rfl | simp), rfl, (Elem.cR_pv _ _), trivial⟩ (fun _ => ⟨rfl, by simp only [List.mem_cons, List.not_mem_nil, or_false, forall_eq_or_imp, forall_eq]; exact Elem.cR_bald E24_raw _⟩)

set_option maxHeartbeats 40000000 in
set_option maxRecDepth 100000 in
theorem slices_Equal_api_Pin_ok (a0 : (List Api_Pin)) (a1 : (List Api_Pin)) (r : Bool) (h : slices_Equal_api_Pin a0 a1 = some r) {al : Bool} : PCalls Try.prog 36 [.pv ((E31.ro a0)), .pv ((E31.ro a1))] al (.pv (.raw (.bool r))) [] := by
  unfold slices_Equal_api_Pin at h
  refine fn_ok tabOk Try.func36 (by as_aux_lemma => kernel_rfl) (by as_aux_lemma => kernel_rfl) Try.ntmps36 (by simp) ?_
  refine segs [] tabOk mixed 4000 (S := .br ((((a0.length : Nat) : Int) : Int) != ((a1.length : Nat) : Int)) (.leaf 0) (.leaf 1)) (by as_aux_lemma => kernel_rfl) ?_
  refine br_ h ?_ ?_ <;> clear h <;> intro c1 h
  · refine sk_leaf ?_
    obtain rfl := some_ h
    exact end_ok [] Try.results36 (ps := [false = false]) (by as_aux_lemma => kernel_rfl) ⟨rfl, trivial⟩ (fun _ => ⟨rfl, by simp⟩)
  · refine sk_leaf ?_
    refine len_ro (by as_aux_lemma => kernel_rfl) 0 (s := 7) (n := a0.length) (c := fun i j => E31.cf (a0.getD i E31.z) j) (by as_aux_lemma => kernel_rfl) ?_; intro hl1_0
    refine len_ro (by as_aux_lemma => kernel_rfl) 1 (s := 7) (n := a1.length) (c := fun i j => E31.cf (a1.getD i E31.z) j) (by as_aux_lemma => kernel_rfl) ?_; intro hl1_1
    replace h : (fun (x : Nat × Nat) => slices_Equal_api_Pin_l1 a0 a1 x.1 x.2 = some r) (FUEL, 0) := h
    refine loop_ok (by as_aux_lemma => kernel_rfl) (X := Nat × Nat) (fun x => slices_Equal_api_Pin_l1 a0 a1 x.1 x.2 = some r) (fun x => x.1) (fun x => mk 26 [(0, .pv ((E31.ro a0))), (1, .pv ((E31.ro a1))), (4, .pv (.raw (.bool false))), (12, .pv (.raw (.int .i64 ((a0.length : Nat) : Int)))), (13, .pv (.raw (.int .i64 ((x.2 : Nat) : Int))))] []) (FUEL, 0) h ?_ ?_
    · exact sub_ok (ρ := []) (l := [a0.length = a0.length, ∀ i, i < a0.length → ∀ j, j < 7 → E31.cf (a0.getD i E31.z) j = E31.cf (a0.getD i E31.z) j, a1.length = a1.length, ∀ i, i < a1.length → ∀ j, j < 7 → E31.cf (a1.getD i E31.z) j = E31.cf (a1.getD i E31.z) j, false = false, (((a0.length : Nat) : Int) : Int) = ((a0.length : Nat) : Int), (0 : Int) = ((0 : Nat) : Int)]) (by as_aux_lemma => kernel_rfl) ⟨rfl, fun _ _ _ _ => rfl, rfl, fun _ _ _ _ => rfl, rfl, rfl, (by first | rfl | simp), trivial⟩
    · clear h; rintro ⟨n1, k2⟩ h p1 hp1
      obtain _ | n1 := n1
      · cases (show (none : Option (Bool)) = some r from h)
      have h : slices_Equal_api_Pin_l1 a0 a1 (n1 + 1) k2 = some r := h
      unfold slices_Equal_api_Pin_l1 at h
      refine segs [] tabOk mixed 4000 (S := .br (decide ((((k2 : Nat) : Int) : Int) < ((a0.length : Nat) : Int))) (.and (0 ≤ (((k2 : Nat) : Int) : Int) ∧ ((k2 : Nat) : Int) < ((a0.length : Nat) : Int)) (.and (0 ≤ (((k2 : Nat) : Int) : Int) ∧ ((k2 : Nat) : Int) < ((a1.length : Nat) : Int)) (.br (!((((a0.getD k2 (⟨0, 0, false, false, false, false, false⟩ : Api_Pin)).Core : Int) == ((a1.getD k2 (⟨0, 0, false, false, false, false, false⟩ : Api_Pin)).Core)) && ((((a0.getD k2 (⟨0, 0, false, false, false, false, false⟩ : Api_Pin)).Vec : Int) == ((a1.getD k2 (⟨0, 0, false, false, false, false, false⟩ : Api_Pin)).Vec)) && ((((a0.getD k2 (⟨0, 0, false, false, false, false, false⟩ : Api_Pin)).Level) == ((a1.getD k2 (⟨0, 0, false, false, false, false, false⟩ : Api_Pin)).Level)) && ((((a0.getD k2 (⟨0, 0, false, false, false, false, false⟩ : Api_Pin)).Masked) == ((a1.getD k2 (⟨0, 0, false, false, false, false, false⟩ : Api_Pin)).Masked)) && ((((a0.getD k2 (⟨0, 0, false, false, false, false, false⟩ : Api_Pin)).Up) == ((a1.getD k2 (⟨0, 0, false, false, false, false, false⟩ : Api_Pin)).Up)) && ((((a0.getD k2 (⟨0, 0, false, false, false, false, false⟩ : Api_Pin)).Kept) == ((a1.getD k2 (⟨0, 0, false, false, false, false, false⟩ : Api_Pin)).Kept)) && ((((a0.getD k2 (⟨0, 0, false, false, false, false, false⟩ : Api_Pin)).Sent) == ((a1.getD k2 (⟨0, 0, false, false, false, false, false⟩ : Api_Pin)).Sent)) && true)))))))) (.leaf 0) (.leaf 1)))) (.leaf 2)) (by as_aux_lemma => kernel_rfl) ?_
      refine br_ h ?_ ?_ <;> clear h <;> intro c3 h
      · refine sk_and ⟨Int.natCast_nonneg _, of_decide_eq_true c3⟩ ?_
        refine gd_ h ?_; clear h; intro g5 h
        refine br_ h ?_ ?_ <;> clear h <;> intro c6 h
        · refine sk_leaf ?_
          obtain rfl := some_ h
          exact end_ok [] Try.results36 (ps := [false = false]) (by as_aux_lemma => kernel_rfl) ⟨rfl, trivial⟩ (fun _ => ⟨rfl, by simp⟩)
        · refine sk_leaf ?_
          refine back_ok (p := p1) (by as_aux_lemma => kernel_rfl) (hp1 (n1, k2 + 1) _ h (Nat.lt_succ_self n1) ?_)
          exact sub_ok (ρ := []) (l := [a0.length = a0.length, ∀ i, i < a0.length → ∀ j, j < 7 → E31.cf (a0.getD i E31.z) j = E31.cf (a0.getD i E31.z) j, a1.length = a1.length, ∀ i, i < a1.length → ∀ j, j < 7 → E31.cf (a1.getD i E31.z) j = E31.cf (a1.getD i E31.z) j, false = false, (((a0.length : Nat) : Int) : Int) = ((a0.length : Nat) : Int), ((IntKind.i64.wrap (((k2 : Nat) : Int) + 1)) : Int) = (((k2 + 1) : Nat) : Int)]) (by as_aux_lemma => kernel_rfl) ⟨rfl, fun _ _ _ _ => rfl, rfl, fun _ _ _ _ => rfl, rfl, rfl, (wrap_nat (Int.ofNat_lt.1 (of_decide_eq_true c3)) (by omega)), trivial⟩
      · refine sk_leaf ?_
        obtain rfl := some_ h
        exact end_ok [] Try.results36 (ps := [true = true]) (by as_aux_lemma => kernel_rfl) ⟨rfl, trivial⟩ (fun _ => ⟨rfl, by simp⟩)

set_option maxRecDepth 100000 in
set_option maxHeartbeats 2000000 in
theorem slices_Grow_api_Sent_nil_calls (n : Nat) (hb : n * 24 ≤ 140737488355328) (hb2 : n ≤ 140737488355328) (w : World) : Calls Try.prog 52 #[.slice none 0 0, .int .i64 n] w fun ex w' => GrowPost 76 3 w ex w' := by
  obtain ⟨_, info, hi, hi1, hi2, hz, _⟩ := tabOk 76 _ tab_76
  have hi1 : info.size = 3 := hi1
  have hi2 : info.bytes = 24 := hi2
  obtain ⟨z, hz, hzs⟩ : ∃ z, info.zero = some z ∧ z.cells.size = 3 := ⟨_, hz, by kernel_rfl⟩
  have h1 : ¬ ((n : Int) < 0) := by omega
  have h2 : Go.RowKit.wrap64 (0 - 0 : Int) = 0 := by unfold Go.RowKit.wrap64; omega
  have h3 : Go.RowKit.wrap64 ((n : Int) - 0) = (n : Int) := by unfold Go.RowKit.wrap64; omega
  by_cases h0 : n = 0
  · subst h0
    go_enter Try.func52, Try.ntmps52
    go_wp2
    all_goals first | (go_ret; exact .inl ⟨rfl, rfl⟩) | skip
  · have hn : 0 < n := by omega
    have h4 : ((n : Int) > 0) := by omega
    have hrun := fun ty => Go.Lib.run_append_nil_zeros (P := Try.prog) w 26 3 ty 76 info z .i64 .i64 Try.underlying26 Try.underlying3 hi hz n hn (by rw [hi1]; decide) (by omega) (by rw [hi2]; omega)
    have hGn : n ≤ grownCap w n 0 76 := grownCap_ge w _ _ _
    have hG63 := grownCap_le_maxLen w n 0 76 (by unfold maxLen; omega)
    obtain ⟨G, hG⟩ : ∃ G, G = grownCap w n 0 76 := ⟨_, rfl⟩
    rw [← hG] at hrun hGn hG63
    obtain ⟨cur, hcur⟩ : ∃ cur, cur = Builtin.zeroCells z.cells n ++ Builtin.zeroCells z.cells (G - n) := ⟨_, rfl⟩
    rw [← hcur] at hrun
    have hsz : cur.size = G * 3 := by rw [hcur, Array.size_append, size_zeroCells, size_zeroCells, hzs, ← Nat.add_mul]; congr 1; omega
    clear hcur hG hi hz
    go_enter Try.func52, Try.ntmps52
    go_wp2_with (at_builtin; refine Go.Lib.wpList_append_run _ rfl _ _ _ _ rfl _ _ rfl rfl _ _ (hrun _) ?_)
    all_goals (go_ret; exact .inr ⟨G, cur, rfl, rfl, hsz, hG63⟩)
theorem slices_Grow_api_Sent_nil_ok (a0 : Int) (r : List Api_Sent) (h : slices_Grow_api_Sent_nil a0 = some r) {al : Bool} : PCalls Try.prog 52 [.pv (.raw (.slice none 0 0)), .pv (.raw (.int .i64 a0))] al (.row 0 3 0 r.length) [.row 76 3 (E76.cR r)] := by
  unfold slices_Grow_api_Sent_nil at h
  obtain ⟨g, h⟩ := if_ h
  obtain rfl := some_ h
  obtain ⟨n, rfl⟩ : ∃ n : Nat, a0 = n := ⟨a0.toNat, by omega⟩
  exact grow_pcalls ⟨_, Try.func52, by kernel_rfl, by kernel_rfl⟩ (E := E76) (by decide) (slices_Grow_api_Sent_nil_calls n (by omega) (by omega))

set_option maxHeartbeats 40000000 in
set_option maxRecDepth 100000 in
theorem slices_Concat_api_Sent_ok (a0 : (List (List Api_Sent))) (r : (List Api_Sent)) (h : slices_Concat_api_Sent a0 = some r) {al : Bool} : PCalls Try.prog 38 [.pv ((E26.ro a0))] al (.row 0 3 0 r.length) [.row 76 3 (E76.cR r)] := by
  unfold slices_Concat_api_Sent at h
  refine fn_ok tabOk Try.func38 (by as_aux_lemma => kernel_rfl) (by as_aux_lemma => kernel_rfl) Try.ntmps38 (by simp) ?_
  refine segs [] tabOk mixed 4000 (S := .leaf 0) (by as_aux_lemma => kernel_rfl) ?_
  refine sk_leaf ?_
  refine len_ro (by as_aux_lemma => kernel_rfl) 0 (s := 1) (n := a0.length) (c := fun i j => E26.cf (a0.getD i E26.z) j) (by as_aux_lemma => kernel_rfl) ?_; intro hl1_0
  refine len_ro (by as_aux_lemma => kernel_rfl) 9 (s := 1) (n := a0.length) (c := fun i j => E26.cf (a0.getD i E26.z) j) (by as_aux_lemma => kernel_rfl) ?_; intro hl1_1
  replace h : (fun (x : Nat × Int × Nat) => slices_Concat_api_Sent_l1 a0 x.1 x.2.1 x.2.2 = some r) (FUEL, 0, 0) := h
  refine loop_ok (by as_aux_lemma => kernel_rfl) (X := Nat × Int × Nat) (fun x => slices_Concat_api_Sent_l1 a0 x.1 x.2.1 x.2.2 = some r) (fun x => x.1) (fun x => mk 36 [(0, .pv ((E26.ro a0))), (2, .pv (.raw (.slice none 0 0))), (3, .pv (.raw (.int .i64 x.2.1))), (9, .pv ((E26.ro a0))), (10, .pv (.raw (.int .i64 ((a0.length : Nat) : Int)))), (11, .pv (.raw (.int .i64 ((x.2.2 : Nat) : Int))))] []) (FUEL, 0, 0) h ?_ ?_
  · exact sub_ok (ρ := []) (l := [a0.length = a0.length, ∀ i, i < a0.length → ∀ j, j < 1 → E26.cf (a0.getD i E26.z) j = E26.cf (a0.getD i E26.z) j, (0 : Int) = 0, a0.length = a0.length, ∀ i, i < a0.length → ∀ j, j < 1 → E26.cf (a0.getD i E26.z) j = E26.cf (a0.getD i E26.z) j, (((a0.length : Nat) : Int) : Int) = ((a0.length : Nat) : Int), (0 : Int) = ((0 : Nat) : Int)]) (by as_aux_lemma => kernel_rfl) ⟨rfl, fun _ _ _ _ => rfl, rfl, rfl, fun _ _ _ _ => rfl, rfl, (by first | rfl | simp), trivial⟩
  · clear h; rintro ⟨n1, x1, k2⟩ h p1 hp1
    obtain _ | n1 := n1
    · cases (show (none : Option ((List Api_Sent))) = some r from h)
    have h : slices_Concat_api_Sent_l1 a0 (n1 + 1) x1 k2 = some r := h
    unfold slices_Concat_api_Sent_l1 at h
    refine segs [] tabOk mixed 4000 (S := .br (decide ((((k2 : Nat) : Int) : Int) < ((a0.length : Nat) : Int))) (.and (0 ≤ (((k2 : Nat) : Int) : Int) ∧ ((k2 : Nat) : Int) < ((a0.length : Nat) : Int)) (.br (decide (((IntKind.i64.wrap (x1 + (((a0.getD k2 []).length : Nat) : Int))) : Int) < 0)) (.bad) (.leaf 0))) (.leaf 1)) (by as_aux_lemma => kernel_rfl) ?_
    refine br_ h ?_ ?_ <;> clear h <;> intro c3 h
    · refine sk_and ⟨Int.natCast_nonneg _, of_decide_eq_true c3⟩ ?_
      refine br_ h ?_ ?_ <;> clear h <;> intro c5 h
      · cases h
      · refine sk_leaf ?_
        refine back_ok (p := p1) (by as_aux_lemma => kernel_rfl) (hp1 (n1, (IntKind.i64.wrap (x1 + (((a0.getD k2 []).length : Nat) : Int))), k2 + 1) _ h (Nat.lt_succ_self n1) ?_)
        exact sub_ok (ρ := []) (l := [a0.length = a0.length, ∀ i, i < a0.length → ∀ j, j < 1 → E26.cf (a0.getD i E26.z) j = E26.cf (a0.getD i E26.z) j, ((IntKind.i64.wrap (x1 + (((a0.getD k2 []).length : Nat) : Int))) : Int) = (IntKind.i64.wrap (x1 + (((a0.getD k2 []).length : Nat) : Int))), a0.length = a0.length, ∀ i, i < a0.length → ∀ j, j < 1 → E26.cf (a0.getD i E26.z) j = E26.cf (a0.getD i E26.z) j, (((a0.length : Nat) : Int) : Int) = ((a0.length : Nat) : Int), ((IntKind.i64.wrap (((k2 : Nat) : Int) + 1)) : Int) = (((k2 + 1) : Nat) : Int)]) (by as_aux_lemma => kernel_rfl) ⟨rfl, fun _ _ _ _ => rfl, rfl, rfl, fun _ _ _ _ => rfl, rfl, (wrap_nat (Int.ofNat_lt.1 (of_decide_eq_true c3)) (by omega)), trivial⟩
    · refine sk_leaf ?_
      obtain ⟨r6, e7, h⟩ := bd_ h
      refine call_ok (d := some 24) (fn := 52) (ax := [.pv (.raw (.slice none 0 0)), .pv (.raw (.int .i64 x1))]) (args := [.pv (.raw (.slice none 0 0)), .pv (.raw (.int .i64 x1))]) (ps := [(x1 : Int) = x1]) (hb' := [.row 76 3 (E76.cR r6)]) (by as_aux_lemma => kernel_rfl) (slices_Grow_api_Sent_nil_ok _ _ e7 (al := true)) (by as_aux_lemma => kernel_rfl) ⟨rfl, trivial⟩ (fun _ => (by as_aux_lemma => kernel_rfl)) (by simp) (by simp only [List.map_cons, List.map_nil, Elem.row_up]) (by as_aux_lemma => kernel_rfl) ?_
      refine segs [] tabOk mixed 4000 (S := .leaf 0) (by as_aux_lemma => kernel_rfl) ?_
      refine sk_leaf ?_
      refine len_ro (by as_aux_lemma => kernel_rfl) 25 (s := 1) (n := a0.length) (c := fun i j => E26.cf (a0.getD i E26.z) j) (by as_aux_lemma => kernel_rfl) ?_; intro hl2_0
      refine len_row (by as_aux_lemma => kernel_rfl) 16768 (e := 76) (s := 3) (n := r6.length) (cs := E76.cR r6) (by as_aux_lemma => kernel_rfl) (Elem.cR_length _ _) ?_; intro hl2_1
      replace h : (fun (x : Nat × List Api_Sent × Nat) => slices_Concat_api_Sent_l2 a0 r6 x.1 x.2.1 x.2.2 = some r) (FUEL, r6, 0) := h
      refine loop_ok (by as_aux_lemma => kernel_rfl) (X := Nat × List Api_Sent × Nat) (fun x => slices_Concat_api_Sent_l2 a0 r6 x.1 x.2.1 x.2.2 = some r) (fun x => x.1) (fun x => mk 36 [(2, .pv (.raw (.slice none 0 0))), (6, .row 0 3 0 x.2.1.length), (25, .pv ((E26.ro a0))), (26, .pv (.raw (.int .i64 ((a0.length : Nat) : Int)))), (27, .pv (.raw (.int .i64 ((x.2.2 : Nat) : Int))))] [(0, .row 76 3 (E76.cR x.2.1))]) (FUEL, r6, 0) h ?_ ?_
      · exact sub_ok (ρ := [(0, some 16768)]) (l := [0 = 0, r6.length = r6.length, a0.length = a0.length, ∀ i, i < a0.length → ∀ j, j < 1 → E26.cf (a0.getD i E26.z) j = E26.cf (a0.getD i E26.z) j, (((a0.length : Nat) : Int) : Int) = ((a0.length : Nat) : Int), (0 : Int) = ((0 : Nat) : Int), E76.cR r6 = E76.cR r6, AllPv (E76.cR r6)]) (by as_aux_lemma => kernel_rfl) ⟨rfl, rfl, rfl, fun _ _ _ _ => rfl, rfl, (by first | rfl | simp), rfl, (Elem.cR_pv _ _), trivial⟩
      · clear h; rintro ⟨n2, l8, k9⟩ h p2 hp2
        obtain _ | n2 := n2
        · cases (show (none : Option ((List Api_Sent))) = some r from h)
        have h : slices_Concat_api_Sent_l2 a0 r6 (n2 + 1) l8 k9 = some r := h
        unfold slices_Concat_api_Sent_l2 at h
        refine segs [] tabOk mixed 4000 (S := .br (decide ((((k9 : Nat) : Int) : Int) < ((a0.length : Nat) : Int))) (.and (0 ≤ (((k9 : Nat) : Int) : Int) ∧ ((k9 : Nat) : Int) < ((a0.length : Nat) : Int)) (.leaf 0)) (.leaf 1)) (by as_aux_lemma => kernel_rfl) ?_
        refine br_ h ?_ ?_ <;> clear h <;> intro c10 h
        · refine sk_and ⟨Int.natCast_nonneg _, of_decide_eq_true c10⟩ ?_
          refine sk_leaf ?_
          obtain ⟨g12, h⟩ := if_ h
          refine app_ok (d := 33) (e := 76) (s := 3) (b := 24) (x := .row 0 3 0 l8.length) (y := .pv ((E76.ro (a0.getD k9 [])))) E76 (xs := l8) (ys := (a0.getD k9 [])) (by as_aux_lemma => kernel_rfl) rfl (.row 0 l8 l8.length rfl (by as_aux_lemma => kernel_rfl)) (.ro (a0.getD k9 [])) g12 (by as_aux_lemma => kernel_rfl) ?_
          refine segs [] tabOk mixed 4000 (S := .leaf 0) (by as_aux_lemma => kernel_rfl) ?_
          refine sk_leaf ?_
          refine back_ok (p := p2) (by as_aux_lemma => kernel_rfl) (hp2 (n2, (l8 ++ (a0.getD k9 [])), k9 + 1) _ h (Nat.lt_succ_self n2) ?_)
          exact sub_ok (ρ := [(0, some 16912)]) (l := [0 = 0, ((l8 ++ (a0.getD k9 [])).length) = ((l8 ++ (a0.getD k9 [])).length), a0.length = a0.length, ∀ i, i < a0.length → ∀ j, j < 1 → E26.cf (a0.getD i E26.z) j = E26.cf (a0.getD i E26.z) j, (((a0.length : Nat) : Int) : Int) = ((a0.length : Nat) : Int), ((IntKind.i64.wrap (((k9 : Nat) : Int) + 1)) : Int) = (((k9 + 1) : Nat) : Int), E76.cR (l8 ++ (a0.getD k9 [])) = E76.cR (l8 ++ (a0.getD k9 [])), AllPv (E76.cR (l8 ++ (a0.getD k9 [])))]) (by as_aux_lemma => kernel_rfl) ⟨rfl, rfl, rfl, fun _ _ _ _ => rfl, rfl, (wrap_nat (Int.ofNat_lt.1 (of_decide_eq_true c10)) (by omega)), rfl, (Elem.cR_pv _ _), trivial⟩
        · refine sk_leaf ?_
          obtain rfl := some_ h
          exact end_ok [(0, some 0)] Try.results38 (ps := [0 = 0, l8.length = l8.length, E76.cR l8 = E76.cR l8, AllPv (E76.cR l8)]) (by as_aux_lemma => kernel_rfl) ⟨rfl, (by first | rfl | simp), rfl, (Elem.cR_pv _ _), trivial⟩ (fun _ => ⟨rfl, by simp only [List.mem_cons, List.not_mem_nil, or_false, forall_eq_or_imp, forall_eq]; exact Elem.cR_bald E76_raw _⟩)

set_option maxHeartbeats 40000000 in
set_option maxRecDepth 100000 in
theorem keep_LineParts_ok (a0 : (List Api_Pin)) (a1 : (List Api_PinOp)) (a2 : (List Api_PinOp)) (r : Bool) (h : keep_LineParts a0 a1 a2 = some r) {al : Bool} : PCalls Try.prog 13 [.pv ((E31.ro a0)), .pv ((E24.ro a1)), .pv ((E24.ro a2))] al (.pv (.raw (.bool r))) [] := by
  unfold keep_LineParts at h
  refine fn_ok tabOk Try.func13 (by as_aux_lemma => kernel_rfl) (by as_aux_lemma => kernel_rfl) Try.ntmps13 (by simp) ?_
  refine segs [] tabOk mixed 4000 (S := .leaf 0) (by as_aux_lemma => kernel_rfl) ?_
  refine sk_leaf ?_
  obtain ⟨r1, e2, h⟩ := bd_ h
  refine call_ok (d := some 16) (fn := 15) (ax := []) (args := []) (ps := []) (hb' := []) (by as_aux_lemma => kernel_rfl) (keep_alive3_ok  _ e2 (al := true)) (by as_aux_lemma => kernel_rfl) trivial (fun _ => (by as_aux_lemma => kernel_rfl)) (by simp) rfl (by as_aux_lemma => kernel_rfl) ?_
  refine segs [] tabOk mixed 4000 (S := .br (!r1) (.leaf 0) (.leaf 1)) (by as_aux_lemma => kernel_rfl) ?_
  refine br_ h ?_ ?_ <;> clear h <;> intro c3 h
  · refine sk_leaf ?_
    obtain rfl := some_ h
    exact end_ok [] Try.results13 (ps := [false = false]) (by as_aux_lemma => kernel_rfl) ⟨rfl, trivial⟩ (fun _ => ⟨rfl, by simp⟩)
  · refine sk_leaf ?_
    obtain ⟨r4, e5, h⟩ := bd_ h
    refine callF_ok (d := some 21) (fn := 34) (ax := [.pv ((E31.ro a0)), .pv ((E24.ro a1))]) (args := [.pv ((E31.ro a0)), .pv ((E24.ro a1))]) (ps := [a0.length = a0.length, ∀ i, i < a0.length → ∀ j, j < 7 → E31.cf (a0.getD i E31.z) j = E31.cf (a0.getD i E31.z) j, a1.length = a1.length, ∀ i, i < a1.length → ∀ j, j < 2 → E24.cf (a1.getD i E24.z) j = E24.cf (a1.getD i E24.z) j]) (hb' := [.row 31 7 (E31.cR r4.1), .row 76 3 (E76.cR r4.2.1)]) (ps2 := [r4.1.length = r4.1.length, rowQ (E31.cR r4.1) 7 0 r4.1.length (fun i j => E31.cf (r4.1.getD i E31.z) j), r4.2.1.length = r4.2.1.length, rowQ (E76.cR r4.2.1) 3 0 r4.2.1.length (fun i j => E76.cf (r4.2.1.getD i E76.z) j), (r4.2.2 : Int) = r4.2.2]) (.tup [.pv ((E31.ro r4.1)), .pv ((E76.ro r4.2.1)), .pv (.raw (.int .i64 r4.2.2))]) (by as_aux_lemma => kernel_rfl) (line_Play_ok _ _ _ e5 (al := true)) (by as_aux_lemma => kernel_rfl) ⟨rfl, fun _ _ _ _ => rfl, rfl, fun _ _ _ _ => rfl, trivial⟩ (fun _ => (by as_aux_lemma => kernel_rfl)) (by simp) (by simp only [List.map_cons, List.map_nil, Elem.row_up]) (by as_aux_lemma => kernel_rfl) (by as_aux_lemma => kernel_rfl) ⟨(by first | rfl | exact Elem.sub_len _ (by omega) | simp | (simp <;> omega)), E31.rowQ_all r4.1 rfl, (by first | rfl | exact Elem.sub_len _ (by omega) | simp | (simp <;> omega)), E76.rowQ_all r4.2.1 rfl, rfl, trivial⟩ ?_
    refine segs [] tabOk mixed 4000 (S := .leaf 0) (by as_aux_lemma => kernel_rfl) ?_
    refine sk_leaf ?_
    obtain ⟨r6, e7, h⟩ := bd_ h
    refine callF_ok (d := some 28) (fn := 34) (ax := [.pv ((E31.ro r4.1)), .pv ((E24.ro a2))]) (args := [.pv ((E31.ro r4.1)), .pv ((E24.ro a2))]) (ps := [r4.1.length = r4.1.length, ∀ i, i < r4.1.length → ∀ j, j < 7 → E31.cf (r4.1.getD i E31.z) j = E31.cf (r4.1.getD i E31.z) j, a2.length = a2.length, ∀ i, i < a2.length → ∀ j, j < 2 → E24.cf (a2.getD i E24.z) j = E24.cf (a2.getD i E24.z) j]) (hb' := [.row 31 7 (E31.cR r6.1), .row 76 3 (E76.cR r6.2.1)]) (ps2 := [r6.1.length = r6.1.length, rowQ (E31.cR r6.1) 7 0 r6.1.length (fun i j => E31.cf (r6.1.getD i E31.z) j), r6.2.1.length = r6.2.1.length, rowQ (E76.cR r6.2.1) 3 0 r6.2.1.length (fun i j => E76.cf (r6.2.1.getD i E76.z) j), (r6.2.2 : Int) = r6.2.2]) (.tup [.pv ((E31.ro r6.1)), .pv ((E76.ro r6.2.1)), .pv (.raw (.int .i64 r6.2.2))]) (by as_aux_lemma => kernel_rfl) (line_Play_ok _ _ _ e7 (al := true)) (by as_aux_lemma => kernel_rfl) ⟨rfl, fun _ _ _ _ => rfl, rfl, fun _ _ _ _ => rfl, trivial⟩ (fun _ => (by as_aux_lemma => kernel_rfl)) (by simp) (by simp only [List.map_cons, List.map_nil, Elem.row_up]) (by as_aux_lemma => kernel_rfl) (by as_aux_lemma => kernel_rfl) ⟨(by first | rfl | exact Elem.sub_len _ (by omega) | simp | (simp <;> omega)), E31.rowQ_all r6.1 rfl, (by first | rfl | exact Elem.sub_len _ (by omega) | simp | (simp <;> omega)), E76.rowQ_all r6.2.1 rfl, rfl, trivial⟩ ?_
    refine segs [] tabOk mixed 4000 (S := .leaf 0) (by as_aux_lemma => kernel_rfl) ?_
    refine sk_leaf ?_
    refine bs_ok (d := 36) (e := 34) (s := 1) (n := 2) (cs := [.pv ((E24.ro a1)), .pv ((E24.ro a2))]) (cs' := E34.cR [a1, a2]) (by as_aux_lemma => kernel_rfl) rfl (by as_aux_lemma => kernel_rfl) ?_
    refine segs [] tabOk mixed 4000 (S := .leaf 0) (by as_aux_lemma => kernel_rfl) ?_
    refine sk_leaf ?_
    obtain ⟨r8, e9, h⟩ := bd_ h
    refine call_ok (d := some 37) (fn := 35) (ax := [.row 16960 1 0 2]) (args := [.pv ((E34.ro [a1, a2]))]) (ps := [2 = [a1, a2].length, rowQ (E34.cR [a1, a2]) 1 0 2 (fun i j => E34.cf ([a1, a2].getD i E34.z) j)]) (hb' := [.row 24 2 (E24.cR r8)]) (by as_aux_lemma => kernel_rfl) (slices_Concat_api_PinOp_ok _ _ e9 (al := false)) (by as_aux_lemma => kernel_rfl) ⟨(by first | rfl | exact Elem.sub_len _ (by omega) | simp | (simp <;> omega)), E34.rowQ_all [a1, a2] rfl, trivial⟩ (fun hx => by cases hx) (by simp) (by simp only [List.map_cons, List.map_nil, Elem.row_up]) (by as_aux_lemma => kernel_rfl) ?_
    refine segs [] tabOk mixed 4000 (S := .leaf 0) (by as_aux_lemma => kernel_rfl) ?_
    refine sk_leaf ?_
    obtain ⟨r10, e11, h⟩ := bd_ h
    refine call_ok (d := some 38) (fn := 34) (ax := [.pv ((E31.ro a0)), .row 16976 2 0 r8.length]) (args := [.pv ((E31.ro a0)), .pv ((E24.ro r8))]) (ps := [a0.length = a0.length, ∀ i, i < a0.length → ∀ j, j < 7 → E31.cf (a0.getD i E31.z) j = E31.cf (a0.getD i E31.z) j, r8.length = r8.length, rowQ (E24.cR r8) 2 0 r8.length (fun i j => E24.cf (r8.getD i E24.z) j)]) (hb' := [.row 31 7 (E31.cR r10.1), .row 76 3 (E76.cR r10.2.1)]) (by as_aux_lemma => kernel_rfl) (line_Play_ok _ _ _ e11 (al := false)) (by as_aux_lemma => kernel_rfl) ⟨rfl, fun _ _ _ _ => rfl, (by first | rfl | exact Elem.sub_len _ (by omega) | simp | (simp <;> omega)), E24.rowQ_all r8 rfl, trivial⟩ (fun hx => by cases hx) (by simp) (by simp only [List.map_cons, List.map_nil, Elem.row_up]) (by as_aux_lemma => kernel_rfl) ?_
    refine segs [] tabOk mixed 4000 (S := .br ((r4.2.2 : Int) != 0) (.leaf 0) (.and ((((r6.2.2 : Int) == 0) = true → (((r6.2.2 : Int) == 0) = true))) (.and (((r6.2.2 : Int) == 0) = true → ((r6.2.2 : Int) == 0) = true) (.leaf 1)))) (by as_aux_lemma => kernel_rfl) ?_
    refine br_ h ?_ ?_ <;> clear h <;> intro c12 h
    · refine sk_leaf ?_
      obtain rfl := some_ h
      exact end_ok [] Try.results13 (ps := [((r10.2.2 : Int) == r4.2.2) = ((r10.2.2 : Int) == r4.2.2)]) (by as_aux_lemma => kernel_rfl) ⟨rfl, trivial⟩ (fun _ => ⟨rfl, by simp⟩)
    · refine sk_and ((by decide : ∀ y0 : Bool, ((y0 = true) → (y0 = true))) ((r6.2.2 : Int) == 0)) ?_
      refine sk_and ((by decide : ∀ y0 : Bool, ((y0 = true) → (y0 = true))) ((r6.2.2 : Int) == 0)) ?_
      refine sk_leaf ?_
      obtain ⟨r15, e16, h⟩ := bd_ h
      refine callG_ok (d := some 56) (fn := 36) (ax := [.row 16992 7 0 r10.1.length, .pv ((E31.ro r6.1))]) (args := [.pv ((E31.ro r10.1)), .pv ((E31.ro r6.1))]) (g := (((r6.2.2 : Int) == 0) && ((r10.2.2 : Int) == 0))) (ws := [(((r6.2.2 : Int) == 0) && ((r10.2.2 : Int) == 0)) = true, (((r6.2.2 : Int) == 0) && ((r10.2.2 : Int) == 0)) = true]) (ps := [r10.1.length = r10.1.length, rowQ (E31.cR r10.1) 7 0 r10.1.length (fun i j => E31.cf (r10.1.getD i E31.z) j), r6.1.length = r6.1.length, ∀ i, i < r6.1.length → ∀ j, j < 7 → E31.cf (r6.1.getD i E31.z) j = E31.cf (r6.1.getD i E31.z) j]) (by as_aux_lemma => kernel_rfl) (fun hg => ⟨((by decide : ∀ y0 y1 : Bool, (((y0 && y1) = true) → ((y0 && y1) = true))) ((r6.2.2 : Int) == 0) ((r10.2.2 : Int) == 0)) hg, ((by decide : ∀ y0 y1 : Bool, (((y0 && y1) = true) → ((y0 && y1) = true))) ((r6.2.2 : Int) == 0) ((r10.2.2 : Int) == 0)) hg, trivial⟩) (fun hg => slices_Equal_api_Pin_ok _ _ _ (by rw [hg] at e16; exact e16) (al := false)) (by as_aux_lemma => kernel_rfl) (fun hg => ⟨(by first | rfl | exact Elem.sub_len _ (by omega) | simp | (simp <;> omega)), E31.rowQ_all r10.1 rfl, rfl, fun _ _ _ _ => rfl, trivial⟩) (fun hx => by cases hx) ?_
      refine segs [] tabOk mixed 4000 (S := .and ((((r6.2.2 : Int) == 0) && ((r10.2.2 : Int) == 0)) = true → (((r6.2.2 : Int) == 0) && ((r10.2.2 : Int) == 0)) = true) (.leaf 0)) (by as_aux_lemma => kernel_rfl) ?_
      refine sk_and ((by decide : ∀ y0 y1 : Bool, (((y0 && y1) = true) → ((y0 && y1) = true))) ((r6.2.2 : Int) == 0) ((r10.2.2 : Int) == 0)) ?_
      refine sk_leaf ?_
      refine bsG_ok (d := 62) (e := 26) (s := 1) (n := 2) (g := ((((r6.2.2 : Int) == 0) && ((r10.2.2 : Int) == 0)) && r15)) (ws := [((((r6.2.2 : Int) == 0) && ((r10.2.2 : Int) == 0)) && r15) = true, ((((r6.2.2 : Int) == 0) && ((r10.2.2 : Int) == 0)) && r15) = true]) (cs := [.pv ((E76.ro r4.2.1)), .pv ((E76.ro r6.2.1))]) E26 [r4.2.1, r6.2.1] (by as_aux_lemma => kernel_rfl) (fun hg => ⟨((by decide : ∀ y0 y1 y2 : Bool, ((((y0 && y1) && y2) = true) → (((y0 && y1) && y2) = true))) ((r6.2.2 : Int) == 0) ((r10.2.2 : Int) == 0) r15) hg, ((by decide : ∀ y0 y1 y2 : Bool, ((((y0 && y1) && y2) = true) → (((y0 && y1) && y2) = true))) ((r6.2.2 : Int) == 0) ((r10.2.2 : Int) == 0) r15) hg, trivial⟩) rfl rfl rfl (by as_aux_lemma => kernel_rfl) ?_
      refine segs [] tabOk mixed 4000 (S := .leaf 0) (by as_aux_lemma => kernel_rfl) ?_
      refine sk_leaf ?_
      obtain ⟨r18, e19, h⟩ := bd_ h
      refine callG_ok (d := some 63) (fn := 38) (ax := [.pv ((E26.ro [r4.2.1, r6.2.1]))]) (args := [.pv ((E26.ro [r4.2.1, r6.2.1]))]) (g := ((((r6.2.2 : Int) == 0) && ((r10.2.2 : Int) == 0)) && r15)) (ws := [((((r6.2.2 : Int) == 0) && ((r10.2.2 : Int) == 0)) && r15) = true]) (ps := [[r4.2.1, r6.2.1].length = [r4.2.1, r6.2.1].length, ∀ i, i < [r4.2.1, r6.2.1].length → ∀ j, j < 1 → E26.cf ([r4.2.1, r6.2.1].getD i E26.z) j = E26.cf ([r4.2.1, r6.2.1].getD i E26.z) j]) (by as_aux_lemma => kernel_rfl) (fun hg => ⟨((by decide : ∀ y0 y1 y2 : Bool, ((((y0 && y1) && y2) = true) → (((y0 && y1) && y2) = true))) ((r6.2.2 : Int) == 0) ((r10.2.2 : Int) == 0) r15) hg, trivial⟩) (fun hg => (slices_Concat_api_Sent_ok _ _ (by rw [hg] at e19; exact e19) (al := true)).data (v := (.pv ((E76.ro r18)))) (ps := [r18.length = r18.length, rowQ (E76.cR r18) 3 0 r18.length (fun i j => E76.cf (r18.getD i E76.z) j)]) (by as_aux_lemma => kernel_rfl) ⟨(by first | rfl | exact Elem.sub_len _ (by omega) | simp | (simp <;> omega)), E76.rowQ_all r18 rfl, trivial⟩) (by as_aux_lemma => kernel_rfl) (fun hg => ⟨rfl, fun _ _ _ _ => rfl, trivial⟩) (fun _ => (by as_aux_lemma => kernel_rfl)) ?_
      refine segs [] tabOk mixed 4000 (S := .leaf 0) (by as_aux_lemma => kernel_rfl) ?_
      refine sk_leaf ?_
      obtain ⟨r20, e21, h⟩ := bd_ h
      refine callG_ok (d := some 64) (fn := 37) (ax := [.row 16993 3 0 r10.2.1.length, .pv ((E76.ro r18))]) (args := [.pv ((E76.ro r10.2.1)), .pv ((E76.ro r18))]) (g := ((((r6.2.2 : Int) == 0) && ((r10.2.2 : Int) == 0)) && r15)) (ws := [((((r6.2.2 : Int) == 0) && ((r10.2.2 : Int) == 0)) && r15) = true, ((((r6.2.2 : Int) == 0) && ((r10.2.2 : Int) == 0)) && r15) = true]) (ps := [r10.2.1.length = r10.2.1.length, rowQ (E76.cR r10.2.1) 3 0 r10.2.1.length (fun i j => E76.cf (r10.2.1.getD i E76.z) j), r18.length = r18.length, ∀ i, i < r18.length → ∀ j, j < 3 → E76.cf (r18.getD i E76.z) j = E76.cf (r18.getD i E76.z) j]) (by as_aux_lemma => kernel_rfl) (fun hg => ⟨((by decide : ∀ y0 y1 y2 : Bool, ((((y0 && y1) && y2) = true) → (((y0 && y1) && y2) = true))) ((r6.2.2 : Int) == 0) ((r10.2.2 : Int) == 0) r15) hg, ((by decide : ∀ y0 y1 y2 : Bool, ((((y0 && y1) && y2) = true) → (((y0 && y1) && y2) = true))) ((r6.2.2 : Int) == 0) ((r10.2.2 : Int) == 0) r15) hg, trivial⟩) (fun hg => slices_Equal_api_Sent_ok _ _ _ (by rw [hg] at e21; exact e21) (al := false)) (by as_aux_lemma => kernel_rfl) (fun hg => ⟨(by first | rfl | exact Elem.sub_len _ (by omega) | simp | (simp <;> omega)), E76.rowQ_all r10.2.1 rfl, rfl, fun _ _ _ _ => rfl, trivial⟩) (fun hx => by cases hx) ?_
      refine segs [] tabOk mixed 4000 (S := .and (((((r6.2.2 : Int) == 0) && ((r10.2.2 : Int) == 0)) && r15) = true → ((((r6.2.2 : Int) == 0) && ((r10.2.2 : Int) == 0)) && r15) = true) (.leaf 0)) (by as_aux_lemma => kernel_rfl) ?_
      refine sk_and ((by decide : ∀ y0 y1 y2 : Bool, ((((y0 && y1) && y2) = true) → (((y0 && y1) && y2) = true))) ((r6.2.2 : Int) == 0) ((r10.2.2 : Int) == 0) r15) ?_
      refine sk_leaf ?_
      obtain rfl := some_ h
      exact end_ok [] Try.results13 (ps := [(((((r6.2.2 : Int) == 0) && ((r10.2.2 : Int) == 0)) && r15) && r20) = (((((r6.2.2 : Int) == 0) && ((r10.2.2 : Int) == 0)) && r15) && r20)]) (by as_aux_lemma => kernel_rfl) ⟨rfl, trivial⟩ (fun _ => ⟨rfl, by simp⟩)

end Go.Proofs.Ytaadkjlooehhnaa
