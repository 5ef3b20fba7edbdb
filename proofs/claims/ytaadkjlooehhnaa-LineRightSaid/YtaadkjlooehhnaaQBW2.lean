/- The functions do as their models: printed by program. -/
import Derived.Test.YtaadkjlooehhnaaQBW1
set_option linter.unusedSimpArgs false
set_option linter.unusedVariables false
namespace Go.Proofs.Ytaadkjlooehhnaa
open Go Go.Ab
attribute [local irreducible] V VS runS Sk.Holds

set_option maxHeartbeats 40000000 in
set_option maxRecDepth 100000 in
theorem line_Play_ok (a0 : (List Api_Pin)) (a1 : (List Api_PinOp)) (r : (List Api_Pin) × (List Api_Sent) × Int) (h : line_Play a0 a1 = some r) {al : Bool} : PCalls Try.prog 34 [.pv ((E31.ro a0)), .pv ((E24.ro a1))] al (.tup [.row 0 7 0 r.1.length, .row 1 3 0 r.2.1.length, .pv (.raw (.int .i64 r.2.2))]) [.row 31 7 (E31.cR r.1), .row 76 3 (E76.cR r.2.1)] := by
  unfold line_Play at h
  refine fn_ok tabOk Try.func34 (by as_aux_lemma => kernel_rfl) (by as_aux_lemma => kernel_rfl) Try.ntmps34 (by simp) ?_
  refine segs [] tabOk mixed 4000 (S := .leaf 0) (by as_aux_lemma => kernel_rfl) ?_
  refine sk_leaf ?_
  obtain ⟨r1, e2, h⟩ := bd_ h
  refine call_ok (d := some 14) (fn := 17) (ax := [.pv ((E31.ro a0))]) (args := [.pv ((E31.ro a0))]) (ps := [a0.length = a0.length, ∀ i, i < a0.length → ∀ j, j < 7 → E31.cf (a0.getD i E31.z) j = E31.cf (a0.getD i E31.z) j]) (hb' := []) (by as_aux_lemma => kernel_rfl) (line_Right_ok _ _ e2 (al := true)) (by as_aux_lemma => kernel_rfl) ⟨rfl, fun _ _ _ _ => rfl, trivial⟩ (fun _ => (by as_aux_lemma => kernel_rfl)) (by simp) rfl (by as_aux_lemma => kernel_rfl) ?_
  refine segs [] tabOk mixed 4000 (S := .br (!r1) (.leaf 0) (.leaf 1)) (by as_aux_lemma => kernel_rfl) ?_
  refine br_ h ?_ ?_ <;> clear h <;> intro c3 h
  · refine sk_leaf ?_
    obtain rfl := some_ h
    exact end_ok [(0, none), (1, none)] Try.results34 (ps := [0 = 0, ([] : List Api_Pin).length = 0, 0 = 0, ([] : List Api_Sent).length = 0, (1 : Int) = 1, E31.cR [] = [], E76.cR [] = []]) (by as_aux_lemma => kernel_rfl) ⟨rfl, rfl, rfl, rfl, rfl, rfl, rfl, trivial⟩ (fun _ => ⟨rfl, by simp only [List.mem_cons, List.not_mem_nil, or_false, forall_eq_or_imp, forall_eq]; exact ⟨Elem.cR_bald E31_raw _, Elem.cR_bald E76_raw _⟩⟩)
  · refine sk_leaf ?_
    refine len_ro (by as_aux_lemma => kernel_rfl) 0 (s := 7) (n := a0.length) (c := fun i j => E31.cf (a0.getD i E31.z) j) (by as_aux_lemma => kernel_rfl) ?_; intro hl1_0
    refine len_ro (by as_aux_lemma => kernel_rfl) 16 (s := 2) (n := a1.length) (c := fun i j => E24.cf (a1.getD i E24.z) j) (by as_aux_lemma => kernel_rfl) ?_; intro hl1_1
    replace h : (fun (x : Nat × List Api_Pin × List Api_Sent × Nat) => line_Play_l1 a0 a1 x.1 x.2.1 x.2.2.1 x.2.2.2 = some r) (FUEL, a0, ([] : List Api_Sent), 0) := h
    refine loop_ok (by as_aux_lemma => kernel_rfl) (X := Nat × List Api_Pin × List Api_Sent × Nat) (fun x => line_Play_l1 a0 a1 x.1 x.2.1 x.2.2.1 x.2.2.2 = some r) (fun x => x.1) (fun x => mk 39 [(0, .pv ((E31.ro x.2.1))), (4, .pv (.raw (.slice none 0 0))), (5, .pv (.raw (.slice none 0 0))), (6, .pv (.raw (.int .i64 0))), (7, .row 0 3 0 x.2.2.1.length), (16, .pv ((E24.ro a1))), (17, .pv (.raw (.int .i64 ((a1.length : Nat) : Int)))), (18, .pv (.raw (.int .i64 ((x.2.2.2 : Nat) : Int))))] [(0, .row 76 3 (E76.cR x.2.2.1))]) (FUEL, a0, ([] : List Api_Sent), 0) h ?_ ?_
    · exact sub_ok (ρ := [(0, none)]) (l := [a0.length = a0.length, ∀ i, i < a0.length → ∀ j, j < 7 → E31.cf (a0.getD i E31.z) j = E31.cf (a0.getD i E31.z) j, (0 : Int) = 0, 0 = 0, (([] : List Api_Sent).length) = 0, a1.length = a1.length, ∀ i, i < a1.length → ∀ j, j < 2 → E24.cf (a1.getD i E24.z) j = E24.cf (a1.getD i E24.z) j, (((a1.length : Nat) : Int) : Int) = ((a1.length : Nat) : Int), (0 : Int) = ((0 : Nat) : Int), E76.cR ([] : List Api_Sent) = []]) (by as_aux_lemma => kernel_rfl) ⟨rfl, fun _ _ _ _ => rfl, rfl, rfl, (by first | rfl | simp), rfl, fun _ _ _ _ => rfl, rfl, (by first | rfl | simp), rfl, trivial⟩
    · clear h; rintro ⟨n1, l4, l5, k6⟩ h p1 hp1
      obtain _ | n1 := n1
      · cases (show (none : Option ((List Api_Pin) × (List Api_Sent) × Int)) = some r from h)
      have h : line_Play_l1 a0 a1 (n1 + 1) l4 l5 k6 = some r := h
      unfold line_Play_l1 at h
      refine segs [] tabOk mixed 4000 (S := .br (decide ((((k6 : Nat) : Int) : Int) < ((a1.length : Nat) : Int))) (.and (0 ≤ (((k6 : Nat) : Int) : Int) ∧ ((k6 : Nat) : Int) < ((a1.length : Nat) : Int)) (.leaf 0)) (.leaf 1)) (by as_aux_lemma => kernel_rfl) ?_
      refine br_ h ?_ ?_ <;> clear h <;> intro c7 h
      · refine sk_and ⟨Int.natCast_nonneg _, of_decide_eq_true c7⟩ ?_
        refine sk_leaf ?_
        obtain ⟨r9, e10, h⟩ := bd_ h
        refine call_ok (d := some 25) (fn := 16) (ax := [.pv ((E31.ro l4)), .agg [.pv (.raw (.int .i64 ((a1.getD k6 (⟨0, 0⟩ : Api_PinOp)).Kind))), .pv (.raw (.int .i64 ((a1.getD k6 (⟨0, 0⟩ : Api_PinOp)).Pin)))]]) (args := [.pv ((E31.ro l4)), .agg [.pv (.raw (.int .i64 ((a1.getD k6 (⟨0, 0⟩ : Api_PinOp)).Kind))), .pv (.raw (.int .i64 ((a1.getD k6 (⟨0, 0⟩ : Api_PinOp)).Pin)))]]) (ps := [l4.length = l4.length, ∀ i, i < l4.length → ∀ j, j < 7 → E31.cf (l4.getD i E31.z) j = E31.cf (l4.getD i E31.z) j, ((a1.getD k6 (⟨0, 0⟩ : Api_PinOp)).Kind : Int) = ((a1.getD k6 (⟨0, 0⟩ : Api_PinOp)).Kind), ((a1.getD k6 (⟨0, 0⟩ : Api_PinOp)).Pin : Int) = ((a1.getD k6 (⟨0, 0⟩ : Api_PinOp)).Pin)]) (hb' := [.row 31 7 (E31.cR r9.1), .row 76 3 (E76.cR r9.2.1)]) (by as_aux_lemma => kernel_rfl) (line_Step_ok _ _ _ e10 (al := true)) (by as_aux_lemma => kernel_rfl) ⟨rfl, fun _ _ _ _ => rfl, rfl, rfl, trivial⟩ (fun _ => (by as_aux_lemma => kernel_rfl)) (by simp) (by simp only [List.map_cons, List.map_nil, Elem.row_up]) (by as_aux_lemma => kernel_rfl) ?_
        refine segs [] tabOk mixed 4000 (S := .br ((r9.2.2 : Int) == 0) (.leaf 0) (.leaf 1)) (by as_aux_lemma => kernel_rfl) ?_
        refine br_ h ?_ ?_ <;> clear h <;> intro c11 h
        · refine sk_leaf ?_
          obtain ⟨g12, h⟩ := if_ h
          refine app_ok (d := 34) (e := 76) (s := 3) (b := 24) (x := .row 0 3 0 l5.length) (y := .row 16785 3 0 r9.2.1.length) E76 (xs := l5) (ys := r9.2.1) (by as_aux_lemma => kernel_rfl) rfl (.row 0 l5 l5.length rfl (by as_aux_lemma => kernel_rfl)) (.all 16785 76 r9.2.1 r9.2.1.length rfl (by as_aux_lemma => kernel_rfl)) g12 (by as_aux_lemma => kernel_rfl) ?_
          refine segs [] tabOk mixed 4000 (S := .leaf 0) (by as_aux_lemma => kernel_rfl) ?_
          refine sk_leaf ?_
          refine back_ok (p := p1) (by as_aux_lemma => kernel_rfl) (hp1 (n1, r9.1, (l5 ++ r9.2.1), k6 + 1) _ h (Nat.lt_succ_self n1) ?_)
          exact sub_ok (ρ := [(0, some 16928)]) (l := [r9.1.length = r9.1.length, rowQ (E31.cR r9.1) 7 0 r9.1.length (fun i j => E31.cf (r9.1.getD i E31.z) j), (0 : Int) = 0, 0 = 0, ((l5 ++ r9.2.1).length) = ((l5 ++ r9.2.1).length), a1.length = a1.length, ∀ i, i < a1.length → ∀ j, j < 2 → E24.cf (a1.getD i E24.z) j = E24.cf (a1.getD i E24.z) j, (((a1.length : Nat) : Int) : Int) = ((a1.length : Nat) : Int), ((IntKind.i64.wrap (((k6 : Nat) : Int) + 1)) : Int) = (((k6 + 1) : Nat) : Int), E76.cR (l5 ++ r9.2.1) = E76.cR (l5 ++ r9.2.1), AllPv (E76.cR (l5 ++ r9.2.1))]) (by as_aux_lemma => kernel_rfl) ⟨(by first | rfl | exact Elem.sub_len _ (by omega) | simp | (simp <;> omega)), E31.rowQ_all r9.1 rfl, rfl, rfl, rfl, rfl, fun _ _ _ _ => rfl, rfl, (wrap_nat (Int.ofNat_lt.1 (of_decide_eq_true c7)) (by omega)), rfl, (Elem.cR_pv _ _), trivial⟩
        · refine sk_leaf ?_
          refine back_ok (p := p1) (by as_aux_lemma => kernel_rfl) (hp1 (n1, l4, l5, k6 + 1) _ h (Nat.lt_succ_self n1) ?_)
          exact sub_ok (ρ := [(0, some 0)]) (l := [l4.length = l4.length, ∀ i, i < l4.length → ∀ j, j < 7 → E31.cf (l4.getD i E31.z) j = E31.cf (l4.getD i E31.z) j, (0 : Int) = 0, 0 = 0, l5.length = l5.length, a1.length = a1.length, ∀ i, i < a1.length → ∀ j, j < 2 → E24.cf (a1.getD i E24.z) j = E24.cf (a1.getD i E24.z) j, (((a1.length : Nat) : Int) : Int) = ((a1.length : Nat) : Int), ((IntKind.i64.wrap (((k6 : Nat) : Int) + 1)) : Int) = (((k6 + 1) : Nat) : Int), E76.cR l5 = E76.cR l5, AllPv (E76.cR l5)]) (by as_aux_lemma => kernel_rfl) ⟨rfl, fun _ _ _ _ => rfl, rfl, rfl, rfl, rfl, fun _ _ _ _ => rfl, rfl, (wrap_nat (Int.ofNat_lt.1 (of_decide_eq_true c7)) (by omega)), rfl, (Elem.cR_pv _ _), trivial⟩
      · refine sk_leaf ?_
        obtain ⟨r13, e14, h⟩ := bd_ h
        refine call_ok (d := some 37) (fn := 41) (ax := [.pv ((E31.ro l4))]) (args := [.pv ((E31.ro l4))]) (ps := [l4.length = l4.length, ∀ i, i < l4.length → ∀ j, j < 7 → E31.cf (l4.getD i E31.z) j = E31.cf (l4.getD i E31.z) j]) (hb' := [.row 31 7 (E31.cR r13)]) (by as_aux_lemma => kernel_rfl) (slices_Clone_api_Pin_ok _ _ e14 (al := true)) (by as_aux_lemma => kernel_rfl) ⟨rfl, fun _ _ _ _ => rfl, trivial⟩ (fun _ => (by as_aux_lemma => kernel_rfl)) (by simp) (by simp only [List.map_cons, List.map_nil, Elem.row_up]) (by as_aux_lemma => kernel_rfl) ?_
        refine segs [] tabOk mixed 4000 (S := .leaf 0) (by as_aux_lemma => kernel_rfl) ?_
        refine sk_leaf ?_
        obtain rfl := some_ h
        exact end_ok [(0, some 16976), (1, some 0)] Try.results34 (ps := [0 = 0, r13.length = r13.length, 0 = 0, l5.length = l5.length, (0 : Int) = 0, E31.cR r13 = E31.cR r13, AllPv (E31.cR r13), E76.cR l5 = E76.cR l5, AllPv (E76.cR l5)]) (by as_aux_lemma => kernel_rfl) ⟨rfl, (by first | rfl | simp), rfl, (by first | rfl | simp), rfl, rfl, (Elem.cR_pv _ _), rfl, (Elem.cR_pv _ _), trivial⟩ (fun _ => ⟨rfl, by simp only [List.mem_cons, List.not_mem_nil, or_false, forall_eq_or_imp, forall_eq]; exact ⟨Elem.cR_bald E31_raw _, Elem.cR_bald E76_raw _⟩⟩)

set_option maxHeartbeats 40000000 in
set_option maxRecDepth 100000 in
theorem slices_Equal_api_Sent_ok (a0 : (List Api_Sent)) (a1 : (List Api_Sent)) (r : Bool) (h : slices_Equal_api_Sent a0 a1 = some r) {al : Bool} : PCalls Try.prog 37 [.pv ((E76.ro a0)), .pv ((E76.ro a1))] al (.pv (.raw (.bool r))) [] := by
  unfold slices_Equal_api_Sent at h
  refine fn_ok tabOk Try.func37 (by as_aux_lemma => kernel_rfl) (by as_aux_lemma => kernel_rfl) Try.ntmps37 (by simp) ?_
  refine segs [] tabOk mixed 4000 (S := .br ((((a0.length : Nat) : Int) : Int) != ((a1.length : Nat) : Int)) (.leaf 0) (.leaf 1)) (by as_aux_lemma => kernel_rfl) ?_
  refine br_ h ?_ ?_ <;> clear h <;> intro c1 h
  · refine sk_leaf ?_
    obtain rfl := some_ h
    exact end_ok [] Try.results37 (ps := [false = false]) (by as_aux_lemma => kernel_rfl) ⟨rfl, trivial⟩ (fun _ => ⟨rfl, by simp⟩)
  · refine sk_leaf ?_
    refine len_ro (by as_aux_lemma => kernel_rfl) 0 (s := 3) (n := a0.length) (c := fun i j => E76.cf (a0.getD i E76.z) j) (by as_aux_lemma => kernel_rfl) ?_; intro hl1_0
    refine len_ro (by as_aux_lemma => kernel_rfl) 1 (s := 3) (n := a1.length) (c := fun i j => E76.cf (a1.getD i E76.z) j) (by as_aux_lemma => kernel_rfl) ?_; intro hl1_1
    replace h : (fun (x : Nat × Nat) => slices_Equal_api_Sent_l1 a0 a1 x.1 x.2 = some r) (FUEL, 0) := h
    refine loop_ok (by as_aux_lemma => kernel_rfl) (X := Nat × Nat) (fun x => slices_Equal_api_Sent_l1 a0 a1 x.1 x.2 = some r) (fun x => x.1) (fun x => mk 26 [(0, .pv ((E76.ro a0))), (1, .pv ((E76.ro a1))), (4, .pv (.raw (.bool false))), (12, .pv (.raw (.int .i64 ((a0.length : Nat) : Int)))), (13, .pv (.raw (.int .i64 ((x.2 : Nat) : Int))))] []) (FUEL, 0) h ?_ ?_
    · exact sub_ok (ρ := []) (l := [a0.length = a0.length, ∀ i, i < a0.length → ∀ j, j < 3 → E76.cf (a0.getD i E76.z) j = E76.cf (a0.getD i E76.z) j, a1.length = a1.length, ∀ i, i < a1.length → ∀ j, j < 3 → E76.cf (a1.getD i E76.z) j = E76.cf (a1.getD i E76.z) j, false = false, (((a0.length : Nat) : Int) : Int) = ((a0.length : Nat) : Int), (0 : Int) = ((0 : Nat) : Int)]) (by as_aux_lemma => kernel_rfl) ⟨rfl, fun _ _ _ _ => rfl, rfl, fun _ _ _ _ => rfl, rfl, rfl, (by first | rfl | simp), trivial⟩
    · clear h; rintro ⟨n1, k2⟩ h p1 hp1
      obtain _ | n1 := n1
      · cases (show (none : Option (Bool)) = some r from h)
      have h : slices_Equal_api_Sent_l1 a0 a1 (n1 + 1) k2 = some r := h
      unfold slices_Equal_api_Sent_l1 at h
      refine segs [] tabOk mixed 4000 (S := .br (decide ((((k2 : Nat) : Int) : Int) < ((a0.length : Nat) : Int))) (.and (0 ≤ (((k2 : Nat) : Int) : Int) ∧ ((k2 : Nat) : Int) < ((a0.length : Nat) : Int)) (.and (0 ≤ (((k2 : Nat) : Int) : Int) ∧ ((k2 : Nat) : Int) < ((a1.length : Nat) : Int)) (.br (!((((a0.getD k2 (⟨0, 0, 0⟩ : Api_Sent)).Pin : Int) == ((a1.getD k2 (⟨0, 0, 0⟩ : Api_Sent)).Pin)) && ((((a0.getD k2 (⟨0, 0, 0⟩ : Api_Sent)).Core : Int) == ((a1.getD k2 (⟨0, 0, 0⟩ : Api_Sent)).Core)) && ((((a0.getD k2 (⟨0, 0, 0⟩ : Api_Sent)).Vec : Int) == ((a1.getD k2 (⟨0, 0, 0⟩ : Api_Sent)).Vec)) && true)))) (.leaf 0) (.leaf 1)))) (.leaf 2)) (by as_aux_lemma => kernel_rfl) ?_
      refine br_ h ?_ ?_ <;> clear h <;> intro c3 h
      · refine sk_and ⟨Int.natCast_nonneg _, of_decide_eq_true c3⟩ ?_
        refine gd_ h ?_; clear h; intro g5 h
        refine br_ h ?_ ?_ <;> clear h <;> intro c6 h
        · refine sk_leaf ?_
          obtain rfl := some_ h
          exact end_ok [] Try.results37 (ps := [false = false]) (by as_aux_lemma => kernel_rfl) ⟨rfl, trivial⟩ (fun _ => ⟨rfl, by simp⟩)
        · refine sk_leaf ?_
          refine back_ok (p := p1) (by as_aux_lemma => kernel_rfl) (hp1 (n1, k2 + 1) _ h (Nat.lt_succ_self n1) ?_)
          exact sub_ok (ρ := []) (l := [a0.length = a0.length, ∀ i, i < a0.length → ∀ j, j < 3 → E76.cf (a0.getD i E76.z) j = E76.cf (a0.getD i E76.z) j, a1.length = a1.length, ∀ i, i < a1.length → ∀ j, j < 3 → E76.cf (a1.getD i E76.z) j = E76.cf (a1.getD i E76.z) j, false = false, (((a0.length : Nat) : Int) : Int) = ((a0.length : Nat) : Int), ((IntKind.i64.wrap (((k2 : Nat) : Int) + 1)) : Int) = (((k2 + 1) : Nat) : Int)]) (by as_aux_lemma => kernel_rfl) ⟨rfl, fun _ _ _ _ => rfl, rfl, fun _ _ _ _ => rfl, rfl, rfl, (wrap_nat (Int.ofNat_lt.1 (of_decide_eq_true c3)) (by omega)), trivial⟩
      · refine sk_leaf ?_
        obtain rfl := some_ h
        exact end_ok [] Try.results37 (ps := [true = true]) (by as_aux_lemma => kernel_rfl) ⟨rfl, trivial⟩ (fun _ => ⟨rfl, by simp⟩)

set_option maxHeartbeats 40000000 in
set_option maxRecDepth 100000 in
theorem keep_alive3_ok (r : Bool) (h : keep_alive3 = some r) {al : Bool} : PCalls Try.prog 15 [] al (.pv (.raw (.bool r))) [] := by
  unfold keep_alive3 at h
  refine fn_ok tabOk Try.func15 (by as_aux_lemma => kernel_rfl) (by as_aux_lemma => kernel_rfl) Try.ntmps15 (by simp) ?_
  refine segs [] tabOk mixed 4000 (S := .leaf 0) (by as_aux_lemma => kernel_rfl) ?_
  refine sk_leaf ?_
  refine bs_ok (d := 7) (e := 31) (s := 7) (n := 2) (cs := [.pv (.raw (.int .i64 0)), .pv (.raw (.int .i64 40)), .pv (.raw (.bool false)), .pv (.raw (.bool false)), .pv (.raw (.bool false)), .pv (.raw (.bool false)), .pv (.raw (.bool false)), .pv (.raw (.int .i64 1)), .pv (.raw (.int .i64 50)), .pv (.raw (.bool true)), .pv (.raw (.bool false)), .pv (.raw (.bool false)), .pv (.raw (.bool false)), .pv (.raw (.bool false))]) (cs' := E31.cR [(⟨0, 40, false, false, false, false, false⟩ : Api_Pin), (⟨1, 50, true, false, false, false, false⟩ : Api_Pin)]) (by as_aux_lemma => kernel_rfl) rfl (by as_aux_lemma => kernel_rfl) ?_
  refine segs [] tabOk mixed 4000 (S := .leaf 0) (by as_aux_lemma => kernel_rfl) ?_
  refine sk_leaf ?_
  refine bs_ok (d := 15) (e := 24) (s := 2) (n := 5) (cs := [.pv (.raw (.int .i64 3)), .pv (.raw (.int .i64 0)), .pv (.raw (.int .i64 1)), .pv (.raw (.int .i64 0)), .pv (.raw (.int .i64 4)), .pv (.raw (.int .i64 0)), .pv (.raw (.int .i64 1)), .pv (.raw (.int .i64 1)), .pv (.raw (.int .i64 5)), .pv (.raw (.int .i64 1))]) (cs' := E24.cR [(⟨3, 0⟩ : Api_PinOp), (⟨1, 0⟩ : Api_PinOp), (⟨4, 0⟩ : Api_PinOp), (⟨1, 1⟩ : Api_PinOp), (⟨5, 1⟩ : Api_PinOp)]) (by as_aux_lemma => kernel_rfl) rfl (by as_aux_lemma => kernel_rfl) ?_
  refine segs [] tabOk mixed 4000 (S := .leaf 0) (by as_aux_lemma => kernel_rfl) ?_
  refine sk_leaf ?_
  obtain ⟨r1, e2, h⟩ := bd_ h
  refine call_ok (d := some 16) (fn := 34) (ax := [.row 16496 7 0 2, .row 16624 2 0 5]) (args := [.pv ((E31.ro [(⟨0, 40, false, false, false, false, false⟩ : Api_Pin), (⟨1, 50, true, false, false, false, false⟩ : Api_Pin)])), .pv ((E24.ro [(⟨3, 0⟩ : Api_PinOp), (⟨1, 0⟩ : Api_PinOp), (⟨4, 0⟩ : Api_PinOp), (⟨1, 1⟩ : Api_PinOp), (⟨5, 1⟩ : Api_PinOp)]))]) (ps := [2 = [(⟨0, 40, false, false, false, false, false⟩ : Api_Pin), (⟨1, 50, true, false, false, false, false⟩ : Api_Pin)].length, rowQ (E31.cR [(⟨0, 40, false, false, false, false, false⟩ : Api_Pin), (⟨1, 50, true, false, false, false, false⟩ : Api_Pin)]) 7 0 2 (fun i j => E31.cf ([(⟨0, 40, false, false, false, false, false⟩ : Api_Pin), (⟨1, 50, true, false, false, false, false⟩ : Api_Pin)].getD i E31.z) j), 5 = [(⟨3, 0⟩ : Api_PinOp), (⟨1, 0⟩ : Api_PinOp), (⟨4, 0⟩ : Api_PinOp), (⟨1, 1⟩ : Api_PinOp), (⟨5, 1⟩ : Api_PinOp)].length, rowQ (E24.cR [(⟨3, 0⟩ : Api_PinOp), (⟨1, 0⟩ : Api_PinOp), (⟨4, 0⟩ : Api_PinOp), (⟨1, 1⟩ : Api_PinOp), (⟨5, 1⟩ : Api_PinOp)]) 2 0 5 (fun i j => E24.cf ([(⟨3, 0⟩ : Api_PinOp), (⟨1, 0⟩ : Api_PinOp), (⟨4, 0⟩ : Api_PinOp), (⟨1, 1⟩ : Api_PinOp), (⟨5, 1⟩ : Api_PinOp)].getD i E24.z) j)]) (hb' := [.row 31 7 (E31.cR r1.1), .row 76 3 (E76.cR r1.2.1)]) (by as_aux_lemma => kernel_rfl) (line_Play_ok _ _ _ e2 (al := false)) (by as_aux_lemma => kernel_rfl) ⟨(by first | rfl | exact Elem.sub_len _ (by omega) | simp | (simp <;> omega)), E31.rowQ_all [(⟨0, 40, false, false, false, false, false⟩ : Api_Pin), (⟨1, 50, true, false, false, false, false⟩ : Api_Pin)] rfl, (by first | rfl | exact Elem.sub_len _ (by omega) | simp | (simp <;> omega)), E24.rowQ_all [(⟨3, 0⟩ : Api_PinOp), (⟨1, 0⟩ : Api_PinOp), (⟨4, 0⟩ : Api_PinOp), (⟨1, 1⟩ : Api_PinOp), (⟨5, 1⟩ : Api_PinOp)] rfl, trivial⟩ (fun hx => by cases hx) (by simp) (by simp only [List.map_cons, List.map_nil, Elem.row_up]) (by as_aux_lemma => kernel_rfl) ?_
  refine segs [] tabOk mixed 4000 (S := .and ((((r1.2.2 : Int) == 0) = true → (((r1.2.2 : Int) == 0) = true))) (.and ((((r1.2.2 : Int) == 0) = true → (((r1.2.2 : Int) == 0) = true))) (.and (((r1.2.2 : Int) == 0) = true → ((r1.2.2 : Int) == 0) = true) (.leaf 0)))) (by as_aux_lemma => kernel_rfl) ?_
  refine sk_and ((by decide : ∀ y0 : Bool, ((y0 = true) → (y0 = true))) ((r1.2.2 : Int) == 0)) ?_
  refine sk_and ((by decide : ∀ y0 : Bool, ((y0 = true) → (y0 = true))) ((r1.2.2 : Int) == 0)) ?_
  refine sk_and ((by decide : ∀ y0 : Bool, ((y0 = true) → (y0 = true))) ((r1.2.2 : Int) == 0)) ?_
  refine sk_leaf ?_
  refine bsG_ok (d := 32) (e := 76) (s := 3) (n := 3) (g := (((r1.2.2 : Int) == 0) && ((((r1.1.length : Nat) : Int) : Int) == 2))) (ws := [(((r1.2.2 : Int) == 0) && ((((r1.1.length : Nat) : Int) : Int) == 2)) = true, (((r1.2.2 : Int) == 0) && ((((r1.1.length : Nat) : Int) : Int) == 2)) = true, (((r1.2.2 : Int) == 0) && ((((r1.1.length : Nat) : Int) : Int) == 2)) = true]) (cs := [.pv (.raw (.int .i64 0)), .pv (.raw (.int .i64 0)), .pv (.raw (.int .i64 40)), .pv (.raw (.int .i64 1)), .pv (.raw (.int .i64 1)), .pv (.raw (.int .i64 50)), .pv (.raw (.int .i64 1)), .pv (.raw (.int .i64 1)), .pv (.raw (.int .i64 50))]) E76 [(⟨0, 0, 40⟩ : Api_Sent), (⟨1, 1, 50⟩ : Api_Sent), (⟨1, 1, 50⟩ : Api_Sent)] (by as_aux_lemma => kernel_rfl) (fun hg => ⟨((by decide : ∀ y0 y1 : Bool, (((y0 && y1) = true) → ((y0 && y1) = true))) ((r1.2.2 : Int) == 0) ((((r1.1.length : Nat) : Int) : Int) == 2)) hg, ((by decide : ∀ y0 y1 : Bool, (((y0 && y1) = true) → ((y0 && y1) = true))) ((r1.2.2 : Int) == 0) ((((r1.1.length : Nat) : Int) : Int) == 2)) hg, ((by decide : ∀ y0 y1 : Bool, (((y0 && y1) = true) → ((y0 && y1) = true))) ((r1.2.2 : Int) == 0) ((((r1.1.length : Nat) : Int) : Int) == 2)) hg, trivial⟩) rfl rfl rfl (by as_aux_lemma => kernel_rfl) ?_
  refine segs [] tabOk mixed 4000 (S := .leaf 0) (by as_aux_lemma => kernel_rfl) ?_
  refine sk_leaf ?_
  obtain ⟨r6, e7, h⟩ := bd_ h
  refine callG_ok (d := some 33) (fn := 37) (ax := [.row 16641 3 0 r1.2.1.length, .pv ((E76.ro [(⟨0, 0, 40⟩ : Api_Sent), (⟨1, 1, 50⟩ : Api_Sent), (⟨1, 1, 50⟩ : Api_Sent)]))]) (args := [.pv ((E76.ro r1.2.1)), .pv ((E76.ro [(⟨0, 0, 40⟩ : Api_Sent), (⟨1, 1, 50⟩ : Api_Sent), (⟨1, 1, 50⟩ : Api_Sent)]))]) (g := (((r1.2.2 : Int) == 0) && ((((r1.1.length : Nat) : Int) : Int) == 2))) (ws := [(((r1.2.2 : Int) == 0) && ((((r1.1.length : Nat) : Int) : Int) == 2)) = true, (((r1.2.2 : Int) == 0) && ((((r1.1.length : Nat) : Int) : Int) == 2)) = true]) (ps := [r1.2.1.length = r1.2.1.length, rowQ (E76.cR r1.2.1) 3 0 r1.2.1.length (fun i j => E76.cf (r1.2.1.getD i E76.z) j), [(⟨0, 0, 40⟩ : Api_Sent), (⟨1, 1, 50⟩ : Api_Sent), (⟨1, 1, 50⟩ : Api_Sent)].length = [(⟨0, 0, 40⟩ : Api_Sent), (⟨1, 1, 50⟩ : Api_Sent), (⟨1, 1, 50⟩ : Api_Sent)].length, ∀ i, i < [(⟨0, 0, 40⟩ : Api_Sent), (⟨1, 1, 50⟩ : Api_Sent), (⟨1, 1, 50⟩ : Api_Sent)].length → ∀ j, j < 3 → E76.cf ([(⟨0, 0, 40⟩ : Api_Sent), (⟨1, 1, 50⟩ : Api_Sent), (⟨1, 1, 50⟩ : Api_Sent)].getD i E76.z) j = E76.cf ([(⟨0, 0, 40⟩ : Api_Sent), (⟨1, 1, 50⟩ : Api_Sent), (⟨1, 1, 50⟩ : Api_Sent)].getD i E76.z) j]) (by as_aux_lemma => kernel_rfl) (fun hg => ⟨((by decide : ∀ y0 y1 : Bool, (((y0 && y1) = true) → ((y0 && y1) = true))) ((r1.2.2 : Int) == 0) ((((r1.1.length : Nat) : Int) : Int) == 2)) hg, ((by decide : ∀ y0 y1 : Bool, (((y0 && y1) = true) → ((y0 && y1) = true))) ((r1.2.2 : Int) == 0) ((((r1.1.length : Nat) : Int) : Int) == 2)) hg, trivial⟩) (fun hg => slices_Equal_api_Sent_ok _ _ _ (by rw [hg] at e7; exact e7) (al := false)) (by as_aux_lemma => kernel_rfl) (fun hg => ⟨(by first | rfl | exact Elem.sub_len _ (by omega) | simp | (simp <;> omega)), E76.rowQ_all r1.2.1 rfl, rfl, fun _ _ _ _ => rfl, trivial⟩) (fun hx => by cases hx) ?_
  refine segs [] tabOk mixed 4000 (S := .and ((((r1.2.2 : Int) == 0) && ((((r1.1.length : Nat) : Int) : Int) == 2)) = true → (((r1.2.2 : Int) == 0) && ((((r1.1.length : Nat) : Int) : Int) == 2)) = true) (.leaf 0)) (by as_aux_lemma => kernel_rfl) ?_
  refine sk_and ((by decide : ∀ y0 y1 : Bool, (((y0 && y1) = true) → ((y0 && y1) = true))) ((r1.2.2 : Int) == 0) ((((r1.1.length : Nat) : Int) : Int) == 2)) ?_
  refine sk_leaf ?_
  obtain rfl := some_ h
  exact end_ok [] Try.results15 (ps := [((((r1.2.2 : Int) == 0) && ((((r1.1.length : Nat) : Int) : Int) == 2)) && r6) = ((((r1.2.2 : Int) == 0) && ((((r1.1.length : Nat) : Int) : Int) == 2)) && r6)]) (by as_aux_lemma => kernel_rfl) ⟨rfl, trivial⟩ (fun _ => ⟨rfl, by simp⟩)

set_option maxHeartbeats 40000000 in
set_option maxRecDepth 100000 in
theorem keep_LineRight_ok (a0 : (List Api_Pin)) (a1 : Api_PinOp) (r : Bool) (h : keep_LineRight a0 a1 = some r) {al : Bool} : PCalls Try.prog 3 [.pv ((E31.ro a0)), .agg [.pv (.raw (.int .i64 a1.Kind)), .pv (.raw (.int .i64 a1.Pin))]] al (.pv (.raw (.bool r))) [] := by
  unfold keep_LineRight at h
  refine fn_ok tabOk Try.func3 (by as_aux_lemma => kernel_rfl) (by as_aux_lemma => kernel_rfl) Try.ntmps3 (by simp) ?_
  refine segs [] tabOk mixed 4000 (S := .leaf 0) (by as_aux_lemma => kernel_rfl) ?_
  refine sk_leaf ?_
  obtain ⟨r1, e2, h⟩ := bd_ h
  refine call_ok (d := some 9) (fn := 15) (ax := []) (args := []) (ps := []) (hb' := []) (by as_aux_lemma => kernel_rfl) (keep_alive3_ok  _ e2 (al := true)) (by as_aux_lemma => kernel_rfl) trivial (fun _ => (by as_aux_lemma => kernel_rfl)) (by simp) rfl (by as_aux_lemma => kernel_rfl) ?_
  refine segs [] tabOk mixed 4000 (S := .br (!r1) (.leaf 0) (.leaf 1)) (by as_aux_lemma => kernel_rfl) ?_
  refine br_ h ?_ ?_ <;> clear h <;> intro c3 h
  · refine sk_leaf ?_
    obtain rfl := some_ h
    exact end_ok [] Try.results3 (ps := [false = false]) (by as_aux_lemma => kernel_rfl) ⟨rfl, trivial⟩ (fun _ => ⟨rfl, by simp⟩)
  · refine sk_leaf ?_
    obtain ⟨r4, e5, h⟩ := bd_ h
    refine call_ok (d := some 14) (fn := 16) (ax := [.pv ((E31.ro a0)), .agg [.pv (.raw (.int .i64 a1.Kind)), .pv (.raw (.int .i64 a1.Pin))]]) (args := [.pv ((E31.ro a0)), .agg [.pv (.raw (.int .i64 a1.Kind)), .pv (.raw (.int .i64 a1.Pin))]]) (ps := [a0.length = a0.length, ∀ i, i < a0.length → ∀ j, j < 7 → E31.cf (a0.getD i E31.z) j = E31.cf (a0.getD i E31.z) j, (a1.Kind : Int) = a1.Kind, (a1.Pin : Int) = a1.Pin]) (hb' := [.row 31 7 (E31.cR r4.1), .row 76 3 (E76.cR r4.2.1)]) (by as_aux_lemma => kernel_rfl) (line_Step_ok _ _ _ e5 (al := true)) (by as_aux_lemma => kernel_rfl) ⟨rfl, fun _ _ _ _ => rfl, rfl, rfl, trivial⟩ (fun _ => (by as_aux_lemma => kernel_rfl)) (by simp) (by simp only [List.map_cons, List.map_nil, Elem.row_up]) (by as_aux_lemma => kernel_rfl) ?_
    refine segs [] tabOk mixed 4000 (S := .br ((r4.2.2 : Int) != 0) (.leaf 0) (.leaf 1)) (by as_aux_lemma => kernel_rfl) ?_
    refine br_ h ?_ ?_ <;> clear h <;> intro c6 h
    · refine sk_leaf ?_
      obtain rfl := some_ h
      exact end_ok [] Try.results3 (ps := [(((IntKind.i64.wrap (((r4.1.length : Nat) : Int) + ((r4.2.1.length : Nat) : Int))) : Int) == 0) = (((IntKind.i64.wrap (((r4.1.length : Nat) : Int) + ((r4.2.1.length : Nat) : Int))) : Int) == 0)]) (by as_aux_lemma => kernel_rfl) ⟨rfl, trivial⟩ (fun _ => ⟨rfl, by simp⟩)
    · refine sk_leaf ?_
      refine len_ro (by as_aux_lemma => kernel_rfl) 0 (s := 7) (n := a0.length) (c := fun i j => E31.cf (a0.getD i E31.z) j) (by as_aux_lemma => kernel_rfl) ?_; intro hl1_0
      refine len_row (by as_aux_lemma => kernel_rfl) 16608 (e := 31) (s := 7) (n := r4.1.length) (cs := E31.cR r4.1) (by as_aux_lemma => kernel_rfl) (Elem.cR_length _ _) ?_; intro hl1_1
      refine len_row (by as_aux_lemma => kernel_rfl) 16609 (e := 76) (s := 3) (n := r4.2.1.length) (cs := E76.cR r4.2.1) (by as_aux_lemma => kernel_rfl) (Elem.cR_length _ _) ?_; intro hl1_2
      replace h : (fun (x : Nat × Nat) => keep_LineRight_l1 a0 a1 r4 x.1 x.2 = some r) (FUEL, 0) := h
      refine loop_ok (by as_aux_lemma => kernel_rfl) (X := Nat × Nat) (fun x => keep_LineRight_l1 a0 a1 r4 x.1 x.2 = some r) (fun x => x.1) (fun x => mk 61 [(0, .pv ((E31.ro a0))), (3, .ptr 0 0), (4, .pv (.raw (.bool false))), (5, .row 1 7 0 r4.1.length), (6, .row 2 3 0 r4.2.1.length), (27, .pv (.raw (.int .i64 ((a0.length : Nat) : Int)))), (28, .pv (.raw (.int .i64 ((x.2 : Nat) : Int))))] [(0, .box [.pv (.raw (.int .i64 a1.Kind)), .pv (.raw (.int .i64 a1.Pin))]), (1, .row 31 7 (E31.cR r4.1)), (2, .row 76 3 (E76.cR r4.2.1))]) (FUEL, 0) h ?_ ?_
      · exact sub_ok (ρ := [(0, some 16432), (1, some 16608), (2, some 16609)]) (l := [a0.length = a0.length, ∀ i, i < a0.length → ∀ j, j < 7 → E31.cf (a0.getD i E31.z) j = E31.cf (a0.getD i E31.z) j, 0 = 0, false = false, 0 = 0, r4.1.length = r4.1.length, 0 = 0, r4.2.1.length = r4.2.1.length, (((a0.length : Nat) : Int) : Int) = ((a0.length : Nat) : Int), (0 : Int) = ((0 : Nat) : Int), (a1.Kind : Int) = a1.Kind, (a1.Pin : Int) = a1.Pin, E31.cR r4.1 = E31.cR r4.1, AllPv (E31.cR r4.1), E76.cR r4.2.1 = E76.cR r4.2.1, AllPv (E76.cR r4.2.1)]) (by as_aux_lemma => kernel_rfl) ⟨rfl, fun _ _ _ _ => rfl, rfl, rfl, rfl, rfl, rfl, rfl, rfl, (by first | rfl | simp), rfl, rfl, rfl, (Elem.cR_pv _ _), rfl, (Elem.cR_pv _ _), trivial⟩
      · clear h; rintro ⟨n1, k7⟩ h p1 hp1
        obtain _ | n1 := n1
        · cases (show (none : Option (Bool)) = some r from h)
        have h : keep_LineRight_l1 a0 a1 r4 (n1 + 1) k7 = some r := h
        unfold keep_LineRight_l1 at h
        refine segs [] tabOk mixed 4000 (S := .br (decide ((((k7 : Nat) : Int) : Int) < ((a0.length : Nat) : Int))) (.and ((((((k7 : Nat) : Int) : Int) != a1.Pin) = true → (((((k7 : Nat) : Int) : Int) != a1.Pin) = true))) (.and ((((((k7 : Nat) : Int) : Int) != a1.Pin) = true → (((((k7 : Nat) : Int) : Int) != a1.Pin) = true))) (.and ((((((k7 : Nat) : Int) : Int) != a1.Pin) = true → (0 ≤ (((k7 : Nat) : Int) : Int) ∧ ((k7 : Nat) : Int) < ((r4.1.length : Nat) : Int)))) (.leaf 0)))) (.leaf 1)) (by as_aux_lemma => kernel_rfl) ?_
        refine br_ h ?_ ?_ <;> clear h <;> intro c8 h
        · refine sk_and ((by decide : ∀ y0 : Bool, ((y0 = true) → (y0 = true))) ((((k7 : Nat) : Int) : Int) != a1.Pin)) ?_
          refine sk_and ((by decide : ∀ y0 : Bool, ((y0 = true) → (y0 = true))) ((((k7 : Nat) : Int) : Int) != a1.Pin)) ?_
          refine gd_ h ?_; clear h; intro g11 h
          refine sk_leaf ?_
          refine ldaG_ok (d := 39) (id := 1) (i := (0 + k7)) (e := 31) (n := 7) (g := ((((k7 : Nat) : Int) : Int) != a1.Pin)) (ws := [((((k7 : Nat) : Int) : Int) != a1.Pin) = true]) E31 (xs := r4.1) (by as_aux_lemma => kernel_rfl) (fun hg => ⟨((by decide : ∀ y0 : Bool, ((y0 = true) → (y0 = true))) ((((k7 : Nat) : Int) : Int) != a1.Pin)) hg, trivial⟩) (by as_aux_lemma => kernel_rfl) (fun hg => (by simp at * <;> omega)) rfl ?_
          refine segs [] tabOk mixed 4000 (S := .and ((((((k7 : Nat) : Int) : Int) != a1.Pin) = true → (((((k7 : Nat) : Int) : Int) != a1.Pin) = true))) (.and ((((((k7 : Nat) : Int) : Int) != a1.Pin) = true → (((((k7 : Nat) : Int) : Int) != a1.Pin) = true))) (.and ((((((k7 : Nat) : Int) : Int) != a1.Pin) = true → (0 ≤ (((k7 : Nat) : Int) : Int) ∧ ((k7 : Nat) : Int) < ((a0.length : Nat) : Int)))) (.and ((((((k7 : Nat) : Int) : Int) != a1.Pin) = true → (((((k7 : Nat) : Int) : Int) != a1.Pin) = true))) (.and ((((((k7 : Nat) : Int) : Int) != a1.Pin) = true → (((((k7 : Nat) : Int) : Int) != a1.Pin) = true))) (.and ((((((k7 : Nat) : Int) : Int) != a1.Pin) = true → (((((k7 : Nat) : Int) : Int) != a1.Pin) = true))) (.and (((((k7 : Nat) : Int) : Int) != a1.Pin) = true → ((((k7 : Nat) : Int) : Int) != a1.Pin) = true) (.br (((((k7 : Nat) : Int) : Int) != a1.Pin) && (!((((r4.1.getD (0 + k7) (⟨0, 0, false, false, false, false, false⟩ : Api_Pin)).Core : Int) == ((a0.getD k7 (⟨0, 0, false, false, false, false, false⟩ : Api_Pin)).Core)) && ((((r4.1.getD (0 + k7) (⟨0, 0, false, false, false, false, false⟩ : Api_Pin)).Vec : Int) == ((a0.getD k7 (⟨0, 0, false, false, false, false, false⟩ : Api_Pin)).Vec)) && ((((r4.1.getD (0 + k7) (⟨0, 0, false, false, false, false, false⟩ : Api_Pin)).Level) == ((a0.getD k7 (⟨0, 0, false, false, false, false, false⟩ : Api_Pin)).Level)) && ((((r4.1.getD (0 + k7) (⟨0, 0, false, false, false, false, false⟩ : Api_Pin)).Masked) == ((a0.getD k7 (⟨0, 0, false, false, false, false, false⟩ : Api_Pin)).Masked)) && ((((r4.1.getD (0 + k7) (⟨0, 0, false, false, false, false, false⟩ : Api_Pin)).Up) == ((a0.getD k7 (⟨0, 0, false, false, false, false, false⟩ : Api_Pin)).Up)) && ((((r4.1.getD (0 + k7) (⟨0, 0, false, false, false, false, false⟩ : Api_Pin)).Kept) == ((a0.getD k7 (⟨0, 0, false, false, false, false, false⟩ : Api_Pin)).Kept)) && ((((r4.1.getD (0 + k7) (⟨0, 0, false, false, false, false, false⟩ : Api_Pin)).Sent) == ((a0.getD k7 (⟨0, 0, false, false, false, false, false⟩ : Api_Pin)).Sent)) && true))))))))) (.leaf 0) (.leaf 1))))))))) (by as_aux_lemma => kernel_rfl) ?_
          refine sk_and ((by decide : ∀ y0 : Bool, ((y0 = true) → (y0 = true))) ((((k7 : Nat) : Int) : Int) != a1.Pin)) ?_
          refine sk_and ((by decide : ∀ y0 : Bool, ((y0 = true) → (y0 = true))) ((((k7 : Nat) : Int) : Int) != a1.Pin)) ?_
          refine gd_ h ?_; clear h; intro g14 h
          refine sk_and ((by decide : ∀ y0 : Bool, ((y0 = true) → (y0 = true))) ((((k7 : Nat) : Int) : Int) != a1.Pin)) ?_
          refine sk_and ((by decide : ∀ y0 : Bool, ((y0 = true) → (y0 = true))) ((((k7 : Nat) : Int) : Int) != a1.Pin)) ?_
          refine sk_and ((by decide : ∀ y0 : Bool, ((y0 = true) → (y0 = true))) ((((k7 : Nat) : Int) : Int) != a1.Pin)) ?_
          refine sk_and ((by decide : ∀ y0 : Bool, ((y0 = true) → (y0 = true))) ((((k7 : Nat) : Int) : Int) != a1.Pin)) ?_
          refine br_ h ?_ ?_ <;> clear h <;> intro c19 h
          · refine sk_leaf ?_
            obtain rfl := some_ h
            exact end_ok [] Try.results3 (ps := [false = false]) (by as_aux_lemma => kernel_rfl) ⟨rfl, trivial⟩ (fun _ => ⟨rfl, by simp⟩)
          · refine sk_leaf ?_
            refine back_ok (p := p1) (by as_aux_lemma => kernel_rfl) (hp1 (n1, k7 + 1) _ h (Nat.lt_succ_self n1) ?_)
            exact sub_ok (ρ := [(0, some 0), (1, some 1), (2, some 2)]) (l := [a0.length = a0.length, ∀ i, i < a0.length → ∀ j, j < 7 → E31.cf (a0.getD i E31.z) j = E31.cf (a0.getD i E31.z) j, 0 = 0, false = false, 0 = 0, r4.1.length = r4.1.length, 0 = 0, r4.2.1.length = r4.2.1.length, (((a0.length : Nat) : Int) : Int) = ((a0.length : Nat) : Int), ((IntKind.i64.wrap (((k7 : Nat) : Int) + 1)) : Int) = (((k7 + 1) : Nat) : Int), (a1.Kind : Int) = a1.Kind, (a1.Pin : Int) = a1.Pin, E31.cR r4.1 = E31.cR r4.1, AllPv (E31.cR r4.1), E76.cR r4.2.1 = E76.cR r4.2.1, AllPv (E76.cR r4.2.1)]) (by as_aux_lemma => kernel_rfl) ⟨rfl, fun _ _ _ _ => rfl, rfl, rfl, rfl, rfl, rfl, rfl, rfl, (wrap_nat (Int.ofNat_lt.1 (of_decide_eq_true c8)) (by omega)), rfl, rfl, rfl, (Elem.cR_pv _ _), rfl, (Elem.cR_pv _ _), trivial⟩
        · refine sk_leaf ?_
          obtain ⟨r20, e21, h⟩ := bd_ h
          refine call_ok (d := some 48) (fn := 17) (ax := [.row 1 7 0 r4.1.length]) (args := [.pv ((E31.ro r4.1))]) (ps := [r4.1.length = r4.1.length, rowQ (E31.cR r4.1) 7 0 r4.1.length (fun i j => E31.cf (r4.1.getD i E31.z) j)]) (hb' := []) (by as_aux_lemma => kernel_rfl) (line_Right_ok _ _ e21 (al := false)) (by as_aux_lemma => kernel_rfl) ⟨(by first | rfl | exact Elem.sub_len _ (by omega) | simp | (simp <;> omega)), E31.rowQ_all r4.1 rfl, trivial⟩ (fun hx => by cases hx) (by simp) rfl (by as_aux_lemma => kernel_rfl) ?_
          refine segs [] tabOk mixed 4000 (S := .and ((r20 = true → (r20 = true))) (.and ((r20 = true → (r20 = true))) (.and ((r20 = true → (r20 = true))) (.and ((r20 = true → (r20 = true))) (.and (r20 = true → r20 = true) (.and (((r20 && ((((r4.1.length : Nat) : Int) : Int) == ((a0.length : Nat) : Int))) = true → ((r20 && ((((r4.1.length : Nat) : Int) : Int) == ((a0.length : Nat) : Int))) = true))) (.and (((r20 && ((((r4.1.length : Nat) : Int) : Int) == ((a0.length : Nat) : Int))) = true → ((r20 && ((((r4.1.length : Nat) : Int) : Int) == ((a0.length : Nat) : Int))) = true))) (.and ((r20 && ((((r4.1.length : Nat) : Int) : Int) == ((a0.length : Nat) : Int))) = true → (r20 && ((((r4.1.length : Nat) : Int) : Int) == ((a0.length : Nat) : Int))) = true) (.leaf 0))))))))) (by as_aux_lemma => kernel_rfl) ?_
          refine sk_and ((by decide : ∀ y0 : Bool, ((y0 = true) → (y0 = true))) r20) ?_
          refine sk_and ((by decide : ∀ y0 : Bool, ((y0 = true) → (y0 = true))) r20) ?_
          refine sk_and ((by decide : ∀ y0 : Bool, ((y0 = true) → (y0 = true))) r20) ?_
          refine sk_and ((by decide : ∀ y0 : Bool, ((y0 = true) → (y0 = true))) r20) ?_
          refine sk_and ((by decide : ∀ y0 : Bool, ((y0 = true) → (y0 = true))) r20) ?_
          refine sk_and ((by decide : ∀ y0 y1 : Bool, (((y0 && y1) = true) → ((y0 && y1) = true))) r20 ((((r4.1.length : Nat) : Int) : Int) == ((a0.length : Nat) : Int))) ?_
          refine sk_and ((by decide : ∀ y0 y1 : Bool, (((y0 && y1) = true) → ((y0 && y1) = true))) r20 ((((r4.1.length : Nat) : Int) : Int) == ((a0.length : Nat) : Int))) ?_
          refine sk_and ((by decide : ∀ y0 y1 : Bool, (((y0 && y1) = true) → ((y0 && y1) = true))) r20 ((((r4.1.length : Nat) : Int) : Int) == ((a0.length : Nat) : Int))) ?_
          refine sk_leaf ?_
          obtain rfl := some_ h
          exact end_ok [] Try.results3 (ps := [((r20 && ((((r4.1.length : Nat) : Int) : Int) == ((a0.length : Nat) : Int))) && (decide ((((r4.2.1.length : Nat) : Int) : Int) ≤ 1))) = ((r20 && ((((r4.1.length : Nat) : Int) : Int) == ((a0.length : Nat) : Int))) && (decide ((((r4.2.1.length : Nat) : Int) : Int) ≤ 1)))]) (by as_aux_lemma => kernel_rfl) ⟨rfl, trivial⟩ (fun _ => ⟨rfl, by simp⟩)

end Go.Proofs.Ytaadkjlooehhnaa
