/- The functions do as their models: printed by program. -/
import Derived.Test.YtmmhiggfpdjdcaaQRW5
set_option linter.unusedSimpArgs false
set_option linter.unusedVariables false
namespace Go.Proofs.Ytmmhiggfpdjdcaa
open Go Go.Ab
attribute [local irreducible] V VS runS Sk.Holds

set_option maxHeartbeats 40000000 in
set_option maxRecDepth 100000 in
theorem slices_Equal_api_Errno_ok (a0 : (List Int)) (a1 : (List Int)) (r : Bool) (h : slices_Equal_api_Errno a0 a1 = some r) {al : Bool} : PCalls Try.prog 21 [.pv ((E36.ro a0)), .pv ((E36.ro a1))] al (.pv (.raw (.bool r))) [] := by
  unfold slices_Equal_api_Errno at h
  refine fn_ok tabOk Try.func21 (by as_aux_lemma => kernel_rfl) (by as_aux_lemma => kernel_rfl) Try.ntmps21 (by simp) ?_
  refine segs [] tabOk mixed 4000 (S := .br ((((a0.length : Nat) : Int) : Int) != ((a1.length : Nat) : Int)) (.leaf 0) (.leaf 1)) (by as_aux_lemma => kernel_rfl) ?_
  refine br_ h ?_ ?_ <;> clear h <;> intro c1 h
  · refine sk_leaf ?_
    obtain rfl := some_ h
    exact end_ok [] Try.results21 (ps := [false = false]) (by as_aux_lemma => kernel_rfl) ⟨rfl, trivial⟩ (fun _ => ⟨rfl, by simp⟩)
  · refine sk_leaf ?_
    refine len_ro (by as_aux_lemma => kernel_rfl) 0 (s := 1) (n := a0.length) (c := fun i j => E36.cf (a0.getD i E36.z) j) (by as_aux_lemma => kernel_rfl) ?_; intro hl1_0
    refine len_ro (by as_aux_lemma => kernel_rfl) 1 (s := 1) (n := a1.length) (c := fun i j => E36.cf (a1.getD i E36.z) j) (by as_aux_lemma => kernel_rfl) ?_; intro hl1_1
    replace h : (fun (x : Nat × Nat) => slices_Equal_api_Errno_l1 a0 a1 x.1 x.2 = some r) (FUEL, 0) := h
    refine loop_ok (by as_aux_lemma => kernel_rfl) (X := Nat × Nat) (fun x => slices_Equal_api_Errno_l1 a0 a1 x.1 x.2 = some r) (fun x => x.1) (fun x => mk 26 [(0, .pv ((E36.ro a0))), (1, .pv ((E36.ro a1))), (4, .pv (.raw (.bool false))), (12, .pv (.raw (.int .i64 ((a0.length : Nat) : Int)))), (13, .pv (.raw (.int .i64 ((x.2 : Nat) : Int))))] []) (FUEL, 0) h ?_ ?_
    · exact sub_ok (ρ := []) (l := [a0.length = a0.length, ∀ i, i < a0.length → ∀ j, j < 1 → E36.cf (a0.getD i E36.z) j = E36.cf (a0.getD i E36.z) j, a1.length = a1.length, ∀ i, i < a1.length → ∀ j, j < 1 → E36.cf (a1.getD i E36.z) j = E36.cf (a1.getD i E36.z) j, false = false, (((a0.length : Nat) : Int) : Int) = ((a0.length : Nat) : Int), (0 : Int) = ((0 : Nat) : Int)]) (by as_aux_lemma => kernel_rfl) ⟨rfl, fun _ _ _ _ => rfl, rfl, fun _ _ _ _ => rfl, rfl, rfl, (by first | rfl | simp), trivial⟩
    · clear h; rintro ⟨n1, k2⟩ h p1 hp1
      obtain _ | n1 := n1
      · cases (show (none : Option (Bool)) = some r from h)
      have h : slices_Equal_api_Errno_l1 a0 a1 (n1 + 1) k2 = some r := h
      unfold slices_Equal_api_Errno_l1 at h
      refine segs [] tabOk mixed 4000 (S := .br (decide ((((k2 : Nat) : Int) : Int) < ((a0.length : Nat) : Int))) (.and (0 ≤ (((k2 : Nat) : Int) : Int) ∧ ((k2 : Nat) : Int) < ((a0.length : Nat) : Int)) (.and (0 ≤ (((k2 : Nat) : Int) : Int) ∧ ((k2 : Nat) : Int) < ((a1.length : Nat) : Int)) (.br (((a0.getD k2 0) : Int) != (a1.getD k2 0)) (.leaf 0) (.leaf 1)))) (.leaf 2)) (by as_aux_lemma => kernel_rfl) ?_
      refine br_ h ?_ ?_ <;> clear h <;> intro c3 h
      · refine sk_and ⟨Int.natCast_nonneg _, of_decide_eq_true c3⟩ ?_
        refine gd_ h ?_; clear h; intro g5 h
        refine br_ h ?_ ?_ <;> clear h <;> intro c6 h
        · refine sk_leaf ?_
          obtain rfl := some_ h
          exact end_ok [] Try.results21 (ps := [false = false]) (by as_aux_lemma => kernel_rfl) ⟨rfl, trivial⟩ (fun _ => ⟨rfl, by simp⟩)
        · refine sk_leaf ?_
          refine back_ok (p := p1) (by as_aux_lemma => kernel_rfl) (hp1 (n1, k2 + 1) _ h (Nat.lt_succ_self n1) ?_)
          exact sub_ok (ρ := []) (l := [a0.length = a0.length, ∀ i, i < a0.length → ∀ j, j < 1 → E36.cf (a0.getD i E36.z) j = E36.cf (a0.getD i E36.z) j, a1.length = a1.length, ∀ i, i < a1.length → ∀ j, j < 1 → E36.cf (a1.getD i E36.z) j = E36.cf (a1.getD i E36.z) j, false = false, (((a0.length : Nat) : Int) : Int) = ((a0.length : Nat) : Int), ((IntKind.i64.wrap (((k2 : Nat) : Int) + 1)) : Int) = (((k2 + 1) : Nat) : Int)]) (by as_aux_lemma => kernel_rfl) ⟨rfl, fun _ _ _ _ => rfl, rfl, fun _ _ _ _ => rfl, rfl, rfl, (wrap_nat (Int.ofNat_lt.1 (of_decide_eq_true c3)) (by omega)), trivial⟩
      · refine sk_leaf ?_
        obtain rfl := some_ h
        exact end_ok [] Try.results21 (ps := [true = true]) (by as_aux_lemma => kernel_rfl) ⟨rfl, trivial⟩ (fun _ => ⟨rfl, by simp⟩)

set_option maxHeartbeats 40000000 in
set_option maxRecDepth 100000 in
theorem slices_Equal_int_ok (a0 : (List Int)) (a1 : (List Int)) (r : Bool) (h : slices_Equal_int a0 a1 = some r) {al : Bool} : PCalls Try.prog 12 [.pv ((E3.ro a0)), .pv ((E3.ro a1))] al (.pv (.raw (.bool r))) [] := by
  unfold slices_Equal_int at h
  refine fn_ok tabOk Try.func12 (by as_aux_lemma => kernel_rfl) (by as_aux_lemma => kernel_rfl) Try.ntmps12 (by simp) ?_
  refine segs [] tabOk mixed 4000 (S := .br ((((a0.length : Nat) : Int) : Int) != ((a1.length : Nat) : Int)) (.leaf 0) (.leaf 1)) (by as_aux_lemma => kernel_rfl) ?_
  refine br_ h ?_ ?_ <;> clear h <;> intro c1 h
  · refine sk_leaf ?_
    obtain rfl := some_ h
    exact end_ok [] Try.results12 (ps := [false = false]) (by as_aux_lemma => kernel_rfl) ⟨rfl, trivial⟩ (fun _ => ⟨rfl, by simp⟩)
  · refine sk_leaf ?_
    refine len_ro (by as_aux_lemma => kernel_rfl) 0 (s := 1) (n := a0.length) (c := fun i j => E3.cf (a0.getD i E3.z) j) (by as_aux_lemma => kernel_rfl) ?_; intro hl1_0
    refine len_ro (by as_aux_lemma => kernel_rfl) 1 (s := 1) (n := a1.length) (c := fun i j => E3.cf (a1.getD i E3.z) j) (by as_aux_lemma => kernel_rfl) ?_; intro hl1_1
    replace h : (fun (x : Nat × Nat) => slices_Equal_int_l1 a0 a1 x.1 x.2 = some r) (FUEL, 0) := h
    refine loop_ok (by as_aux_lemma => kernel_rfl) (X := Nat × Nat) (fun x => slices_Equal_int_l1 a0 a1 x.1 x.2 = some r) (fun x => x.1) (fun x => mk 26 [(0, .pv ((E3.ro a0))), (1, .pv ((E3.ro a1))), (4, .pv (.raw (.bool false))), (12, .pv (.raw (.int .i64 ((a0.length : Nat) : Int)))), (13, .pv (.raw (.int .i64 ((x.2 : Nat) : Int))))] []) (FUEL, 0) h ?_ ?_
    · exact sub_ok (ρ := []) (l := [a0.length = a0.length, ∀ i, i < a0.length → ∀ j, j < 1 → E3.cf (a0.getD i E3.z) j = E3.cf (a0.getD i E3.z) j, a1.length = a1.length, ∀ i, i < a1.length → ∀ j, j < 1 → E3.cf (a1.getD i E3.z) j = E3.cf (a1.getD i E3.z) j, false = false, (((a0.length : Nat) : Int) : Int) = ((a0.length : Nat) : Int), (0 : Int) = ((0 : Nat) : Int)]) (by as_aux_lemma => kernel_rfl) ⟨rfl, fun _ _ _ _ => rfl, rfl, fun _ _ _ _ => rfl, rfl, rfl, (by first | rfl | simp), trivial⟩
    · clear h; rintro ⟨n1, k2⟩ h p1 hp1
      obtain _ | n1 := n1
      · cases (show (none : Option (Bool)) = some r from h)
      have h : slices_Equal_int_l1 a0 a1 (n1 + 1) k2 = some r := h
      unfold slices_Equal_int_l1 at h
      refine segs [] tabOk mixed 4000 (S := .br (decide ((((k2 : Nat) : Int) : Int) < ((a0.length : Nat) : Int))) (.and (0 ≤ (((k2 : Nat) : Int) : Int) ∧ ((k2 : Nat) : Int) < ((a0.length : Nat) : Int)) (.and (0 ≤ (((k2 : Nat) : Int) : Int) ∧ ((k2 : Nat) : Int) < ((a1.length : Nat) : Int)) (.br (((a0.getD k2 0) : Int) != (a1.getD k2 0)) (.leaf 0) (.leaf 1)))) (.leaf 2)) (by as_aux_lemma => kernel_rfl) ?_
      refine br_ h ?_ ?_ <;> clear h <;> intro c3 h
      · refine sk_and ⟨Int.natCast_nonneg _, of_decide_eq_true c3⟩ ?_
        refine gd_ h ?_; clear h; intro g5 h
        refine br_ h ?_ ?_ <;> clear h <;> intro c6 h
        · refine sk_leaf ?_
          obtain rfl := some_ h
          exact end_ok [] Try.results12 (ps := [false = false]) (by as_aux_lemma => kernel_rfl) ⟨rfl, trivial⟩ (fun _ => ⟨rfl, by simp⟩)
        · refine sk_leaf ?_
          refine back_ok (p := p1) (by as_aux_lemma => kernel_rfl) (hp1 (n1, k2 + 1) _ h (Nat.lt_succ_self n1) ?_)
          exact sub_ok (ρ := []) (l := [a0.length = a0.length, ∀ i, i < a0.length → ∀ j, j < 1 → E3.cf (a0.getD i E3.z) j = E3.cf (a0.getD i E3.z) j, a1.length = a1.length, ∀ i, i < a1.length → ∀ j, j < 1 → E3.cf (a1.getD i E3.z) j = E3.cf (a1.getD i E3.z) j, false = false, (((a0.length : Nat) : Int) : Int) = ((a0.length : Nat) : Int), ((IntKind.i64.wrap (((k2 : Nat) : Int) + 1)) : Int) = (((k2 + 1) : Nat) : Int)]) (by as_aux_lemma => kernel_rfl) ⟨rfl, fun _ _ _ _ => rfl, rfl, fun _ _ _ _ => rfl, rfl, rfl, (wrap_nat (Int.ofNat_lt.1 (of_decide_eq_true c3)) (by omega)), trivial⟩
      · refine sk_leaf ?_
        obtain rfl := some_ h
        exact end_ok [] Try.results12 (ps := [true = true]) (by as_aux_lemma => kernel_rfl) ⟨rfl, trivial⟩ (fun _ => ⟨rfl, by simp⟩)

set_option maxHeartbeats 40000000 in
set_option maxRecDepth 100000 in
theorem keep_alive13_ok (r : Bool) (h : keep_alive13 = some r) {al : Bool} : PCalls Try.prog 8 [] al (.pv (.raw (.bool r))) [] := by
  unfold keep_alive13 at h
  refine fn_ok tabOk Try.func8 (by as_aux_lemma => kernel_rfl) (by as_aux_lemma => kernel_rfl) Try.ntmps8 (by simp) ?_
  refine segs [] tabOk mixed 4000 (S := .leaf 0) (by as_aux_lemma => kernel_rfl) ?_
  refine sk_leaf ?_
  refine bs_ok (d := 11) (e := 31) (s := 3) (n := 6) (cs := [.pv (.raw (.int .i64 1)), .pv (.raw (.int .i64 4)), .pv (.raw (.int .i64 2)), .pv (.raw (.int .i64 1)), .pv (.raw (.int .i64 5)), .pv (.raw (.int .i64 2)), .pv (.raw (.int .i64 2)), .pv (.raw (.int .i64 6)), .pv (.raw (.int .i64 2)), .pv (.raw (.int .i64 1)), .pv (.raw (.int .i64 7)), .pv (.raw (.int .i64 30)), .pv (.raw (.int .i64 3)), .pv (.raw (.int .i64 0)), .pv (.raw (.int .i64 0)), .pv (.raw (.int .i64 3)), .pv (.raw (.int .i64 0)), .pv (.raw (.int .i64 0))]) (cs' := E31.cR [(⟨1, 4, 2⟩ : Api_RunOp), (⟨1, 5, 2⟩ : Api_RunOp), (⟨2, 6, 2⟩ : Api_RunOp), (⟨1, 7, 30⟩ : Api_RunOp), (⟨3, 0, 0⟩ : Api_RunOp), (⟨3, 0, 0⟩ : Api_RunOp)]) (by as_aux_lemma => kernel_rfl) rfl (by as_aux_lemma => kernel_rfl) ?_
  refine segs [] tabOk mixed 4000 (S := .leaf 0) (by as_aux_lemma => kernel_rfl) ?_
  refine sk_leaf ?_
  obtain ⟨r1, e2, h⟩ := bd_ h
  refine call_ok (d := some 12) (fn := 9) (ax := [.row 17088 3 0 6]) (args := [.pv ((E31.ro [(⟨1, 4, 2⟩ : Api_RunOp), (⟨1, 5, 2⟩ : Api_RunOp), (⟨2, 6, 2⟩ : Api_RunOp), (⟨1, 7, 30⟩ : Api_RunOp), (⟨3, 0, 0⟩ : Api_RunOp), (⟨3, 0, 0⟩ : Api_RunOp)]))]) (ps := [6 = [(⟨1, 4, 2⟩ : Api_RunOp), (⟨1, 5, 2⟩ : Api_RunOp), (⟨2, 6, 2⟩ : Api_RunOp), (⟨1, 7, 30⟩ : Api_RunOp), (⟨3, 0, 0⟩ : Api_RunOp), (⟨3, 0, 0⟩ : Api_RunOp)].length, rowQ (E31.cR [(⟨1, 4, 2⟩ : Api_RunOp), (⟨1, 5, 2⟩ : Api_RunOp), (⟨2, 6, 2⟩ : Api_RunOp), (⟨1, 7, 30⟩ : Api_RunOp), (⟨3, 0, 0⟩ : Api_RunOp), (⟨3, 0, 0⟩ : Api_RunOp)]) 3 0 6 (fun i j => E31.cf ([(⟨1, 4, 2⟩ : Api_RunOp), (⟨1, 5, 2⟩ : Api_RunOp), (⟨2, 6, 2⟩ : Api_RunOp), (⟨1, 7, 30⟩ : Api_RunOp), (⟨3, 0, 0⟩ : Api_RunOp), (⟨3, 0, 0⟩ : Api_RunOp)].getD i E31.z) j)]) (hb' := [.row 36 1 (E36.cR r1.1), .row 3 1 (E3.cR r1.2.1), .row 3 1 (E3.cR r1.2.2)]) (by as_aux_lemma => kernel_rfl) (runq_Play_ok _ _ e2 (al := false)) (by as_aux_lemma => kernel_rfl) ⟨(by first | rfl | exact Elem.sub_len _ (by omega) | omega | simp | (simp <;> omega)), E31.rowQ_all [(⟨1, 4, 2⟩ : Api_RunOp), (⟨1, 5, 2⟩ : Api_RunOp), (⟨2, 6, 2⟩ : Api_RunOp), (⟨1, 7, 30⟩ : Api_RunOp), (⟨3, 0, 0⟩ : Api_RunOp), (⟨3, 0, 0⟩ : Api_RunOp)] rfl, trivial⟩ (fun hx => by cases hx) (by simp) (by simp only [List.map_cons, List.map_nil, Elem.row_up, up_map] <;> rfl) (by as_aux_lemma => kernel_rfl) ?_
  refine segs [] tabOk mixed 4000 (S := .leaf 0) (by as_aux_lemma => kernel_rfl) ?_
  refine sk_leaf ?_
  obtain ⟨g3, h⟩ := if_ h
  refine mks_ok (d := 17) (e := 36) (s := 1) (b := 8) (n := 6) (zs := [.pv (.raw (.int .i64 0))]) E36 (by as_aux_lemma => kernel_rfl) (by as_aux_lemma => kernel_rfl) rfl (by as_aux_lemma => kernel_rfl) g3 (by as_aux_lemma => kernel_rfl) ?_
  refine segs [] tabOk mixed 4000 (S := .leaf 0) (by as_aux_lemma => kernel_rfl) ?_
  refine sk_leaf ?_
  obtain ⟨r4, e5, h⟩ := bd_ h
  refine call_ok (d := some 18) (fn := 21) (ax := [.row 17152 1 0 r1.1.length, .row 17472 1 0 6]) (args := [.pv ((E36.ro r1.1)), .pv ((E36.ro (List.replicate 6 (0 : Int))))]) (ps := [r1.1.length = r1.1.length, rowQ (E36.cR r1.1) 1 0 r1.1.length (fun i j => E36.cf (r1.1.getD i E36.z) j), 6 = (List.replicate 6 (0 : Int)).length, rowQ (E36.cR (List.replicate 6 (0 : Int))) 1 0 6 (fun i j => E36.cf ((List.replicate 6 (0 : Int)).getD i E36.z) j)]) (hb' := []) (by as_aux_lemma => kernel_rfl) (slices_Equal_api_Errno_ok _ _ _ e5 (al := false)) (by as_aux_lemma => kernel_rfl) ⟨(by first | rfl | exact Elem.sub_len _ (by omega) | omega | simp | (simp <;> omega)), E36.rowQ_all r1.1 rfl, (by first | rfl | exact Elem.sub_len _ (by omega) | omega | simp | (simp <;> omega)), E36.rowQ_all (List.replicate 6 (0 : Int)) (by simp), trivial⟩ (fun hx => by cases hx) (by simp) rfl (by as_aux_lemma => kernel_rfl) ?_
  refine segs [] tabOk mixed 4000 (S := .leaf 0) (by as_aux_lemma => kernel_rfl) ?_
  refine sk_leaf ?_
  refine bsG_ok (d := 21) (e := 3) (s := 1) (n := 2) (g := r4) (ws := []) (cs := [.pv (.raw (.int .i64 7)), .pv (.raw (.int .i64 6))]) E3 [7, 6] (by as_aux_lemma => kernel_rfl) (fun _ => trivial) rfl rfl rfl (by as_aux_lemma => kernel_rfl) ?_
  refine segs [] tabOk mixed 4000 (S := .leaf 0) (by as_aux_lemma => kernel_rfl) ?_
  refine sk_leaf ?_
  obtain ⟨r6, e7, h⟩ := bd_ h
  refine callG_ok (d := some 22) (fn := 12) (ax := [.row 17153 1 0 r1.2.1.length, .pv ((E3.ro [7, 6]))]) (args := [.pv ((E3.ro r1.2.1)), .pv ((E3.ro [7, 6]))]) (g := r4) (ws := [r4 = true, r4 = true]) (ps := [r1.2.1.length = r1.2.1.length, rowQ (E3.cR r1.2.1) 1 0 r1.2.1.length (fun i j => E3.cf (r1.2.1.getD i E3.z) j), [7, 6].length = [7, 6].length, ∀ i, i < [7, 6].length → ∀ j, j < 1 → E3.cf ([7, 6].getD i E3.z) j = E3.cf ([7, 6].getD i E3.z) j]) (by as_aux_lemma => kernel_rfl) (fun hg => ⟨((by decide : ∀ y0 : Bool, ((y0 = true) → (y0 = true))) r4) hg, ((by decide : ∀ y0 : Bool, ((y0 = true) → (y0 = true))) r4) hg, trivial⟩) (fun hg => slices_Equal_int_ok _ _ _ (by rw [hg] at e7; exact e7) (al := false)) (by as_aux_lemma => kernel_rfl) (fun hg => ⟨(by first | rfl | exact Elem.sub_len _ (by omega) | omega | simp | (simp <;> omega)), E3.rowQ_all r1.2.1 rfl, rfl, fun _ _ _ _ => rfl, trivial⟩) (fun hx => by cases hx) ?_
  refine segs [] tabOk mixed 4000 (S := .and (r4 = true → r4 = true) (.leaf 0)) (by as_aux_lemma => kernel_rfl) ?_
  refine sk_and ((by decide : ∀ y0 : Bool, ((y0 = true) → (y0 = true))) r4) ?_
  refine sk_leaf ?_
  refine bsG_ok (d := 26) (e := 3) (s := 1) (n := 2) (g := (r4 && r6)) (ws := []) (cs := [.pv (.raw (.int .i64 4)), .pv (.raw (.int .i64 5))]) E3 [4, 5] (by as_aux_lemma => kernel_rfl) (fun _ => trivial) rfl rfl rfl (by as_aux_lemma => kernel_rfl) ?_
  refine segs [] tabOk mixed 4000 (S := .leaf 0) (by as_aux_lemma => kernel_rfl) ?_
  refine sk_leaf ?_
  obtain ⟨r9, e10, h⟩ := bd_ h
  refine callG_ok (d := some 27) (fn := 12) (ax := [.row 17154 1 0 r1.2.2.length, .pv ((E3.ro [4, 5]))]) (args := [.pv ((E3.ro r1.2.2)), .pv ((E3.ro [4, 5]))]) (g := (r4 && r6)) (ws := [(r4 && r6) = true, (r4 && r6) = true]) (ps := [r1.2.2.length = r1.2.2.length, rowQ (E3.cR r1.2.2) 1 0 r1.2.2.length (fun i j => E3.cf (r1.2.2.getD i E3.z) j), [4, 5].length = [4, 5].length, ∀ i, i < [4, 5].length → ∀ j, j < 1 → E3.cf ([4, 5].getD i E3.z) j = E3.cf ([4, 5].getD i E3.z) j]) (by as_aux_lemma => kernel_rfl) (fun hg => ⟨((by decide : ∀ y0 : Bool, ((y0 = true) → (y0 = true))) (r4 && r6)) hg, ((by decide : ∀ y0 : Bool, ((y0 = true) → (y0 = true))) (r4 && r6)) hg, trivial⟩) (fun hg => slices_Equal_int_ok _ _ _ (by rw [hg] at e10; exact e10) (al := false)) (by as_aux_lemma => kernel_rfl) (fun hg => ⟨(by first | rfl | exact Elem.sub_len _ (by omega) | omega | simp | (simp <;> omega)), E3.rowQ_all r1.2.2 rfl, rfl, fun _ _ _ _ => rfl, trivial⟩) (fun hx => by cases hx) ?_
  refine segs [] tabOk mixed 4000 (S := .and ((r4 && r6) = true → (r4 && r6) = true) (.leaf 0)) (by as_aux_lemma => kernel_rfl) ?_
  refine sk_and ((by decide : ∀ y0 : Bool, ((y0 = true) → (y0 = true))) (r4 && r6)) ?_
  refine sk_leaf ?_
  obtain rfl := some_ h
  exact end_ok [] Try.results8 (ps := [((r4 && r6) && r9) = ((r4 && r6) && r9)]) (by as_aux_lemma => kernel_rfl) ⟨rfl, trivial⟩ (fun _ => ⟨rfl, by simp⟩)

set_option maxHeartbeats 40000000 in
set_option maxRecDepth 100000 in
theorem slices_Contains_int_ok (a0 : (List Int)) (a1 : Int) (r : Bool) (h : slices_Contains_int a0 a1 = some r) {al : Bool} : PCalls Try.prog 10 [.pv ((E3.ro a0)), .pv (.raw (.int .i64 a1))] al (.pv (.raw (.bool r))) [] := by
  unfold slices_Contains_int at h
  refine fn_ok tabOk Try.func10 (by as_aux_lemma => kernel_rfl) (by as_aux_lemma => kernel_rfl) Try.ntmps10 (by simp) ?_
  refine segs [] tabOk mixed 4000 (S := .leaf 0) (by as_aux_lemma => kernel_rfl) ?_
  refine sk_leaf ?_
  obtain ⟨r1, e2, h⟩ := bd_ h
  refine call_ok (d := some 7) (fn := 23) (ax := [.pv ((E3.ro a0)), .pv (.raw (.int .i64 a1))]) (args := [.pv ((E3.ro a0)), .pv (.raw (.int .i64 a1))]) (ps := [a0.length = a0.length, ∀ i, i < a0.length → ∀ j, j < 1 → E3.cf (a0.getD i E3.z) j = E3.cf (a0.getD i E3.z) j, (a1 : Int) = a1]) (hb' := []) (by as_aux_lemma => kernel_rfl) (slices_Index_int_ok _ _ _ e2 (al := true)) (by as_aux_lemma => kernel_rfl) ⟨rfl, fun _ _ _ _ => rfl, rfl, trivial⟩ (fun _ => (by as_aux_lemma => kernel_rfl)) (by simp) rfl (by as_aux_lemma => kernel_rfl) ?_
  refine segs [] tabOk mixed 4000 (S := .leaf 0) (by as_aux_lemma => kernel_rfl) ?_
  refine sk_leaf ?_
  obtain rfl := some_ h
  exact end_ok [] Try.results10 (ps := [(decide ((r1 : Int) ≥ 0)) = (decide ((r1 : Int) ≥ 0))]) (by as_aux_lemma => kernel_rfl) ⟨rfl, trivial⟩ (fun _ => ⟨rfl, by simp⟩)

set_option maxRecDepth 100000 in
theorem slices_Clone_api_RunOp_ok (a0 r : List Api_RunOp) (h : slices_Clone_api_RunOp a0 = some r) {al : Bool} : PCalls Try.prog 11 [.pv (E31.ro a0)] al (.row 0 3 0 r.length) [.row 31 3 (E31.cR r)] := by
  unfold slices_Clone_api_RunOp at h
  obtain ⟨g, h⟩ := if_ h
  obtain rfl := some_ h
  refine fn_ok tabOk Try.func11 (by as_aux_lemma => kernel_rfl) (by as_aux_lemma => kernel_rfl) Try.ntmps11 (by simp) ?_
  refine segs [1] tabOk mixed 4000 (S := .leaf 0) (by as_aux_lemma => kernel_rfl) ?_
  refine sk_leaf ?_
  refine nil_ok (d1 := 3) (d2 := 4) (s := 3) (n := a0.length) (c := fun i j => E31.cf (a0.getD i E31.z) j) tabOk (by as_aux_lemma => kernel_rfl) ?_
  intro b hb
  refine segs [] tabOk mixed 4000 (S := .br b (.leaf 0) (.leaf 1)) (by as_aux_lemma => kernel_rfl) ?_
  refine sk_br ?_ ?_ <;> intro hc <;> refine sk_leaf ?_
  · obtain rfl : a0 = [] := List.eq_nil_of_length_eq_zero (hb hc)
    exact end_ok [(0, none)] Try.results11 (ps := [0 = 0, 0 = 0, E31.cR [] = []]) (by as_aux_lemma => kernel_rfl) ⟨rfl, rfl, rfl, trivial⟩ (fun _ => ⟨rfl, by simp only [List.mem_cons, List.not_mem_nil, or_false, forall_eq]; exact Elem.cR_bald E31_raw _⟩)
  · refine bs_ok (d := 5) (e := 31) (s := 3) (n := 0) (cs := []) (cs' := E31.cR []) (by as_aux_lemma => kernel_rfl) rfl (by as_aux_lemma => kernel_rfl) ?_
    refine segs [] tabOk mixed 4000 (S := .leaf 0) (by as_aux_lemma => kernel_rfl) ?_
    refine sk_leaf ?_
    refine app_ok (d := 7) (e := 31) (s := 3) (b := 24) (x := .row 16704 3 0 0) (y := .pv (E31.ro a0)) E31 (xs := []) (ys := a0) (by as_aux_lemma => kernel_rfl) rfl (.row 16704 [] 0 rfl (by as_aux_lemma => kernel_rfl)) (.ro a0) ⟨by simpa using g, by simp; omega⟩ (by as_aux_lemma => kernel_rfl) ?_
    refine segs [] tabOk mixed 4000 (S := .leaf 0) (by as_aux_lemma => kernel_rfl) ?_
    refine sk_leaf ?_
    exact end_ok [(0, some 16832)] Try.results11 (ps := [0 = 0, a0.length = a0.length, E31.cR a0 = E31.cR a0, AllPv (E31.cR a0)]) (by as_aux_lemma => kernel_rfl) ⟨rfl, rfl, rfl, Elem.cR_pv _ _, trivial⟩ (fun _ => ⟨rfl, by simp only [List.mem_cons, List.not_mem_nil, or_false, forall_eq]; exact Elem.cR_bald E31_raw _⟩)

set_option maxRecDepth 100000 in
theorem slices_Clone_int_ok (a0 r : List Int) (h : slices_Clone_int a0 = some r) {al : Bool} : PCalls Try.prog 14 [.pv (E3.ro a0)] al (.row 0 1 0 r.length) [.row 3 1 (E3.cR r)] := by
  unfold slices_Clone_int at h
  obtain ⟨g, h⟩ := if_ h
  obtain rfl := some_ h
  refine fn_ok tabOk Try.func14 (by as_aux_lemma => kernel_rfl) (by as_aux_lemma => kernel_rfl) Try.ntmps14 (by simp) ?_
  refine segs [1] tabOk mixed 4000 (S := .leaf 0) (by as_aux_lemma => kernel_rfl) ?_
  refine sk_leaf ?_
  refine nil_ok (d1 := 3) (d2 := 4) (s := 1) (n := a0.length) (c := fun i j => E3.cf (a0.getD i E3.z) j) tabOk (by as_aux_lemma => kernel_rfl) ?_
  intro b hb
  refine segs [] tabOk mixed 4000 (S := .br b (.leaf 0) (.leaf 1)) (by as_aux_lemma => kernel_rfl) ?_
  refine sk_br ?_ ?_ <;> intro hc <;> refine sk_leaf ?_
  · obtain rfl : a0 = [] := List.eq_nil_of_length_eq_zero (hb hc)
    exact end_ok [(0, none)] Try.results14 (ps := [0 = 0, 0 = 0, E3.cR [] = []]) (by as_aux_lemma => kernel_rfl) ⟨rfl, rfl, rfl, trivial⟩ (fun _ => ⟨rfl, by simp only [List.mem_cons, List.not_mem_nil, or_false, forall_eq]; exact Elem.cR_bald E3_raw _⟩)
  · refine bs_ok (d := 5) (e := 3) (s := 1) (n := 0) (cs := []) (cs' := E3.cR []) (by as_aux_lemma => kernel_rfl) rfl (by as_aux_lemma => kernel_rfl) ?_
    refine segs [] tabOk mixed 4000 (S := .leaf 0) (by as_aux_lemma => kernel_rfl) ?_
    refine sk_leaf ?_
    refine app_ok (d := 7) (e := 3) (s := 1) (b := 8) (x := .row 16704 1 0 0) (y := .pv (E3.ro a0)) E3 (xs := []) (ys := a0) (by as_aux_lemma => kernel_rfl) rfl (.row 16704 [] 0 rfl (by as_aux_lemma => kernel_rfl)) (.ro a0) ⟨by simpa using g, by simp; omega⟩ (by as_aux_lemma => kernel_rfl) ?_
    refine segs [] tabOk mixed 4000 (S := .leaf 0) (by as_aux_lemma => kernel_rfl) ?_
    refine sk_leaf ?_
    exact end_ok [(0, some 16832)] Try.results14 (ps := [0 = 0, a0.length = a0.length, E3.cR a0 = E3.cR a0, AllPv (E3.cR a0)]) (by as_aux_lemma => kernel_rfl) ⟨rfl, rfl, rfl, Elem.cR_pv _ _, trivial⟩ (fun _ => ⟨rfl, by simp only [List.mem_cons, List.not_mem_nil, or_false, forall_eq]; exact Elem.cR_bald E3_raw _⟩)

end Go.Proofs.Ytmmhiggfpdjdcaa
