/- The functions do as their models: printed by program. -/
import Derived.Test.YtmmhiggfpdjdcaaQRCW5
set_option linter.unusedSimpArgs false
set_option linter.unusedVariables false
namespace Go.Proofs.Ytmmhiggfpdjdcaa
open Go Go.Ab
attribute [local irreducible] V VS runS Sk.Holds

set_option maxHeartbeats 40000000 in
set_option maxRecDepth 100000 in
theorem slices_Equal_api_Errno_ok (a0 : (List Int)) (a1 : (List Int)) (r : Bool) (h : slices_Equal_api_Errno a0 a1 = some r) {al : Bool} : PCalls Try.prog 21 [.pv ((E36.ro a0)), .pv ((E36.ro a1))] al (.pv (.raw (.bool r))) [] := by
  unfold slices_Equal_api_Errno at h
  refine fn_ok tabOk Try.func21 (by as_aux_lemma => kernel_rfl) (by as_aux_lemma => kernel_rfl) Try.ntmps21 (by simp) ?_
  refine segs [] tabOk mixed 4000 (S := .br ((((a0.length : Nat) : Int) : Int) != ((a1.length : Nat) : Int)) (.leaf 0) (.leaf 1)) (by as_aux_lemma => kernel_rfl) ?_
  refine br_ h ?_ ?_ <;> clear h <;> intro c1 h
  · refine sk_leaf ?_
    obtain rfl := some_ h
    exact end_ok [] Try.results21 (ps := [false = false]) (by as_aux_lemma => kernel_rfl) ⟨rfl, trivial⟩ (fun _ => ⟨rfl, by simp⟩)
  · refine sk_leaf ?_
    refine len_ro (by as_aux_lemma => kernel_rfl) 0 (s := 1) (n := a0.length) (c := fun i j => E36.cf (a0.getD i E36.z) j) (by as_aux_lemma => kernel_rfl) ?_; intro hl1_0
    refine len_ro (by as_aux_lemma => kernel_rfl) 1 (s := 1) (n := a1.length) (c := fun i j => E36.cf (a1.getD i E36.z) j) (by as_aux_lemma => kernel_rfl) ?_; intro hl1_1
    replace h : (fun (x : Nat × Nat) => slices_Equal_api_Errno_l1 a0 a1 x.1 x.2 = some r) (FUEL, 0) := h
    refine loop_ok (by as_aux_lemma => kernel_rfl) (X := Nat × Nat) (fun x => slices_Equal_api_Errno_l1 a0 a1 x.1 x.2 = some r) (fun x => x.1) (fun x => mk 26 [(0, .pv ((E36.ro a0))), (1, .pv ((E36.ro a1))), (4, .pv (.raw (.bool false))), (12, .pv (.raw (.int .i64 ((a0.length : Nat) : Int)))), (13, .pv (.raw (.int .i64 ((x.2 : Nat) : Int))))] []) (FUEL, 0) h ?_ ?_
    · exact sub_ok (ρ := []) (l := [a0.length = a0.length, ∀ i, i < a0.length → ∀ j, j < 1 → E36.cf (a0.getD i E36.z) j = E36.cf (a0.getD i E36.z) j, a1.length = a1.length, ∀ i, i < a1.length → ∀ j, j < 1 → E36.cf (a1.getD i E36.z) j = E36.cf (a1.getD i E36.z) j, false = false, (((a0.length : Nat) : Int) : Int) = ((a0.length : Nat) : Int), (0 : Int) = ((0 : Nat) : Int)]) (by as_aux_lemma => kernel_rfl) ⟨rfl, fun _ _ _ _ => rfl, rfl, fun _ _ _ _ => rfl, rfl, rfl, (by first | rfl | simp), trivial⟩
    · clear h; rintro ⟨n1, k2⟩ h p1 hp1
      obtain _ | n1 := n1
      · cases (show (none : Option (Bool)) = some r from h)
      have h : slices_Equal_api_Errno_l1 a0 a1 (n1 + 1) k2 = some r := h
      unfold slices_Equal_api_Errno_l1 at h
      refine segs [] tabOk mixed 4000 (S := .br (decide ((((k2 : Nat) : Int) : Int) < ((a0.length : Nat) : Int))) (.and (0 ≤ (((k2 : Nat) : Int) : Int) ∧ ((k2 : Nat) : Int) < ((a0.length : Nat) : Int)) (.and (0 ≤ (((k2 : Nat) : Int) : Int) ∧ ((k2 : Nat) : Int) < ((a1.length : Nat) : Int)) (.br (((a0.getD k2 0) : Int) != (a1.getD k2 0)) (.leaf 0) (.leaf 1)))) (.leaf 2)) (by as_aux_lemma => kernel_rfl) ?_
      refine br_ h ?_ ?_ <;> clear h <;> intro c3 h
      · refine sk_and ⟨Int.natCast_nonneg _, of_decide_eq_true c3⟩ ?_
        refine gd_ h ?_; clear h; intro g5 h
        refine br_ h ?_ ?_ <;> clear h <;> intro c6 h
        · refine sk_leaf ?_
          obtain rfl := some_ h
          exact end_ok [] Try.results21 (ps := [false = false]) (by as_aux_lemma => kernel_rfl) ⟨rfl, trivial⟩ (fun _ => ⟨rfl, by simp⟩)
        · refine sk_leaf ?_
          refine back_ok (p := p1) (by as_aux_lemma => kernel_rfl) (hp1 (n1, k2 + 1) _ h (Nat.lt_succ_self n1) ?_)
          exact sub_ok (ρ := []) (l := [a0.length = a0.length, ∀ i, i < a0.length → ∀ j, j < 1 → E36.cf (a0.getD i E36.z) j = E36.cf (a0.getD i E36.z) j, a1.length = a1.length, ∀ i, i < a1.length → ∀ j, j < 1 → E36.cf (a1.getD i E36.z) j = E36.cf (a1.getD i E36.z) j, false = false, (((a0.length : Nat) : Int) : Int) = ((a0.length : Nat) : Int), ((IntKind.i64.wrap (((k2 : Nat) : Int) + 1)) : Int) = (((k2 + 1) : Nat) : Int)]) (by as_aux_lemma => kernel_rfl) ⟨rfl, fun _ _ _ _ => rfl, rfl, fun _ _ _ _ => rfl, rfl, rfl, (wrap_nat (Int.ofNat_lt.1 (of_decide_eq_true c3)) (by omega)), trivial⟩
      · refine sk_leaf ?_
        obtain rfl := some_ h
        exact end_ok [] Try.results21 (ps := [true = true]) (by as_aux_lemma => kernel_rfl) ⟨rfl, trivial⟩ (fun _ => ⟨rfl, by simp⟩)

set_option maxHeartbeats 40000000 in
set_option maxRecDepth 100000 in
theorem slices_Equal_int_ok (a0 : (List Int)) (a1 : (List Int)) (r : Bool) (h : slices_Equal_int a0 a1 = some r) {al : Bool} : PCalls Try.prog 12 [.pv ((E3.ro a0)), .pv ((E3.ro a1))] al (.pv (.raw (.bool r))) [] := by
  unfold slices_Equal_int at h
  refine fn_ok tabOk Try.func12 (by as_aux_lemma => kernel_rfl) (by as_aux_lemma => kernel_rfl) Try.ntmps12 (by simp) ?_
  refine segs [] tabOk mixed 4000 (S := .br ((((a0.length : Nat) : Int) : Int) != ((a1.length : Nat) : Int)) (.leaf 0) (.leaf 1)) (by as_aux_lemma => kernel_rfl) ?_
  refine br_ h ?_ ?_ <;> clear h <;> intro c1 h
  · refine sk_leaf ?_
    obtain rfl := some_ h
    exact end_ok [] Try.results12 (ps := [false = false]) (by as_aux_lemma => kernel_rfl) ⟨rfl, trivial⟩ (fun _ => ⟨rfl, by simp⟩)
  · refine sk_leaf ?_
    refine len_ro (by as_aux_lemma => kernel_rfl) 0 (s := 1) (n := a0.length) (c := fun i j => E3.cf (a0.getD i E3.z) j) (by as_aux_lemma => kernel_rfl) ?_; intro hl1_0
    refine len_ro (by as_aux_lemma => kernel_rfl) 1 (s := 1) (n := a1.length) (c := fun i j => E3.cf (a1.getD i E3.z) j) (by as_aux_lemma => kernel_rfl) ?_; intro hl1_1
    replace h : (fun (x : Nat × Nat) => slices_Equal_int_l1 a0 a1 x.1 x.2 = some r) (FUEL, 0) := h
    refine loop_ok (by as_aux_lemma => kernel_rfl) (X := Nat × Nat) (fun x => slices_Equal_int_l1 a0 a1 x.1 x.2 = some r) (fun x => x.1) (fun x => mk 26 [(0, .pv ((E3.ro a0))), (1, .pv ((E3.ro a1))), (4, .pv (.raw (.bool false))), (12, .pv (.raw (.int .i64 ((a0.length : Nat) : Int)))), (13, .pv (.raw (.int .i64 ((x.2 : Nat) : Int))))] []) (FUEL, 0) h ?_ ?_
    · exact sub_ok (ρ := []) (l := [a0.length = a0.length, ∀ i, i < a0.length → ∀ j, j < 1 → E3.cf (a0.getD i E3.z) j = E3.cf (a0.getD i E3.z) j, a1.length = a1.length, ∀ i, i < a1.length → ∀ j, j < 1 → E3.cf (a1.getD i E3.z) j = E3.cf (a1.getD i E3.z) j, false = false, (((a0.length : Nat) : Int) : Int) = ((a0.length : Nat) : Int), (0 : Int) = ((0 : Nat) : Int)]) (by as_aux_lemma => kernel_rfl) ⟨rfl, fun _ _ _ _ => rfl, rfl, fun _ _ _ _ => rfl, rfl, rfl, (by first | rfl | simp), trivial⟩
    · clear h; rintro ⟨n1, k2⟩ h p1 hp1
      obtain _ | n1 := n1
      · cases (show (none : Option (Bool)) = some r from h)
      have h : slices_Equal_int_l1 a0 a1 (n1 + 1) k2 = some r := h
      unfold slices_Equal_int_l1 at h
      refine segs [] tabOk mixed 4000 (S := .br (decide ((((k2 : Nat) : Int) : Int) < ((a0.length : Nat) : Int))) (.and (0 ≤ (((k2 : Nat) : Int) : Int) ∧ ((k2 : Nat) : Int) < ((a0.length : Nat) : Int)) (.and (0 ≤ (((k2 : Nat) : Int) : Int) ∧ ((k2 : Nat) : Int) < ((a1.length : Nat) : Int)) (.br (((a0.getD k2 0) : Int) != (a1.getD k2 0)) (.leaf 0) (.leaf 1)))) (.leaf 2)) (by as_aux_lemma => kernel_rfl) ?_
      refine br_ h ?_ ?_ <;> clear h <;> intro c3 h
      · refine sk_and ⟨Int.natCast_nonneg _, of_decide_eq_true c3⟩ ?_
        refine gd_ h ?_; clear h; intro g5 h
        refine br_ h ?_ ?_ <;> clear h <;> intro c6 h
        · refine sk_leaf ?_
          obtain rfl := some_ h
          exact end_ok [] Try.results12 (ps := [false = false]) (by as_aux_lemma => kernel_rfl) ⟨rfl, trivial⟩ (fun _ => ⟨rfl, by simp⟩)
        · refine sk_leaf ?_
          refine back_ok (p := p1) (by as_aux_lemma => kernel_rfl) (hp1 (n1, k2 + 1) _ h (Nat.lt_succ_self n1) ?_)
          exact sub_ok (ρ := []) (l := [a0.length = a0.length, ∀ i, i < a0.length → ∀ j, j < 1 → E3.cf (a0.getD i E3.z) j = E3.cf (a0.getD i E3.z) j, a1.length = a1.length, ∀ i, i < a1.length → ∀ j, j < 1 → E3.cf (a1.getD i E3.z) j = E3.cf (a1.getD i E3.z) j, false = false, (((a0.length : Nat) : Int) : Int) = ((a0.length : Nat) : Int), ((IntKind.i64.wrap (((k2 : Nat) : Int) + 1)) : Int) = (((k2 + 1) : Nat) : Int)]) (by as_aux_lemma => kernel_rfl) ⟨rfl, fun _ _ _ _ => rfl, rfl, fun _ _ _ _ => rfl, rfl, rfl, (wrap_nat (Int.ofNat_lt.1 (of_decide_eq_true c3)) (by omega)), trivial⟩
      · refine sk_leaf ?_
        obtain rfl := some_ h
        exact end_ok [] Try.results12 (ps := [true = true]) (by as_aux_lemma => kernel_rfl) ⟨rfl, trivial⟩ (fun _ => ⟨rfl, by simp⟩)

set_option maxHeartbeats 40000000 in
set_option maxRecDepth 100000 in
theorem keep_alive13_ok (r : Bool) (h : keep_alive13 = some r) {al : Bool} : PCalls Try.prog 8 [] al (.pv (.raw (.bool r))) [] := by
  unfold keep_alive13 at h
  refine fn_ok tabOk Try.func8 (by as_aux_lemma => kernel_rfl) (by as_aux_lemma => kernel_rfl) Try.ntmps8 (by simp) ?_
  refine segs [] tabOk mixed 4000 (S := .leaf 0) (by as_aux_lemma => kernel_rfl) ?_
  refine sk_leaf ?_
  refine bs_ok (d := 11) (e := 31) (s := 3) (n := 6) (cs := [.pv (.raw (.int .i64 1)), .pv (.raw (.int .i64 4)), .pv (.raw (.int .i64 2)), .pv (.raw (.int .i64 1)), .pv (.raw (.int .i64 5)), .pv (.raw (.int .i64 2)), .pv (.raw (.int .i64 2)), .pv (.raw (.int .i64 6)), .pv (.raw (.int .i64 2)), .pv (.raw (.int .i64 1)), .pv (.raw (.int .i64 7)), .pv (.raw (.int .i64 30)), .pv (.raw (.int .i64 3)), .pv (.raw (.int .i64 0)), .pv (.raw (.int .i64 0)), .pv (.raw (.int .i64 3)), .pv (.raw (.int .i64 0)), .pv (.raw (.int .i64 0))]) (cs' := E31.cR [(⟨1, 4, 2⟩ : Api_RunOp), (⟨1, 5, 2⟩ : Api_RunOp), (⟨2, 6, 2⟩ : Api_RunOp), (⟨1, 7, 30⟩ : Api_RunOp), (⟨3, 0, 0⟩ : Api_RunOp), (⟨3, 0, 0⟩ : Api_RunOp)]) (by as_aux_lemma => kernel_rfl) rfl (by as_aux_lemma => kernel_rfl) ?_
  refine segs [] tabOk mixed 4000 (S := .leaf 0) (by as_aux_lemma => kernel_rfl) ?_
  refine sk_leaf ?_
  obtain ⟨r1, e2, h⟩ := bd_ h
  refine call_ok (d := some 12) (fn := 9) (ax := [.row 17088 3 0 6]) (args := [.pv ((E31.ro [(⟨1, 4, 2⟩ : Api_RunOp), (⟨1, 5, 2⟩ : Api_RunOp), (⟨2, 6, 2⟩ : Api_RunOp), (⟨1, 7, 30⟩ : Api_RunOp), (⟨3, 0, 0⟩ : Api_RunOp), (⟨3, 0, 0⟩ : Api_RunOp)]))]) (ps := [6 = [(⟨1, 4, 2⟩ : Api_RunOp), (⟨1, 5, 2⟩ : Api_RunOp), (⟨2, 6, 2⟩ : Api_RunOp), (⟨1, 7, 30⟩ : Api_RunOp), (⟨3, 0, 0⟩ : Api_RunOp), (⟨3, 0, 0⟩ : Api_RunOp)].length, rowQ (E31.cR [(⟨1, 4, 2⟩ : Api_RunOp), (⟨1, 5, 2⟩ : Api_RunOp), (⟨2, 6, 2⟩ : Api_RunOp), (⟨1, 7, 30⟩ : Api_RunOp), (⟨3, 0, 0⟩ : Api_RunOp), (⟨3, 0, 0⟩ : Api_RunOp)]) 3 0 6 (fun i j => E31.cf ([(⟨1, 4, 2⟩ : Api_RunOp), (⟨1, 5, 2⟩ : Api_RunOp), (⟨2, 6, 2⟩ : Api_RunOp), (⟨1, 7, 30⟩ : Api_RunOp), (⟨3, 0, 0⟩ : Api_RunOp), (⟨3, 0, 0⟩ : Api_RunOp)].getD i E31.z) j)]) (hb' := [.row 36 1 (E36.cR r1.1), .row 3 1 (E3.cR r1.2.1), .row 3 1 (E3.cR r1.2.2)]) (by as_aux_lemma => kernel_rfl) (runq_Play_ok _ _ e2 (al := false)) (by as_aux_lemma => kernel_rfl) ⟨(by first | rfl | exact Elem.sub_len _ (by omega) | omega | simp | (simp <;> omega)), E31.rowQ_all [(⟨1, 4, 2⟩ : Api_RunOp), (⟨1, 5, 2⟩ : Api_RunOp), (⟨2, 6, 2⟩ : Api_RunOp), (⟨1, 7, 30⟩ : Api_RunOp), (⟨3, 0, 0⟩ : Api_RunOp), (⟨3, 0, 0⟩ : Api_RunOp)] rfl, trivial⟩ (fun hx => by cases hx) (by simp) (by simp only [List.map_cons, List.map_nil, Elem.row_up, up_map] <;> rfl) (by as_aux_lemma => kernel_rfl) ?_
  refine segs [] tabOk mixed 4000 (S := .leaf 0) (by as_aux_lemma => kernel_rfl) ?_
  refine sk_leaf ?_
  obtain ⟨g3, h⟩ := if_ h
  refine mks_ok (d := 17) (e := 36) (s := 1) (b := 8) (n := 6) (zs := [.pv (.raw (.int .i64 0))]) E36 (by as_aux_lemma => kernel_rfl) (by as_aux_lemma => kernel_rfl) rfl (by as_aux_lemma => kernel_rfl) g3 (by as_aux_lemma => kernel_rfl) ?_
  refine segs [] tabOk mixed 4000 (S := .leaf 0) (by as_aux_lemma => kernel_rfl) ?_
  refine sk_leaf ?_
  obtain ⟨r4, e5, h⟩ := bd_ h
  refine call_ok (d := some 18) (fn := 21) (ax := [.row 17152 1 0 r1.1.length, .row 17472 1 0 6]) (args := [.pv ((E36.ro r1.1)), .pv ((E36.ro (List.replicate 6 (0 : Int))))]) (ps := [r1.1.length = r1.1.length, rowQ (E36.cR r1.1) 1 0 r1.1.length (fun i j => E36.cf (r1.1.getD i E36.z) j), 6 = (List.replicate 6 (0 : Int)).length, rowQ (E36.cR (List.replicate 6 (0 : Int))) 1 0 6 (fun i j => E36.cf ((List.replicate 6 (0 : Int)).getD i E36.z) j)]) (hb' := []) (by as_aux_lemma => kernel_rfl) (slices_Equal_api_Errno_ok _ _ _ e5 (al := false)) (by as_aux_lemma => kernel_rfl) ⟨(by first | rfl | exact Elem.sub_len _ (by omega) | omega | simp | (simp <;> omega)), E36.rowQ_all r1.1 rfl, (by first | rfl | exact Elem.sub_len _ (by omega) | omega | simp | (simp <;> omega)), E36.rowQ_all (List.replicate 6 (0 : Int)) (by simp), trivial⟩ (fun hx => by cases hx) (by simp) rfl (by as_aux_lemma => kernel_rfl) ?_
  refine segs [] tabOk mixed 4000 (S := .leaf 0) (by as_aux_lemma => kernel_rfl) ?_
  refine sk_leaf ?_
  refine bsG_ok (d := 21) (e := 3) (s := 1) (n := 2) (g := r4) (ws := []) (cs := [.pv (.raw (.int .i64 7)), .pv (.raw (.int .i64 6))]) E3 [7, 6] (by as_aux_lemma => kernel_rfl) (fun _ => trivial) rfl rfl rfl (by as_aux_lemma => kernel_rfl) ?_
  refine segs [] tabOk mixed 4000 (S := .leaf 0) (by as_aux_lemma => kernel_rfl) ?_
  refine sk_leaf ?_
  obtain ⟨r6, e7, h⟩ := bd_ h
  refine callG_ok (d := some 22) (fn := 12) (ax := [.row 17153 1 0 r1.2.1.length, .pv ((E3.ro [7, 6]))]) (args := [.pv ((E3.ro r1.2.1)), .pv ((E3.ro [7, 6]))]) (g := r4) (ws := [r4 = true, r4 = true]) (ps := [r1.2.1.length = r1.2.1.length, rowQ (E3.cR r1.2.1) 1 0 r1.2.1.length (fun i j => E3.cf (r1.2.1.getD i E3.z) j), [7, 6].length = [7, 6].length, ∀ i, i < [7, 6].length → ∀ j, j < 1 → E3.cf ([7, 6].getD i E3.z) j = E3.cf ([7, 6].getD i E3.z) j]) (by as_aux_lemma => kernel_rfl) (fun hg => ⟨((by decide : ∀ y0 : Bool, ((y0 = true) → (y0 = true))) r4) hg, ((by decide : ∀ y0 : Bool, ((y0 = true) → (y0 = true))) r4) hg, trivial⟩) (fun hg => slices_Equal_int_ok _ _ _ (by rw [hg] at e7; exact e7) (al := false)) (by as_aux_lemma => kernel_rfl) (fun hg => ⟨(by first | rfl | exact Elem.sub_len _ (by omega) | omega | simp | (simp <;> omega)), E3.rowQ_all r1.2.1 rfl, rfl, fun _ _ _ _ => rfl, trivial⟩) (fun hx => by cases hx) ?_
  refine segs [] tabOk mixed 4000 (S := .and (r4 = true → r4 = true) (.leaf 0)) (by as_aux_lemma => kernel_rfl) ?_
  refine sk_and ((by decide : ∀ y0 : Bool, ((y0 = true) → (y0 = true))) r4) ?_
  refine sk_leaf ?_
  refine bsG_ok (d := 26) (e := 3) (s := 1) (n := 2) (g := (r4 && r6)) (ws := []) (cs := [.pv (.raw (.int .i64 4)), .pv (.raw (.int .i64 5))]) E3 [4, 5] (by as_aux_lemma => kernel_rfl) (fun _ => trivial) rfl rfl rfl (by as_aux_lemma => kernel_rfl) ?_
  refine segs [] tabOk mixed 4000 (S := .leaf 0) (by as_aux_lemma => kernel_rfl) ?_
  refine sk_leaf ?_
  obtain ⟨r9, e10, h⟩ := bd_ h
  refine callG_ok (d := some 27) (fn := 12) (ax := [.row 17154 1 0 r1.2.2.length, .pv ((E3.ro [4, 5]))]) (args := [.pv ((E3.ro r1.2.2)), .pv ((E3.ro [4, 5]))]) (g := (r4 && r6)) (ws := [(r4 && r6) = true, (r4 && r6) = true]) (ps := [r1.2.2.length = r1.2.2.length, rowQ (E3.cR r1.2.2) 1 0 r1.2.2.length (fun i j => E3.cf (r1.2.2.getD i E3.z) j), [4, 5].length = [4, 5].length, ∀ i, i < [4, 5].length → ∀ j, j < 1 → E3.cf ([4, 5].getD i E3.z) j = E3.cf ([4, 5].getD i E3.z) j]) (by as_aux_lemma => kernel_rfl) (fun hg => ⟨((by decide : ∀ y0 : Bool, ((y0 = true) → (y0 = true))) (r4 && r6)) hg, ((by decide : ∀ y0 : Bool, ((y0 = true) → (y0 = true))) (r4 && r6)) hg, trivial⟩) (fun hg => slices_Equal_int_ok _ _ _ (by rw [hg] at e10; exact e10) (al := false)) (by as_aux_lemma => kernel_rfl) (fun hg => ⟨(by first | rfl | exact Elem.sub_len _ (by omega) | omega | simp | (simp <;> omega)), E3.rowQ_all r1.2.2 rfl, rfl, fun _ _ _ _ => rfl, trivial⟩) (fun hx => by cases hx) ?_
  refine segs [] tabOk mixed 4000 (S := .and ((r4 && r6) = true → (r4 && r6) = true) (.leaf 0)) (by as_aux_lemma => kernel_rfl) ?_
  refine sk_and ((by decide : ∀ y0 : Bool, ((y0 = true) → (y0 = true))) (r4 && r6)) ?_
  refine sk_leaf ?_
  obtain rfl := some_ h
  exact end_ok [] Try.results8 (ps := [((r4 && r6) && r9) = ((r4 && r6) && r9)]) (by as_aux_lemma => kernel_rfl) ⟨rfl, trivial⟩ (fun _ => ⟨rfl, by simp⟩)

theorem slices_Values_int_ok (a0 : List Int) (r : Unit) (h : slices_Values_int a0 = some r) : PCalls Try.prog 20 [.pv (E3.ro a0)] true (.fn 30 [.roat 1 (fun j => E25.cf a0 j)]) [] :=
  values_pcalls ⟨_, Try.func20, by kernel_rfl, by kernel_rfl⟩ rfl (fun a n cap w => Try.values_calls a n cap w)

theorem slices_Sorted_int_ok (a0 r : List Int) (h : slices_Sorted_int a0 = some r) {al : Bool} : PCalls Try.prog 19 [.fn 30 [.roat 1 (fun j => E25.cf a0 j)]] al (.row 0 1 0 r.length) [.row 3 1 (E3.cR r)] := by
  unfold slices_Sorted_int at h
  obtain ⟨g, h⟩ := if_ h
  obtain rfl := some_ h
  exact sortv_pcalls (e := 3) (xs := a0) ⟨_, Try.func19, by kernel_rfl, by kernel_rfl⟩ rfl (fun _ => rfl) rfl (by simp) fun gg o b off cap a w _ hgl hbl ha hp hc => Try.sorted_calls gg o b off cap a0 g w hgl hbl a ha hp hc

set_option maxHeartbeats 40000000 in
set_option maxRecDepth 100000 in
theorem slices_Compact_int_h0_ok (a0 : (List Int)) (r : (List Int)) (h : slices_Compact_int_h0 a0 = some r) {al : Bool} : MCalls Try.prog 18 [.row 0 1 0 a0.length] [.row 3 1 (E3.cR a0)] 0 al (.row 0 1 0 r.length) [.row 3 1 (E3.cR r)] := by
  unfold slices_Compact_int_h0 at h
  refine fnM_ok tabOk (fz := []) Try.func18 (by as_aux_lemma => kernel_rfl) (by as_aux_lemma => kernel_rfl) Try.ntmps18 (by simp) (by first | (simp; done) | exact Nat.le_of_ble_eq_true rfl) ?_
  refine segs [] tabOk mixed 4000 (S := .br (decide ((((a0.length : Nat) : Int) : Int) < 2)) (.leaf 0) (.leaf 1)) (by as_aux_lemma => kernel_rfl) ?_
  refine br_ h ?_ ?_ <;> clear h <;> intro c1 h
  · refine sk_leaf ?_
    obtain rfl := some_ h
    exact endM_ok [(0, some 0)] Try.results18 (ps := [0 = 0, a0.length = a0.length, E3.cR a0 = E3.cR a0, AllPv (E3.cR a0)]) (by as_aux_lemma => kernel_rfl) ⟨rfl, rfl, rfl, (Elem.cR_pv _ _), trivial⟩ (fun _ => ⟨rfl, by simp only [List.mem_cons, List.not_mem_nil, or_false, forall_eq_or_imp, forall_eq]; exact Elem.cR_bald E3_raw _⟩)
  · refine sk_leaf ?_
    refine len_row (by as_aux_lemma => kernel_rfl) 0 (e := 3) (s := 1) (n := a0.length) (cs := E3.cR a0) (by as_aux_lemma => kernel_rfl) (Elem.cR_length _ _) ?_; intro hl1_0
    replace h : (fun (x : Nat × Int) => slices_Compact_int_h0_l1 a0 x.1 x.2 = some r) (FUEL, 1) := h
    refine loop_ok (by as_aux_lemma => kernel_rfl) (X := Nat × Int) (fun x => slices_Compact_int_h0_l1 a0 x.1 x.2 = some r) (fun x => x.1) (fun x => mk 61 [(0, .row 0 1 0 a0.length), (2, .pv (.raw (.slice none 0 0))), (3, .pv (.raw (.int .i64 x.2)))] [(0, .row 3 1 (E3.cR a0))]) (FUEL, 1) h ?_ ?_
    · exact sub_ok (ρ := [(0, some 0)]) (l := [0 = 0, a0.length = a0.length, (1 : Int) = 1, E3.cR a0 = E3.cR a0, AllPv (E3.cR a0)]) (by as_aux_lemma => kernel_rfl) ⟨rfl, rfl, rfl, rfl, (Elem.cR_pv _ _), trivial⟩
    · clear h; rintro ⟨n1, x2⟩ h p1 hp1
      obtain _ | n1 := n1
      · cases (show (none : Option ((List Int))) = some r from h)
      have h : slices_Compact_int_h0_l1 a0 (n1 + 1) x2 = some r := h
      unfold slices_Compact_int_h0_l1 at h
      refine segs [] tabOk mixed 4000 (S := .br (decide ((x2 : Int) < ((a0.length : Nat) : Int))) (.and (0 ≤ (x2 : Int) ∧ x2 < ((a0.length : Nat) : Int)) (.leaf 0)) (.leaf 1)) (by as_aux_lemma => kernel_rfl) ?_
      refine br_ h ?_ ?_ <;> clear h <;> intro c3 h
      · refine gd_ h ?_; clear h; intro g4 h
        refine sk_leaf ?_
        refine ld_ok (d := 19) (id := 0) (i := (0 + (Int.toNat x2))) (j := 0) (e := 3) (n := 1) E3 (xs := a0) (by as_aux_lemma => kernel_rfl) (by as_aux_lemma => kernel_rfl) (by first | omega | (simp at * <;> omega) | (simp_all <;> omega)) (by exact Nat.le_of_ble_eq_true rfl) ?_
        refine segs [] tabOk mixed 4000 (S := .and (0 ≤ ((IntKind.i64.wrap (x2 - 1)) : Int) ∧ (IntKind.i64.wrap (x2 - 1)) < ((a0.length : Nat) : Int)) (.leaf 0)) (by as_aux_lemma => kernel_rfl) ?_
        refine gd_ h ?_; clear h; intro g5 h
        refine sk_leaf ?_
        refine ld_ok (d := 24) (id := 0) (i := (0 + (Int.toNat (IntKind.i64.wrap (x2 - 1))))) (j := 0) (e := 3) (n := 1) E3 (xs := a0) (by as_aux_lemma => kernel_rfl) (by as_aux_lemma => kernel_rfl) (by first | omega | (simp at * <;> omega) | (simp_all <;> omega)) (by exact Nat.le_of_ble_eq_true rfl) ?_
        refine segs [] tabOk mixed 4000 (S := .br (((a0.getD (0 + (Int.toNat x2)) 0) : Int) == (a0.getD (0 + (Int.toNat (IntKind.i64.wrap (x2 - 1)))) 0)) (.and (0 ≤ (x2 : Int)) (.and ((Int.toNat x2) ≤ a0.length) (.leaf 0))) (.leaf 1)) (by as_aux_lemma => kernel_rfl) ?_
        refine br_ h ?_ ?_ <;> clear h <;> intro c6 h
        · refine gd_ h ?_; clear h; intro g7 h
          refine gd_ h ?_; clear h; intro g8 h
          refine sk_leaf ?_
          refine len_row (by as_aux_lemma => kernel_rfl) 0 (e := 3) (s := 1) (n := a0.length) (cs := E3.cR a0) (by as_aux_lemma => kernel_rfl) (Elem.cR_length _ _) ?_; intro hl2_0
          obtain ⟨K2_0, hK2_0, h⟩ : ∃ (K2_0 : Int → Int → (List Int) → Option ((List Int))), K2_0 = (fun (x9 : Int) (x10 : Int) (l11 : List Int) => if 0 ≤ (x9 : Int) then if (Int.toNat x9) ≤ l11.length then if (0 + (Int.toNat x9)) + (l11.length - (Int.toNat x9)) ≤ l11.length then if 0 ≤ (x9 : Int) then if (Int.toNat x9) ≤ l11.length then some (((cpL l11 (0 + (Int.toNat x9)) (l11.length - (Int.toNat x9)) (List.replicate (l11.length - (Int.toNat x9)) (0 : Int))).drop (0 + 0)).take ((Int.toNat x9) - 0)) else none else none else none else none else none ) ∧ slices_Compact_int_h0_l2 a0 x2 K2_0 FUEL x2 1 a0 = some r := ⟨_, rfl, h⟩
          replace h : (fun (x : Nat × Int × Int × List Int) => slices_Compact_int_h0_l2 a0 x2 K2_0 x.1 x.2.1 x.2.2.1 x.2.2.2 = some r) (FUEL, x2, 1, a0) := h
          refine loop_ok (by as_aux_lemma => kernel_rfl) (X := Nat × Int × Int × List Int) (fun x => slices_Compact_int_h0_l2 a0 x2 K2_0 x.1 x.2.1 x.2.2.1 x.2.2.2 = some r) (fun x => x.1) (fun x => mk 61 [(0, .row 0 1 0 x.2.2.2.length), (2, .pv (.raw (.slice none 0 0))), (3, .pv (.raw (.int .i64 x.2.1))), (4, .row 0 1 (0 + (Int.toNat x2)) (a0.length - (Int.toNat x2))), (5, .pv (.raw (.int .i64 x.2.2.1)))] [(0, .row 3 1 (E3.cR x.2.2.2))]) (FUEL, x2, 1, a0) h ?_ ?_
          · exact sub_ok (ρ := [(0, some 0)]) (l := [0 = 0, a0.length = a0.length, (x2 : Int) = x2, (0 + (Int.toNat x2)) = (0 + (Int.toNat x2)), (a0.length - (Int.toNat x2)) = (a0.length - (Int.toNat x2)), (1 : Int) = 1, E3.cR a0 = E3.cR a0, AllPv (E3.cR a0)]) (by as_aux_lemma => kernel_rfl) ⟨rfl, rfl, rfl, rfl, rfl, rfl, rfl, (Elem.cR_pv _ _), trivial⟩
          · clear h; rintro ⟨n2, x9, x10, l11⟩ h p2 hp2
            obtain _ | n2 := n2
            · cases (show (none : Option ((List Int))) = some r from h)
            have h : slices_Compact_int_h0_l2 a0 x2 K2_0 (n2 + 1) x9 x10 l11 = some r := h
            unfold slices_Compact_int_h0_l2 at h
            refine segs [] tabOk mixed 4000 (S := .br (decide ((x10 : Int) < (((a0.length - (Int.toNat x2)) : Nat) : Int))) (.and (0 ≤ (x10 : Int) ∧ x10 < (((a0.length - (Int.toNat x2)) : Nat) : Int)) (.leaf 0)) (.and (0 ≤ (x9 : Int)) (.and ((Int.toNat x9) ≤ l11.length) (.leaf 1)))) (by as_aux_lemma => kernel_rfl) ?_
            refine br_ h ?_ ?_ <;> clear h <;> intro c12 h
            · refine gd_ h ?_; clear h; intro g13 h
              refine sk_leaf ?_
              obtain ⟨g14, h⟩ := if_ h
              refine ld_ok (d := 38) (id := 0) (i := ((0 + (Int.toNat x2)) + (Int.toNat x10))) (j := 0) (e := 3) (n := 1) E3 (xs := l11) (by as_aux_lemma => kernel_rfl) (by as_aux_lemma => kernel_rfl) g14 (by exact Nat.le_of_ble_eq_true rfl) ?_
              refine segs [] tabOk mixed 4000 (S := .and (0 ≤ ((IntKind.i64.wrap (x10 - 1)) : Int) ∧ (IntKind.i64.wrap (x10 - 1)) < (((a0.length - (Int.toNat x2)) : Nat) : Int)) (.leaf 0)) (by as_aux_lemma => kernel_rfl) ?_
              refine gd_ h ?_; clear h; intro g15 h
              refine sk_leaf ?_
              obtain ⟨g16, h⟩ := if_ h
              refine ld_ok (d := 43) (id := 0) (i := ((0 + (Int.toNat x2)) + (Int.toNat (IntKind.i64.wrap (x10 - 1))))) (j := 0) (e := 3) (n := 1) E3 (xs := l11) (by as_aux_lemma => kernel_rfl) (by as_aux_lemma => kernel_rfl) g16 (by exact Nat.le_of_ble_eq_true rfl) ?_
              refine segs [] tabOk mixed 4000 (S := .br (((l11.getD ((0 + (Int.toNat x2)) + (Int.toNat x10)) 0) : Int) != (l11.getD ((0 + (Int.toNat x2)) + (Int.toNat (IntKind.i64.wrap (x10 - 1)))) 0)) (.and (0 ≤ (x10 : Int) ∧ x10 < (((a0.length - (Int.toNat x2)) : Nat) : Int)) (.leaf 0)) (.leaf 1)) (by as_aux_lemma => kernel_rfl) ?_
              refine br_ h ?_ ?_ <;> clear h <;> intro c17 h
              · refine gd_ h ?_; clear h; intro g18 h
                refine sk_leaf ?_
                obtain ⟨g19, h⟩ := if_ h
                refine ld_ok (d := 50) (id := 0) (i := ((0 + (Int.toNat x2)) + (Int.toNat x10))) (j := 0) (e := 3) (n := 1) E3 (xs := l11) (by as_aux_lemma => kernel_rfl) (by as_aux_lemma => kernel_rfl) g19 (by exact Nat.le_of_ble_eq_true rfl) ?_
                refine segs [] tabOk mixed 4000 (S := .and (0 ≤ (x9 : Int) ∧ x9 < ((l11.length : Nat) : Int)) (.leaf 0)) (by as_aux_lemma => kernel_rfl) ?_
                refine gd_ h ?_; clear h; intro g20 h
                refine sk_leaf ?_
                refine st_ok (id := 0) (i := (0 + (Int.toNat x9))) (j := 0) (e := 3) (vs := [.pv (.raw (.int .i64 (l11.getD ((0 + (Int.toNat x2)) + (Int.toNat x10)) 0)))]) E3 (xs := l11) (l11.getD ((0 + (Int.toNat x2)) + (Int.toNat x10)) 0) (by as_aux_lemma => kernel_rfl) (by as_aux_lemma => kernel_rfl) (by first | omega | (simp at * <;> omega) | (simp_all <;> omega)) (by exact Nat.le_of_ble_eq_true rfl) rfl ?_
                refine segs [] tabOk mixed 4000 (S := .leaf 0) (by as_aux_lemma => kernel_rfl) ?_
                refine sk_leaf ?_
                refine back_ok (p := p2) (by as_aux_lemma => kernel_rfl) (hp2 (n2, (IntKind.i64.wrap (x9 + 1)), (IntKind.i64.wrap (x10 + 1)), (l11.set (0 + (Int.toNat x9)) (l11.getD ((0 + (Int.toNat x2)) + (Int.toNat x10)) 0))) _ h (Nat.lt_succ_self n2) ?_)
                exact sub_ok (ρ := [(0, some 0)]) (l := [0 = 0, l11.length = ((l11.set (0 + (Int.toNat x9)) (l11.getD ((0 + (Int.toNat x2)) + (Int.toNat x10)) 0)).length), ((IntKind.i64.wrap (x9 + 1)) : Int) = (IntKind.i64.wrap (x9 + 1)), (0 + (Int.toNat x2)) = (0 + (Int.toNat x2)), (a0.length - (Int.toNat x2)) = (a0.length - (Int.toNat x2)), ((IntKind.i64.wrap (x10 + 1)) : Int) = (IntKind.i64.wrap (x10 + 1)), E3.cR (l11.set (0 + (Int.toNat x9)) (l11.getD ((0 + (Int.toNat x2)) + (Int.toNat x10)) 0)) = E3.cR (l11.set (0 + (Int.toNat x9)) (l11.getD ((0 + (Int.toNat x2)) + (Int.toNat x10)) 0)), AllPv (E3.cR (l11.set (0 + (Int.toNat x9)) (l11.getD ((0 + (Int.toNat x2)) + (Int.toNat x10)) 0)))]) (by as_aux_lemma => kernel_rfl) ⟨rfl, (by first | rfl | (simp; done) | omega | (simp <;> omega)), rfl, rfl, rfl, rfl, rfl, (Elem.cR_pv _ _), trivial⟩
              · refine sk_leaf ?_
                refine back_ok (p := p2) (by as_aux_lemma => kernel_rfl) (hp2 (n2, x9, (IntKind.i64.wrap (x10 + 1)), l11) _ h (Nat.lt_succ_self n2) ?_)
                exact sub_ok (ρ := [(0, some 0)]) (l := [0 = 0, l11.length = l11.length, (x9 : Int) = x9, (0 + (Int.toNat x2)) = (0 + (Int.toNat x2)), (a0.length - (Int.toNat x2)) = (a0.length - (Int.toNat x2)), ((IntKind.i64.wrap (x10 + 1)) : Int) = (IntKind.i64.wrap (x10 + 1)), E3.cR l11 = E3.cR l11, AllPv (E3.cR l11)]) (by as_aux_lemma => kernel_rfl) ⟨rfl, rfl, rfl, rfl, rfl, rfl, rfl, (Elem.cR_pv _ _), trivial⟩
            · replace h := (congrFun (congrFun (congrFun hK2_0 x9) x10) l11).symm.trans h
              refine gd_ h ?_; clear h; intro g21 h
              refine gd_ h ?_; clear h; intro g22 h
              refine sk_leaf ?_
              obtain ⟨g23, h⟩ := if_ h
              refine cl_ok (s := 1) (id := 0) (e := 3) (off := (0 + (Int.toNat x9))) (len := (l11.length - (Int.toNat x9))) E3 (xs := l11) (by as_aux_lemma => kernel_rfl) rfl rfl (by as_aux_lemma => kernel_rfl) g23 ?_
              refine segs [] tabOk mixed 4000 (S := .and (0 ≤ (x9 : Int)) (.and ((Int.toNat x9) ≤ l11.length) (.leaf 0))) (by as_aux_lemma => kernel_rfl) ?_
              refine gd_ h ?_; clear h; intro g24 h
              refine gd_ h ?_; clear h; intro g25 h
              refine sk_leaf ?_
              obtain rfl := some_ h
              exact endR_ok E3 (xs := (cpL l11 (0 + (Int.toNat x9)) (l11.length - (Int.toNat x9)) (List.replicate (l11.length - (Int.toNat x9)) (0 : Int)))) 0 (0 + 0) 20288 ((Int.toNat x9) - 0) 3 1 rfl (by as_aux_lemma => kernel_rfl) (by first | omega | (simp at * <;> omega) | (simp_all <;> omega)) (by as_aux_lemma => kernel_rfl) [(0, some 20288)] Try.results18 (ps := [0 = 0, ((Int.toNat x9) - 0) = (((cpL l11 (0 + (Int.toNat x9)) (l11.length - (Int.toNat x9)) (List.replicate (l11.length - (Int.toNat x9)) (0 : Int))).drop (0 + 0)).take ((Int.toNat x9) - 0)).length, E3.cR (((cpL l11 (0 + (Int.toNat x9)) (l11.length - (Int.toNat x9)) (List.replicate (l11.length - (Int.toNat x9)) (0 : Int))).drop (0 + 0)).take ((Int.toNat x9) - 0)) = E3.cR (((cpL l11 (0 + (Int.toNat x9)) (l11.length - (Int.toNat x9)) (List.replicate (l11.length - (Int.toNat x9)) (0 : Int))).drop (0 + 0)).take ((Int.toNat x9) - 0)), AllPv (E3.cR (((cpL l11 (0 + (Int.toNat x9)) (l11.length - (Int.toNat x9)) (List.replicate (l11.length - (Int.toNat x9)) (0 : Int))).drop (0 + 0)).take ((Int.toNat x9) - 0)))]) (by as_aux_lemma => kernel_rfl) ⟨rfl, (by first | omega | (simp; done) | (simp <;> omega) | (simp at * <;> omega)), rfl, (Elem.cR_pv _ _), trivial⟩ (fun _ => ⟨rfl, by simp only [List.mem_cons, List.not_mem_nil, or_false, forall_eq_or_imp, forall_eq]; exact Elem.cR_bald E3_raw _⟩)
        · refine sk_leaf ?_
          refine back_ok (p := p1) (by as_aux_lemma => kernel_rfl) (hp1 (n1, (IntKind.i64.wrap (x2 + 1))) _ h (Nat.lt_succ_self n1) ?_)
          exact sub_ok (ρ := [(0, some 0)]) (l := [0 = 0, a0.length = a0.length, ((IntKind.i64.wrap (x2 + 1)) : Int) = (IntKind.i64.wrap (x2 + 1)), E3.cR a0 = E3.cR a0, AllPv (E3.cR a0)]) (by as_aux_lemma => kernel_rfl) ⟨rfl, rfl, rfl, rfl, (Elem.cR_pv _ _), trivial⟩
      · refine sk_leaf ?_
        obtain rfl := some_ h
        exact endM_ok [(0, some 0)] Try.results18 (ps := [0 = 0, a0.length = a0.length, E3.cR a0 = E3.cR a0, AllPv (E3.cR a0)]) (by as_aux_lemma => kernel_rfl) ⟨rfl, rfl, rfl, (Elem.cR_pv _ _), trivial⟩ (fun _ => ⟨rfl, by simp only [List.mem_cons, List.not_mem_nil, or_false, forall_eq_or_imp, forall_eq]; exact Elem.cR_bald E3_raw _⟩)

end Go.Proofs.Ytmmhiggfpdjdcaa
