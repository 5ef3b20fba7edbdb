/- The functions do as their models: printed by program. -/
import Derived.Test.YtmmhiggfpdjdcaaQRW6
set_option linter.unusedSimpArgs false
set_option linter.unusedVariables false
namespace Go.Proofs.Ytmmhiggfpdjdcaa
open Go Go.Ab
attribute [local irreducible] V VS runS Sk.Holds

set_option maxHeartbeats 40000000 in
set_option maxRecDepth 100000 in
theorem keep_RunqFirst_ok (a0 : (List Api_RunOp)) (a1 : Int) (r : Bool) (h : keep_RunqFirst a0 a1 = some r) {al : Bool} : PCalls Try.prog 3 [.pv ((E31.ro a0)), .pv (.raw (.int .i64 a1))] al (.pv (.raw (.bool r))) [] := by
  unfold keep_RunqFirst at h
  refine fnZ_ok tabOk [13] Try.func3 (by as_aux_lemma => kernel_rfl) (by as_aux_lemma => kernel_rfl) Try.ntmps3 (by simp) ?_
  refine segs [] tabOk mixed 4000 (S := .leaf 0) (by as_aux_lemma => kernel_rfl) ?_
  refine sk_leaf ?_
  obtain ⟨r1, e2, h⟩ := bd_ h
  refine call_ok (d := some 14) (fn := 8) (ax := []) (args := []) (ps := []) (hb' := []) (by as_aux_lemma => kernel_rfl) (keep_alive13_ok  _ e2 (al := true)) (by as_aux_lemma => kernel_rfl) trivial (fun _ => (by as_aux_lemma => kernel_rfl)) (by simp) rfl (by as_aux_lemma => kernel_rfl) ?_
  refine segs [] tabOk mixed 4000 (S := .br (!r1) (.leaf 0) (.leaf 1)) (by as_aux_lemma => kernel_rfl) ?_
  refine br_ h ?_ ?_ <;> clear h <;> intro c3 h
  · refine sk_leaf ?_
    obtain rfl := some_ h
    exact end_ok [] Try.results3 (ps := [false = false]) (by as_aux_lemma => kernel_rfl) ⟨rfl, trivial⟩ (fun _ => ⟨rfl, by simp⟩)
  · refine sk_leaf ?_
    obtain ⟨r4, e5, h⟩ := bd_ h
    refine call_ok (d := some 18) (fn := 9) (ax := [.pv ((E31.ro a0))]) (args := [.pv ((E31.ro a0))]) (ps := [a0.length = a0.length, ∀ i, i < a0.length → ∀ j, j < 3 → E31.cf (a0.getD i E31.z) j = E31.cf (a0.getD i E31.z) j]) (hb' := [.row 36 1 (E36.cR r4.1), .row 3 1 (E3.cR r4.2.1), .row 3 1 (E3.cR r4.2.2)]) (by as_aux_lemma => kernel_rfl) (runq_Play_ok _ _ e5 (al := true)) (by as_aux_lemma => kernel_rfl) ⟨rfl, fun _ _ _ _ => rfl, trivial⟩ (fun _ => (by as_aux_lemma => kernel_rfl)) (by simp) (by simp only [List.map_cons, List.map_nil, Elem.row_up, up_map] <;> rfl) (by as_aux_lemma => kernel_rfl) ?_
    refine segs [] tabOk mixed 4000 (S := .leaf 0) (by as_aux_lemma => kernel_rfl) ?_
    refine sk_leaf ?_
    obtain ⟨r6, e7, h⟩ := bd_ h
    refine call_ok (d := some 24) (fn := 10) (ax := [.row 17538 1 0 r4.2.2.length, .pv (.raw (.int .i64 a1))]) (args := [.pv ((E3.ro r4.2.2)), .pv (.raw (.int .i64 a1))]) (ps := [r4.2.2.length = r4.2.2.length, rowQ (E3.cR r4.2.2) 1 0 r4.2.2.length (fun i j => E3.cf (r4.2.2.getD i E3.z) j), (a1 : Int) = a1]) (hb' := []) (by as_aux_lemma => kernel_rfl) (slices_Contains_int_ok _ _ _ e7 (al := false)) (by as_aux_lemma => kernel_rfl) ⟨(by first | rfl | exact Elem.sub_len _ (by omega) | omega | simp | (simp <;> omega)), E3.rowQ_all r4.2.2 rfl, rfl, trivial⟩ (fun hx => by cases hx) (by simp) rfl (by as_aux_lemma => kernel_rfl) ?_
    refine segs [] tabOk mixed 4000 (S := .br r6 (.leaf 0) (.leaf 1)) (by as_aux_lemma => kernel_rfl) ?_
    refine br_ h ?_ ?_ <;> clear h <;> intro c8 h
    · refine sk_leaf ?_
      obtain rfl := some_ h
      exact end_ok [] Try.results3 (ps := [true = true]) (by as_aux_lemma => kernel_rfl) ⟨rfl, trivial⟩ (fun _ => ⟨rfl, by simp⟩)
    · refine sk_leaf ?_
      obtain ⟨r9, e10, h⟩ := bd_ h
      refine call_ok (d := some 27) (fn := 11) (ax := [.pv ((E31.ro a0))]) (args := [.pv ((E31.ro a0))]) (ps := [a0.length = a0.length, ∀ i, i < a0.length → ∀ j, j < 3 → E31.cf (a0.getD i E31.z) j = E31.cf (a0.getD i E31.z) j]) (hb' := [.row 31 3 (E31.cR r9)]) (by as_aux_lemma => kernel_rfl) (slices_Clone_api_RunOp_ok _ _ e10 (al := true)) (by as_aux_lemma => kernel_rfl) ⟨rfl, fun _ _ _ _ => rfl, trivial⟩ (fun _ => (by as_aux_lemma => kernel_rfl)) (by simp) (by simp only [List.map_cons, List.map_nil, Elem.row_up, up_map] <;> rfl) (by as_aux_lemma => kernel_rfl) ?_
      refine segs [] tabOk mixed 4000 (S := .leaf 0) (by as_aux_lemma => kernel_rfl) ?_
      refine sk_leaf ?_
      refine bs_ok (d := 30) (e := 31) (s := 3) (n := 1) (cs := [.pv (.raw (.int .i64 2)), .pv (.raw (.int .i64 a1)), .pv (.raw (.int .i64 31))]) (cs' := E31.cR [(⟨2, a1, 31⟩ : Api_RunOp)]) (by as_aux_lemma => kernel_rfl) rfl (by as_aux_lemma => kernel_rfl) ?_
      refine segs [] tabOk mixed 4000 (S := .leaf 0) (by as_aux_lemma => kernel_rfl) ?_
      refine sk_leaf ?_
      obtain ⟨g11, h⟩ := if_ h
      refine app_ok (d := 31) (e := 31) (s := 3) (b := 24) (x := .row 18112 3 0 r9.length) (y := .row 18304 3 0 1) E31 (xs := r9) (ys := [(⟨2, a1, 31⟩ : Api_RunOp)]) (by as_aux_lemma => kernel_rfl) rfl (.row 18112 r9 r9.length rfl (by as_aux_lemma => kernel_rfl)) (.all 18304 31 [(⟨2, a1, 31⟩ : Api_RunOp)] 1 rfl (by as_aux_lemma => kernel_rfl)) g11 (by as_aux_lemma => kernel_rfl) ?_
      refine segs [] tabOk mixed 4000 (S := .leaf 0) (by as_aux_lemma => kernel_rfl) ?_
      refine sk_leaf ?_
      obtain ⟨r12, e13, h⟩ := bd_ h
      refine call_ok (d := some 32) (fn := 9) (ax := [.row 18368 3 0 ((r9 ++ [(⟨2, a1, 31⟩ : Api_RunOp)]).length)]) (args := [.pv ((E31.ro (r9 ++ [(⟨2, a1, 31⟩ : Api_RunOp)])))]) (ps := [((r9 ++ [(⟨2, a1, 31⟩ : Api_RunOp)]).length) = (r9 ++ [(⟨2, a1, 31⟩ : Api_RunOp)]).length, rowQ (E31.cR (r9 ++ [(⟨2, a1, 31⟩ : Api_RunOp)])) 3 0 ((r9 ++ [(⟨2, a1, 31⟩ : Api_RunOp)]).length) (fun i j => E31.cf ((r9 ++ [(⟨2, a1, 31⟩ : Api_RunOp)]).getD i E31.z) j)]) (hb' := [.row 36 1 (E36.cR r12.1), .row 3 1 (E3.cR r12.2.1), .row 3 1 (E3.cR r12.2.2)]) (by as_aux_lemma => kernel_rfl) (runq_Play_ok _ _ e13 (al := false)) (by as_aux_lemma => kernel_rfl) ⟨(by first | rfl | exact Elem.sub_len _ (by omega) | omega | simp | (simp <;> omega)), E31.rowQ_all (r9 ++ [(⟨2, a1, 31⟩ : Api_RunOp)]) rfl, trivial⟩ (fun hx => by cases hx) (by simp) (by simp only [List.map_cons, List.map_nil, Elem.row_up, up_map] <;> rfl) (by as_aux_lemma => kernel_rfl) ?_
      refine segs [] tabOk mixed 4000 (S := .leaf 0) (by as_aux_lemma => kernel_rfl) ?_
      refine sk_leaf ?_
      obtain ⟨r14, e15, h⟩ := bd_ h
      refine call_ok (d := some 38) (fn := 11) (ax := [.pv ((E31.ro a0))]) (args := [.pv ((E31.ro a0))]) (ps := [a0.length = a0.length, ∀ i, i < a0.length → ∀ j, j < 3 → E31.cf (a0.getD i E31.z) j = E31.cf (a0.getD i E31.z) j]) (hb' := [.row 31 3 (E31.cR r14)]) (by as_aux_lemma => kernel_rfl) (slices_Clone_api_RunOp_ok _ _ e15 (al := true)) (by as_aux_lemma => kernel_rfl) ⟨rfl, fun _ _ _ _ => rfl, trivial⟩ (fun _ => (by as_aux_lemma => kernel_rfl)) (by simp) (by simp only [List.map_cons, List.map_nil, Elem.row_up, up_map] <;> rfl) (by as_aux_lemma => kernel_rfl) ?_
      refine segs [] tabOk mixed 4000 (S := .leaf 0) (by as_aux_lemma => kernel_rfl) ?_
      refine sk_leaf ?_
      refine bs_ok (d := 41) (e := 31) (s := 3) (n := 1) (cs := [.pv (.raw (.int .i64 1)), .pv (.raw (.int .i64 a1)), .pv (.raw (.int .i64 0))]) (cs' := E31.cR [(⟨1, a1, 0⟩ : Api_RunOp)]) (by as_aux_lemma => kernel_rfl) rfl (by as_aux_lemma => kernel_rfl) ?_
      refine segs [] tabOk mixed 4000 (S := .leaf 0) (by as_aux_lemma => kernel_rfl) ?_
      refine sk_leaf ?_
      obtain ⟨g16, h⟩ := if_ h
      refine app_ok (d := 42) (e := 31) (s := 3) (b := 24) (x := .row 18816 3 0 r14.length) (y := .row 19008 3 0 1) E31 (xs := r14) (ys := [(⟨1, a1, 0⟩ : Api_RunOp)]) (by as_aux_lemma => kernel_rfl) rfl (.row 18816 r14 r14.length rfl (by as_aux_lemma => kernel_rfl)) (.all 19008 31 [(⟨1, a1, 0⟩ : Api_RunOp)] 1 rfl (by as_aux_lemma => kernel_rfl)) g16 (by as_aux_lemma => kernel_rfl) ?_
      refine segs [] tabOk mixed 4000 (S := .leaf 0) (by as_aux_lemma => kernel_rfl) ?_
      refine sk_leaf ?_
      obtain ⟨r17, e18, h⟩ := bd_ h
      refine call_ok (d := some 43) (fn := 9) (ax := [.row 19072 3 0 ((r14 ++ [(⟨1, a1, 0⟩ : Api_RunOp)]).length)]) (args := [.pv ((E31.ro (r14 ++ [(⟨1, a1, 0⟩ : Api_RunOp)])))]) (ps := [((r14 ++ [(⟨1, a1, 0⟩ : Api_RunOp)]).length) = (r14 ++ [(⟨1, a1, 0⟩ : Api_RunOp)]).length, rowQ (E31.cR (r14 ++ [(⟨1, a1, 0⟩ : Api_RunOp)])) 3 0 ((r14 ++ [(⟨1, a1, 0⟩ : Api_RunOp)]).length) (fun i j => E31.cf ((r14 ++ [(⟨1, a1, 0⟩ : Api_RunOp)]).getD i E31.z) j)]) (hb' := [.row 36 1 (E36.cR r17.1), .row 3 1 (E3.cR r17.2.1), .row 3 1 (E3.cR r17.2.2)]) (by as_aux_lemma => kernel_rfl) (runq_Play_ok _ _ e18 (al := false)) (by as_aux_lemma => kernel_rfl) ⟨(by first | rfl | exact Elem.sub_len _ (by omega) | omega | simp | (simp <;> omega)), E31.rowQ_all (r14 ++ [(⟨1, a1, 0⟩ : Api_RunOp)]) rfl, trivial⟩ (fun hx => by cases hx) (by simp) (by simp only [List.map_cons, List.map_nil, Elem.row_up, up_map] <;> rfl) (by as_aux_lemma => kernel_rfl) ?_
      refine segs [] tabOk mixed 4000 (S := .leaf 0) (by as_aux_lemma => kernel_rfl) ?_
      refine sk_leaf ?_
      obtain ⟨r19, e20, h⟩ := bd_ h
      refine call_ok (d := some 49) (fn := 14) (ax := [.row 17538 1 0 r4.2.2.length]) (args := [.pv ((E3.ro r4.2.2))]) (ps := [r4.2.2.length = r4.2.2.length, rowQ (E3.cR r4.2.2) 1 0 r4.2.2.length (fun i j => E3.cf (r4.2.2.getD i E3.z) j)]) (hb' := [.row 3 1 (E3.cR r19)]) (by as_aux_lemma => kernel_rfl) (slices_Clone_int_ok _ _ e20 (al := false)) (by as_aux_lemma => kernel_rfl) ⟨(by first | rfl | exact Elem.sub_len _ (by omega) | omega | simp | (simp <;> omega)), E3.rowQ_all r4.2.2 rfl, trivial⟩ (fun hx => by cases hx) (by simp) (by simp only [List.map_cons, List.map_nil, Elem.row_up, up_map] <;> rfl) (by as_aux_lemma => kernel_rfl) ?_
      refine segs [] tabOk mixed 4000 (S := .leaf 0) (by as_aux_lemma => kernel_rfl) ?_
      refine sk_leaf ?_
      refine bs_ok (d := 51) (e := 3) (s := 1) (n := 1) (cs := [.pv (.raw (.int .i64 a1))]) (cs' := E3.cR [a1]) (by as_aux_lemma => kernel_rfl) rfl (by as_aux_lemma => kernel_rfl) ?_
      refine segs [] tabOk mixed 4000 (S := .leaf 0) (by as_aux_lemma => kernel_rfl) ?_
      refine sk_leaf ?_
      obtain ⟨r21, e22, h⟩ := bd_ h
      refine mcall_ok (d := some 52) (fn := 13) (ax := [.row 19520 1 0 r19.length, .pv (.raw (.int .i64 0)), .row 19648 1 0 1]) (hs := [(19712, .row 3 1 (E3.cR r21))]) (del := [19520, 19648]) (ps := [0 = 0, r19.length = r19.length, (0 : Int) = 0, 0 = 0, 1 = ([a1].length), E3.cR r19 = E3.cR r19, AllPv (E3.cR r19), E3.cR [a1] = E3.cR [a1], AllPv (E3.cR [a1])]) [(0, some 19520), (1, some 19648)] (by as_aux_lemma => kernel_rfl) (slices_Insert_int_ok _ _ _ _ e22 (al := false)) (by as_aux_lemma => kernel_rfl) ⟨rfl, rfl, rfl, rfl, (by first | rfl | simp), rfl, (Elem.cR_pv _ _), rfl, (Elem.cR_pv _ _), trivial⟩ (by as_aux_lemma => kernel_rfl) (by simp only [List.cons_append, List.nil_append, List.append_nil, rB, rA, fl, mset_row, mset_box, mset_nil, mset_map, List.set_set]; kernel_rfl) (by as_aux_lemma => kernel_rfl) ?_
      refine segs [] tabOk mixed 4000 (S := .leaf 0) (by as_aux_lemma => kernel_rfl) ?_
      refine sk_leaf ?_
      obtain ⟨r23, e24, h⟩ := bd_ h
      refine call_ok (d := some 53) (fn := 12) (ax := [.row 18434 1 0 r12.2.2.length, .row 19712 1 0 r21.length]) (args := [.pv ((E3.ro r12.2.2)), .pv ((E3.ro r21))]) (ps := [r12.2.2.length = r12.2.2.length, rowQ (E3.cR r12.2.2) 1 0 r12.2.2.length (fun i j => E3.cf (r12.2.2.getD i E3.z) j), r21.length = r21.length, rowQ (E3.cR r21) 1 0 r21.length (fun i j => E3.cf (r21.getD i E3.z) j)]) (hb' := []) (by as_aux_lemma => kernel_rfl) (slices_Equal_int_ok _ _ _ e24 (al := false)) (by as_aux_lemma => kernel_rfl) ⟨(by first | rfl | exact Elem.sub_len _ (by omega) | omega | simp | (simp <;> omega)), E3.rowQ_all r12.2.2 rfl, (by first | rfl | exact Elem.sub_len _ (by omega) | omega | simp | (simp <;> omega)), E3.rowQ_all r21 rfl, trivial⟩ (fun hx => by cases hx) (by simp) rfl (by as_aux_lemma => kernel_rfl) ?_
      refine segs [] tabOk mixed 4000 (S := .leaf 0) (by as_aux_lemma => kernel_rfl) ?_
      refine sk_leaf ?_
      refine gsp_ h ?_ ?_ <;> clear h <;> intro c25 h
      · refine unG_ok (g := r23) (ws := [r23 = true]) (by as_aux_lemma => kernel_rfl) (by as_aux_lemma => kernel_rfl) c25 ⟨((by decide : ∀ y0 : Bool, ((y0 = true) → (y0 = true))) r23) c25, trivial⟩ ?_
        obtain ⟨r26, e27, h⟩ := bd_ h
        refine call_ok (d := some 57) (fn := 14) (ax := [.row 17538 1 0 r4.2.2.length]) (args := [.pv ((E3.ro r4.2.2))]) (ps := [r4.2.2.length = r4.2.2.length, rowQ (E3.cR r4.2.2) 1 0 r4.2.2.length (fun i j => E3.cf (r4.2.2.getD i E3.z) j)]) (hb' := [.row 3 1 (E3.cR r26)]) (by as_aux_lemma => kernel_rfl) (slices_Clone_int_ok _ _ e27 (al := false)) (by as_aux_lemma => kernel_rfl) ⟨(by first | rfl | exact Elem.sub_len _ (by omega) | omega | simp | (simp <;> omega)), E3.rowQ_all r4.2.2 rfl, trivial⟩ (fun hx => by cases hx) (by simp) (by simp only [List.map_cons, List.map_nil, Elem.row_up, up_map] <;> rfl) (by as_aux_lemma => kernel_rfl) ?_
        refine gdw_ok (g := r23) (ws := [r23 = true]) (by as_aux_lemma => kernel_rfl) ?_
        refine segs [] tabOk mixed 4000 (S := .leaf 0) (by as_aux_lemma => kernel_rfl) ?_
        refine sk_leaf ?_
        refine unG_ok (g := r23) (ws := [r23 = true]) (by as_aux_lemma => kernel_rfl) (by as_aux_lemma => kernel_rfl) c25 ⟨((by decide : ∀ y0 : Bool, ((y0 = true) → (y0 = true))) r23) c25, trivial⟩ ?_
        refine bs_ok (d := 59) (e := 3) (s := 1) (n := 1) (cs := [.pv (.raw (.int .i64 a1))]) (cs' := E3.cR [a1]) (by as_aux_lemma => kernel_rfl) rfl (by as_aux_lemma => kernel_rfl) ?_
        refine gdw_ok (g := r23) (ws := [r23 = true]) (by as_aux_lemma => kernel_rfl) ?_
        refine segs [] tabOk mixed 4000 (S := .leaf 0) (by as_aux_lemma => kernel_rfl) ?_
        refine sk_leaf ?_
        refine unG_ok (g := r23) (ws := [r23 = true, r23 = true]) (by as_aux_lemma => kernel_rfl) (by as_aux_lemma => kernel_rfl) c25 ⟨((by decide : ∀ y0 : Bool, ((y0 = true) → (y0 = true))) r23) c25, ((by decide : ∀ y0 : Bool, ((y0 = true) → (y0 = true))) r23) c25, trivial⟩ ?_
        obtain ⟨g28, h⟩ := if_ h
        refine app_ok (d := 60) (e := 3) (s := 1) (b := 8) (x := .row 20032 1 0 r26.length) (y := .row 20160 1 0 1) E3 (xs := r26) (ys := [a1]) (by as_aux_lemma => kernel_rfl) rfl (.row 20032 r26 r26.length rfl (by as_aux_lemma => kernel_rfl)) (.all 20160 3 [a1] 1 rfl (by as_aux_lemma => kernel_rfl)) g28 (by as_aux_lemma => kernel_rfl) ?_
        refine gdw_ok (g := r23) (ws := [r23 = true, r23 = true]) (by as_aux_lemma => kernel_rfl) ?_
        refine segs [] tabOk mixed 4000 (S := .leaf 0) (by as_aux_lemma => kernel_rfl) ?_
        refine sk_leaf ?_
        refine unG_ok (g := r23) (ws := [r23 = true, r23 = true]) (by as_aux_lemma => kernel_rfl) (by as_aux_lemma => kernel_rfl) c25 ⟨((by decide : ∀ y0 : Bool, ((y0 = true) → (y0 = true))) r23) c25, ((by decide : ∀ y0 : Bool, ((y0 = true) → (y0 = true))) r23) c25, trivial⟩ ?_
        obtain ⟨r29, e30, h⟩ := bd_ h
        refine call_ok (d := some 61) (fn := 12) (ax := [.row 19138 1 0 r17.2.2.length, .row 20224 1 0 ((r26 ++ [a1]).length)]) (args := [.pv ((E3.ro r17.2.2)), .pv ((E3.ro (r26 ++ [a1])))]) (ps := [r17.2.2.length = r17.2.2.length, rowQ (E3.cR r17.2.2) 1 0 r17.2.2.length (fun i j => E3.cf (r17.2.2.getD i E3.z) j), ((r26 ++ [a1]).length) = (r26 ++ [a1]).length, rowQ (E3.cR (r26 ++ [a1])) 1 0 ((r26 ++ [a1]).length) (fun i j => E3.cf ((r26 ++ [a1]).getD i E3.z) j)]) (hb' := []) (by as_aux_lemma => kernel_rfl) (slices_Equal_int_ok _ _ _ e30 (al := false)) (by as_aux_lemma => kernel_rfl) ⟨(by first | rfl | exact Elem.sub_len _ (by omega) | omega | simp | (simp <;> omega)), E3.rowQ_all r17.2.2 rfl, (by first | rfl | exact Elem.sub_len _ (by omega) | omega | simp | (simp <;> omega)), E3.rowQ_all (r26 ++ [a1]) rfl, trivial⟩ (fun hx => by cases hx) (by simp) rfl (by as_aux_lemma => kernel_rfl) ?_
        refine gdw_ok (g := r23) (ws := [r23 = true, r23 = true]) (by as_aux_lemma => kernel_rfl) ?_
        refine segs [] tabOk mixed 4000 (S := .and (r23 = true → r23 = true) (.leaf 0)) (by as_aux_lemma => kernel_rfl) ?_
        refine sk_and ((by decide : ∀ y0 : Bool, ((y0 = true) → (y0 = true))) r23) ?_
        refine sk_leaf ?_
        obtain rfl := some_ h
        exact end_ok [] Try.results3 (ps := [(r23 && r29) = (r23 && r29)]) (by as_aux_lemma => kernel_rfl) ⟨rfl, trivial⟩ (fun _ => ⟨rfl, by simp⟩)
      · refine skG_ok (g := r23) (ws := [r23 = true]) (.pv (.raw (.slice none 0 0))) (by as_aux_lemma => kernel_rfl) c25 ?_
        refine segs [] tabOk mixed 4000 (S := .leaf 0) (by as_aux_lemma => kernel_rfl) ?_
        refine sk_leaf ?_
        refine skG_ok (g := r23) (ws := [r23 = true]) (.pv (.raw (.slice none 0 0))) (by as_aux_lemma => kernel_rfl) c25 ?_
        refine segs [] tabOk mixed 4000 (S := .leaf 0) (by as_aux_lemma => kernel_rfl) ?_
        refine sk_leaf ?_
        refine skG_ok (g := r23) (ws := [r23 = true, r23 = true]) (.pv (.raw (.slice none 0 0))) (by as_aux_lemma => kernel_rfl) c25 ?_
        refine segs [] tabOk mixed 4000 (S := .leaf 0) (by as_aux_lemma => kernel_rfl) ?_
        refine sk_leaf ?_
        refine skG_ok (g := r23) (ws := [r23 = true, r23 = true]) (.pv (.raw (.bool false))) (by as_aux_lemma => kernel_rfl) c25 ?_
        refine segs [] tabOk mixed 4000 (S := .and (r23 = true → r23 = true) (.leaf 0)) (by as_aux_lemma => kernel_rfl) ?_
        refine sk_and ((by decide : ∀ y0 : Bool, ((y0 = true) → (y0 = true))) r23) ?_
        refine sk_leaf ?_
        obtain rfl := some_ h
        exact end_ok [] Try.results3 (ps := [(r23 && false) = (r23 && false)]) (by as_aux_lemma => kernel_rfl) ⟨rfl, trivial⟩ (fun _ => ⟨rfl, by simp⟩)

set_option maxHeartbeats 40000000 in
set_option maxRecDepth 100000 in
theorem keep_RunqDrop_1_ok (a0 : Int) (a1 : Int) (r : Bool) (h : keep_RunqDrop_1 a0 a1 = some r) {al : Bool} : PCalls Try.prog 16 [.pv (.raw (.int .i64 a0)), .roat 1 (fun j => E3.cf a1 j)] al (.pv (.raw (.bool r))) [] := by
  unfold keep_RunqDrop_1 at h
  refine fn_ok tabOk Try.func16 (by as_aux_lemma => kernel_rfl) (by as_aux_lemma => kernel_rfl) Try.ntmps16 (by simp) ?_
  refine segs [] tabOk mixed 4000 (S := .leaf 0) (by as_aux_lemma => kernel_rfl) ?_
  refine sk_leaf ?_
  obtain rfl := some_ h
  exact end_ok [] Try.results16 (ps := [((a0 : Int) == a1) = ((a0 : Int) == a1)]) (by as_aux_lemma => kernel_rfl) ⟨rfl, trivial⟩ (fun _ => ⟨rfl, by simp⟩)

set_option maxHeartbeats 40000000 in
set_option maxRecDepth 100000 in
theorem slices_IndexFunc_int_keep_RunqDrop_1_ok (a0 : (List Int)) (a1 : Int) (r : Int) (h : slices_IndexFunc_int_keep_RunqDrop_1 a0 a1 = some r) {al : Bool} : PCalls Try.prog 26 [.pv ((E3.ro a0)), .fn 16 [.roat 1 (fun j => E3.cf a1 j)]] al (.pv (.raw (.int .i64 r))) [] := by
  unfold slices_IndexFunc_int_keep_RunqDrop_1 at h
  refine fn_ok tabOk Try.func26 (by as_aux_lemma => kernel_rfl) (by as_aux_lemma => kernel_rfl) Try.ntmps26 (by simp) ?_
  refine segs [] tabOk mixed 4000 (S := .leaf 0) (by as_aux_lemma => kernel_rfl) ?_
  refine sk_leaf ?_
  refine len_ro (by as_aux_lemma => kernel_rfl) 0 (s := 1) (n := a0.length) (c := fun i j => E3.cf (a0.getD i E3.z) j) (by as_aux_lemma => kernel_rfl) ?_; intro hl1_0
  replace h : (fun (x : Nat × Nat) => slices_IndexFunc_int_keep_RunqDrop_1_l1 a0 a1 x.1 x.2 = some r) (FUEL, 0) := h
  refine loop_ok (by as_aux_lemma => kernel_rfl) (X := Nat × Nat) (fun x => slices_IndexFunc_int_keep_RunqDrop_1_l1 a0 a1 x.1 x.2 = some r) (fun x => x.1) (fun x => mk 19 [(0, .pv ((E3.ro a0))), (1, .fn 16 [.roat 1 (fun j => E3.cf a1 j)]), (4, .pv (.raw (.int .i64 0))), (7, .pv (.raw (.int .i64 ((a0.length : Nat) : Int)))), (8, .pv (.raw (.int .i64 ((x.2 : Nat) : Int))))] []) (FUEL, 0) h ?_ ?_
  · exact sub_ok (ρ := []) (l := [a0.length = a0.length, ∀ i, i < a0.length → ∀ j, j < 1 → E3.cf (a0.getD i E3.z) j = E3.cf (a0.getD i E3.z) j, (a1 : Int) = a1, (0 : Int) = 0, (((a0.length : Nat) : Int) : Int) = ((a0.length : Nat) : Int), (0 : Int) = ((0 : Nat) : Int)]) (by as_aux_lemma => kernel_rfl) ⟨rfl, fun _ _ _ _ => rfl, rfl, rfl, rfl, (by first | rfl | simp), trivial⟩
  · clear h; rintro ⟨n1, k1⟩ h p1 hp1
    obtain _ | n1 := n1
    · cases (show (none : Option (Int)) = some r from h)
    have h : slices_IndexFunc_int_keep_RunqDrop_1_l1 a0 a1 (n1 + 1) k1 = some r := h
    unfold slices_IndexFunc_int_keep_RunqDrop_1_l1 at h
    refine segs [] tabOk mixed 4000 (S := .br (decide ((((k1 : Nat) : Int) : Int) < ((a0.length : Nat) : Int))) (.and (0 ≤ (((k1 : Nat) : Int) : Int) ∧ ((k1 : Nat) : Int) < ((a0.length : Nat) : Int)) (.leaf 0)) (.leaf 1)) (by as_aux_lemma => kernel_rfl) ?_
    refine br_ h ?_ ?_ <;> clear h <;> intro c2 h
    · refine sk_and ⟨Int.natCast_nonneg _, of_decide_eq_true c2⟩ ?_
      refine sk_leaf ?_
      obtain ⟨r4, e5, h⟩ := bd_ h
      refine call_ok (d := some 16) (fn := 16) (ax := [.pv (.raw (.int .i64 (a0.getD k1 0))), .roat 1 (fun j => E3.cf a1 j)]) (args := [.pv (.raw (.int .i64 (a0.getD k1 0))), .roat 1 (fun j => E3.cf a1 j)]) (ps := [((a0.getD k1 0) : Int) = (a0.getD k1 0), (a1 : Int) = a1]) (hb' := []) (by as_aux_lemma => kernel_rfl) (keep_RunqDrop_1_ok _ _ _ e5 (al := false)) (by as_aux_lemma => kernel_rfl) ⟨rfl, rfl, trivial⟩ (fun hx => by cases hx) (by simp) rfl (by as_aux_lemma => kernel_rfl) ?_
      refine segs [] tabOk mixed 4000 (S := .br r4 (.leaf 0) (.leaf 1)) (by as_aux_lemma => kernel_rfl) ?_
      refine br_ h ?_ ?_ <;> clear h <;> intro c6 h
      · refine sk_leaf ?_
        obtain rfl := some_ h
        exact end_ok [] Try.results26 (ps := [(((k1 : Nat) : Int) : Int) = ((k1 : Nat) : Int)]) (by as_aux_lemma => kernel_rfl) ⟨rfl, trivial⟩ (fun _ => ⟨rfl, by simp⟩)
      · refine sk_leaf ?_
        refine back_ok (p := p1) (by as_aux_lemma => kernel_rfl) (hp1 (n1, k1 + 1) _ h (Nat.lt_succ_self n1) ?_)
        exact sub_ok (ρ := []) (l := [a0.length = a0.length, ∀ i, i < a0.length → ∀ j, j < 1 → E3.cf (a0.getD i E3.z) j = E3.cf (a0.getD i E3.z) j, (a1 : Int) = a1, (0 : Int) = 0, (((a0.length : Nat) : Int) : Int) = ((a0.length : Nat) : Int), ((IntKind.i64.wrap (((k1 : Nat) : Int) + 1)) : Int) = (((k1 + 1) : Nat) : Int)]) (by as_aux_lemma => kernel_rfl) ⟨rfl, fun _ _ _ _ => rfl, rfl, rfl, rfl, (wrap_nat (Int.ofNat_lt.1 (of_decide_eq_true c2)) (by omega)), trivial⟩
    · refine sk_leaf ?_
      obtain rfl := some_ h
      exact end_ok [] Try.results26 (ps := [((-1) : Int) = (-1)]) (by as_aux_lemma => kernel_rfl) ⟨rfl, trivial⟩ (fun _ => ⟨rfl, by simp⟩)

set_option maxHeartbeats 40000000 in
set_option maxRecDepth 100000 in
theorem slices_DeleteFunc_int_keep_RunqDrop_1_h0_ok (a0 : (List Int)) (a1 : Int) (r : (List Int)) (h : slices_DeleteFunc_int_keep_RunqDrop_1_h0 a0 a1 = some r) {al : Bool} : MCalls Try.prog 15 [.row 0 1 0 a0.length, .fn 16 [.roat 1 (fun j => E3.cf a1 j)]] [.row 3 1 (E3.cR a0)] 0 al (.row 0 1 0 r.length) [.row 3 1 (E3.cR r)] := by
  unfold slices_DeleteFunc_int_keep_RunqDrop_1_h0 at h
  refine fnM_ok tabOk (fz := []) Try.func15 (by as_aux_lemma => kernel_rfl) (by as_aux_lemma => kernel_rfl) Try.ntmps15 (by simp) (by first | (simp; done) | exact Nat.le_of_ble_eq_true rfl) ?_
  refine segs [] tabOk mixed 4000 (S := .leaf 0) (by as_aux_lemma => kernel_rfl) ?_
  refine sk_leaf ?_
  obtain ⟨r1, e2, h⟩ := bd_ h
  refine call_ok (d := some 10) (fn := 26) (ax := [.row 0 1 0 a0.length, .fn 16 [.roat 1 (fun j => E3.cf a1 j)]]) (args := [.pv ((E3.ro a0)), .fn 16 [.roat 1 (fun j => E3.cf a1 j)]]) (ps := [a0.length = a0.length, rowQ (E3.cR a0) 1 0 a0.length (fun i j => E3.cf (a0.getD i E3.z) j), (a1 : Int) = a1]) (hb' := []) (by as_aux_lemma => kernel_rfl) (slices_IndexFunc_int_keep_RunqDrop_1_ok _ _ _ e2 (al := false)) (by as_aux_lemma => kernel_rfl) ⟨(by first | rfl | exact Elem.sub_len _ (by omega) | omega | simp | (simp <;> omega)), E3.rowQ_all a0 rfl, rfl, trivial⟩ (fun hx => by cases hx) (by simp) rfl (by as_aux_lemma => kernel_rfl) ?_
  refine segs [] tabOk mixed 4000 (S := .br ((r1 : Int) == (-1)) (.leaf 0) (.leaf 1)) (by as_aux_lemma => kernel_rfl) ?_
  refine br_ h ?_ ?_ <;> clear h <;> intro c3 h
  · refine sk_leaf ?_
    obtain rfl := some_ h
    exact endM_ok [(0, some 0)] Try.results15 (ps := [0 = 0, a0.length = a0.length, E3.cR a0 = E3.cR a0, AllPv (E3.cR a0)]) (by as_aux_lemma => kernel_rfl) ⟨rfl, rfl, rfl, (Elem.cR_pv _ _), trivial⟩ (fun _ => ⟨rfl, by simp only [List.mem_cons, List.not_mem_nil, or_false, forall_eq_or_imp, forall_eq]; exact Elem.cR_bald E3_raw _⟩)
  · refine sk_leaf ?_
    refine len_row (by as_aux_lemma => kernel_rfl) 0 (e := 3) (s := 1) (n := a0.length) (cs := E3.cR a0) (by as_aux_lemma => kernel_rfl) (Elem.cR_length _ _) ?_; intro hl1_0
    replace h : (fun (x : Nat × Int × Int × List Int) => slices_DeleteFunc_int_keep_RunqDrop_1_h0_l1 a0 a1 r1 x.1 x.2.1 x.2.2.1 x.2.2.2 = some r) (FUEL, r1, (IntKind.i64.wrap (r1 + 1)), a0) := h
    refine loop_ok (by as_aux_lemma => kernel_rfl) (X := Nat × Int × Int × List Int) (fun x => slices_DeleteFunc_int_keep_RunqDrop_1_h0_l1 a0 a1 r1 x.1 x.2.1 x.2.2.1 x.2.2.2 = some r) (fun x => x.1) (fun x => mk 42 [(0, .row 0 1 0 x.2.2.2.length), (1, .fn 16 [.roat 1 (fun j => E3.cf a1 j)]), (4, .pv (.raw (.slice none 0 0))), (5, .pv (.raw (.int .i64 x.2.1))), (6, .pv (.raw (.int .i64 x.2.2.1)))] [(0, .row 3 1 (E3.cR x.2.2.2))]) (FUEL, r1, (IntKind.i64.wrap (r1 + 1)), a0) h ?_ ?_
    · exact sub_ok (ρ := [(0, some 0)]) (l := [0 = 0, a0.length = a0.length, (a1 : Int) = a1, (r1 : Int) = r1, ((IntKind.i64.wrap (r1 + 1)) : Int) = (IntKind.i64.wrap (r1 + 1)), E3.cR a0 = E3.cR a0, AllPv (E3.cR a0)]) (by as_aux_lemma => kernel_rfl) ⟨rfl, rfl, rfl, rfl, rfl, rfl, (Elem.cR_pv _ _), trivial⟩
    · clear h; rintro ⟨n1, x4, x5, l6⟩ h p1 hp1
      obtain _ | n1 := n1
      · cases (show (none : Option ((List Int))) = some r from h)
      have h : slices_DeleteFunc_int_keep_RunqDrop_1_h0_l1 a0 a1 r1 (n1 + 1) x4 x5 l6 = some r := h
      unfold slices_DeleteFunc_int_keep_RunqDrop_1_h0_l1 at h
      refine segs [] tabOk mixed 4000 (S := .br (decide ((x5 : Int) < ((l6.length : Nat) : Int))) (.and (0 ≤ (x5 : Int) ∧ x5 < ((l6.length : Nat) : Int)) (.leaf 0)) (.and (0 ≤ (x4 : Int)) (.and ((Int.toNat x4) ≤ l6.length) (.leaf 1)))) (by as_aux_lemma => kernel_rfl) ?_
      refine br_ h ?_ ?_ <;> clear h <;> intro c7 h
      · refine gd_ h ?_; clear h; intro g8 h
        refine sk_leaf ?_
        refine ld_ok (d := 25) (id := 0) (i := (0 + (Int.toNat x5))) (j := 0) (e := 3) (n := 1) E3 (xs := l6) (by as_aux_lemma => kernel_rfl) (by as_aux_lemma => kernel_rfl) (by first | omega | (simp at * <;> omega) | (simp_all <;> omega)) (by exact Nat.le_of_ble_eq_true rfl) ?_
        refine segs [] tabOk mixed 4000 (S := .leaf 0) (by as_aux_lemma => kernel_rfl) ?_
        refine sk_leaf ?_
        obtain ⟨r9, e10, h⟩ := bd_ h
        refine call_ok (d := some 28) (fn := 16) (ax := [.pv (.raw (.int .i64 (l6.getD (0 + (Int.toNat x5)) 0))), .roat 1 (fun j => E3.cf a1 j)]) (args := [.pv (.raw (.int .i64 (l6.getD (0 + (Int.toNat x5)) 0))), .roat 1 (fun j => E3.cf a1 j)]) (ps := [((l6.getD (0 + (Int.toNat x5)) 0) : Int) = (l6.getD (0 + (Int.toNat x5)) 0), (a1 : Int) = a1]) (hb' := []) (by as_aux_lemma => kernel_rfl) (keep_RunqDrop_1_ok _ _ _ e10 (al := false)) (by as_aux_lemma => kernel_rfl) ⟨rfl, rfl, trivial⟩ (fun hx => by cases hx) (by simp) rfl (by as_aux_lemma => kernel_rfl) ?_
        refine segs [] tabOk mixed 4000 (S := .br (!r9) (.and (0 ≤ (x4 : Int) ∧ x4 < ((l6.length : Nat) : Int)) (.leaf 0)) (.leaf 1)) (by as_aux_lemma => kernel_rfl) ?_
        refine br_ h ?_ ?_ <;> clear h <;> intro c11 h
        · refine gd_ h ?_; clear h; intro g12 h
          refine sk_leaf ?_
          refine st_ok (id := 0) (i := (0 + (Int.toNat x4))) (j := 0) (e := 3) (vs := [.pv (.raw (.int .i64 (l6.getD (0 + (Int.toNat x5)) 0)))]) E3 (xs := l6) (l6.getD (0 + (Int.toNat x5)) 0) (by as_aux_lemma => kernel_rfl) (by as_aux_lemma => kernel_rfl) (by first | omega | (simp at * <;> omega) | (simp_all <;> omega)) (by exact Nat.le_of_ble_eq_true rfl) rfl ?_
          refine segs [] tabOk mixed 4000 (S := .leaf 0) (by as_aux_lemma => kernel_rfl) ?_
          refine sk_leaf ?_
          refine back_ok (p := p1) (by as_aux_lemma => kernel_rfl) (hp1 (n1, (IntKind.i64.wrap (x4 + 1)), (IntKind.i64.wrap (x5 + 1)), (l6.set (0 + (Int.toNat x4)) (l6.getD (0 + (Int.toNat x5)) 0))) _ h (Nat.lt_succ_self n1) ?_)
          exact sub_ok (ρ := [(0, some 0)]) (l := [0 = 0, l6.length = ((l6.set (0 + (Int.toNat x4)) (l6.getD (0 + (Int.toNat x5)) 0)).length), (a1 : Int) = a1, ((IntKind.i64.wrap (x4 + 1)) : Int) = (IntKind.i64.wrap (x4 + 1)), ((IntKind.i64.wrap (x5 + 1)) : Int) = (IntKind.i64.wrap (x5 + 1)), E3.cR (l6.set (0 + (Int.toNat x4)) (l6.getD (0 + (Int.toNat x5)) 0)) = E3.cR (l6.set (0 + (Int.toNat x4)) (l6.getD (0 + (Int.toNat x5)) 0)), AllPv (E3.cR (l6.set (0 + (Int.toNat x4)) (l6.getD (0 + (Int.toNat x5)) 0)))]) (by as_aux_lemma => kernel_rfl) ⟨rfl, (by first | rfl | (simp; done) | omega | (simp <;> omega)), rfl, rfl, rfl, rfl, (Elem.cR_pv _ _), trivial⟩
        · refine sk_leaf ?_
          refine back_ok (p := p1) (by as_aux_lemma => kernel_rfl) (hp1 (n1, x4, (IntKind.i64.wrap (x5 + 1)), l6) _ h (Nat.lt_succ_self n1) ?_)
          exact sub_ok (ρ := [(0, some 0)]) (l := [0 = 0, l6.length = l6.length, (a1 : Int) = a1, (x4 : Int) = x4, ((IntKind.i64.wrap (x5 + 1)) : Int) = (IntKind.i64.wrap (x5 + 1)), E3.cR l6 = E3.cR l6, AllPv (E3.cR l6)]) (by as_aux_lemma => kernel_rfl) ⟨rfl, rfl, rfl, rfl, rfl, rfl, (Elem.cR_pv _ _), trivial⟩
      · refine gd_ h ?_; clear h; intro g13 h
        refine gd_ h ?_; clear h; intro g14 h
        refine sk_leaf ?_
        obtain ⟨g15, h⟩ := if_ h
        refine cl_ok (s := 1) (id := 0) (e := 3) (off := (0 + (Int.toNat x4))) (len := (l6.length - (Int.toNat x4))) E3 (xs := l6) (by as_aux_lemma => kernel_rfl) rfl rfl (by as_aux_lemma => kernel_rfl) g15 ?_
        refine segs [] tabOk mixed 4000 (S := .and (0 ≤ (x4 : Int)) (.and ((Int.toNat x4) ≤ l6.length) (.leaf 0))) (by as_aux_lemma => kernel_rfl) ?_
        refine gd_ h ?_; clear h; intro g16 h
        refine gd_ h ?_; clear h; intro g17 h
        refine sk_leaf ?_
        obtain rfl := some_ h
        exact endR_ok E3 (xs := (cpL l6 (0 + (Int.toNat x4)) (l6.length - (Int.toNat x4)) (List.replicate (l6.length - (Int.toNat x4)) (0 : Int)))) 0 (0 + 0) 19072 ((Int.toNat x4) - 0) 3 1 rfl (by as_aux_lemma => kernel_rfl) (by first | omega | (simp at * <;> omega) | (simp_all <;> omega)) (by as_aux_lemma => kernel_rfl) [(0, some 19072)] Try.results15 (ps := [0 = 0, ((Int.toNat x4) - 0) = (((cpL l6 (0 + (Int.toNat x4)) (l6.length - (Int.toNat x4)) (List.replicate (l6.length - (Int.toNat x4)) (0 : Int))).drop (0 + 0)).take ((Int.toNat x4) - 0)).length, E3.cR (((cpL l6 (0 + (Int.toNat x4)) (l6.length - (Int.toNat x4)) (List.replicate (l6.length - (Int.toNat x4)) (0 : Int))).drop (0 + 0)).take ((Int.toNat x4) - 0)) = E3.cR (((cpL l6 (0 + (Int.toNat x4)) (l6.length - (Int.toNat x4)) (List.replicate (l6.length - (Int.toNat x4)) (0 : Int))).drop (0 + 0)).take ((Int.toNat x4) - 0)), AllPv (E3.cR (((cpL l6 (0 + (Int.toNat x4)) (l6.length - (Int.toNat x4)) (List.replicate (l6.length - (Int.toNat x4)) (0 : Int))).drop (0 + 0)).take ((Int.toNat x4) - 0)))]) (by as_aux_lemma => kernel_rfl) ⟨rfl, (by first | omega | (simp; done) | (simp <;> omega) | (simp at * <;> omega)), rfl, (Elem.cR_pv _ _), trivial⟩ (fun _ => ⟨rfl, by simp only [List.mem_cons, List.not_mem_nil, or_false, forall_eq_or_imp, forall_eq]; exact Elem.cR_bald E3_raw _⟩)

end Go.Proofs.Ytmmhiggfpdjdcaa
