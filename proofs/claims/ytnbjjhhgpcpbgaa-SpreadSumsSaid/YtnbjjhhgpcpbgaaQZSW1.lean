/- The functions do as their models: printed by program. -/
import Derived.Test.YtnbjjhhgpcpbgaaQZSW0
set_option linter.unusedSimpArgs false
set_option linter.unusedVariables false
namespace Go.Proofs.Ytnbjjhhgpcpbgaa
open Go Go.Ab
attribute [local irreducible] V VS runS Sk.Holds

set_option maxHeartbeats 40000000 in
set_option maxRecDepth 100000 in
theorem keep_SpreadOrder_ok (a0 : (List Int)) (a1 : Int) (r : Bool) (h : keep_SpreadOrder a0 a1 = some r) {al : Bool} : PCalls Try.prog 7 [.pv ((E3.ro a0)), .pv (.raw (.int .i64 a1))] al (.pv (.raw (.bool r))) [] := by
  unfold keep_SpreadOrder at h
  refine fnZ_ok tabOk [16] Try.func7 (by kernel_rfl) (by kernel_rfl) Try.ntmps7 (by simp) ?_
  refine segs [] tabOk mixed 4000 (S := .leaf 0) (by kernel_rfl) ?_
  refine sk_leaf ?_
  obtain ⟨r1, e2, h⟩ := bd_ h
  refine call_ok (d := some 14) (fn := 8) (ax := []) (args := []) (ps := []) (hb' := []) (by kernel_rfl) (keep_alive5_ok  _ e2 (al := true)) (by kernel_rfl) trivial (fun _ => (by kernel_rfl)) (by simp) rfl (by kernel_rfl) ?_
  refine segs [] tabOk mixed 4000 (S := .br (!r1) (.leaf 0) (.leaf 1)) (by kernel_rfl) ?_
  refine br_ h ?_ ?_ <;> clear h <;> intro c3 h
  · refine sk_leaf ?_
    obtain rfl := some_ h
    exact end_ok [] Try.results7 (ps := [false = false]) (by kernel_rfl) ⟨rfl, trivial⟩ (fun _ => ⟨rfl, by simp⟩)
  · refine sk_leaf ?_
    obtain ⟨r4, e5, h⟩ := bd_ h
    refine call_ok (d := some 17) (fn := 15) (ax := [.pv ((E3.ro a0))]) (args := [.pv ((E3.ro a0))]) (ps := [a0.length = a0.length, ∀ i, i < a0.length → ∀ j, j < 1 → E3.cf (a0.getD i E3.z) j = E3.cf (a0.getD i E3.z) j]) (hb' := [.row 3 1 (E3.cR r4)]) (by kernel_rfl) (slices_Clone_int_ok _ _ e5 (al := true)) (by kernel_rfl) ⟨rfl, fun _ _ _ _ => rfl, trivial⟩ (fun _ => (by kernel_rfl)) (by simp) (by simp only [List.map_cons, List.map_nil, Elem.row_up, up_map] <;> rfl) (by kernel_rfl) ?_
    refine segs [] tabOk mixed 4000 (S := .leaf 0) (by kernel_rfl) ?_
    refine sk_leaf ?_
    obtain ⟨r6, e7, h⟩ := bd_ h
    obtain ⟨g8, h⟩ := if_ h
    refine mcall_ok (d := some 19) (fn := 16) (ax := [.row 17472 1 0 r4.length]) (hs := [(17472, .row 3 1 (E3.cR r6))]) (del := []) (ps := [0 = 0, r4.length = r4.length, E3.cR r4 = E3.cR r4, AllPv (E3.cR r4)]) [(0, some 17472)] (by kernel_rfl) (slices_Reverse_int_h0_ok _ _ e7 (al := true)) (by kernel_rfl) ⟨rfl, rfl, rfl, (Elem.cR_pv _ _), trivial⟩ (by kernel_rfl) (by simp only [List.cons_append, List.nil_append, List.append_nil, rB, rA, fl, mset_row, mset_box, mset_nil, mset_map, List.set_set]; kernel_rfl) (by kernel_rfl) ?_
    refine segs [] tabOk mixed 4000 (S := .leaf 0) (by kernel_rfl) ?_
    refine sk_leaf ?_
    obtain ⟨r9, e10, h⟩ := bd_ h
    refine call_ok (d := some 23) (fn := 14) (ax := [.pv ((E3.ro a0)), .pv (.raw (.int .i64 a1))]) (args := [.pv ((E3.ro a0)), .pv (.raw (.int .i64 a1))]) (ps := [a0.length = a0.length, ∀ i, i < a0.length → ∀ j, j < 1 → E3.cf (a0.getD i E3.z) j = E3.cf (a0.getD i E3.z) j, (a1 : Int) = a1]) (hb' := [.row 3 1 (E3.cR r9.1.Core)]) (by kernel_rfl) (spread_Longest_ok _ _ _ e10 (al := true)) (by kernel_rfl) ⟨rfl, fun _ _ _ _ => rfl, rfl, trivial⟩ (fun _ => (by kernel_rfl)) (by simp) (by simp only [List.map_cons, List.map_nil, Elem.row_up, up_map] <;> rfl) (by kernel_rfl) ?_
    refine segs [] tabOk mixed 4000 (S := .leaf 0) (by kernel_rfl) ?_
    refine sk_leaf ?_
    obtain ⟨r11, e12, h⟩ := bd_ h
    refine call_ok (d := some 29) (fn := 14) (ax := [.row 17472 1 0 r4.length, .pv (.raw (.int .i64 a1))]) (args := [.pv ((E3.ro r6)), .pv (.raw (.int .i64 a1))]) (ps := [r4.length = r6.length, rowQ (E3.cR r6) 1 0 r4.length (fun i j => E3.cf (r6.getD i E3.z) j), (a1 : Int) = a1]) (hb' := [.row 3 1 (E3.cR r11.1.Core)]) (by kernel_rfl) (spread_Longest_ok _ _ _ e12 (al := false)) (by kernel_rfl) ⟨(by first | rfl | exact Elem.sub_len _ (by omega) | omega | simp | (simp <;> omega)), E3.rowQ_all r6 (by first | omega | simp | (simp <;> omega) | (simp at * <;> omega)), rfl, trivial⟩ (fun hx => by cases hx) (by simp) (by simp only [List.map_cons, List.map_nil, Elem.row_up, up_map] <;> rfl) (by kernel_rfl) ?_
    refine segs [] tabOk mixed 4000 (S := .leaf 0) (by kernel_rfl) ?_
    refine sk_leaf ?_
    obtain ⟨r13, e14, h⟩ := bd_ h
    refine call_ok (d := some 35) (fn := 13) (ax := [.pv ((E3.ro a0)), .pv (.raw (.int .i64 a1))]) (args := [.pv ((E3.ro a0)), .pv (.raw (.int .i64 a1))]) (ps := [a0.length = a0.length, ∀ i, i < a0.length → ∀ j, j < 1 → E3.cf (a0.getD i E3.z) j = E3.cf (a0.getD i E3.z) j, (a1 : Int) = a1]) (hb' := []) (by kernel_rfl) (spread_Best_ok _ _ _ e14 (al := true)) (by kernel_rfl) ⟨rfl, fun _ _ _ _ => rfl, rfl, trivial⟩ (fun _ => (by kernel_rfl)) (by simp) rfl (by kernel_rfl) ?_
    refine segs [] tabOk mixed 4000 (S := .leaf 0) (by kernel_rfl) ?_
    refine sk_leaf ?_
    obtain ⟨r15, e16, h⟩ := bd_ h
    refine call_ok (d := some 41) (fn := 13) (ax := [.row 17472 1 0 r4.length, .pv (.raw (.int .i64 a1))]) (args := [.pv ((E3.ro r6)), .pv (.raw (.int .i64 a1))]) (ps := [r4.length = r6.length, rowQ (E3.cR r6) 1 0 r4.length (fun i j => E3.cf (r6.getD i E3.z) j), (a1 : Int) = a1]) (hb' := []) (by kernel_rfl) (spread_Best_ok _ _ _ e16 (al := false)) (by kernel_rfl) ⟨(by first | rfl | exact Elem.sub_len _ (by omega) | omega | simp | (simp <;> omega)), E3.rowQ_all r6 (by first | omega | simp | (simp <;> omega) | (simp at * <;> omega)), rfl, trivial⟩ (fun hx => by cases hx) (by simp) rfl (by kernel_rfl) ?_
    refine segs [] tabOk mixed 4000 (S := .and ((((r9.2 : Int) == r11.2) = true → (((r9.2 : Int) == r11.2) = true))) (.and ((((r9.2 : Int) == r11.2) = true → (((r9.2 : Int) == r11.2) = true))) (.and ((((r9.2 : Int) == r11.2) = true → (((r9.2 : Int) == r11.2) = true))) (.and ((((r9.2 : Int) == r11.2) = true → (((r9.2 : Int) == r11.2) = true))) (.and (((r9.2 : Int) == r11.2) = true → ((r9.2 : Int) == r11.2) = true) (.and (((((r9.2 : Int) == r11.2) && ((r9.1.Most : Int) == r11.1.Most)) = true → ((((r9.2 : Int) == r11.2) && ((r9.1.Most : Int) == r11.1.Most)) = true))) (.and (((((r9.2 : Int) == r11.2) && ((r9.1.Most : Int) == r11.1.Most)) = true → ((((r9.2 : Int) == r11.2) && ((r9.1.Most : Int) == r11.1.Most)) = true))) (.and ((((r9.2 : Int) == r11.2) && ((r9.1.Most : Int) == r11.1.Most)) = true → (((r9.2 : Int) == r11.2) && ((r9.1.Most : Int) == r11.1.Most)) = true) (.and ((((((r9.2 : Int) == r11.2) && ((r9.1.Most : Int) == r11.1.Most)) && ((r13.2 : Int) == r15.2)) = true → (((((r9.2 : Int) == r11.2) && ((r9.1.Most : Int) == r11.1.Most)) && ((r13.2 : Int) == r15.2)) = true))) (.and ((((((r9.2 : Int) == r11.2) && ((r9.1.Most : Int) == r11.1.Most)) && ((r13.2 : Int) == r15.2)) = true → (((((r9.2 : Int) == r11.2) && ((r9.1.Most : Int) == r11.1.Most)) && ((r13.2 : Int) == r15.2)) = true))) (.and (((((r9.2 : Int) == r11.2) && ((r9.1.Most : Int) == r11.1.Most)) && ((r13.2 : Int) == r15.2)) = true → ((((r9.2 : Int) == r11.2) && ((r9.1.Most : Int) == r11.1.Most)) && ((r13.2 : Int) == r15.2)) = true) (.leaf 0)))))))))))) (by kernel_rfl) ?_
    refine sk_and (fun h => h) ?_
    refine sk_and (fun h => h) ?_
    refine sk_and (fun h => h) ?_
    refine sk_and (fun h => h) ?_
    refine sk_and (fun h => h) ?_
    refine sk_and (fun h => h) ?_
    refine sk_and (fun h => h) ?_
    refine sk_and (fun h => h) ?_
    refine sk_and (fun h => h) ?_
    refine sk_and (fun h => h) ?_
    refine sk_and (fun h => h) ?_
    refine sk_leaf ?_
    obtain rfl := some_ h
    exact end_ok [] Try.results7 (ps := [(((((r9.2 : Int) == r11.2) && ((r9.1.Most : Int) == r11.1.Most)) && ((r13.2 : Int) == r15.2)) && ((r13.1 : Int) == r15.1)) = (((((r9.2 : Int) == r11.2) && ((r9.1.Most : Int) == r11.1.Most)) && ((r13.2 : Int) == r15.2)) && ((r13.1 : Int) == r15.1))]) (by kernel_rfl) ⟨rfl, trivial⟩ (fun _ => ⟨rfl, by simp⟩)

end Go.Proofs.Ytnbjjhhgpcpbgaa
