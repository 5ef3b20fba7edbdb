import Derived.Test.YthmieigenefilaaGreatDoorQBYW1
set_option linter.unusedSimpArgs false
set_option linter.unusedVariables false
namespace Go.Proofs.YthmieigenefilaaGreatDoor
open Go Go.Ab
set_option maxHeartbeats 40000000
set_option maxRecDepth 100000
attribute [local irreducible] V VS runS Sk.Holds
def Y103 (x0 : Int) : List Prop := [0 = 0, ([] : List Api_Pin).length = 0, 0 = 0, ([] : List Api_Sent).length = 0, (x0 : Int) = x0, E52.cR [] = [], E58.cR [] = []]
theorem Y103p {x0 : Int} : allP (Y103 x0) := ⟨rfl, rfl, rfl, rfl, rfl, rfl, rfl, trivial⟩
def Y12 (x0 : (List Api_Pin)) (x1 : Api_PinOp) : Api_Pin := (⟨(x0.getD (0 + (Int.toNat x1.Pin)) Y5).Core, (x0.getD (0 + (Int.toNat x1.Pin)) Y5).Vec, (x0.getD (0 + (Int.toNat x1.Pin)) Y5).Level, (x0.getD (0 + (Int.toNat x1.Pin)) Y5).Masked, ((x1.Kind : Int) == 1), (x0.getD (0 + (Int.toNat x1.Pin)) Y5).Kept, (x0.getD (0 + (Int.toNat x1.Pin)) Y5).Sent⟩ : Api_Pin)
def Y52 (x0 : Api_PinOp) (x1 : (List Api_Pin)) : List AV := [.ptr 18624 ((0 + (Int.toNat x0.Pin)) * 7), .pv (.raw (.bool (((x0.Kind : Int) == 1) && (!((x1.getD (0 + (Int.toNat x0.Pin)) Y5).Up)))))]
def Y31 (x0 : Api_Pin) (x1 : Api_PinOp) (x2 : (List Api_Pin)) : List Prop := [((0 + (Int.toNat x1.Pin)) * 7) = ((0 + (Int.toNat x1.Pin)) * 7), (((x1.Kind : Int) == 1) && (!((x2.getD (0 + (Int.toNat x1.Pin)) Y5).Up))) = (((x1.Kind : Int) == 1) && (!((x2.getD (0 + (Int.toNat x1.Pin)) Y5).Up))), E52.cR (x2.set (0 + (Int.toNat x1.Pin)) x0) = E52.cR (x2.set (0 + (Int.toNat x1.Pin)) x0), AllPv (E52.cR (x2.set (0 + (Int.toNat x1.Pin)) x0))]
theorem Y31p {x0 : Api_Pin} {x1 : Api_PinOp} {x2 : (List Api_Pin)} : allP (Y31 x0 x1 x2) := ⟨rfl, rfl, rfl, (Elem.cR_pv _ _), trivial⟩
def Y37 (x0 : Api_Pin) (x1 : Api_PinOp) (x2 : (List Api_Pin)) (x3 : Api_Pin) : List AV := [.pv (.raw (.int .i64 x1.Pin)), .pv (.raw (.int .i64 ((((x2.set (0 + (Int.toNat x1.Pin)) x0).set (0 + (Int.toNat x1.Pin)) x3).getD (0 + (Int.toNat x1.Pin)) Y5).Core))), .pv (.raw (.int .i64 ((((x2.set (0 + (Int.toNat x1.Pin)) x0).set (0 + (Int.toNat x1.Pin)) x3).getD (0 + (Int.toNat x1.Pin)) Y5).Vec)))]
def Y22 (x0 : Api_Pin) (x1 : Api_PinOp) (x2 : (List Api_Pin)) (x3 : Api_Pin) : Api_Sent := (⟨x1.Pin, (((x2.set (0 + (Int.toNat x1.Pin)) x0).set (0 + (Int.toNat x1.Pin)) x3).getD (0 + (Int.toNat x1.Pin)) Y5).Core, (((x2.set (0 + (Int.toNat x1.Pin)) x0).set (0 + (Int.toNat x1.Pin)) x3).getD (0 + (Int.toNat x1.Pin)) Y5).Vec⟩ : Api_Sent)
def Y85 (x0 : Int) (x1 : (List Api_Pin)) (x2 x3 : Api_Pin) : Api_Sent := (⟨x0, (((x1.set (0 + (Int.toNat x0)) x2).set (0 + (Int.toNat x0)) x3).getD (0 + (Int.toNat x0)) Y5).Core, (((x1.set (0 + (Int.toNat x0)) x2).set (0 + (Int.toNat x0)) x3).getD (0 + (Int.toNat x0)) Y5).Vec⟩ : Api_Sent)
def Y21 (x0 : Api_Pin) (x1 : (List Api_Pin)) (x2 : Int) (x3 : Api_Pin) (x4 : Int) : List Prop := [0 = 0, x1.length = ((x1.set (0 + (Int.toNat x2)) x0).set (0 + (Int.toNat x2)) x3).length, 0 = 0, 1 = [(Y85 x2 x1 x0 x3)].length, (x4 : Int) = x4, E52.cR ((x1.set (0 + (Int.toNat x2)) x0).set (0 + (Int.toNat x2)) x3) = E52.cR ((x1.set (0 + (Int.toNat x2)) x0).set (0 + (Int.toNat x2)) x3), AllPv (E52.cR ((x1.set (0 + (Int.toNat x2)) x0).set (0 + (Int.toNat x2)) x3)), E58.cR [(Y85 x2 x1 x0 x3)] = E58.cR [(Y85 x2 x1 x0 x3)], AllPv (E58.cR [(Y85 x2 x1 x0 x3)])]
def Y27 (x0 : Api_Pin) (x1 : (List Api_Pin)) (x2 : Api_PinOp) (x3 : Api_Pin) (x4 : Int) : List Prop := [0 = 0, x1.length = ((x1.set (0 + (Int.toNat x2.Pin)) x0).set (0 + (Int.toNat x2.Pin)) x3).length, 0 = 0, ([] : List Api_Sent).length = 0, (x4 : Int) = x4, E52.cR ((x1.set (0 + (Int.toNat x2.Pin)) x0).set (0 + (Int.toNat x2.Pin)) x3) = E52.cR ((x1.set (0 + (Int.toNat x2.Pin)) x0).set (0 + (Int.toNat x2.Pin)) x3), AllPv (E52.cR ((x1.set (0 + (Int.toNat x2.Pin)) x0).set (0 + (Int.toNat x2.Pin)) x3)), E58.cR [] = []]
def Y9 (x0 : (List Api_Pin)) (x1 : Api_PinOp) : Api_Pin := (⟨(x0.getD (0 + (Int.toNat x1.Pin)) Y5).Core, (x0.getD (0 + (Int.toNat x1.Pin)) Y5).Vec, (x0.getD (0 + (Int.toNat x1.Pin)) Y5).Level, ((x1.Kind : Int) == 3), (x0.getD (0 + (Int.toNat x1.Pin)) Y5).Up, (x0.getD (0 + (Int.toNat x1.Pin)) Y5).Kept, (x0.getD (0 + (Int.toNat x1.Pin)) Y5).Sent⟩ : Api_Pin)
def Y10 (x0 : (List Api_Pin)) (x1 : Api_PinOp) : Api_Pin := (⟨(x0.getD (0 + (Int.toNat x1.Pin)) Y5).Core, (x0.getD (0 + (Int.toNat x1.Pin)) Y5).Vec, (x0.getD (0 + (Int.toNat x1.Pin)) Y5).Level, (x0.getD (0 + (Int.toNat x1.Pin)) Y5).Masked, (x0.getD (0 + (Int.toNat x1.Pin)) Y5).Up, (x0.getD (0 + (Int.toNat x1.Pin)) Y5).Kept, false⟩ : Api_Pin)
def Y73 (x0 : Api_PinOp) (x1 : (List Api_Pin)) : List Prop := [((0 + (Int.toNat x0.Pin)) * 7) = ((0 + (Int.toNat x0.Pin)) * 7), (((x0.Kind : Int) == 1) && (!((x1.getD (0 + (Int.toNat x0.Pin)) Y5).Up))) = (((x0.Kind : Int) == 1) && (!((x1.getD (0 + (Int.toNat x0.Pin)) Y5).Up))), E52.cR x1 = E52.cR x1, AllPv (E52.cR x1)]
theorem Y73p {x0 : Api_PinOp} {x1 : (List Api_Pin)} : allP (Y73 x0 x1) := ⟨rfl, rfl, rfl, (Elem.cR_pv _ _), trivial⟩
def Y79 (x0 : Int) (x1 : (List Api_Pin)) (x2 : Api_Pin) : List AV := [.pv (.raw (.int .i64 x0)), .pv (.raw (.int .i64 (((x1.set (0 + (Int.toNat x0)) x2).getD (0 + (Int.toNat x0)) Y5).Core))), .pv (.raw (.int .i64 (((x1.set (0 + (Int.toNat x0)) x2).getD (0 + (Int.toNat x0)) Y5).Vec)))]
def Y32 (x0 : Api_PinOp) (x1 : (List Api_Pin)) (x2 : Api_Pin) : Api_Sent := (⟨x0.Pin, ((x1.set (0 + (Int.toNat x0.Pin)) x2).getD (0 + (Int.toNat x0.Pin)) Y5).Core, ((x1.set (0 + (Int.toNat x0.Pin)) x2).getD (0 + (Int.toNat x0.Pin)) Y5).Vec⟩ : Api_Sent)
def Y62 (x0 : Api_Sent) (x1 : (List Api_Pin)) (x2 : Int) (x3 : Api_Pin) (x4 : Int) : List Prop := [0 = 0, x1.length = (x1.set (0 + (Int.toNat x2)) x3).length, 0 = 0, 1 = [x0].length, (x4 : Int) = x4, E52.cR (x1.set (0 + (Int.toNat x2)) x3) = E52.cR (x1.set (0 + (Int.toNat x2)) x3), AllPv (E52.cR (x1.set (0 + (Int.toNat x2)) x3)), E58.cR [x0] = E58.cR [x0], AllPv (E58.cR [x0])]
def Y72 (x0 : (List Api_Pin)) (x1 : Int) (x2 : Api_Pin) (x3 : Int) : List Prop := [0 = 0, x0.length = (x0.set (0 + (Int.toNat x1)) x2).length, 0 = 0, ([] : List Api_Sent).length = 0, (x3 : Int) = x3, E52.cR (x0.set (0 + (Int.toNat x1)) x2) = E52.cR (x0.set (0 + (Int.toNat x1)) x2), AllPv (E52.cR (x0.set (0 + (Int.toNat x1)) x2)), E58.cR [] = []]
theorem line_Step_ok (a0 : (List Api_Pin)) (a1 : Api_PinOp) (r : (List Api_Pin) × (List Api_Sent) × Int) (h : line_Step a0 a1 = some r) {al : Bool} : PCalls Tryz.prog 26 [.pv ((E52.ro a0)), .agg [.pv (.raw (.int .i64 a1.Kind)), .pv (.raw (.int .i64 a1.Pin))]] al (.tup [.row 0 7 0 r.1.length, .row 1 3 0 r.2.1.length, .pv (.raw (.int .i64 r.2.2))]) [.row 52 7 (E52.cR r.1), .row 58 3 (E58.cR r.2.1)] := by
 unfold line_Step at h
 refine fnZ_ok tabOk [49] Tryz.func26 (by kernel_rfl) (by kernel_rfl) Tryz.ntmps26 (by simp) ?_
 refine s0 ?_
 obtain ⟨r1, e2, h⟩ := bd_ h
 refine call_ok (d := some 12) (fn := 25) (ax := [.pv ((E52.ro a0))]) (ps := (Y87 a0)) (hb' := []) (by kernel_rfl) (line_Right_ok _ _ e2 (al := true)) (by kernel_rfl) Y87p (fun _ => (by kernel_rfl)) (by simp) rfl (by kernel_rfl) ?_
 refine sg (S := .br (!r1) (.leaf 0) (.and (((!(decide ((a1.Kind : Int) < 1))) = true → ((!(decide ((a1.Kind : Int) < 1))) = true))) (.and (((!(decide ((a1.Kind : Int) < 1))) = true → ((!(decide ((a1.Kind : Int) < 1))) = true))) (.and ((decide ((a1.Kind : Int) < 1)) = false → (!(decide ((a1.Kind : Int) < 1))) = true) (.br ((decide ((a1.Kind : Int) < 1)) || (decide ((a1.Kind : Int) > 5))) (.leaf 1) (.and (((!(decide ((a1.Pin : Int) < 0))) = true → ((!(decide ((a1.Pin : Int) < 0))) = true))) (.and (((!(decide ((a1.Pin : Int) < 0))) = true → ((!(decide ((a1.Pin : Int) < 0))) = true))) (.and (((!(decide ((a1.Pin : Int) < 0))) = true → ((!(decide ((a1.Pin : Int) < 0))) = true))) (.and (((!(decide ((a1.Pin : Int) < 0))) = true → ((!(decide ((a1.Pin : Int) < 0))) = true))) (.and ((decide ((a1.Pin : Int) < 0)) = false → (!(decide ((a1.Pin : Int) < 0))) = true) (.br ((decide ((a1.Pin : Int) < 0)) || (decide ((a1.Pin : Int) ≥ ((a0.length : Nat) : Int)))) (.leaf 2) (.leaf 3)))))))))))) ?_
 refine br_ h ?_ ?_ <;> clear h <;> intro c3 h
 ·refine sk_leaf ?_
  obtain rfl := some_ h
  exact end_ok [(0, none), (1, none)] Tryz.results26 (ps := (Y103 1)) (by kernel_rfl) Y103p (fun _ => ⟨rfl, by simp only [List.mem_cons, List.not_mem_nil, or_false, forall_eq_or_imp, forall_eq]; exact ⟨Elem.cR_bald E52_raw _, Elem.cR_bald E58_raw _⟩⟩)
 ·refine sk_and (fun h => h) ?_
  refine sk_and (fun h => h) ?_
  refine sk_and ((by decide : ∀ y0 : Bool, ((y0 = false) → ((!y0) = true))) (decide ((a1.Kind : Int) < 1))) ?_
  refine br_ h ?_ ?_ <;> clear h <;> intro c7 h
  ·refine sk_leaf ?_
   obtain rfl := some_ h
   exact end_ok [(0, none), (1, none)] Tryz.results26 (ps := (Y103 5)) (by kernel_rfl) Y103p (fun _ => ⟨rfl, by simp only [List.mem_cons, List.not_mem_nil, or_false, forall_eq_or_imp, forall_eq]; exact ⟨Elem.cR_bald E52_raw _, Elem.cR_bald E58_raw _⟩⟩)
  ·refine sk_and (fun h => h) ?_
   refine sk_and (fun h => h) ?_
   refine sk_and (fun h => h) ?_
   refine sk_and (fun h => h) ?_
   refine sk_and ((by decide : ∀ y0 : Bool, ((y0 = false) → ((!y0) = true))) (decide ((a1.Pin : Int) < 0))) ?_
   refine br_ h ?_ ?_ <;> clear h <;> intro c13 h
   ·refine sk_leaf ?_
    obtain rfl := some_ h
    exact end_ok [(0, none), (1, none)] Tryz.results26 (ps := (Y103 3)) (by kernel_rfl) Y103p (fun _ => ⟨rfl, by simp only [List.mem_cons, List.not_mem_nil, or_false, forall_eq_or_imp, forall_eq]; exact ⟨Elem.cR_bald E52_raw _, Elem.cR_bald E58_raw _⟩⟩)
   ·refine sk_leaf ?_
    obtain ⟨r14, e15, h⟩ := bd_ h
    refine call_ok (d := some 35) (fn := 27) (ax := [.pv ((E52.ro a0))]) (ps := (Y87 a0)) (hb' := [.row 52 7 (E52.cR r14)]) (by kernel_rfl) (slices_Clone_api_Pin_ok _ _ e15 (al := true)) (by kernel_rfl) Y87p (fun _ => (by kernel_rfl)) (by simp) (by simp only [List.map_cons, List.map_nil, Elem.row_up, up_map] <;> rfl) (by kernel_rfl) ?_
    refine sg (S := .and (0 ≤ (a1.Pin : Int) ∧ a1.Pin < ((r14.length : Nat) : Int)) (.and ((((a1.Kind : Int) == 1) = true → (((a1.Kind : Int) == 1) = true))) (.and ((((a1.Kind : Int) == 1) = true → (((a1.Kind : Int) == 1) = true))) (.leaf 0)))) ?_
    refine gd_ h ?_; clear h; intro g16 h
    refine sk_and (fun h => h) ?_
    refine sk_and (fun h => h) ?_
    refine sk_leaf ?_
    refine ldG_ok (d := 47) (id := 18624) (i := (0 + (Int.toNat a1.Pin))) (j := 4) (e := 52) (n := 1) (g := ((a1.Kind : Int) == 1)) (ws := [((a1.Kind : Int) == 1) = true]) E52 (xs := r14) (by kernel_rfl) (fun hg => ⟨((by decide : ∀ y0 : Bool, ((y0 = true) → (y0 = true))) ((a1.Kind : Int) == 1)) hg, trivial⟩) (by kernel_rfl) (fun hg => (by first | omega | (simp at * <;> omega) | (simp_all <;> omega))) (by exact Nat.le_of_ble_eq_true rfl) ?_
    refine sg (S := .and ((((a1.Kind : Int) == 1) = true → (((a1.Kind : Int) == 1) = true))) (.and (((a1.Kind : Int) == 1) = true → ((a1.Kind : Int) == 1) = true) (.br ((a1.Kind : Int) == 1) (.br ((a1.Kind : Int) == 1) (.leaf 0) (.br ((a1.Kind : Int) == 3) (.br ((a1.Kind : Int) == 3) (.leaf 1) (.br ((a1.Kind : Int) == 5) (.leaf 2) (.leaf 3))) (.br ((a1.Kind : Int) == 4) (.leaf 4) (.br ((a1.Kind : Int) == 5) (.leaf 5) (.leaf 6))))) (.br ((a1.Kind : Int) == 2) (.leaf 7) (.br ((a1.Kind : Int) == 3) (.br ((a1.Kind : Int) == 3) (.leaf 8) (.br ((a1.Kind : Int) == 5) (.leaf 9) (.leaf 10))) (.br ((a1.Kind : Int) == 4) (.leaf 11) (.br ((a1.Kind : Int) == 5) (.leaf 12) (.leaf 13)))))))) ?_
    refine sk_and (fun h => h) ?_
    refine sk_and (fun h => h) ?_
    refine br_ h ?_ ?_ <;> clear h <;> intro c21 h
    ·refine br_ h ?_ ?_ <;> clear h <;> intro c22 h
     ·refine sk_leaf ?_
      refine st_ok (id := 18624) (i := (0 + (Int.toNat a1.Pin))) (j := 4) (e := 52) (vs := [.pv (.raw (.bool ((a1.Kind : Int) == 1)))]) E52 (xs := r14) (Y12 r14 a1) (by kernel_rfl) (by kernel_rfl) (by first | omega | (simp at * <;> omega) | (simp_all <;> omega)) (by exact Nat.le_of_ble_eq_true rfl) rfl ?_
      refine s0 ?_
      obtain ⟨r23, e24, h⟩ := bd_ h
      refine mcall_ok (d := some 77) (fn := 49) (ax := (Y52 a1 r14)) (hs := [(18624, .row 52 7 (E52.cR ((r14.set (0 + (Int.toNat a1.Pin)) (Y12 r14 a1)).set (0 + (Int.toNat a1.Pin)) r23.2)))]) (del := []) (ps := (Y31 (Y12 r14 a1) a1 r14)) [(0, some 18624)] (by kernel_rfl) (line_fire_ok (r14.set (0 + (Int.toNat a1.Pin)) (Y12 r14 a1)) (0 + (Int.toNat a1.Pin)) (by first | omega | (simp at * <;> omega) | (simp_all <;> omega)) ((r14.set (0 + (Int.toNat a1.Pin)) (Y12 r14 a1)).getD (0 + (Int.toNat a1.Pin)) Y5) rfl _ _ e24 (al := true)) (by kernel_rfl) Y31p (by kernel_rfl) (by simp only [Y52, List.cons_append, List.nil_append, List.append_nil, rB, rA, fl, mset_row, mset_box, mset_nil, mset_map, List.set_set]; kernel_rfl) (by kernel_rfl) ?_
      refine sg (S := .br r23.1 (.leaf 0) (.leaf 1)) ?_
      refine br_ h ?_ ?_ <;> clear h <;> intro c25 h
      ·refine sk_leaf ?_
       refine ld_ok (d := 84) (id := 18624) (i := (0 + (Int.toNat a1.Pin))) (j := 0) (e := 52) (n := 1) E52 (xs := ((r14.set (0 + (Int.toNat a1.Pin)) (Y12 r14 a1)).set (0 + (Int.toNat a1.Pin)) r23.2)) (by kernel_rfl) (by kernel_rfl) (by first | omega | (simp at * <;> omega) | (simp_all <;> omega)) (by exact Nat.le_of_ble_eq_true rfl) ?_
       refine s0 ?_
       refine ld_ok (d := 88) (id := 18624) (i := (0 + (Int.toNat a1.Pin))) (j := 1) (e := 52) (n := 1) E52 (xs := ((r14.set (0 + (Int.toNat a1.Pin)) (Y12 r14 a1)).set (0 + (Int.toNat a1.Pin)) r23.2)) (by kernel_rfl) (by kernel_rfl) (by first | omega | (simp at * <;> omega) | (simp_all <;> omega)) (by exact Nat.le_of_ble_eq_true rfl) ?_
       refine s0 ?_
       refine bs_ok (d := 90) (e := 58) (s := 3) (n := 1) (cs := (Y37 (Y12 r14 a1) a1 r14 r23.2)) (cs' := E58.cR [(Y22 (Y12 r14 a1) a1 r14 r23.2)]) (by kernel_rfl) rfl (by kernel_rfl) ?_
       refine s0 ?_
       obtain rfl := some_ h
       exact end_ok [(0, some 18624), (1, some 22144)] Tryz.results26 (ps := (Y21 (Y12 r14 a1) r14 a1.Pin r23.2 0)) (by kernel_rfl) ⟨rfl, (by first | rfl | simp), rfl, (by first | rfl | simp), rfl, rfl, (Elem.cR_pv _ _), rfl, (Elem.cR_pv _ _), trivial⟩ (fun _ => ⟨rfl, by simp only [List.mem_cons, List.not_mem_nil, or_false, forall_eq_or_imp, forall_eq]; exact ⟨Elem.cR_bald E52_raw _, Elem.cR_bald E58_raw _⟩⟩)
      ·refine sk_leaf ?_
       obtain rfl := some_ h
       exact end_ok [(0, some 18624), (1, none)] Tryz.results26 (ps := (Y27 (Y12 r14 a1) r14 a1 r23.2 0)) (by kernel_rfl) ⟨rfl, (by first | rfl | simp), rfl, rfl, rfl, rfl, (Elem.cR_pv _ _), rfl, trivial⟩ (fun _ => ⟨rfl, by simp only [List.mem_cons, List.not_mem_nil, or_false, forall_eq_or_imp, forall_eq]; exact ⟨Elem.cR_bald E52_raw _, Elem.cR_bald E58_raw _⟩⟩)
     ·refine br_ h ?_ ?_ <;> clear h <;> intro c26 h
      ·refine br_ h ?_ ?_ <;> clear h <;> intro c27 h
       ·refine sk_leaf ?_
        refine st_ok (id := 18624) (i := (0 + (Int.toNat a1.Pin))) (j := 3) (e := 52) (vs := [.pv (.raw (.bool ((a1.Kind : Int) == 3)))]) E52 (xs := r14) (Y9 r14 a1) (by kernel_rfl) (by kernel_rfl) (by first | omega | (simp at * <;> omega) | (simp_all <;> omega)) (by exact Nat.le_of_ble_eq_true rfl) rfl ?_
        refine s0 ?_
        obtain ⟨r28, e29, h⟩ := bd_ h
        refine mcall_ok (d := some 77) (fn := 49) (ax := (Y52 a1 r14)) (hs := [(18624, .row 52 7 (E52.cR ((r14.set (0 + (Int.toNat a1.Pin)) (Y9 r14 a1)).set (0 + (Int.toNat a1.Pin)) r28.2)))]) (del := []) (ps := (Y31 (Y9 r14 a1) a1 r14)) [(0, some 18624)] (by kernel_rfl) (line_fire_ok (r14.set (0 + (Int.toNat a1.Pin)) (Y9 r14 a1)) (0 + (Int.toNat a1.Pin)) (by first | omega | (simp at * <;> omega) | (simp_all <;> omega)) ((r14.set (0 + (Int.toNat a1.Pin)) (Y9 r14 a1)).getD (0 + (Int.toNat a1.Pin)) Y5) rfl _ _ e29 (al := true)) (by kernel_rfl) Y31p (by kernel_rfl) (by simp only [Y52, List.cons_append, List.nil_append, List.append_nil, rB, rA, fl, mset_row, mset_box, mset_nil, mset_map, List.set_set]; kernel_rfl) (by kernel_rfl) ?_
        refine sg (S := .br r28.1 (.leaf 0) (.leaf 1)) ?_
        refine br_ h ?_ ?_ <;> clear h <;> intro c30 h
        ·refine sk_leaf ?_
         refine ld_ok (d := 84) (id := 18624) (i := (0 + (Int.toNat a1.Pin))) (j := 0) (e := 52) (n := 1) E52 (xs := ((r14.set (0 + (Int.toNat a1.Pin)) (Y9 r14 a1)).set (0 + (Int.toNat a1.Pin)) r28.2)) (by kernel_rfl) (by kernel_rfl) (by first | omega | (simp at * <;> omega) | (simp_all <;> omega)) (by exact Nat.le_of_ble_eq_true rfl) ?_
         refine s0 ?_
         refine ld_ok (d := 88) (id := 18624) (i := (0 + (Int.toNat a1.Pin))) (j := 1) (e := 52) (n := 1) E52 (xs := ((r14.set (0 + (Int.toNat a1.Pin)) (Y9 r14 a1)).set (0 + (Int.toNat a1.Pin)) r28.2)) (by kernel_rfl) (by kernel_rfl) (by first | omega | (simp at * <;> omega) | (simp_all <;> omega)) (by exact Nat.le_of_ble_eq_true rfl) ?_
         refine s0 ?_
         refine bs_ok (d := 90) (e := 58) (s := 3) (n := 1) (cs := (Y37 (Y9 r14 a1) a1 r14 r28.2)) (cs' := E58.cR [(Y22 (Y9 r14 a1) a1 r14 r28.2)]) (by kernel_rfl) rfl (by kernel_rfl) ?_
         refine s0 ?_
         obtain rfl := some_ h
         exact end_ok [(0, some 18624), (1, some 22144)] Tryz.results26 (ps := (Y21 (Y9 r14 a1) r14 a1.Pin r28.2 0)) (by kernel_rfl) ⟨rfl, (by first | rfl | simp), rfl, (by first | rfl | simp), rfl, rfl, (Elem.cR_pv _ _), rfl, (Elem.cR_pv _ _), trivial⟩ (fun _ => ⟨rfl, by simp only [List.mem_cons, List.not_mem_nil, or_false, forall_eq_or_imp, forall_eq]; exact ⟨Elem.cR_bald E52_raw _, Elem.cR_bald E58_raw _⟩⟩)
        ·refine sk_leaf ?_
         obtain rfl := some_ h
         exact end_ok [(0, some 18624), (1, none)] Tryz.results26 (ps := (Y27 (Y9 r14 a1) r14 a1 r28.2 0)) (by kernel_rfl) ⟨rfl, (by first | rfl | simp), rfl, rfl, rfl, rfl, (Elem.cR_pv _ _), rfl, trivial⟩ (fun _ => ⟨rfl, by simp only [List.mem_cons, List.not_mem_nil, or_false, forall_eq_or_imp, forall_eq]; exact ⟨Elem.cR_bald E52_raw _, Elem.cR_bald E58_raw _⟩⟩)
       ·refine br_ h ?_ ?_ <;> clear h <;> intro c31 h
        ·refine sk_leaf ?_
         refine st_ok (id := 18624) (i := (0 + (Int.toNat a1.Pin))) (j := 6) (e := 52) (vs := [.pv (.raw (.bool false))]) E52 (xs := r14) (Y10 r14 a1) (by kernel_rfl) (by kernel_rfl) (by first | omega | (simp at * <;> omega) | (simp_all <;> omega)) (by exact Nat.le_of_ble_eq_true rfl) rfl ?_
         refine s0 ?_
         obtain ⟨r32, e33, h⟩ := bd_ h
         refine mcall_ok (d := some 77) (fn := 49) (ax := (Y52 a1 r14)) (hs := [(18624, .row 52 7 (E52.cR ((r14.set (0 + (Int.toNat a1.Pin)) (Y10 r14 a1)).set (0 + (Int.toNat a1.Pin)) r32.2)))]) (del := []) (ps := (Y31 (Y10 r14 a1) a1 r14)) [(0, some 18624)] (by kernel_rfl) (line_fire_ok (r14.set (0 + (Int.toNat a1.Pin)) (Y10 r14 a1)) (0 + (Int.toNat a1.Pin)) (by first | omega | (simp at * <;> omega) | (simp_all <;> omega)) ((r14.set (0 + (Int.toNat a1.Pin)) (Y10 r14 a1)).getD (0 + (Int.toNat a1.Pin)) Y5) rfl _ _ e33 (al := true)) (by kernel_rfl) Y31p (by kernel_rfl) (by simp only [Y52, List.cons_append, List.nil_append, List.append_nil, rB, rA, fl, mset_row, mset_box, mset_nil, mset_map, List.set_set]; kernel_rfl) (by kernel_rfl) ?_
         refine sg (S := .br r32.1 (.leaf 0) (.leaf 1)) ?_
         refine br_ h ?_ ?_ <;> clear h <;> intro c34 h
         ·refine sk_leaf ?_
          refine ld_ok (d := 84) (id := 18624) (i := (0 + (Int.toNat a1.Pin))) (j := 0) (e := 52) (n := 1) E52 (xs := ((r14.set (0 + (Int.toNat a1.Pin)) (Y10 r14 a1)).set (0 + (Int.toNat a1.Pin)) r32.2)) (by kernel_rfl) (by kernel_rfl) (by first | omega | (simp at * <;> omega) | (simp_all <;> omega)) (by exact Nat.le_of_ble_eq_true rfl) ?_
          refine s0 ?_
          refine ld_ok (d := 88) (id := 18624) (i := (0 + (Int.toNat a1.Pin))) (j := 1) (e := 52) (n := 1) E52 (xs := ((r14.set (0 + (Int.toNat a1.Pin)) (Y10 r14 a1)).set (0 + (Int.toNat a1.Pin)) r32.2)) (by kernel_rfl) (by kernel_rfl) (by first | omega | (simp at * <;> omega) | (simp_all <;> omega)) (by exact Nat.le_of_ble_eq_true rfl) ?_
          refine s0 ?_
          refine bs_ok (d := 90) (e := 58) (s := 3) (n := 1) (cs := (Y37 (Y10 r14 a1) a1 r14 r32.2)) (cs' := E58.cR [(Y22 (Y10 r14 a1) a1 r14 r32.2)]) (by kernel_rfl) rfl (by kernel_rfl) ?_
          refine s0 ?_
          obtain rfl := some_ h
          exact end_ok [(0, some 18624), (1, some 22144)] Tryz.results26 (ps := (Y21 (Y10 r14 a1) r14 a1.Pin r32.2 0)) (by kernel_rfl) ⟨rfl, (by first | rfl | simp), rfl, (by first | rfl | simp), rfl, rfl, (Elem.cR_pv _ _), rfl, (Elem.cR_pv _ _), trivial⟩ (fun _ => ⟨rfl, by simp only [List.mem_cons, List.not_mem_nil, or_false, forall_eq_or_imp, forall_eq]; exact ⟨Elem.cR_bald E52_raw _, Elem.cR_bald E58_raw _⟩⟩)
         ·refine sk_leaf ?_
          obtain rfl := some_ h
          exact end_ok [(0, some 18624), (1, none)] Tryz.results26 (ps := (Y27 (Y10 r14 a1) r14 a1 r32.2 0)) (by kernel_rfl) ⟨rfl, (by first | rfl | simp), rfl, rfl, rfl, rfl, (Elem.cR_pv _ _), rfl, trivial⟩ (fun _ => ⟨rfl, by simp only [List.mem_cons, List.not_mem_nil, or_false, forall_eq_or_imp, forall_eq]; exact ⟨Elem.cR_bald E52_raw _, Elem.cR_bald E58_raw _⟩⟩)
        ·refine sk_leaf ?_
         obtain ⟨r35, e36, h⟩ := bd_ h
         refine mcall_ok (d := some 77) (fn := 49) (ax := (Y52 a1 r14)) (hs := [(18624, .row 52 7 (E52.cR (r14.set (0 + (Int.toNat a1.Pin)) r35.2)))]) (del := []) (ps := (Y73 a1 r14)) [(0, some 18624)] (by kernel_rfl) (line_fire_ok r14 (0 + (Int.toNat a1.Pin)) (by first | omega | (simp at * <;> omega) | (simp_all <;> omega)) (r14.getD (0 + (Int.toNat a1.Pin)) Y5) rfl _ _ e36 (al := true)) (by kernel_rfl) Y73p (by kernel_rfl) (by simp only [Y52, List.cons_append, List.nil_append, List.append_nil, rB, rA, fl, mset_row, mset_box, mset_nil, mset_map, List.set_set]; kernel_rfl) (by kernel_rfl) ?_
         refine sg (S := .br r35.1 (.leaf 0) (.leaf 1)) ?_
         refine br_ h ?_ ?_ <;> clear h <;> intro c37 h
         ·refine sk_leaf ?_
          refine ld_ok (d := 84) (id := 18624) (i := (0 + (Int.toNat a1.Pin))) (j := 0) (e := 52) (n := 1) E52 (xs := (r14.set (0 + (Int.toNat a1.Pin)) r35.2)) (by kernel_rfl) (by kernel_rfl) (by first | omega | (simp at * <;> omega) | (simp_all <;> omega)) (by exact Nat.le_of_ble_eq_true rfl) ?_
          refine s0 ?_
          refine ld_ok (d := 88) (id := 18624) (i := (0 + (Int.toNat a1.Pin))) (j := 1) (e := 52) (n := 1) E52 (xs := (r14.set (0 + (Int.toNat a1.Pin)) r35.2)) (by kernel_rfl) (by kernel_rfl) (by first | omega | (simp at * <;> omega) | (simp_all <;> omega)) (by exact Nat.le_of_ble_eq_true rfl) ?_
          refine s0 ?_
          refine bs_ok (d := 90) (e := 58) (s := 3) (n := 1) (cs := (Y79 a1.Pin r14 r35.2)) (cs' := E58.cR [(Y32 a1 r14 r35.2)]) (by kernel_rfl) rfl (by kernel_rfl) ?_
          refine s0 ?_
          obtain rfl := some_ h
          exact end_ok [(0, some 18624), (1, some 22144)] Tryz.results26 (ps := (Y62 (Y32 a1 r14 r35.2) r14 a1.Pin r35.2 0)) (by kernel_rfl) ⟨rfl, (by first | rfl | simp), rfl, (by first | rfl | simp), rfl, rfl, (Elem.cR_pv _ _), rfl, (Elem.cR_pv _ _), trivial⟩ (fun _ => ⟨rfl, by simp only [List.mem_cons, List.not_mem_nil, or_false, forall_eq_or_imp, forall_eq]; exact ⟨Elem.cR_bald E52_raw _, Elem.cR_bald E58_raw _⟩⟩)
         ·refine sk_leaf ?_
          obtain rfl := some_ h
          exact end_ok [(0, some 18624), (1, none)] Tryz.results26 (ps := (Y72 r14 a1.Pin r35.2 0)) (by kernel_rfl) ⟨rfl, (by first | rfl | simp), rfl, rfl, rfl, rfl, (Elem.cR_pv _ _), rfl, trivial⟩ (fun _ => ⟨rfl, by simp only [List.mem_cons, List.not_mem_nil, or_false, forall_eq_or_imp, forall_eq]; exact ⟨Elem.cR_bald E52_raw _, Elem.cR_bald E58_raw _⟩⟩)
      ·refine br_ h ?_ ?_ <;> clear h <;> intro c38 h
       ·refine sk_leaf ?_
        refine st_ok (id := 18624) (i := (0 + (Int.toNat a1.Pin))) (j := 3) (e := 52) (vs := [.pv (.raw (.bool ((a1.Kind : Int) == 3)))]) E52 (xs := r14) (Y9 r14 a1) (by kernel_rfl) (by kernel_rfl) (by first | omega | (simp at * <;> omega) | (simp_all <;> omega)) (by exact Nat.le_of_ble_eq_true rfl) rfl ?_
        refine s0 ?_
        obtain ⟨r39, e40, h⟩ := bd_ h
        refine mcall_ok (d := some 77) (fn := 49) (ax := (Y52 a1 r14)) (hs := [(18624, .row 52 7 (E52.cR ((r14.set (0 + (Int.toNat a1.Pin)) (Y9 r14 a1)).set (0 + (Int.toNat a1.Pin)) r39.2)))]) (del := []) (ps := (Y31 (Y9 r14 a1) a1 r14)) [(0, some 18624)] (by kernel_rfl) (line_fire_ok (r14.set (0 + (Int.toNat a1.Pin)) (Y9 r14 a1)) (0 + (Int.toNat a1.Pin)) (by first | omega | (simp at * <;> omega) | (simp_all <;> omega)) ((r14.set (0 + (Int.toNat a1.Pin)) (Y9 r14 a1)).getD (0 + (Int.toNat a1.Pin)) Y5) rfl _ _ e40 (al := true)) (by kernel_rfl) Y31p (by kernel_rfl) (by simp only [Y52, List.cons_append, List.nil_append, List.append_nil, rB, rA, fl, mset_row, mset_box, mset_nil, mset_map, List.set_set]; kernel_rfl) (by kernel_rfl) ?_
        refine sg (S := .br r39.1 (.leaf 0) (.leaf 1)) ?_
        refine br_ h ?_ ?_ <;> clear h <;> intro c41 h
        ·refine sk_leaf ?_
         refine ld_ok (d := 84) (id := 18624) (i := (0 + (Int.toNat a1.Pin))) (j := 0) (e := 52) (n := 1) E52 (xs := ((r14.set (0 + (Int.toNat a1.Pin)) (Y9 r14 a1)).set (0 + (Int.toNat a1.Pin)) r39.2)) (by kernel_rfl) (by kernel_rfl) (by first | omega | (simp at * <;> omega) | (simp_all <;> omega)) (by exact Nat.le_of_ble_eq_true rfl) ?_
         refine s0 ?_
         refine ld_ok (d := 88) (id := 18624) (i := (0 + (Int.toNat a1.Pin))) (j := 1) (e := 52) (n := 1) E52 (xs := ((r14.set (0 + (Int.toNat a1.Pin)) (Y9 r14 a1)).set (0 + (Int.toNat a1.Pin)) r39.2)) (by kernel_rfl) (by kernel_rfl) (by first | omega | (simp at * <;> omega) | (simp_all <;> omega)) (by exact Nat.le_of_ble_eq_true rfl) ?_
         refine s0 ?_
         refine bs_ok (d := 90) (e := 58) (s := 3) (n := 1) (cs := (Y37 (Y9 r14 a1) a1 r14 r39.2)) (cs' := E58.cR [(Y22 (Y9 r14 a1) a1 r14 r39.2)]) (by kernel_rfl) rfl (by kernel_rfl) ?_
         refine s0 ?_
         obtain rfl := some_ h
         exact end_ok [(0, some 18624), (1, some 22144)] Tryz.results26 (ps := (Y21 (Y9 r14 a1) r14 a1.Pin r39.2 0)) (by kernel_rfl) ⟨rfl, (by first | rfl | simp), rfl, (by first | rfl | simp), rfl, rfl, (Elem.cR_pv _ _), rfl, (Elem.cR_pv _ _), trivial⟩ (fun _ => ⟨rfl, by simp only [List.mem_cons, List.not_mem_nil, or_false, forall_eq_or_imp, forall_eq]; exact ⟨Elem.cR_bald E52_raw _, Elem.cR_bald E58_raw _⟩⟩)
        ·refine sk_leaf ?_
         obtain rfl := some_ h
         exact end_ok [(0, some 18624), (1, none)] Tryz.results26 (ps := (Y27 (Y9 r14 a1) r14 a1 r39.2 0)) (by kernel_rfl) ⟨rfl, (by first | rfl | simp), rfl, rfl, rfl, rfl, (Elem.cR_pv _ _), rfl, trivial⟩ (fun _ => ⟨rfl, by simp only [List.mem_cons, List.not_mem_nil, or_false, forall_eq_or_imp, forall_eq]; exact ⟨Elem.cR_bald E52_raw _, Elem.cR_bald E58_raw _⟩⟩)
       ·refine br_ h ?_ ?_ <;> clear h <;> intro c42 h
        ·refine sk_leaf ?_
         refine st_ok (id := 18624) (i := (0 + (Int.toNat a1.Pin))) (j := 6) (e := 52) (vs := [.pv (.raw (.bool false))]) E52 (xs := r14) (Y10 r14 a1) (by kernel_rfl) (by kernel_rfl) (by first | omega | (simp at * <;> omega) | (simp_all <;> omega)) (by exact Nat.le_of_ble_eq_true rfl) rfl ?_
         refine s0 ?_
         obtain ⟨r43, e44, h⟩ := bd_ h
         refine mcall_ok (d := some 77) (fn := 49) (ax := (Y52 a1 r14)) (hs := [(18624, .row 52 7 (E52.cR ((r14.set (0 + (Int.toNat a1.Pin)) (Y10 r14 a1)).set (0 + (Int.toNat a1.Pin)) r43.2)))]) (del := []) (ps := (Y31 (Y10 r14 a1) a1 r14)) [(0, some 18624)] (by kernel_rfl) (line_fire_ok (r14.set (0 + (Int.toNat a1.Pin)) (Y10 r14 a1)) (0 + (Int.toNat a1.Pin)) (by first | omega | (simp at * <;> omega) | (simp_all <;> omega)) ((r14.set (0 + (Int.toNat a1.Pin)) (Y10 r14 a1)).getD (0 + (Int.toNat a1.Pin)) Y5) rfl _ _ e44 (al := true)) (by kernel_rfl) Y31p (by kernel_rfl) (by simp only [Y52, List.cons_append, List.nil_append, List.append_nil, rB, rA, fl, mset_row, mset_box, mset_nil, mset_map, List.set_set]; kernel_rfl) (by kernel_rfl) ?_
         refine sg (S := .br r43.1 (.leaf 0) (.leaf 1)) ?_
         refine br_ h ?_ ?_ <;> clear h <;> intro c45 h
         ·refine sk_leaf ?_
          refine ld_ok (d := 84) (id := 18624) (i := (0 + (Int.toNat a1.Pin))) (j := 0) (e := 52) (n := 1) E52 (xs := ((r14.set (0 + (Int.toNat a1.Pin)) (Y10 r14 a1)).set (0 + (Int.toNat a1.Pin)) r43.2)) (by kernel_rfl) (by kernel_rfl) (by first | omega | (simp at * <;> omega) | (simp_all <;> omega)) (by exact Nat.le_of_ble_eq_true rfl) ?_
          refine s0 ?_
          refine ld_ok (d := 88) (id := 18624) (i := (0 + (Int.toNat a1.Pin))) (j := 1) (e := 52) (n := 1) E52 (xs := ((r14.set (0 + (Int.toNat a1.Pin)) (Y10 r14 a1)).set (0 + (Int.toNat a1.Pin)) r43.2)) (by kernel_rfl) (by kernel_rfl) (by first | omega | (simp at * <;> omega) | (simp_all <;> omega)) (by exact Nat.le_of_ble_eq_true rfl) ?_
          refine s0 ?_
          refine bs_ok (d := 90) (e := 58) (s := 3) (n := 1) (cs := (Y37 (Y10 r14 a1) a1 r14 r43.2)) (cs' := E58.cR [(Y22 (Y10 r14 a1) a1 r14 r43.2)]) (by kernel_rfl) rfl (by kernel_rfl) ?_
          refine s0 ?_
          obtain rfl := some_ h
          exact end_ok [(0, some 18624), (1, some 22144)] Tryz.results26 (ps := (Y21 (Y10 r14 a1) r14 a1.Pin r43.2 0)) (by kernel_rfl) ⟨rfl, (by first | rfl | simp), rfl, (by first | rfl | simp), rfl, rfl, (Elem.cR_pv _ _), rfl, (Elem.cR_pv _ _), trivial⟩ (fun _ => ⟨rfl, by simp only [List.mem_cons, List.not_mem_nil, or_false, forall_eq_or_imp, forall_eq]; exact ⟨Elem.cR_bald E52_raw _, Elem.cR_bald E58_raw _⟩⟩)
         ·refine sk_leaf ?_
          obtain rfl := some_ h
          exact end_ok [(0, some 18624), (1, none)] Tryz.results26 (ps := (Y27 (Y10 r14 a1) r14 a1 r43.2 0)) (by kernel_rfl) ⟨rfl, (by first | rfl | simp), rfl, rfl, rfl, rfl, (Elem.cR_pv _ _), rfl, trivial⟩ (fun _ => ⟨rfl, by simp only [List.mem_cons, List.not_mem_nil, or_false, forall_eq_or_imp, forall_eq]; exact ⟨Elem.cR_bald E52_raw _, Elem.cR_bald E58_raw _⟩⟩)
        ·refine sk_leaf ?_
         obtain ⟨r46, e47, h⟩ := bd_ h
         refine mcall_ok (d := some 77) (fn := 49) (ax := (Y52 a1 r14)) (hs := [(18624, .row 52 7 (E52.cR (r14.set (0 + (Int.toNat a1.Pin)) r46.2)))]) (del := []) (ps := (Y73 a1 r14)) [(0, some 18624)] (by kernel_rfl) (line_fire_ok r14 (0 + (Int.toNat a1.Pin)) (by first | omega | (simp at * <;> omega) | (simp_all <;> omega)) (r14.getD (0 + (Int.toNat a1.Pin)) Y5) rfl _ _ e47 (al := true)) (by kernel_rfl) Y73p (by kernel_rfl) (by simp only [Y52, List.cons_append, List.nil_append, List.append_nil, rB, rA, fl, mset_row, mset_box, mset_nil, mset_map, List.set_set]; kernel_rfl) (by kernel_rfl) ?_
         refine sg (S := .br r46.1 (.leaf 0) (.leaf 1)) ?_
         refine br_ h ?_ ?_ <;> clear h <;> intro c48 h
         ·refine sk_leaf ?_
          refine ld_ok (d := 84) (id := 18624) (i := (0 + (Int.toNat a1.Pin))) (j := 0) (e := 52) (n := 1) E52 (xs := (r14.set (0 + (Int.toNat a1.Pin)) r46.2)) (by kernel_rfl) (by kernel_rfl) (by first | omega | (simp at * <;> omega) | (simp_all <;> omega)) (by exact Nat.le_of_ble_eq_true rfl) ?_
          refine s0 ?_
          refine ld_ok (d := 88) (id := 18624) (i := (0 + (Int.toNat a1.Pin))) (j := 1) (e := 52) (n := 1) E52 (xs := (r14.set (0 + (Int.toNat a1.Pin)) r46.2)) (by kernel_rfl) (by kernel_rfl) (by first | omega | (simp at * <;> omega) | (simp_all <;> omega)) (by exact Nat.le_of_ble_eq_true rfl) ?_
          refine s0 ?_
          refine bs_ok (d := 90) (e := 58) (s := 3) (n := 1) (cs := (Y79 a1.Pin r14 r46.2)) (cs' := E58.cR [(Y32 a1 r14 r46.2)]) (by kernel_rfl) rfl (by kernel_rfl) ?_
          refine s0 ?_
          obtain rfl := some_ h
          exact end_ok [(0, some 18624), (1, some 22144)] Tryz.results26 (ps := (Y62 (Y32 a1 r14 r46.2) r14 a1.Pin r46.2 0)) (by kernel_rfl) ⟨rfl, (by first | rfl | simp), rfl, (by first | rfl | simp), rfl, rfl, (Elem.cR_pv _ _), rfl, (Elem.cR_pv _ _), trivial⟩ (fun _ => ⟨rfl, by simp only [List.mem_cons, List.not_mem_nil, or_false, forall_eq_or_imp, forall_eq]; exact ⟨Elem.cR_bald E52_raw _, Elem.cR_bald E58_raw _⟩⟩)
         ·refine sk_leaf ?_
          obtain rfl := some_ h
          exact end_ok [(0, some 18624), (1, none)] Tryz.results26 (ps := (Y72 r14 a1.Pin r46.2 0)) (by kernel_rfl) ⟨rfl, (by first | rfl | simp), rfl, rfl, rfl, rfl, (Elem.cR_pv _ _), rfl, trivial⟩ (fun _ => ⟨rfl, by simp only [List.mem_cons, List.not_mem_nil, or_false, forall_eq_or_imp, forall_eq]; exact ⟨Elem.cR_bald E52_raw _, Elem.cR_bald E58_raw _⟩⟩)
    ·refine br_ h ?_ ?_ <;> clear h <;> intro c49 h
     ·refine sk_leaf ?_
      refine st_ok (id := 18624) (i := (0 + (Int.toNat a1.Pin))) (j := 4) (e := 52) (vs := [.pv (.raw (.bool ((a1.Kind : Int) == 1)))]) E52 (xs := r14) (Y12 r14 a1) (by kernel_rfl) (by kernel_rfl) (by first | omega | (simp at * <;> omega) | (simp_all <;> omega)) (by exact Nat.le_of_ble_eq_true rfl) rfl ?_
      refine s0 ?_
      obtain ⟨r50, e51, h⟩ := bd_ h
      refine mcall_ok (d := some 77) (fn := 49) (ax := (Y52 a1 r14)) (hs := [(18624, .row 52 7 (E52.cR ((r14.set (0 + (Int.toNat a1.Pin)) (Y12 r14 a1)).set (0 + (Int.toNat a1.Pin)) r50.2)))]) (del := []) (ps := (Y31 (Y12 r14 a1) a1 r14)) [(0, some 18624)] (by kernel_rfl) (line_fire_ok (r14.set (0 + (Int.toNat a1.Pin)) (Y12 r14 a1)) (0 + (Int.toNat a1.Pin)) (by first | omega | (simp at * <;> omega) | (simp_all <;> omega)) ((r14.set (0 + (Int.toNat a1.Pin)) (Y12 r14 a1)).getD (0 + (Int.toNat a1.Pin)) Y5) rfl _ _ e51 (al := true)) (by kernel_rfl) Y31p (by kernel_rfl) (by simp only [Y52, List.cons_append, List.nil_append, List.append_nil, rB, rA, fl, mset_row, mset_box, mset_nil, mset_map, List.set_set]; kernel_rfl) (by kernel_rfl) ?_
      refine sg (S := .br r50.1 (.leaf 0) (.leaf 1)) ?_
      refine br_ h ?_ ?_ <;> clear h <;> intro c52 h
      ·refine sk_leaf ?_
       refine ld_ok (d := 84) (id := 18624) (i := (0 + (Int.toNat a1.Pin))) (j := 0) (e := 52) (n := 1) E52 (xs := ((r14.set (0 + (Int.toNat a1.Pin)) (Y12 r14 a1)).set (0 + (Int.toNat a1.Pin)) r50.2)) (by kernel_rfl) (by kernel_rfl) (by first | omega | (simp at * <;> omega) | (simp_all <;> omega)) (by exact Nat.le_of_ble_eq_true rfl) ?_
       refine s0 ?_
       refine ld_ok (d := 88) (id := 18624) (i := (0 + (Int.toNat a1.Pin))) (j := 1) (e := 52) (n := 1) E52 (xs := ((r14.set (0 + (Int.toNat a1.Pin)) (Y12 r14 a1)).set (0 + (Int.toNat a1.Pin)) r50.2)) (by kernel_rfl) (by kernel_rfl) (by first | omega | (simp at * <;> omega) | (simp_all <;> omega)) (by exact Nat.le_of_ble_eq_true rfl) ?_
       refine s0 ?_
       refine bs_ok (d := 90) (e := 58) (s := 3) (n := 1) (cs := (Y37 (Y12 r14 a1) a1 r14 r50.2)) (cs' := E58.cR [(Y22 (Y12 r14 a1) a1 r14 r50.2)]) (by kernel_rfl) rfl (by kernel_rfl) ?_
       refine s0 ?_
       obtain rfl := some_ h
       exact end_ok [(0, some 18624), (1, some 22144)] Tryz.results26 (ps := (Y21 (Y12 r14 a1) r14 a1.Pin r50.2 0)) (by kernel_rfl) ⟨rfl, (by first | rfl | simp), rfl, (by first | rfl | simp), rfl, rfl, (Elem.cR_pv _ _), rfl, (Elem.cR_pv _ _), trivial⟩ (fun _ => ⟨rfl, by simp only [List.mem_cons, List.not_mem_nil, or_false, forall_eq_or_imp, forall_eq]; exact ⟨Elem.cR_bald E52_raw _, Elem.cR_bald E58_raw _⟩⟩)
      ·refine sk_leaf ?_
       obtain rfl := some_ h
       exact end_ok [(0, some 18624), (1, none)] Tryz.results26 (ps := (Y27 (Y12 r14 a1) r14 a1 r50.2 0)) (by kernel_rfl) ⟨rfl, (by first | rfl | simp), rfl, rfl, rfl, rfl, (Elem.cR_pv _ _), rfl, trivial⟩ (fun _ => ⟨rfl, by simp only [List.mem_cons, List.not_mem_nil, or_false, forall_eq_or_imp, forall_eq]; exact ⟨Elem.cR_bald E52_raw _, Elem.cR_bald E58_raw _⟩⟩)
     ·refine br_ h ?_ ?_ <;> clear h <;> intro c53 h
      ·refine br_ h ?_ ?_ <;> clear h <;> intro c54 h
       ·refine sk_leaf ?_
        refine st_ok (id := 18624) (i := (0 + (Int.toNat a1.Pin))) (j := 3) (e := 52) (vs := [.pv (.raw (.bool ((a1.Kind : Int) == 3)))]) E52 (xs := r14) (Y9 r14 a1) (by kernel_rfl) (by kernel_rfl) (by first | omega | (simp at * <;> omega) | (simp_all <;> omega)) (by exact Nat.le_of_ble_eq_true rfl) rfl ?_
        refine s0 ?_
        obtain ⟨r55, e56, h⟩ := bd_ h
        refine mcall_ok (d := some 77) (fn := 49) (ax := (Y52 a1 r14)) (hs := [(18624, .row 52 7 (E52.cR ((r14.set (0 + (Int.toNat a1.Pin)) (Y9 r14 a1)).set (0 + (Int.toNat a1.Pin)) r55.2)))]) (del := []) (ps := (Y31 (Y9 r14 a1) a1 r14)) [(0, some 18624)] (by kernel_rfl) (line_fire_ok (r14.set (0 + (Int.toNat a1.Pin)) (Y9 r14 a1)) (0 + (Int.toNat a1.Pin)) (by first | omega | (simp at * <;> omega) | (simp_all <;> omega)) ((r14.set (0 + (Int.toNat a1.Pin)) (Y9 r14 a1)).getD (0 + (Int.toNat a1.Pin)) Y5) rfl _ _ e56 (al := true)) (by kernel_rfl) Y31p (by kernel_rfl) (by simp only [Y52, List.cons_append, List.nil_append, List.append_nil, rB, rA, fl, mset_row, mset_box, mset_nil, mset_map, List.set_set]; kernel_rfl) (by kernel_rfl) ?_
        refine sg (S := .br r55.1 (.leaf 0) (.leaf 1)) ?_
        refine br_ h ?_ ?_ <;> clear h <;> intro c57 h
        ·refine sk_leaf ?_
         refine ld_ok (d := 84) (id := 18624) (i := (0 + (Int.toNat a1.Pin))) (j := 0) (e := 52) (n := 1) E52 (xs := ((r14.set (0 + (Int.toNat a1.Pin)) (Y9 r14 a1)).set (0 + (Int.toNat a1.Pin)) r55.2)) (by kernel_rfl) (by kernel_rfl) (by first | omega | (simp at * <;> omega) | (simp_all <;> omega)) (by exact Nat.le_of_ble_eq_true rfl) ?_
         refine s0 ?_
         refine ld_ok (d := 88) (id := 18624) (i := (0 + (Int.toNat a1.Pin))) (j := 1) (e := 52) (n := 1) E52 (xs := ((r14.set (0 + (Int.toNat a1.Pin)) (Y9 r14 a1)).set (0 + (Int.toNat a1.Pin)) r55.2)) (by kernel_rfl) (by kernel_rfl) (by first | omega | (simp at * <;> omega) | (simp_all <;> omega)) (by exact Nat.le_of_ble_eq_true rfl) ?_
         refine s0 ?_
         refine bs_ok (d := 90) (e := 58) (s := 3) (n := 1) (cs := (Y37 (Y9 r14 a1) a1 r14 r55.2)) (cs' := E58.cR [(Y22 (Y9 r14 a1) a1 r14 r55.2)]) (by kernel_rfl) rfl (by kernel_rfl) ?_
         refine s0 ?_
         obtain rfl := some_ h
         exact end_ok [(0, some 18624), (1, some 22144)] Tryz.results26 (ps := (Y21 (Y9 r14 a1) r14 a1.Pin r55.2 0)) (by kernel_rfl) ⟨rfl, (by first | rfl | simp), rfl, (by first | rfl | simp), rfl, rfl, (Elem.cR_pv _ _), rfl, (Elem.cR_pv _ _), trivial⟩ (fun _ => ⟨rfl, by simp only [List.mem_cons, List.not_mem_nil, or_false, forall_eq_or_imp, forall_eq]; exact ⟨Elem.cR_bald E52_raw _, Elem.cR_bald E58_raw _⟩⟩)
        ·refine sk_leaf ?_
         obtain rfl := some_ h
         exact end_ok [(0, some 18624), (1, none)] Tryz.results26 (ps := (Y27 (Y9 r14 a1) r14 a1 r55.2 0)) (by kernel_rfl) ⟨rfl, (by first | rfl | simp), rfl, rfl, rfl, rfl, (Elem.cR_pv _ _), rfl, trivial⟩ (fun _ => ⟨rfl, by simp only [List.mem_cons, List.not_mem_nil, or_false, forall_eq_or_imp, forall_eq]; exact ⟨Elem.cR_bald E52_raw _, Elem.cR_bald E58_raw _⟩⟩)
       ·refine br_ h ?_ ?_ <;> clear h <;> intro c58 h
        ·refine sk_leaf ?_
         refine st_ok (id := 18624) (i := (0 + (Int.toNat a1.Pin))) (j := 6) (e := 52) (vs := [.pv (.raw (.bool false))]) E52 (xs := r14) (Y10 r14 a1) (by kernel_rfl) (by kernel_rfl) (by first | omega | (simp at * <;> omega) | (simp_all <;> omega)) (by exact Nat.le_of_ble_eq_true rfl) rfl ?_
         refine s0 ?_
         obtain ⟨r59, e60, h⟩ := bd_ h
         refine mcall_ok (d := some 77) (fn := 49) (ax := (Y52 a1 r14)) (hs := [(18624, .row 52 7 (E52.cR ((r14.set (0 + (Int.toNat a1.Pin)) (Y10 r14 a1)).set (0 + (Int.toNat a1.Pin)) r59.2)))]) (del := []) (ps := (Y31 (Y10 r14 a1) a1 r14)) [(0, some 18624)] (by kernel_rfl) (line_fire_ok (r14.set (0 + (Int.toNat a1.Pin)) (Y10 r14 a1)) (0 + (Int.toNat a1.Pin)) (by first | omega | (simp at * <;> omega) | (simp_all <;> omega)) ((r14.set (0 + (Int.toNat a1.Pin)) (Y10 r14 a1)).getD (0 + (Int.toNat a1.Pin)) Y5) rfl _ _ e60 (al := true)) (by kernel_rfl) Y31p (by kernel_rfl) (by simp only [Y52, List.cons_append, List.nil_append, List.append_nil, rB, rA, fl, mset_row, mset_box, mset_nil, mset_map, List.set_set]; kernel_rfl) (by kernel_rfl) ?_
         refine sg (S := .br r59.1 (.leaf 0) (.leaf 1)) ?_
         refine br_ h ?_ ?_ <;> clear h <;> intro c61 h
         ·refine sk_leaf ?_
          refine ld_ok (d := 84) (id := 18624) (i := (0 + (Int.toNat a1.Pin))) (j := 0) (e := 52) (n := 1) E52 (xs := ((r14.set (0 + (Int.toNat a1.Pin)) (Y10 r14 a1)).set (0 + (Int.toNat a1.Pin)) r59.2)) (by kernel_rfl) (by kernel_rfl) (by first | omega | (simp at * <;> omega) | (simp_all <;> omega)) (by exact Nat.le_of_ble_eq_true rfl) ?_
          refine s0 ?_
          refine ld_ok (d := 88) (id := 18624) (i := (0 + (Int.toNat a1.Pin))) (j := 1) (e := 52) (n := 1) E52 (xs := ((r14.set (0 + (Int.toNat a1.Pin)) (Y10 r14 a1)).set (0 + (Int.toNat a1.Pin)) r59.2)) (by kernel_rfl) (by kernel_rfl) (by first | omega | (simp at * <;> omega) | (simp_all <;> omega)) (by exact Nat.le_of_ble_eq_true rfl) ?_
          refine s0 ?_
          refine bs_ok (d := 90) (e := 58) (s := 3) (n := 1) (cs := (Y37 (Y10 r14 a1) a1 r14 r59.2)) (cs' := E58.cR [(Y22 (Y10 r14 a1) a1 r14 r59.2)]) (by kernel_rfl) rfl (by kernel_rfl) ?_
          refine s0 ?_
          obtain rfl := some_ h
          exact end_ok [(0, some 18624), (1, some 22144)] Tryz.results26 (ps := (Y21 (Y10 r14 a1) r14 a1.Pin r59.2 0)) (by kernel_rfl) ⟨rfl, (by first | rfl | simp), rfl, (by first | rfl | simp), rfl, rfl, (Elem.cR_pv _ _), rfl, (Elem.cR_pv _ _), trivial⟩ (fun _ => ⟨rfl, by simp only [List.mem_cons, List.not_mem_nil, or_false, forall_eq_or_imp, forall_eq]; exact ⟨Elem.cR_bald E52_raw _, Elem.cR_bald E58_raw _⟩⟩)
         ·refine sk_leaf ?_
          obtain rfl := some_ h
          exact end_ok [(0, some 18624), (1, none)] Tryz.results26 (ps := (Y27 (Y10 r14 a1) r14 a1 r59.2 0)) (by kernel_rfl) ⟨rfl, (by first | rfl | simp), rfl, rfl, rfl, rfl, (Elem.cR_pv _ _), rfl, trivial⟩ (fun _ => ⟨rfl, by simp only [List.mem_cons, List.not_mem_nil, or_false, forall_eq_or_imp, forall_eq]; exact ⟨Elem.cR_bald E52_raw _, Elem.cR_bald E58_raw _⟩⟩)
        ·refine sk_leaf ?_
         obtain ⟨r62, e63, h⟩ := bd_ h
         refine mcall_ok (d := some 77) (fn := 49) (ax := (Y52 a1 r14)) (hs := [(18624, .row 52 7 (E52.cR (r14.set (0 + (Int.toNat a1.Pin)) r62.2)))]) (del := []) (ps := (Y73 a1 r14)) [(0, some 18624)] (by kernel_rfl) (line_fire_ok r14 (0 + (Int.toNat a1.Pin)) (by first | omega | (simp at * <;> omega) | (simp_all <;> omega)) (r14.getD (0 + (Int.toNat a1.Pin)) Y5) rfl _ _ e63 (al := true)) (by kernel_rfl) Y73p (by kernel_rfl) (by simp only [Y52, List.cons_append, List.nil_append, List.append_nil, rB, rA, fl, mset_row, mset_box, mset_nil, mset_map, List.set_set]; kernel_rfl) (by kernel_rfl) ?_
         refine sg (S := .br r62.1 (.leaf 0) (.leaf 1)) ?_
         refine br_ h ?_ ?_ <;> clear h <;> intro c64 h
         ·refine sk_leaf ?_
          refine ld_ok (d := 84) (id := 18624) (i := (0 + (Int.toNat a1.Pin))) (j := 0) (e := 52) (n := 1) E52 (xs := (r14.set (0 + (Int.toNat a1.Pin)) r62.2)) (by kernel_rfl) (by kernel_rfl) (by first | omega | (simp at * <;> omega) | (simp_all <;> omega)) (by exact Nat.le_of_ble_eq_true rfl) ?_
          refine s0 ?_
          refine ld_ok (d := 88) (id := 18624) (i := (0 + (Int.toNat a1.Pin))) (j := 1) (e := 52) (n := 1) E52 (xs := (r14.set (0 + (Int.toNat a1.Pin)) r62.2)) (by kernel_rfl) (by kernel_rfl) (by first | omega | (simp at * <;> omega) | (simp_all <;> omega)) (by exact Nat.le_of_ble_eq_true rfl) ?_
          refine s0 ?_
          refine bs_ok (d := 90) (e := 58) (s := 3) (n := 1) (cs := (Y79 a1.Pin r14 r62.2)) (cs' := E58.cR [(Y32 a1 r14 r62.2)]) (by kernel_rfl) rfl (by kernel_rfl) ?_
          refine s0 ?_
          obtain rfl := some_ h
          exact end_ok [(0, some 18624), (1, some 22144)] Tryz.results26 (ps := (Y62 (Y32 a1 r14 r62.2) r14 a1.Pin r62.2 0)) (by kernel_rfl) ⟨rfl, (by first | rfl | simp), rfl, (by first | rfl | simp), rfl, rfl, (Elem.cR_pv _ _), rfl, (Elem.cR_pv _ _), trivial⟩ (fun _ => ⟨rfl, by simp only [List.mem_cons, List.not_mem_nil, or_false, forall_eq_or_imp, forall_eq]; exact ⟨Elem.cR_bald E52_raw _, Elem.cR_bald E58_raw _⟩⟩)
         ·refine sk_leaf ?_
          obtain rfl := some_ h
          exact end_ok [(0, some 18624), (1, none)] Tryz.results26 (ps := (Y72 r14 a1.Pin r62.2 0)) (by kernel_rfl) ⟨rfl, (by first | rfl | simp), rfl, rfl, rfl, rfl, (Elem.cR_pv _ _), rfl, trivial⟩ (fun _ => ⟨rfl, by simp only [List.mem_cons, List.not_mem_nil, or_false, forall_eq_or_imp, forall_eq]; exact ⟨Elem.cR_bald E52_raw _, Elem.cR_bald E58_raw _⟩⟩)
      ·refine br_ h ?_ ?_ <;> clear h <;> intro c65 h
       ·refine sk_leaf ?_
        refine st_ok (id := 18624) (i := (0 + (Int.toNat a1.Pin))) (j := 3) (e := 52) (vs := [.pv (.raw (.bool ((a1.Kind : Int) == 3)))]) E52 (xs := r14) (Y9 r14 a1) (by kernel_rfl) (by kernel_rfl) (by first | omega | (simp at * <;> omega) | (simp_all <;> omega)) (by exact Nat.le_of_ble_eq_true rfl) rfl ?_
        refine s0 ?_
        obtain ⟨r66, e67, h⟩ := bd_ h
        refine mcall_ok (d := some 77) (fn := 49) (ax := (Y52 a1 r14)) (hs := [(18624, .row 52 7 (E52.cR ((r14.set (0 + (Int.toNat a1.Pin)) (Y9 r14 a1)).set (0 + (Int.toNat a1.Pin)) r66.2)))]) (del := []) (ps := (Y31 (Y9 r14 a1) a1 r14)) [(0, some 18624)] (by kernel_rfl) (line_fire_ok (r14.set (0 + (Int.toNat a1.Pin)) (Y9 r14 a1)) (0 + (Int.toNat a1.Pin)) (by first | omega | (simp at * <;> omega) | (simp_all <;> omega)) ((r14.set (0 + (Int.toNat a1.Pin)) (Y9 r14 a1)).getD (0 + (Int.toNat a1.Pin)) Y5) rfl _ _ e67 (al := true)) (by kernel_rfl) Y31p (by kernel_rfl) (by simp only [Y52, List.cons_append, List.nil_append, List.append_nil, rB, rA, fl, mset_row, mset_box, mset_nil, mset_map, List.set_set]; kernel_rfl) (by kernel_rfl) ?_
        refine sg (S := .br r66.1 (.leaf 0) (.leaf 1)) ?_
        refine br_ h ?_ ?_ <;> clear h <;> intro c68 h
        ·refine sk_leaf ?_
         refine ld_ok (d := 84) (id := 18624) (i := (0 + (Int.toNat a1.Pin))) (j := 0) (e := 52) (n := 1) E52 (xs := ((r14.set (0 + (Int.toNat a1.Pin)) (Y9 r14 a1)).set (0 + (Int.toNat a1.Pin)) r66.2)) (by kernel_rfl) (by kernel_rfl) (by first | omega | (simp at * <;> omega) | (simp_all <;> omega)) (by exact Nat.le_of_ble_eq_true rfl) ?_
         refine s0 ?_
         refine ld_ok (d := 88) (id := 18624) (i := (0 + (Int.toNat a1.Pin))) (j := 1) (e := 52) (n := 1) E52 (xs := ((r14.set (0 + (Int.toNat a1.Pin)) (Y9 r14 a1)).set (0 + (Int.toNat a1.Pin)) r66.2)) (by kernel_rfl) (by kernel_rfl) (by first | omega | (simp at * <;> omega) | (simp_all <;> omega)) (by exact Nat.le_of_ble_eq_true rfl) ?_
         refine s0 ?_
         refine bs_ok (d := 90) (e := 58) (s := 3) (n := 1) (cs := (Y37 (Y9 r14 a1) a1 r14 r66.2)) (cs' := E58.cR [(Y22 (Y9 r14 a1) a1 r14 r66.2)]) (by kernel_rfl) rfl (by kernel_rfl) ?_
         refine s0 ?_
         obtain rfl := some_ h
         exact end_ok [(0, some 18624), (1, some 22144)] Tryz.results26 (ps := (Y21 (Y9 r14 a1) r14 a1.Pin r66.2 0)) (by kernel_rfl) ⟨rfl, (by first | rfl | simp), rfl, (by first | rfl | simp), rfl, rfl, (Elem.cR_pv _ _), rfl, (Elem.cR_pv _ _), trivial⟩ (fun _ => ⟨rfl, by simp only [List.mem_cons, List.not_mem_nil, or_false, forall_eq_or_imp, forall_eq]; exact ⟨Elem.cR_bald E52_raw _, Elem.cR_bald E58_raw _⟩⟩)
        ·refine sk_leaf ?_
         obtain rfl := some_ h
         exact end_ok [(0, some 18624), (1, none)] Tryz.results26 (ps := (Y27 (Y9 r14 a1) r14 a1 r66.2 0)) (by kernel_rfl) ⟨rfl, (by first | rfl | simp), rfl, rfl, rfl, rfl, (Elem.cR_pv _ _), rfl, trivial⟩ (fun _ => ⟨rfl, by simp only [List.mem_cons, List.not_mem_nil, or_false, forall_eq_or_imp, forall_eq]; exact ⟨Elem.cR_bald E52_raw _, Elem.cR_bald E58_raw _⟩⟩)
       ·refine br_ h ?_ ?_ <;> clear h <;> intro c69 h
        ·refine sk_leaf ?_
         refine st_ok (id := 18624) (i := (0 + (Int.toNat a1.Pin))) (j := 6) (e := 52) (vs := [.pv (.raw (.bool false))]) E52 (xs := r14) (Y10 r14 a1) (by kernel_rfl) (by kernel_rfl) (by first | omega | (simp at * <;> omega) | (simp_all <;> omega)) (by exact Nat.le_of_ble_eq_true rfl) rfl ?_
         refine s0 ?_
         obtain ⟨r70, e71, h⟩ := bd_ h
         refine mcall_ok (d := some 77) (fn := 49) (ax := (Y52 a1 r14)) (hs := [(18624, .row 52 7 (E52.cR ((r14.set (0 + (Int.toNat a1.Pin)) (Y10 r14 a1)).set (0 + (Int.toNat a1.Pin)) r70.2)))]) (del := []) (ps := (Y31 (Y10 r14 a1) a1 r14)) [(0, some 18624)] (by kernel_rfl) (line_fire_ok (r14.set (0 + (Int.toNat a1.Pin)) (Y10 r14 a1)) (0 + (Int.toNat a1.Pin)) (by first | omega | (simp at * <;> omega) | (simp_all <;> omega)) ((r14.set (0 + (Int.toNat a1.Pin)) (Y10 r14 a1)).getD (0 + (Int.toNat a1.Pin)) Y5) rfl _ _ e71 (al := true)) (by kernel_rfl) Y31p (by kernel_rfl) (by simp only [Y52, List.cons_append, List.nil_append, List.append_nil, rB, rA, fl, mset_row, mset_box, mset_nil, mset_map, List.set_set]; kernel_rfl) (by kernel_rfl) ?_
         refine sg (S := .br r70.1 (.leaf 0) (.leaf 1)) ?_
         refine br_ h ?_ ?_ <;> clear h <;> intro c72 h
         ·refine sk_leaf ?_
          refine ld_ok (d := 84) (id := 18624) (i := (0 + (Int.toNat a1.Pin))) (j := 0) (e := 52) (n := 1) E52 (xs := ((r14.set (0 + (Int.toNat a1.Pin)) (Y10 r14 a1)).set (0 + (Int.toNat a1.Pin)) r70.2)) (by kernel_rfl) (by kernel_rfl) (by first | omega | (simp at * <;> omega) | (simp_all <;> omega)) (by exact Nat.le_of_ble_eq_true rfl) ?_
          refine s0 ?_
          refine ld_ok (d := 88) (id := 18624) (i := (0 + (Int.toNat a1.Pin))) (j := 1) (e := 52) (n := 1) E52 (xs := ((r14.set (0 + (Int.toNat a1.Pin)) (Y10 r14 a1)).set (0 + (Int.toNat a1.Pin)) r70.2)) (by kernel_rfl) (by kernel_rfl) (by first | omega | (simp at * <;> omega) | (simp_all <;> omega)) (by exact Nat.le_of_ble_eq_true rfl) ?_
          refine s0 ?_
          refine bs_ok (d := 90) (e := 58) (s := 3) (n := 1) (cs := (Y37 (Y10 r14 a1) a1 r14 r70.2)) (cs' := E58.cR [(Y22 (Y10 r14 a1) a1 r14 r70.2)]) (by kernel_rfl) rfl (by kernel_rfl) ?_
          refine s0 ?_
          obtain rfl := some_ h
          exact end_ok [(0, some 18624), (1, some 22144)] Tryz.results26 (ps := (Y21 (Y10 r14 a1) r14 a1.Pin r70.2 0)) (by kernel_rfl) ⟨rfl, (by first | rfl | simp), rfl, (by first | rfl | simp), rfl, rfl, (Elem.cR_pv _ _), rfl, (Elem.cR_pv _ _), trivial⟩ (fun _ => ⟨rfl, by simp only [List.mem_cons, List.not_mem_nil, or_false, forall_eq_or_imp, forall_eq]; exact ⟨Elem.cR_bald E52_raw _, Elem.cR_bald E58_raw _⟩⟩)
         ·refine sk_leaf ?_
          obtain rfl := some_ h
          exact end_ok [(0, some 18624), (1, none)] Tryz.results26 (ps := (Y27 (Y10 r14 a1) r14 a1 r70.2 0)) (by kernel_rfl) ⟨rfl, (by first | rfl | simp), rfl, rfl, rfl, rfl, (Elem.cR_pv _ _), rfl, trivial⟩ (fun _ => ⟨rfl, by simp only [List.mem_cons, List.not_mem_nil, or_false, forall_eq_or_imp, forall_eq]; exact ⟨Elem.cR_bald E52_raw _, Elem.cR_bald E58_raw _⟩⟩)
        ·refine sk_leaf ?_
         obtain ⟨r73, e74, h⟩ := bd_ h
         refine mcall_ok (d := some 77) (fn := 49) (ax := (Y52 a1 r14)) (hs := [(18624, .row 52 7 (E52.cR (r14.set (0 + (Int.toNat a1.Pin)) r73.2)))]) (del := []) (ps := (Y73 a1 r14)) [(0, some 18624)] (by kernel_rfl) (line_fire_ok r14 (0 + (Int.toNat a1.Pin)) (by first | omega | (simp at * <;> omega) | (simp_all <;> omega)) (r14.getD (0 + (Int.toNat a1.Pin)) Y5) rfl _ _ e74 (al := true)) (by kernel_rfl) Y73p (by kernel_rfl) (by simp only [Y52, List.cons_append, List.nil_append, List.append_nil, rB, rA, fl, mset_row, mset_box, mset_nil, mset_map, List.set_set]; kernel_rfl) (by kernel_rfl) ?_
         refine sg (S := .br r73.1 (.leaf 0) (.leaf 1)) ?_
         refine br_ h ?_ ?_ <;> clear h <;> intro c75 h
         ·refine sk_leaf ?_
          refine ld_ok (d := 84) (id := 18624) (i := (0 + (Int.toNat a1.Pin))) (j := 0) (e := 52) (n := 1) E52 (xs := (r14.set (0 + (Int.toNat a1.Pin)) r73.2)) (by kernel_rfl) (by kernel_rfl) (by first | omega | (simp at * <;> omega) | (simp_all <;> omega)) (by exact Nat.le_of_ble_eq_true rfl) ?_
          refine s0 ?_
          refine ld_ok (d := 88) (id := 18624) (i := (0 + (Int.toNat a1.Pin))) (j := 1) (e := 52) (n := 1) E52 (xs := (r14.set (0 + (Int.toNat a1.Pin)) r73.2)) (by kernel_rfl) (by kernel_rfl) (by first | omega | (simp at * <;> omega) | (simp_all <;> omega)) (by exact Nat.le_of_ble_eq_true rfl) ?_
          refine s0 ?_
          refine bs_ok (d := 90) (e := 58) (s := 3) (n := 1) (cs := (Y79 a1.Pin r14 r73.2)) (cs' := E58.cR [(Y32 a1 r14 r73.2)]) (by kernel_rfl) rfl (by kernel_rfl) ?_
          refine s0 ?_
          obtain rfl := some_ h
          exact end_ok [(0, some 18624), (1, some 22144)] Tryz.results26 (ps := (Y62 (Y32 a1 r14 r73.2) r14 a1.Pin r73.2 0)) (by kernel_rfl) ⟨rfl, (by first | rfl | simp), rfl, (by first | rfl | simp), rfl, rfl, (Elem.cR_pv _ _), rfl, (Elem.cR_pv _ _), trivial⟩ (fun _ => ⟨rfl, by simp only [List.mem_cons, List.not_mem_nil, or_false, forall_eq_or_imp, forall_eq]; exact ⟨Elem.cR_bald E52_raw _, Elem.cR_bald E58_raw _⟩⟩)
         ·refine sk_leaf ?_
          obtain rfl := some_ h
          exact end_ok [(0, some 18624), (1, none)] Tryz.results26 (ps := (Y72 r14 a1.Pin r73.2 0)) (by kernel_rfl) ⟨rfl, (by first | rfl | simp), rfl, rfl, rfl, rfl, (Elem.cR_pv _ _), rfl, trivial⟩ (fun _ => ⟨rfl, by simp only [List.mem_cons, List.not_mem_nil, or_false, forall_eq_or_imp, forall_eq]; exact ⟨Elem.cR_bald E52_raw _, Elem.cR_bald E58_raw _⟩⟩)
end Go.Proofs.YthmieigenefilaaGreatDoor
