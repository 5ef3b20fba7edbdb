import Derived.Test.YthmieigenefilaaGreatDoorQBYW12
set_option linter.unusedSimpArgs false
set_option linter.unusedVariables false
namespace Go.Proofs.YthmieigenefilaaGreatDoor
open Go Go.Ab
set_option maxHeartbeats 40000000
set_option maxRecDepth 100000
attribute [local irreducible] V VS runS Sk.Holds
def Y84 (x0 : Int) : Bool := ((decide ((x0 : Int) < 1)) || (decide ((x0 : Int) > 8)))
theorem vector_Play_ok (a0 : Int) (a1 : Int) (a2 : (List Api_VecOp)) (r : (List Int) × (List Api_Slot) × Int) (h : vector_Play a0 a1 a2 = some r) {al : Bool} : PCalls Tryz.prog 11 [.pv (.raw (.int .i64 a0)), .pv (.raw (.int .i64 a1)), .pv ((E98.ro a2))] al (.tup [.row 0 1 0 r.1.length, .row 1 2 0 r.2.1.length, .pv (.raw (.int .i64 r.2.2))]) [.row 44 1 (E44.cR r.1), .row 50 2 (E50.cR r.2.1)] := by
 unfold vector_Play at h
 refine fnZ_ok tabOk [23] Tryz.func11 (by kernel_rfl) (by kernel_rfl) Tryz.ntmps11 (by simp) ?_
 refine sg (S := .and (((!(decide ((a0 : Int) < 1))) = true → ((!(decide ((a0 : Int) < 1))) = true))) (.and ((decide ((a0 : Int) < 1)) = false → (!(decide ((a0 : Int) < 1))) = true) (.and (((!(Y84 a0)) = true → ((!(Y84 a0)) = true))) (.and ((Y84 a0) = false → (!(Y84 a0)) = true) (.and (((!((Y84 a0) || (decide ((a1 : Int) < 0)))) = true → ((!((Y84 a0) || (decide ((a1 : Int) < 0)))) = true))) (.and (((Y84 a0) || (decide ((a1 : Int) < 0))) = false → (!((Y84 a0) || (decide ((a1 : Int) < 0)))) = true) (.br ((((decide ((a0 : Int) < 1)) || (decide ((a0 : Int) > 8))) || (decide ((a1 : Int) < 0))) || (decide ((a1 : Int) > 2000))) (.leaf 0) (.leaf 1)))))))) ?_
 refine sk_and (fun h => h) ?_
 refine sk_and ((by decide : ∀ y0 : Bool, ((y0 = false) → ((!y0) = true))) (decide ((a0 : Int) < 1))) ?_
 refine sk_and (fun h => h) ?_
 refine sk_and ((by decide : ∀ y0 : Bool, ((y0 = false) → ((!y0) = true))) (Y84 a0)) ?_
 refine sk_and (fun h => h) ?_
 refine sk_and ((by decide : ∀ y0 : Bool, ((y0 = false) → ((!y0) = true))) ((Y84 a0) || (decide ((a1 : Int) < 0)))) ?_
 refine br_ h ?_ ?_ <;> clear h <;> intro c7 h
 ·refine sk_leaf ?_
  obtain rfl := some_ h
  exact end_ok [(0, none), (1, none)] Tryz.results11 (ps := [0 = 0, ([] : List Int).length = 0, 0 = 0, ([] : List Api_Slot).length = 0, (2 : Int) = 2, E44.cR [] = [], E50.cR [] = []]) (by kernel_rfl) ⟨rfl, rfl, rfl, rfl, rfl, rfl, rfl, trivial⟩ (fun _ => ⟨rfl, by simp only [List.mem_cons, List.not_mem_nil, or_false, forall_eq_or_imp, forall_eq]; exact ⟨Elem.cR_bald E44_raw _, Elem.cR_bald E50_raw _⟩⟩)
 ·refine sk_leaf ?_
  obtain ⟨g8, h⟩ := if_ h
  refine mks_ok (d := 29) (e := 50) (s := 2) (b := 16) (n := a1) (zs := [.pv (.raw (.int .i64 0)), .pv (.raw (.int .i64 0))]) E50 (by kernel_rfl) (by kernel_rfl) rfl (by kernel_rfl) g8 (by kernel_rfl) ?_
  refine s0 ?_
  obtain ⟨g9, h⟩ := if_ h
  refine mks_ok (d := 31) (e := 63) (s := 4) (b := 32) (n := a0) (zs := [.pv (.raw (.int .u64 0)), .pv (.raw (.int .u64 0)), .pv (.raw (.int .u64 0)), .pv (.raw (.int .u64 0))]) E63 (by kernel_rfl) (by kernel_rfl) rfl (by kernel_rfl) g9 (by kernel_rfl) ?_
  refine s0 ?_
  refine len_ro (by kernel_rfl) 34 (s := 3) (n := a2.length) (c := fun i j => E98.cf (a2.getD i E98.z) j) (by kernel_rfl) ?_; intro hl1_0
  refine len_row (by kernel_rfl) 18240 (e := 50) (s := 2) (n := (List.replicate (Int.toNat a1) (⟨0, 0⟩ : Api_Slot)).length) (cs := E50.cR (List.replicate (Int.toNat a1) (⟨0, 0⟩ : Api_Slot))) (by kernel_rfl) (Elem.cR_length _ _) ?_; intro hl1_1
  refine len_row (by kernel_rfl) 18368 (e := 63) (s := 4) (n := (List.replicate (Int.toNat a0) (fun (_ : Nat) => (0 : Int))).length) (cs := E63.cR (List.replicate (Int.toNat a0) (fun (_ : Nat) => (0 : Int)))) (by kernel_rfl) (Elem.cR_length _ _) ?_; intro hl1_2
  replace h : (fun (x : Nat × List Int × Nat × Int × List Api_Slot × List (Nat → Int)) => vector_Play_l1 a0 a1 a2 x.1 x.2.1 x.2.2.1 x.2.2.2.1 x.2.2.2.2.1 x.2.2.2.2.2 = some r) (FUEL, ([] : List Int), 0, a0, (List.replicate (Int.toNat a1) (⟨0, 0⟩ : Api_Slot)), (List.replicate (Int.toNat a0) (fun (_ : Nat) => (0 : Int)))) := h
  refine loop_ok (by kernel_rfl) (X := Nat × List Int × Nat × Int × List Api_Slot × List (Nat → Int)) (fun x => vector_Play_l1 a0 a1 a2 x.1 x.2.1 x.2.2.1 x.2.2.2.1 x.2.2.2.2.1 x.2.2.2.2.2 = some r) (fun x => x.1) (fun x => mk 53 [(6, .pv (.raw (.slice none 0 0))), (7, .pv (.raw (.slice none 0 0))), (8, .pv (.raw (.int .i64 0))), (9, .ptr 0 0), (10, .row 3 1 0 x.2.1.length), (34, .pv ((E98.ro a2))), (35, .pv (.raw (.int .i64 ((a2.length : Nat) : Int)))), (36, .pv (.raw (.int .i64 ((x.2.2.1 : Nat) : Int))))] [(0, .box [.pv (.raw (.int .i64 x.2.2.2.1)), .row 1 2 0 x.2.2.2.2.1.length, .row 2 4 0 x.2.2.2.2.2.length]), (1, .row 50 2 (E50.cR x.2.2.2.2.1)), (2, .row 63 4 (E63.cR x.2.2.2.2.2)), (3, .row 44 1 (E44.cR x.2.1))] [23]) (FUEL, ([] : List Int), 0, a0, (List.replicate (Int.toNat a1) (⟨0, 0⟩ : Api_Slot)), (List.replicate (Int.toNat a0) (fun (_ : Nat) => (0 : Int)))) h ?_ ?_
  ·exact sub_ok (ρ := [(0, some 18496), (1, some 18240), (2, some 18368), (3, none)]) (l := [(0 : Int) = 0, 0 = 0, 0 = 0, (([] : List Int).length) = 0, a2.length = a2.length, ∀ i, i < a2.length → ∀ j, j < 3 → E98.cf (a2.getD i E98.z) j = E98.cf (a2.getD i E98.z) j, (((a2.length : Nat) : Int) : Int) = ((a2.length : Nat) : Int), (0 : Int) = ((0 : Nat) : Int), (a0 : Int) = a0, 0 = 0, (Int.toNat a1) = ((List.replicate (Int.toNat a1) (⟨0, 0⟩ : Api_Slot)).length), 0 = 0, (Int.toNat a0) = ((List.replicate (Int.toNat a0) (fun (_ : Nat) => (0 : Int))).length), E50.cR (List.replicate (Int.toNat a1) (⟨0, 0⟩ : Api_Slot)) = E50.cR (List.replicate (Int.toNat a1) (⟨0, 0⟩ : Api_Slot)), AllPv (E50.cR (List.replicate (Int.toNat a1) (⟨0, 0⟩ : Api_Slot))), E63.cR (List.replicate (Int.toNat a0) (fun (_ : Nat) => (0 : Int))) = E63.cR (List.replicate (Int.toNat a0) (fun (_ : Nat) => (0 : Int))), AllPv (E63.cR (List.replicate (Int.toNat a0) (fun (_ : Nat) => (0 : Int)))), E44.cR ([] : List Int) = []]) (by kernel_rfl) ⟨rfl, rfl, rfl, (by first | rfl | simp), rfl, fun _ _ _ _ => rfl, rfl, (by first | rfl | simp), rfl, rfl, (by first | rfl | (simp; done) | omega | (simp <;> omega)), rfl, (by first | rfl | (simp; done) | omega | (simp <;> omega)), rfl, (Elem.cR_pv _ _), rfl, (Elem.cR_pv _ _), rfl, trivial⟩
  ·clear h; rintro ⟨n1, l10, k11, x12, l13, l14⟩ h p1 hp1
   obtain _ | n1 := n1
   ·cases (show (none : Option ((List Int) × (List Api_Slot) × Int)) = some r from h)
   have h : vector_Play_l1 a0 a1 a2 (n1 + 1) l10 k11 x12 l13 l14 = some r := h
   unfold vector_Play_l1 at h
   refine sg (S := .br (decide ((((k11 : Nat) : Int) : Int) < ((a2.length : Nat) : Int))) (.and (0 ≤ (((k11 : Nat) : Int) : Int) ∧ ((k11 : Nat) : Int) < ((a2.length : Nat) : Int)) (.leaf 0)) (.leaf 1)) ?_
   refine br_ h ?_ ?_ <;> clear h <;> intro c15 h
   ·refine sk_and ⟨Int.natCast_nonneg _, of_decide_eq_true c15⟩ ?_
    refine sk_leaf ?_
    obtain ⟨r17, e18, h⟩ := bd_ h
    refine mcall_ok (d := some 43) (fn := 23) (ax := [.ptr 0 0, .agg [.pv (.raw (.int .i64 ((a2.getD k11 (⟨0, 0, 0⟩ : Api_VecOp)).Kind))), .pv (.raw (.int .i64 ((a2.getD k11 (⟨0, 0, 0⟩ : Api_VecOp)).Line))), .pv (.raw (.int .i64 ((a2.getD k11 (⟨0, 0, 0⟩ : Api_VecOp)).Mask)))]]) (hs := [(0, .box (Y71 r17.2 19137 19138)), (19137, .row 50 2 (E50.cR r17.2.of_)), (19138, .row 63 4 (E63.cR r17.2.taken_))]) (del := [1, 2]) (ps := [0 = 0, ((a2.getD k11 (⟨0, 0, 0⟩ : Api_VecOp)).Kind : Int) = ((a2.getD k11 (⟨0, 0, 0⟩ : Api_VecOp)).Kind), ((a2.getD k11 (⟨0, 0, 0⟩ : Api_VecOp)).Line : Int) = ((a2.getD k11 (⟨0, 0, 0⟩ : Api_VecOp)).Line), ((a2.getD k11 (⟨0, 0, 0⟩ : Api_VecOp)).Mask : Int) = ((a2.getD k11 (⟨0, 0, 0⟩ : Api_VecOp)).Mask), (x12 : Int) = x12, 0 = 0, l13.length = l13.length, 0 = 0, l14.length = l14.length, E50.cR l13 = E50.cR l13, AllPv (E50.cR l13), E63.cR l14 = E63.cR l14, AllPv (E63.cR l14)]) (rI 0 0 3) (by kernel_rfl) (vector_table_do_ok _ _ _ e18 (al := true)) (by kernel_rfl) ⟨rfl, rfl, rfl, rfl, rfl, rfl, rfl, rfl, rfl, rfl, (Elem.cR_pv _ _), rfl, (Elem.cR_pv _ _), trivial⟩ (by kernel_rfl) (by simp only [Y71, List.cons_append, List.nil_append, List.append_nil, rB, rA, fl, mset_row, mset_box, mset_nil, mset_map, List.set_set]; kernel_rfl) (by kernel_rfl) ?_
    refine s0 ?_
    refine bs_ok (d := 44) (e := 44) (s := 1) (n := 1) (cs := [.pv (.raw (.int .i64 r17.1))]) (cs' := E44.cR [r17.1]) (by kernel_rfl) rfl (by kernel_rfl) ?_
    refine s0 ?_
    obtain ⟨g19, h⟩ := if_ h
    refine app_ok (d := 45) (e := 44) (s := 1) (b := 8) (x := .row 3 1 0 l10.length) (y := .row 19200 1 0 1) E44 (xs := l10) (ys := [r17.1]) (by kernel_rfl) rfl (.row 3 l10 l10.length rfl (by kernel_rfl)) (.all 19200 44 [r17.1] 1 rfl (by kernel_rfl)) g19 (by kernel_rfl) ?_
    refine s0 ?_
    refine back_ok (p := p1) (by kernel_rfl) (hp1 (n1, (l10 ++ [r17.1]), k11 + 1, r17.2.cores_, r17.2.of_, r17.2.taken_) _ h (Nat.lt_succ_self n1) ?_)
    exact sub_ok (ρ := [(0, some 0), (1, some 19137), (2, some 19138), (3, some 19264)]) (l := [(0 : Int) = 0, 0 = 0, 0 = 0, ((l10 ++ [r17.1]).length) = ((l10 ++ [r17.1]).length), a2.length = a2.length, ∀ i, i < a2.length → ∀ j, j < 3 → E98.cf (a2.getD i E98.z) j = E98.cf (a2.getD i E98.z) j, (((a2.length : Nat) : Int) : Int) = ((a2.length : Nat) : Int), ((IntKind.i64.wrap (((k11 : Nat) : Int) + 1)) : Int) = (((k11 + 1) : Nat) : Int), (r17.2.cores_ : Int) = r17.2.cores_, 0 = 0, r17.2.of_.length = r17.2.of_.length, 0 = 0, r17.2.taken_.length = r17.2.taken_.length, E50.cR r17.2.of_ = E50.cR r17.2.of_, AllPv (E50.cR r17.2.of_), E63.cR r17.2.taken_ = E63.cR r17.2.taken_, AllPv (E63.cR r17.2.taken_), E44.cR (l10 ++ [r17.1]) = E44.cR (l10 ++ [r17.1]), AllPv (E44.cR (l10 ++ [r17.1]))]) (by kernel_rfl) ⟨rfl, rfl, rfl, rfl, rfl, fun _ _ _ _ => rfl, rfl, (wrap_nat (Int.ofNat_lt.1 (of_decide_eq_true c15)) (by omega)), rfl, rfl, rfl, rfl, rfl, rfl, (Elem.cR_pv _ _), rfl, (Elem.cR_pv _ _), rfl, (Elem.cR_pv _ _), trivial⟩
   ·refine sk_leaf ?_
    obtain ⟨r20, e21, h⟩ := bd_ h
    refine call_ok (d := some 52) (fn := 24) (ax := [.row 1 2 0 l13.length]) (ps := [l13.length = l13.length, rowQ (E50.cR l13) 2 0 l13.length (fun i j => E50.cf (l13.getD i E50.z) j)]) (hb' := [.row 50 2 (E50.cR r20)]) (by kernel_rfl) (slices_Clone_api_Slot_ok _ _ e21 (al := false)) (by kernel_rfl) ⟨(by first | rfl | exact Elem.sub_len _ (by omega) | omega | simp | (simp <;> omega)), E50.rowQ_all l13 rfl, trivial⟩ (fun hx => by cases hx) (by simp) (by simp only [List.map_cons, List.map_nil, Elem.row_up, up_map] <;> rfl) (by kernel_rfl) ?_
    refine s0 ?_
    obtain rfl := some_ h
    exact end_ok [(0, some 3), (1, some 19712)] Tryz.results11 (ps := [0 = 0, l10.length = l10.length, 0 = 0, r20.length = r20.length, (0 : Int) = 0, E44.cR l10 = E44.cR l10, AllPv (E44.cR l10), E50.cR r20 = E50.cR r20, AllPv (E50.cR r20)]) (by kernel_rfl) ⟨rfl, rfl, rfl, rfl, rfl, rfl, (Elem.cR_pv _ _), rfl, (Elem.cR_pv _ _), trivial⟩ (fun _ => ⟨rfl, by simp only [List.mem_cons, List.not_mem_nil, or_false, forall_eq_or_imp, forall_eq]; exact ⟨Elem.cR_bald E44_raw _, Elem.cR_bald E50_raw _⟩⟩)
theorem line_Play_ok (a0 : (List Api_Pin)) (a1 : (List Api_PinOp)) (r : (List Api_Pin) × (List Api_Sent) × Int) (h : line_Play a0 a1 = some r) {al : Bool} : PCalls Tryz.prog 12 [.pv ((E52.ro a0)), .pv ((E103.ro a1))] al (.tup [.row 0 7 0 r.1.length, .row 1 3 0 r.2.1.length, .pv (.raw (.int .i64 r.2.2))]) [.row 52 7 (E52.cR r.1), .row 58 3 (E58.cR r.2.1)] := by
 unfold line_Play at h
 refine fn_ok tabOk Tryz.func12 (by kernel_rfl) (by kernel_rfl) Tryz.ntmps12 (by simp) ?_
 refine s0 ?_
 obtain ⟨r1, e2, h⟩ := bd_ h
 refine call_ok (d := some 14) (fn := 25) (ax := [.pv ((E52.ro a0))]) (ps := (Y87 a0)) (hb' := []) (by kernel_rfl) (line_Right_ok _ _ e2 (al := true)) (by kernel_rfl) Y87p (fun _ => (by kernel_rfl)) (by simp) rfl (by kernel_rfl) ?_
 refine sg (S := .br (!r1) (.leaf 0) (.leaf 1)) ?_
 refine br_ h ?_ ?_ <;> clear h <;> intro c3 h
 ·refine sk_leaf ?_
  obtain rfl := some_ h
  exact end_ok [(0, none), (1, none)] Tryz.results12 (ps := (Y103 1)) (by kernel_rfl) Y103p (fun _ => ⟨rfl, by simp only [List.mem_cons, List.not_mem_nil, or_false, forall_eq_or_imp, forall_eq]; exact ⟨Elem.cR_bald E52_raw _, Elem.cR_bald E58_raw _⟩⟩)
 ·refine sk_leaf ?_
  refine len_ro (by kernel_rfl) 0 (s := 7) (n := a0.length) (c := fun i j => E52.cf (a0.getD i E52.z) j) (by kernel_rfl) ?_; intro hl1_0
  refine len_ro (by kernel_rfl) 16 (s := 2) (n := a1.length) (c := fun i j => E103.cf (a1.getD i E103.z) j) (by kernel_rfl) ?_; intro hl1_1
  replace h : (fun (x : Nat × List Api_Pin × List Api_Sent × Nat) => line_Play_l1 a0 a1 x.1 x.2.1 x.2.2.1 x.2.2.2 = some r) (FUEL, a0, ([] : List Api_Sent), 0) := h
  refine loop_ok (by kernel_rfl) (X := Nat × List Api_Pin × List Api_Sent × Nat) (fun x => line_Play_l1 a0 a1 x.1 x.2.1 x.2.2.1 x.2.2.2 = some r) (fun x => x.1) (fun x => mk 39 [(0, .pv ((E52.ro x.2.1))), (4, .pv (.raw (.slice none 0 0))), (5, .pv (.raw (.slice none 0 0))), (6, .pv (.raw (.int .i64 0))), (7, .row 0 3 0 x.2.2.1.length), (16, .pv ((E103.ro a1))), (17, .pv (.raw (.int .i64 ((a1.length : Nat) : Int)))), (18, .pv (.raw (.int .i64 ((x.2.2.2 : Nat) : Int))))] [(0, .row 58 3 (E58.cR x.2.2.1))]) (FUEL, a0, ([] : List Api_Sent), 0) h ?_ ?_
  ·exact sub_ok (ρ := [(0, none)]) (l := [a0.length = a0.length, ∀ i, i < a0.length → ∀ j, j < 7 → E52.cf (a0.getD i E52.z) j = E52.cf (a0.getD i E52.z) j, (0 : Int) = 0, 0 = 0, (([] : List Api_Sent).length) = 0, a1.length = a1.length, ∀ i, i < a1.length → ∀ j, j < 2 → E103.cf (a1.getD i E103.z) j = E103.cf (a1.getD i E103.z) j, (((a1.length : Nat) : Int) : Int) = ((a1.length : Nat) : Int), (0 : Int) = ((0 : Nat) : Int), E58.cR ([] : List Api_Sent) = []]) (by kernel_rfl) ⟨rfl, fun _ _ _ _ => rfl, rfl, rfl, (by first | rfl | simp), rfl, fun _ _ _ _ => rfl, rfl, (by first | rfl | simp), rfl, trivial⟩
  ·clear h; rintro ⟨n1, l4, l5, k6⟩ h p1 hp1
   obtain _ | n1 := n1
   ·cases (show (none : Option ((List Api_Pin) × (List Api_Sent) × Int)) = some r from h)
   have h : line_Play_l1 a0 a1 (n1 + 1) l4 l5 k6 = some r := h
   unfold line_Play_l1 at h
   refine sg (S := .br (decide ((((k6 : Nat) : Int) : Int) < ((a1.length : Nat) : Int))) (.and (0 ≤ (((k6 : Nat) : Int) : Int) ∧ ((k6 : Nat) : Int) < ((a1.length : Nat) : Int)) (.leaf 0)) (.leaf 1)) ?_
   refine br_ h ?_ ?_ <;> clear h <;> intro c7 h
   ·refine sk_and ⟨Int.natCast_nonneg _, of_decide_eq_true c7⟩ ?_
    refine sk_leaf ?_
    obtain ⟨r9, e10, h⟩ := bd_ h
    refine call_ok (d := some 25) (fn := 26) (ax := [.pv ((E52.ro l4)), .agg [.pv (.raw (.int .i64 ((a1.getD k6 (⟨0, 0⟩ : Api_PinOp)).Kind))), .pv (.raw (.int .i64 ((a1.getD k6 (⟨0, 0⟩ : Api_PinOp)).Pin)))]]) (ps := [l4.length = l4.length, ∀ i, i < l4.length → ∀ j, j < 7 → E52.cf (l4.getD i E52.z) j = E52.cf (l4.getD i E52.z) j, ((a1.getD k6 (⟨0, 0⟩ : Api_PinOp)).Kind : Int) = ((a1.getD k6 (⟨0, 0⟩ : Api_PinOp)).Kind), ((a1.getD k6 (⟨0, 0⟩ : Api_PinOp)).Pin : Int) = ((a1.getD k6 (⟨0, 0⟩ : Api_PinOp)).Pin)]) (hb' := [.row 52 7 (E52.cR r9.1), .row 58 3 (E58.cR r9.2.1)]) (by kernel_rfl) (line_Step_ok _ _ _ e10 (al := true)) (by kernel_rfl) ⟨rfl, fun _ _ _ _ => rfl, rfl, rfl, trivial⟩ (fun _ => (by kernel_rfl)) (by simp) (by simp only [List.map_cons, List.map_nil, Elem.row_up, up_map] <;> rfl) (by kernel_rfl) ?_
    refine sg (S := .br ((r9.2.2 : Int) == 0) (.leaf 0) (.leaf 1)) ?_
    refine br_ h ?_ ?_ <;> clear h <;> intro c11 h
    ·refine sk_leaf ?_
     obtain ⟨g12, h⟩ := if_ h
     refine app_ok (d := 34) (e := 58) (s := 3) (b := 24) (x := .row 0 3 0 l5.length) (y := .row 17985 3 0 r9.2.1.length) E58 (xs := l5) (ys := r9.2.1) (by kernel_rfl) rfl (.row 0 l5 l5.length rfl (by kernel_rfl)) (.all 17985 58 r9.2.1 r9.2.1.length rfl (by kernel_rfl)) g12 (by kernel_rfl) ?_
     refine s0 ?_
     refine back_ok (p := p1) (by kernel_rfl) (hp1 (n1, r9.1, (l5 ++ r9.2.1), k6 + 1) _ h (Nat.lt_succ_self n1) ?_)
     exact sub_ok (ρ := [(0, some 18560)]) (l := [r9.1.length = r9.1.length, rowQ (E52.cR r9.1) 7 0 r9.1.length (fun i j => E52.cf (r9.1.getD i E52.z) j), (0 : Int) = 0, 0 = 0, ((l5 ++ r9.2.1).length) = ((l5 ++ r9.2.1).length), a1.length = a1.length, ∀ i, i < a1.length → ∀ j, j < 2 → E103.cf (a1.getD i E103.z) j = E103.cf (a1.getD i E103.z) j, (((a1.length : Nat) : Int) : Int) = ((a1.length : Nat) : Int), ((IntKind.i64.wrap (((k6 : Nat) : Int) + 1)) : Int) = (((k6 + 1) : Nat) : Int), E58.cR (l5 ++ r9.2.1) = E58.cR (l5 ++ r9.2.1), AllPv (E58.cR (l5 ++ r9.2.1))]) (by kernel_rfl) ⟨(by first | rfl | exact Elem.sub_len _ (by omega) | omega | simp | (simp <;> omega)), E52.rowQ_all r9.1 rfl, rfl, rfl, rfl, rfl, fun _ _ _ _ => rfl, rfl, (wrap_nat (Int.ofNat_lt.1 (of_decide_eq_true c7)) (by omega)), rfl, (Elem.cR_pv _ _), trivial⟩
    ·refine sk_leaf ?_
     refine back_ok (p := p1) (by kernel_rfl) (hp1 (n1, l4, l5, k6 + 1) _ h (Nat.lt_succ_self n1) ?_)
     exact sub_ok (ρ := [(0, some 0)]) (l := [l4.length = l4.length, ∀ i, i < l4.length → ∀ j, j < 7 → E52.cf (l4.getD i E52.z) j = E52.cf (l4.getD i E52.z) j, (0 : Int) = 0, 0 = 0, l5.length = l5.length, a1.length = a1.length, ∀ i, i < a1.length → ∀ j, j < 2 → E103.cf (a1.getD i E103.z) j = E103.cf (a1.getD i E103.z) j, (((a1.length : Nat) : Int) : Int) = ((a1.length : Nat) : Int), ((IntKind.i64.wrap (((k6 : Nat) : Int) + 1)) : Int) = (((k6 + 1) : Nat) : Int), E58.cR l5 = E58.cR l5, AllPv (E58.cR l5)]) (by kernel_rfl) ⟨rfl, fun _ _ _ _ => rfl, rfl, rfl, rfl, rfl, fun _ _ _ _ => rfl, rfl, (wrap_nat (Int.ofNat_lt.1 (of_decide_eq_true c7)) (by omega)), rfl, (Elem.cR_pv _ _), trivial⟩
   ·refine sk_leaf ?_
    obtain ⟨r13, e14, h⟩ := bd_ h
    refine call_ok (d := some 37) (fn := 27) (ax := [.pv ((E52.ro l4))]) (ps := [l4.length = l4.length, ∀ i, i < l4.length → ∀ j, j < 7 → E52.cf (l4.getD i E52.z) j = E52.cf (l4.getD i E52.z) j]) (hb' := [.row 52 7 (E52.cR r13)]) (by kernel_rfl) (slices_Clone_api_Pin_ok _ _ e14 (al := true)) (by kernel_rfl) ⟨rfl, fun _ _ _ _ => rfl, trivial⟩ (fun _ => (by kernel_rfl)) (by simp) (by simp only [List.map_cons, List.map_nil, Elem.row_up, up_map] <;> rfl) (by kernel_rfl) ?_
    refine s0 ?_
    obtain rfl := some_ h
    exact end_ok [(0, some 18752), (1, some 0)] Tryz.results12 (ps := [0 = 0, r13.length = r13.length, 0 = 0, l5.length = l5.length, (0 : Int) = 0, E52.cR r13 = E52.cR r13, AllPv (E52.cR r13), E58.cR l5 = E58.cR l5, AllPv (E58.cR l5)]) (by kernel_rfl) ⟨rfl, rfl, rfl, rfl, rfl, rfl, (Elem.cR_pv _ _), rfl, (Elem.cR_pv _ _), trivial⟩ (fun _ => ⟨rfl, by simp only [List.mem_cons, List.not_mem_nil, or_false, forall_eq_or_imp, forall_eq]; exact ⟨Elem.cR_bald E52_raw _, Elem.cR_bald E58_raw _⟩⟩)
end Go.Proofs.YthmieigenefilaaGreatDoor
