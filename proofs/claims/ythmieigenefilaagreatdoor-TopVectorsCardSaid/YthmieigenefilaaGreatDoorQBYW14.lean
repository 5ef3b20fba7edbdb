import Derived.Test.YthmieigenefilaaGreatDoorQBYW13
set_option linter.unusedSimpArgs false
set_option linter.unusedVariables false
namespace Go.Proofs.YthmieigenefilaaGreatDoor
open Go Go.Ab
set_option maxHeartbeats 40000000
set_option maxRecDepth 100000
attribute [local irreducible] V VS runS Sk.Holds
def Y101 (x0 : Nat) (x1 : (List Bool)) : Bool := (decide ((((x0 : Nat) : Int) : Int) < ((x1.length : Nat) : Int)))
def Y50 (x0 : (List Api_Slot)) (x1 : Nat) (x2 : (List Bool)) : Api_Pin := (⟨(x0.getD (0 + x1) (⟨0, 0⟩ : Api_Slot)).Core, (x0.getD (0 + x1) (⟨0, 0⟩ : Api_Slot)).Vec, ((decide ((((x1 : Nat) : Int) : Int) < ((x2.length : Nat) : Int))) && (x2.getD x1 false)), false, false, false, false⟩ : Api_Pin)
def Y77 (x0 : (List Api_Sent)) (x1 : Nat) : Bool := (decide (((x0.getD (0 + x1) (⟨0, 0, 0⟩ : Api_Sent)).Pin : Int) < 0))
def Y41 (x0 : (List Api_Sent)) (x1 : Nat) : Api_Slot := (⟨(x0.getD (0 + x1) (⟨0, 0, 0⟩ : Api_Sent)).Core, (x0.getD (0 + x1) (⟨0, 0, 0⟩ : Api_Sent)).Vec⟩ : Api_Slot)
def Y29 (x0 : (List Api_Slot)) (x1 : List Int) (x2 : (List Api_Sent)) (x3 : Nat) : Bool := (!((((x0.getD (0 + (Int.toNat (x1.getD (0 + (Int.toNat ((x2.getD (0 + x3) (⟨0, 0, 0⟩ : Api_Sent)).Pin))) 0))) (⟨0, 0⟩ : Api_Slot)).Core : Int) == ((x2.getD (0 + x3) (⟨0, 0, 0⟩ : Api_Sent)).Core)) && ((((x0.getD (0 + (Int.toNat (x1.getD (0 + (Int.toNat ((x2.getD (0 + x3) (⟨0, 0, 0⟩ : Api_Sent)).Pin))) 0))) (⟨0, 0⟩ : Api_Slot)).Vec : Int) == ((x2.getD (0 + x3) (⟨0, 0, 0⟩ : Api_Sent)).Vec)) && true)))
def Y67 (x0 : (List Api_Slot)) (x1 : List Int) (x2 : (List Api_Sent)) (x3 : Nat) : List Prop := [(!(!((((x0.getD (0 + (Int.toNat (x1.getD (0 + (Int.toNat ((x2.getD (0 + x3) (⟨0, 0, 0⟩ : Api_Sent)).Pin))) 0))) (⟨0, 0⟩ : Api_Slot)).Core : Int) == ((x2.getD (0 + x3) (⟨0, 0, 0⟩ : Api_Sent)).Core)) && ((((x0.getD (0 + (Int.toNat (x1.getD (0 + (Int.toNat ((x2.getD (0 + x3) (⟨0, 0, 0⟩ : Api_Sent)).Pin))) 0))) (⟨0, 0⟩ : Api_Slot)).Vec : Int) == ((x2.getD (0 + x3) (⟨0, 0, 0⟩ : Api_Sent)).Vec)) && true)))) = true, (!(!((((x0.getD (0 + (Int.toNat (x1.getD (0 + (Int.toNat ((x2.getD (0 + x3) (⟨0, 0, 0⟩ : Api_Sent)).Pin))) 0))) (⟨0, 0⟩ : Api_Slot)).Core : Int) == ((x2.getD (0 + x3) (⟨0, 0, 0⟩ : Api_Sent)).Core)) && ((((x0.getD (0 + (Int.toNat (x1.getD (0 + (Int.toNat ((x2.getD (0 + x3) (⟨0, 0, 0⟩ : Api_Sent)).Pin))) 0))) (⟨0, 0⟩ : Api_Slot)).Vec : Int) == ((x2.getD (0 + x3) (⟨0, 0, 0⟩ : Api_Sent)).Vec)) && true)))) = true]
theorem top_TopVectors_ok (a0 : (List Api_VecOp)) (a1 : (List Bool)) (a2 : (List Api_PinOp)) (r : Bool) (h : top_TopVectors a0 a1 a2 = some r) {al : Bool} : PCalls Tryz.prog 4 [.pv ((E98.ro a0)), .pv ((E4.ro a1)), .pv ((E103.ro a2))] al (.pv (.raw (.bool r))) [] := by
 unfold top_TopVectors at h
 refine fn_ok tabOk Tryz.func4 (by kernel_rfl) (by kernel_rfl) Tryz.ntmps4 (by simp) ?_
 refine s0 ?_
 obtain ⟨r1, e2, h⟩ := bd_ h
 refine call_ok (d := some 23) (fn := 6) (ax := []) (args := []) (ps := []) (hb' := []) (by kernel_rfl) (top_alive_ok  _ e2 (al := true)) (by kernel_rfl) trivial (fun _ => (by kernel_rfl)) (by simp) rfl (by kernel_rfl) ?_
 refine sg (S := .br (!r1) (.leaf 0) (.leaf 1)) ?_
 refine br_ h ?_ ?_ <;> clear h <;> intro c3 h
 ·refine sk_leaf ?_
  obtain rfl := some_ h
  exact end_ok [] Tryz.results4 (ps := [false = false]) (by kernel_rfl) ⟨rfl, trivial⟩ (fun _ => ⟨rfl, by simp⟩)
 ·refine sk_leaf ?_
  obtain ⟨r4, e5, h⟩ := bd_ h
  refine call_ok (d := some 27) (fn := 11) (ax := [.pv (.raw (.int .i64 8)), .pv (.raw (.int .i64 24)), .pv ((E98.ro a0))]) (ps := [(8 : Int) = 8, (24 : Int) = 24, a0.length = a0.length, ∀ i, i < a0.length → ∀ j, j < 3 → E98.cf (a0.getD i E98.z) j = E98.cf (a0.getD i E98.z) j]) (hb' := [.row 44 1 (E44.cR r4.1), .row 50 2 (E50.cR r4.2.1)]) (by kernel_rfl) (vector_Play_ok _ _ _ _ e5 (al := true)) (by kernel_rfl) ⟨rfl, rfl, rfl, fun _ _ _ _ => rfl, trivial⟩ (fun _ => (by kernel_rfl)) (by simp) (by simp only [List.map_cons, List.map_nil, Elem.row_up, up_map] <;> rfl) (by kernel_rfl) ?_
  refine sg (S := .and (((!((r4.2.2 : Int) != 0)) = true → ((!((r4.2.2 : Int) != 0)) = true))) (.and (((!((r4.2.2 : Int) != 0)) = true → ((!((r4.2.2 : Int) != 0)) = true))) (.and (((r4.2.2 : Int) != 0) = false → (!((r4.2.2 : Int) != 0)) = true) (.br (((r4.2.2 : Int) != 0) || ((((r4.2.1.length : Nat) : Int) : Int) != 24)) (.leaf 0) (.leaf 1))))) ?_
  refine sk_and (fun h => h) ?_
  refine sk_and (fun h => h) ?_
  refine sk_and ((by decide : ∀ y0 : Bool, ((y0 = false) → ((!y0) = true))) ((r4.2.2 : Int) != 0)) ?_
  refine br_ h ?_ ?_ <;> clear h <;> intro c9 h
  ·refine sk_leaf ?_
   obtain rfl := some_ h
   exact end_ok [] Tryz.results4 (ps := [false = false]) (by kernel_rfl) ⟨rfl, trivial⟩ (fun _ => ⟨rfl, by simp⟩)
  ·refine sk_leaf ?_
   refine len_ro (by kernel_rfl) 1 (s := 1) (n := a1.length) (c := fun i j => E4.cf (a1.getD i E4.z) j) (by kernel_rfl) ?_; intro hl1_0
   refine len_ro (by kernel_rfl) 2 (s := 2) (n := a2.length) (c := fun i j => E103.cf (a2.getD i E103.z) j) (by kernel_rfl) ?_; intro hl1_1
   refine len_row (by kernel_rfl) 18112 (e := 44) (s := 1) (n := r4.1.length) (cs := E44.cR r4.1) (by kernel_rfl) (Elem.cR_length _ _) ?_; intro hl1_2
   refine len_row (by kernel_rfl) 18113 (e := 50) (s := 2) (n := r4.2.1.length) (cs := E50.cR r4.2.1) (by kernel_rfl) (Elem.cR_length _ _) ?_; intro hl1_3
   replace h : (fun (x : Nat × List Api_Pin × List Int × Nat) => top_TopVectors_l1 a1 a2 r4 x.1 x.2.1 x.2.2.1 x.2.2.2 = some r) (FUEL, ([] : List Api_Pin), ([] : List Int), 0) := h
   refine loop_ok (by kernel_rfl) (X := Nat × List Api_Pin × List Int × Nat) (fun x => top_TopVectors_l1 a1 a2 r4 x.1 x.2.1 x.2.2.1 x.2.2.2 = some r) (fun x => x.1) (fun x => mk 140 [(1, .pv ((E4.ro a1))), (2, .pv ((E103.ro a2))), (6, .pv (.raw (.bool false))), (8, .row 0 2 0 r4.2.1.length), (10, .row 1 7 0 x.2.1.length), (11, .row 2 1 0 x.2.2.1.length), (38, .row 0 2 0 r4.2.1.length), (39, .pv (.raw (.int .i64 ((r4.2.1.length : Nat) : Int)))), (40, .pv (.raw (.int .i64 ((x.2.2.2 : Nat) : Int))))] [(0, .row 50 2 (E50.cR r4.2.1)), (1, .row 52 7 (E52.cR x.2.1)), (2, .row 3 1 (E3.cR x.2.2.1))]) (FUEL, ([] : List Api_Pin), ([] : List Int), 0) h ?_ ?_
   ·exact sub_ok (ρ := [(0, some 18113), (1, none), (2, none)]) (l := [a1.length = a1.length, ∀ i, i < a1.length → ∀ j, j < 1 → E4.cf (a1.getD i E4.z) j = E4.cf (a1.getD i E4.z) j, a2.length = a2.length, ∀ i, i < a2.length → ∀ j, j < 2 → E103.cf (a2.getD i E103.z) j = E103.cf (a2.getD i E103.z) j, false = false, 0 = 0, r4.2.1.length = r4.2.1.length, 0 = 0, (([] : List Api_Pin).length) = 0, 0 = 0, (([] : List Int).length) = 0, 0 = 0, r4.2.1.length = r4.2.1.length, (((r4.2.1.length : Nat) : Int) : Int) = ((r4.2.1.length : Nat) : Int), (0 : Int) = ((0 : Nat) : Int), E50.cR r4.2.1 = E50.cR r4.2.1, AllPv (E50.cR r4.2.1), E52.cR ([] : List Api_Pin) = [], E3.cR ([] : List Int) = []]) (by kernel_rfl) ⟨rfl, fun _ _ _ _ => rfl, rfl, fun _ _ _ _ => rfl, rfl, rfl, rfl, rfl, (by first | rfl | simp), rfl, (by first | rfl | simp), rfl, rfl, rfl, (by first | rfl | simp), rfl, (Elem.cR_pv _ _), rfl, rfl, trivial⟩
   ·clear h; rintro ⟨n1, l10, l11, k12⟩ h p1 hp1
    obtain _ | n1 := n1
    ·cases (show (none : Option (Bool)) = some r from h)
    have h : top_TopVectors_l1 a1 a2 r4 (n1 + 1) l10 l11 k12 = some r := h
    unfold top_TopVectors_l1 at h
    refine sg (S := .br (decide ((((k12 : Nat) : Int) : Int) < ((r4.2.1.length : Nat) : Int))) (.and (0 ≤ (((k12 : Nat) : Int) : Int) ∧ ((k12 : Nat) : Int) < ((r4.2.1.length : Nat) : Int)) (.leaf 0)) (.leaf 1)) ?_
    refine br_ h ?_ ?_ <;> clear h <;> intro c13 h
    ·refine sk_and ⟨Int.natCast_nonneg _, of_decide_eq_true c13⟩ ?_
     refine sk_leaf ?_
     refine lda_ok (d := 44) (id := 0) (i := (0 + k12)) (e := 50) (n := 2) E50 (xs := r4.2.1) (by kernel_rfl) (by kernel_rfl) (by first | omega | (simp at * <;> omega) | (simp_all <;> omega)) rfl ?_
     refine sg (S := .br (decide (((r4.2.1.getD (0 + k12) (⟨0, 0⟩ : Api_Slot)).Vec : Int) > 0)) (.and (((Y101 k12 a1) = true → ((Y101 k12 a1) = true))) (.and (((Y101 k12 a1) = true → ((Y101 k12 a1) = true))) (.and (((decide ((((k12 : Nat) : Int) : Int) < ((a1.length : Nat) : Int))) = true → (0 ≤ (((k12 : Nat) : Int) : Int) ∧ ((k12 : Nat) : Int) < ((a1.length : Nat) : Int)))) (.and (((Y101 k12 a1) = true → ((Y101 k12 a1) = true))) (.and ((Y101 k12 a1) = true → (Y101 k12 a1) = true) (.leaf 0)))))) (.leaf 1)) ?_
     refine br_ h ?_ ?_ <;> clear h <;> intro c15 h
     ·refine sk_and (fun h => h) ?_
      refine sk_and (fun h => h) ?_
      refine gd_ h ?_; clear h; intro g18 h
      refine sk_and (fun h => h) ?_
      refine sk_and (fun h => h) ?_
      refine sk_leaf ?_
      refine bs_ok (d := 64) (e := 52) (s := 7) (n := 1) (cs := [.pv (.raw (.int .i64 ((r4.2.1.getD (0 + k12) (⟨0, 0⟩ : Api_Slot)).Core))), .pv (.raw (.int .i64 ((r4.2.1.getD (0 + k12) (⟨0, 0⟩ : Api_Slot)).Vec))), .pv (.raw (.bool ((decide ((((k12 : Nat) : Int) : Int) < ((a1.length : Nat) : Int))) && (a1.getD k12 false)))), .pv (.raw (.bool false)), .pv (.raw (.bool false)), .pv (.raw (.bool false)), .pv (.raw (.bool false))]) (cs' := E52.cR [(Y50 r4.2.1 k12 a1)]) (by kernel_rfl) rfl (by kernel_rfl) ?_
      refine s0 ?_
      obtain ⟨g21, h⟩ := if_ h
      refine app_ok (d := 65) (e := 52) (s := 7) (b := 24) (x := .row 1 7 0 l10.length) (y := .row 20480 7 0 1) E52 (xs := l10) (ys := [(Y50 r4.2.1 k12 a1)]) (by kernel_rfl) rfl (.row 1 l10 l10.length rfl (by kernel_rfl)) (.all 20480 52 [(Y50 r4.2.1 k12 a1)] 1 rfl (by kernel_rfl)) g21 (by kernel_rfl) ?_
      refine s0 ?_
      refine bs_ok (d := 68) (e := 3) (s := 1) (n := 1) (cs := [.pv (.raw (.int .i64 ((k12 : Nat) : Int)))]) (cs' := E3.cR [((k12 : Nat) : Int)]) (by kernel_rfl) rfl (by kernel_rfl) ?_
      refine s0 ?_
      obtain ⟨g22, h⟩ := if_ h
      refine app_ok (d := 69) (e := 3) (s := 1) (b := 8) (x := .row 2 1 0 l11.length) (y := .row 20736 1 0 1) E3 (xs := l11) (ys := [((k12 : Nat) : Int)]) (by kernel_rfl) rfl (.row 2 l11 l11.length rfl (by kernel_rfl)) (.all 20736 3 [((k12 : Nat) : Int)] 1 rfl (by kernel_rfl)) g22 (by kernel_rfl) ?_
      refine s0 ?_
      refine back_ok (p := p1) (by kernel_rfl) (hp1 (n1, (l10 ++ [(Y50 r4.2.1 k12 a1)]), (l11 ++ [((k12 : Nat) : Int)]), k12 + 1) _ h (Nat.lt_succ_self n1) ?_)
      exact sub_ok (ρ := [(0, some 0), (1, some 20544), (2, some 20800)]) (l := [a1.length = a1.length, ∀ i, i < a1.length → ∀ j, j < 1 → E4.cf (a1.getD i E4.z) j = E4.cf (a1.getD i E4.z) j, a2.length = a2.length, ∀ i, i < a2.length → ∀ j, j < 2 → E103.cf (a2.getD i E103.z) j = E103.cf (a2.getD i E103.z) j, false = false, 0 = 0, r4.2.1.length = r4.2.1.length, 0 = 0, ((l10 ++ [(Y50 r4.2.1 k12 a1)]).length) = ((l10 ++ [(Y50 r4.2.1 k12 a1)]).length), 0 = 0, ((l11 ++ [((k12 : Nat) : Int)]).length) = ((l11 ++ [((k12 : Nat) : Int)]).length), 0 = 0, r4.2.1.length = r4.2.1.length, (((r4.2.1.length : Nat) : Int) : Int) = ((r4.2.1.length : Nat) : Int), ((IntKind.i64.wrap (((k12 : Nat) : Int) + 1)) : Int) = (((k12 + 1) : Nat) : Int), E50.cR r4.2.1 = E50.cR r4.2.1, AllPv (E50.cR r4.2.1), E52.cR (l10 ++ [(Y50 r4.2.1 k12 a1)]) = E52.cR (l10 ++ [(Y50 r4.2.1 k12 a1)]), AllPv (E52.cR (l10 ++ [(Y50 r4.2.1 k12 a1)])), E3.cR (l11 ++ [((k12 : Nat) : Int)]) = E3.cR (l11 ++ [((k12 : Nat) : Int)]), AllPv (E3.cR (l11 ++ [((k12 : Nat) : Int)]))]) (by kernel_rfl) ⟨rfl, fun _ _ _ _ => rfl, rfl, fun _ _ _ _ => rfl, rfl, rfl, rfl, rfl, rfl, rfl, rfl, rfl, rfl, rfl, (wrap_nat (Int.ofNat_lt.1 (of_decide_eq_true c13)) (by omega)), rfl, (Elem.cR_pv _ _), rfl, (Elem.cR_pv _ _), rfl, (Elem.cR_pv _ _), trivial⟩
     ·refine sk_leaf ?_
      refine back_ok (p := p1) (by kernel_rfl) (hp1 (n1, l10, l11, k12 + 1) _ h (Nat.lt_succ_self n1) ?_)
      exact sub_ok (ρ := (rI 0 0 3)) (l := ([a1.length = a1.length, ∀ i, i < a1.length → ∀ j, j < 1 → E4.cf (a1.getD i E4.z) j = E4.cf (a1.getD i E4.z) j, a2.length = a2.length, ∀ i, i < a2.length → ∀ j, j < 2 → E103.cf (a2.getD i E103.z) j = E103.cf (a2.getD i E103.z) j, false = false] ++ (pL ([r4.2.1.length, l10.length, l11.length, r4.2.1.length]) ++ ([(((r4.2.1.length : Nat) : Int) : Int) = ((r4.2.1.length : Nat) : Int), ((IntKind.i64.wrap (((k12 : Nat) : Int) + 1)) : Int) = (((k12 + 1) : Nat) : Int), E50.cR r4.2.1 = E50.cR r4.2.1, AllPv (E50.cR r4.2.1), E52.cR l10 = E52.cR l10, AllPv (E52.cR l10), E3.cR l11 = E3.cR l11, AllPv (E3.cR l11)])))) (by kernel_rfl) (allP_app ⟨rfl, fun _ _ _ _ => rfl, rfl, fun _ _ _ _ => rfl, rfl, trivial⟩ (allP_app (pL_ok _) ⟨rfl, (wrap_nat (Int.ofNat_lt.1 (of_decide_eq_true c13)) (by omega)), rfl, (Elem.cR_pv _ _), rfl, (Elem.cR_pv _ _), rfl, (Elem.cR_pv _ _), trivial⟩))
    ·refine sk_leaf ?_
     obtain ⟨r23, e24, h⟩ := bd_ h
     refine call_ok (d := some 74) (fn := 12) (ax := [.row 1 7 0 l10.length, .pv ((E103.ro a2))]) (ps := [l10.length = l10.length, rowQ (E52.cR l10) 7 0 l10.length (fun i j => E52.cf (l10.getD i E52.z) j), a2.length = a2.length, ∀ i, i < a2.length → ∀ j, j < 2 → E103.cf (a2.getD i E103.z) j = E103.cf (a2.getD i E103.z) j]) (hb' := [.row 52 7 (E52.cR r23.1), .row 58 3 (E58.cR r23.2.1)]) (by kernel_rfl) (line_Play_ok _ _ _ e24 (al := false)) (by kernel_rfl) ⟨(by first | rfl | exact Elem.sub_len _ (by omega) | omega | simp | (simp <;> omega)), E52.rowQ_all l10 rfl, rfl, fun _ _ _ _ => rfl, trivial⟩ (fun hx => by cases hx) (by simp) (by simp only [List.map_cons, List.map_nil, Elem.row_up, up_map] <;> rfl) (by kernel_rfl) ?_
     refine s0 ?_
     refine mk_ok (d := 78) (by kernel_rfl) (by kernel_rfl) ?_
     refine s0 ?_
     refine len_row (by kernel_rfl) 1 (e := 52) (s := 7) (n := l10.length) (cs := E52.cR l10) (by kernel_rfl) (Elem.cR_length _ _) ?_; intro hl2_0
     refine len_row (by kernel_rfl) 2 (e := 3) (s := 1) (n := l11.length) (cs := E3.cR l11) (by kernel_rfl) (Elem.cR_length _ _) ?_; intro hl2_1
     refine len_row (by kernel_rfl) 0 (e := 50) (s := 2) (n := r4.2.1.length) (cs := E50.cR r4.2.1) (by kernel_rfl) (Elem.cR_length _ _) ?_; intro hl2_2
     refine len_row (by kernel_rfl) 21120 (e := 52) (s := 7) (n := r23.1.length) (cs := E52.cR r23.1) (by kernel_rfl) (Elem.cR_length _ _) ?_; intro hl2_3
     refine len_row (by kernel_rfl) 21121 (e := 58) (s := 3) (n := r23.2.1.length) (cs := E58.cR r23.2.1) (by kernel_rfl) (Elem.cR_length _ _) ?_; intro hl2_4
     replace h : (fun (x : Nat × Nat × List (Api_Slot × Int)) => top_TopVectors_l2 r4 l11 r23 x.1 x.2.1 x.2.2 = some r) (FUEL, 0, ([] : List (Api_Slot × Int))) := h
     refine loop_ok (by kernel_rfl) (X := Nat × Nat × List (Api_Slot × Int)) (fun x => top_TopVectors_l2 r4 l11 r23 x.1 x.2.1 x.2.2 = some r) (fun x => x.1) (fun x => mk 140 [(6, .pv (.raw (.bool false))), (8, .row 0 2 0 r4.2.1.length), (11, .row 1 1 0 l11.length), (16, .pv (.raw (.int .i64 r23.2.2))), (17, .map 2), (79, .row 3 3 0 r23.2.1.length), (80, .pv (.raw (.int .i64 ((r23.2.1.length : Nat) : Int)))), (81, .pv (.raw (.int .i64 ((x.2.1 : Nat) : Int))))] [(0, .row 50 2 (E50.cR r4.2.1)), (1, .row 3 1 (E3.cR l11)), (2, .map (Key50.K x.2.2) (E3.kX x.2.2)), (3, .row 58 3 (E58.cR r23.2.1))]) (FUEL, 0, ([] : List (Api_Slot × Int))) h ?_ ?_
     ·exact sub_ok (ρ := [(0, some 0), (1, some 2), (2, some 21376), (3, some 21121)]) (l := [false = false, 0 = 0, r4.2.1.length = r4.2.1.length, 0 = 0, l11.length = l11.length, (r23.2.2 : Int) = r23.2.2, 0 = 0, r23.2.1.length = r23.2.1.length, (((r23.2.1.length : Nat) : Int) : Int) = ((r23.2.1.length : Nat) : Int), (0 : Int) = ((0 : Nat) : Int), E50.cR r4.2.1 = E50.cR r4.2.1, AllPv (E50.cR r4.2.1), E3.cR l11 = E3.cR l11, AllPv (E3.cR l11), Key50.K ([] : List (Api_Slot × Int)) = Key50.K ([] : List (Api_Slot × Int)), E3.kX ([] : List (Api_Slot × Int)) = E3.kX ([] : List (Api_Slot × Int)), AllPv (E3.kX ([] : List (Api_Slot × Int))), E58.cR r23.2.1 = E58.cR r23.2.1, AllPv (E58.cR r23.2.1)]) (by kernel_rfl) ⟨rfl, rfl, rfl, rfl, rfl, rfl, rfl, rfl, rfl, (by first | rfl | simp), rfl, (Elem.cR_pv _ _), rfl, (Elem.cR_pv _ _), rfl, rfl, (Elem.kX_pv _ _), rfl, (Elem.cR_pv _ _), trivial⟩
     ·clear h; rintro ⟨n2, k25, m26⟩ h p2 hp2
      obtain _ | n2 := n2
      ·cases (show (none : Option (Bool)) = some r from h)
      have h : top_TopVectors_l2 r4 l11 r23 (n2 + 1) k25 m26 = some r := h
      unfold top_TopVectors_l2 at h
      refine sg (S := .br (decide ((((k25 : Nat) : Int) : Int) < ((r23.2.1.length : Nat) : Int))) (.and (0 ≤ (((k25 : Nat) : Int) : Int) ∧ ((k25 : Nat) : Int) < ((r23.2.1.length : Nat) : Int)) (.leaf 0)) (.leaf 1)) ?_
      refine br_ h ?_ ?_ <;> clear h <;> intro c27 h
      ·refine sk_and ⟨Int.natCast_nonneg _, of_decide_eq_true c27⟩ ?_
       refine sk_leaf ?_
       refine lda_ok (d := 84) (id := 3) (i := (0 + k25)) (e := 58) (n := 3) E58 (xs := r23.2.1) (by kernel_rfl) (by kernel_rfl) (by first | omega | (simp at * <;> omega) | (simp_all <;> omega)) rfl ?_
       refine sg (S := .and (((!(Y77 r23.2.1 k25)) = true → ((!(Y77 r23.2.1 k25)) = true))) (.and (((!(Y77 r23.2.1 k25)) = true → ((!(Y77 r23.2.1 k25)) = true))) (.and (((!(Y77 r23.2.1 k25)) = true → ((!(Y77 r23.2.1 k25)) = true))) (.and (((!(Y77 r23.2.1 k25)) = true → ((!(Y77 r23.2.1 k25)) = true))) (.and ((Y77 r23.2.1 k25) = false → (!(Y77 r23.2.1 k25)) = true) (.br ((decide (((r23.2.1.getD (0 + k25) (⟨0, 0, 0⟩ : Api_Sent)).Pin : Int) < 0)) || (decide (((r23.2.1.getD (0 + k25) (⟨0, 0, 0⟩ : Api_Sent)).Pin : Int) ≥ ((l11.length : Nat) : Int)))) (.leaf 0) (.leaf 1))))))) ?_
       refine sk_and (fun h => h) ?_
       refine sk_and (fun h => h) ?_
       refine sk_and (fun h => h) ?_
       refine sk_and (fun h => h) ?_
       refine sk_and ((by decide : ∀ y0 : Bool, ((y0 = false) → ((!y0) = true))) (Y77 r23.2.1 k25)) ?_
       refine br_ h ?_ ?_ <;> clear h <;> intro c34 h
       ·refine sk_leaf ?_
        obtain rfl := some_ h
        exact end_ok [] Tryz.results4 (ps := [false = false]) (by kernel_rfl) ⟨rfl, trivial⟩ (fun _ => ⟨rfl, by simp⟩)
       ·refine sk_leaf ?_
        refine lkk2_ok (d := 103) (id := 2) (z := .pv (.raw (.int .i64 0))) Key50 E3 (m := m26) (Y41 r23.2.1 k25) (.tup [.pv (.raw (.int .i64 ((kget (Y41 r23.2.1 k25) m26).getD 0))), .pv (.raw (.bool ((kget (Y41 r23.2.1 k25) m26).isSome)))]) (by kernel_rfl) (by kernel_rfl) rfl rfl ?_
        refine sg (S := .and ((((kget (Y41 r23.2.1 k25) m26).isSome) = true → (((kget (Y41 r23.2.1 k25) m26).isSome) = true))) (.and ((((kget (Y41 r23.2.1 k25) m26).isSome) = true → (((kget (Y41 r23.2.1 k25) m26).isSome) = true))) (.and ((((kget (Y41 r23.2.1 k25) m26).isSome) = true → (((kget (Y41 r23.2.1 k25) m26).isSome) = true))) (.and (((kget (Y41 r23.2.1 k25) m26).isSome) = true → ((kget (Y41 r23.2.1 k25) m26).isSome) = true) (.br (((kget (Y41 r23.2.1 k25) m26).isSome) && ((((kget (Y41 r23.2.1 k25) m26).getD 0) : Int) != ((r23.2.1.getD (0 + k25) (⟨0, 0, 0⟩ : Api_Sent)).Pin))) (.leaf 0) (.leaf 1)))))) ?_
        refine sk_and (fun h => h) ?_
        refine sk_and (fun h => h) ?_
        refine sk_and (fun h => h) ?_
        refine sk_and (fun h => h) ?_
        refine br_ h ?_ ?_ <;> clear h <;> intro c39 h
        ·refine sk_leaf ?_
         obtain rfl := some_ h
         exact end_ok [] Tryz.results4 (ps := [false = false]) (by kernel_rfl) ⟨rfl, trivial⟩ (fun _ => ⟨rfl, by simp⟩)
        ·refine sk_leaf ?_
         refine muk_ok (id := 2) Key50 E3 (m := m26) (Y41 r23.2.1 k25) ((r23.2.1.getD (0 + k25) (⟨0, 0, 0⟩ : Api_Sent)).Pin) (by kernel_rfl) (by kernel_rfl) rfl ?_
         refine sg (S := .and (0 ≤ ((r23.2.1.getD (0 + k25) (⟨0, 0, 0⟩ : Api_Sent)).Pin : Int) ∧ ((r23.2.1.getD (0 + k25) (⟨0, 0, 0⟩ : Api_Sent)).Pin) < ((l11.length : Nat) : Int)) (.leaf 0)) ?_
         refine gd_ h ?_; clear h; intro g40 h
         refine sk_leaf ?_
         refine ld_ok (d := 122) (id := 1) (i := (0 + (Int.toNat ((r23.2.1.getD (0 + k25) (⟨0, 0, 0⟩ : Api_Sent)).Pin)))) (j := 0) (e := 3) (n := 1) E3 (xs := l11) (by kernel_rfl) (by kernel_rfl) (by first | omega | (simp at * <;> omega) | (simp_all <;> omega)) (by exact Nat.le_of_ble_eq_true rfl) ?_
         refine sg (S := .and (0 ≤ ((l11.getD (0 + (Int.toNat ((r23.2.1.getD (0 + k25) (⟨0, 0, 0⟩ : Api_Sent)).Pin))) 0) : Int) ∧ (l11.getD (0 + (Int.toNat ((r23.2.1.getD (0 + k25) (⟨0, 0, 0⟩ : Api_Sent)).Pin))) 0) < ((r4.2.1.length : Nat) : Int)) (.leaf 0)) ?_
         refine gd_ h ?_; clear h; intro g41 h
         refine sk_leaf ?_
         refine lda_ok (d := 124) (id := 0) (i := (0 + (Int.toNat (l11.getD (0 + (Int.toNat ((r23.2.1.getD (0 + k25) (⟨0, 0, 0⟩ : Api_Sent)).Pin))) 0)))) (e := 50) (n := 2) E50 (xs := r4.2.1) (by kernel_rfl) (by kernel_rfl) (by first | omega | (simp at * <;> omega) | (simp_all <;> omega)) rfl ?_
         refine sg (S := .and (((!(Y29 r4.2.1 l11 r23.2.1 k25)) = true → ((!(Y29 r4.2.1 l11 r23.2.1 k25)) = true))) (.leaf 0)) ?_
         refine sk_and (fun h => h) ?_
         refine sk_leaf ?_
         obtain ⟨r43, e44, h⟩ := bd_ h
         refine callG_ok (d := some 131) (fn := 14) (ax := [.agg [.pv (.raw (.int .u64 0)), .pv (.raw (.int .u64 0)), .pv (.raw (.int .u64 0)), .pv (.raw (.int .u64 0))], .pv (.raw (.int .i64 ((r23.2.1.getD (0 + k25) (⟨0, 0, 0⟩ : Api_Sent)).Vec)))]) (args := [.agg [.pv (.raw (.int .u64 ((fun _ => 0) 0))), .pv (.raw (.int .u64 ((fun _ => 0) 1))), .pv (.raw (.int .u64 ((fun _ => 0) 2))), .pv (.raw (.int .u64 ((fun _ => 0) 3)))], .pv (.raw (.int .i64 ((r23.2.1.getD (0 + k25) (⟨0, 0, 0⟩ : Api_Sent)).Vec)))]) (g := (!(!((((r4.2.1.getD (0 + (Int.toNat (l11.getD (0 + (Int.toNat ((r23.2.1.getD (0 + k25) (⟨0, 0, 0⟩ : Api_Sent)).Pin))) 0))) (⟨0, 0⟩ : Api_Slot)).Core : Int) == ((r23.2.1.getD (0 + k25) (⟨0, 0, 0⟩ : Api_Sent)).Core)) && ((((r4.2.1.getD (0 + (Int.toNat (l11.getD (0 + (Int.toNat ((r23.2.1.getD (0 + k25) (⟨0, 0, 0⟩ : Api_Sent)).Pin))) 0))) (⟨0, 0⟩ : Api_Slot)).Vec : Int) == ((r23.2.1.getD (0 + k25) (⟨0, 0, 0⟩ : Api_Sent)).Vec)) && true))))) (ws := (Y67 r4.2.1 l11 r23.2.1 k25)) (ps := [(0 : Int) = ((fun _ => 0) 0), (0 : Int) = ((fun _ => 0) 1), (0 : Int) = ((fun _ => 0) 2), (0 : Int) = ((fun _ => 0) 3), ((r23.2.1.getD (0 + k25) (⟨0, 0, 0⟩ : Api_Sent)).Vec : Int) = ((r23.2.1.getD (0 + k25) (⟨0, 0, 0⟩ : Api_Sent)).Vec)]) (by kernel_rfl) (fun hg => ⟨((by decide : ∀ y0 : Bool, ((y0 = true) → (y0 = true))) (!(!((((r4.2.1.getD (0 + (Int.toNat (l11.getD (0 + (Int.toNat ((r23.2.1.getD (0 + k25) (⟨0, 0, 0⟩ : Api_Sent)).Pin))) 0))) (⟨0, 0⟩ : Api_Slot)).Core : Int) == ((r23.2.1.getD (0 + k25) (⟨0, 0, 0⟩ : Api_Sent)).Core)) && ((((r4.2.1.getD (0 + (Int.toNat (l11.getD (0 + (Int.toNat ((r23.2.1.getD (0 + k25) (⟨0, 0, 0⟩ : Api_Sent)).Pin))) 0))) (⟨0, 0⟩ : Api_Slot)).Vec : Int) == ((r23.2.1.getD (0 + k25) (⟨0, 0, 0⟩ : Api_Sent)).Vec)) && true))))) hg, ((by decide : ∀ y0 : Bool, ((y0 = true) → (y0 = true))) (!(!((((r4.2.1.getD (0 + (Int.toNat (l11.getD (0 + (Int.toNat ((r23.2.1.getD (0 + k25) (⟨0, 0, 0⟩ : Api_Sent)).Pin))) 0))) (⟨0, 0⟩ : Api_Slot)).Core : Int) == ((r23.2.1.getD (0 + k25) (⟨0, 0, 0⟩ : Api_Sent)).Core)) && ((((r4.2.1.getD (0 + (Int.toNat (l11.getD (0 + (Int.toNat ((r23.2.1.getD (0 + k25) (⟨0, 0, 0⟩ : Api_Sent)).Pin))) 0))) (⟨0, 0⟩ : Api_Slot)).Vec : Int) == ((r23.2.1.getD (0 + k25) (⟨0, 0, 0⟩ : Api_Sent)).Vec)) && true))))) hg, trivial⟩) (fun hg => bits_With_ok (fun _ => 0) _ _ (by rw [hg] at e44; exact e44) (al := true)) (by kernel_rfl) (fun hg => ⟨(by first | rfl | simp), (by first | rfl | simp), (by first | rfl | simp), (by first | rfl | simp), (by first | rfl | (simp; done) | omega | (simp <;> omega)), trivial⟩) (fun _ => (by kernel_rfl)) ?_
         refine sg (S := .and (((!(Y29 r4.2.1 l11 r23.2.1 k25)) = true → ((!(Y29 r4.2.1 l11 r23.2.1 k25)) = true))) (.leaf 0)) ?_
         refine sk_and (fun h => h) ?_
         refine sk_leaf ?_
         obtain ⟨r46, e47, h⟩ := bd_ h
         refine callG_ok (d := some 134) (fn := 13) (ax := [.agg (Y28 r43), .pv (.raw (.int .i64 ((r23.2.1.getD (0 + k25) (⟨0, 0, 0⟩ : Api_Sent)).Vec)))]) (args := [.agg (Y28 r43), .pv (.raw (.int .i64 ((r23.2.1.getD (0 + k25) (⟨0, 0, 0⟩ : Api_Sent)).Vec)))]) (g := (!(!((((r4.2.1.getD (0 + (Int.toNat (l11.getD (0 + (Int.toNat ((r23.2.1.getD (0 + k25) (⟨0, 0, 0⟩ : Api_Sent)).Pin))) 0))) (⟨0, 0⟩ : Api_Slot)).Core : Int) == ((r23.2.1.getD (0 + k25) (⟨0, 0, 0⟩ : Api_Sent)).Core)) && ((((r4.2.1.getD (0 + (Int.toNat (l11.getD (0 + (Int.toNat ((r23.2.1.getD (0 + k25) (⟨0, 0, 0⟩ : Api_Sent)).Pin))) 0))) (⟨0, 0⟩ : Api_Slot)).Vec : Int) == ((r23.2.1.getD (0 + k25) (⟨0, 0, 0⟩ : Api_Sent)).Vec)) && true))))) (ws := (Y67 r4.2.1 l11 r23.2.1 k25)) (ps := [((r43 0) : Int) = (r43 0), ((r43 1) : Int) = (r43 1), ((r43 2) : Int) = (r43 2), ((r43 3) : Int) = (r43 3), ((r23.2.1.getD (0 + k25) (⟨0, 0, 0⟩ : Api_Sent)).Vec : Int) = ((r23.2.1.getD (0 + k25) (⟨0, 0, 0⟩ : Api_Sent)).Vec)]) (by kernel_rfl) (fun hg => ⟨((by decide : ∀ y0 : Bool, ((y0 = true) → (y0 = true))) (!(!((((r4.2.1.getD (0 + (Int.toNat (l11.getD (0 + (Int.toNat ((r23.2.1.getD (0 + k25) (⟨0, 0, 0⟩ : Api_Sent)).Pin))) 0))) (⟨0, 0⟩ : Api_Slot)).Core : Int) == ((r23.2.1.getD (0 + k25) (⟨0, 0, 0⟩ : Api_Sent)).Core)) && ((((r4.2.1.getD (0 + (Int.toNat (l11.getD (0 + (Int.toNat ((r23.2.1.getD (0 + k25) (⟨0, 0, 0⟩ : Api_Sent)).Pin))) 0))) (⟨0, 0⟩ : Api_Slot)).Vec : Int) == ((r23.2.1.getD (0 + k25) (⟨0, 0, 0⟩ : Api_Sent)).Vec)) && true))))) hg, ((by decide : ∀ y0 : Bool, ((y0 = true) → (y0 = true))) (!(!((((r4.2.1.getD (0 + (Int.toNat (l11.getD (0 + (Int.toNat ((r23.2.1.getD (0 + k25) (⟨0, 0, 0⟩ : Api_Sent)).Pin))) 0))) (⟨0, 0⟩ : Api_Slot)).Core : Int) == ((r23.2.1.getD (0 + k25) (⟨0, 0, 0⟩ : Api_Sent)).Core)) && ((((r4.2.1.getD (0 + (Int.toNat (l11.getD (0 + (Int.toNat ((r23.2.1.getD (0 + k25) (⟨0, 0, 0⟩ : Api_Sent)).Pin))) 0))) (⟨0, 0⟩ : Api_Slot)).Vec : Int) == ((r23.2.1.getD (0 + k25) (⟨0, 0, 0⟩ : Api_Sent)).Vec)) && true))))) hg, trivial⟩) (fun hg => bits_Has_ok _ _ _ (by rw [hg] at e47; exact e47) (al := true)) (by kernel_rfl) (fun hg => ⟨rfl, rfl, rfl, rfl, (by first | rfl | (simp; done) | omega | (simp <;> omega)), trivial⟩) (fun _ => (by kernel_rfl)) ?_
         refine sg (S := .and (((!(Y29 r4.2.1 l11 r23.2.1 k25)) = true → ((!(Y29 r4.2.1 l11 r23.2.1 k25)) = true))) (.and ((Y29 r4.2.1 l11 r23.2.1 k25) = false → (!(Y29 r4.2.1 l11 r23.2.1 k25)) = true) (.br ((!((((r4.2.1.getD (0 + (Int.toNat (l11.getD (0 + (Int.toNat ((r23.2.1.getD (0 + k25) (⟨0, 0, 0⟩ : Api_Sent)).Pin))) 0))) (⟨0, 0⟩ : Api_Slot)).Core : Int) == ((r23.2.1.getD (0 + k25) (⟨0, 0, 0⟩ : Api_Sent)).Core)) && ((((r4.2.1.getD (0 + (Int.toNat (l11.getD (0 + (Int.toNat ((r23.2.1.getD (0 + k25) (⟨0, 0, 0⟩ : Api_Sent)).Pin))) 0))) (⟨0, 0⟩ : Api_Slot)).Vec : Int) == ((r23.2.1.getD (0 + k25) (⟨0, 0, 0⟩ : Api_Sent)).Vec)) && true))) || (!r46)) (.leaf 0) (.leaf 1)))) ?_
         refine sk_and (fun h => h) ?_
         refine sk_and ((by decide : ∀ y0 : Bool, ((y0 = false) → ((!y0) = true))) (Y29 r4.2.1 l11 r23.2.1 k25)) ?_
         refine br_ h ?_ ?_ <;> clear h <;> intro c50 h
         ·refine sk_leaf ?_
          obtain rfl := some_ h
          exact end_ok [] Tryz.results4 (ps := [false = false]) (by kernel_rfl) ⟨rfl, trivial⟩ (fun _ => ⟨rfl, by simp⟩)
         ·refine sk_leaf ?_
          refine back_ok (p := p2) (by kernel_rfl) (hp2 (n2, k25 + 1, (kput (Y41 r23.2.1 k25) ((r23.2.1.getD (0 + k25) (⟨0, 0, 0⟩ : Api_Sent)).Pin) m26)) _ h (Nat.lt_succ_self n2) ?_)
          exact sub_ok (ρ := (rI 0 0 4)) (l := [false = false, 0 = 0, r4.2.1.length = r4.2.1.length, 0 = 0, l11.length = l11.length, (r23.2.2 : Int) = r23.2.2, 0 = 0, r23.2.1.length = r23.2.1.length, (((r23.2.1.length : Nat) : Int) : Int) = ((r23.2.1.length : Nat) : Int), ((IntKind.i64.wrap (((k25 : Nat) : Int) + 1)) : Int) = (((k25 + 1) : Nat) : Int), E50.cR r4.2.1 = E50.cR r4.2.1, AllPv (E50.cR r4.2.1), E3.cR l11 = E3.cR l11, AllPv (E3.cR l11), Key50.K (kput (Y41 r23.2.1 k25) ((r23.2.1.getD (0 + k25) (⟨0, 0, 0⟩ : Api_Sent)).Pin) m26) = Key50.K (kput (Y41 r23.2.1 k25) ((r23.2.1.getD (0 + k25) (⟨0, 0, 0⟩ : Api_Sent)).Pin) m26), E3.kX (kput (Y41 r23.2.1 k25) ((r23.2.1.getD (0 + k25) (⟨0, 0, 0⟩ : Api_Sent)).Pin) m26) = E3.kX (kput (Y41 r23.2.1 k25) ((r23.2.1.getD (0 + k25) (⟨0, 0, 0⟩ : Api_Sent)).Pin) m26), AllPv (E3.kX (kput (Y41 r23.2.1 k25) ((r23.2.1.getD (0 + k25) (⟨0, 0, 0⟩ : Api_Sent)).Pin) m26)), E58.cR r23.2.1 = E58.cR r23.2.1, AllPv (E58.cR r23.2.1)]) (by kernel_rfl) ⟨rfl, rfl, rfl, rfl, rfl, rfl, rfl, rfl, rfl, (wrap_nat (Int.ofNat_lt.1 (of_decide_eq_true c27)) (by omega)), rfl, (Elem.cR_pv _ _), rfl, (Elem.cR_pv _ _), rfl, rfl, (Elem.kX_pv _ _), rfl, (Elem.cR_pv _ _), trivial⟩
      ·refine sk_leaf ?_
       obtain rfl := some_ h
       exact end_ok [] Tryz.results4 (ps := [((r23.2.2 : Int) == 0) = ((r23.2.2 : Int) == 0)]) (by kernel_rfl) ⟨rfl, trivial⟩ (fun _ => ⟨rfl, by simp⟩)
end Go.Proofs.YthmieigenefilaaGreatDoor
