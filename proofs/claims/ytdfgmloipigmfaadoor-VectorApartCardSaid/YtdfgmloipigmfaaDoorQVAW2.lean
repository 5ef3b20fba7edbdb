/- The functions do as their models: printed by program. -/
import Derived.Test.YtdfgmloipigmfaaDoorQVAW1
set_option linter.unusedSimpArgs false
set_option linter.unusedVariables false
namespace Go.Proofs.YtdfgmloipigmfaaDoor
open Go Go.Ab
set_option maxHeartbeats 40000000
set_option maxRecDepth 100000
attribute [local irreducible] V VS runS Sk.Holds

def Y14 (x0 : Int) : Bool := ((decide ((x0 : Int) < 1)) || (decide ((x0 : Int) > 8)))
theorem vector_Play_ok (a0 : Int) (a1 : Int) (a2 : (List Api_VecOp)) (r : (List Int) × (List Api_Slot) × Int) (h : vector_Play a0 a1 a2 = some r) {al : Bool} : PCalls Tryd.prog 5 [.pv (.raw (.int .i64 a0)), .pv (.raw (.int .i64 a1)), .pv ((E34.ro a2))] al (.tup [.row 0 1 0 r.1.length, .row 1 2 0 r.2.1.length, .pv (.raw (.int .i64 r.2.2))]) [.row 26 1 (E26.cR r.1), .row 31 2 (E31.cR r.2.1)] := by
  unfold vector_Play at h
  refine fnZ_ok tabOk [8] Tryd.func5 (by kernel_rfl) (by kernel_rfl) Tryd.ntmps5 (by simp) ?_
  refine sg (S := .and (((!(decide ((a0 : Int) < 1))) = true → ((!(decide ((a0 : Int) < 1))) = true))) (.and ((decide ((a0 : Int) < 1)) = false → (!(decide ((a0 : Int) < 1))) = true) (.and (((!(Y14 a0)) = true → ((!(Y14 a0)) = true))) (.and ((Y14 a0) = false → (!(Y14 a0)) = true) (.and (((!((Y14 a0) || (decide ((a1 : Int) < 0)))) = true → ((!((Y14 a0) || (decide ((a1 : Int) < 0)))) = true))) (.and (((Y14 a0) || (decide ((a1 : Int) < 0))) = false → (!((Y14 a0) || (decide ((a1 : Int) < 0)))) = true) (.br ((((decide ((a0 : Int) < 1)) || (decide ((a0 : Int) > 8))) || (decide ((a1 : Int) < 0))) || (decide ((a1 : Int) > 2000))) (.leaf 0) (.leaf 1)))))))) ?_
  refine sk_and (fun h => h) ?_
  refine sk_and ((by decide : ∀ y0 : Bool, ((y0 = false) → ((!y0) = true))) (decide ((a0 : Int) < 1))) ?_
  refine sk_and (fun h => h) ?_
  refine sk_and ((by decide : ∀ y0 : Bool, ((y0 = false) → ((!y0) = true))) (Y14 a0)) ?_
  refine sk_and (fun h => h) ?_
  refine sk_and ((by decide : ∀ y0 : Bool, ((y0 = false) → ((!y0) = true))) ((Y14 a0) || (decide ((a1 : Int) < 0)))) ?_
  refine br_ h ?_ ?_ <;> clear h <;> intro c7 h
  · refine sk_leaf ?_
    obtain rfl := some_ h
    exact end_ok [(0, none), (1, none)] Tryd.results5 (ps := [0 = 0, ([] : List Int).length = 0, 0 = 0, ([] : List Api_Slot).length = 0, (2 : Int) = 2, E26.cR [] = [], E31.cR [] = []]) (by kernel_rfl) ⟨rfl, rfl, rfl, rfl, rfl, rfl, rfl, trivial⟩ (fun _ => ⟨rfl, by simp only [List.mem_cons, List.not_mem_nil, or_false, forall_eq_or_imp, forall_eq]; exact ⟨Elem.cR_bald E26_raw _, Elem.cR_bald E31_raw _⟩⟩)
  · refine sk_leaf ?_
    obtain ⟨g8, h⟩ := if_ h
    refine mks_ok (d := 29) (e := 31) (s := 2) (b := 16) (n := a1) (zs := [.pv (.raw (.int .i64 0)), .pv (.raw (.int .i64 0))]) E31 (by kernel_rfl) (by kernel_rfl) rfl (by kernel_rfl) g8 (by kernel_rfl) ?_
    refine s0 ?_
    obtain ⟨g9, h⟩ := if_ h
    refine mks_ok (d := 31) (e := 49) (s := 4) (b := 32) (n := a0) (zs := [.pv (.raw (.int .u64 0)), .pv (.raw (.int .u64 0)), .pv (.raw (.int .u64 0)), .pv (.raw (.int .u64 0))]) E49 (by kernel_rfl) (by kernel_rfl) rfl (by kernel_rfl) g9 (by kernel_rfl) ?_
    refine s0 ?_
    refine len_ro (by kernel_rfl) 34 (s := 3) (n := a2.length) (c := fun i j => E34.cf (a2.getD i E34.z) j) (by kernel_rfl) ?_; intro hl1_0
    refine len_row (by kernel_rfl) 18240 (e := 31) (s := 2) (n := (List.replicate (Int.toNat a1) (⟨0, 0⟩ : Api_Slot)).length) (cs := E31.cR (List.replicate (Int.toNat a1) (⟨0, 0⟩ : Api_Slot))) (by kernel_rfl) (Elem.cR_length _ _) ?_; intro hl1_1
    refine len_row (by kernel_rfl) 18368 (e := 49) (s := 4) (n := (List.replicate (Int.toNat a0) (fun (_ : Nat) => (0 : Int))).length) (cs := E49.cR (List.replicate (Int.toNat a0) (fun (_ : Nat) => (0 : Int)))) (by kernel_rfl) (Elem.cR_length _ _) ?_; intro hl1_2
    replace h : (fun (x : Nat × List Int × Nat × Int × List Api_Slot × List (Nat → Int)) => vector_Play_l1 a0 a1 a2 x.1 x.2.1 x.2.2.1 x.2.2.2.1 x.2.2.2.2.1 x.2.2.2.2.2 = some r) (FUEL, ([] : List Int), 0, a0, (List.replicate (Int.toNat a1) (⟨0, 0⟩ : Api_Slot)), (List.replicate (Int.toNat a0) (fun (_ : Nat) => (0 : Int)))) := h
    refine loop_ok (by kernel_rfl) (X := Nat × List Int × Nat × Int × List Api_Slot × List (Nat → Int)) (fun x => vector_Play_l1 a0 a1 a2 x.1 x.2.1 x.2.2.1 x.2.2.2.1 x.2.2.2.2.1 x.2.2.2.2.2 = some r) (fun x => x.1) (fun x => mk 53 [(6, .pv (.raw (.slice none 0 0))), (7, .pv (.raw (.slice none 0 0))), (8, .pv (.raw (.int .i64 0))), (9, .ptr 0 0), (10, .row 3 1 0 x.2.1.length), (34, .pv ((E34.ro a2))), (35, .pv (.raw (.int .i64 ((a2.length : Nat) : Int)))), (36, .pv (.raw (.int .i64 ((x.2.2.1 : Nat) : Int))))] [(0, .box [.pv (.raw (.int .i64 x.2.2.2.1)), .row 1 2 0 x.2.2.2.2.1.length, .row 2 4 0 x.2.2.2.2.2.length]), (1, .row 31 2 (E31.cR x.2.2.2.2.1)), (2, .row 49 4 (E49.cR x.2.2.2.2.2)), (3, .row 26 1 (E26.cR x.2.1))] [8]) (FUEL, ([] : List Int), 0, a0, (List.replicate (Int.toNat a1) (⟨0, 0⟩ : Api_Slot)), (List.replicate (Int.toNat a0) (fun (_ : Nat) => (0 : Int)))) h ?_ ?_
    · exact sub_ok (ρ := [(0, some 18496), (1, some 18240), (2, some 18368), (3, none)]) (l := [(0 : Int) = 0, 0 = 0, 0 = 0, (([] : List Int).length) = 0, a2.length = a2.length, ∀ i, i < a2.length → ∀ j, j < 3 → E34.cf (a2.getD i E34.z) j = E34.cf (a2.getD i E34.z) j, (((a2.length : Nat) : Int) : Int) = ((a2.length : Nat) : Int), (0 : Int) = ((0 : Nat) : Int), (a0 : Int) = a0, 0 = 0, (Int.toNat a1) = ((List.replicate (Int.toNat a1) (⟨0, 0⟩ : Api_Slot)).length), 0 = 0, (Int.toNat a0) = ((List.replicate (Int.toNat a0) (fun (_ : Nat) => (0 : Int))).length), E31.cR (List.replicate (Int.toNat a1) (⟨0, 0⟩ : Api_Slot)) = E31.cR (List.replicate (Int.toNat a1) (⟨0, 0⟩ : Api_Slot)), AllPv (E31.cR (List.replicate (Int.toNat a1) (⟨0, 0⟩ : Api_Slot))), E49.cR (List.replicate (Int.toNat a0) (fun (_ : Nat) => (0 : Int))) = E49.cR (List.replicate (Int.toNat a0) (fun (_ : Nat) => (0 : Int))), AllPv (E49.cR (List.replicate (Int.toNat a0) (fun (_ : Nat) => (0 : Int)))), E26.cR ([] : List Int) = []]) (by kernel_rfl) ⟨rfl, rfl, rfl, (by first | rfl | simp), rfl, fun _ _ _ _ => rfl, rfl, (by first | rfl | simp), rfl, rfl, (by first | rfl | (simp; done) | omega | (simp <;> omega)), rfl, (by first | rfl | (simp; done) | omega | (simp <;> omega)), rfl, (Elem.cR_pv _ _), rfl, (Elem.cR_pv _ _), rfl, trivial⟩
    · clear h; rintro ⟨n1, l10, k11, x12, l13, l14⟩ h p1 hp1
      obtain _ | n1 := n1
      · cases (show (none : Option ((List Int) × (List Api_Slot) × Int)) = some r from h)
      have h : vector_Play_l1 a0 a1 a2 (n1 + 1) l10 k11 x12 l13 l14 = some r := h
      unfold vector_Play_l1 at h
      refine sg (S := .br (decide ((((k11 : Nat) : Int) : Int) < ((a2.length : Nat) : Int))) (.and (0 ≤ (((k11 : Nat) : Int) : Int) ∧ ((k11 : Nat) : Int) < ((a2.length : Nat) : Int)) (.leaf 0)) (.leaf 1)) ?_
      refine br_ h ?_ ?_ <;> clear h <;> intro c15 h
      · refine sk_and ⟨Int.natCast_nonneg _, of_decide_eq_true c15⟩ ?_
        refine sk_leaf ?_
        obtain ⟨r17, e18, h⟩ := bd_ h
        refine mcall_ok (d := some 43) (fn := 8) (ax := [.ptr 0 0, .agg [.pv (.raw (.int .i64 ((a2.getD k11 (⟨0, 0, 0⟩ : Api_VecOp)).Kind))), .pv (.raw (.int .i64 ((a2.getD k11 (⟨0, 0, 0⟩ : Api_VecOp)).Line))), .pv (.raw (.int .i64 ((a2.getD k11 (⟨0, 0, 0⟩ : Api_VecOp)).Mask)))]]) (hs := [(0, .box (Y10 r17.2 19137 19138)), (19137, .row 31 2 (E31.cR r17.2.of_)), (19138, .row 49 4 (E49.cR r17.2.taken_))]) (del := [1, 2]) (ps := [0 = 0, ((a2.getD k11 (⟨0, 0, 0⟩ : Api_VecOp)).Kind : Int) = ((a2.getD k11 (⟨0, 0, 0⟩ : Api_VecOp)).Kind), ((a2.getD k11 (⟨0, 0, 0⟩ : Api_VecOp)).Line : Int) = ((a2.getD k11 (⟨0, 0, 0⟩ : Api_VecOp)).Line), ((a2.getD k11 (⟨0, 0, 0⟩ : Api_VecOp)).Mask : Int) = ((a2.getD k11 (⟨0, 0, 0⟩ : Api_VecOp)).Mask), (x12 : Int) = x12, 0 = 0, l13.length = l13.length, 0 = 0, l14.length = l14.length, E31.cR l13 = E31.cR l13, AllPv (E31.cR l13), E49.cR l14 = E49.cR l14, AllPv (E49.cR l14)]) (rI 0 0 3) (by kernel_rfl) (vector_table_do_ok _ _ _ e18 (al := true)) (by kernel_rfl) ⟨rfl, rfl, rfl, rfl, rfl, rfl, rfl, rfl, rfl, rfl, (Elem.cR_pv _ _), rfl, (Elem.cR_pv _ _), trivial⟩ (by kernel_rfl) (by simp only [Y10, List.cons_append, List.nil_append, List.append_nil, rB, rA, fl, mset_row, mset_box, mset_nil, mset_map, List.set_set]; kernel_rfl) (by kernel_rfl) ?_
        refine s0 ?_
        refine bs_ok (d := 44) (e := 26) (s := 1) (n := 1) (cs := [.pv (.raw (.int .i64 r17.1))]) (cs' := E26.cR [r17.1]) (by kernel_rfl) rfl (by kernel_rfl) ?_
        refine s0 ?_
        obtain ⟨g19, h⟩ := if_ h
        refine app_ok (d := 45) (e := 26) (s := 1) (b := 8) (x := .row 3 1 0 l10.length) (y := .row 19200 1 0 1) E26 (xs := l10) (ys := [r17.1]) (by kernel_rfl) rfl (.row 3 l10 l10.length rfl (by kernel_rfl)) (.all 19200 26 [r17.1] 1 rfl (by kernel_rfl)) g19 (by kernel_rfl) ?_
        refine s0 ?_
        refine back_ok (p := p1) (by kernel_rfl) (hp1 (n1, (l10 ++ [r17.1]), k11 + 1, r17.2.cores_, r17.2.of_, r17.2.taken_) _ h (Nat.lt_succ_self n1) ?_)
        exact sub_ok (ρ := [(0, some 0), (1, some 19137), (2, some 19138), (3, some 19264)]) (l := [(0 : Int) = 0, 0 = 0, 0 = 0, ((l10 ++ [r17.1]).length) = ((l10 ++ [r17.1]).length), a2.length = a2.length, ∀ i, i < a2.length → ∀ j, j < 3 → E34.cf (a2.getD i E34.z) j = E34.cf (a2.getD i E34.z) j, (((a2.length : Nat) : Int) : Int) = ((a2.length : Nat) : Int), ((IntKind.i64.wrap (((k11 : Nat) : Int) + 1)) : Int) = (((k11 + 1) : Nat) : Int), (r17.2.cores_ : Int) = r17.2.cores_, 0 = 0, r17.2.of_.length = r17.2.of_.length, 0 = 0, r17.2.taken_.length = r17.2.taken_.length, E31.cR r17.2.of_ = E31.cR r17.2.of_, AllPv (E31.cR r17.2.of_), E49.cR r17.2.taken_ = E49.cR r17.2.taken_, AllPv (E49.cR r17.2.taken_), E26.cR (l10 ++ [r17.1]) = E26.cR (l10 ++ [r17.1]), AllPv (E26.cR (l10 ++ [r17.1]))]) (by kernel_rfl) ⟨rfl, rfl, rfl, rfl, rfl, fun _ _ _ _ => rfl, rfl, (wrap_nat (Int.ofNat_lt.1 (of_decide_eq_true c15)) (by omega)), rfl, rfl, rfl, rfl, rfl, rfl, (Elem.cR_pv _ _), rfl, (Elem.cR_pv _ _), rfl, (Elem.cR_pv _ _), trivial⟩
      · refine sk_leaf ?_
        obtain ⟨r20, e21, h⟩ := bd_ h
        refine call_ok (d := some 52) (fn := 9) (ax := [.row 1 2 0 l13.length]) (ps := [l13.length = l13.length, rowQ (E31.cR l13) 2 0 l13.length (fun i j => E31.cf (l13.getD i E31.z) j)]) (hb' := [.row 31 2 (E31.cR r20)]) (by kernel_rfl) (slices_Clone_api_Slot_ok _ _ e21 (al := false)) (by kernel_rfl) ⟨(by first | rfl | exact Elem.sub_len _ (by omega) | omega | simp | (simp <;> omega)), E31.rowQ_all l13 rfl, trivial⟩ (fun hx => by cases hx) (by simp) (by simp only [List.map_cons, List.map_nil, Elem.row_up, up_map] <;> rfl) (by kernel_rfl) ?_
        refine s0 ?_
        obtain rfl := some_ h
        exact end_ok [(0, some 3), (1, some 19712)] Tryd.results5 (ps := [0 = 0, l10.length = l10.length, 0 = 0, r20.length = r20.length, (0 : Int) = 0, E26.cR l10 = E26.cR l10, AllPv (E26.cR l10), E31.cR r20 = E31.cR r20, AllPv (E31.cR r20)]) (by kernel_rfl) ⟨rfl, rfl, rfl, rfl, rfl, rfl, (Elem.cR_pv _ _), rfl, (Elem.cR_pv _ _), trivial⟩ (fun _ => ⟨rfl, by simp only [List.mem_cons, List.not_mem_nil, or_false, forall_eq_or_imp, forall_eq]; exact ⟨Elem.cR_bald E26_raw _, Elem.cR_bald E31_raw _⟩⟩)

theorem slices_Equal_api_Errno_ok (a0 : (List Int)) (a1 : (List Int)) (r : Bool) (h : slices_Equal_api_Errno a0 a1 = some r) {al : Bool} : PCalls Tryd.prog 6 [.pv ((E26.ro a0)), .pv ((E26.ro a1))] al (.pv (.raw (.bool r))) [] := by
  unfold slices_Equal_api_Errno at h
  refine fn_ok tabOk Tryd.func6 (by kernel_rfl) (by kernel_rfl) Tryd.ntmps6 (by simp) ?_
  refine sg (S := .br ((((a0.length : Nat) : Int) : Int) != ((a1.length : Nat) : Int)) (.leaf 0) (.leaf 1)) ?_
  refine br_ h ?_ ?_ <;> clear h <;> intro c1 h
  · refine sk_leaf ?_
    obtain rfl := some_ h
    exact end_ok [] Tryd.results6 (ps := [false = false]) (by kernel_rfl) ⟨rfl, trivial⟩ (fun _ => ⟨rfl, by simp⟩)
  · refine sk_leaf ?_
    refine len_ro (by kernel_rfl) 0 (s := 1) (n := a0.length) (c := fun i j => E26.cf (a0.getD i E26.z) j) (by kernel_rfl) ?_; intro hl1_0
    refine len_ro (by kernel_rfl) 1 (s := 1) (n := a1.length) (c := fun i j => E26.cf (a1.getD i E26.z) j) (by kernel_rfl) ?_; intro hl1_1
    replace h : (fun (x : Nat × Nat) => slices_Equal_api_Errno_l1 a0 a1 x.1 x.2 = some r) (FUEL, 0) := h
    refine loop_ok (by kernel_rfl) (X := Nat × Nat) (fun x => slices_Equal_api_Errno_l1 a0 a1 x.1 x.2 = some r) (fun x => x.1) (fun x => mk 26 [(0, .pv ((E26.ro a0))), (1, .pv ((E26.ro a1))), (4, .pv (.raw (.bool false))), (12, .pv (.raw (.int .i64 ((a0.length : Nat) : Int)))), (13, .pv (.raw (.int .i64 ((x.2 : Nat) : Int))))] []) (FUEL, 0) h ?_ ?_
    · exact sub_ok (ρ := []) (l := [a0.length = a0.length, ∀ i, i < a0.length → ∀ j, j < 1 → E26.cf (a0.getD i E26.z) j = E26.cf (a0.getD i E26.z) j, a1.length = a1.length, ∀ i, i < a1.length → ∀ j, j < 1 → E26.cf (a1.getD i E26.z) j = E26.cf (a1.getD i E26.z) j, false = false, (((a0.length : Nat) : Int) : Int) = ((a0.length : Nat) : Int), (0 : Int) = ((0 : Nat) : Int)]) (by kernel_rfl) ⟨rfl, fun _ _ _ _ => rfl, rfl, fun _ _ _ _ => rfl, rfl, rfl, (by first | rfl | simp), trivial⟩
    · clear h; rintro ⟨n1, k2⟩ h p1 hp1
      obtain _ | n1 := n1
      · cases (show (none : Option (Bool)) = some r from h)
      have h : slices_Equal_api_Errno_l1 a0 a1 (n1 + 1) k2 = some r := h
      unfold slices_Equal_api_Errno_l1 at h
      refine sg (S := .br (decide ((((k2 : Nat) : Int) : Int) < ((a0.length : Nat) : Int))) (.and (0 ≤ (((k2 : Nat) : Int) : Int) ∧ ((k2 : Nat) : Int) < ((a0.length : Nat) : Int)) (.and (0 ≤ (((k2 : Nat) : Int) : Int) ∧ ((k2 : Nat) : Int) < ((a1.length : Nat) : Int)) (.br (((a0.getD k2 0) : Int) != (a1.getD k2 0)) (.leaf 0) (.leaf 1)))) (.leaf 2)) ?_
      refine br_ h ?_ ?_ <;> clear h <;> intro c3 h
      · refine sk_and ⟨Int.natCast_nonneg _, of_decide_eq_true c3⟩ ?_
        refine gd_ h ?_; clear h; intro g5 h
        refine br_ h ?_ ?_ <;> clear h <;> intro c6 h
        · refine sk_leaf ?_
          obtain rfl := some_ h
          exact end_ok [] Tryd.results6 (ps := [false = false]) (by kernel_rfl) ⟨rfl, trivial⟩ (fun _ => ⟨rfl, by simp⟩)
        · refine sk_leaf ?_
          refine back_ok (p := p1) (by kernel_rfl) (hp1 (n1, k2 + 1) _ h (Nat.lt_succ_self n1) ?_)
          exact sub_ok (ρ := []) (l := [a0.length = a0.length, ∀ i, i < a0.length → ∀ j, j < 1 → E26.cf (a0.getD i E26.z) j = E26.cf (a0.getD i E26.z) j, a1.length = a1.length, ∀ i, i < a1.length → ∀ j, j < 1 → E26.cf (a1.getD i E26.z) j = E26.cf (a1.getD i E26.z) j, false = false, (((a0.length : Nat) : Int) : Int) = ((a0.length : Nat) : Int), ((IntKind.i64.wrap (((k2 : Nat) : Int) + 1)) : Int) = (((k2 + 1) : Nat) : Int)]) (by kernel_rfl) ⟨rfl, fun _ _ _ _ => rfl, rfl, fun _ _ _ _ => rfl, rfl, rfl, (wrap_nat (Int.ofNat_lt.1 (of_decide_eq_true c3)) (by omega)), trivial⟩
      · refine sk_leaf ?_
        obtain rfl := some_ h
        exact end_ok [] Tryd.results6 (ps := [true = true]) (by kernel_rfl) ⟨rfl, trivial⟩ (fun _ => ⟨rfl, by simp⟩)

theorem slices_Equal_api_Slot_ok (a0 : (List Api_Slot)) (a1 : (List Api_Slot)) (r : Bool) (h : slices_Equal_api_Slot a0 a1 = some r) {al : Bool} : PCalls Tryd.prog 7 [.pv ((E31.ro a0)), .pv ((E31.ro a1))] al (.pv (.raw (.bool r))) [] := by
  unfold slices_Equal_api_Slot at h
  refine fn_ok tabOk Tryd.func7 (by kernel_rfl) (by kernel_rfl) Tryd.ntmps7 (by simp) ?_
  refine sg (S := .br ((((a0.length : Nat) : Int) : Int) != ((a1.length : Nat) : Int)) (.leaf 0) (.leaf 1)) ?_
  refine br_ h ?_ ?_ <;> clear h <;> intro c1 h
  · refine sk_leaf ?_
    obtain rfl := some_ h
    exact end_ok [] Tryd.results7 (ps := [false = false]) (by kernel_rfl) ⟨rfl, trivial⟩ (fun _ => ⟨rfl, by simp⟩)
  · refine sk_leaf ?_
    refine len_ro (by kernel_rfl) 0 (s := 2) (n := a0.length) (c := fun i j => E31.cf (a0.getD i E31.z) j) (by kernel_rfl) ?_; intro hl1_0
    refine len_ro (by kernel_rfl) 1 (s := 2) (n := a1.length) (c := fun i j => E31.cf (a1.getD i E31.z) j) (by kernel_rfl) ?_; intro hl1_1
    replace h : (fun (x : Nat × Nat) => slices_Equal_api_Slot_l1 a0 a1 x.1 x.2 = some r) (FUEL, 0) := h
    refine loop_ok (by kernel_rfl) (X := Nat × Nat) (fun x => slices_Equal_api_Slot_l1 a0 a1 x.1 x.2 = some r) (fun x => x.1) (fun x => mk 26 [(0, .pv ((E31.ro a0))), (1, .pv ((E31.ro a1))), (4, .pv (.raw (.bool false))), (12, .pv (.raw (.int .i64 ((a0.length : Nat) : Int)))), (13, .pv (.raw (.int .i64 ((x.2 : Nat) : Int))))] []) (FUEL, 0) h ?_ ?_
    · exact sub_ok (ρ := []) (l := [a0.length = a0.length, ∀ i, i < a0.length → ∀ j, j < 2 → E31.cf (a0.getD i E31.z) j = E31.cf (a0.getD i E31.z) j, a1.length = a1.length, ∀ i, i < a1.length → ∀ j, j < 2 → E31.cf (a1.getD i E31.z) j = E31.cf (a1.getD i E31.z) j, false = false, (((a0.length : Nat) : Int) : Int) = ((a0.length : Nat) : Int), (0 : Int) = ((0 : Nat) : Int)]) (by kernel_rfl) ⟨rfl, fun _ _ _ _ => rfl, rfl, fun _ _ _ _ => rfl, rfl, rfl, (by first | rfl | simp), trivial⟩
    · clear h; rintro ⟨n1, k2⟩ h p1 hp1
      obtain _ | n1 := n1
      · cases (show (none : Option (Bool)) = some r from h)
      have h : slices_Equal_api_Slot_l1 a0 a1 (n1 + 1) k2 = some r := h
      unfold slices_Equal_api_Slot_l1 at h
      refine sg (S := .br (decide ((((k2 : Nat) : Int) : Int) < ((a0.length : Nat) : Int))) (.and (0 ≤ (((k2 : Nat) : Int) : Int) ∧ ((k2 : Nat) : Int) < ((a0.length : Nat) : Int)) (.and (0 ≤ (((k2 : Nat) : Int) : Int) ∧ ((k2 : Nat) : Int) < ((a1.length : Nat) : Int)) (.br (!((((a0.getD k2 (⟨0, 0⟩ : Api_Slot)).Core : Int) == ((a1.getD k2 (⟨0, 0⟩ : Api_Slot)).Core)) && ((((a0.getD k2 (⟨0, 0⟩ : Api_Slot)).Vec : Int) == ((a1.getD k2 (⟨0, 0⟩ : Api_Slot)).Vec)) && true))) (.leaf 0) (.leaf 1)))) (.leaf 2)) ?_
      refine br_ h ?_ ?_ <;> clear h <;> intro c3 h
      · refine sk_and ⟨Int.natCast_nonneg _, of_decide_eq_true c3⟩ ?_
        refine gd_ h ?_; clear h; intro g5 h
        refine br_ h ?_ ?_ <;> clear h <;> intro c6 h
        · refine sk_leaf ?_
          obtain rfl := some_ h
          exact end_ok [] Tryd.results7 (ps := [false = false]) (by kernel_rfl) ⟨rfl, trivial⟩ (fun _ => ⟨rfl, by simp⟩)
        · refine sk_leaf ?_
          refine back_ok (p := p1) (by kernel_rfl) (hp1 (n1, k2 + 1) _ h (Nat.lt_succ_self n1) ?_)
          exact sub_ok (ρ := []) (l := [a0.length = a0.length, ∀ i, i < a0.length → ∀ j, j < 2 → E31.cf (a0.getD i E31.z) j = E31.cf (a0.getD i E31.z) j, a1.length = a1.length, ∀ i, i < a1.length → ∀ j, j < 2 → E31.cf (a1.getD i E31.z) j = E31.cf (a1.getD i E31.z) j, false = false, (((a0.length : Nat) : Int) : Int) = ((a0.length : Nat) : Int), ((IntKind.i64.wrap (((k2 : Nat) : Int) + 1)) : Int) = (((k2 + 1) : Nat) : Int)]) (by kernel_rfl) ⟨rfl, fun _ _ _ _ => rfl, rfl, fun _ _ _ _ => rfl, rfl, rfl, (wrap_nat (Int.ofNat_lt.1 (of_decide_eq_true c3)) (by omega)), trivial⟩
      · refine sk_leaf ?_
        obtain rfl := some_ h
        exact end_ok [] Tryd.results7 (ps := [true = true]) (by kernel_rfl) ⟨rfl, trivial⟩ (fun _ => ⟨rfl, by simp⟩)

theorem keep_alive4_ok (r : Bool) (h : keep_alive4 = some r) {al : Bool} : PCalls Tryd.prog 4 [] al (.pv (.raw (.bool r))) [] := by
  unfold keep_alive4 at h
  refine fn_ok tabOk Tryd.func4 (by kernel_rfl) (by kernel_rfl) Tryd.ntmps4 (by simp) ?_
  refine s0 ?_
  refine bs_ok (d := 9) (e := 34) (s := 3) (n := 4) (cs := [.pv (.raw (.int .i64 1)), .pv (.raw (.int .i64 0)), .pv (.raw (.int .i64 3)), .pv (.raw (.int .i64 1)), .pv (.raw (.int .i64 1)), .pv (.raw (.int .i64 3)), .pv (.raw (.int .i64 1)), .pv (.raw (.int .i64 2)), .pv (.raw (.int .i64 3)), .pv (.raw (.int .i64 3)), .pv (.raw (.int .i64 1)), .pv (.raw (.int .i64 3))]) (cs' := E34.cR [(⟨1, 0, 3⟩ : Api_VecOp), (⟨1, 1, 3⟩ : Api_VecOp), (⟨1, 2, 3⟩ : Api_VecOp), (⟨3, 1, 3⟩ : Api_VecOp)]) (by kernel_rfl) rfl (by kernel_rfl) ?_
  refine s0 ?_
  obtain ⟨r1, e2, h⟩ := bd_ h
  refine call_ok (d := some 10) (fn := 5) (ax := [.pv (.raw (.int .i64 2)), .pv (.raw (.int .i64 3)), .row 16960 3 0 4]) (ps := [(2 : Int) = 2, (3 : Int) = 3, 4 = [(⟨1, 0, 3⟩ : Api_VecOp), (⟨1, 1, 3⟩ : Api_VecOp), (⟨1, 2, 3⟩ : Api_VecOp), (⟨3, 1, 3⟩ : Api_VecOp)].length, rowQ (E34.cR [(⟨1, 0, 3⟩ : Api_VecOp), (⟨1, 1, 3⟩ : Api_VecOp), (⟨1, 2, 3⟩ : Api_VecOp), (⟨3, 1, 3⟩ : Api_VecOp)]) 3 0 4 (fun i j => E34.cf ([(⟨1, 0, 3⟩ : Api_VecOp), (⟨1, 1, 3⟩ : Api_VecOp), (⟨1, 2, 3⟩ : Api_VecOp), (⟨3, 1, 3⟩ : Api_VecOp)].getD i E34.z) j)]) (hb' := [.row 26 1 (E26.cR r1.1), .row 31 2 (E31.cR r1.2.1)]) (by kernel_rfl) (vector_Play_ok _ _ _ _ e2 (al := false)) (by kernel_rfl) ⟨rfl, rfl, (by first | rfl | exact Elem.sub_len _ (by omega) | omega | simp | (simp <;> omega)), E34.rowQ_all [(⟨1, 0, 3⟩ : Api_VecOp), (⟨1, 1, 3⟩ : Api_VecOp), (⟨1, 2, 3⟩ : Api_VecOp), (⟨3, 1, 3⟩ : Api_VecOp)] rfl, trivial⟩ (fun hx => by cases hx) (by simp) (by simp only [List.map_cons, List.map_nil, Elem.row_up, up_map] <;> rfl) (by kernel_rfl) ?_
  refine s0 ?_
  refine bsG_ok (d := 18) (e := 26) (s := 1) (n := 4) (g := ((r1.2.2 : Int) == 0)) (ws := []) (cs := [.pv (.raw (.int .i64 0)), .pv (.raw (.int .i64 0)), .pv (.raw (.int .i64 0)), .pv (.raw (.int .i64 0))]) E26 [0, 0, 0, 0] (by kernel_rfl) (fun _ => trivial) rfl rfl rfl (by kernel_rfl) ?_
  refine s0 ?_
  obtain ⟨r3, e4, h⟩ := bd_ h
  refine callG_ok (d := some 19) (fn := 6) (ax := [.row 17024 1 0 r1.1.length, .pv ((E26.ro [0, 0, 0, 0]))]) (args := [.pv ((E26.ro r1.1)), .pv ((E26.ro [0, 0, 0, 0]))]) (g := ((r1.2.2 : Int) == 0)) (ws := [((r1.2.2 : Int) == 0) = true, ((r1.2.2 : Int) == 0) = true]) (ps := [r1.1.length = r1.1.length, rowQ (E26.cR r1.1) 1 0 r1.1.length (fun i j => E26.cf (r1.1.getD i E26.z) j), [0, 0, 0, 0].length = [0, 0, 0, 0].length, ∀ i, i < [0, 0, 0, 0].length → ∀ j, j < 1 → E26.cf ([0, 0, 0, 0].getD i E26.z) j = E26.cf ([0, 0, 0, 0].getD i E26.z) j]) (by kernel_rfl) (fun hg => ⟨((by decide : ∀ y0 : Bool, ((y0 = true) → (y0 = true))) ((r1.2.2 : Int) == 0)) hg, ((by decide : ∀ y0 : Bool, ((y0 = true) → (y0 = true))) ((r1.2.2 : Int) == 0)) hg, trivial⟩) (fun hg => slices_Equal_api_Errno_ok _ _ _ (by rw [hg] at e4; exact e4) (al := false)) (by kernel_rfl) (fun hg => ⟨(by first | rfl | exact Elem.sub_len _ (by omega) | omega | simp | (simp <;> omega)), E26.rowQ_all r1.1 rfl, rfl, fun _ _ _ _ => rfl, trivial⟩) (fun hx => by cases hx) ?_
  refine sg (S := .and (((r1.2.2 : Int) == 0) = true → ((r1.2.2 : Int) == 0) = true) (.leaf 0)) ?_
  refine sk_and (fun h => h) ?_
  refine sk_leaf ?_
  refine bsG_ok (d := 26) (e := 31) (s := 2) (n := 3) (g := (((r1.2.2 : Int) == 0) && r3)) (ws := [(((r1.2.2 : Int) == 0) && r3) = true, (((r1.2.2 : Int) == 0) && r3) = true, (((r1.2.2 : Int) == 0) && r3) = true]) (cs := [.pv (.raw (.int .i64 0)), .pv (.raw (.int .i64 32)), .pv (.raw (.int .i64 0)), .pv (.raw (.int .i64 34)), .pv (.raw (.int .i64 0)), .pv (.raw (.int .i64 33))]) E31 [(⟨0, 32⟩ : Api_Slot), (⟨0, 34⟩ : Api_Slot), (⟨0, 33⟩ : Api_Slot)] (by kernel_rfl) (fun hg => ⟨((by decide : ∀ y0 : Bool, ((y0 = true) → (y0 = true))) (((r1.2.2 : Int) == 0) && r3)) hg, ((by decide : ∀ y0 : Bool, ((y0 = true) → (y0 = true))) (((r1.2.2 : Int) == 0) && r3)) hg, ((by decide : ∀ y0 : Bool, ((y0 = true) → (y0 = true))) (((r1.2.2 : Int) == 0) && r3)) hg, trivial⟩) rfl rfl rfl (by kernel_rfl) ?_
  refine s0 ?_
  obtain ⟨r6, e7, h⟩ := bd_ h
  refine callG_ok (d := some 27) (fn := 7) (ax := [.row 17025 2 0 r1.2.1.length, .pv ((E31.ro [(⟨0, 32⟩ : Api_Slot), (⟨0, 34⟩ : Api_Slot), (⟨0, 33⟩ : Api_Slot)]))]) (args := [.pv ((E31.ro r1.2.1)), .pv ((E31.ro [(⟨0, 32⟩ : Api_Slot), (⟨0, 34⟩ : Api_Slot), (⟨0, 33⟩ : Api_Slot)]))]) (g := (((r1.2.2 : Int) == 0) && r3)) (ws := [(((r1.2.2 : Int) == 0) && r3) = true, (((r1.2.2 : Int) == 0) && r3) = true]) (ps := [r1.2.1.length = r1.2.1.length, rowQ (E31.cR r1.2.1) 2 0 r1.2.1.length (fun i j => E31.cf (r1.2.1.getD i E31.z) j), [(⟨0, 32⟩ : Api_Slot), (⟨0, 34⟩ : Api_Slot), (⟨0, 33⟩ : Api_Slot)].length = [(⟨0, 32⟩ : Api_Slot), (⟨0, 34⟩ : Api_Slot), (⟨0, 33⟩ : Api_Slot)].length, ∀ i, i < [(⟨0, 32⟩ : Api_Slot), (⟨0, 34⟩ : Api_Slot), (⟨0, 33⟩ : Api_Slot)].length → ∀ j, j < 2 → E31.cf ([(⟨0, 32⟩ : Api_Slot), (⟨0, 34⟩ : Api_Slot), (⟨0, 33⟩ : Api_Slot)].getD i E31.z) j = E31.cf ([(⟨0, 32⟩ : Api_Slot), (⟨0, 34⟩ : Api_Slot), (⟨0, 33⟩ : Api_Slot)].getD i E31.z) j]) (by kernel_rfl) (fun hg => ⟨((by decide : ∀ y0 : Bool, ((y0 = true) → (y0 = true))) (((r1.2.2 : Int) == 0) && r3)) hg, ((by decide : ∀ y0 : Bool, ((y0 = true) → (y0 = true))) (((r1.2.2 : Int) == 0) && r3)) hg, trivial⟩) (fun hg => slices_Equal_api_Slot_ok _ _ _ (by rw [hg] at e7; exact e7) (al := false)) (by kernel_rfl) (fun hg => ⟨(by first | rfl | exact Elem.sub_len _ (by omega) | omega | simp | (simp <;> omega)), E31.rowQ_all r1.2.1 rfl, rfl, fun _ _ _ _ => rfl, trivial⟩) (fun hx => by cases hx) ?_
  refine sg (S := .and ((((r1.2.2 : Int) == 0) && r3) = true → (((r1.2.2 : Int) == 0) && r3) = true) (.leaf 0)) ?_
  refine sk_and (fun h => h) ?_
  refine sk_leaf ?_
  obtain rfl := some_ h
  exact end_ok [] Tryd.results4 (ps := [((((r1.2.2 : Int) == 0) && r3) && r6) = ((((r1.2.2 : Int) == 0) && r3) && r6)]) (by kernel_rfl) ⟨rfl, trivial⟩ (fun _ => ⟨rfl, by simp⟩)

def Y2 (x0 : (List Api_Slot)) (x1 : Nat) (x2 : List (Api_Slot × Int)) : Bool := (decide ((((kget (x0.getD (0 + x1) (⟨0, 0⟩ : Api_Slot)) (kput (x0.getD (0 + x1) (⟨0, 0⟩ : Api_Slot)) (IntKind.i64.wrap (((kget (x0.getD (0 + x1) (⟨0, 0⟩ : Api_Slot)) x2).getD 0) + 1)) x2)).getD 0) : Int) > 1))
def Y1 (x0 : (List Api_Slot)) (x1 : Nat) (x2 : List (Api_Slot × Int)) : Bool := ((decide ((((kget (x0.getD (0 + x1) (⟨0, 0⟩ : Api_Slot)) (kput (x0.getD (0 + x1) (⟨0, 0⟩ : Api_Slot)) (IntKind.i64.wrap (((kget (x0.getD (0 + x1) (⟨0, 0⟩ : Api_Slot)) x2).getD 0) + 1)) x2)).getD 0) : Int) > 1)) || (decide (((x0.getD (0 + x1) (⟨0, 0⟩ : Api_Slot)).Core : Int) < 0)))
def Y9 (x0 : Bool) (x1 : (List Api_Slot)) (x2 : Nat) (x3 : Int) : Bool := (x0 || (decide (((x1.getD (0 + x2) (⟨0, 0⟩ : Api_Slot)).Core : Int) ≥ x3)))
def Y8 (x0 : Bool) (x1 : (List Api_Slot)) (x2 : Nat) (x3 : Int) : Bool := ((x0 || (decide (((x1.getD (0 + x2) (⟨0, 0⟩ : Api_Slot)).Core : Int) ≥ x3))) || (decide (((x1.getD (0 + x2) (⟨0, 0⟩ : Api_Slot)).Vec : Int) < 32)))
theorem keep_VectorApart_ok (a0 : Int) (a1 : Int) (a2 : (List Api_VecOp)) (r : Bool) (h : keep_VectorApart a0 a1 a2 = some r) {al : Bool} : PCalls Tryd.prog 3 [.pv (.raw (.int .i64 a0)), .pv (.raw (.int .i64 a1)), .pv ((E34.ro a2))] al (.pv (.raw (.bool r))) [] := by
  unfold keep_VectorApart at h
  refine fn_ok tabOk Tryd.func3 (by kernel_rfl) (by kernel_rfl) Tryd.ntmps3 (by simp) ?_
  refine s0 ?_
  obtain ⟨r1, e2, h⟩ := bd_ h
  refine call_ok (d := some 13) (fn := 4) (ax := []) (args := []) (ps := []) (hb' := []) (by kernel_rfl) (keep_alive4_ok  _ e2 (al := true)) (by kernel_rfl) trivial (fun _ => (by kernel_rfl)) (by simp) rfl (by kernel_rfl) ?_
  refine sg (S := .br (!r1) (.leaf 0) (.leaf 1)) ?_
  refine br_ h ?_ ?_ <;> clear h <;> intro c3 h
  · refine sk_leaf ?_
    obtain rfl := some_ h
    exact end_ok [] Tryd.results3 (ps := [false = false]) (by kernel_rfl) ⟨rfl, trivial⟩ (fun _ => ⟨rfl, by simp⟩)
  · refine sk_leaf ?_
    obtain ⟨r4, e5, h⟩ := bd_ h
    refine call_ok (d := some 19) (fn := 5) (ax := [.pv (.raw (.int .i64 a0)), .pv (.raw (.int .i64 a1)), .pv ((E34.ro a2))]) (ps := [(a0 : Int) = a0, (a1 : Int) = a1, a2.length = a2.length, ∀ i, i < a2.length → ∀ j, j < 3 → E34.cf (a2.getD i E34.z) j = E34.cf (a2.getD i E34.z) j]) (hb' := [.row 26 1 (E26.cR r4.1), .row 31 2 (E31.cR r4.2.1)]) (by kernel_rfl) (vector_Play_ok _ _ _ _ e5 (al := true)) (by kernel_rfl) ⟨rfl, rfl, rfl, fun _ _ _ _ => rfl, trivial⟩ (fun _ => (by kernel_rfl)) (by simp) (by simp only [List.map_cons, List.map_nil, Elem.row_up, up_map] <;> rfl) (by kernel_rfl) ?_
    refine sg (S := .br ((r4.2.2 : Int) != 0) (.leaf 0) (.leaf 1)) ?_
    refine br_ h ?_ ?_ <;> clear h <;> intro c6 h
    · refine sk_leaf ?_
      obtain rfl := some_ h
      exact end_ok [] Tryd.results3 (ps := [((((r4.2.1.length : Nat) : Int) : Int) == 0) = ((((r4.2.1.length : Nat) : Int) : Int) == 0)]) (by kernel_rfl) ⟨rfl, trivial⟩ (fun _ => ⟨rfl, by simp⟩)
    · refine sk_leaf ?_
      refine mk_ok (d := 28) (by kernel_rfl) (by kernel_rfl) ?_
      refine s0 ?_
      refine len_row (by kernel_rfl) 17600 (e := 26) (s := 1) (n := r4.1.length) (cs := E26.cR r4.1) (by kernel_rfl) (Elem.cR_length _ _) ?_; intro hl1_0
      refine len_row (by kernel_rfl) 17601 (e := 31) (s := 2) (n := r4.2.1.length) (cs := E31.cR r4.2.1) (by kernel_rfl) (Elem.cR_length _ _) ?_; intro hl1_1
      replace h : (fun (x : Nat × Nat × List (Api_Slot × Int)) => keep_VectorApart_l1 a0 a1 r4 x.1 x.2.1 x.2.2 = some r) (FUEL, 0, ([] : List (Api_Slot × Int))) := h
      refine loop_ok (by kernel_rfl) (X := Nat × Nat × List (Api_Slot × Int)) (fun x => keep_VectorApart_l1 a0 a1 r4 x.1 x.2.1 x.2.2 = some r) (fun x => x.1) (fun x => mk 77 [(0, .pv (.raw (.int .i64 a0))), (1, .pv (.raw (.int .i64 a1))), (6, .pv (.raw (.bool false))), (8, .row 0 2 0 r4.2.1.length), (10, .map 1), (29, .row 0 2 0 r4.2.1.length), (30, .pv (.raw (.int .i64 ((r4.2.1.length : Nat) : Int)))), (31, .pv (.raw (.int .i64 ((x.2.1 : Nat) : Int))))] [(0, .row 31 2 (E31.cR r4.2.1)), (1, .map (Key31.K x.2.2) (E3.kX x.2.2))]) (FUEL, 0, ([] : List (Api_Slot × Int))) h ?_ ?_
      · exact sub_ok (ρ := [(0, some 17601), (1, some 18176)]) (l := [(a0 : Int) = a0, (a1 : Int) = a1, false = false, 0 = 0, r4.2.1.length = r4.2.1.length, 0 = 0, r4.2.1.length = r4.2.1.length, (((r4.2.1.length : Nat) : Int) : Int) = ((r4.2.1.length : Nat) : Int), (0 : Int) = ((0 : Nat) : Int), E31.cR r4.2.1 = E31.cR r4.2.1, AllPv (E31.cR r4.2.1), Key31.K ([] : List (Api_Slot × Int)) = Key31.K ([] : List (Api_Slot × Int)), E3.kX ([] : List (Api_Slot × Int)) = E3.kX ([] : List (Api_Slot × Int)), AllPv (E3.kX ([] : List (Api_Slot × Int)))]) (by kernel_rfl) ⟨rfl, rfl, rfl, rfl, rfl, rfl, rfl, rfl, (by first | rfl | simp), rfl, (Elem.cR_pv _ _), rfl, rfl, (Elem.kX_pv _ _), trivial⟩
      · clear h; rintro ⟨n1, k7, m8⟩ h p1 hp1
        obtain _ | n1 := n1
        · cases (show (none : Option (Bool)) = some r from h)
        have h : keep_VectorApart_l1 a0 a1 r4 (n1 + 1) k7 m8 = some r := h
        unfold keep_VectorApart_l1 at h
        refine sg (S := .br (decide ((((k7 : Nat) : Int) : Int) < ((r4.2.1.length : Nat) : Int))) (.and (0 ≤ (((k7 : Nat) : Int) : Int) ∧ ((k7 : Nat) : Int) < ((r4.2.1.length : Nat) : Int)) (.leaf 0)) (.leaf 1)) ?_
        refine br_ h ?_ ?_ <;> clear h <;> intro c9 h
        · refine sk_and ⟨Int.natCast_nonneg _, of_decide_eq_true c9⟩ ?_
          refine sk_leaf ?_
          refine lda_ok (d := 34) (id := 0) (i := (0 + k7)) (e := 31) (n := 2) E31 (xs := r4.2.1) (by kernel_rfl) (by kernel_rfl) (by first | omega | (simp at * <;> omega) | (simp_all <;> omega)) rfl ?_
          refine sg (S := .br (((r4.2.1.getD (0 + k7) (⟨0, 0⟩ : Api_Slot)).Vec : Int) == 0) (.br (((r4.2.1.getD (0 + k7) (⟨0, 0⟩ : Api_Slot)).Core : Int) != 0) (.leaf 0) (.leaf 1)) (.leaf 2)) ?_
          refine br_ h ?_ ?_ <;> clear h <;> intro c11 h
          · refine br_ h ?_ ?_ <;> clear h <;> intro c12 h
            · refine sk_leaf ?_
              obtain rfl := some_ h
              exact end_ok [] Tryd.results3 (ps := [false = false]) (by kernel_rfl) ⟨rfl, trivial⟩ (fun _ => ⟨rfl, by simp⟩)
            · refine sk_leaf ?_
              refine back_ok (p := p1) (by kernel_rfl) (hp1 (n1, k7 + 1, m8) _ h (Nat.lt_succ_self n1) ?_)
              exact sub_ok (ρ := [(0, some 0), (1, some 1)]) (l := [(a0 : Int) = a0, (a1 : Int) = a1, false = false, 0 = 0, r4.2.1.length = r4.2.1.length, 0 = 0, r4.2.1.length = r4.2.1.length, (((r4.2.1.length : Nat) : Int) : Int) = ((r4.2.1.length : Nat) : Int), ((IntKind.i64.wrap (((k7 : Nat) : Int) + 1)) : Int) = (((k7 + 1) : Nat) : Int), E31.cR r4.2.1 = E31.cR r4.2.1, AllPv (E31.cR r4.2.1), Key31.K m8 = Key31.K m8, E3.kX m8 = E3.kX m8, AllPv (E3.kX m8)]) (by kernel_rfl) ⟨rfl, rfl, rfl, rfl, rfl, rfl, rfl, rfl, (wrap_nat (Int.ofNat_lt.1 (of_decide_eq_true c9)) (by omega)), rfl, (Elem.cR_pv _ _), rfl, rfl, (Elem.kX_pv _ _), trivial⟩
          · refine sk_leaf ?_
            refine lkk_ok (d := 43) (id := 1) (z := .pv (.raw (.int .i64 0))) Key31 E3 (m := m8) (r4.2.1.getD (0 + k7) (⟨0, 0⟩ : Api_Slot)) (.pv (.raw (.int .i64 ((kget (r4.2.1.getD (0 + k7) (⟨0, 0⟩ : Api_Slot)) m8).getD 0)))) (by kernel_rfl) (by kernel_rfl) rfl rfl ?_
            refine s0 ?_
            refine muk_ok (id := 1) Key31 E3 (m := m8) (r4.2.1.getD (0 + k7) (⟨0, 0⟩ : Api_Slot)) (IntKind.i64.wrap (((kget (r4.2.1.getD (0 + k7) (⟨0, 0⟩ : Api_Slot)) m8).getD 0) + 1)) (by kernel_rfl) (by kernel_rfl) rfl ?_
            refine s0 ?_
            refine lkk_ok (d := 49) (id := 1) (z := .pv (.raw (.int .i64 0))) Key31 E3 (m := (kput (r4.2.1.getD (0 + k7) (⟨0, 0⟩ : Api_Slot)) (IntKind.i64.wrap (((kget (r4.2.1.getD (0 + k7) (⟨0, 0⟩ : Api_Slot)) m8).getD 0) + 1)) m8)) (r4.2.1.getD (0 + k7) (⟨0, 0⟩ : Api_Slot)) (.pv (.raw (.int .i64 ((kget (r4.2.1.getD (0 + k7) (⟨0, 0⟩ : Api_Slot)) (kput (r4.2.1.getD (0 + k7) (⟨0, 0⟩ : Api_Slot)) (IntKind.i64.wrap (((kget (r4.2.1.getD (0 + k7) (⟨0, 0⟩ : Api_Slot)) m8).getD 0) + 1)) m8)).getD 0)))) (by kernel_rfl) (by kernel_rfl) rfl rfl ?_
            refine sg (S := .and (((!(Y2 r4.2.1 k7 m8)) = true → ((!(Y2 r4.2.1 k7 m8)) = true))) (.and (((!(Y2 r4.2.1 k7 m8)) = true → ((!(Y2 r4.2.1 k7 m8)) = true))) (.and ((Y2 r4.2.1 k7 m8) = false → (!(Y2 r4.2.1 k7 m8)) = true) (.and (((!(Y1 r4.2.1 k7 m8)) = true → ((!(Y1 r4.2.1 k7 m8)) = true))) (.and (((!(Y1 r4.2.1 k7 m8)) = true → ((!(Y1 r4.2.1 k7 m8)) = true))) (.and (((!(Y1 r4.2.1 k7 m8)) = true → ((!(Y1 r4.2.1 k7 m8)) = true))) (.and ((Y1 r4.2.1 k7 m8) = false → (!(Y1 r4.2.1 k7 m8)) = true) (.and (((!(Y9 (Y1 r4.2.1 k7 m8) r4.2.1 k7 a0)) = true → ((!(Y9 (Y1 r4.2.1 k7 m8) r4.2.1 k7 a0)) = true))) (.and (((!(Y9 (Y1 r4.2.1 k7 m8) r4.2.1 k7 a0)) = true → ((!(Y9 (Y1 r4.2.1 k7 m8) r4.2.1 k7 a0)) = true))) (.and ((Y9 (Y1 r4.2.1 k7 m8) r4.2.1 k7 a0) = false → (!(Y9 (Y1 r4.2.1 k7 m8) r4.2.1 k7 a0)) = true) (.and (((!(Y8 (Y1 r4.2.1 k7 m8) r4.2.1 k7 a0)) = true → ((!(Y8 (Y1 r4.2.1 k7 m8) r4.2.1 k7 a0)) = true))) (.and (((!(Y8 (Y1 r4.2.1 k7 m8) r4.2.1 k7 a0)) = true → ((!(Y8 (Y1 r4.2.1 k7 m8) r4.2.1 k7 a0)) = true))) (.and ((Y8 (Y1 r4.2.1 k7 m8) r4.2.1 k7 a0) = false → (!(Y8 (Y1 r4.2.1 k7 m8) r4.2.1 k7 a0)) = true) (.br (((((decide ((((kget (r4.2.1.getD (0 + k7) (⟨0, 0⟩ : Api_Slot)) (kput (r4.2.1.getD (0 + k7) (⟨0, 0⟩ : Api_Slot)) (IntKind.i64.wrap (((kget (r4.2.1.getD (0 + k7) (⟨0, 0⟩ : Api_Slot)) m8).getD 0) + 1)) m8)).getD 0) : Int) > 1)) || (decide (((r4.2.1.getD (0 + k7) (⟨0, 0⟩ : Api_Slot)).Core : Int) < 0))) || (decide (((r4.2.1.getD (0 + k7) (⟨0, 0⟩ : Api_Slot)).Core : Int) ≥ a0))) || (decide (((r4.2.1.getD (0 + k7) (⟨0, 0⟩ : Api_Slot)).Vec : Int) < 32))) || (decide (((r4.2.1.getD (0 + k7) (⟨0, 0⟩ : Api_Slot)).Vec : Int) ≥ 256))) (.leaf 0) (.leaf 1))))))))))))))) ?_
            refine sk_and (fun h => h) ?_
            refine sk_and (fun h => h) ?_
            refine sk_and ((by decide : ∀ y0 : Bool, ((y0 = false) → ((!y0) = true))) (Y2 r4.2.1 k7 m8)) ?_
            refine sk_and (fun h => h) ?_
            refine sk_and (fun h => h) ?_
            refine sk_and (fun h => h) ?_
            refine sk_and ((by decide : ∀ y0 : Bool, ((y0 = false) → ((!y0) = true))) (Y1 r4.2.1 k7 m8)) ?_
            refine sk_and (fun h => h) ?_
            refine sk_and (fun h => h) ?_
            refine sk_and ((by decide : ∀ y0 : Bool, ((y0 = false) → ((!y0) = true))) (Y9 (Y1 r4.2.1 k7 m8) r4.2.1 k7 a0)) ?_
            refine sk_and (fun h => h) ?_
            refine sk_and (fun h => h) ?_
            refine sk_and ((by decide : ∀ y0 : Bool, ((y0 = false) → ((!y0) = true))) (Y8 (Y1 r4.2.1 k7 m8) r4.2.1 k7 a0)) ?_
            refine br_ h ?_ ?_ <;> clear h <;> intro c26 h
            · refine sk_leaf ?_
              obtain rfl := some_ h
              exact end_ok [] Tryd.results3 (ps := [false = false]) (by kernel_rfl) ⟨rfl, trivial⟩ (fun _ => ⟨rfl, by simp⟩)
            · refine sk_leaf ?_
              refine back_ok (p := p1) (by kernel_rfl) (hp1 (n1, k7 + 1, (kput (r4.2.1.getD (0 + k7) (⟨0, 0⟩ : Api_Slot)) (IntKind.i64.wrap (((kget (r4.2.1.getD (0 + k7) (⟨0, 0⟩ : Api_Slot)) m8).getD 0) + 1)) m8)) _ h (Nat.lt_succ_self n1) ?_)
              exact sub_ok (ρ := [(0, some 0), (1, some 1)]) (l := [(a0 : Int) = a0, (a1 : Int) = a1, false = false, 0 = 0, r4.2.1.length = r4.2.1.length, 0 = 0, r4.2.1.length = r4.2.1.length, (((r4.2.1.length : Nat) : Int) : Int) = ((r4.2.1.length : Nat) : Int), ((IntKind.i64.wrap (((k7 : Nat) : Int) + 1)) : Int) = (((k7 + 1) : Nat) : Int), E31.cR r4.2.1 = E31.cR r4.2.1, AllPv (E31.cR r4.2.1), Key31.K (kput (r4.2.1.getD (0 + k7) (⟨0, 0⟩ : Api_Slot)) (IntKind.i64.wrap (((kget (r4.2.1.getD (0 + k7) (⟨0, 0⟩ : Api_Slot)) m8).getD 0) + 1)) m8) = Key31.K (kput (r4.2.1.getD (0 + k7) (⟨0, 0⟩ : Api_Slot)) (IntKind.i64.wrap (((kget (r4.2.1.getD (0 + k7) (⟨0, 0⟩ : Api_Slot)) m8).getD 0) + 1)) m8), E3.kX (kput (r4.2.1.getD (0 + k7) (⟨0, 0⟩ : Api_Slot)) (IntKind.i64.wrap (((kget (r4.2.1.getD (0 + k7) (⟨0, 0⟩ : Api_Slot)) m8).getD 0) + 1)) m8) = E3.kX (kput (r4.2.1.getD (0 + k7) (⟨0, 0⟩ : Api_Slot)) (IntKind.i64.wrap (((kget (r4.2.1.getD (0 + k7) (⟨0, 0⟩ : Api_Slot)) m8).getD 0) + 1)) m8), AllPv (E3.kX (kput (r4.2.1.getD (0 + k7) (⟨0, 0⟩ : Api_Slot)) (IntKind.i64.wrap (((kget (r4.2.1.getD (0 + k7) (⟨0, 0⟩ : Api_Slot)) m8).getD 0) + 1)) m8))]) (by kernel_rfl) ⟨rfl, rfl, rfl, rfl, rfl, rfl, rfl, rfl, (wrap_nat (Int.ofNat_lt.1 (of_decide_eq_true c9)) (by omega)), rfl, (Elem.cR_pv _ _), rfl, rfl, (Elem.kX_pv _ _), trivial⟩
        · refine sk_leaf ?_
          obtain rfl := some_ h
          exact end_ok [] Tryd.results3 (ps := [((((r4.2.1.length : Nat) : Int) : Int) == a1) = ((((r4.2.1.length : Nat) : Int) : Int) == a1)]) (by kernel_rfl) ⟨rfl, trivial⟩ (fun _ => ⟨rfl, by simp⟩)

end Go.Proofs.YtdfgmloipigmfaaDoor
