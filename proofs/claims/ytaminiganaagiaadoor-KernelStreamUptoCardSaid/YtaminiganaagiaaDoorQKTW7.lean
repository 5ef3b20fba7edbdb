import Derived.Test.YtaminiganaagiaaDoorQKTW6
set_option linter.unusedSimpArgs false
set_option linter.unusedVariables false
namespace Go.Proofs.YtaminiganaagiaaDoor
open Go Go.Ab
set_option maxHeartbeats 40000000
set_option maxRecDepth 100000
attribute [local irreducible] V VS runS Sk.Holds
def Y123 (x0 : List Api_KernOp) (x1 : Int) : List AV := [.pv (.raw (.int .i64 ((x0.getD (0 + (Int.toNat x1)) (⟨0, 0, 0, 0⟩ : Api_KernOp)).Kind))), .pv (.raw (.int .i64 ((x0.getD (0 + (Int.toNat x1)) (⟨0, 0, 0, 0⟩ : Api_KernOp)).Core))), .pv (.raw (.int .i64 ((x0.getD (0 + (Int.toNat x1)) (⟨0, 0, 0, 0⟩ : Api_KernOp)).N))), .pv (.raw (.int .u8 ((x0.getD (0 + (Int.toNat x1)) (⟨0, 0, 0, 0⟩ : Api_KernOp)).Byte)))]
theorem slices_DeleteFunc_api_KernOp_keep_KernelStream_1_h0_ok (a0 : (List Api_KernOp)) (r : (List Api_KernOp)) (h : slices_DeleteFunc_api_KernOp_keep_KernelStream_1_h0 a0 = some r) {al : Bool} : MCalls Tryd.prog 12 [.row 0 4 0 a0.length, .fn 13 []] [.row 26 4 (E26.cR a0)] 0 al (.row 0 4 0 r.length) [.row 26 4 (E26.cR r)] := by
 unfold slices_DeleteFunc_api_KernOp_keep_KernelStream_1_h0 at h
 refine fnM_ok tabOk (fz := []) Tryd.func12 (by kernel_rfl) (by kernel_rfl) Tryd.ntmps12 (by simp) (by first | (simp; done) | exact Nat.le_of_ble_eq_true rfl) ?_
 refine s0 ?_
 obtain ⟨r1, e2, h⟩ := bd_ h
 refine call_ok (d := some 10) (fn := 20) (ax := [.row 0 4 0 a0.length, .fn 13 []]) (ps := [a0.length = a0.length, rowQ (E26.cR a0) 4 0 a0.length (fun i j => E26.cf (a0.getD i E26.z) j)]) (hb' := []) (by kernel_rfl) (slices_IndexFunc_api_KernOp_keep_KernelStream_1_ok _ _ e2 (al := false)) (by kernel_rfl) ⟨(by first | rfl | exact Elem.sub_len _ (by omega) | omega | simp | (simp <;> omega)), E26.rowQ_all a0 rfl, trivial⟩ (fun hx => by cases hx) (by simp) rfl (by kernel_rfl) ?_
 refine sg (S := .br ((r1 : Int) == (-1)) (.leaf 0) (.leaf 1)) ?_
 refine br_ h ?_ ?_ <;> clear h <;> intro c3 h
 ·refine sk_leaf ?_
  obtain rfl := some_ h
  exact endM_ok [(0, some 0)] Tryd.results12 (ps := [0 = 0, a0.length = a0.length, E26.cR a0 = E26.cR a0, AllPv (E26.cR a0)]) (by kernel_rfl) ⟨rfl, rfl, rfl, (Elem.cR_pv _ _), trivial⟩ (fun _ => ⟨rfl, by simp only [List.mem_cons, List.not_mem_nil, or_false, forall_eq_or_imp, forall_eq]; exact Elem.cR_bald E26_raw _⟩)
 ·refine sk_leaf ?_
  refine len_row (by kernel_rfl) 0 (e := 26) (s := 4) (n := a0.length) (cs := E26.cR a0) (by kernel_rfl) (Elem.cR_length _ _) ?_; intro hl1_0
  replace h : (fun (x : Nat × Int × Int × List Api_KernOp) => slices_DeleteFunc_api_KernOp_keep_KernelStream_1_h0_l1 a0 r1 x.1 x.2.1 x.2.2.1 x.2.2.2 = some r) (FUEL, r1, (IntKind.i64.wrap (r1 + 1)), a0) := h
  refine loop_ok (by kernel_rfl) (X := Nat × Int × Int × List Api_KernOp) (fun x => slices_DeleteFunc_api_KernOp_keep_KernelStream_1_h0_l1 a0 r1 x.1 x.2.1 x.2.2.1 x.2.2.2 = some r) (fun x => x.1) (fun x => mk 42 [(0, .row 0 4 0 x.2.2.2.length), (1, .fn 13 []), (4, .pv (.raw (.slice none 0 0))), (5, .pv (.raw (.int .i64 x.2.1))), (6, .pv (.raw (.int .i64 x.2.2.1)))] [(0, .row 26 4 (E26.cR x.2.2.2))]) (FUEL, r1, (IntKind.i64.wrap (r1 + 1)), a0) h ?_ ?_
  ·exact sub_ok (ρ := [(0, some 0)]) (l := [0 = 0, a0.length = a0.length, (r1 : Int) = r1, ((IntKind.i64.wrap (r1 + 1)) : Int) = (IntKind.i64.wrap (r1 + 1)), E26.cR a0 = E26.cR a0, AllPv (E26.cR a0)]) (by kernel_rfl) ⟨rfl, rfl, rfl, rfl, rfl, (Elem.cR_pv _ _), trivial⟩
  ·clear h; rintro ⟨n1, x4, x5, l6⟩ h p1 hp1
   obtain _ | n1 := n1
   ·cases (show (none : Option ((List Api_KernOp))) = some r from h)
   have h : slices_DeleteFunc_api_KernOp_keep_KernelStream_1_h0_l1 a0 r1 (n1 + 1) x4 x5 l6 = some r := h
   unfold slices_DeleteFunc_api_KernOp_keep_KernelStream_1_h0_l1 at h
   refine sg (S := .br (decide ((x5 : Int) < ((l6.length : Nat) : Int))) (.and (0 ≤ (x5 : Int) ∧ x5 < ((l6.length : Nat) : Int)) (.leaf 0)) (.and (0 ≤ (x4 : Int)) (.and ((Int.toNat x4) ≤ l6.length) (.leaf 1)))) ?_
   refine br_ h ?_ ?_ <;> clear h <;> intro c7 h
   ·refine gd_ h ?_; clear h; intro g8 h
    refine sk_leaf ?_
    refine lda_ok (d := 25) (id := 0) (i := (0 + (Int.toNat x5))) (e := 26) (n := 4) E26 (xs := l6) (by kernel_rfl) (by kernel_rfl) (by first | omega | (simp at * <;> omega) | (simp_all <;> omega)) rfl ?_
    refine s0 ?_
    obtain ⟨r9, e10, h⟩ := bd_ h
    refine call_ok (d := some 28) (fn := 13) (ax := [.agg (Y123 l6 x5)]) (ps := [((l6.getD (0 + (Int.toNat x5)) (⟨0, 0, 0, 0⟩ : Api_KernOp)).Kind : Int) = ((l6.getD (0 + (Int.toNat x5)) (⟨0, 0, 0, 0⟩ : Api_KernOp)).Kind), ((l6.getD (0 + (Int.toNat x5)) (⟨0, 0, 0, 0⟩ : Api_KernOp)).Core : Int) = ((l6.getD (0 + (Int.toNat x5)) (⟨0, 0, 0, 0⟩ : Api_KernOp)).Core), ((l6.getD (0 + (Int.toNat x5)) (⟨0, 0, 0, 0⟩ : Api_KernOp)).N : Int) = ((l6.getD (0 + (Int.toNat x5)) (⟨0, 0, 0, 0⟩ : Api_KernOp)).N), ((l6.getD (0 + (Int.toNat x5)) (⟨0, 0, 0, 0⟩ : Api_KernOp)).Byte : Int) = ((l6.getD (0 + (Int.toNat x5)) (⟨0, 0, 0, 0⟩ : Api_KernOp)).Byte)]) (hb' := []) (by kernel_rfl) (keep_KernelStream_1_ok _ _ e10 (al := true)) (by kernel_rfl) ⟨rfl, rfl, rfl, rfl, trivial⟩ (fun _ => (by kernel_rfl)) (by simp) rfl (by kernel_rfl) ?_
    refine sg (S := .br (!r9) (.and (0 ≤ (x4 : Int) ∧ x4 < ((l6.length : Nat) : Int)) (.leaf 0)) (.leaf 1)) ?_
    refine br_ h ?_ ?_ <;> clear h <;> intro c11 h
    ·refine gd_ h ?_; clear h; intro g12 h
     refine sk_leaf ?_
     refine st_ok (id := 0) (i := (0 + (Int.toNat x4))) (j := 0) (e := 26) (vs := (Y123 l6 x5)) E26 (xs := l6) (l6.getD (0 + (Int.toNat x5)) (⟨0, 0, 0, 0⟩ : Api_KernOp)) (by kernel_rfl) (by kernel_rfl) (by first | omega | (simp at * <;> omega) | (simp_all <;> omega)) (by exact Nat.le_of_ble_eq_true rfl) rfl ?_
     refine s0 ?_
     refine back_ok (p := p1) (by kernel_rfl) (hp1 (n1, (IntKind.i64.wrap (x4 + 1)), (IntKind.i64.wrap (x5 + 1)), (l6.set (0 + (Int.toNat x4)) (l6.getD (0 + (Int.toNat x5)) (⟨0, 0, 0, 0⟩ : Api_KernOp)))) _ h (Nat.lt_succ_self n1) ?_)
     exact sub_ok (ρ := [(0, some 0)]) (l := [0 = 0, l6.length = ((l6.set (0 + (Int.toNat x4)) (l6.getD (0 + (Int.toNat x5)) (⟨0, 0, 0, 0⟩ : Api_KernOp))).length), ((IntKind.i64.wrap (x4 + 1)) : Int) = (IntKind.i64.wrap (x4 + 1)), ((IntKind.i64.wrap (x5 + 1)) : Int) = (IntKind.i64.wrap (x5 + 1)), E26.cR (l6.set (0 + (Int.toNat x4)) (l6.getD (0 + (Int.toNat x5)) (⟨0, 0, 0, 0⟩ : Api_KernOp))) = E26.cR (l6.set (0 + (Int.toNat x4)) (l6.getD (0 + (Int.toNat x5)) (⟨0, 0, 0, 0⟩ : Api_KernOp))), AllPv (E26.cR (l6.set (0 + (Int.toNat x4)) (l6.getD (0 + (Int.toNat x5)) (⟨0, 0, 0, 0⟩ : Api_KernOp))))]) (by kernel_rfl) ⟨rfl, (by first | rfl | (simp; done) | omega | (simp <;> omega)), rfl, rfl, rfl, (Elem.cR_pv _ _), trivial⟩
    ·refine sk_leaf ?_
     refine back_ok (p := p1) (by kernel_rfl) (hp1 (n1, x4, (IntKind.i64.wrap (x5 + 1)), l6) _ h (Nat.lt_succ_self n1) ?_)
     exact sub_ok (ρ := [(0, some 0)]) (l := [0 = 0, l6.length = l6.length, (x4 : Int) = x4, ((IntKind.i64.wrap (x5 + 1)) : Int) = (IntKind.i64.wrap (x5 + 1)), E26.cR l6 = E26.cR l6, AllPv (E26.cR l6)]) (by kernel_rfl) ⟨rfl, rfl, rfl, rfl, rfl, (Elem.cR_pv _ _), trivial⟩
   ·refine gd_ h ?_; clear h; intro g13 h
    refine gd_ h ?_; clear h; intro g14 h
    refine sk_leaf ?_
    obtain ⟨g15, h⟩ := if_ h
    refine cl_ok (s := 4) (id := 0) (e := 26) (off := (0 + (Int.toNat x4))) (len := (l6.length - (Int.toNat x4))) E26 (xs := l6) (by kernel_rfl) rfl rfl (by kernel_rfl) g15 ?_
    refine sg (S := .and (0 ≤ (x4 : Int)) (.and ((Int.toNat x4) ≤ l6.length) (.leaf 0))) ?_
    refine gd_ h ?_; clear h; intro g16 h
    refine gd_ h ?_; clear h; intro g17 h
    refine sk_leaf ?_
    obtain rfl := some_ h
    exact endR_ok E26 (xs := (cpL l6 (0 + (Int.toNat x4)) (l6.length - (Int.toNat x4)) (List.replicate (l6.length - (Int.toNat x4)) (⟨0, 0, 0, 0⟩ : Api_KernOp)))) 0 (0 + 0) 19072 ((Int.toNat x4) - 0) 26 4 rfl (by kernel_rfl) (by first | omega | (simp at * <;> omega) | (simp_all <;> omega)) (by kernel_rfl) [(0, some 19072)] Tryd.results12 (ps := [0 = 0, ((Int.toNat x4) - 0) = (((cpL l6 (0 + (Int.toNat x4)) (l6.length - (Int.toNat x4)) (List.replicate (l6.length - (Int.toNat x4)) (⟨0, 0, 0, 0⟩ : Api_KernOp))).drop (0 + 0)).take ((Int.toNat x4) - 0)).length, E26.cR (((cpL l6 (0 + (Int.toNat x4)) (l6.length - (Int.toNat x4)) (List.replicate (l6.length - (Int.toNat x4)) (⟨0, 0, 0, 0⟩ : Api_KernOp))).drop (0 + 0)).take ((Int.toNat x4) - 0)) = E26.cR (((cpL l6 (0 + (Int.toNat x4)) (l6.length - (Int.toNat x4)) (List.replicate (l6.length - (Int.toNat x4)) (⟨0, 0, 0, 0⟩ : Api_KernOp))).drop (0 + 0)).take ((Int.toNat x4) - 0)), AllPv (E26.cR (((cpL l6 (0 + (Int.toNat x4)) (l6.length - (Int.toNat x4)) (List.replicate (l6.length - (Int.toNat x4)) (⟨0, 0, 0, 0⟩ : Api_KernOp))).drop (0 + 0)).take ((Int.toNat x4) - 0)))]) (by kernel_rfl) ⟨rfl, (by first | omega | (simp; done) | (simp <;> omega) | (simp at * <;> omega)), rfl, (Elem.cR_pv _ _), trivial⟩ (fun _ => ⟨rfl, by simp only [List.mem_cons, List.not_mem_nil, or_false, forall_eq_or_imp, forall_eq]; exact Elem.cR_bald E26_raw _⟩)
def Y122 (x0 : (List Api_KernOp)) (x1 : List Int) (x2 : Nat) : List Prop := [x0.length = x0.length, ∀ i, i < x0.length → ∀ j, j < 4 → E26.cf (x0.getD i E26.z) j = E26.cf (x0.getD i E26.z) j, 0 = 0, x1.length = x1.length, x0.length = x0.length, ∀ i, i < x0.length → ∀ j, j < 4 → E26.cf (x0.getD i E26.z) j = E26.cf (x0.getD i E26.z) j, (((x0.length : Nat) : Int) : Int) = ((x0.length : Nat) : Int), ((IntKind.i64.wrap (((x2 : Nat) : Int) + 1)) : Int) = (((x2 + 1) : Nat) : Int), E5.cR x1 = E5.cR x1, AllPv (E5.cR x1)]
theorem keep_kept_ok (a0 : (List Api_KernOp)) (r : (List Int)) (h : keep_kept a0 = some r) {al : Bool} : PCalls Tryd.prog 14 [.pv ((E26.ro a0))] al (.row 0 1 0 r.length) [.row 5 1 (E5.cR r)] := by
 unfold keep_kept at h
 refine fn_ok tabOk Tryd.func14 (by kernel_rfl) (by kernel_rfl) Tryd.ntmps14 (by simp) ?_
 refine s0 ?_
 refine len_ro (by kernel_rfl) 0 (s := 4) (n := a0.length) (c := fun i j => E26.cf (a0.getD i E26.z) j) (by kernel_rfl) ?_; intro hl1_0
 refine len_ro (by kernel_rfl) 10 (s := 4) (n := a0.length) (c := fun i j => E26.cf (a0.getD i E26.z) j) (by kernel_rfl) ?_; intro hl1_1
 replace h : (fun (x : Nat × List Int × Nat) => keep_kept_l1 a0 x.1 x.2.1 x.2.2 = some r) (FUEL, ([] : List Int), 0) := h
 refine loop_ok (by kernel_rfl) (X := Nat × List Int × Nat) (fun x => keep_kept_l1 a0 x.1 x.2.1 x.2.2 = some r) (fun x => x.1) (fun x => mk 47 [(0, .pv ((E26.ro a0))), (2, .pv (.raw (.slice none 0 0))), (3, .row 0 1 0 x.2.1.length), (10, .pv ((E26.ro a0))), (11, .pv (.raw (.int .i64 ((a0.length : Nat) : Int)))), (12, .pv (.raw (.int .i64 ((x.2.2 : Nat) : Int))))] [(0, .row 5 1 (E5.cR x.2.1))]) (FUEL, ([] : List Int), 0) h ?_ ?_
 ·exact sub_ok (ρ := [(0, none)]) (l := [a0.length = a0.length, ∀ i, i < a0.length → ∀ j, j < 4 → E26.cf (a0.getD i E26.z) j = E26.cf (a0.getD i E26.z) j, 0 = 0, (([] : List Int).length) = 0, a0.length = a0.length, ∀ i, i < a0.length → ∀ j, j < 4 → E26.cf (a0.getD i E26.z) j = E26.cf (a0.getD i E26.z) j, (((a0.length : Nat) : Int) : Int) = ((a0.length : Nat) : Int), (0 : Int) = ((0 : Nat) : Int), E5.cR ([] : List Int) = []]) (by kernel_rfl) ⟨rfl, fun _ _ _ _ => rfl, rfl, (by first | rfl | simp), rfl, fun _ _ _ _ => rfl, rfl, (by first | rfl | simp), rfl, trivial⟩
 ·clear h; rintro ⟨n1, l1, k2⟩ h p1 hp1
  obtain _ | n1 := n1
  ·cases (show (none : Option ((List Int))) = some r from h)
  have h : keep_kept_l1 a0 (n1 + 1) l1 k2 = some r := h
  unfold keep_kept_l1 at h
  refine sg (S := .br (decide ((((k2 : Nat) : Int) : Int) < ((a0.length : Nat) : Int))) (.and (0 ≤ (((k2 : Nat) : Int) : Int) ∧ ((k2 : Nat) : Int) < ((a0.length : Nat) : Int)) (.br (((a0.getD k2 (⟨0, 0, 0, 0⟩ : Api_KernOp)).Kind : Int) != 1) (.leaf 0) (.and (0 ≤ (((k2 : Nat) : Int) : Int)) (.and (k2 ≤ a0.length) (.leaf 1))))) (.leaf 2)) ?_
  refine br_ h ?_ ?_ <;> clear h <;> intro c3 h
  ·refine sk_and ⟨Int.natCast_nonneg _, of_decide_eq_true c3⟩ ?_
   refine br_ h ?_ ?_ <;> clear h <;> intro c5 h
   ·refine sk_leaf ?_
    refine back_ok (p := p1) (by kernel_rfl) (hp1 (n1, l1, k2 + 1) _ h (Nat.lt_succ_self n1) ?_)
    exact sub_ok (ρ := [(0, some 0)]) (l := (Y122 a0 l1 k2)) (by kernel_rfl) ⟨rfl, fun _ _ _ _ => rfl, rfl, rfl, rfl, fun _ _ _ _ => rfl, rfl, (wrap_nat (Int.ofNat_lt.1 (of_decide_eq_true c3)) (by omega)), rfl, (Elem.cR_pv _ _), trivial⟩
   ·refine gd_ h ?_; clear h; intro g6 h
    refine gd_ h ?_; clear h; intro g7 h
    refine sk_leaf ?_
    obtain ⟨r8, e9, h⟩ := bd_ h
    refine call_ok (d := some 24) (fn := 9) (ax := [.pv (.ro E26.s (k2 - 0) (fun i j => E26.cf (a0.getD (0 + i) E26.z) j))]) (ps := [(k2 - 0) = ((a0.drop 0).take (k2 - 0)).length, ∀ i, i < (k2 - 0) → ∀ j, j < 4 → E26.cf (a0.getD (0 + i) E26.z) j = E26.cf (((a0.drop 0).take (k2 - 0)).getD i E26.z) j]) (hb' := [.row 38 2 (E38.cR r8.1), .row 5 1 (E5.cR r8.2.Device), .row 5 1 (E5.cR r8.2.Fetched)]) (by kernel_rfl) (kernel_Play_ok _ _ e9) (by kernel_rfl) ⟨(Elem.sub_len _ (by omega)), (Elem.sub_cf _ _ (by omega)), trivial⟩ (fun _ => (by kernel_rfl)) (by simp) (by simp only [List.map_cons, List.map_nil, Elem.row_up, up_map] <;> rfl) (by kernel_rfl) ?_
    refine sg (S := .and (0 ≤ ((IntKind.i64.wrap (((k2 : Nat) : Int) + 1)) : Int)) (.and ((Int.toNat (IntKind.i64.wrap (((k2 : Nat) : Int) + 1))) ≤ a0.length) (.leaf 0))) ?_
    refine gd_ h ?_; clear h; intro g10 h
    refine gd_ h ?_; clear h; intro g11 h
    refine sk_leaf ?_
    obtain ⟨r12, e13, h⟩ := bd_ h
    refine call_ok (d := some 32) (fn := 9) (ax := [.pv (.ro E26.s ((Int.toNat (IntKind.i64.wrap (((k2 : Nat) : Int) + 1))) - 0) (fun i j => E26.cf (a0.getD (0 + i) E26.z) j))]) (ps := [((Int.toNat (IntKind.i64.wrap (((k2 : Nat) : Int) + 1))) - 0) = ((a0.drop 0).take ((Int.toNat (IntKind.i64.wrap (((k2 : Nat) : Int) + 1))) - 0)).length, ∀ i, i < ((Int.toNat (IntKind.i64.wrap (((k2 : Nat) : Int) + 1))) - 0) → ∀ j, j < 4 → E26.cf (a0.getD (0 + i) E26.z) j = E26.cf (((a0.drop 0).take ((Int.toNat (IntKind.i64.wrap (((k2 : Nat) : Int) + 1))) - 0)).getD i E26.z) j]) (hb' := [.row 38 2 (E38.cR r12.1), .row 5 1 (E5.cR r12.2.Device), .row 5 1 (E5.cR r12.2.Fetched)]) (by kernel_rfl) (kernel_Play_ok _ _ e13) (by kernel_rfl) ⟨(Elem.sub_len _ (by omega)), (Elem.sub_cf _ _ (by omega)), trivial⟩ (fun _ => (by kernel_rfl)) (by simp) (by simp only [List.map_cons, List.map_nil, Elem.row_up, up_map] <;> rfl) (by kernel_rfl) ?_
    refine sg (S := .br ((r12.2.Lost : Int) == r8.2.Lost) (.leaf 0) (.leaf 1)) ?_
    refine br_ h ?_ ?_ <;> clear h <;> intro c14 h
    ·refine sk_leaf ?_
     refine bs_ok (d := 43) (e := 5) (s := 1) (n := 1) (cs := [.pv (.raw (.int .u8 ((a0.getD k2 (⟨0, 0, 0, 0⟩ : Api_KernOp)).Byte)))]) (cs' := E5.cR [(a0.getD k2 (⟨0, 0, 0, 0⟩ : Api_KernOp)).Byte]) (by kernel_rfl) rfl (by kernel_rfl) ?_
     refine s0 ?_
     obtain ⟨g15, h⟩ := if_ h
     refine app_ok (d := 44) (e := 5) (s := 1) (b := 1) (x := .row 0 1 0 l1.length) (y := .row 19136 1 0 1) E5 (xs := l1) (ys := [(a0.getD k2 (⟨0, 0, 0, 0⟩ : Api_KernOp)).Byte]) (by kernel_rfl) rfl (.row 0 l1 l1.length rfl (by kernel_rfl)) (.all 19136 5 [(a0.getD k2 (⟨0, 0, 0, 0⟩ : Api_KernOp)).Byte] 1 rfl (by kernel_rfl)) g15 (by kernel_rfl) ?_
     refine s0 ?_
     refine back_ok (p := p1) (by kernel_rfl) (hp1 (n1, (l1 ++ [(a0.getD k2 (⟨0, 0, 0, 0⟩ : Api_KernOp)).Byte]), k2 + 1) _ h (Nat.lt_succ_self n1) ?_)
     exact sub_ok (ρ := [(0, some 19200)]) (l := [a0.length = a0.length, ∀ i, i < a0.length → ∀ j, j < 4 → E26.cf (a0.getD i E26.z) j = E26.cf (a0.getD i E26.z) j, 0 = 0, ((l1 ++ [(a0.getD k2 (⟨0, 0, 0, 0⟩ : Api_KernOp)).Byte]).length) = ((l1 ++ [(a0.getD k2 (⟨0, 0, 0, 0⟩ : Api_KernOp)).Byte]).length), a0.length = a0.length, ∀ i, i < a0.length → ∀ j, j < 4 → E26.cf (a0.getD i E26.z) j = E26.cf (a0.getD i E26.z) j, (((a0.length : Nat) : Int) : Int) = ((a0.length : Nat) : Int), ((IntKind.i64.wrap (((k2 : Nat) : Int) + 1)) : Int) = (((k2 + 1) : Nat) : Int), E5.cR (l1 ++ [(a0.getD k2 (⟨0, 0, 0, 0⟩ : Api_KernOp)).Byte]) = E5.cR (l1 ++ [(a0.getD k2 (⟨0, 0, 0, 0⟩ : Api_KernOp)).Byte]), AllPv (E5.cR (l1 ++ [(a0.getD k2 (⟨0, 0, 0, 0⟩ : Api_KernOp)).Byte]))]) (by kernel_rfl) ⟨rfl, fun _ _ _ _ => rfl, rfl, rfl, rfl, fun _ _ _ _ => rfl, rfl, (wrap_nat (Int.ofNat_lt.1 (of_decide_eq_true c3)) (by omega)), rfl, (Elem.cR_pv _ _), trivial⟩
    ·refine sk_leaf ?_
     refine back_ok (p := p1) (by kernel_rfl) (hp1 (n1, l1, k2 + 1) _ h (Nat.lt_succ_self n1) ?_)
     exact sub_ok (ρ := [(0, some 0)]) (l := (Y122 a0 l1 k2)) (by kernel_rfl) ⟨rfl, fun _ _ _ _ => rfl, rfl, rfl, rfl, fun _ _ _ _ => rfl, rfl, (wrap_nat (Int.ofNat_lt.1 (of_decide_eq_true c3)) (by omega)), rfl, (Elem.cR_pv _ _), trivial⟩
  ·refine sk_leaf ?_
   obtain rfl := some_ h
   exact end_ok [(0, some 0)] Tryd.results14 (ps := [0 = 0, l1.length = l1.length, E5.cR l1 = E5.cR l1, AllPv (E5.cR l1)]) (by kernel_rfl) ⟨rfl, rfl, rfl, (Elem.cR_pv _ _), trivial⟩ (fun _ => ⟨rfl, by simp only [List.mem_cons, List.not_mem_nil, or_false, forall_eq_or_imp, forall_eq]; exact Elem.cR_bald E5_raw _⟩)
set_option maxRecDepth 100000 in
set_option maxHeartbeats 2000000 in
theorem slices_Grow_byte_nil_calls (n : Nat) (hb : n * 1 ≤ 140737488355328) (hb2 : n ≤ 140737488355328) (w : World) : Calls Tryd.prog 21 #[.slice none 0 0, .int .i64 n] w fun ex w' => GrowPost 5 1 w ex w' := by
 obtain ⟨_, info, hi, hi1, hi2, hz, _⟩ := tabOk 5 _ tab_5
 have hi1 : info.size = 1 := hi1
 have hi2 : info.bytes = 1 := hi2
 obtain ⟨z, hz, hzs⟩ : ∃ z, info.zero = some z ∧ z.cells.size = 1 := ⟨_, hz, by kernel_rfl⟩
 have h1 : ¬ ((n : Int) < 0) := by omega
 have h2 : Go.RowKit.wrap64 (0 - 0 : Int) = 0 := by unfold Go.RowKit.wrap64; omega
 have h3 : Go.RowKit.wrap64 ((n : Int) - 0) = (n : Int) := by unfold Go.RowKit.wrap64; omega
 by_cases h0 : n = 0
 ·subst h0
  go_enter Tryd.func21, Tryd.ntmps21
  go_wp2
  all_goals first | (go_ret; exact .inl ⟨rfl, rfl⟩) | skip
 ·have hn : 0 < n := by omega
  have h4 : ((n : Int) > 0) := by omega
  have hrun := fun ty => Go.Lib.run_append_nil_zeros (P := Tryd.prog) w 28 3 ty 5 info z .i64 .i64 Tryd.underlying28 Tryd.underlying3 hi hz n hn (by rw [hi1]; decide) (by omega) (by rw [hi2]; omega)
  have hGn : n ≤ grownCap w n 0 5 := grownCap_ge w _ _ _
  have hG63 := grownCap_le_maxLen w n 0 5 (by unfold maxLen; omega)
  obtain ⟨G, hG⟩ : ∃ G, G = grownCap w n 0 5 := ⟨_, rfl⟩
  rw [← hG] at hrun hGn hG63
  obtain ⟨cur, hcur⟩ : ∃ cur, cur = Builtin.zeroCells z.cells n ++ Builtin.zeroCells z.cells (G - n) := ⟨_, rfl⟩
  rw [← hcur] at hrun
  have hsz : cur.size = G * 1 := by rw [hcur, Array.size_append, size_zeroCells, size_zeroCells, hzs, ← Nat.add_mul]; congr 1; omega
  clear hcur hG hi hz
  go_enter Tryd.func21, Tryd.ntmps21
  go_wp2_with (at_builtin; refine Go.Lib.wpList_append_run _ rfl _ _ _ _ rfl _ _ rfl rfl _ _ (hrun _) ?_)
  all_goals (go_ret; exact .inr ⟨G, cur, rfl, rfl, hsz, hG63⟩)
theorem slices_Grow_byte_nil_ok (a0 : Int) (r : List Int) (h : slices_Grow_byte_nil a0 = some r) {al : Bool} : PCalls Tryd.prog 21 [.pv (.raw (.slice none 0 0)), .pv (.raw (.int .i64 a0))] al (.row 0 1 0 r.length) [.row 5 1 (E5.cR r)] := by
 unfold slices_Grow_byte_nil at h
 obtain ⟨g, h⟩ := if_ h
 obtain rfl := some_ h
 obtain ⟨n, rfl⟩ : ∃ n : Nat, a0 = n := ⟨a0.toNat, by omega⟩
 exact grow_pcalls ⟨_, Tryd.func21, by kernel_rfl, by kernel_rfl⟩ (E := E5) (by decide) (slices_Grow_byte_nil_calls n (by omega) (by omega))
theorem slices_Concat_byte_ok (a0 : (List (List Int))) (r : (List Int)) (h : slices_Concat_byte a0 = some r) {al : Bool} : PCalls Tryd.prog 15 [.pv ((E28.ro a0))] al (.row 0 1 0 r.length) [.row 5 1 (E5.cR r)] := by
 unfold slices_Concat_byte at h
 refine fn_ok tabOk Tryd.func15 (by kernel_rfl) (by kernel_rfl) Tryd.ntmps15 (by simp) ?_
 refine s0 ?_
 refine len_ro (by kernel_rfl) 0 (s := 1) (n := a0.length) (c := fun i j => E28.cf (a0.getD i E28.z) j) (by kernel_rfl) ?_; intro hl1_0
 refine len_ro (by kernel_rfl) 9 (s := 1) (n := a0.length) (c := fun i j => E28.cf (a0.getD i E28.z) j) (by kernel_rfl) ?_; intro hl1_1
 replace h : (fun (x : Nat × Int × Nat) => slices_Concat_byte_l1 a0 x.1 x.2.1 x.2.2 = some r) (FUEL, 0, 0) := h
 refine loop_ok (by kernel_rfl) (X := Nat × Int × Nat) (fun x => slices_Concat_byte_l1 a0 x.1 x.2.1 x.2.2 = some r) (fun x => x.1) (fun x => mk 36 [(0, .pv ((E28.ro a0))), (2, .pv (.raw (.slice none 0 0))), (3, .pv (.raw (.int .i64 x.2.1))), (9, .pv ((E28.ro a0))), (10, .pv (.raw (.int .i64 ((a0.length : Nat) : Int)))), (11, .pv (.raw (.int .i64 ((x.2.2 : Nat) : Int))))] []) (FUEL, 0, 0) h ?_ ?_
 ·exact sub_ok (ρ := []) (l := [a0.length = a0.length, ∀ i, i < a0.length → ∀ j, j < 1 → E28.cf (a0.getD i E28.z) j = E28.cf (a0.getD i E28.z) j, (0 : Int) = 0, a0.length = a0.length, ∀ i, i < a0.length → ∀ j, j < 1 → E28.cf (a0.getD i E28.z) j = E28.cf (a0.getD i E28.z) j, (((a0.length : Nat) : Int) : Int) = ((a0.length : Nat) : Int), (0 : Int) = ((0 : Nat) : Int)]) (by kernel_rfl) ⟨rfl, fun _ _ _ _ => rfl, rfl, rfl, fun _ _ _ _ => rfl, rfl, (by first | rfl | simp), trivial⟩
 ·clear h; rintro ⟨n1, x1, k2⟩ h p1 hp1
  obtain _ | n1 := n1
  ·cases (show (none : Option ((List Int))) = some r from h)
  have h : slices_Concat_byte_l1 a0 (n1 + 1) x1 k2 = some r := h
  unfold slices_Concat_byte_l1 at h
  refine sg (S := .br (decide ((((k2 : Nat) : Int) : Int) < ((a0.length : Nat) : Int))) (.and (0 ≤ (((k2 : Nat) : Int) : Int) ∧ ((k2 : Nat) : Int) < ((a0.length : Nat) : Int)) (.br (decide (((IntKind.i64.wrap (x1 + (((a0.getD k2 []).length : Nat) : Int))) : Int) < 0)) (.bad) (.leaf 0))) (.leaf 1)) ?_
  refine br_ h ?_ ?_ <;> clear h <;> intro c3 h
  ·refine sk_and ⟨Int.natCast_nonneg _, of_decide_eq_true c3⟩ ?_
   refine br_ h ?_ ?_ <;> clear h <;> intro c5 h
   ·cases h
   ·refine sk_leaf ?_
    refine back_ok (p := p1) (by kernel_rfl) (hp1 (n1, (IntKind.i64.wrap (x1 + (((a0.getD k2 []).length : Nat) : Int))), k2 + 1) _ h (Nat.lt_succ_self n1) ?_)
    exact sub_ok (ρ := []) (l := [a0.length = a0.length, ∀ i, i < a0.length → ∀ j, j < 1 → E28.cf (a0.getD i E28.z) j = E28.cf (a0.getD i E28.z) j, ((IntKind.i64.wrap (x1 + (((a0.getD k2 []).length : Nat) : Int))) : Int) = (IntKind.i64.wrap (x1 + (((a0.getD k2 []).length : Nat) : Int))), a0.length = a0.length, ∀ i, i < a0.length → ∀ j, j < 1 → E28.cf (a0.getD i E28.z) j = E28.cf (a0.getD i E28.z) j, (((a0.length : Nat) : Int) : Int) = ((a0.length : Nat) : Int), ((IntKind.i64.wrap (((k2 : Nat) : Int) + 1)) : Int) = (((k2 + 1) : Nat) : Int)]) (by kernel_rfl) ⟨rfl, fun _ _ _ _ => rfl, rfl, rfl, fun _ _ _ _ => rfl, rfl, (wrap_nat (Int.ofNat_lt.1 (of_decide_eq_true c3)) (by omega)), trivial⟩
  ·refine sk_leaf ?_
   obtain ⟨r6, e7, h⟩ := bd_ h
   refine call_ok (d := some 24) (fn := 21) (ax := [.pv (.raw (.slice none 0 0)), .pv (.raw (.int .i64 x1))]) (ps := [(x1 : Int) = x1]) (hb' := [.row 5 1 (E5.cR r6)]) (by kernel_rfl) (slices_Grow_byte_nil_ok _ _ e7 (al := true)) (by kernel_rfl) ⟨rfl, trivial⟩ (fun _ => (by kernel_rfl)) (by simp) (by simp only [List.map_cons, List.map_nil, Elem.row_up, up_map] <;> rfl) (by kernel_rfl) ?_
   refine s0 ?_
   refine len_ro (by kernel_rfl) 25 (s := 1) (n := a0.length) (c := fun i j => E28.cf (a0.getD i E28.z) j) (by kernel_rfl) ?_; intro hl2_0
   refine len_row (by kernel_rfl) 17920 (e := 5) (s := 1) (n := r6.length) (cs := E5.cR r6) (by kernel_rfl) (Elem.cR_length _ _) ?_; intro hl2_1
   replace h : (fun (x : Nat × List Int × Nat) => slices_Concat_byte_l2 a0 r6 x.1 x.2.1 x.2.2 = some r) (FUEL, r6, 0) := h
   refine loop_ok (by kernel_rfl) (X := Nat × List Int × Nat) (fun x => slices_Concat_byte_l2 a0 r6 x.1 x.2.1 x.2.2 = some r) (fun x => x.1) (fun x => mk 36 [(2, .pv (.raw (.slice none 0 0))), (6, .row 0 1 0 x.2.1.length), (25, .pv ((E28.ro a0))), (26, .pv (.raw (.int .i64 ((a0.length : Nat) : Int)))), (27, .pv (.raw (.int .i64 ((x.2.2 : Nat) : Int))))] [(0, .row 5 1 (E5.cR x.2.1))]) (FUEL, r6, 0) h ?_ ?_
   ·exact sub_ok (ρ := [(0, some 17920)]) (l := [0 = 0, r6.length = r6.length, a0.length = a0.length, ∀ i, i < a0.length → ∀ j, j < 1 → E28.cf (a0.getD i E28.z) j = E28.cf (a0.getD i E28.z) j, (((a0.length : Nat) : Int) : Int) = ((a0.length : Nat) : Int), (0 : Int) = ((0 : Nat) : Int), E5.cR r6 = E5.cR r6, AllPv (E5.cR r6)]) (by kernel_rfl) ⟨rfl, rfl, rfl, fun _ _ _ _ => rfl, rfl, (by first | rfl | simp), rfl, (Elem.cR_pv _ _), trivial⟩
   ·clear h; rintro ⟨n2, l8, k9⟩ h p2 hp2
    obtain _ | n2 := n2
    ·cases (show (none : Option ((List Int))) = some r from h)
    have h : slices_Concat_byte_l2 a0 r6 (n2 + 1) l8 k9 = some r := h
    unfold slices_Concat_byte_l2 at h
    refine sg (S := .br (decide ((((k9 : Nat) : Int) : Int) < ((a0.length : Nat) : Int))) (.and (0 ≤ (((k9 : Nat) : Int) : Int) ∧ ((k9 : Nat) : Int) < ((a0.length : Nat) : Int)) (.leaf 0)) (.leaf 1)) ?_
    refine br_ h ?_ ?_ <;> clear h <;> intro c10 h
    ·refine sk_and ⟨Int.natCast_nonneg _, of_decide_eq_true c10⟩ ?_
     refine sk_leaf ?_
     obtain ⟨g12, h⟩ := if_ h
     refine app_ok (d := 33) (e := 5) (s := 1) (b := 1) (x := .row 0 1 0 l8.length) (y := .pv ((E5.ro (a0.getD k9 [])))) E5 (xs := l8) (ys := (a0.getD k9 [])) (by kernel_rfl) rfl (.row 0 l8 l8.length rfl (by kernel_rfl)) (.ro (a0.getD k9 [])) g12 (by kernel_rfl) ?_
     refine s0 ?_
     refine back_ok (p := p2) (by kernel_rfl) (hp2 (n2, (l8 ++ (a0.getD k9 [])), k9 + 1) _ h (Nat.lt_succ_self n2) ?_)
     exact sub_ok (ρ := [(0, some 18496)]) (l := [0 = 0, ((l8 ++ (a0.getD k9 [])).length) = ((l8 ++ (a0.getD k9 [])).length), a0.length = a0.length, ∀ i, i < a0.length → ∀ j, j < 1 → E28.cf (a0.getD i E28.z) j = E28.cf (a0.getD i E28.z) j, (((a0.length : Nat) : Int) : Int) = ((a0.length : Nat) : Int), ((IntKind.i64.wrap (((k9 : Nat) : Int) + 1)) : Int) = (((k9 + 1) : Nat) : Int), E5.cR (l8 ++ (a0.getD k9 [])) = E5.cR (l8 ++ (a0.getD k9 [])), AllPv (E5.cR (l8 ++ (a0.getD k9 [])))]) (by kernel_rfl) ⟨rfl, rfl, rfl, fun _ _ _ _ => rfl, rfl, (wrap_nat (Int.ofNat_lt.1 (of_decide_eq_true c10)) (by omega)), rfl, (Elem.cR_pv _ _), trivial⟩
    ·refine sk_leaf ?_
     obtain rfl := some_ h
     exact end_ok [(0, some 0)] Tryd.results15 (ps := [0 = 0, l8.length = l8.length, E5.cR l8 = E5.cR l8, AllPv (E5.cR l8)]) (by kernel_rfl) ⟨rfl, rfl, rfl, (Elem.cR_pv _ _), trivial⟩ (fun _ => ⟨rfl, by simp only [List.mem_cons, List.not_mem_nil, or_false, forall_eq_or_imp, forall_eq]; exact Elem.cR_bald E5_raw _⟩)
theorem tty_Type_ok (a0 : (List Int)) (r : Api_Tty) (h : tty_Type a0 = some r) : PCalls Tryd.prog 11 [.pv ((E5.ro a0))] true (.agg (Y63 r)) [] := by
 unfold tty_Type at h
 refine fn_ok tabOk Tryd.func11 (by kernel_rfl) (by kernel_rfl) Tryd.ntmps11 (by simp) ?_
 refine segs [5] tabOk mixed 4000 (S := .leaf 0) (by kernel_rfl) ?_
 refine sk_leaf ?_
 refine len_ro (by kernel_rfl) 8 (s := 1) (n := a0.length) (c := fun i j => E5.cf (a0.getD i E5.z) j) (by kernel_rfl) ?_; intro hl1_0
 replace h : (fun (x : Nat × Nat × List (List Int) × List Int) => tty_Type_l1 a0 x.1 x.2.1 x.2.2.1 x.2.2.2 = some r) (FUEL, 0, ([] : List (List Int)), ([] : List Int)) := h
 refine loop_ok (by kernel_rfl) (X := Nat × Nat × List (List Int) × List Int) (fun x => tty_Type_l1 a0 x.1 x.2.1 x.2.2.1 x.2.2.2 = some r) (fun x => x.1) (fun x => mk 25 [(2, .ptr 0 0), (3, .ptr 1 0), (8, .pv ((E5.ro a0))), (9, .pv (.raw (.int .i64 ((a0.length : Nat) : Int)))), (10, .pv (.raw (.int .i64 ((x.2.1 : Nat) : Int))))] [(0, .box Y101), (1, .box [.pv ((E28.ro x.2.2.1)), .pv ((E5.ro x.2.2.2))])]) (FUEL, 0, ([] : List (List Int)), ([] : List Int)) h ?_ ?_
 ·exact sub_ok (ρ := [(0, some 16512), (1, some 16576)]) (l := [0 = 0, 0 = 0, a0.length = a0.length, ∀ i, i < a0.length → ∀ j, j < 1 → E5.cf (a0.getD i E5.z) j = E5.cf (a0.getD i E5.z) j, (((a0.length : Nat) : Int) : Int) = ((a0.length : Nat) : Int), (0 : Int) = ((0 : Nat) : Int), ([] : List (List Int)).length = 0, ([] : List Int).length = 0]) (by kernel_rfl) ⟨rfl, rfl, rfl, fun _ _ _ _ => rfl, rfl, (by first | rfl | simp), rfl, rfl, trivial⟩
 ·clear h; rintro ⟨n1, k1, l2, l3⟩ h p1 hp1
  obtain _ | n1 := n1
  ·cases (show (none : Option (Api_Tty)) = some r from h)
  have h : tty_Type_l1 a0 (n1 + 1) k1 l2 l3 = some r := h
  unfold tty_Type_l1 at h
  refine segs [5] tabOk mixed 4000 (S := .br (decide ((((k1 : Nat) : Int) : Int) < ((a0.length : Nat) : Int))) (.and (0 ≤ (((k1 : Nat) : Int) : Int) ∧ ((k1 : Nat) : Int) < ((a0.length : Nat) : Int)) (.leaf 0)) (.leaf 1)) (by kernel_rfl) ?_
  refine br_ h ?_ ?_ <;> clear h <;> intro c4 h
  ·refine sk_and ⟨Int.natCast_nonneg _, of_decide_eq_true c4⟩ ?_
   refine sk_leaf ?_
   refine cut_ok (by kernel_rfl) (τ := mk 25 [(2, .ptr 0 0), (3, .ptr 1 0), (5, .pv (.raw (.int .u8 (a0.getD k1 0)))), (8, .pv ((E5.ro a0))), (9, .pv (.raw (.int .i64 ((a0.length : Nat) : Int)))), (10, .pv (.raw (.int .i64 ((k1 : Nat) : Int))))] [(0, .box Y101), (1, .box [.pv ((E28.ro l2)), .pv ((E5.ro l3))])]) (sub_ok (ρ := [(0, some 0), (1, some 1)]) (l := [0 = 0, 0 = 0, ((a0.getD k1 0) : Int) = (a0.getD k1 0), a0.length = a0.length, ∀ i, i < a0.length → ∀ j, j < 1 → E5.cf (a0.getD i E5.z) j = E5.cf (a0.getD i E5.z) j, (((a0.length : Nat) : Int) : Int) = ((a0.length : Nat) : Int), (((k1 : Nat) : Int) : Int) = ((k1 : Nat) : Int), l2.length = l2.length, ∀ i, i < l2.length → ∀ j, j < 1 → E28.cf (l2.getD i E28.z) j = E28.cf (l2.getD i E28.z) j, l3.length = l3.length, ∀ i, i < l3.length → ∀ j, j < 1 → E5.cf (l3.getD i E5.z) j = E5.cf (l3.getD i E5.z) j]) (by kernel_rfl) ⟨rfl, rfl, rfl, rfl, fun _ _ _ _ => rfl, rfl, rfl, rfl, fun _ _ _ _ => rfl, rfl, fun _ _ _ _ => rfl, trivial⟩) ?_
   refine s0 ?_
   obtain ⟨r6, e7, h⟩ := bd_ h
   refine call_ok (d := some 17) (fn := 19) (ax := [.agg [.pv ((E28.ro l2)), .pv ((E5.ro l3))], .pv (.raw (.int .u8 (a0.getD k1 0)))]) (ps := [l2.length = l2.length, ∀ i, i < l2.length → ∀ j, j < 1 → E28.cf (l2.getD i E28.z) j = E28.cf (l2.getD i E28.z) j, l3.length = l3.length, ∀ i, i < l3.length → ∀ j, j < 1 → E5.cf (l3.getD i E5.z) j = E5.cf (l3.getD i E5.z) j, ((a0.getD k1 0) : Int) = (a0.getD k1 0)]) (hb' := [.row 28 1 (E28.cR r6.1.Lines), .row 5 1 (E5.cR r6.1.Edit)]) (by kernel_rfl) (tty_Key_ok _ _ _ e7) (by kernel_rfl) ⟨rfl, fun _ _ _ _ => rfl, rfl, fun _ _ _ _ => rfl, rfl, trivial⟩ (fun _ => (by kernel_rfl)) (by simp) (by simp only [List.map_cons, List.map_nil, Elem.row_up, up_map] <;> rfl) (by kernel_rfl) ?_
   refine segs [5] tabOk mixed 4000 (S := .br ((r6.2 : Int) == 0) (.leaf 0) (.leaf 1)) (by kernel_rfl) ?_
   refine br_ h ?_ ?_ <;> clear h <;> intro c8 h
   ·refine sk_leaf ?_
    refine back_ok (p := p1) (by kernel_rfl) (hp1 (n1, k1 + 1, r6.1.Lines, r6.1.Edit) _ h (Nat.lt_succ_self n1) ?_)
    exact sub_ok (ρ := [(0, some 0), (1, some 1)]) (l := [0 = 0, 0 = 0, a0.length = a0.length, ∀ i, i < a0.length → ∀ j, j < 1 → E5.cf (a0.getD i E5.z) j = E5.cf (a0.getD i E5.z) j, (((a0.length : Nat) : Int) : Int) = ((a0.length : Nat) : Int), ((IntKind.i64.wrap (((k1 : Nat) : Int) + 1)) : Int) = (((k1 + 1) : Nat) : Int), r6.1.Lines.length = r6.1.Lines.length, rowQ (E28.cR r6.1.Lines) 1 0 r6.1.Lines.length (fun i j => E28.cf (r6.1.Lines.getD i E28.z) j), r6.1.Edit.length = r6.1.Edit.length, rowQ (E5.cR r6.1.Edit) 1 0 r6.1.Edit.length (fun i j => E5.cf (r6.1.Edit.getD i E5.z) j)]) (by kernel_rfl) ⟨rfl, rfl, rfl, fun _ _ _ _ => rfl, rfl, (wrap_nat (Int.ofNat_lt.1 (of_decide_eq_true c4)) (by omega)), (by first | rfl | exact Elem.sub_len _ (by omega) | omega | simp | (simp <;> omega)), E28.rowQ_all r6.1.Lines rfl, (by first | rfl | exact Elem.sub_len _ (by omega) | omega | simp | (simp <;> omega)), E5.rowQ_all r6.1.Edit rfl, trivial⟩
   ·refine sk_leaf ?_
    refine back_ok (p := p1) (by kernel_rfl) (hp1 (n1, k1 + 1, l2, l3) _ h (Nat.lt_succ_self n1) ?_)
    exact sub_ok (ρ := [(0, some 0), (1, some 1)]) (l := [0 = 0, 0 = 0, a0.length = a0.length, ∀ i, i < a0.length → ∀ j, j < 1 → E5.cf (a0.getD i E5.z) j = E5.cf (a0.getD i E5.z) j, (((a0.length : Nat) : Int) : Int) = ((a0.length : Nat) : Int), ((IntKind.i64.wrap (((k1 : Nat) : Int) + 1)) : Int) = (((k1 + 1) : Nat) : Int), l2.length = l2.length, ∀ i, i < l2.length → ∀ j, j < 1 → E28.cf (l2.getD i E28.z) j = E28.cf (l2.getD i E28.z) j, l3.length = l3.length, ∀ i, i < l3.length → ∀ j, j < 1 → E5.cf (l3.getD i E5.z) j = E5.cf (l3.getD i E5.z) j]) (by kernel_rfl) ⟨rfl, rfl, rfl, fun _ _ _ _ => rfl, rfl, (wrap_nat (Int.ofNat_lt.1 (of_decide_eq_true c4)) (by omega)), rfl, fun _ _ _ _ => rfl, rfl, fun _ _ _ _ => rfl, trivial⟩
  ·refine sk_leaf ?_
   obtain rfl := some_ h
   exact end_ok [] Tryd.results11 (ps := (Y62 l2 l3)) (by kernel_rfl) Y62p (fun hx => by cases hx)
def Y81 (x0 x1 : Api_Tty) : Bool := (!((bytesOf x0.Edit).toList == (bytesOf x1.Edit).toList))
theorem ref_SameTty_ok (a0 : Api_Tty) (a1 : Api_Tty) (r : Bool) (h : ref_SameTty a0 a1 = some r) {al : Bool} : PCalls Tryd.prog 10 [.agg (Y63 a0), .agg (Y63 a1)] al (.pv (.raw (.bool r))) [] := by
 unfold ref_SameTty at h
 refine fn_ok tabOk Tryd.func10 (by kernel_rfl) (by kernel_rfl) Tryd.ntmps10 (by simp) ?_
 refine segs [1, 6] tabOk mixed 4000 (S := .leaf 0) (by kernel_rfl) ?_
 refine sk_leaf ?_
 refine cut_ok (by kernel_rfl) (τ := mk 42 [(2, .ptr 0 0), (3, .ptr 1 0), (4, .pv (.raw (.bool false)))] [(0, .box (Y63 a0)), (1, .box (Y63 a1))]) (sub_ok (ρ := [(0, some 16512), (1, some 16576)]) (l := [0 = 0, 0 = 0, false = false, a0.Lines.length = a0.Lines.length, ∀ i, i < a0.Lines.length → ∀ j, j < 1 → E28.cf (a0.Lines.getD i E28.z) j = E28.cf (a0.Lines.getD i E28.z) j, a0.Edit.length = a0.Edit.length, ∀ i, i < a0.Edit.length → ∀ j, j < 1 → E5.cf (a0.Edit.getD i E5.z) j = E5.cf (a0.Edit.getD i E5.z) j, a1.Lines.length = a1.Lines.length, ∀ i, i < a1.Lines.length → ∀ j, j < 1 → E28.cf (a1.Lines.getD i E28.z) j = E28.cf (a1.Lines.getD i E28.z) j, a1.Edit.length = a1.Edit.length, ∀ i, i < a1.Edit.length → ∀ j, j < 1 → E5.cf (a1.Edit.getD i E5.z) j = E5.cf (a1.Edit.getD i E5.z) j]) (by kernel_rfl) ⟨rfl, rfl, rfl, rfl, fun _ _ _ _ => rfl, rfl, fun _ _ _ _ => rfl, rfl, fun _ _ _ _ => rfl, rfl, fun _ _ _ _ => rfl, trivial⟩) ?_
 refine segs [6] tabOk mixed 4000 (S := .leaf 0) (by kernel_rfl) ?_
 refine sk_leaf ?_
 refine cv_ok (d := 8) E5 (xs := a0.Edit) rfl (fun _ => rfl) (by kernel_rfl) ?_
 refine segs [1, 6] tabOk mixed 4000 (S := .leaf 0) (by kernel_rfl) ?_
 refine sk_leaf ?_
 refine cv_ok (d := 11) E5 (xs := a1.Edit) rfl (fun _ => rfl) (by kernel_rfl) ?_
 refine segs [1, 6] tabOk mixed 4000 (S := .and (((!(Y81 a0 a1)) = true → ((!(Y81 a0 a1)) = true))) (.and (((!(Y81 a0 a1)) = true → ((!(Y81 a0 a1)) = true))) (.and (((!(Y81 a0 a1)) = true → ((!(Y81 a0 a1)) = true))) (.and (((!(Y81 a0 a1)) = true → ((!(Y81 a0 a1)) = true))) (.and (((!(Y81 a0 a1)) = true → ((!(Y81 a0 a1)) = true))) (.and (((!(Y81 a0 a1)) = true → ((!(Y81 a0 a1)) = true))) (.and ((Y81 a0 a1) = false → (!(Y81 a0 a1)) = true) (.br ((!((bytesOf a0.Edit).toList == (bytesOf a1.Edit).toList)) || ((((a0.Lines.length : Nat) : Int) : Int) != ((a1.Lines.length : Nat) : Int))) (.leaf 0) (.leaf 1))))))))) (by kernel_rfl) ?_
 refine sk_and (fun h => h) ?_
 refine sk_and (fun h => h) ?_
 refine sk_and (fun h => h) ?_
 refine sk_and (fun h => h) ?_
 refine sk_and (fun h => h) ?_
 refine sk_and (fun h => h) ?_
 refine sk_and ((by decide : ∀ y0 : Bool, ((y0 = false) → ((!y0) = true))) (Y81 a0 a1)) ?_
 refine br_ h ?_ ?_ <;> clear h <;> intro c8 h
 ·refine sk_leaf ?_
  obtain rfl := some_ h
  exact end_ok [] Tryd.results10 (ps := [false = false]) (by kernel_rfl) ⟨rfl, trivial⟩ (fun _ => ⟨rfl, by simp⟩)
 ·refine sk_leaf ?_
  refine len_box (by kernel_rfl) 0 0 (cs := (Y63 a0)) (by kernel_rfl) (s := 1) (n := a0.Lines.length) (c := fun i j => E28.cf (a0.Lines.getD i E28.z) j) rfl ?_; intro hl1_0
  refine len_box (by kernel_rfl) 0 1 (cs := (Y63 a0)) (by kernel_rfl) (s := 1) (n := a0.Edit.length) (c := fun i j => E5.cf (a0.Edit.getD i E5.z) j) rfl ?_; intro hl1_1
  refine len_box (by kernel_rfl) 1 0 (cs := (Y63 a1)) (by kernel_rfl) (s := 1) (n := a1.Lines.length) (c := fun i j => E28.cf (a1.Lines.getD i E28.z) j) rfl ?_; intro hl1_2
  refine len_box (by kernel_rfl) 1 1 (cs := (Y63 a1)) (by kernel_rfl) (s := 1) (n := a1.Edit.length) (c := fun i j => E5.cf (a1.Edit.getD i E5.z) j) rfl ?_; intro hl1_3
  replace h : (fun (x : Nat × Nat) => ref_SameTty_l1 a0 a1 x.1 x.2 = some r) (FUEL, 0) := h
  refine loop_ok (by kernel_rfl) (X := Nat × Nat) (fun x => ref_SameTty_l1 a0 a1 x.1 x.2 = some r) (fun x => x.1) (fun x => mk 42 [(2, .ptr 0 0), (3, .ptr 1 0), (4, .pv (.raw (.bool false))), (24, .pv (.raw (.int .i64 ((a0.Lines.length : Nat) : Int)))), (25, .pv (.raw (.int .i64 ((x.2 : Nat) : Int))))] [(0, .box (Y63 a0)), (1, .box (Y63 a1))]) (FUEL, 0) h ?_ ?_
  ·exact sub_ok (ρ := [(0, some 0), (1, some 1)]) (l := [0 = 0, 0 = 0, false = false, (((a0.Lines.length : Nat) : Int) : Int) = ((a0.Lines.length : Nat) : Int), (0 : Int) = ((0 : Nat) : Int), a0.Lines.length = a0.Lines.length, ∀ i, i < a0.Lines.length → ∀ j, j < 1 → E28.cf (a0.Lines.getD i E28.z) j = E28.cf (a0.Lines.getD i E28.z) j, a0.Edit.length = a0.Edit.length, ∀ i, i < a0.Edit.length → ∀ j, j < 1 → E5.cf (a0.Edit.getD i E5.z) j = E5.cf (a0.Edit.getD i E5.z) j, a1.Lines.length = a1.Lines.length, ∀ i, i < a1.Lines.length → ∀ j, j < 1 → E28.cf (a1.Lines.getD i E28.z) j = E28.cf (a1.Lines.getD i E28.z) j, a1.Edit.length = a1.Edit.length, ∀ i, i < a1.Edit.length → ∀ j, j < 1 → E5.cf (a1.Edit.getD i E5.z) j = E5.cf (a1.Edit.getD i E5.z) j]) (by kernel_rfl) ⟨rfl, rfl, rfl, rfl, (by first | rfl | simp), rfl, fun _ _ _ _ => rfl, rfl, fun _ _ _ _ => rfl, rfl, fun _ _ _ _ => rfl, rfl, fun _ _ _ _ => rfl, trivial⟩
  ·clear h; rintro ⟨n1, k9⟩ h p1 hp1
   obtain _ | n1 := n1
   ·cases (show (none : Option (Bool)) = some r from h)
   have h : ref_SameTty_l1 a0 a1 (n1 + 1) k9 = some r := h
   unfold ref_SameTty_l1 at h
   refine segs [1, 6] tabOk mixed 4000 (S := .br (decide ((((k9 : Nat) : Int) : Int) < ((a0.Lines.length : Nat) : Int))) (.leaf 0) (.leaf 1)) (by kernel_rfl) ?_
   refine br_ h ?_ ?_ <;> clear h <;> intro c10 h
   ·refine sk_leaf ?_
    refine cut_ok (by kernel_rfl) (τ := mk 42 [(2, .ptr 0 0), (3, .ptr 1 0), (4, .pv (.raw (.bool false))), (5, .pv (.raw (.int .i64 ((k9 : Nat) : Int)))), (24, .pv (.raw (.int .i64 ((a0.Lines.length : Nat) : Int)))), (25, .pv (.raw (.int .i64 ((k9 : Nat) : Int))))] [(0, .box (Y63 a0)), (1, .box (Y63 a1))]) (sub_ok (ρ := [(0, some 0), (1, some 1)]) (l := [0 = 0, 0 = 0, false = false, (((k9 : Nat) : Int) : Int) = ((k9 : Nat) : Int), (((a0.Lines.length : Nat) : Int) : Int) = ((a0.Lines.length : Nat) : Int), (((k9 : Nat) : Int) : Int) = ((k9 : Nat) : Int), a0.Lines.length = a0.Lines.length, ∀ i, i < a0.Lines.length → ∀ j, j < 1 → E28.cf (a0.Lines.getD i E28.z) j = E28.cf (a0.Lines.getD i E28.z) j, a0.Edit.length = a0.Edit.length, ∀ i, i < a0.Edit.length → ∀ j, j < 1 → E5.cf (a0.Edit.getD i E5.z) j = E5.cf (a0.Edit.getD i E5.z) j, a1.Lines.length = a1.Lines.length, ∀ i, i < a1.Lines.length → ∀ j, j < 1 → E28.cf (a1.Lines.getD i E28.z) j = E28.cf (a1.Lines.getD i E28.z) j, a1.Edit.length = a1.Edit.length, ∀ i, i < a1.Edit.length → ∀ j, j < 1 → E5.cf (a1.Edit.getD i E5.z) j = E5.cf (a1.Edit.getD i E5.z) j]) (by kernel_rfl) ⟨rfl, rfl, rfl, rfl, rfl, rfl, rfl, fun _ _ _ _ => rfl, rfl, fun _ _ _ _ => rfl, rfl, fun _ _ _ _ => rfl, rfl, fun _ _ _ _ => rfl, trivial⟩) ?_
    refine segs [1] tabOk mixed 4000 (S := .and (0 ≤ (((k9 : Nat) : Int) : Int) ∧ ((k9 : Nat) : Int) < ((a0.Lines.length : Nat) : Int)) (.leaf 0)) (by kernel_rfl) ?_
    refine sk_and ⟨Int.natCast_nonneg _, of_decide_eq_true c10⟩ ?_
    refine sk_leaf ?_
    refine cv_ok (d := 33) E5 (xs := (a0.Lines.getD k9 [])) rfl (fun _ => rfl) (by kernel_rfl) ?_
    refine segs [1, 6] tabOk mixed 4000 (S := .and (0 ≤ (((k9 : Nat) : Int) : Int) ∧ ((k9 : Nat) : Int) < ((a1.Lines.length : Nat) : Int)) (.leaf 0)) (by kernel_rfl) ?_
    refine gd_ h ?_; clear h; intro g12 h
    refine sk_leaf ?_
    refine cv_ok (d := 39) E5 (xs := (a1.Lines.getD k9 [])) rfl (fun _ => rfl) (by kernel_rfl) ?_
    refine segs [1, 6] tabOk mixed 4000 (S := .br (!((bytesOf (a0.Lines.getD k9 [])).toList == (bytesOf (a1.Lines.getD k9 [])).toList)) (.leaf 0) (.leaf 1)) (by kernel_rfl) ?_
    refine br_ h ?_ ?_ <;> clear h <;> intro c13 h
    ·refine sk_leaf ?_
     obtain rfl := some_ h
     exact end_ok [] Tryd.results10 (ps := [false = false]) (by kernel_rfl) ⟨rfl, trivial⟩ (fun _ => ⟨rfl, by simp⟩)
    ·refine sk_leaf ?_
     refine back_ok (p := p1) (by kernel_rfl) (hp1 (n1, k9 + 1) _ h (Nat.lt_succ_self n1) ?_)
     exact sub_ok (ρ := [(0, some 0), (1, some 1)]) (l := [0 = 0, 0 = 0, false = false, (((a0.Lines.length : Nat) : Int) : Int) = ((a0.Lines.length : Nat) : Int), ((IntKind.i64.wrap (((k9 : Nat) : Int) + 1)) : Int) = (((k9 + 1) : Nat) : Int), a0.Lines.length = a0.Lines.length, ∀ i, i < a0.Lines.length → ∀ j, j < 1 → E28.cf (a0.Lines.getD i E28.z) j = E28.cf (a0.Lines.getD i E28.z) j, a0.Edit.length = a0.Edit.length, ∀ i, i < a0.Edit.length → ∀ j, j < 1 → E5.cf (a0.Edit.getD i E5.z) j = E5.cf (a0.Edit.getD i E5.z) j, a1.Lines.length = a1.Lines.length, ∀ i, i < a1.Lines.length → ∀ j, j < 1 → E28.cf (a1.Lines.getD i E28.z) j = E28.cf (a1.Lines.getD i E28.z) j, a1.Edit.length = a1.Edit.length, ∀ i, i < a1.Edit.length → ∀ j, j < 1 → E5.cf (a1.Edit.getD i E5.z) j = E5.cf (a1.Edit.getD i E5.z) j]) (by kernel_rfl) ⟨rfl, rfl, rfl, rfl, (wrap_nat (Int.ofNat_lt.1 (of_decide_eq_true c10)) (by omega)), rfl, fun _ _ _ _ => rfl, rfl, fun _ _ _ _ => rfl, rfl, fun _ _ _ _ => rfl, rfl, fun _ _ _ _ => rfl, trivial⟩
   ·refine sk_leaf ?_
    obtain rfl := some_ h
    exact end_ok [] Tryd.results10 (ps := [true = true]) (by kernel_rfl) ⟨rfl, trivial⟩ (fun _ => ⟨rfl, by simp⟩)
def Y135 (x0 : (List Api_KernOp)) : List Prop := [x0.length = x0.length, ∀ i, i < x0.length → ∀ j, j < 4 → E26.cf (x0.getD i E26.z) j = E26.cf (x0.getD i E26.z) j]
theorem Y135p {x0 : (List Api_KernOp)} : allP (Y135 x0) := ⟨rfl, fun _ _ _ _ => rfl, trivial⟩
def Y28 (x0 : (List Int)) (x1 : Api_Whole) : Bool := (decide (((IntKind.i64.wrap ((IntKind.i64.wrap (((x0.length : Nat) : Int) - ((x1.Device.length : Nat) : Int))) - ((x1.Fetched.length : Nat) : Int))) : Int) ≥ 0))
def Y64 (x0 : (List Int)) (x1 : Api_Whole) : List Prop := [(decide (((IntKind.i64.wrap ((IntKind.i64.wrap (((x0.length : Nat) : Int) - ((x1.Device.length : Nat) : Int))) - ((x1.Fetched.length : Nat) : Int))) : Int) ≥ 0)) = true]
def Y89 (x0 : (List Int)) (x1 : Api_Whole) : List Prop := [(decide (((IntKind.i64.wrap ((IntKind.i64.wrap (((x0.length : Nat) : Int) - ((x1.Device.length : Nat) : Int))) - ((x1.Fetched.length : Nat) : Int))) : Int) ≥ 0)) = true, (decide (((IntKind.i64.wrap ((IntKind.i64.wrap (((x0.length : Nat) : Int) - ((x1.Device.length : Nat) : Int))) - ((x1.Fetched.length : Nat) : Int))) : Int) ≥ 0)) = true]
def Y37 (x0 : (List Int)) (x1 : Api_Whole) (x2 : (List Int)) : Bool := ((bytesOf ((x0.drop (Int.toNat (IntKind.i64.wrap ((IntKind.i64.wrap (((x0.length : Nat) : Int) - ((x1.Device.length : Nat) : Int))) - ((x1.Fetched.length : Nat) : Int))))).take (x0.length - (Int.toNat (IntKind.i64.wrap ((IntKind.i64.wrap (((x0.length : Nat) : Int) - ((x1.Device.length : Nat) : Int))) - ((x1.Fetched.length : Nat) : Int))))))).toList == (bytesOf x2).toList)
def Y69 (x0 : (List Int)) (x1 : Api_Whole) (x2 : (List Int)) : List Prop := [((decide (((IntKind.i64.wrap ((IntKind.i64.wrap (((x0.length : Nat) : Int) - ((x1.Device.length : Nat) : Int))) - ((x1.Fetched.length : Nat) : Int))) : Int) ≥ 0)) && ((bytesOf ((x0.drop (Int.toNat (IntKind.i64.wrap ((IntKind.i64.wrap (((x0.length : Nat) : Int) - ((x1.Device.length : Nat) : Int))) - ((x1.Fetched.length : Nat) : Int))))).take (x0.length - (Int.toNat (IntKind.i64.wrap ((IntKind.i64.wrap (((x0.length : Nat) : Int) - ((x1.Device.length : Nat) : Int))) - ((x1.Fetched.length : Nat) : Int))))))).toList == (bytesOf x2).toList)) = true]
def Y138 (x0 : (List Int)) (x1 : Api_Whole) : List AV := [.pv (.ro E5.s ((Int.toNat (IntKind.i64.wrap ((IntKind.i64.wrap (((x0.length : Nat) : Int) - ((x1.Device.length : Nat) : Int))) - ((x1.Fetched.length : Nat) : Int)))) - 0) (fun i j => E5.cf (x0.getD (0 + i) E5.z) j))]
def Y84 (x0 : (List Int)) (x1 x2 : List Int) : List Prop := [((Int.toNat (IntKind.i64.wrap ((IntKind.i64.wrap (((x0.length : Nat) : Int) - ((x1.length : Nat) : Int))) - ((x2.length : Nat) : Int)))) - 0) = ((x0.drop 0).take ((Int.toNat (IntKind.i64.wrap ((IntKind.i64.wrap (((x0.length : Nat) : Int) - ((x1.length : Nat) : Int))) - ((x2.length : Nat) : Int)))) - 0)).length, ∀ i, i < ((Int.toNat (IntKind.i64.wrap ((IntKind.i64.wrap (((x0.length : Nat) : Int) - ((x1.length : Nat) : Int))) - ((x2.length : Nat) : Int)))) - 0) → ∀ j, j < 1 → E5.cf (x0.getD (0 + i) E5.z) j = E5.cf (((x0.drop 0).take ((Int.toNat (IntKind.i64.wrap ((IntKind.i64.wrap (((x0.length : Nat) : Int) - ((x1.length : Nat) : Int))) - ((x2.length : Nat) : Int)))) - 0)).getD i E5.z) j]
def Y50 (x0 : (List Int)) (x1 x2 : List Int) (x3 : (List Int)) : List Prop := [((decide (((IntKind.i64.wrap ((IntKind.i64.wrap (((x0.length : Nat) : Int) - ((x1.length : Nat) : Int))) - ((x2.length : Nat) : Int))) : Int) ≥ 0)) && ((bytesOf ((x0.drop (Int.toNat (IntKind.i64.wrap ((IntKind.i64.wrap (((x0.length : Nat) : Int) - ((x1.length : Nat) : Int))) - ((x2.length : Nat) : Int))))).take (x0.length - (Int.toNat (IntKind.i64.wrap ((IntKind.i64.wrap (((x0.length : Nat) : Int) - ((x1.length : Nat) : Int))) - ((x2.length : Nat) : Int))))))).toList == (bytesOf x3).toList)) = true, ((decide (((IntKind.i64.wrap ((IntKind.i64.wrap (((x0.length : Nat) : Int) - ((x1.length : Nat) : Int))) - ((x2.length : Nat) : Int))) : Int) ≥ 0)) && ((bytesOf ((x0.drop (Int.toNat (IntKind.i64.wrap ((IntKind.i64.wrap (((x0.length : Nat) : Int) - ((x1.length : Nat) : Int))) - ((x2.length : Nat) : Int))))).take (x0.length - (Int.toNat (IntKind.i64.wrap ((IntKind.i64.wrap (((x0.length : Nat) : Int) - ((x1.length : Nat) : Int))) - ((x2.length : Nat) : Int))))))).toList == (bytesOf x3).toList)) = true]
def Y94 (x0 : Api_Tty) (x1 : List (List Int)) (x2 : List Int) : List Prop := [x0.Lines.length = x0.Lines.length, ∀ i, i < x0.Lines.length → ∀ j, j < 1 → E28.cf (x0.Lines.getD i E28.z) j = E28.cf (x0.Lines.getD i E28.z) j, x0.Edit.length = x0.Edit.length, ∀ i, i < x0.Edit.length → ∀ j, j < 1 → E5.cf (x0.Edit.getD i E5.z) j = E5.cf (x0.Edit.getD i E5.z) j, x1.length = x1.length, ∀ i, i < x1.length → ∀ j, j < 1 → E28.cf (x1.getD i E28.z) j = E28.cf (x1.getD i E28.z) j, x2.length = x2.length, ∀ i, i < x2.length → ∀ j, j < 1 → E5.cf (x2.getD i E5.z) j = E5.cf (x2.getD i E5.z) j]
theorem Y94p {x0 : Api_Tty} {x1 : List (List Int)} {x2 : List Int} : allP (Y94 x0 x1 x2) := ⟨rfl, fun _ _ _ _ => rfl, rfl, fun _ _ _ _ => rfl, rfl, fun _ _ _ _ => rfl, rfl, fun _ _ _ _ => rfl, trivial⟩
def Y100 (x0 : Bool) : Bool := (x0 && ((bytesOf []).toList == (bytesOf []).toList))
def Y113 (x0 : (List Int)) (x1 : Api_Whole) : List Prop := [((decide (((IntKind.i64.wrap ((IntKind.i64.wrap (((x0.length : Nat) : Int) - ((x1.Device.length : Nat) : Int))) - ((x1.Fetched.length : Nat) : Int))) : Int) ≥ 0)) && ((bytesOf []).toList == (bytesOf []).toList)) = true]
def Y76 (x0 : (List Int)) (x1 : Api_Whole) : List Prop := [((decide (((IntKind.i64.wrap ((IntKind.i64.wrap (((x0.length : Nat) : Int) - ((x1.Device.length : Nat) : Int))) - ((x1.Fetched.length : Nat) : Int))) : Int) ≥ 0)) && ((bytesOf []).toList == (bytesOf []).toList)) = true, ((decide (((IntKind.i64.wrap ((IntKind.i64.wrap (((x0.length : Nat) : Int) - ((x1.Device.length : Nat) : Int))) - ((x1.Fetched.length : Nat) : Int))) : Int) ≥ 0)) && ((bytesOf []).toList == (bytesOf []).toList)) = true]
theorem keep_KernelStream_ok (a0 : (List Api_KernOp)) (r : Bool) (h : keep_KernelStream a0 = some r) {al : Bool} : PCalls Tryd.prog 6 [.pv ((E26.ro a0))] al (.pv (.raw (.bool r))) [] := by
 unfold keep_KernelStream at h
 refine fnZ_ok tabOk [12] Tryd.func6 (by kernel_rfl) (by kernel_rfl) Tryd.ntmps6 (by simp) ?_
 refine segs [7, 4] tabOk mixed 4000 (S := .leaf 0) (by kernel_rfl) ?_
 refine sk_leaf ?_
 obtain ⟨r1, e2, h⟩ := bd_ h
 refine call_ok (d := some 8) (fn := 7) (ax := []) (args := []) (ps := []) (hb' := []) (by kernel_rfl) (keep_alive25_ok  _ e2 (al := true)) (by kernel_rfl) trivial (fun _ => (by kernel_rfl)) (by simp) rfl (by kernel_rfl) ?_
 refine segs [7, 4] tabOk mixed 4000 (S := .br (!r1) (.leaf 0) (.leaf 1)) (by kernel_rfl) ?_
 refine br_ h ?_ ?_ <;> clear h <;> intro c3 h
 ·refine sk_leaf ?_
  obtain rfl := some_ h
  exact end_ok [] Tryd.results6 (ps := [false = false]) (by kernel_rfl) ⟨rfl, trivial⟩ (fun _ => ⟨rfl, by simp⟩)
 ·refine sk_leaf ?_
  obtain ⟨r4, e5, h⟩ := bd_ h
  refine call_ok (d := some 11) (fn := 8) (ax := [.pv ((E26.ro a0))]) (ps := (Y135 a0)) (hb' := [.row 26 4 (E26.cR r4)]) (by kernel_rfl) (slices_Clone_api_KernOp_ok _ _ e5 (al := true)) (by kernel_rfl) Y135p (fun _ => (by kernel_rfl)) (by simp) (by simp only [List.map_cons, List.map_nil, Elem.row_up, up_map] <;> rfl) (by kernel_rfl) ?_
  refine segs [7, 4] tabOk mixed 4000 (S := .leaf 0) (by kernel_rfl) ?_
  refine sk_leaf ?_
  obtain ⟨r6, e7, h⟩ := bd_ h
  refine mcall_ok (d := some 12) (fn := 12) (ax := [.row 17088 4 0 r4.length, .fn 13 []]) (hs := [(17152, .row 26 4 (E26.cR r6))]) (del := [17088]) (ps := [0 = 0, r4.length = r4.length, E26.cR r4 = E26.cR r4, AllPv (E26.cR r4)]) [(0, some 17088)] (by kernel_rfl) (slices_DeleteFunc_api_KernOp_keep_KernelStream_1_h0_ok _ _ e7 (al := true)) (by kernel_rfl) ⟨rfl, rfl, rfl, (Elem.cR_pv _ _), trivial⟩ (by kernel_rfl) (by simp only [List.cons_append, List.nil_append, List.append_nil, rB, rA, fl, mset_row, mset_box, mset_nil, mset_map, List.set_set]; kernel_rfl) (by kernel_rfl) ?_
  refine segs [7, 4] tabOk mixed 4000 (S := .leaf 0) (by kernel_rfl) ?_
  refine sk_leaf ?_
  refine cut_ok (by kernel_rfl) (τ := mk 55 [(2, .pv (.raw (.bool false))), (3, .pv ((E26.ro r6)))] [] [12]) (sub_ok (ρ := []) (l := [false = false, r6.length = r6.length, rowQ (E26.cR r6) 4 0 r6.length (fun i j => E26.cf (r6.getD i E26.z) j)]) (by kernel_rfl) ⟨rfl, (by first | rfl | exact Elem.sub_len _ (by omega) | omega | simp | (simp <;> omega)), E26.rowQ_all r6 rfl, trivial⟩) ?_
  refine segs [7] tabOk mixed 4000 (S := .leaf 0) (by kernel_rfl) ?_
  refine sk_leaf ?_
  obtain ⟨r8, e9, h⟩ := bd_ h
  refine call_ok (d := some 15) (fn := 9) (ax := [.pv ((E26.ro r6))]) (ps := (Y135 r6)) (hb' := [.row 38 2 (E38.cR r8.1), .row 5 1 (E5.cR r8.2.Device), .row 5 1 (E5.cR r8.2.Fetched)]) (by kernel_rfl) (kernel_Play_ok _ _ e9) (by kernel_rfl) Y135p (fun _ => (by kernel_rfl)) (by simp) (by simp only [List.map_cons, List.map_nil, Elem.row_up, up_map] <;> rfl) (by kernel_rfl) ?_
  refine segs [7, 4] tabOk mixed 4000 (S := .leaf 0) (by kernel_rfl) ?_
  refine sk_leaf ?_
  obtain ⟨r10, e11, h⟩ := bd_ h
  refine call_ok (d := some 19) (fn := 14) (ax := [.pv ((E26.ro r6))]) (ps := (Y135 r6)) (hb' := [.row 5 1 (E5.cR r10)]) (by kernel_rfl) (keep_kept_ok _ _ e11 (al := true)) (by kernel_rfl) Y135p (fun _ => (by kernel_rfl)) (by simp) (by simp only [List.map_cons, List.map_nil, Elem.row_up, up_map] <;> rfl) (by kernel_rfl) ?_
  refine segs [7, 4] tabOk mixed 4000 (S := .leaf 0) (by kernel_rfl) ?_
  refine sk_leaf ?_
  refine cut_ok (by kernel_rfl) (τ := mk 55 [(2, .pv (.raw (.bool false))), (5, .ptr 0 0), (6, .pv ((E5.ro r10))), (7, .pv (.raw (.int .i64 (IntKind.i64.wrap ((IntKind.i64.wrap (((r10.length : Nat) : Int) - ((r8.2.Device.length : Nat) : Int))) - ((r8.2.Fetched.length : Nat) : Int))))))] [(0, .box [.pv ((E5.ro r8.2.Device)), .pv ((E5.ro r8.2.Fetched)), .pv ((E28.ro r8.2.Tty.Lines)), .pv ((E5.ro r8.2.Tty.Edit)), .pv (.raw (.int .i64 r8.2.Lost)), .pv (.raw (.int .i64 r8.2.Taken))])] [12]) (sub_ok (ρ := [(0, some 16704)]) (l := [false = false, 0 = 0, r10.length = r10.length, rowQ (E5.cR r10) 1 0 r10.length (fun i j => E5.cf (r10.getD i E5.z) j), ((IntKind.i64.wrap ((IntKind.i64.wrap (((r10.length : Nat) : Int) - ((r8.2.Device.length : Nat) : Int))) - ((r8.2.Fetched.length : Nat) : Int))) : Int) = (IntKind.i64.wrap ((IntKind.i64.wrap (((r10.length : Nat) : Int) - ((r8.2.Device.length : Nat) : Int))) - ((r8.2.Fetched.length : Nat) : Int))), r8.2.Device.length = r8.2.Device.length, rowQ (E5.cR r8.2.Device) 1 0 r8.2.Device.length (fun i j => E5.cf (r8.2.Device.getD i E5.z) j), r8.2.Fetched.length = r8.2.Fetched.length, rowQ (E5.cR r8.2.Fetched) 1 0 r8.2.Fetched.length (fun i j => E5.cf (r8.2.Fetched.getD i E5.z) j), r8.2.Tty.Lines.length = r8.2.Tty.Lines.length, ∀ i, i < r8.2.Tty.Lines.length → ∀ j, j < 1 → E28.cf (r8.2.Tty.Lines.getD i E28.z) j = E28.cf (r8.2.Tty.Lines.getD i E28.z) j, r8.2.Tty.Edit.length = r8.2.Tty.Edit.length, ∀ i, i < r8.2.Tty.Edit.length → ∀ j, j < 1 → E5.cf (r8.2.Tty.Edit.getD i E5.z) j = E5.cf (r8.2.Tty.Edit.getD i E5.z) j, (r8.2.Lost : Int) = r8.2.Lost, (r8.2.Taken : Int) = r8.2.Taken]) (by kernel_rfl) ⟨rfl, rfl, (by first | rfl | exact Elem.sub_len _ (by omega) | omega | simp | (simp <;> omega)), E5.rowQ_all r10 rfl, rfl, (by first | rfl | exact Elem.sub_len _ (by omega) | omega | simp | (simp <;> omega)), E5.rowQ_all r8.2.Device rfl, (by first | rfl | exact Elem.sub_len _ (by omega) | omega | simp | (simp <;> omega)), E5.rowQ_all r8.2.Fetched rfl, rfl, fun _ _ _ _ => rfl, rfl, fun _ _ _ _ => rfl, rfl, rfl, trivial⟩) ?_
  refine segs [4] tabOk mixed 4000 (S := .and (((Y28 r10 r8.2) = true → ((Y28 r10 r8.2) = true))) (.and (((Y28 r10 r8.2) = true → ((Y28 r10 r8.2) = true))) (.and (((decide (((IntKind.i64.wrap ((IntKind.i64.wrap (((r10.length : Nat) : Int) - ((r8.2.Device.length : Nat) : Int))) - ((r8.2.Fetched.length : Nat) : Int))) : Int) ≥ 0)) = true → (0 ≤ ((IntKind.i64.wrap ((IntKind.i64.wrap (((r10.length : Nat) : Int) - ((r8.2.Device.length : Nat) : Int))) - ((r8.2.Fetched.length : Nat) : Int))) : Int)))) (.and (((decide (((IntKind.i64.wrap ((IntKind.i64.wrap (((r10.length : Nat) : Int) - ((r8.2.Device.length : Nat) : Int))) - ((r8.2.Fetched.length : Nat) : Int))) : Int) ≥ 0)) = true → ((Int.toNat (IntKind.i64.wrap ((IntKind.i64.wrap (((r10.length : Nat) : Int) - ((r8.2.Device.length : Nat) : Int))) - ((r8.2.Fetched.length : Nat) : Int)))) ≤ r10.length))) (.leaf 0))))) (by kernel_rfl) ?_
  refine sk_and (fun h => h) ?_
  refine sk_and (fun h => h) ?_
  refine gd_ h ?_; clear h; intro g14 h
  refine gd_ h ?_; clear h; intro g15 h
  refine sk_leaf ?_
  refine gsp_ h ?_ ?_ <;> clear h <;> intro c16 h
  ·refine unG_ok (g := (decide (((IntKind.i64.wrap ((IntKind.i64.wrap (((r10.length : Nat) : Int) - ((r8.2.Device.length : Nat) : Int))) - ((r8.2.Fetched.length : Nat) : Int))) : Int) ≥ 0))) (ws := (Y64 r10 r8.2)) (by kernel_rfl) (by kernel_rfl) c16 ⟨((by decide : ∀ y0 : Bool, ((y0 = true) → (y0 = true))) (decide (((IntKind.i64.wrap ((IntKind.i64.wrap (((r10.length : Nat) : Int) - ((r8.2.Device.length : Nat) : Int))) - ((r8.2.Fetched.length : Nat) : Int))) : Int) ≥ 0))) c16, trivial⟩ ?_
   have g14q := g14 c16
   have g15q := g15 c16
   refine cvp_ok (d := 36) (lo := (Int.toNat (IntKind.i64.wrap ((IntKind.i64.wrap (((r10.length : Nat) : Int) - ((r8.2.Device.length : Nat) : Int))) - ((r8.2.Fetched.length : Nat) : Int))))) (n := (r10.length - (Int.toNat (IntKind.i64.wrap ((IntKind.i64.wrap (((r10.length : Nat) : Int) - ((r8.2.Device.length : Nat) : Int))) - ((r8.2.Fetched.length : Nat) : Int)))))) E5 (xs := r10) rfl (fun _ => rfl) (by kernel_rfl) (by first | omega | (simp at * <;> omega) | (simp_all <;> omega)) ?_
   refine gdw_ok (g := (decide (((IntKind.i64.wrap ((IntKind.i64.wrap (((r10.length : Nat) : Int) - ((r8.2.Device.length : Nat) : Int))) - ((r8.2.Fetched.length : Nat) : Int))) : Int) ≥ 0))) (ws := (Y64 r10 r8.2)) (by kernel_rfl) ?_
   refine segs [7, 4] tabOk mixed 4000 (S := .and (((Y28 r10 r8.2) = true → ((Y28 r10 r8.2) = true))) (.and (((Y28 r10 r8.2) = true → ((Y28 r10 r8.2) = true))) (.leaf 0))) (by kernel_rfl) ?_
   refine sk_and (fun h => h) ?_
   refine sk_and (fun h => h) ?_
   refine sk_leaf ?_
   refine unG_ok (g := (decide (((IntKind.i64.wrap ((IntKind.i64.wrap (((r10.length : Nat) : Int) - ((r8.2.Device.length : Nat) : Int))) - ((r8.2.Fetched.length : Nat) : Int))) : Int) ≥ 0))) (ws := (Y89 r10 r8.2)) (by kernel_rfl) (by kernel_rfl) c16 ⟨((by decide : ∀ y0 : Bool, ((y0 = true) → (y0 = true))) (decide (((IntKind.i64.wrap ((IntKind.i64.wrap (((r10.length : Nat) : Int) - ((r8.2.Device.length : Nat) : Int))) - ((r8.2.Fetched.length : Nat) : Int))) : Int) ≥ 0))) c16, ((by decide : ∀ y0 : Bool, ((y0 = true) → (y0 = true))) (decide (((IntKind.i64.wrap ((IntKind.i64.wrap (((r10.length : Nat) : Int) - ((r8.2.Device.length : Nat) : Int))) - ((r8.2.Fetched.length : Nat) : Int))) : Int) ≥ 0))) c16, trivial⟩ ?_
   have g14q := g14 c16
   have g15q := g15 c16
   refine bs_ok (d := 41) (e := 28) (s := 1) (n := 2) (cs := [.pv ((E5.ro r8.2.Fetched)), .pv ((E5.ro r8.2.Device))]) (cs' := E28.cR [r8.2.Fetched, r8.2.Device]) (by kernel_rfl) rfl (by kernel_rfl) ?_
   refine gdw_ok (g := (decide (((IntKind.i64.wrap ((IntKind.i64.wrap (((r10.length : Nat) : Int) - ((r8.2.Device.length : Nat) : Int))) - ((r8.2.Fetched.length : Nat) : Int))) : Int) ≥ 0))) (ws := (Y89 r10 r8.2)) (by kernel_rfl) ?_
   refine segs [7, 4] tabOk mixed 4000 (S := .leaf 0) (by kernel_rfl) ?_
   refine sk_leaf ?_
   refine unG_ok (g := (decide (((IntKind.i64.wrap ((IntKind.i64.wrap (((r10.length : Nat) : Int) - ((r8.2.Device.length : Nat) : Int))) - ((r8.2.Fetched.length : Nat) : Int))) : Int) ≥ 0))) (ws := (Y64 r10 r8.2)) (by kernel_rfl) (by kernel_rfl) c16 ⟨((by decide : ∀ y0 : Bool, ((y0 = true) → (y0 = true))) (decide (((IntKind.i64.wrap ((IntKind.i64.wrap (((r10.length : Nat) : Int) - ((r8.2.Device.length : Nat) : Int))) - ((r8.2.Fetched.length : Nat) : Int))) : Int) ≥ 0))) c16, trivial⟩ ?_
   have g14q := g14 c16
   have g15q := g15 c16
   obtain ⟨r19, e20, h⟩ := bd_ h
   refine callF_ok (d := some 42) (fn := 15) (ax := [.row 19008 1 0 2]) (args := [.pv ((E28.ro [r8.2.Fetched, r8.2.Device]))]) (ps := [2 = [r8.2.Fetched, r8.2.Device].length, rowQ (E28.cR [r8.2.Fetched, r8.2.Device]) 1 0 2 (fun i j => E28.cf ([r8.2.Fetched, r8.2.Device].getD i E28.z) j)]) (hb' := [.row 5 1 (E5.cR r19)]) (ps2 := [r19.length = r19.length, rowQ (E5.cR r19) 1 0 r19.length (fun i j => E5.cf (r19.getD i E5.z) j)]) (.pv ((E5.ro r19))) (by kernel_rfl) (slices_Concat_byte_ok _ _ e20 (al := false)) (by kernel_rfl) ⟨(by first | rfl | exact Elem.sub_len _ (by omega) | omega | simp | (simp <;> omega)), E28.rowQ_all [r8.2.Fetched, r8.2.Device] rfl, trivial⟩ (fun hx => by cases hx) (by simp) (by simp only [List.map_cons, List.map_nil, Elem.row_up, up_map] <;> rfl) (by kernel_rfl) (by kernel_rfl) ⟨(by first | rfl | exact Elem.sub_len _ (by omega) | omega | simp | (simp <;> omega)), E5.rowQ_all r19 rfl, trivial⟩ ?_
   refine gdw_ok (g := (decide (((IntKind.i64.wrap ((IntKind.i64.wrap (((r10.length : Nat) : Int) - ((r8.2.Device.length : Nat) : Int))) - ((r8.2.Fetched.length : Nat) : Int))) : Int) ≥ 0))) (ws := (Y64 r10 r8.2)) (by kernel_rfl) ?_
   refine segs [7, 4] tabOk mixed 4000 (S := .leaf 0) (by kernel_rfl) ?_
   refine sk_leaf ?_
   refine unG_ok (g := (decide (((IntKind.i64.wrap ((IntKind.i64.wrap (((r10.length : Nat) : Int) - ((r8.2.Device.length : Nat) : Int))) - ((r8.2.Fetched.length : Nat) : Int))) : Int) ≥ 0))) (ws := (Y64 r10 r8.2)) (by kernel_rfl) (by kernel_rfl) c16 ⟨((by decide : ∀ y0 : Bool, ((y0 = true) → (y0 = true))) (decide (((IntKind.i64.wrap ((IntKind.i64.wrap (((r10.length : Nat) : Int) - ((r8.2.Device.length : Nat) : Int))) - ((r8.2.Fetched.length : Nat) : Int))) : Int) ≥ 0))) c16, trivial⟩ ?_
   have g14q := g14 c16
   have g15q := g15 c16
   refine cv_ok (d := 43) E5 (xs := r19) rfl (fun _ => rfl) (by kernel_rfl) ?_
   refine gdw_ok (g := (decide (((IntKind.i64.wrap ((IntKind.i64.wrap (((r10.length : Nat) : Int) - ((r8.2.Device.length : Nat) : Int))) - ((r8.2.Fetched.length : Nat) : Int))) : Int) ≥ 0))) (ws := (Y64 r10 r8.2)) (by kernel_rfl) ?_
   refine segs [7, 4] tabOk mixed 4000 (S := .and (((Y28 r10 r8.2) = true → ((Y28 r10 r8.2) = true))) (.and (((Y28 r10 r8.2) = true → ((Y28 r10 r8.2) = true))) (.and ((Y28 r10 r8.2) = true → (Y28 r10 r8.2) = true) (.and ((((Y28 r10 r8.2) && (Y37 r10 r8.2 r19)) = true → (((Y28 r10 r8.2) && (Y37 r10 r8.2 r19)) = true))) (.and ((((Y28 r10 r8.2) && (Y37 r10 r8.2 r19)) = true → (((Y28 r10 r8.2) && (Y37 r10 r8.2 r19)) = true))) (.and ((((Y28 r10 r8.2) && (Y37 r10 r8.2 r19)) = true → (((Y28 r10 r8.2) && (Y37 r10 r8.2 r19)) = true))) (.and ((((decide (((IntKind.i64.wrap ((IntKind.i64.wrap (((r10.length : Nat) : Int) - ((r8.2.Device.length : Nat) : Int))) - ((r8.2.Fetched.length : Nat) : Int))) : Int) ≥ 0)) && ((bytesOf ((r10.drop (Int.toNat (IntKind.i64.wrap ((IntKind.i64.wrap (((r10.length : Nat) : Int) - ((r8.2.Device.length : Nat) : Int))) - ((r8.2.Fetched.length : Nat) : Int))))).take (r10.length - (Int.toNat (IntKind.i64.wrap ((IntKind.i64.wrap (((r10.length : Nat) : Int) - ((r8.2.Device.length : Nat) : Int))) - ((r8.2.Fetched.length : Nat) : Int))))))).toList == (bytesOf r19).toList)) = true → (0 ≤ ((IntKind.i64.wrap ((IntKind.i64.wrap (((r10.length : Nat) : Int) - ((r8.2.Device.length : Nat) : Int))) - ((r8.2.Fetched.length : Nat) : Int))) : Int)))) (.and ((((decide (((IntKind.i64.wrap ((IntKind.i64.wrap (((r10.length : Nat) : Int) - ((r8.2.Device.length : Nat) : Int))) - ((r8.2.Fetched.length : Nat) : Int))) : Int) ≥ 0)) && ((bytesOf ((r10.drop (Int.toNat (IntKind.i64.wrap ((IntKind.i64.wrap (((r10.length : Nat) : Int) - ((r8.2.Device.length : Nat) : Int))) - ((r8.2.Fetched.length : Nat) : Int))))).take (r10.length - (Int.toNat (IntKind.i64.wrap ((IntKind.i64.wrap (((r10.length : Nat) : Int) - ((r8.2.Device.length : Nat) : Int))) - ((r8.2.Fetched.length : Nat) : Int))))))).toList == (bytesOf r19).toList)) = true → ((Int.toNat (IntKind.i64.wrap ((IntKind.i64.wrap (((r10.length : Nat) : Int) - ((r8.2.Device.length : Nat) : Int))) - ((r8.2.Fetched.length : Nat) : Int)))) ≤ r10.length))) (.leaf 0))))))))) (by kernel_rfl) ?_
   refine sk_and (fun h => h) ?_
   refine sk_and (fun h => h) ?_
   refine sk_and (fun h => h) ?_
   refine sk_and (fun h => h) ?_
   refine sk_and (fun h => h) ?_
   refine sk_and (fun h => h) ?_
   refine gd_ h ?_; clear h; intro g27 h
   refine gd_ h ?_; clear h; intro g28 h
   refine sk_leaf ?_
   refine gsp_ h ?_ ?_ <;> clear h <;> intro c29 h
   ·refine unG_ok (g := ((decide (((IntKind.i64.wrap ((IntKind.i64.wrap (((r10.length : Nat) : Int) - ((r8.2.Device.length : Nat) : Int))) - ((r8.2.Fetched.length : Nat) : Int))) : Int) ≥ 0)) && ((bytesOf ((r10.drop (Int.toNat (IntKind.i64.wrap ((IntKind.i64.wrap (((r10.length : Nat) : Int) - ((r8.2.Device.length : Nat) : Int))) - ((r8.2.Fetched.length : Nat) : Int))))).take (r10.length - (Int.toNat (IntKind.i64.wrap ((IntKind.i64.wrap (((r10.length : Nat) : Int) - ((r8.2.Device.length : Nat) : Int))) - ((r8.2.Fetched.length : Nat) : Int))))))).toList == (bytesOf r19).toList))) (ws := (Y69 r10 r8.2 r19)) (by kernel_rfl) (by kernel_rfl) c29 ⟨((by decide : ∀ y0 : Bool, ((y0 = true) → (y0 = true))) ((decide (((IntKind.i64.wrap ((IntKind.i64.wrap (((r10.length : Nat) : Int) - ((r8.2.Device.length : Nat) : Int))) - ((r8.2.Fetched.length : Nat) : Int))) : Int) ≥ 0)) && ((bytesOf ((r10.drop (Int.toNat (IntKind.i64.wrap ((IntKind.i64.wrap (((r10.length : Nat) : Int) - ((r8.2.Device.length : Nat) : Int))) - ((r8.2.Fetched.length : Nat) : Int))))).take (r10.length - (Int.toNat (IntKind.i64.wrap ((IntKind.i64.wrap (((r10.length : Nat) : Int) - ((r8.2.Device.length : Nat) : Int))) - ((r8.2.Fetched.length : Nat) : Int))))))).toList == (bytesOf r19).toList))) c29, trivial⟩ ?_
    have g27q := g27 c29
    have g28q := g28 c29
    obtain ⟨r30, e31, h⟩ := bd_ h
    refine call_ok (d := some 52) (fn := 11) (ax := (Y138 r10 r8.2)) (ps := (Y84 r10 r8.2.Device r8.2.Fetched)) (hb' := []) (by kernel_rfl) (tty_Type_ok _ _ e31) (by kernel_rfl) ⟨(Elem.sub_len _ (by omega)), (Elem.sub_cf _ _ (by omega)), trivial⟩ (fun _ => (by kernel_rfl)) (by simp) rfl (by kernel_rfl) ?_
    refine gdw_ok (g := ((decide (((IntKind.i64.wrap ((IntKind.i64.wrap (((r10.length : Nat) : Int) - ((r8.2.Device.length : Nat) : Int))) - ((r8.2.Fetched.length : Nat) : Int))) : Int) ≥ 0)) && ((bytesOf ((r10.drop (Int.toNat (IntKind.i64.wrap ((IntKind.i64.wrap (((r10.length : Nat) : Int) - ((r8.2.Device.length : Nat) : Int))) - ((r8.2.Fetched.length : Nat) : Int))))).take (r10.length - (Int.toNat (IntKind.i64.wrap ((IntKind.i64.wrap (((r10.length : Nat) : Int) - ((r8.2.Device.length : Nat) : Int))) - ((r8.2.Fetched.length : Nat) : Int))))))).toList == (bytesOf r19).toList))) (ws := (Y69 r10 r8.2 r19)) (by kernel_rfl) ?_
    refine segs [7, 4] tabOk mixed 4000 (S := .leaf 0) (by kernel_rfl) ?_
    refine sk_leaf ?_
    refine unG_ok (g := ((decide (((IntKind.i64.wrap ((IntKind.i64.wrap (((r10.length : Nat) : Int) - ((r8.2.Device.length : Nat) : Int))) - ((r8.2.Fetched.length : Nat) : Int))) : Int) ≥ 0)) && ((bytesOf ((r10.drop (Int.toNat (IntKind.i64.wrap ((IntKind.i64.wrap (((r10.length : Nat) : Int) - ((r8.2.Device.length : Nat) : Int))) - ((r8.2.Fetched.length : Nat) : Int))))).take (r10.length - (Int.toNat (IntKind.i64.wrap ((IntKind.i64.wrap (((r10.length : Nat) : Int) - ((r8.2.Device.length : Nat) : Int))) - ((r8.2.Fetched.length : Nat) : Int))))))).toList == (bytesOf r19).toList))) (ws := (Y50 r10 r8.2.Device r8.2.Fetched r19)) (by kernel_rfl) (by kernel_rfl) c29 ⟨((by decide : ∀ y0 : Bool, ((y0 = true) → (y0 = true))) ((decide (((IntKind.i64.wrap ((IntKind.i64.wrap (((r10.length : Nat) : Int) - ((r8.2.Device.length : Nat) : Int))) - ((r8.2.Fetched.length : Nat) : Int))) : Int) ≥ 0)) && ((bytesOf ((r10.drop (Int.toNat (IntKind.i64.wrap ((IntKind.i64.wrap (((r10.length : Nat) : Int) - ((r8.2.Device.length : Nat) : Int))) - ((r8.2.Fetched.length : Nat) : Int))))).take (r10.length - (Int.toNat (IntKind.i64.wrap ((IntKind.i64.wrap (((r10.length : Nat) : Int) - ((r8.2.Device.length : Nat) : Int))) - ((r8.2.Fetched.length : Nat) : Int))))))).toList == (bytesOf r19).toList))) c29, ((by decide : ∀ y0 : Bool, ((y0 = true) → (y0 = true))) ((decide (((IntKind.i64.wrap ((IntKind.i64.wrap (((r10.length : Nat) : Int) - ((r8.2.Device.length : Nat) : Int))) - ((r8.2.Fetched.length : Nat) : Int))) : Int) ≥ 0)) && ((bytesOf ((r10.drop (Int.toNat (IntKind.i64.wrap ((IntKind.i64.wrap (((r10.length : Nat) : Int) - ((r8.2.Device.length : Nat) : Int))) - ((r8.2.Fetched.length : Nat) : Int))))).take (r10.length - (Int.toNat (IntKind.i64.wrap ((IntKind.i64.wrap (((r10.length : Nat) : Int) - ((r8.2.Device.length : Nat) : Int))) - ((r8.2.Fetched.length : Nat) : Int))))))).toList == (bytesOf r19).toList))) c29, trivial⟩ ?_
    have g27q := g27 c29
    have g28q := g28 c29
    obtain ⟨r32, e33, h⟩ := bd_ h
    refine call_ok (d := some 53) (fn := 10) (ax := [.agg (Y63 r8.2.Tty), .agg (Y63 r30)]) (ps := (Y94 r8.2.Tty r30.Lines r30.Edit)) (hb' := []) (by kernel_rfl) (ref_SameTty_ok _ _ _ e33 (al := true)) (by kernel_rfl) Y94p (fun _ => (by kernel_rfl)) (by simp) rfl (by kernel_rfl) ?_
    refine gdw_ok (g := ((decide (((IntKind.i64.wrap ((IntKind.i64.wrap (((r10.length : Nat) : Int) - ((r8.2.Device.length : Nat) : Int))) - ((r8.2.Fetched.length : Nat) : Int))) : Int) ≥ 0)) && ((bytesOf ((r10.drop (Int.toNat (IntKind.i64.wrap ((IntKind.i64.wrap (((r10.length : Nat) : Int) - ((r8.2.Device.length : Nat) : Int))) - ((r8.2.Fetched.length : Nat) : Int))))).take (r10.length - (Int.toNat (IntKind.i64.wrap ((IntKind.i64.wrap (((r10.length : Nat) : Int) - ((r8.2.Device.length : Nat) : Int))) - ((r8.2.Fetched.length : Nat) : Int))))))).toList == (bytesOf r19).toList))) (ws := (Y50 r10 r8.2.Device r8.2.Fetched r19)) (by kernel_rfl) ?_
    refine segs [7, 4] tabOk mixed 4000 (S := .and (((Y28 r10 r8.2) && (Y37 r10 r8.2 r19)) = true → ((Y28 r10 r8.2) && (Y37 r10 r8.2 r19)) = true) (.leaf 0)) (by kernel_rfl) ?_
    refine sk_and (fun h => h) ?_
    refine sk_leaf ?_
    obtain rfl := some_ h
    exact end_ok [] Tryd.results6 (ps := [(((decide (((IntKind.i64.wrap ((IntKind.i64.wrap (((r10.length : Nat) : Int) - ((r8.2.Device.length : Nat) : Int))) - ((r8.2.Fetched.length : Nat) : Int))) : Int) ≥ 0)) && ((bytesOf ((r10.drop (Int.toNat (IntKind.i64.wrap ((IntKind.i64.wrap (((r10.length : Nat) : Int) - ((r8.2.Device.length : Nat) : Int))) - ((r8.2.Fetched.length : Nat) : Int))))).take (r10.length - (Int.toNat (IntKind.i64.wrap ((IntKind.i64.wrap (((r10.length : Nat) : Int) - ((r8.2.Device.length : Nat) : Int))) - ((r8.2.Fetched.length : Nat) : Int))))))).toList == (bytesOf r19).toList)) && r32) = (((decide (((IntKind.i64.wrap ((IntKind.i64.wrap (((r10.length : Nat) : Int) - ((r8.2.Device.length : Nat) : Int))) - ((r8.2.Fetched.length : Nat) : Int))) : Int) ≥ 0)) && ((bytesOf ((r10.drop (Int.toNat (IntKind.i64.wrap ((IntKind.i64.wrap (((r10.length : Nat) : Int) - ((r8.2.Device.length : Nat) : Int))) - ((r8.2.Fetched.length : Nat) : Int))))).take (r10.length - (Int.toNat (IntKind.i64.wrap ((IntKind.i64.wrap (((r10.length : Nat) : Int) - ((r8.2.Device.length : Nat) : Int))) - ((r8.2.Fetched.length : Nat) : Int))))))).toList == (bytesOf r19).toList)) && r32)]) (by kernel_rfl) ⟨rfl, trivial⟩ (fun _ => ⟨rfl, by simp⟩)
   ·refine skG_ok (g := ((decide (((IntKind.i64.wrap ((IntKind.i64.wrap (((r10.length : Nat) : Int) - ((r8.2.Device.length : Nat) : Int))) - ((r8.2.Fetched.length : Nat) : Int))) : Int) ≥ 0)) && ((bytesOf ((r10.drop (Int.toNat (IntKind.i64.wrap ((IntKind.i64.wrap (((r10.length : Nat) : Int) - ((r8.2.Device.length : Nat) : Int))) - ((r8.2.Fetched.length : Nat) : Int))))).take (r10.length - (Int.toNat (IntKind.i64.wrap ((IntKind.i64.wrap (((r10.length : Nat) : Int) - ((r8.2.Device.length : Nat) : Int))) - ((r8.2.Fetched.length : Nat) : Int))))))).toList == (bytesOf r19).toList))) (ws := (Y69 r10 r8.2 r19)) (.junk) (by kernel_rfl) c29 ?_
    refine segs [7, 4] tabOk mixed 4000 (S := .leaf 0) (by kernel_rfl) ?_
    refine sk_leaf ?_
    refine skG_ok (g := ((decide (((IntKind.i64.wrap ((IntKind.i64.wrap (((r10.length : Nat) : Int) - ((r8.2.Device.length : Nat) : Int))) - ((r8.2.Fetched.length : Nat) : Int))) : Int) ≥ 0)) && ((bytesOf ((r10.drop (Int.toNat (IntKind.i64.wrap ((IntKind.i64.wrap (((r10.length : Nat) : Int) - ((r8.2.Device.length : Nat) : Int))) - ((r8.2.Fetched.length : Nat) : Int))))).take (r10.length - (Int.toNat (IntKind.i64.wrap ((IntKind.i64.wrap (((r10.length : Nat) : Int) - ((r8.2.Device.length : Nat) : Int))) - ((r8.2.Fetched.length : Nat) : Int))))))).toList == (bytesOf r19).toList))) (ws := (Y50 r10 r8.2.Device r8.2.Fetched r19)) (.pv (.raw (.bool false))) (by kernel_rfl) c29 ?_
    refine segs [7, 4] tabOk mixed 4000 (S := .and (((Y28 r10 r8.2) && (Y37 r10 r8.2 r19)) = true → ((Y28 r10 r8.2) && (Y37 r10 r8.2 r19)) = true) (.leaf 0)) (by kernel_rfl) ?_
    refine sk_and (fun h => h) ?_
    refine sk_leaf ?_
    obtain rfl := some_ h
    exact end_ok [] Tryd.results6 (ps := [(((decide (((IntKind.i64.wrap ((IntKind.i64.wrap (((r10.length : Nat) : Int) - ((r8.2.Device.length : Nat) : Int))) - ((r8.2.Fetched.length : Nat) : Int))) : Int) ≥ 0)) && ((bytesOf ((r10.drop (Int.toNat (IntKind.i64.wrap ((IntKind.i64.wrap (((r10.length : Nat) : Int) - ((r8.2.Device.length : Nat) : Int))) - ((r8.2.Fetched.length : Nat) : Int))))).take (r10.length - (Int.toNat (IntKind.i64.wrap ((IntKind.i64.wrap (((r10.length : Nat) : Int) - ((r8.2.Device.length : Nat) : Int))) - ((r8.2.Fetched.length : Nat) : Int))))))).toList == (bytesOf r19).toList)) && false) = (((decide (((IntKind.i64.wrap ((IntKind.i64.wrap (((r10.length : Nat) : Int) - ((r8.2.Device.length : Nat) : Int))) - ((r8.2.Fetched.length : Nat) : Int))) : Int) ≥ 0)) && ((bytesOf ((r10.drop (Int.toNat (IntKind.i64.wrap ((IntKind.i64.wrap (((r10.length : Nat) : Int) - ((r8.2.Device.length : Nat) : Int))) - ((r8.2.Fetched.length : Nat) : Int))))).take (r10.length - (Int.toNat (IntKind.i64.wrap ((IntKind.i64.wrap (((r10.length : Nat) : Int) - ((r8.2.Device.length : Nat) : Int))) - ((r8.2.Fetched.length : Nat) : Int))))))).toList == (bytesOf r19).toList)) && false)]) (by kernel_rfl) ⟨rfl, trivial⟩ (fun _ => ⟨rfl, by simp⟩)
  ·refine skG_ok (g := (decide (((IntKind.i64.wrap ((IntKind.i64.wrap (((r10.length : Nat) : Int) - ((r8.2.Device.length : Nat) : Int))) - ((r8.2.Fetched.length : Nat) : Int))) : Int) ≥ 0))) (ws := (Y64 r10 r8.2)) (.pv (.raw (.string (bytesOf [])))) (by kernel_rfl) c16 ?_
   refine segs [7, 4] tabOk mixed 4000 (S := .and (((Y28 r10 r8.2) = true → ((Y28 r10 r8.2) = true))) (.and (((Y28 r10 r8.2) = true → ((Y28 r10 r8.2) = true))) (.leaf 0))) (by kernel_rfl) ?_
   refine sk_and (fun h => h) ?_
   refine sk_and (fun h => h) ?_
   refine sk_leaf ?_
   refine skG_ok (g := (decide (((IntKind.i64.wrap ((IntKind.i64.wrap (((r10.length : Nat) : Int) - ((r8.2.Device.length : Nat) : Int))) - ((r8.2.Fetched.length : Nat) : Int))) : Int) ≥ 0))) (ws := (Y89 r10 r8.2)) (.pv (.raw (.slice none 0 0))) (by kernel_rfl) c16 ?_
   refine segs [7, 4] tabOk mixed 4000 (S := .leaf 0) (by kernel_rfl) ?_
   refine sk_leaf ?_
   refine skG_ok (g := (decide (((IntKind.i64.wrap ((IntKind.i64.wrap (((r10.length : Nat) : Int) - ((r8.2.Device.length : Nat) : Int))) - ((r8.2.Fetched.length : Nat) : Int))) : Int) ≥ 0))) (ws := (Y64 r10 r8.2)) (.pv ((E5.ro ([] : List Int)))) (by kernel_rfl) c16 ?_
   refine segs [7, 4] tabOk mixed 4000 (S := .leaf 0) (by kernel_rfl) ?_
   refine sk_leaf ?_
   refine skG_ok (g := (decide (((IntKind.i64.wrap ((IntKind.i64.wrap (((r10.length : Nat) : Int) - ((r8.2.Device.length : Nat) : Int))) - ((r8.2.Fetched.length : Nat) : Int))) : Int) ≥ 0))) (ws := (Y64 r10 r8.2)) (.pv (.raw (.string (bytesOf [])))) (by kernel_rfl) c16 ?_
   refine segs [7, 4] tabOk mixed 4000 (S := .and (((Y28 r10 r8.2) = true → ((Y28 r10 r8.2) = true))) (.and (((Y28 r10 r8.2) = true → ((Y28 r10 r8.2) = true))) (.and ((Y28 r10 r8.2) = true → (Y28 r10 r8.2) = true) (.and (((Y100 (Y28 r10 r8.2)) = true → ((Y100 (Y28 r10 r8.2)) = true))) (.and (((Y100 (Y28 r10 r8.2)) = true → ((Y100 (Y28 r10 r8.2)) = true))) (.and (((Y100 (Y28 r10 r8.2)) = true → ((Y100 (Y28 r10 r8.2)) = true))) (.and ((((decide (((IntKind.i64.wrap ((IntKind.i64.wrap (((r10.length : Nat) : Int) - ((r8.2.Device.length : Nat) : Int))) - ((r8.2.Fetched.length : Nat) : Int))) : Int) ≥ 0)) && ((bytesOf []).toList == (bytesOf []).toList)) = true → (0 ≤ ((IntKind.i64.wrap ((IntKind.i64.wrap (((r10.length : Nat) : Int) - ((r8.2.Device.length : Nat) : Int))) - ((r8.2.Fetched.length : Nat) : Int))) : Int)))) (.and ((((decide (((IntKind.i64.wrap ((IntKind.i64.wrap (((r10.length : Nat) : Int) - ((r8.2.Device.length : Nat) : Int))) - ((r8.2.Fetched.length : Nat) : Int))) : Int) ≥ 0)) && ((bytesOf []).toList == (bytesOf []).toList)) = true → ((Int.toNat (IntKind.i64.wrap ((IntKind.i64.wrap (((r10.length : Nat) : Int) - ((r8.2.Device.length : Nat) : Int))) - ((r8.2.Fetched.length : Nat) : Int)))) ≤ r10.length))) (.leaf 0))))))))) (by kernel_rfl) ?_
   refine sk_and (fun h => h) ?_
   refine sk_and (fun h => h) ?_
   refine sk_and (fun h => h) ?_
   refine sk_and (fun h => h) ?_
   refine sk_and (fun h => h) ?_
   refine sk_and (fun h => h) ?_
   refine gd_ h ?_; clear h; intro g44 h
   refine gd_ h ?_; clear h; intro g45 h
   refine sk_leaf ?_
   refine gsp_ h ?_ ?_ <;> clear h <;> intro c46 h
   ·refine unG_ok (g := ((decide (((IntKind.i64.wrap ((IntKind.i64.wrap (((r10.length : Nat) : Int) - ((r8.2.Device.length : Nat) : Int))) - ((r8.2.Fetched.length : Nat) : Int))) : Int) ≥ 0)) && ((bytesOf []).toList == (bytesOf []).toList))) (ws := (Y113 r10 r8.2)) (by kernel_rfl) (by kernel_rfl) c46 ⟨((by decide : ∀ y0 : Bool, ((y0 = true) → (y0 = true))) ((decide (((IntKind.i64.wrap ((IntKind.i64.wrap (((r10.length : Nat) : Int) - ((r8.2.Device.length : Nat) : Int))) - ((r8.2.Fetched.length : Nat) : Int))) : Int) ≥ 0)) && ((bytesOf []).toList == (bytesOf []).toList))) c46, trivial⟩ ?_
    have g44q := g44 c46
    have g45q := g45 c46
    obtain ⟨r47, e48, h⟩ := bd_ h
    refine call_ok (d := some 52) (fn := 11) (ax := (Y138 r10 r8.2)) (ps := (Y84 r10 r8.2.Device r8.2.Fetched)) (hb' := []) (by kernel_rfl) (tty_Type_ok _ _ e48) (by kernel_rfl) ⟨(Elem.sub_len _ (by omega)), (Elem.sub_cf _ _ (by omega)), trivial⟩ (fun _ => (by kernel_rfl)) (by simp) rfl (by kernel_rfl) ?_
    refine gdw_ok (g := ((decide (((IntKind.i64.wrap ((IntKind.i64.wrap (((r10.length : Nat) : Int) - ((r8.2.Device.length : Nat) : Int))) - ((r8.2.Fetched.length : Nat) : Int))) : Int) ≥ 0)) && ((bytesOf []).toList == (bytesOf []).toList))) (ws := (Y113 r10 r8.2)) (by kernel_rfl) ?_
    refine segs [7, 4] tabOk mixed 4000 (S := .leaf 0) (by kernel_rfl) ?_
    refine sk_leaf ?_
    refine unG_ok (g := ((decide (((IntKind.i64.wrap ((IntKind.i64.wrap (((r10.length : Nat) : Int) - ((r8.2.Device.length : Nat) : Int))) - ((r8.2.Fetched.length : Nat) : Int))) : Int) ≥ 0)) && ((bytesOf []).toList == (bytesOf []).toList))) (ws := (Y76 r10 r8.2)) (by kernel_rfl) (by kernel_rfl) c46 ⟨((by decide : ∀ y0 : Bool, ((y0 = true) → (y0 = true))) ((decide (((IntKind.i64.wrap ((IntKind.i64.wrap (((r10.length : Nat) : Int) - ((r8.2.Device.length : Nat) : Int))) - ((r8.2.Fetched.length : Nat) : Int))) : Int) ≥ 0)) && ((bytesOf []).toList == (bytesOf []).toList))) c46, ((by decide : ∀ y0 : Bool, ((y0 = true) → (y0 = true))) ((decide (((IntKind.i64.wrap ((IntKind.i64.wrap (((r10.length : Nat) : Int) - ((r8.2.Device.length : Nat) : Int))) - ((r8.2.Fetched.length : Nat) : Int))) : Int) ≥ 0)) && ((bytesOf []).toList == (bytesOf []).toList))) c46, trivial⟩ ?_
    have g44q := g44 c46
    have g45q := g45 c46
    obtain ⟨r49, e50, h⟩ := bd_ h
    refine call_ok (d := some 53) (fn := 10) (ax := [.agg (Y63 r8.2.Tty), .agg (Y63 r47)]) (ps := (Y94 r8.2.Tty r47.Lines r47.Edit)) (hb' := []) (by kernel_rfl) (ref_SameTty_ok _ _ _ e50 (al := true)) (by kernel_rfl) Y94p (fun _ => (by kernel_rfl)) (by simp) rfl (by kernel_rfl) ?_
    refine gdw_ok (g := ((decide (((IntKind.i64.wrap ((IntKind.i64.wrap (((r10.length : Nat) : Int) - ((r8.2.Device.length : Nat) : Int))) - ((r8.2.Fetched.length : Nat) : Int))) : Int) ≥ 0)) && ((bytesOf []).toList == (bytesOf []).toList))) (ws := (Y76 r10 r8.2)) (by kernel_rfl) ?_
    refine segs [7, 4] tabOk mixed 4000 (S := .and ((Y100 (Y28 r10 r8.2)) = true → (Y100 (Y28 r10 r8.2)) = true) (.leaf 0)) (by kernel_rfl) ?_
    refine sk_and (fun h => h) ?_
    refine sk_leaf ?_
    obtain rfl := some_ h
    exact end_ok [] Tryd.results6 (ps := [(((decide (((IntKind.i64.wrap ((IntKind.i64.wrap (((r10.length : Nat) : Int) - ((r8.2.Device.length : Nat) : Int))) - ((r8.2.Fetched.length : Nat) : Int))) : Int) ≥ 0)) && ((bytesOf []).toList == (bytesOf []).toList)) && r49) = (((decide (((IntKind.i64.wrap ((IntKind.i64.wrap (((r10.length : Nat) : Int) - ((r8.2.Device.length : Nat) : Int))) - ((r8.2.Fetched.length : Nat) : Int))) : Int) ≥ 0)) && ((bytesOf []).toList == (bytesOf []).toList)) && r49)]) (by kernel_rfl) ⟨rfl, trivial⟩ (fun _ => ⟨rfl, by simp⟩)
   ·refine skG_ok (g := ((decide (((IntKind.i64.wrap ((IntKind.i64.wrap (((r10.length : Nat) : Int) - ((r8.2.Device.length : Nat) : Int))) - ((r8.2.Fetched.length : Nat) : Int))) : Int) ≥ 0)) && ((bytesOf []).toList == (bytesOf []).toList))) (ws := (Y113 r10 r8.2)) (.junk) (by kernel_rfl) c46 ?_
    refine segs [7, 4] tabOk mixed 4000 (S := .leaf 0) (by kernel_rfl) ?_
    refine sk_leaf ?_
    refine skG_ok (g := ((decide (((IntKind.i64.wrap ((IntKind.i64.wrap (((r10.length : Nat) : Int) - ((r8.2.Device.length : Nat) : Int))) - ((r8.2.Fetched.length : Nat) : Int))) : Int) ≥ 0)) && ((bytesOf []).toList == (bytesOf []).toList))) (ws := (Y76 r10 r8.2)) (.pv (.raw (.bool false))) (by kernel_rfl) c46 ?_
    refine segs [7, 4] tabOk mixed 4000 (S := .and ((Y100 (Y28 r10 r8.2)) = true → (Y100 (Y28 r10 r8.2)) = true) (.leaf 0)) (by kernel_rfl) ?_
    refine sk_and (fun h => h) ?_
    refine sk_leaf ?_
    obtain rfl := some_ h
    exact end_ok [] Tryd.results6 (ps := [(((decide (((IntKind.i64.wrap ((IntKind.i64.wrap (((r10.length : Nat) : Int) - ((r8.2.Device.length : Nat) : Int))) - ((r8.2.Fetched.length : Nat) : Int))) : Int) ≥ 0)) && ((bytesOf []).toList == (bytesOf []).toList)) && false) = (((decide (((IntKind.i64.wrap ((IntKind.i64.wrap (((r10.length : Nat) : Int) - ((r8.2.Device.length : Nat) : Int))) - ((r8.2.Fetched.length : Nat) : Int))) : Int) ≥ 0)) && ((bytesOf []).toList == (bytesOf []).toList)) && false)]) (by kernel_rfl) ⟨rfl, trivial⟩ (fun _ => ⟨rfl, by simp⟩)
end Go.Proofs.YtaminiganaagiaaDoor

