/- The functions do as their models: printed by program. -/
import Derived.Test.YtmmhiggfpdjdcaaQRCW6
set_option linter.unusedSimpArgs false
set_option linter.unusedVariables false
namespace Go.Proofs.Ytmmhiggfpdjdcaa
open Go Go.Ab
attribute [local irreducible] V VS runS Sk.Holds

set_option maxHeartbeats 40000000 in
set_option maxRecDepth 100000 in
theorem keep_RunqTurns_ok (a0 : (List Int)) (a1 : Int) (a2 : Int) (r : Bool) (h : keep_RunqTurns a0 a1 a2 = some r) {al : Bool} : PCalls Try.prog 6 [.pv ((E3.ro a0)), .pv (.raw (.int .i64 a1)), .pv (.raw (.int .i64 a2))] al (.pv (.raw (.bool r))) [] := by
  unfold keep_RunqTurns at h
  refine fnZ_ok tabOk [18] Try.func6 (by as_aux_lemma => kernel_rfl) (by as_aux_lemma => kernel_rfl) Try.ntmps6 (by simp) ?_
  refine segs [] tabOk mixed 4000 (S := .leaf 0) (by as_aux_lemma => kernel_rfl) ?_
  refine sk_leaf ?_
  obtain ⟨r1, e2, h⟩ := bd_ h
  refine call_ok (d := some 16) (fn := 8) (ax := []) (args := []) (ps := []) (hb' := []) (by as_aux_lemma => kernel_rfl) (keep_alive13_ok  _ e2 (al := true)) (by as_aux_lemma => kernel_rfl) trivial (fun _ => (by as_aux_lemma => kernel_rfl)) (by simp) rfl (by as_aux_lemma => kernel_rfl) ?_
  refine segs [] tabOk mixed 4000 (S := .br (!r1) (.leaf 0) (.leaf 1)) (by as_aux_lemma => kernel_rfl) ?_
  refine br_ h ?_ ?_ <;> clear h <;> intro c3 h
  · refine sk_leaf ?_
    obtain rfl := some_ h
    exact end_ok [] Try.results6 (ps := [false = false]) (by as_aux_lemma => kernel_rfl) ⟨rfl, trivial⟩ (fun _ => ⟨rfl, by simp⟩)
  · refine sk_leaf ?_
    obtain ⟨r4, e5, h⟩ := bd_ h
    refine call_ok (d := some 19) (fn := 20) (ax := [.pv ((E3.ro a0))]) (args := [.pv ((E3.ro a0))]) (ps := [a0.length = a0.length, ∀ i, i < a0.length → ∀ j, j < 1 → E3.cf (a0.getD i E3.z) j = E3.cf (a0.getD i E3.z) j]) (hb' := []) (by as_aux_lemma => kernel_rfl) (slices_Values_int_ok _ _ e5) (by as_aux_lemma => kernel_rfl) ⟨rfl, fun _ _ _ _ => rfl, trivial⟩ (fun _ => (by as_aux_lemma => kernel_rfl)) (by simp) rfl (by as_aux_lemma => kernel_rfl) ?_
    refine segs [] tabOk mixed 4000 (S := .leaf 0) (by as_aux_lemma => kernel_rfl) ?_
    refine sk_leaf ?_
    obtain ⟨r6, e7, h⟩ := bd_ h
    refine call_ok (d := some 20) (fn := 19) (ax := [.fn 30 [.roat 1 (fun j => E25.cf a0 j)]]) (args := [.fn 30 [.roat 1 (fun j => E25.cf a0 j)]]) (ps := [a0.length = a0.length, ∀ i, i < a0.length → ∀ j, j < 1 → E3.cf (a0.getD i E3.z) j = E3.cf (a0.getD i E3.z) j]) (hb' := [.row 3 1 (E3.cR r6)]) (by as_aux_lemma => kernel_rfl) (slices_Sorted_int_ok _ _ e7 (al := false)) (by as_aux_lemma => kernel_rfl) ⟨rfl, fun _ _ _ _ => rfl, trivial⟩ (fun hx => by cases hx) (by simp) (by simp only [List.map_cons, List.map_nil, Elem.row_up, up_map] <;> rfl) (by as_aux_lemma => kernel_rfl) ?_
    refine segs [] tabOk mixed 4000 (S := .leaf 0) (by as_aux_lemma => kernel_rfl) ?_
    refine sk_leaf ?_
    obtain ⟨r8, e9, h⟩ := bd_ h
    refine mcall_ok (d := some 21) (fn := 18) (ax := [.row 17664 1 0 r6.length]) (hs := [(17728, .row 3 1 (E3.cR r8))]) (del := [17664]) (ps := [0 = 0, r6.length = r6.length, E3.cR r6 = E3.cR r6, AllPv (E3.cR r6)]) [(0, some 17664)] (by as_aux_lemma => kernel_rfl) (slices_Compact_int_h0_ok _ _ e9 (al := true)) (by as_aux_lemma => kernel_rfl) ⟨rfl, rfl, rfl, (Elem.cR_pv _ _), trivial⟩ (by as_aux_lemma => kernel_rfl) (by simp only [List.cons_append, List.nil_append, List.append_nil, rB, rA, fl, mset_row, mset_box, mset_nil, mset_map, List.set_set]; kernel_rfl) (by as_aux_lemma => kernel_rfl) ?_
    refine segs [] tabOk mixed 4000 (S := .and (((!(decide ((a1 : Int) < 0))) = true → ((!(decide ((a1 : Int) < 0))) = true))) (.and ((decide ((a1 : Int) < 0)) = false → (!(decide ((a1 : Int) < 0))) = true) (.and (((!((decide ((a1 : Int) < 0)) || (decide ((a1 : Int) ≥ 32)))) = true → ((!((decide ((a1 : Int) < 0)) || (decide ((a1 : Int) ≥ 32)))) = true))) (.and (((!((decide ((a1 : Int) < 0)) || (decide ((a1 : Int) ≥ 32)))) = true → ((!((decide ((a1 : Int) < 0)) || (decide ((a1 : Int) ≥ 32)))) = true))) (.and (((decide ((a1 : Int) < 0)) || (decide ((a1 : Int) ≥ 32))) = false → (!((decide ((a1 : Int) < 0)) || (decide ((a1 : Int) ≥ 32)))) = true) (.and (((!(((decide ((a1 : Int) < 0)) || (decide ((a1 : Int) ≥ 32))) || ((((r8.length : Nat) : Int) : Int) == 0))) = true → ((!(((decide ((a1 : Int) < 0)) || (decide ((a1 : Int) ≥ 32))) || ((((r8.length : Nat) : Int) : Int) == 0))) = true))) (.and (((!(((decide ((a1 : Int) < 0)) || (decide ((a1 : Int) ≥ 32))) || ((((r8.length : Nat) : Int) : Int) == 0))) = true → ((!(((decide ((a1 : Int) < 0)) || (decide ((a1 : Int) ≥ 32))) || ((((r8.length : Nat) : Int) : Int) == 0))) = true))) (.and ((((decide ((a1 : Int) < 0)) || (decide ((a1 : Int) ≥ 32))) || ((((r8.length : Nat) : Int) : Int) == 0)) = false → (!(((decide ((a1 : Int) < 0)) || (decide ((a1 : Int) ≥ 32))) || ((((r8.length : Nat) : Int) : Int) == 0))) = true) (.and (((!((((decide ((a1 : Int) < 0)) || (decide ((a1 : Int) ≥ 32))) || ((((r8.length : Nat) : Int) : Int) == 0)) || (decide ((((r8.length : Nat) : Int) : Int) > 20)))) = true → ((!((((decide ((a1 : Int) < 0)) || (decide ((a1 : Int) ≥ 32))) || ((((r8.length : Nat) : Int) : Int) == 0)) || (decide ((((r8.length : Nat) : Int) : Int) > 20)))) = true))) (.and (((((decide ((a1 : Int) < 0)) || (decide ((a1 : Int) ≥ 32))) || ((((r8.length : Nat) : Int) : Int) == 0)) || (decide ((((r8.length : Nat) : Int) : Int) > 20))) = false → (!((((decide ((a1 : Int) < 0)) || (decide ((a1 : Int) ≥ 32))) || ((((r8.length : Nat) : Int) : Int) == 0)) || (decide ((((r8.length : Nat) : Int) : Int) > 20)))) = true) (.and (((!(((((decide ((a1 : Int) < 0)) || (decide ((a1 : Int) ≥ 32))) || ((((r8.length : Nat) : Int) : Int) == 0)) || (decide ((((r8.length : Nat) : Int) : Int) > 20))) || (decide ((a2 : Int) < 0)))) = true → ((!(((((decide ((a1 : Int) < 0)) || (decide ((a1 : Int) ≥ 32))) || ((((r8.length : Nat) : Int) : Int) == 0)) || (decide ((((r8.length : Nat) : Int) : Int) > 20))) || (decide ((a2 : Int) < 0)))) = true))) (.and ((((((decide ((a1 : Int) < 0)) || (decide ((a1 : Int) ≥ 32))) || ((((r8.length : Nat) : Int) : Int) == 0)) || (decide ((((r8.length : Nat) : Int) : Int) > 20))) || (decide ((a2 : Int) < 0))) = false → (!(((((decide ((a1 : Int) < 0)) || (decide ((a1 : Int) ≥ 32))) || ((((r8.length : Nat) : Int) : Int) == 0)) || (decide ((((r8.length : Nat) : Int) : Int) > 20))) || (decide ((a2 : Int) < 0)))) = true) (.br ((((((decide ((a1 : Int) < 0)) || (decide ((a1 : Int) ≥ 32))) || ((((r8.length : Nat) : Int) : Int) == 0)) || (decide ((((r8.length : Nat) : Int) : Int) > 20))) || (decide ((a2 : Int) < 0))) || (decide ((a2 : Int) > 5))) (.leaf 0) (.leaf 1)))))))))))))) (by as_aux_lemma => kernel_rfl) ?_
    refine sk_and ((by decide : ∀ y0 : Bool, ((y0 = true) → (y0 = true))) (!(decide ((a1 : Int) < 0)))) ?_
    refine sk_and ((by decide : ∀ y0 : Bool, ((y0 = false) → ((!y0) = true))) (decide ((a1 : Int) < 0))) ?_
    refine sk_and ((by decide : ∀ y0 : Bool, ((y0 = true) → (y0 = true))) (!((decide ((a1 : Int) < 0)) || (decide ((a1 : Int) ≥ 32))))) ?_
    refine sk_and ((by decide : ∀ y0 : Bool, ((y0 = true) → (y0 = true))) (!((decide ((a1 : Int) < 0)) || (decide ((a1 : Int) ≥ 32))))) ?_
    refine sk_and ((by decide : ∀ y0 : Bool, ((y0 = false) → ((!y0) = true))) ((decide ((a1 : Int) < 0)) || (decide ((a1 : Int) ≥ 32)))) ?_
    refine sk_and ((by decide : ∀ y0 : Bool, ((y0 = true) → (y0 = true))) (!(((decide ((a1 : Int) < 0)) || (decide ((a1 : Int) ≥ 32))) || ((((r8.length : Nat) : Int) : Int) == 0)))) ?_
    refine sk_and ((by decide : ∀ y0 : Bool, ((y0 = true) → (y0 = true))) (!(((decide ((a1 : Int) < 0)) || (decide ((a1 : Int) ≥ 32))) || ((((r8.length : Nat) : Int) : Int) == 0)))) ?_
    refine sk_and ((by decide : ∀ y0 : Bool, ((y0 = false) → ((!y0) = true))) (((decide ((a1 : Int) < 0)) || (decide ((a1 : Int) ≥ 32))) || ((((r8.length : Nat) : Int) : Int) == 0))) ?_
    refine sk_and ((by decide : ∀ y0 : Bool, ((y0 = true) → (y0 = true))) (!((((decide ((a1 : Int) < 0)) || (decide ((a1 : Int) ≥ 32))) || ((((r8.length : Nat) : Int) : Int) == 0)) || (decide ((((r8.length : Nat) : Int) : Int) > 20))))) ?_
    refine sk_and ((by decide : ∀ y0 : Bool, ((y0 = false) → ((!y0) = true))) ((((decide ((a1 : Int) < 0)) || (decide ((a1 : Int) ≥ 32))) || ((((r8.length : Nat) : Int) : Int) == 0)) || (decide ((((r8.length : Nat) : Int) : Int) > 20)))) ?_
    refine sk_and ((by decide : ∀ y0 : Bool, ((y0 = true) → (y0 = true))) (!(((((decide ((a1 : Int) < 0)) || (decide ((a1 : Int) ≥ 32))) || ((((r8.length : Nat) : Int) : Int) == 0)) || (decide ((((r8.length : Nat) : Int) : Int) > 20))) || (decide ((a2 : Int) < 0))))) ?_
    refine sk_and ((by decide : ∀ y0 : Bool, ((y0 = false) → ((!y0) = true))) (((((decide ((a1 : Int) < 0)) || (decide ((a1 : Int) ≥ 32))) || ((((r8.length : Nat) : Int) : Int) == 0)) || (decide ((((r8.length : Nat) : Int) : Int) > 20))) || (decide ((a2 : Int) < 0)))) ?_
    refine br_ h ?_ ?_ <;> clear h <;> intro c22 h
    · refine sk_leaf ?_
      obtain rfl := some_ h
      exact end_ok [] Try.results6 (ps := [true = true]) (by as_aux_lemma => kernel_rfl) ⟨rfl, trivial⟩ (fun _ => ⟨rfl, by simp⟩)
    · refine sk_leaf ?_
      refine len_row (by as_aux_lemma => kernel_rfl) 17728 (e := 3) (s := 1) (n := r8.length) (cs := E3.cR r8) (by as_aux_lemma => kernel_rfl) (Elem.cR_length _ _) ?_; intro hl1_0
      replace h : (fun (x : Nat × List Api_RunOp × Nat) => keep_RunqTurns_l1 a1 a2 r8 x.1 x.2.1 x.2.2 = some r) (FUEL, ([] : List Api_RunOp), 0) := h
      refine loop_ok (by as_aux_lemma => kernel_rfl) (X := Nat × List Api_RunOp × Nat) (fun x => keep_RunqTurns_l1 a1 a2 r8 x.1 x.2.1 x.2.2 = some r) (fun x => x.1) (fun x => mk 95 [(0, .row 0 1 0 r8.length), (1, .pv (.raw (.int .i64 a1))), (2, .pv (.raw (.int .i64 a2))), (6, .pv (.raw (.bool false))), (7, .row 1 3 0 x.2.1.length), (46, .row 0 1 0 r8.length), (47, .pv (.raw (.int .i64 ((r8.length : Nat) : Int)))), (48, .pv (.raw (.int .i64 ((x.2.2 : Nat) : Int))))] [(0, .row 3 1 (E3.cR r8)), (1, .row 31 3 (E31.cR x.2.1))] [18]) (FUEL, ([] : List Api_RunOp), 0) h ?_ ?_
      · exact sub_ok (ρ := [(0, some 17728), (1, none)]) (l := [0 = 0, r8.length = r8.length, (a1 : Int) = a1, (a2 : Int) = a2, false = false, 0 = 0, (([] : List Api_RunOp).length) = 0, 0 = 0, r8.length = r8.length, (((r8.length : Nat) : Int) : Int) = ((r8.length : Nat) : Int), (0 : Int) = ((0 : Nat) : Int), E3.cR r8 = E3.cR r8, AllPv (E3.cR r8), E31.cR ([] : List Api_RunOp) = []]) (by as_aux_lemma => kernel_rfl) ⟨rfl, rfl, rfl, rfl, rfl, rfl, (by first | rfl | simp), rfl, rfl, rfl, (by first | rfl | simp), rfl, (Elem.cR_pv _ _), rfl, trivial⟩
      · clear h; rintro ⟨n1, l23, k24⟩ h p1 hp1
        obtain _ | n1 := n1
        · cases (show (none : Option (Bool)) = some r from h)
        have h : keep_RunqTurns_l1 a1 a2 r8 (n1 + 1) l23 k24 = some r := h
        unfold keep_RunqTurns_l1 at h
        refine segs [] tabOk mixed 4000 (S := .br (decide ((((k24 : Nat) : Int) : Int) < ((r8.length : Nat) : Int))) (.and (0 ≤ (((k24 : Nat) : Int) : Int) ∧ ((k24 : Nat) : Int) < ((r8.length : Nat) : Int)) (.leaf 0)) (.leaf 1)) (by as_aux_lemma => kernel_rfl) ?_
        refine br_ h ?_ ?_ <;> clear h <;> intro c25 h
        · refine sk_and ⟨Int.natCast_nonneg _, of_decide_eq_true c25⟩ ?_
          refine sk_leaf ?_
          refine ld_ok (d := 51) (id := 0) (i := (0 + k24)) (j := 0) (e := 3) (n := 1) E3 (xs := r8) (by as_aux_lemma => kernel_rfl) (by as_aux_lemma => kernel_rfl) (by first | omega | (simp at * <;> omega) | (simp_all <;> omega)) (by exact Nat.le_of_ble_eq_true rfl) ?_
          refine segs [] tabOk mixed 4000 (S := .leaf 0) (by as_aux_lemma => kernel_rfl) ?_
          refine sk_leaf ?_
          refine bs_ok (d := 56) (e := 31) (s := 3) (n := 1) (cs := [.pv (.raw (.int .i64 1)), .pv (.raw (.int .i64 (r8.getD (0 + k24) 0))), .pv (.raw (.int .i64 a1))]) (cs' := E31.cR [(⟨1, (r8.getD (0 + k24) 0), a1⟩ : Api_RunOp)]) (by as_aux_lemma => kernel_rfl) rfl (by as_aux_lemma => kernel_rfl) ?_
          refine segs [] tabOk mixed 4000 (S := .leaf 0) (by as_aux_lemma => kernel_rfl) ?_
          refine sk_leaf ?_
          obtain ⟨g27, h⟩ := if_ h
          refine app_ok (d := 57) (e := 31) (s := 3) (b := 24) (x := .row 1 3 0 l23.length) (y := .row 19968 3 0 1) E31 (xs := l23) (ys := [(⟨1, (r8.getD (0 + k24) 0), a1⟩ : Api_RunOp)]) (by as_aux_lemma => kernel_rfl) rfl (.row 1 l23 l23.length rfl (by as_aux_lemma => kernel_rfl)) (.all 19968 31 [(⟨1, (r8.getD (0 + k24) 0), a1⟩ : Api_RunOp)] 1 rfl (by as_aux_lemma => kernel_rfl)) g27 (by as_aux_lemma => kernel_rfl) ?_
          refine segs [] tabOk mixed 4000 (S := .leaf 0) (by as_aux_lemma => kernel_rfl) ?_
          refine sk_leaf ?_
          refine back_ok (p := p1) (by as_aux_lemma => kernel_rfl) (hp1 (n1, (l23 ++ [(⟨1, (r8.getD (0 + k24) 0), a1⟩ : Api_RunOp)]), k24 + 1) _ h (Nat.lt_succ_self n1) ?_)
          exact sub_ok (ρ := [(0, some 0), (1, some 20032)]) (l := [0 = 0, r8.length = r8.length, (a1 : Int) = a1, (a2 : Int) = a2, false = false, 0 = 0, ((l23 ++ [(⟨1, (r8.getD (0 + k24) 0), a1⟩ : Api_RunOp)]).length) = ((l23 ++ [(⟨1, (r8.getD (0 + k24) 0), a1⟩ : Api_RunOp)]).length), 0 = 0, r8.length = r8.length, (((r8.length : Nat) : Int) : Int) = ((r8.length : Nat) : Int), ((IntKind.i64.wrap (((k24 : Nat) : Int) + 1)) : Int) = (((k24 + 1) : Nat) : Int), E3.cR r8 = E3.cR r8, AllPv (E3.cR r8), E31.cR (l23 ++ [(⟨1, (r8.getD (0 + k24) 0), a1⟩ : Api_RunOp)]) = E31.cR (l23 ++ [(⟨1, (r8.getD (0 + k24) 0), a1⟩ : Api_RunOp)]), AllPv (E31.cR (l23 ++ [(⟨1, (r8.getD (0 + k24) 0), a1⟩ : Api_RunOp)]))]) (by as_aux_lemma => kernel_rfl) ⟨rfl, rfl, rfl, rfl, rfl, rfl, rfl, rfl, rfl, rfl, (wrap_nat (Int.ofNat_lt.1 (of_decide_eq_true c25)) (by omega)), rfl, (Elem.cR_pv _ _), rfl, (Elem.cR_pv _ _), trivial⟩
        · refine sk_leaf ?_
          refine len_row (by as_aux_lemma => kernel_rfl) 1 (e := 31) (s := 3) (n := l23.length) (cs := E31.cR l23) (by as_aux_lemma => kernel_rfl) (Elem.cR_length _ _) ?_; intro hl2_0
          refine len_row (by as_aux_lemma => kernel_rfl) 0 (e := 3) (s := 1) (n := r8.length) (cs := E3.cR r8) (by as_aux_lemma => kernel_rfl) (Elem.cR_length _ _) ?_; intro hl2_1
          replace h : (fun (x : Nat × List Int × Int × List Api_RunOp) => keep_RunqTurns_l2 a1 a2 r8 l23 x.1 x.2.1 x.2.2.1 x.2.2.2 = some r) (FUEL, ([] : List Int), 0, l23) := h
          refine loop_ok (by as_aux_lemma => kernel_rfl) (X := Nat × List Int × Int × List Api_RunOp) (fun x => keep_RunqTurns_l2 a1 a2 r8 l23 x.1 x.2.1 x.2.2.1 x.2.2.2 = some r) (fun x => x.1) (fun x => mk 95 [(0, .row 0 1 0 r8.length), (1, .pv (.raw (.int .i64 a1))), (6, .pv (.raw (.bool false))), (7, .row 1 3 0 x.2.2.2.length), (10, .row 2 1 0 x.2.1.length), (59, .pv (.raw (.int .i64 a2))), (60, .pv (.raw (.int .i64 x.2.2.1)))] [(0, .row 3 1 (E3.cR r8)), (1, .row 31 3 (E31.cR x.2.2.2)), (2, .row 3 1 (E3.cR x.2.1))] [18]) (FUEL, ([] : List Int), 0, l23) h ?_ ?_
          · exact sub_ok (ρ := [(0, some 0), (1, some 1), (2, none)]) (l := [0 = 0, r8.length = r8.length, (a1 : Int) = a1, false = false, 0 = 0, l23.length = l23.length, 0 = 0, (([] : List Int).length) = 0, (a2 : Int) = a2, (0 : Int) = 0, E3.cR r8 = E3.cR r8, AllPv (E3.cR r8), E31.cR l23 = E31.cR l23, AllPv (E31.cR l23), E3.cR ([] : List Int) = []]) (by as_aux_lemma => kernel_rfl) ⟨rfl, rfl, rfl, rfl, rfl, rfl, rfl, (by first | rfl | simp), rfl, rfl, rfl, (Elem.cR_pv _ _), rfl, (Elem.cR_pv _ _), rfl, trivial⟩
          · clear h; rintro ⟨n2, l28, x29, l30⟩ h p2 hp2
            obtain _ | n2 := n2
            · cases (show (none : Option (Bool)) = some r from h)
            have h : keep_RunqTurns_l2 a1 a2 r8 l23 (n2 + 1) l28 x29 l30 = some r := h
            unfold keep_RunqTurns_l2 at h
            refine segs [] tabOk mixed 4000 (S := .br (decide ((x29 : Int) < a2)) (.leaf 0) (.leaf 1)) (by as_aux_lemma => kernel_rfl) ?_
            refine br_ h ?_ ?_ <;> clear h <;> intro c31 h
            · refine sk_leaf ?_
              refine len_row (by as_aux_lemma => kernel_rfl) 2 (e := 3) (s := 1) (n := l28.length) (cs := E3.cR l28) (by as_aux_lemma => kernel_rfl) (Elem.cR_length _ _) ?_; intro hl3_0
              refine len_row (by as_aux_lemma => kernel_rfl) 0 (e := 3) (s := 1) (n := r8.length) (cs := E3.cR r8) (by as_aux_lemma => kernel_rfl) (Elem.cR_length _ _) ?_; intro hl3_1
              refine len_row (by as_aux_lemma => kernel_rfl) 1 (e := 31) (s := 3) (n := l30.length) (cs := E31.cR l30) (by as_aux_lemma => kernel_rfl) (Elem.cR_length _ _) ?_; intro hl3_2
              obtain ⟨K3_0, hK3_0, h⟩ : ∃ (K3_0 : (List Api_RunOp) → (List Int) → Nat → Option (Bool)), K3_0 = (fun (l32 : List Api_RunOp) (l33 : List Int) (k34 : Nat) => keep_RunqTurns_l2 a1 a2 r8 l23 n2 l33 (IntKind.i64.wrap (x29 + 1)) l32 ) ∧ keep_RunqTurns_l3 a1 r8 l28 l30 K3_0 FUEL l30 l28 0 = some r := ⟨_, rfl, h⟩
              replace h : (fun (x : Nat × List Api_RunOp × List Int × Nat) => keep_RunqTurns_l3 a1 r8 l28 l30 K3_0 x.1 x.2.1 x.2.2.1 x.2.2.2 = some r) (FUEL, l30, l28, 0) := h
              refine loop_ok (by as_aux_lemma => kernel_rfl) (X := Nat × List Api_RunOp × List Int × Nat) (fun x => keep_RunqTurns_l3 a1 r8 l28 l30 K3_0 x.1 x.2.1 x.2.2.1 x.2.2.2 = some r) (fun x => x.1) (fun x => mk 95 [(0, .row 0 1 0 r8.length), (1, .pv (.raw (.int .i64 a1))), (6, .pv (.raw (.bool false))), (7, .row 1 3 0 x.2.1.length), (10, .row 2 1 0 x.2.2.1.length), (59, .pv (.raw (.int .i64 a2))), (60, .pv (.raw (.int .i64 x29))), (62, .row 0 1 0 r8.length), (63, .pv (.raw (.int .i64 ((r8.length : Nat) : Int)))), (64, .pv (.raw (.int .i64 ((x.2.2.2 : Nat) : Int))))] [(0, .row 3 1 (E3.cR r8)), (1, .row 31 3 (E31.cR x.2.1)), (2, .row 3 1 (E3.cR x.2.2.1))] [18]) (FUEL, l30, l28, 0) h ?_ ?_
              · exact sub_ok (ρ := (rI 0 0 3)) (l := [0 = 0, r8.length = r8.length, (a1 : Int) = a1, false = false, 0 = 0, l30.length = l30.length, 0 = 0, l28.length = l28.length, (a2 : Int) = a2, (x29 : Int) = x29, 0 = 0, r8.length = r8.length, (((r8.length : Nat) : Int) : Int) = ((r8.length : Nat) : Int), (0 : Int) = ((0 : Nat) : Int), E3.cR r8 = E3.cR r8, AllPv (E3.cR r8), E31.cR l30 = E31.cR l30, AllPv (E31.cR l30), E3.cR l28 = E3.cR l28, AllPv (E3.cR l28)]) (by as_aux_lemma => kernel_rfl) ⟨rfl, rfl, rfl, rfl, rfl, rfl, rfl, rfl, rfl, rfl, rfl, rfl, rfl, (by first | rfl | simp), rfl, (Elem.cR_pv _ _), rfl, (Elem.cR_pv _ _), rfl, (Elem.cR_pv _ _), trivial⟩
              · clear h; rintro ⟨n3, l32, l33, k34⟩ h p3 hp3
                obtain _ | n3 := n3
                · cases (show (none : Option (Bool)) = some r from h)
                have h : keep_RunqTurns_l3 a1 r8 l28 l30 K3_0 (n3 + 1) l32 l33 k34 = some r := h
                unfold keep_RunqTurns_l3 at h
                refine segs [] tabOk mixed 4000 (S := .br (decide ((((k34 : Nat) : Int) : Int) < ((r8.length : Nat) : Int))) (.and (0 ≤ (((k34 : Nat) : Int) : Int) ∧ ((k34 : Nat) : Int) < ((r8.length : Nat) : Int)) (.leaf 0)) (.leaf 1)) (by as_aux_lemma => kernel_rfl) ?_
                refine br_ h ?_ ?_ <;> clear h <;> intro c35 h
                · refine sk_and ⟨Int.natCast_nonneg _, of_decide_eq_true c35⟩ ?_
                  refine sk_leaf ?_
                  refine ld_ok (d := 67) (id := 0) (i := (0 + k34)) (j := 0) (e := 3) (n := 1) E3 (xs := r8) (by as_aux_lemma => kernel_rfl) (by as_aux_lemma => kernel_rfl) (by first | omega | (simp at * <;> omega) | (simp_all <;> omega)) (by exact Nat.le_of_ble_eq_true rfl) ?_
                  refine segs [] tabOk mixed 4000 (S := .leaf 0) (by as_aux_lemma => kernel_rfl) ?_
                  refine sk_leaf ?_
                  refine bs_ok (d := 73) (e := 31) (s := 3) (n := 2) (cs := [.pv (.raw (.int .i64 3)), .pv (.raw (.int .i64 0)), .pv (.raw (.int .i64 0)), .pv (.raw (.int .i64 1)), .pv (.raw (.int .i64 (r8.getD (0 + k34) 0))), .pv (.raw (.int .i64 a1))]) (cs' := E31.cR [(⟨3, 0, 0⟩ : Api_RunOp), (⟨1, (r8.getD (0 + k34) 0), a1⟩ : Api_RunOp)]) (by as_aux_lemma => kernel_rfl) rfl (by as_aux_lemma => kernel_rfl) ?_
                  refine segs [] tabOk mixed 4000 (S := .leaf 0) (by as_aux_lemma => kernel_rfl) ?_
                  refine sk_leaf ?_
                  obtain ⟨g37, h⟩ := if_ h
                  refine app_ok (d := 74) (e := 31) (s := 3) (b := 24) (x := .row 1 3 0 l32.length) (y := .row 21056 3 0 2) E31 (xs := l32) (ys := [(⟨3, 0, 0⟩ : Api_RunOp), (⟨1, (r8.getD (0 + k34) 0), a1⟩ : Api_RunOp)]) (by as_aux_lemma => kernel_rfl) rfl (.row 1 l32 l32.length rfl (by as_aux_lemma => kernel_rfl)) (.all 21056 31 [(⟨3, 0, 0⟩ : Api_RunOp), (⟨1, (r8.getD (0 + k34) 0), a1⟩ : Api_RunOp)] 2 rfl (by as_aux_lemma => kernel_rfl)) g37 (by as_aux_lemma => kernel_rfl) ?_
                  refine segs [] tabOk mixed 4000 (S := .leaf 0) (by as_aux_lemma => kernel_rfl) ?_
                  refine sk_leaf ?_
                  refine bs_ok (d := 77) (e := 3) (s := 1) (n := 1) (cs := [.pv (.raw (.int .i64 (r8.getD (0 + k34) 0)))]) (cs' := E3.cR [(r8.getD (0 + k34) 0)]) (by as_aux_lemma => kernel_rfl) rfl (by as_aux_lemma => kernel_rfl) ?_
                  refine segs [] tabOk mixed 4000 (S := .leaf 0) (by as_aux_lemma => kernel_rfl) ?_
                  refine sk_leaf ?_
                  obtain ⟨g38, h⟩ := if_ h
                  refine app_ok (d := 78) (e := 3) (s := 1) (b := 8) (x := .row 2 1 0 l33.length) (y := .row 21312 1 0 1) E3 (xs := l33) (ys := [(r8.getD (0 + k34) 0)]) (by as_aux_lemma => kernel_rfl) rfl (.row 2 l33 l33.length rfl (by as_aux_lemma => kernel_rfl)) (.all 21312 3 [(r8.getD (0 + k34) 0)] 1 rfl (by as_aux_lemma => kernel_rfl)) g38 (by as_aux_lemma => kernel_rfl) ?_
                  refine segs [] tabOk mixed 4000 (S := .leaf 0) (by as_aux_lemma => kernel_rfl) ?_
                  refine sk_leaf ?_
                  refine back_ok (p := p3) (by as_aux_lemma => kernel_rfl) (hp3 (n3, (l32 ++ [(⟨3, 0, 0⟩ : Api_RunOp), (⟨1, (r8.getD (0 + k34) 0), a1⟩ : Api_RunOp)]), (l33 ++ [(r8.getD (0 + k34) 0)]), k34 + 1) _ h (Nat.lt_succ_self n3) ?_)
                  exact sub_ok (ρ := [(0, some 0), (1, some 21120), (2, some 21376)]) (l := [0 = 0, r8.length = r8.length, (a1 : Int) = a1, false = false, 0 = 0, ((l32 ++ [(⟨3, 0, 0⟩ : Api_RunOp), (⟨1, (r8.getD (0 + k34) 0), a1⟩ : Api_RunOp)]).length) = ((l32 ++ [(⟨3, 0, 0⟩ : Api_RunOp), (⟨1, (r8.getD (0 + k34) 0), a1⟩ : Api_RunOp)]).length), 0 = 0, ((l33 ++ [(r8.getD (0 + k34) 0)]).length) = ((l33 ++ [(r8.getD (0 + k34) 0)]).length), (a2 : Int) = a2, (x29 : Int) = x29, 0 = 0, r8.length = r8.length, (((r8.length : Nat) : Int) : Int) = ((r8.length : Nat) : Int), ((IntKind.i64.wrap (((k34 : Nat) : Int) + 1)) : Int) = (((k34 + 1) : Nat) : Int), E3.cR r8 = E3.cR r8, AllPv (E3.cR r8), E31.cR (l32 ++ [(⟨3, 0, 0⟩ : Api_RunOp), (⟨1, (r8.getD (0 + k34) 0), a1⟩ : Api_RunOp)]) = E31.cR (l32 ++ [(⟨3, 0, 0⟩ : Api_RunOp), (⟨1, (r8.getD (0 + k34) 0), a1⟩ : Api_RunOp)]), AllPv (E31.cR (l32 ++ [(⟨3, 0, 0⟩ : Api_RunOp), (⟨1, (r8.getD (0 + k34) 0), a1⟩ : Api_RunOp)])), E3.cR (l33 ++ [(r8.getD (0 + k34) 0)]) = E3.cR (l33 ++ [(r8.getD (0 + k34) 0)]), AllPv (E3.cR (l33 ++ [(r8.getD (0 + k34) 0)]))]) (by as_aux_lemma => kernel_rfl) ⟨rfl, rfl, rfl, rfl, rfl, rfl, rfl, rfl, rfl, rfl, rfl, rfl, rfl, (wrap_nat (Int.ofNat_lt.1 (of_decide_eq_true c35)) (by omega)), rfl, (Elem.cR_pv _ _), rfl, (Elem.cR_pv _ _), rfl, (Elem.cR_pv _ _), trivial⟩
                · replace h := (congrFun (congrFun (congrFun hK3_0 l32) l33) k34).symm.trans h
                  refine sk_leaf ?_
                  refine back_ok (p := p2) (by as_aux_lemma => kernel_rfl) (hp2 (n2, l33, (IntKind.i64.wrap (x29 + 1)), l32) _ h (Nat.lt_succ_self n2) ?_)
                  exact sub_ok (ρ := (rI 0 0 3)) (l := [0 = 0, r8.length = r8.length, (a1 : Int) = a1, false = false, 0 = 0, l32.length = l32.length, 0 = 0, l33.length = l33.length, (a2 : Int) = a2, ((IntKind.i64.wrap (x29 + 1)) : Int) = (IntKind.i64.wrap (x29 + 1)), E3.cR r8 = E3.cR r8, AllPv (E3.cR r8), E31.cR l32 = E31.cR l32, AllPv (E31.cR l32), E3.cR l33 = E3.cR l33, AllPv (E3.cR l33)]) (by as_aux_lemma => kernel_rfl) ⟨rfl, rfl, rfl, rfl, rfl, rfl, rfl, rfl, rfl, rfl, rfl, (Elem.cR_pv _ _), rfl, (Elem.cR_pv _ _), rfl, (Elem.cR_pv _ _), trivial⟩
            · refine sk_leaf ?_
              obtain ⟨r39, e40, h⟩ := bd_ h
              refine call_ok (d := some 83) (fn := 9) (ax := [.row 1 3 0 l30.length]) (args := [.pv ((E31.ro l30))]) (ps := [l30.length = l30.length, rowQ (E31.cR l30) 3 0 l30.length (fun i j => E31.cf (l30.getD i E31.z) j)]) (hb' := [.row 36 1 (E36.cR r39.1), .row 3 1 (E3.cR r39.2.1), .row 3 1 (E3.cR r39.2.2)]) (by as_aux_lemma => kernel_rfl) (runq_Play_ok _ _ e40 (al := false)) (by as_aux_lemma => kernel_rfl) ⟨(by first | rfl | exact Elem.sub_len _ (by omega) | omega | simp | (simp <;> omega)), E31.rowQ_all l30 rfl, trivial⟩ (fun hx => by cases hx) (by simp) (by simp only [List.map_cons, List.map_nil, Elem.row_up, up_map] <;> rfl) (by as_aux_lemma => kernel_rfl) ?_
              refine segs [] tabOk mixed 4000 (S := .leaf 0) (by as_aux_lemma => kernel_rfl) ?_
              refine sk_leaf ?_
              obtain ⟨r41, e42, h⟩ := bd_ h
              refine call_ok (d := some 89) (fn := 12) (ax := [.row 21697 1 0 r39.2.1.length, .row 2 1 0 l28.length]) (args := [.pv ((E3.ro r39.2.1)), .pv ((E3.ro l28))]) (ps := [r39.2.1.length = r39.2.1.length, rowQ (E3.cR r39.2.1) 1 0 r39.2.1.length (fun i j => E3.cf (r39.2.1.getD i E3.z) j), l28.length = l28.length, rowQ (E3.cR l28) 1 0 l28.length (fun i j => E3.cf (l28.getD i E3.z) j)]) (hb' := []) (by as_aux_lemma => kernel_rfl) (slices_Equal_int_ok _ _ _ e42 (al := false)) (by as_aux_lemma => kernel_rfl) ⟨(by first | rfl | exact Elem.sub_len _ (by omega) | omega | simp | (simp <;> omega)), E3.rowQ_all r39.2.1 rfl, (by first | rfl | exact Elem.sub_len _ (by omega) | omega | simp | (simp <;> omega)), E3.rowQ_all l28 rfl, trivial⟩ (fun hx => by cases hx) (by simp) rfl (by as_aux_lemma => kernel_rfl) ?_
              refine segs [] tabOk mixed 4000 (S := .leaf 0) (by as_aux_lemma => kernel_rfl) ?_
              refine sk_leaf ?_
              refine gsp_ h ?_ ?_ <;> clear h <;> intro c43 h
              · refine unG_ok (g := r41) (ws := [r41 = true, r41 = true]) (by as_aux_lemma => kernel_rfl) (by as_aux_lemma => kernel_rfl) c43 ⟨((by decide : ∀ y0 : Bool, ((y0 = true) → (y0 = true))) r41) c43, ((by decide : ∀ y0 : Bool, ((y0 = true) → (y0 = true))) r41) c43, trivial⟩ ?_
                obtain ⟨r44, e45, h⟩ := bd_ h
                refine call_ok (d := some 93) (fn := 12) (ax := [.row 21698 1 0 r39.2.2.length, .row 0 1 0 r8.length]) (args := [.pv ((E3.ro r39.2.2)), .pv ((E3.ro r8))]) (ps := [r39.2.2.length = r39.2.2.length, rowQ (E3.cR r39.2.2) 1 0 r39.2.2.length (fun i j => E3.cf (r39.2.2.getD i E3.z) j), r8.length = r8.length, rowQ (E3.cR r8) 1 0 r8.length (fun i j => E3.cf (r8.getD i E3.z) j)]) (hb' := []) (by as_aux_lemma => kernel_rfl) (slices_Equal_int_ok _ _ _ e45 (al := false)) (by as_aux_lemma => kernel_rfl) ⟨(by first | rfl | exact Elem.sub_len _ (by omega) | omega | simp | (simp <;> omega)), E3.rowQ_all r39.2.2 rfl, (by first | rfl | exact Elem.sub_len _ (by omega) | omega | simp | (simp <;> omega)), E3.rowQ_all r8 rfl, trivial⟩ (fun hx => by cases hx) (by simp) rfl (by as_aux_lemma => kernel_rfl) ?_
                refine gdw_ok (g := r41) (ws := [r41 = true, r41 = true]) (by as_aux_lemma => kernel_rfl) ?_
                refine segs [] tabOk mixed 4000 (S := .and (r41 = true → r41 = true) (.leaf 0)) (by as_aux_lemma => kernel_rfl) ?_
                refine sk_and ((by decide : ∀ y0 : Bool, ((y0 = true) → (y0 = true))) r41) ?_
                refine sk_leaf ?_
                obtain rfl := some_ h
                exact end_ok [] Try.results6 (ps := [(r41 && r44) = (r41 && r44)]) (by as_aux_lemma => kernel_rfl) ⟨rfl, trivial⟩ (fun _ => ⟨rfl, by simp⟩)
              · refine skG_ok (g := r41) (ws := [r41 = true, r41 = true]) (.pv (.raw (.bool false))) (by as_aux_lemma => kernel_rfl) c43 ?_
                refine segs [] tabOk mixed 4000 (S := .and (r41 = true → r41 = true) (.leaf 0)) (by as_aux_lemma => kernel_rfl) ?_
                refine sk_and ((by decide : ∀ y0 : Bool, ((y0 = true) → (y0 = true))) r41) ?_
                refine sk_leaf ?_
                obtain rfl := some_ h
                exact end_ok [] Try.results6 (ps := [(r41 && false) = (r41 && false)]) (by as_aux_lemma => kernel_rfl) ⟨rfl, trivial⟩ (fun _ => ⟨rfl, by simp⟩)

end Go.Proofs.Ytmmhiggfpdjdcaa
