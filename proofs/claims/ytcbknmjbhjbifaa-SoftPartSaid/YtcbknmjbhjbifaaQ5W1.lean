/- The functions do as their models: printed by program. -/
import Derived.Test.YtcbknmjbhjbifaaQ5W0
set_option linter.unusedSimpArgs false
set_option linter.unusedVariables false
namespace Go.Proofs.Ytcbknmjbhjbifaa
open Go Go.Ab
attribute [local irreducible] V VS runS Sk.Holds

set_option maxHeartbeats 40000000 in
set_option maxRecDepth 100000 in
theorem slices_Index_int_ok (a0 : (List Int)) (a1 : Int) (r : Int) (h : slices_Index_int a0 a1 = some r) {al : Bool} : PCalls Try.prog 39 [.pv ((E3.ro a0)), .pv (.raw (.int .i64 a1))] al (.pv (.raw (.int .i64 r))) [] := by
  unfold slices_Index_int at h
  refine fn_ok tabOk Try.func39 (by as_aux_lemma => kernel_rfl) (by as_aux_lemma => kernel_rfl) Try.ntmps39 (by simp) ?_
  refine segs [] tabOk mixed 4000 (S := .leaf 0) (by as_aux_lemma => kernel_rfl) ?_
  refine sk_leaf ?_
  refine len_ro (by as_aux_lemma => kernel_rfl) 0 (s := 1) (n := a0.length) (c := fun i j => E3.cf (a0.getD i E3.z) j) (by as_aux_lemma => kernel_rfl) ?_; intro hl1_0
  replace h : (fun (x : Nat × Nat) => slices_Index_int_l1 a0 a1 x.1 x.2 = some r) (FUEL, 0) := h
  refine loop_ok (by as_aux_lemma => kernel_rfl) (X := Nat × Nat) (fun x => slices_Index_int_l1 a0 a1 x.1 x.2 = some r) (fun x => x.1) (fun x => mk 19 [(0, .pv ((E3.ro a0))), (1, .pv (.raw (.int .i64 a1))), (4, .pv (.raw (.int .i64 0))), (7, .pv (.raw (.int .i64 ((a0.length : Nat) : Int)))), (8, .pv (.raw (.int .i64 ((x.2 : Nat) : Int))))] []) (FUEL, 0) h ?_ ?_
  · exact sub_ok (ρ := []) (l := [a0.length = a0.length, ∀ i, i < a0.length → ∀ j, j < 1 → E3.cf (a0.getD i E3.z) j = E3.cf (a0.getD i E3.z) j, (a1 : Int) = a1, (0 : Int) = 0, (((a0.length : Nat) : Int) : Int) = ((a0.length : Nat) : Int), (0 : Int) = ((0 : Nat) : Int)]) (by as_aux_lemma => kernel_rfl) ⟨rfl, fun _ _ _ _ => rfl, rfl, rfl, rfl, (by first | rfl | simp), trivial⟩
  · clear h; rintro ⟨n1, k1⟩ h p1 hp1
    obtain _ | n1 := n1
    · cases (show (none : Option (Int)) = some r from h)
    have h : slices_Index_int_l1 a0 a1 (n1 + 1) k1 = some r := h
    unfold slices_Index_int_l1 at h
    refine segs [] tabOk mixed 4000 (S := .br (decide ((((k1 : Nat) : Int) : Int) < ((a0.length : Nat) : Int))) (.and (0 ≤ (((k1 : Nat) : Int) : Int) ∧ ((k1 : Nat) : Int) < ((a0.length : Nat) : Int)) (.br ((a1 : Int) == (a0.getD k1 0)) (.leaf 0) (.leaf 1))) (.leaf 2)) (by as_aux_lemma => kernel_rfl) ?_
    refine br_ h ?_ ?_ <;> clear h <;> intro c2 h
    · refine sk_and ⟨Int.natCast_nonneg _, of_decide_eq_true c2⟩ ?_
      refine br_ h ?_ ?_ <;> clear h <;> intro c4 h
      · refine sk_leaf ?_
        obtain rfl := some_ h
        exact end_ok [] Try.results39 (ps := [(((k1 : Nat) : Int) : Int) = ((k1 : Nat) : Int)]) (by as_aux_lemma => kernel_rfl) ⟨rfl, trivial⟩ (fun _ => ⟨rfl, by simp⟩)
      · refine sk_leaf ?_
        refine back_ok (p := p1) (by as_aux_lemma => kernel_rfl) (hp1 (n1, k1 + 1) _ h (Nat.lt_succ_self n1) ?_)
        exact sub_ok (ρ := []) (l := [a0.length = a0.length, ∀ i, i < a0.length → ∀ j, j < 1 → E3.cf (a0.getD i E3.z) j = E3.cf (a0.getD i E3.z) j, (a1 : Int) = a1, (0 : Int) = 0, (((a0.length : Nat) : Int) : Int) = ((a0.length : Nat) : Int), ((IntKind.i64.wrap (((k1 : Nat) : Int) + 1)) : Int) = (((k1 + 1) : Nat) : Int)]) (by as_aux_lemma => kernel_rfl) ⟨rfl, fun _ _ _ _ => rfl, rfl, rfl, rfl, (wrap_nat (Int.ofNat_lt.1 (of_decide_eq_true c2)) (by omega)), trivial⟩
    · refine sk_leaf ?_
      obtain rfl := some_ h
      exact end_ok [] Try.results39 (ps := [((-1) : Int) = (-1)]) (by as_aux_lemma => kernel_rfl) ⟨rfl, trivial⟩ (fun _ => ⟨rfl, by simp⟩)

set_option maxHeartbeats 40000000 in
set_option maxRecDepth 100000 in
theorem slices_Contains_int_ok (a0 : (List Int)) (a1 : Int) (r : Bool) (h : slices_Contains_int a0 a1 = some r) {al : Bool} : PCalls Try.prog 20 [.pv ((E3.ro a0)), .pv (.raw (.int .i64 a1))] al (.pv (.raw (.bool r))) [] := by
  unfold slices_Contains_int at h
  refine fn_ok tabOk Try.func20 (by as_aux_lemma => kernel_rfl) (by as_aux_lemma => kernel_rfl) Try.ntmps20 (by simp) ?_
  refine segs [] tabOk mixed 4000 (S := .leaf 0) (by as_aux_lemma => kernel_rfl) ?_
  refine sk_leaf ?_
  obtain ⟨r1, e2, h⟩ := bd_ h
  refine call_ok (d := some 7) (fn := 39) (ax := [.pv ((E3.ro a0)), .pv (.raw (.int .i64 a1))]) (args := [.pv ((E3.ro a0)), .pv (.raw (.int .i64 a1))]) (ps := [a0.length = a0.length, ∀ i, i < a0.length → ∀ j, j < 1 → E3.cf (a0.getD i E3.z) j = E3.cf (a0.getD i E3.z) j, (a1 : Int) = a1]) (hb' := []) (by as_aux_lemma => kernel_rfl) (slices_Index_int_ok _ _ _ e2 (al := true)) (by as_aux_lemma => kernel_rfl) ⟨rfl, fun _ _ _ _ => rfl, rfl, trivial⟩ (fun _ => (by as_aux_lemma => kernel_rfl)) (by simp) rfl (by as_aux_lemma => kernel_rfl) ?_
  refine segs [] tabOk mixed 4000 (S := .leaf 0) (by as_aux_lemma => kernel_rfl) ?_
  refine sk_leaf ?_
  obtain rfl := some_ h
  exact end_ok [] Try.results20 (ps := [(decide ((r1 : Int) ≥ 0)) = (decide ((r1 : Int) ≥ 0))]) (by as_aux_lemma => kernel_rfl) ⟨rfl, trivial⟩ (fun _ => ⟨rfl, by simp⟩)

set_option maxHeartbeats 40000000 in
set_option maxRecDepth 100000 in
theorem keep_SoftAll_ok (a0 : (List Int)) (a1 : (List Api_Raise)) (a2 : Int) (r : Bool) (h : keep_SoftAll a0 a1 a2 = some r) {al : Bool} : PCalls Try.prog 5 [.pv ((E3.ro a0)), .pv ((E41.ro a1)), .pv (.raw (.int .i64 a2))] al (.pv (.raw (.bool r))) [] := by
  unfold keep_SoftAll at h
  refine fn_ok tabOk Try.func5 (by as_aux_lemma => kernel_rfl) (by as_aux_lemma => kernel_rfl) Try.ntmps5 (by simp) ?_
  refine segs [] tabOk mixed 4000 (S := .leaf 0) (by as_aux_lemma => kernel_rfl) ?_
  refine sk_leaf ?_
  obtain ⟨r1, e2, h⟩ := bd_ h
  refine call_ok (d := some 16) (fn := 18) (ax := []) (args := []) (ps := []) (hb' := []) (by as_aux_lemma => kernel_rfl) (keep_alive10_ok  _ e2 (al := true)) (by as_aux_lemma => kernel_rfl) trivial (fun _ => (by as_aux_lemma => kernel_rfl)) (by simp) rfl (by as_aux_lemma => kernel_rfl) ?_
  refine segs [] tabOk mixed 4000 (S := .br (!r1) (.leaf 0) (.leaf 1)) (by as_aux_lemma => kernel_rfl) ?_
  refine br_ h ?_ ?_ <;> clear h <;> intro c3 h
  · refine sk_leaf ?_
    obtain rfl := some_ h
    exact end_ok [] Try.results5 (ps := [false = false]) (by as_aux_lemma => kernel_rfl) ⟨rfl, trivial⟩ (fun _ => ⟨rfl, by simp⟩)
  · refine sk_leaf ?_
    obtain ⟨r4, e5, h⟩ := bd_ h
    refine call_ok (d := some 22) (fn := 19) (ax := [.pv ((E3.ro a0)), .pv ((E41.ro a1)), .pv (.raw (.int .i64 a2))]) (args := [.pv ((E3.ro a0)), .pv ((E41.ro a1)), .pv (.raw (.int .i64 a2))]) (ps := [a0.length = a0.length, ∀ i, i < a0.length → ∀ j, j < 1 → E3.cf (a0.getD i E3.z) j = E3.cf (a0.getD i E3.z) j, a1.length = a1.length, ∀ i, i < a1.length → ∀ j, j < 2 → E41.cf (a1.getD i E41.z) j = E41.cf (a1.getD i E41.z) j, (a2 : Int) = a2]) (hb' := [.row 3 1 (E3.cR r4.1)]) (by as_aux_lemma => kernel_rfl) (soft_Run_ok _ _ _ _ e5 (al := true)) (by as_aux_lemma => kernel_rfl) ⟨rfl, fun _ _ _ _ => rfl, rfl, fun _ _ _ _ => rfl, rfl, trivial⟩ (fun _ => (by as_aux_lemma => kernel_rfl)) (by simp) (by simp only [List.map_cons, List.map_nil, Elem.row_up]) (by as_aux_lemma => kernel_rfl) ?_
    refine segs [] tabOk mixed 4000 (S := .br ((r4.2.2 : Int) != 0) (.and ((((((r4.1.length : Nat) : Int) : Int) == 0) = true → (((((r4.1.length : Nat) : Int) : Int) == 0) = true))) (.and (((((r4.1.length : Nat) : Int) : Int) == 0) = true → ((((r4.1.length : Nat) : Int) : Int) == 0) = true) (.leaf 0))) (.leaf 1)) (by as_aux_lemma => kernel_rfl) ?_
    refine br_ h ?_ ?_ <;> clear h <;> intro c6 h
    · refine sk_and ((by decide : ∀ y0 : Bool, ((y0 = true) → (y0 = true))) ((((r4.1.length : Nat) : Int) : Int) == 0)) ?_
      refine sk_and ((by decide : ∀ y0 : Bool, ((y0 = true) → (y0 = true))) ((((r4.1.length : Nat) : Int) : Int) == 0)) ?_
      refine sk_leaf ?_
      obtain rfl := some_ h
      exact end_ok [] Try.results5 (ps := [(((((r4.1.length : Nat) : Int) : Int) == 0) && ((r4.2.1 : Int) == 0)) = (((((r4.1.length : Nat) : Int) : Int) == 0) && ((r4.2.1 : Int) == 0))]) (by as_aux_lemma => kernel_rfl) ⟨rfl, trivial⟩ (fun _ => ⟨rfl, by simp⟩)
    · refine sk_leaf ?_
      refine len_ro (by as_aux_lemma => kernel_rfl) 0 (s := 1) (n := a0.length) (c := fun i j => E3.cf (a0.getD i E3.z) j) (by as_aux_lemma => kernel_rfl) ?_; intro hl1_0
      refine len_ro (by as_aux_lemma => kernel_rfl) 1 (s := 2) (n := a1.length) (c := fun i j => E41.cf (a1.getD i E41.z) j) (by as_aux_lemma => kernel_rfl) ?_; intro hl1_1
      refine len_row (by as_aux_lemma => kernel_rfl) 16736 (e := 3) (s := 1) (n := r4.1.length) (cs := E3.cR r4.1) (by as_aux_lemma => kernel_rfl) (Elem.cR_length _ _) ?_; intro hl1_2
      replace h : (fun (x : Nat × Nat) => keep_SoftAll_l1 a0 a1 r4 x.1 x.2 = some r) (FUEL, 0) := h
      refine loop_ok (by as_aux_lemma => kernel_rfl) (X := Nat × Nat) (fun x => keep_SoftAll_l1 a0 a1 r4 x.1 x.2 = some r) (fun x => x.1) (fun x => mk 109 [(0, .pv ((E3.ro a0))), (1, .pv ((E41.ro a1))), (6, .pv (.raw (.bool false))), (7, .row 0 1 0 r4.1.length), (8, .pv (.raw (.int .i64 r4.2.1))), (35, .pv (.raw (.int .i64 ((x.2 : Nat) : Int))))] [(0, .row 3 1 (E3.cR r4.1))]) (FUEL, 0) h ?_ ?_
      · exact sub_ok (ρ := [(0, some 16736)]) (l := [a0.length = a0.length, ∀ i, i < a0.length → ∀ j, j < 1 → E3.cf (a0.getD i E3.z) j = E3.cf (a0.getD i E3.z) j, a1.length = a1.length, ∀ i, i < a1.length → ∀ j, j < 2 → E41.cf (a1.getD i E41.z) j = E41.cf (a1.getD i E41.z) j, false = false, 0 = 0, r4.1.length = r4.1.length, (r4.2.1 : Int) = r4.2.1, (0 : Int) = ((0 : Nat) : Int), E3.cR r4.1 = E3.cR r4.1, AllPv (E3.cR r4.1)]) (by as_aux_lemma => kernel_rfl) ⟨rfl, fun _ _ _ _ => rfl, rfl, fun _ _ _ _ => rfl, rfl, rfl, rfl, rfl, (by first | rfl | simp), rfl, (Elem.cR_pv _ _), trivial⟩
      · clear h; rintro ⟨n1, k9⟩ h p1 hp1
        obtain _ | n1 := n1
        · cases (show (none : Option (Bool)) = some r from h)
        have h : keep_SoftAll_l1 a0 a1 r4 (n1 + 1) k9 = some r := h
        unfold keep_SoftAll_l1 at h
        refine segs [] tabOk mixed 4000 (S := .br (decide ((((k9 : Nat) : Int) : Int) < 8)) (.leaf 0) (.and (((decide ((r4.2.1 : Int) ≥ 0)) = true → ((decide ((r4.2.1 : Int) ≥ 0)) = true))) (.and (((decide ((r4.2.1 : Int) ≥ 0)) = true → ((decide ((r4.2.1 : Int) ≥ 0)) = true))) (.and (((decide ((r4.2.1 : Int) ≥ 0)) = true → ((decide ((r4.2.1 : Int) ≥ 0)) = true))) (.and ((decide ((r4.2.1 : Int) ≥ 0)) = true → (decide ((r4.2.1 : Int) ≥ 0)) = true) (.leaf 1)))))) (by as_aux_lemma => kernel_rfl) ?_
        refine br_ h ?_ ?_ <;> clear h <;> intro c10 h
        · refine sk_leaf ?_
          obtain ⟨r11, e12, h⟩ := bd_ h
          refine call_ok (d := some 40) (fn := 20) (ax := [.pv ((E3.ro a0)), .pv (.raw (.int .i64 ((k9 : Nat) : Int)))]) (args := [.pv ((E3.ro a0)), .pv (.raw (.int .i64 ((k9 : Nat) : Int)))]) (ps := [a0.length = a0.length, ∀ i, i < a0.length → ∀ j, j < 1 → E3.cf (a0.getD i E3.z) j = E3.cf (a0.getD i E3.z) j, (((k9 : Nat) : Int) : Int) = ((k9 : Nat) : Int)]) (hb' := []) (by as_aux_lemma => kernel_rfl) (slices_Contains_int_ok _ _ _ e12 (al := true)) (by as_aux_lemma => kernel_rfl) ⟨rfl, fun _ _ _ _ => rfl, rfl, trivial⟩ (fun _ => (by as_aux_lemma => kernel_rfl)) (by simp) rfl (by as_aux_lemma => kernel_rfl) ?_
          refine segs [] tabOk mixed 4000 (S := .br r11 (.leaf 0) (.leaf 1)) (by as_aux_lemma => kernel_rfl) ?_
          refine br_ h ?_ ?_ <;> clear h <;> intro c13 h
          · refine sk_leaf ?_
            obtain ⟨r14, e15, h⟩ := bd_ h
            refine call_ok (d := some 45) (fn := 20) (ax := [.row 0 1 0 r4.1.length, .pv (.raw (.int .i64 ((k9 : Nat) : Int)))]) (args := [.pv ((E3.ro r4.1)), .pv (.raw (.int .i64 ((k9 : Nat) : Int)))]) (ps := [r4.1.length = r4.1.length, rowQ (E3.cR r4.1) 1 0 r4.1.length (fun i j => E3.cf (r4.1.getD i E3.z) j), (((k9 : Nat) : Int) : Int) = ((k9 : Nat) : Int)]) (hb' := []) (by as_aux_lemma => kernel_rfl) (slices_Contains_int_ok _ _ _ e15 (al := false)) (by as_aux_lemma => kernel_rfl) ⟨(by first | rfl | exact Elem.sub_len _ (by omega) | simp | (simp; omega)), E3.rowQ_all r4.1 rfl, rfl, trivial⟩ (fun hx => by cases hx) (by simp) rfl (by as_aux_lemma => kernel_rfl) ?_
            refine segs [] tabOk mixed 4000 (S := .br (!r14) (.leaf 0) (.leaf 1)) (by as_aux_lemma => kernel_rfl) ?_
            refine br_ h ?_ ?_ <;> clear h <;> intro c16 h
            · refine sk_leaf ?_
              obtain rfl := some_ h
              exact end_ok [] Try.results5 (ps := [false = false]) (by as_aux_lemma => kernel_rfl) ⟨rfl, trivial⟩ (fun _ => ⟨rfl, by simp⟩)
            · refine sk_leaf ?_
              refine len_ro (by as_aux_lemma => kernel_rfl) 0 (s := 1) (n := a0.length) (c := fun i j => E3.cf (a0.getD i E3.z) j) (by as_aux_lemma => kernel_rfl) ?_; intro hl2_0
              refine len_ro (by as_aux_lemma => kernel_rfl) 1 (s := 2) (n := a1.length) (c := fun i j => E41.cf (a1.getD i E41.z) j) (by as_aux_lemma => kernel_rfl) ?_; intro hl2_1
              refine len_ro (by as_aux_lemma => kernel_rfl) 47 (s := 2) (n := a1.length) (c := fun i j => E41.cf (a1.getD i E41.z) j) (by as_aux_lemma => kernel_rfl) ?_; intro hl2_2
              refine len_row (by as_aux_lemma => kernel_rfl) 0 (e := 3) (s := 1) (n := r4.1.length) (cs := E3.cR r4.1) (by as_aux_lemma => kernel_rfl) (Elem.cR_length _ _) ?_; intro hl2_3
              obtain ⟨K2_0, hK2_0, h⟩ : ∃ (K2_0 : Int → Nat → Option (Bool)), K2_0 = (fun (x17 : Int) (k18 : Nat) => keep_SoftAll_l3 r4 k9 x17 (fun (x42 : Int) (k43 : Nat) => bif (decide ((x42 : Int) < 0)) then some false else keep_SoftAll_l1 a0 a1 r4 n1 (k9 + 1) ) FUEL x17 0 ) ∧ keep_SoftAll_l2 a1 r4 k9 K2_0 FUEL (IntKind.i64.wrap (0 + 1)) 0 = some r := ⟨_, rfl, h⟩
              replace h : (fun (x : Nat × Int × Nat) => keep_SoftAll_l2 a1 r4 k9 K2_0 x.1 x.2.1 x.2.2 = some r) (FUEL, (IntKind.i64.wrap (0 + 1)), 0) := h
              refine loop_ok (by as_aux_lemma => kernel_rfl) (X := Nat × Int × Nat) (fun x => keep_SoftAll_l2 a1 r4 k9 K2_0 x.1 x.2.1 x.2.2 = some r) (fun x => x.1) (fun x => mk 109 [(0, .pv ((E3.ro a0))), (1, .pv ((E41.ro a1))), (6, .pv (.raw (.bool false))), (7, .row 0 1 0 r4.1.length), (8, .pv (.raw (.int .i64 r4.2.1))), (10, .pv (.raw (.int .i64 ((k9 : Nat) : Int)))), (11, .pv (.raw (.int .i64 x.2.1))), (35, .pv (.raw (.int .i64 ((k9 : Nat) : Int)))), (47, .pv ((E41.ro a1))), (48, .pv (.raw (.int .i64 ((a1.length : Nat) : Int)))), (49, .pv (.raw (.int .i64 ((x.2.2 : Nat) : Int))))] [(0, .row 3 1 (E3.cR r4.1))]) (FUEL, (IntKind.i64.wrap (0 + 1)), 0) h ?_ ?_
              · exact sub_ok (ρ := [(0, some 0)]) (l := [a0.length = a0.length, ∀ i, i < a0.length → ∀ j, j < 1 → E3.cf (a0.getD i E3.z) j = E3.cf (a0.getD i E3.z) j, a1.length = a1.length, ∀ i, i < a1.length → ∀ j, j < 2 → E41.cf (a1.getD i E41.z) j = E41.cf (a1.getD i E41.z) j, false = false, 0 = 0, r4.1.length = r4.1.length, (r4.2.1 : Int) = r4.2.1, (((k9 : Nat) : Int) : Int) = ((k9 : Nat) : Int), ((IntKind.i64.wrap (0 + 1)) : Int) = (IntKind.i64.wrap (0 + 1)), (((k9 : Nat) : Int) : Int) = ((k9 : Nat) : Int), a1.length = a1.length, ∀ i, i < a1.length → ∀ j, j < 2 → E41.cf (a1.getD i E41.z) j = E41.cf (a1.getD i E41.z) j, (((a1.length : Nat) : Int) : Int) = ((a1.length : Nat) : Int), (0 : Int) = ((0 : Nat) : Int), E3.cR r4.1 = E3.cR r4.1, AllPv (E3.cR r4.1)]) (by as_aux_lemma => kernel_rfl) ⟨rfl, fun _ _ _ _ => rfl, rfl, fun _ _ _ _ => rfl, rfl, rfl, rfl, rfl, rfl, rfl, rfl, rfl, fun _ _ _ _ => rfl, rfl, (by first | rfl | simp), rfl, (Elem.cR_pv _ _), trivial⟩
              · clear h; rintro ⟨n2, x17, k18⟩ h p2 hp2
                obtain _ | n2 := n2
                · cases (show (none : Option (Bool)) = some r from h)
                have h : keep_SoftAll_l2 a1 r4 k9 K2_0 (n2 + 1) x17 k18 = some r := h
                unfold keep_SoftAll_l2 at h
                refine segs [] tabOk mixed 4000 (S := .br (decide ((((k18 : Nat) : Int) : Int) < ((a1.length : Nat) : Int))) (.and (0 ≤ (((k18 : Nat) : Int) : Int) ∧ ((k18 : Nat) : Int) < ((a1.length : Nat) : Int)) (.and (((((a1.getD k18 (⟨0, 0⟩ : Api_Raise)).Soft : Int) == ((k9 : Nat) : Int)) = true → ((((a1.getD k18 (⟨0, 0⟩ : Api_Raise)).Soft : Int) == ((k9 : Nat) : Int)) = true))) (.and (((((a1.getD k18 (⟨0, 0⟩ : Api_Raise)).Soft : Int) == ((k9 : Nat) : Int)) = true → ((((a1.getD k18 (⟨0, 0⟩ : Api_Raise)).Soft : Int) == ((k9 : Nat) : Int)) = true))) (.and (((((a1.getD k18 (⟨0, 0⟩ : Api_Raise)).Soft : Int) == ((k9 : Nat) : Int)) = true → ((((a1.getD k18 (⟨0, 0⟩ : Api_Raise)).Soft : Int) == ((k9 : Nat) : Int)) = true))) (.and (((((a1.getD k18 (⟨0, 0⟩ : Api_Raise)).Soft : Int) == ((k9 : Nat) : Int)) = true → ((((a1.getD k18 (⟨0, 0⟩ : Api_Raise)).Soft : Int) == ((k9 : Nat) : Int)) = true))) (.and ((((a1.getD k18 (⟨0, 0⟩ : Api_Raise)).Soft : Int) == ((k9 : Nat) : Int)) = true → (((a1.getD k18 (⟨0, 0⟩ : Api_Raise)).Soft : Int) == ((k9 : Nat) : Int)) = true) (.br ((((a1.getD k18 (⟨0, 0⟩ : Api_Raise)).Soft : Int) == ((k9 : Nat) : Int)) && (decide (((a1.getD k18 (⟨0, 0⟩ : Api_Raise)).When : Int) ≤ ((r4.1.length : Nat) : Int)))) (.and (((decide (((a1.getD k18 (⟨0, 0⟩ : Api_Raise)).When : Int) > 0)) = true → ((decide (((a1.getD k18 (⟨0, 0⟩ : Api_Raise)).When : Int) > 0)) = true))) (.and (((decide (((a1.getD k18 (⟨0, 0⟩ : Api_Raise)).When : Int) > 0)) = true → ((decide (((a1.getD k18 (⟨0, 0⟩ : Api_Raise)).When : Int) > 0)) = true))) (.and (((decide (((a1.getD k18 (⟨0, 0⟩ : Api_Raise)).When : Int) > 0)) = true → ((decide (((a1.getD k18 (⟨0, 0⟩ : Api_Raise)).When : Int) > 0)) = true))) (.and (((decide (((a1.getD k18 (⟨0, 0⟩ : Api_Raise)).When : Int) > 0)) = true → ((decide (((a1.getD k18 (⟨0, 0⟩ : Api_Raise)).When : Int) > 0)) = true))) (.and ((decide (((a1.getD k18 (⟨0, 0⟩ : Api_Raise)).When : Int) > 0)) = true → (decide (((a1.getD k18 (⟨0, 0⟩ : Api_Raise)).When : Int) > 0)) = true) (.and ((((decide (((a1.getD k18 (⟨0, 0⟩ : Api_Raise)).When : Int) > 0)) && (decide (((a1.getD k18 (⟨0, 0⟩ : Api_Raise)).When : Int) < ((r4.1.length : Nat) : Int)))) = true → (((decide (((a1.getD k18 (⟨0, 0⟩ : Api_Raise)).When : Int) > 0)) && (decide (((a1.getD k18 (⟨0, 0⟩ : Api_Raise)).When : Int) < ((r4.1.length : Nat) : Int)))) = true))) (.and ((((decide (((a1.getD k18 (⟨0, 0⟩ : Api_Raise)).When : Int) > 0)) && (decide (((a1.getD k18 (⟨0, 0⟩ : Api_Raise)).When : Int) < ((r4.1.length : Nat) : Int)))) = true → (((decide (((a1.getD k18 (⟨0, 0⟩ : Api_Raise)).When : Int) > 0)) && (decide (((a1.getD k18 (⟨0, 0⟩ : Api_Raise)).When : Int) < ((r4.1.length : Nat) : Int)))) = true))) (.and ((((decide (((a1.getD k18 (⟨0, 0⟩ : Api_Raise)).When : Int) > 0)) && (decide (((a1.getD k18 (⟨0, 0⟩ : Api_Raise)).When : Int) < ((r4.1.length : Nat) : Int)))) = true → (((decide (((a1.getD k18 (⟨0, 0⟩ : Api_Raise)).When : Int) > 0)) && (decide (((a1.getD k18 (⟨0, 0⟩ : Api_Raise)).When : Int) < ((r4.1.length : Nat) : Int)))) = true))) (.and ((((decide (((a1.getD k18 (⟨0, 0⟩ : Api_Raise)).When : Int) > 0)) && (decide (((a1.getD k18 (⟨0, 0⟩ : Api_Raise)).When : Int) < ((r4.1.length : Nat) : Int)))) = true → (0 ≤ ((a1.getD k18 (⟨0, 0⟩ : Api_Raise)).When : Int)))) (.and ((((decide (((a1.getD k18 (⟨0, 0⟩ : Api_Raise)).When : Int) > 0)) && (decide (((a1.getD k18 (⟨0, 0⟩ : Api_Raise)).When : Int) < ((r4.1.length : Nat) : Int)))) = true → ((Int.toNat ((a1.getD k18 (⟨0, 0⟩ : Api_Raise)).When)) ≤ r4.1.length))) (.leaf 0))))))))))) (.leaf 1)))))))) (.leaf 2)) (by as_aux_lemma => kernel_rfl) ?_
                refine br_ h ?_ ?_ <;> clear h <;> intro c19 h
                · refine sk_and ⟨Int.natCast_nonneg _, of_decide_eq_true c19⟩ ?_
                  refine sk_and ((by decide : ∀ y0 : Bool, ((y0 = true) → (y0 = true))) (((a1.getD k18 (⟨0, 0⟩ : Api_Raise)).Soft : Int) == ((k9 : Nat) : Int))) ?_
                  refine sk_and ((by decide : ∀ y0 : Bool, ((y0 = true) → (y0 = true))) (((a1.getD k18 (⟨0, 0⟩ : Api_Raise)).Soft : Int) == ((k9 : Nat) : Int))) ?_
                  refine sk_and ((by decide : ∀ y0 : Bool, ((y0 = true) → (y0 = true))) (((a1.getD k18 (⟨0, 0⟩ : Api_Raise)).Soft : Int) == ((k9 : Nat) : Int))) ?_
                  refine sk_and ((by decide : ∀ y0 : Bool, ((y0 = true) → (y0 = true))) (((a1.getD k18 (⟨0, 0⟩ : Api_Raise)).Soft : Int) == ((k9 : Nat) : Int))) ?_
                  refine sk_and ((by decide : ∀ y0 : Bool, ((y0 = true) → (y0 = true))) (((a1.getD k18 (⟨0, 0⟩ : Api_Raise)).Soft : Int) == ((k9 : Nat) : Int))) ?_
                  refine br_ h ?_ ?_ <;> clear h <;> intro c26 h
                  · refine sk_and ((by decide : ∀ y0 : Bool, ((y0 = true) → (y0 = true))) (decide (((a1.getD k18 (⟨0, 0⟩ : Api_Raise)).When : Int) > 0))) ?_
                    refine sk_and ((by decide : ∀ y0 : Bool, ((y0 = true) → (y0 = true))) (decide (((a1.getD k18 (⟨0, 0⟩ : Api_Raise)).When : Int) > 0))) ?_
                    refine sk_and ((by decide : ∀ y0 : Bool, ((y0 = true) → (y0 = true))) (decide (((a1.getD k18 (⟨0, 0⟩ : Api_Raise)).When : Int) > 0))) ?_
                    refine sk_and ((by decide : ∀ y0 : Bool, ((y0 = true) → (y0 = true))) (decide (((a1.getD k18 (⟨0, 0⟩ : Api_Raise)).When : Int) > 0))) ?_
                    refine sk_and ((by decide : ∀ y0 : Bool, ((y0 = true) → (y0 = true))) (decide (((a1.getD k18 (⟨0, 0⟩ : Api_Raise)).When : Int) > 0))) ?_
                    refine sk_and ((by decide : ∀ y0 y1 : Bool, (((y0 && y1) = true) → ((y0 && y1) = true))) (decide (((a1.getD k18 (⟨0, 0⟩ : Api_Raise)).When : Int) > 0)) (decide (((a1.getD k18 (⟨0, 0⟩ : Api_Raise)).When : Int) < ((r4.1.length : Nat) : Int)))) ?_
                    refine sk_and ((by decide : ∀ y0 y1 : Bool, (((y0 && y1) = true) → ((y0 && y1) = true))) (decide (((a1.getD k18 (⟨0, 0⟩ : Api_Raise)).When : Int) > 0)) (decide (((a1.getD k18 (⟨0, 0⟩ : Api_Raise)).When : Int) < ((r4.1.length : Nat) : Int)))) ?_
                    refine sk_and ((by decide : ∀ y0 y1 : Bool, (((y0 && y1) = true) → ((y0 && y1) = true))) (decide (((a1.getD k18 (⟨0, 0⟩ : Api_Raise)).When : Int) > 0)) (decide (((a1.getD k18 (⟨0, 0⟩ : Api_Raise)).When : Int) < ((r4.1.length : Nat) : Int)))) ?_
                    refine gd_ h ?_; clear h; intro g35 h
                    refine gd_ h ?_; clear h; intro g36 h
                    refine sk_leaf ?_
                    obtain ⟨r37, e38, h⟩ := bd_ h
                    refine callG_ok (d := some 82) (fn := 20) (ax := [.row 0 1 (0 + (Int.toNat ((a1.getD k18 (⟨0, 0⟩ : Api_Raise)).When))) (r4.1.length - (Int.toNat ((a1.getD k18 (⟨0, 0⟩ : Api_Raise)).When))), .pv (.raw (.int .i64 ((k9 : Nat) : Int)))]) (args := [.pv ((E3.ro ((r4.1.drop (0 + (Int.toNat ((a1.getD k18 (⟨0, 0⟩ : Api_Raise)).When)))).take (r4.1.length - (Int.toNat ((a1.getD k18 (⟨0, 0⟩ : Api_Raise)).When)))))), .pv (.raw (.int .i64 ((k9 : Nat) : Int)))]) (g := ((decide (((a1.getD k18 (⟨0, 0⟩ : Api_Raise)).When : Int) > 0)) && (decide (((a1.getD k18 (⟨0, 0⟩ : Api_Raise)).When : Int) < ((r4.1.length : Nat) : Int))))) (ws := [((decide (((a1.getD k18 (⟨0, 0⟩ : Api_Raise)).When : Int) > 0)) && (decide (((a1.getD k18 (⟨0, 0⟩ : Api_Raise)).When : Int) < ((r4.1.length : Nat) : Int)))) = true, ((decide (((a1.getD k18 (⟨0, 0⟩ : Api_Raise)).When : Int) > 0)) && (decide (((a1.getD k18 (⟨0, 0⟩ : Api_Raise)).When : Int) < ((r4.1.length : Nat) : Int)))) = true]) (ps := [(r4.1.length - (Int.toNat ((a1.getD k18 (⟨0, 0⟩ : Api_Raise)).When))) = ((r4.1.drop (0 + (Int.toNat ((a1.getD k18 (⟨0, 0⟩ : Api_Raise)).When)))).take (r4.1.length - (Int.toNat ((a1.getD k18 (⟨0, 0⟩ : Api_Raise)).When)))).length, rowQ (E3.cR r4.1) 1 (0 + (Int.toNat ((a1.getD k18 (⟨0, 0⟩ : Api_Raise)).When))) (r4.1.length - (Int.toNat ((a1.getD k18 (⟨0, 0⟩ : Api_Raise)).When))) (fun i j => E3.cf (((r4.1.drop (0 + (Int.toNat ((a1.getD k18 (⟨0, 0⟩ : Api_Raise)).When)))).take (r4.1.length - (Int.toNat ((a1.getD k18 (⟨0, 0⟩ : Api_Raise)).When)))).getD i E3.z) j), (((k9 : Nat) : Int) : Int) = ((k9 : Nat) : Int)]) (by as_aux_lemma => kernel_rfl) (fun hg => ⟨((by decide : ∀ y0 y1 : Bool, (((y0 && y1) = true) → ((y0 && y1) = true))) (decide (((a1.getD k18 (⟨0, 0⟩ : Api_Raise)).When : Int) > 0)) (decide (((a1.getD k18 (⟨0, 0⟩ : Api_Raise)).When : Int) < ((r4.1.length : Nat) : Int)))) hg, ((by decide : ∀ y0 y1 : Bool, (((y0 && y1) = true) → ((y0 && y1) = true))) (decide (((a1.getD k18 (⟨0, 0⟩ : Api_Raise)).When : Int) > 0)) (decide (((a1.getD k18 (⟨0, 0⟩ : Api_Raise)).When : Int) < ((r4.1.length : Nat) : Int)))) hg, trivial⟩) (fun hg => slices_Contains_int_ok _ _ _ (by rw [hg] at e38; exact e38) (al := false)) (by as_aux_lemma => kernel_rfl) (fun hg => (by have q0 := g35 hg; have q1 := g36 hg; exact ⟨(by first | rfl | exact Elem.sub_len _ (by omega) | simp | (simp; omega)), E3.rowQ_part r4.1 (0 + (Int.toNat ((a1.getD k18 (⟨0, 0⟩ : Api_Raise)).When))) (r4.1.length - (Int.toNat ((a1.getD k18 (⟨0, 0⟩ : Api_Raise)).When))) (by first | omega | (simp at *; omega)), rfl, trivial⟩)) (fun hx => by cases hx) ?_
                    refine segs [] tabOk mixed 4000 (S := .and ((((decide (((a1.getD k18 (⟨0, 0⟩ : Api_Raise)).When : Int) > 0)) && (decide (((a1.getD k18 (⟨0, 0⟩ : Api_Raise)).When : Int) < ((r4.1.length : Nat) : Int)))) = true → (((decide (((a1.getD k18 (⟨0, 0⟩ : Api_Raise)).When : Int) > 0)) && (decide (((a1.getD k18 (⟨0, 0⟩ : Api_Raise)).When : Int) < ((r4.1.length : Nat) : Int)))) = true))) (.and (((decide (((a1.getD k18 (⟨0, 0⟩ : Api_Raise)).When : Int) > 0)) && (decide (((a1.getD k18 (⟨0, 0⟩ : Api_Raise)).When : Int) < ((r4.1.length : Nat) : Int)))) = true → ((decide (((a1.getD k18 (⟨0, 0⟩ : Api_Raise)).When : Int) > 0)) && (decide (((a1.getD k18 (⟨0, 0⟩ : Api_Raise)).When : Int) < ((r4.1.length : Nat) : Int)))) = true) (.br (((decide (((a1.getD k18 (⟨0, 0⟩ : Api_Raise)).When : Int) > 0)) && (decide (((a1.getD k18 (⟨0, 0⟩ : Api_Raise)).When : Int) < ((r4.1.length : Nat) : Int)))) && (!r37)) (.leaf 0) (.leaf 1)))) (by as_aux_lemma => kernel_rfl) ?_
                    refine sk_and ((by decide : ∀ y0 y1 : Bool, (((y0 && y1) = true) → ((y0 && y1) = true))) (decide (((a1.getD k18 (⟨0, 0⟩ : Api_Raise)).When : Int) > 0)) (decide (((a1.getD k18 (⟨0, 0⟩ : Api_Raise)).When : Int) < ((r4.1.length : Nat) : Int)))) ?_
                    refine sk_and ((by decide : ∀ y0 y1 : Bool, (((y0 && y1) = true) → ((y0 && y1) = true))) (decide (((a1.getD k18 (⟨0, 0⟩ : Api_Raise)).When : Int) > 0)) (decide (((a1.getD k18 (⟨0, 0⟩ : Api_Raise)).When : Int) < ((r4.1.length : Nat) : Int)))) ?_
                    refine br_ h ?_ ?_ <;> clear h <;> intro c41 h
                    · refine sk_leaf ?_
                      obtain rfl := some_ h
                      exact end_ok [] Try.results5 (ps := [false = false]) (by as_aux_lemma => kernel_rfl) ⟨rfl, trivial⟩ (fun _ => ⟨rfl, by simp⟩)
                    · refine sk_leaf ?_
                      refine back_ok (p := p2) (by as_aux_lemma => kernel_rfl) (hp2 (n2, (IntKind.i64.wrap (x17 + 1)), k18 + 1) _ h (Nat.lt_succ_self n2) ?_)
                      exact sub_ok (ρ := [(0, some 0)]) (l := [a0.length = a0.length, ∀ i, i < a0.length → ∀ j, j < 1 → E3.cf (a0.getD i E3.z) j = E3.cf (a0.getD i E3.z) j, a1.length = a1.length, ∀ i, i < a1.length → ∀ j, j < 2 → E41.cf (a1.getD i E41.z) j = E41.cf (a1.getD i E41.z) j, false = false, 0 = 0, r4.1.length = r4.1.length, (r4.2.1 : Int) = r4.2.1, (((k9 : Nat) : Int) : Int) = ((k9 : Nat) : Int), ((IntKind.i64.wrap (x17 + 1)) : Int) = (IntKind.i64.wrap (x17 + 1)), (((k9 : Nat) : Int) : Int) = ((k9 : Nat) : Int), a1.length = a1.length, ∀ i, i < a1.length → ∀ j, j < 2 → E41.cf (a1.getD i E41.z) j = E41.cf (a1.getD i E41.z) j, (((a1.length : Nat) : Int) : Int) = ((a1.length : Nat) : Int), ((IntKind.i64.wrap (((k18 : Nat) : Int) + 1)) : Int) = (((k18 + 1) : Nat) : Int), E3.cR r4.1 = E3.cR r4.1, AllPv (E3.cR r4.1)]) (by as_aux_lemma => kernel_rfl) ⟨rfl, fun _ _ _ _ => rfl, rfl, fun _ _ _ _ => rfl, rfl, rfl, rfl, rfl, rfl, rfl, rfl, rfl, fun _ _ _ _ => rfl, rfl, (wrap_nat (Int.ofNat_lt.1 (of_decide_eq_true c19)) (by omega)), rfl, (Elem.cR_pv _ _), trivial⟩
                  · refine sk_leaf ?_
                    refine back_ok (p := p2) (by as_aux_lemma => kernel_rfl) (hp2 (n2, x17, k18 + 1) _ h (Nat.lt_succ_self n2) ?_)
                    exact sub_ok (ρ := [(0, some 0)]) (l := [a0.length = a0.length, ∀ i, i < a0.length → ∀ j, j < 1 → E3.cf (a0.getD i E3.z) j = E3.cf (a0.getD i E3.z) j, a1.length = a1.length, ∀ i, i < a1.length → ∀ j, j < 2 → E41.cf (a1.getD i E41.z) j = E41.cf (a1.getD i E41.z) j, false = false, 0 = 0, r4.1.length = r4.1.length, (r4.2.1 : Int) = r4.2.1, (((k9 : Nat) : Int) : Int) = ((k9 : Nat) : Int), (x17 : Int) = x17, (((k9 : Nat) : Int) : Int) = ((k9 : Nat) : Int), a1.length = a1.length, ∀ i, i < a1.length → ∀ j, j < 2 → E41.cf (a1.getD i E41.z) j = E41.cf (a1.getD i E41.z) j, (((a1.length : Nat) : Int) : Int) = ((a1.length : Nat) : Int), ((IntKind.i64.wrap (((k18 : Nat) : Int) + 1)) : Int) = (((k18 + 1) : Nat) : Int), E3.cR r4.1 = E3.cR r4.1, AllPv (E3.cR r4.1)]) (by as_aux_lemma => kernel_rfl) ⟨rfl, fun _ _ _ _ => rfl, rfl, fun _ _ _ _ => rfl, rfl, rfl, rfl, rfl, rfl, rfl, rfl, rfl, fun _ _ _ _ => rfl, rfl, (wrap_nat (Int.ofNat_lt.1 (of_decide_eq_true c19)) (by omega)), rfl, (Elem.cR_pv _ _), trivial⟩
                · replace h := (congrFun (congrFun hK2_0 x17) k18).symm.trans h
                  refine sk_leaf ?_
                  refine len_ro (by as_aux_lemma => kernel_rfl) 0 (s := 1) (n := a0.length) (c := fun i j => E3.cf (a0.getD i E3.z) j) (by as_aux_lemma => kernel_rfl) ?_; intro hl3_0
                  refine len_ro (by as_aux_lemma => kernel_rfl) 1 (s := 2) (n := a1.length) (c := fun i j => E41.cf (a1.getD i E41.z) j) (by as_aux_lemma => kernel_rfl) ?_; intro hl3_1
                  refine len_row (by as_aux_lemma => kernel_rfl) 0 (e := 3) (s := 1) (n := r4.1.length) (cs := E3.cR r4.1) (by as_aux_lemma => kernel_rfl) (Elem.cR_length _ _) ?_; intro hl3_2
                  obtain ⟨K3_0, hK3_0, h⟩ : ∃ (K3_0 : Int → Nat → Option (Bool)), K3_0 = (fun (x42 : Int) (k43 : Nat) => bif (decide ((x42 : Int) < 0)) then some false else keep_SoftAll_l1 a0 a1 r4 n1 (k9 + 1) ) ∧ keep_SoftAll_l3 r4 k9 x17 K3_0 FUEL x17 0 = some r := ⟨_, rfl, h⟩
                  replace h : (fun (x : Nat × Int × Nat) => keep_SoftAll_l3 r4 k9 x17 K3_0 x.1 x.2.1 x.2.2 = some r) (FUEL, x17, 0) := h
                  refine loop_ok (by as_aux_lemma => kernel_rfl) (X := Nat × Int × Nat) (fun x => keep_SoftAll_l3 r4 k9 x17 K3_0 x.1 x.2.1 x.2.2 = some r) (fun x => x.1) (fun x => mk 109 [(0, .pv ((E3.ro a0))), (1, .pv ((E41.ro a1))), (6, .pv (.raw (.bool false))), (7, .row 0 1 0 r4.1.length), (8, .pv (.raw (.int .i64 r4.2.1))), (10, .pv (.raw (.int .i64 ((k9 : Nat) : Int)))), (11, .pv (.raw (.int .i64 x.2.1))), (35, .pv (.raw (.int .i64 ((k9 : Nat) : Int)))), (86, .row 0 1 0 r4.1.length), (87, .pv (.raw (.int .i64 ((r4.1.length : Nat) : Int)))), (88, .pv (.raw (.int .i64 ((x.2.2 : Nat) : Int))))] [(0, .row 3 1 (E3.cR r4.1))]) (FUEL, x17, 0) h ?_ ?_
                  · exact sub_ok (ρ := [(0, some 0)]) (l := [a0.length = a0.length, ∀ i, i < a0.length → ∀ j, j < 1 → E3.cf (a0.getD i E3.z) j = E3.cf (a0.getD i E3.z) j, a1.length = a1.length, ∀ i, i < a1.length → ∀ j, j < 2 → E41.cf (a1.getD i E41.z) j = E41.cf (a1.getD i E41.z) j, false = false, 0 = 0, r4.1.length = r4.1.length, (r4.2.1 : Int) = r4.2.1, (((k9 : Nat) : Int) : Int) = ((k9 : Nat) : Int), (x17 : Int) = x17, (((k9 : Nat) : Int) : Int) = ((k9 : Nat) : Int), 0 = 0, r4.1.length = r4.1.length, (((r4.1.length : Nat) : Int) : Int) = ((r4.1.length : Nat) : Int), (0 : Int) = ((0 : Nat) : Int), E3.cR r4.1 = E3.cR r4.1, AllPv (E3.cR r4.1)]) (by as_aux_lemma => kernel_rfl) ⟨rfl, fun _ _ _ _ => rfl, rfl, fun _ _ _ _ => rfl, rfl, rfl, rfl, rfl, rfl, rfl, rfl, rfl, rfl, rfl, (by first | rfl | simp), rfl, (Elem.cR_pv _ _), trivial⟩
                  · clear h; rintro ⟨n3, x42, k43⟩ h p3 hp3
                    obtain _ | n3 := n3
                    · cases (show (none : Option (Bool)) = some r from h)
                    have h : keep_SoftAll_l3 r4 k9 x17 K3_0 (n3 + 1) x42 k43 = some r := h
                    unfold keep_SoftAll_l3 at h
                    refine segs [] tabOk mixed 4000 (S := .br (decide ((((k43 : Nat) : Int) : Int) < ((r4.1.length : Nat) : Int))) (.and (0 ≤ (((k43 : Nat) : Int) : Int) ∧ ((k43 : Nat) : Int) < ((r4.1.length : Nat) : Int)) (.leaf 0)) (.br (decide ((x42 : Int) < 0)) (.leaf 1) (.leaf 2))) (by as_aux_lemma => kernel_rfl) ?_
                    refine br_ h ?_ ?_ <;> clear h <;> intro c44 h
                    · refine sk_and ⟨Int.natCast_nonneg _, of_decide_eq_true c44⟩ ?_
                      refine sk_leaf ?_
                      refine ld_ok (d := 91) (id := 0) (i := (0 + k43)) (j := 0) (e := 3) (n := 1) E3 (xs := r4.1) (by as_aux_lemma => kernel_rfl) (by as_aux_lemma => kernel_rfl) (by first | omega | (simp at *; omega)) (by exact Nat.le_of_ble_eq_true rfl) ?_
                      refine segs [] tabOk mixed 4000 (S := .br (((r4.1.getD (0 + k43) 0) : Int) == ((k9 : Nat) : Int)) (.leaf 0) (.leaf 1)) (by as_aux_lemma => kernel_rfl) ?_
                      refine br_ h ?_ ?_ <;> clear h <;> intro c46 h
                      · refine sk_leaf ?_
                        refine back_ok (p := p3) (by as_aux_lemma => kernel_rfl) (hp3 (n3, (IntKind.i64.wrap (x42 - 1)), k43 + 1) _ h (Nat.lt_succ_self n3) ?_)
                        exact sub_ok (ρ := [(0, some 0)]) (l := [a0.length = a0.length, ∀ i, i < a0.length → ∀ j, j < 1 → E3.cf (a0.getD i E3.z) j = E3.cf (a0.getD i E3.z) j, a1.length = a1.length, ∀ i, i < a1.length → ∀ j, j < 2 → E41.cf (a1.getD i E41.z) j = E41.cf (a1.getD i E41.z) j, false = false, 0 = 0, r4.1.length = r4.1.length, (r4.2.1 : Int) = r4.2.1, (((k9 : Nat) : Int) : Int) = ((k9 : Nat) : Int), ((IntKind.i64.wrap (x42 - 1)) : Int) = (IntKind.i64.wrap (x42 - 1)), (((k9 : Nat) : Int) : Int) = ((k9 : Nat) : Int), 0 = 0, r4.1.length = r4.1.length, (((r4.1.length : Nat) : Int) : Int) = ((r4.1.length : Nat) : Int), ((IntKind.i64.wrap (((k43 : Nat) : Int) + 1)) : Int) = (((k43 + 1) : Nat) : Int), E3.cR r4.1 = E3.cR r4.1, AllPv (E3.cR r4.1)]) (by as_aux_lemma => kernel_rfl) ⟨rfl, fun _ _ _ _ => rfl, rfl, fun _ _ _ _ => rfl, rfl, rfl, rfl, rfl, rfl, rfl, rfl, rfl, rfl, rfl, (wrap_nat (Int.ofNat_lt.1 (of_decide_eq_true c44)) (by omega)), rfl, (Elem.cR_pv _ _), trivial⟩
                      · refine sk_leaf ?_
                        refine back_ok (p := p3) (by as_aux_lemma => kernel_rfl) (hp3 (n3, x42, k43 + 1) _ h (Nat.lt_succ_self n3) ?_)
                        exact sub_ok (ρ := [(0, some 0)]) (l := [a0.length = a0.length, ∀ i, i < a0.length → ∀ j, j < 1 → E3.cf (a0.getD i E3.z) j = E3.cf (a0.getD i E3.z) j, a1.length = a1.length, ∀ i, i < a1.length → ∀ j, j < 2 → E41.cf (a1.getD i E41.z) j = E41.cf (a1.getD i E41.z) j, false = false, 0 = 0, r4.1.length = r4.1.length, (r4.2.1 : Int) = r4.2.1, (((k9 : Nat) : Int) : Int) = ((k9 : Nat) : Int), (x42 : Int) = x42, (((k9 : Nat) : Int) : Int) = ((k9 : Nat) : Int), 0 = 0, r4.1.length = r4.1.length, (((r4.1.length : Nat) : Int) : Int) = ((r4.1.length : Nat) : Int), ((IntKind.i64.wrap (((k43 : Nat) : Int) + 1)) : Int) = (((k43 + 1) : Nat) : Int), E3.cR r4.1 = E3.cR r4.1, AllPv (E3.cR r4.1)]) (by as_aux_lemma => kernel_rfl) ⟨rfl, fun _ _ _ _ => rfl, rfl, fun _ _ _ _ => rfl, rfl, rfl, rfl, rfl, rfl, rfl, rfl, rfl, rfl, rfl, (wrap_nat (Int.ofNat_lt.1 (of_decide_eq_true c44)) (by omega)), rfl, (Elem.cR_pv _ _), trivial⟩
                    · replace h := (congrFun (congrFun hK3_0 x42) k43).symm.trans h
                      refine br_ h ?_ ?_ <;> clear h <;> intro c47 h
                      · refine sk_leaf ?_
                        obtain rfl := some_ h
                        exact end_ok [] Try.results5 (ps := [false = false]) (by as_aux_lemma => kernel_rfl) ⟨rfl, trivial⟩ (fun _ => ⟨rfl, by simp⟩)
                      · refine sk_leaf ?_
                        refine back_ok (p := p1) (by as_aux_lemma => kernel_rfl) (hp1 (n1, k9 + 1) _ h (Nat.lt_succ_self n1) ?_)
                        exact sub_ok (ρ := [(0, some 0)]) (l := [a0.length = a0.length, ∀ i, i < a0.length → ∀ j, j < 1 → E3.cf (a0.getD i E3.z) j = E3.cf (a0.getD i E3.z) j, a1.length = a1.length, ∀ i, i < a1.length → ∀ j, j < 2 → E41.cf (a1.getD i E41.z) j = E41.cf (a1.getD i E41.z) j, false = false, 0 = 0, r4.1.length = r4.1.length, (r4.2.1 : Int) = r4.2.1, ((IntKind.i64.wrap (((k9 : Nat) : Int) + 1)) : Int) = (((k9 + 1) : Nat) : Int), E3.cR r4.1 = E3.cR r4.1, AllPv (E3.cR r4.1)]) (by as_aux_lemma => kernel_rfl) ⟨rfl, fun _ _ _ _ => rfl, rfl, fun _ _ _ _ => rfl, rfl, rfl, rfl, rfl, (wrap_nat_lit (by simp at *; omega)), rfl, (Elem.cR_pv _ _), trivial⟩
          · refine sk_leaf ?_
            refine len_ro (by as_aux_lemma => kernel_rfl) 0 (s := 1) (n := a0.length) (c := fun i j => E3.cf (a0.getD i E3.z) j) (by as_aux_lemma => kernel_rfl) ?_; intro hl4_0
            refine len_ro (by as_aux_lemma => kernel_rfl) 1 (s := 2) (n := a1.length) (c := fun i j => E41.cf (a1.getD i E41.z) j) (by as_aux_lemma => kernel_rfl) ?_; intro hl4_1
            refine len_ro (by as_aux_lemma => kernel_rfl) 47 (s := 2) (n := a1.length) (c := fun i j => E41.cf (a1.getD i E41.z) j) (by as_aux_lemma => kernel_rfl) ?_; intro hl4_2
            refine len_row (by as_aux_lemma => kernel_rfl) 0 (e := 3) (s := 1) (n := r4.1.length) (cs := E3.cR r4.1) (by as_aux_lemma => kernel_rfl) (Elem.cR_length _ _) ?_; intro hl4_3
            obtain ⟨K4_0, hK4_0, h⟩ : ∃ (K4_0 : Int → Nat → Option (Bool)), K4_0 = (fun (x48 : Int) (k49 : Nat) => keep_SoftAll_l5 r4 k9 x48 (fun (x73 : Int) (k74 : Nat) => bif (decide ((x73 : Int) < 0)) then some false else keep_SoftAll_l1 a0 a1 r4 n1 (k9 + 1) ) FUEL x48 0 ) ∧ keep_SoftAll_l4 a1 r4 k9 K4_0 FUEL 0 0 = some r := ⟨_, rfl, h⟩
            replace h : (fun (x : Nat × Int × Nat) => keep_SoftAll_l4 a1 r4 k9 K4_0 x.1 x.2.1 x.2.2 = some r) (FUEL, 0, 0) := h
            refine loop_ok (by as_aux_lemma => kernel_rfl) (X := Nat × Int × Nat) (fun x => keep_SoftAll_l4 a1 r4 k9 K4_0 x.1 x.2.1 x.2.2 = some r) (fun x => x.1) (fun x => mk 109 [(0, .pv ((E3.ro a0))), (1, .pv ((E41.ro a1))), (6, .pv (.raw (.bool false))), (7, .row 0 1 0 r4.1.length), (8, .pv (.raw (.int .i64 r4.2.1))), (10, .pv (.raw (.int .i64 ((k9 : Nat) : Int)))), (11, .pv (.raw (.int .i64 x.2.1))), (35, .pv (.raw (.int .i64 ((k9 : Nat) : Int)))), (47, .pv ((E41.ro a1))), (48, .pv (.raw (.int .i64 ((a1.length : Nat) : Int)))), (49, .pv (.raw (.int .i64 ((x.2.2 : Nat) : Int))))] [(0, .row 3 1 (E3.cR r4.1))]) (FUEL, 0, 0) h ?_ ?_
            · exact sub_ok (ρ := [(0, some 0)]) (l := [a0.length = a0.length, ∀ i, i < a0.length → ∀ j, j < 1 → E3.cf (a0.getD i E3.z) j = E3.cf (a0.getD i E3.z) j, a1.length = a1.length, ∀ i, i < a1.length → ∀ j, j < 2 → E41.cf (a1.getD i E41.z) j = E41.cf (a1.getD i E41.z) j, false = false, 0 = 0, r4.1.length = r4.1.length, (r4.2.1 : Int) = r4.2.1, (((k9 : Nat) : Int) : Int) = ((k9 : Nat) : Int), (0 : Int) = 0, (((k9 : Nat) : Int) : Int) = ((k9 : Nat) : Int), a1.length = a1.length, ∀ i, i < a1.length → ∀ j, j < 2 → E41.cf (a1.getD i E41.z) j = E41.cf (a1.getD i E41.z) j, (((a1.length : Nat) : Int) : Int) = ((a1.length : Nat) : Int), (0 : Int) = ((0 : Nat) : Int), E3.cR r4.1 = E3.cR r4.1, AllPv (E3.cR r4.1)]) (by as_aux_lemma => kernel_rfl) ⟨rfl, fun _ _ _ _ => rfl, rfl, fun _ _ _ _ => rfl, rfl, rfl, rfl, rfl, rfl, rfl, rfl, rfl, fun _ _ _ _ => rfl, rfl, (by first | rfl | simp), rfl, (Elem.cR_pv _ _), trivial⟩
            · clear h; rintro ⟨n4, x48, k49⟩ h p4 hp4
              obtain _ | n4 := n4
              · cases (show (none : Option (Bool)) = some r from h)
              have h : keep_SoftAll_l4 a1 r4 k9 K4_0 (n4 + 1) x48 k49 = some r := h
              unfold keep_SoftAll_l4 at h
              refine segs [] tabOk mixed 4000 (S := .br (decide ((((k49 : Nat) : Int) : Int) < ((a1.length : Nat) : Int))) (.and (0 ≤ (((k49 : Nat) : Int) : Int) ∧ ((k49 : Nat) : Int) < ((a1.length : Nat) : Int)) (.and (((((a1.getD k49 (⟨0, 0⟩ : Api_Raise)).Soft : Int) == ((k9 : Nat) : Int)) = true → ((((a1.getD k49 (⟨0, 0⟩ : Api_Raise)).Soft : Int) == ((k9 : Nat) : Int)) = true))) (.and (((((a1.getD k49 (⟨0, 0⟩ : Api_Raise)).Soft : Int) == ((k9 : Nat) : Int)) = true → ((((a1.getD k49 (⟨0, 0⟩ : Api_Raise)).Soft : Int) == ((k9 : Nat) : Int)) = true))) (.and (((((a1.getD k49 (⟨0, 0⟩ : Api_Raise)).Soft : Int) == ((k9 : Nat) : Int)) = true → ((((a1.getD k49 (⟨0, 0⟩ : Api_Raise)).Soft : Int) == ((k9 : Nat) : Int)) = true))) (.and (((((a1.getD k49 (⟨0, 0⟩ : Api_Raise)).Soft : Int) == ((k9 : Nat) : Int)) = true → ((((a1.getD k49 (⟨0, 0⟩ : Api_Raise)).Soft : Int) == ((k9 : Nat) : Int)) = true))) (.and ((((a1.getD k49 (⟨0, 0⟩ : Api_Raise)).Soft : Int) == ((k9 : Nat) : Int)) = true → (((a1.getD k49 (⟨0, 0⟩ : Api_Raise)).Soft : Int) == ((k9 : Nat) : Int)) = true) (.br ((((a1.getD k49 (⟨0, 0⟩ : Api_Raise)).Soft : Int) == ((k9 : Nat) : Int)) && (decide (((a1.getD k49 (⟨0, 0⟩ : Api_Raise)).When : Int) ≤ ((r4.1.length : Nat) : Int)))) (.and (((decide (((a1.getD k49 (⟨0, 0⟩ : Api_Raise)).When : Int) > 0)) = true → ((decide (((a1.getD k49 (⟨0, 0⟩ : Api_Raise)).When : Int) > 0)) = true))) (.and (((decide (((a1.getD k49 (⟨0, 0⟩ : Api_Raise)).When : Int) > 0)) = true → ((decide (((a1.getD k49 (⟨0, 0⟩ : Api_Raise)).When : Int) > 0)) = true))) (.and (((decide (((a1.getD k49 (⟨0, 0⟩ : Api_Raise)).When : Int) > 0)) = true → ((decide (((a1.getD k49 (⟨0, 0⟩ : Api_Raise)).When : Int) > 0)) = true))) (.and (((decide (((a1.getD k49 (⟨0, 0⟩ : Api_Raise)).When : Int) > 0)) = true → ((decide (((a1.getD k49 (⟨0, 0⟩ : Api_Raise)).When : Int) > 0)) = true))) (.and ((decide (((a1.getD k49 (⟨0, 0⟩ : Api_Raise)).When : Int) > 0)) = true → (decide (((a1.getD k49 (⟨0, 0⟩ : Api_Raise)).When : Int) > 0)) = true) (.and ((((decide (((a1.getD k49 (⟨0, 0⟩ : Api_Raise)).When : Int) > 0)) && (decide (((a1.getD k49 (⟨0, 0⟩ : Api_Raise)).When : Int) < ((r4.1.length : Nat) : Int)))) = true → (((decide (((a1.getD k49 (⟨0, 0⟩ : Api_Raise)).When : Int) > 0)) && (decide (((a1.getD k49 (⟨0, 0⟩ : Api_Raise)).When : Int) < ((r4.1.length : Nat) : Int)))) = true))) (.and ((((decide (((a1.getD k49 (⟨0, 0⟩ : Api_Raise)).When : Int) > 0)) && (decide (((a1.getD k49 (⟨0, 0⟩ : Api_Raise)).When : Int) < ((r4.1.length : Nat) : Int)))) = true → (((decide (((a1.getD k49 (⟨0, 0⟩ : Api_Raise)).When : Int) > 0)) && (decide (((a1.getD k49 (⟨0, 0⟩ : Api_Raise)).When : Int) < ((r4.1.length : Nat) : Int)))) = true))) (.and ((((decide (((a1.getD k49 (⟨0, 0⟩ : Api_Raise)).When : Int) > 0)) && (decide (((a1.getD k49 (⟨0, 0⟩ : Api_Raise)).When : Int) < ((r4.1.length : Nat) : Int)))) = true → (((decide (((a1.getD k49 (⟨0, 0⟩ : Api_Raise)).When : Int) > 0)) && (decide (((a1.getD k49 (⟨0, 0⟩ : Api_Raise)).When : Int) < ((r4.1.length : Nat) : Int)))) = true))) (.and ((((decide (((a1.getD k49 (⟨0, 0⟩ : Api_Raise)).When : Int) > 0)) && (decide (((a1.getD k49 (⟨0, 0⟩ : Api_Raise)).When : Int) < ((r4.1.length : Nat) : Int)))) = true → (0 ≤ ((a1.getD k49 (⟨0, 0⟩ : Api_Raise)).When : Int)))) (.and ((((decide (((a1.getD k49 (⟨0, 0⟩ : Api_Raise)).When : Int) > 0)) && (decide (((a1.getD k49 (⟨0, 0⟩ : Api_Raise)).When : Int) < ((r4.1.length : Nat) : Int)))) = true → ((Int.toNat ((a1.getD k49 (⟨0, 0⟩ : Api_Raise)).When)) ≤ r4.1.length))) (.leaf 0))))))))))) (.leaf 1)))))))) (.leaf 2)) (by as_aux_lemma => kernel_rfl) ?_
              refine br_ h ?_ ?_ <;> clear h <;> intro c50 h
              · refine sk_and ⟨Int.natCast_nonneg _, of_decide_eq_true c50⟩ ?_
                refine sk_and ((by decide : ∀ y0 : Bool, ((y0 = true) → (y0 = true))) (((a1.getD k49 (⟨0, 0⟩ : Api_Raise)).Soft : Int) == ((k9 : Nat) : Int))) ?_
                refine sk_and ((by decide : ∀ y0 : Bool, ((y0 = true) → (y0 = true))) (((a1.getD k49 (⟨0, 0⟩ : Api_Raise)).Soft : Int) == ((k9 : Nat) : Int))) ?_
                refine sk_and ((by decide : ∀ y0 : Bool, ((y0 = true) → (y0 = true))) (((a1.getD k49 (⟨0, 0⟩ : Api_Raise)).Soft : Int) == ((k9 : Nat) : Int))) ?_
                refine sk_and ((by decide : ∀ y0 : Bool, ((y0 = true) → (y0 = true))) (((a1.getD k49 (⟨0, 0⟩ : Api_Raise)).Soft : Int) == ((k9 : Nat) : Int))) ?_
                refine sk_and ((by decide : ∀ y0 : Bool, ((y0 = true) → (y0 = true))) (((a1.getD k49 (⟨0, 0⟩ : Api_Raise)).Soft : Int) == ((k9 : Nat) : Int))) ?_
                refine br_ h ?_ ?_ <;> clear h <;> intro c57 h
                · refine sk_and ((by decide : ∀ y0 : Bool, ((y0 = true) → (y0 = true))) (decide (((a1.getD k49 (⟨0, 0⟩ : Api_Raise)).When : Int) > 0))) ?_
                  refine sk_and ((by decide : ∀ y0 : Bool, ((y0 = true) → (y0 = true))) (decide (((a1.getD k49 (⟨0, 0⟩ : Api_Raise)).When : Int) > 0))) ?_
                  refine sk_and ((by decide : ∀ y0 : Bool, ((y0 = true) → (y0 = true))) (decide (((a1.getD k49 (⟨0, 0⟩ : Api_Raise)).When : Int) > 0))) ?_
                  refine sk_and ((by decide : ∀ y0 : Bool, ((y0 = true) → (y0 = true))) (decide (((a1.getD k49 (⟨0, 0⟩ : Api_Raise)).When : Int) > 0))) ?_
                  refine sk_and ((by decide : ∀ y0 : Bool, ((y0 = true) → (y0 = true))) (decide (((a1.getD k49 (⟨0, 0⟩ : Api_Raise)).When : Int) > 0))) ?_
                  refine sk_and ((by decide : ∀ y0 y1 : Bool, (((y0 && y1) = true) → ((y0 && y1) = true))) (decide (((a1.getD k49 (⟨0, 0⟩ : Api_Raise)).When : Int) > 0)) (decide (((a1.getD k49 (⟨0, 0⟩ : Api_Raise)).When : Int) < ((r4.1.length : Nat) : Int)))) ?_
                  refine sk_and ((by decide : ∀ y0 y1 : Bool, (((y0 && y1) = true) → ((y0 && y1) = true))) (decide (((a1.getD k49 (⟨0, 0⟩ : Api_Raise)).When : Int) > 0)) (decide (((a1.getD k49 (⟨0, 0⟩ : Api_Raise)).When : Int) < ((r4.1.length : Nat) : Int)))) ?_
                  refine sk_and ((by decide : ∀ y0 y1 : Bool, (((y0 && y1) = true) → ((y0 && y1) = true))) (decide (((a1.getD k49 (⟨0, 0⟩ : Api_Raise)).When : Int) > 0)) (decide (((a1.getD k49 (⟨0, 0⟩ : Api_Raise)).When : Int) < ((r4.1.length : Nat) : Int)))) ?_
                  refine gd_ h ?_; clear h; intro g66 h
                  refine gd_ h ?_; clear h; intro g67 h
                  refine sk_leaf ?_
                  obtain ⟨r68, e69, h⟩ := bd_ h
                  refine callG_ok (d := some 82) (fn := 20) (ax := [.row 0 1 (0 + (Int.toNat ((a1.getD k49 (⟨0, 0⟩ : Api_Raise)).When))) (r4.1.length - (Int.toNat ((a1.getD k49 (⟨0, 0⟩ : Api_Raise)).When))), .pv (.raw (.int .i64 ((k9 : Nat) : Int)))]) (args := [.pv ((E3.ro ((r4.1.drop (0 + (Int.toNat ((a1.getD k49 (⟨0, 0⟩ : Api_Raise)).When)))).take (r4.1.length - (Int.toNat ((a1.getD k49 (⟨0, 0⟩ : Api_Raise)).When)))))), .pv (.raw (.int .i64 ((k9 : Nat) : Int)))]) (g := ((decide (((a1.getD k49 (⟨0, 0⟩ : Api_Raise)).When : Int) > 0)) && (decide (((a1.getD k49 (⟨0, 0⟩ : Api_Raise)).When : Int) < ((r4.1.length : Nat) : Int))))) (ws := [((decide (((a1.getD k49 (⟨0, 0⟩ : Api_Raise)).When : Int) > 0)) && (decide (((a1.getD k49 (⟨0, 0⟩ : Api_Raise)).When : Int) < ((r4.1.length : Nat) : Int)))) = true, ((decide (((a1.getD k49 (⟨0, 0⟩ : Api_Raise)).When : Int) > 0)) && (decide (((a1.getD k49 (⟨0, 0⟩ : Api_Raise)).When : Int) < ((r4.1.length : Nat) : Int)))) = true]) (ps := [(r4.1.length - (Int.toNat ((a1.getD k49 (⟨0, 0⟩ : Api_Raise)).When))) = ((r4.1.drop (0 + (Int.toNat ((a1.getD k49 (⟨0, 0⟩ : Api_Raise)).When)))).take (r4.1.length - (Int.toNat ((a1.getD k49 (⟨0, 0⟩ : Api_Raise)).When)))).length, rowQ (E3.cR r4.1) 1 (0 + (Int.toNat ((a1.getD k49 (⟨0, 0⟩ : Api_Raise)).When))) (r4.1.length - (Int.toNat ((a1.getD k49 (⟨0, 0⟩ : Api_Raise)).When))) (fun i j => E3.cf (((r4.1.drop (0 + (Int.toNat ((a1.getD k49 (⟨0, 0⟩ : Api_Raise)).When)))).take (r4.1.length - (Int.toNat ((a1.getD k49 (⟨0, 0⟩ : Api_Raise)).When)))).getD i E3.z) j), (((k9 : Nat) : Int) : Int) = ((k9 : Nat) : Int)]) (by as_aux_lemma => kernel_rfl) (fun hg => ⟨((by decide : ∀ y0 y1 : Bool, (((y0 && y1) = true) → ((y0 && y1) = true))) (decide (((a1.getD k49 (⟨0, 0⟩ : Api_Raise)).When : Int) > 0)) (decide (((a1.getD k49 (⟨0, 0⟩ : Api_Raise)).When : Int) < ((r4.1.length : Nat) : Int)))) hg, ((by decide : ∀ y0 y1 : Bool, (((y0 && y1) = true) → ((y0 && y1) = true))) (decide (((a1.getD k49 (⟨0, 0⟩ : Api_Raise)).When : Int) > 0)) (decide (((a1.getD k49 (⟨0, 0⟩ : Api_Raise)).When : Int) < ((r4.1.length : Nat) : Int)))) hg, trivial⟩) (fun hg => slices_Contains_int_ok _ _ _ (by rw [hg] at e69; exact e69) (al := false)) (by as_aux_lemma => kernel_rfl) (fun hg => (by have q0 := g66 hg; have q1 := g67 hg; exact ⟨(by first | rfl | exact Elem.sub_len _ (by omega) | simp | (simp; omega)), E3.rowQ_part r4.1 (0 + (Int.toNat ((a1.getD k49 (⟨0, 0⟩ : Api_Raise)).When))) (r4.1.length - (Int.toNat ((a1.getD k49 (⟨0, 0⟩ : Api_Raise)).When))) (by first | omega | (simp at *; omega)), rfl, trivial⟩)) (fun hx => by cases hx) ?_
                  refine segs [] tabOk mixed 4000 (S := .and ((((decide (((a1.getD k49 (⟨0, 0⟩ : Api_Raise)).When : Int) > 0)) && (decide (((a1.getD k49 (⟨0, 0⟩ : Api_Raise)).When : Int) < ((r4.1.length : Nat) : Int)))) = true → (((decide (((a1.getD k49 (⟨0, 0⟩ : Api_Raise)).When : Int) > 0)) && (decide (((a1.getD k49 (⟨0, 0⟩ : Api_Raise)).When : Int) < ((r4.1.length : Nat) : Int)))) = true))) (.and (((decide (((a1.getD k49 (⟨0, 0⟩ : Api_Raise)).When : Int) > 0)) && (decide (((a1.getD k49 (⟨0, 0⟩ : Api_Raise)).When : Int) < ((r4.1.length : Nat) : Int)))) = true → ((decide (((a1.getD k49 (⟨0, 0⟩ : Api_Raise)).When : Int) > 0)) && (decide (((a1.getD k49 (⟨0, 0⟩ : Api_Raise)).When : Int) < ((r4.1.length : Nat) : Int)))) = true) (.br (((decide (((a1.getD k49 (⟨0, 0⟩ : Api_Raise)).When : Int) > 0)) && (decide (((a1.getD k49 (⟨0, 0⟩ : Api_Raise)).When : Int) < ((r4.1.length : Nat) : Int)))) && (!r68)) (.leaf 0) (.leaf 1)))) (by as_aux_lemma => kernel_rfl) ?_
                  refine sk_and ((by decide : ∀ y0 y1 : Bool, (((y0 && y1) = true) → ((y0 && y1) = true))) (decide (((a1.getD k49 (⟨0, 0⟩ : Api_Raise)).When : Int) > 0)) (decide (((a1.getD k49 (⟨0, 0⟩ : Api_Raise)).When : Int) < ((r4.1.length : Nat) : Int)))) ?_
                  refine sk_and ((by decide : ∀ y0 y1 : Bool, (((y0 && y1) = true) → ((y0 && y1) = true))) (decide (((a1.getD k49 (⟨0, 0⟩ : Api_Raise)).When : Int) > 0)) (decide (((a1.getD k49 (⟨0, 0⟩ : Api_Raise)).When : Int) < ((r4.1.length : Nat) : Int)))) ?_
                  refine br_ h ?_ ?_ <;> clear h <;> intro c72 h
                  · refine sk_leaf ?_
                    obtain rfl := some_ h
                    exact end_ok [] Try.results5 (ps := [false = false]) (by as_aux_lemma => kernel_rfl) ⟨rfl, trivial⟩ (fun _ => ⟨rfl, by simp⟩)
                  · refine sk_leaf ?_
                    refine back_ok (p := p4) (by as_aux_lemma => kernel_rfl) (hp4 (n4, (IntKind.i64.wrap (x48 + 1)), k49 + 1) _ h (Nat.lt_succ_self n4) ?_)
                    exact sub_ok (ρ := [(0, some 0)]) (l := [a0.length = a0.length, ∀ i, i < a0.length → ∀ j, j < 1 → E3.cf (a0.getD i E3.z) j = E3.cf (a0.getD i E3.z) j, a1.length = a1.length, ∀ i, i < a1.length → ∀ j, j < 2 → E41.cf (a1.getD i E41.z) j = E41.cf (a1.getD i E41.z) j, false = false, 0 = 0, r4.1.length = r4.1.length, (r4.2.1 : Int) = r4.2.1, (((k9 : Nat) : Int) : Int) = ((k9 : Nat) : Int), ((IntKind.i64.wrap (x48 + 1)) : Int) = (IntKind.i64.wrap (x48 + 1)), (((k9 : Nat) : Int) : Int) = ((k9 : Nat) : Int), a1.length = a1.length, ∀ i, i < a1.length → ∀ j, j < 2 → E41.cf (a1.getD i E41.z) j = E41.cf (a1.getD i E41.z) j, (((a1.length : Nat) : Int) : Int) = ((a1.length : Nat) : Int), ((IntKind.i64.wrap (((k49 : Nat) : Int) + 1)) : Int) = (((k49 + 1) : Nat) : Int), E3.cR r4.1 = E3.cR r4.1, AllPv (E3.cR r4.1)]) (by as_aux_lemma => kernel_rfl) ⟨rfl, fun _ _ _ _ => rfl, rfl, fun _ _ _ _ => rfl, rfl, rfl, rfl, rfl, rfl, rfl, rfl, rfl, fun _ _ _ _ => rfl, rfl, (wrap_nat (Int.ofNat_lt.1 (of_decide_eq_true c50)) (by omega)), rfl, (Elem.cR_pv _ _), trivial⟩
                · refine sk_leaf ?_
                  refine back_ok (p := p4) (by as_aux_lemma => kernel_rfl) (hp4 (n4, x48, k49 + 1) _ h (Nat.lt_succ_self n4) ?_)
                  exact sub_ok (ρ := [(0, some 0)]) (l := [a0.length = a0.length, ∀ i, i < a0.length → ∀ j, j < 1 → E3.cf (a0.getD i E3.z) j = E3.cf (a0.getD i E3.z) j, a1.length = a1.length, ∀ i, i < a1.length → ∀ j, j < 2 → E41.cf (a1.getD i E41.z) j = E41.cf (a1.getD i E41.z) j, false = false, 0 = 0, r4.1.length = r4.1.length, (r4.2.1 : Int) = r4.2.1, (((k9 : Nat) : Int) : Int) = ((k9 : Nat) : Int), (x48 : Int) = x48, (((k9 : Nat) : Int) : Int) = ((k9 : Nat) : Int), a1.length = a1.length, ∀ i, i < a1.length → ∀ j, j < 2 → E41.cf (a1.getD i E41.z) j = E41.cf (a1.getD i E41.z) j, (((a1.length : Nat) : Int) : Int) = ((a1.length : Nat) : Int), ((IntKind.i64.wrap (((k49 : Nat) : Int) + 1)) : Int) = (((k49 + 1) : Nat) : Int), E3.cR r4.1 = E3.cR r4.1, AllPv (E3.cR r4.1)]) (by as_aux_lemma => kernel_rfl) ⟨rfl, fun _ _ _ _ => rfl, rfl, fun _ _ _ _ => rfl, rfl, rfl, rfl, rfl, rfl, rfl, rfl, rfl, fun _ _ _ _ => rfl, rfl, (wrap_nat (Int.ofNat_lt.1 (of_decide_eq_true c50)) (by omega)), rfl, (Elem.cR_pv _ _), trivial⟩
              · replace h := (congrFun (congrFun hK4_0 x48) k49).symm.trans h
                refine sk_leaf ?_
                refine len_ro (by as_aux_lemma => kernel_rfl) 0 (s := 1) (n := a0.length) (c := fun i j => E3.cf (a0.getD i E3.z) j) (by as_aux_lemma => kernel_rfl) ?_; intro hl5_0
                refine len_ro (by as_aux_lemma => kernel_rfl) 1 (s := 2) (n := a1.length) (c := fun i j => E41.cf (a1.getD i E41.z) j) (by as_aux_lemma => kernel_rfl) ?_; intro hl5_1
                refine len_row (by as_aux_lemma => kernel_rfl) 0 (e := 3) (s := 1) (n := r4.1.length) (cs := E3.cR r4.1) (by as_aux_lemma => kernel_rfl) (Elem.cR_length _ _) ?_; intro hl5_2
                obtain ⟨K5_0, hK5_0, h⟩ : ∃ (K5_0 : Int → Nat → Option (Bool)), K5_0 = (fun (x73 : Int) (k74 : Nat) => bif (decide ((x73 : Int) < 0)) then some false else keep_SoftAll_l1 a0 a1 r4 n1 (k9 + 1) ) ∧ keep_SoftAll_l5 r4 k9 x48 K5_0 FUEL x48 0 = some r := ⟨_, rfl, h⟩
                replace h : (fun (x : Nat × Int × Nat) => keep_SoftAll_l5 r4 k9 x48 K5_0 x.1 x.2.1 x.2.2 = some r) (FUEL, x48, 0) := h
                refine loop_ok (by as_aux_lemma => kernel_rfl) (X := Nat × Int × Nat) (fun x => keep_SoftAll_l5 r4 k9 x48 K5_0 x.1 x.2.1 x.2.2 = some r) (fun x => x.1) (fun x => mk 109 [(0, .pv ((E3.ro a0))), (1, .pv ((E41.ro a1))), (6, .pv (.raw (.bool false))), (7, .row 0 1 0 r4.1.length), (8, .pv (.raw (.int .i64 r4.2.1))), (10, .pv (.raw (.int .i64 ((k9 : Nat) : Int)))), (11, .pv (.raw (.int .i64 x.2.1))), (35, .pv (.raw (.int .i64 ((k9 : Nat) : Int)))), (86, .row 0 1 0 r4.1.length), (87, .pv (.raw (.int .i64 ((r4.1.length : Nat) : Int)))), (88, .pv (.raw (.int .i64 ((x.2.2 : Nat) : Int))))] [(0, .row 3 1 (E3.cR r4.1))]) (FUEL, x48, 0) h ?_ ?_
                · exact sub_ok (ρ := [(0, some 0)]) (l := [a0.length = a0.length, ∀ i, i < a0.length → ∀ j, j < 1 → E3.cf (a0.getD i E3.z) j = E3.cf (a0.getD i E3.z) j, a1.length = a1.length, ∀ i, i < a1.length → ∀ j, j < 2 → E41.cf (a1.getD i E41.z) j = E41.cf (a1.getD i E41.z) j, false = false, 0 = 0, r4.1.length = r4.1.length, (r4.2.1 : Int) = r4.2.1, (((k9 : Nat) : Int) : Int) = ((k9 : Nat) : Int), (x48 : Int) = x48, (((k9 : Nat) : Int) : Int) = ((k9 : Nat) : Int), 0 = 0, r4.1.length = r4.1.length, (((r4.1.length : Nat) : Int) : Int) = ((r4.1.length : Nat) : Int), (0 : Int) = ((0 : Nat) : Int), E3.cR r4.1 = E3.cR r4.1, AllPv (E3.cR r4.1)]) (by as_aux_lemma => kernel_rfl) ⟨rfl, fun _ _ _ _ => rfl, rfl, fun _ _ _ _ => rfl, rfl, rfl, rfl, rfl, rfl, rfl, rfl, rfl, rfl, rfl, (by first | rfl | simp), rfl, (Elem.cR_pv _ _), trivial⟩
                · clear h; rintro ⟨n5, x73, k74⟩ h p5 hp5
                  obtain _ | n5 := n5
                  · cases (show (none : Option (Bool)) = some r from h)
                  have h : keep_SoftAll_l5 r4 k9 x48 K5_0 (n5 + 1) x73 k74 = some r := h
                  unfold keep_SoftAll_l5 at h
                  refine segs [] tabOk mixed 4000 (S := .br (decide ((((k74 : Nat) : Int) : Int) < ((r4.1.length : Nat) : Int))) (.and (0 ≤ (((k74 : Nat) : Int) : Int) ∧ ((k74 : Nat) : Int) < ((r4.1.length : Nat) : Int)) (.leaf 0)) (.br (decide ((x73 : Int) < 0)) (.leaf 1) (.leaf 2))) (by as_aux_lemma => kernel_rfl) ?_
                  refine br_ h ?_ ?_ <;> clear h <;> intro c75 h
                  · refine sk_and ⟨Int.natCast_nonneg _, of_decide_eq_true c75⟩ ?_
                    refine sk_leaf ?_
                    refine ld_ok (d := 91) (id := 0) (i := (0 + k74)) (j := 0) (e := 3) (n := 1) E3 (xs := r4.1) (by as_aux_lemma => kernel_rfl) (by as_aux_lemma => kernel_rfl) (by first | omega | (simp at *; omega)) (by exact Nat.le_of_ble_eq_true rfl) ?_
                    refine segs [] tabOk mixed 4000 (S := .br (((r4.1.getD (0 + k74) 0) : Int) == ((k9 : Nat) : Int)) (.leaf 0) (.leaf 1)) (by as_aux_lemma => kernel_rfl) ?_
                    refine br_ h ?_ ?_ <;> clear h <;> intro c77 h
                    · refine sk_leaf ?_
                      refine back_ok (p := p5) (by as_aux_lemma => kernel_rfl) (hp5 (n5, (IntKind.i64.wrap (x73 - 1)), k74 + 1) _ h (Nat.lt_succ_self n5) ?_)
                      exact sub_ok (ρ := [(0, some 0)]) (l := [a0.length = a0.length, ∀ i, i < a0.length → ∀ j, j < 1 → E3.cf (a0.getD i E3.z) j = E3.cf (a0.getD i E3.z) j, a1.length = a1.length, ∀ i, i < a1.length → ∀ j, j < 2 → E41.cf (a1.getD i E41.z) j = E41.cf (a1.getD i E41.z) j, false = false, 0 = 0, r4.1.length = r4.1.length, (r4.2.1 : Int) = r4.2.1, (((k9 : Nat) : Int) : Int) = ((k9 : Nat) : Int), ((IntKind.i64.wrap (x73 - 1)) : Int) = (IntKind.i64.wrap (x73 - 1)), (((k9 : Nat) : Int) : Int) = ((k9 : Nat) : Int), 0 = 0, r4.1.length = r4.1.length, (((r4.1.length : Nat) : Int) : Int) = ((r4.1.length : Nat) : Int), ((IntKind.i64.wrap (((k74 : Nat) : Int) + 1)) : Int) = (((k74 + 1) : Nat) : Int), E3.cR r4.1 = E3.cR r4.1, AllPv (E3.cR r4.1)]) (by as_aux_lemma => kernel_rfl) ⟨rfl, fun _ _ _ _ => rfl, rfl, fun _ _ _ _ => rfl, rfl, rfl, rfl, rfl, rfl, rfl, rfl, rfl, rfl, rfl, (wrap_nat (Int.ofNat_lt.1 (of_decide_eq_true c75)) (by omega)), rfl, (Elem.cR_pv _ _), trivial⟩
                    · refine sk_leaf ?_
                      refine back_ok (p := p5) (by as_aux_lemma => kernel_rfl) (hp5 (n5, x73, k74 + 1) _ h (Nat.lt_succ_self n5) ?_)
                      exact sub_ok (ρ := [(0, some 0)]) (l := [a0.length = a0.length, ∀ i, i < a0.length → ∀ j, j < 1 → E3.cf (a0.getD i E3.z) j = E3.cf (a0.getD i E3.z) j, a1.length = a1.length, ∀ i, i < a1.length → ∀ j, j < 2 → E41.cf (a1.getD i E41.z) j = E41.cf (a1.getD i E41.z) j, false = false, 0 = 0, r4.1.length = r4.1.length, (r4.2.1 : Int) = r4.2.1, (((k9 : Nat) : Int) : Int) = ((k9 : Nat) : Int), (x73 : Int) = x73, (((k9 : Nat) : Int) : Int) = ((k9 : Nat) : Int), 0 = 0, r4.1.length = r4.1.length, (((r4.1.length : Nat) : Int) : Int) = ((r4.1.length : Nat) : Int), ((IntKind.i64.wrap (((k74 : Nat) : Int) + 1)) : Int) = (((k74 + 1) : Nat) : Int), E3.cR r4.1 = E3.cR r4.1, AllPv (E3.cR r4.1)]) (by as_aux_lemma => kernel_rfl) ⟨rfl, fun _ _ _ _ => rfl, rfl, fun _ _ _ _ => rfl, rfl, rfl, rfl, rfl, rfl, rfl, rfl, rfl, rfl, rfl, (wrap_nat (Int.ofNat_lt.1 (of_decide_eq_true c75)) (by omega)), rfl, (Elem.cR_pv _ _), trivial⟩
                  · replace h := (congrFun (congrFun hK5_0 x73) k74).symm.trans h
                    refine br_ h ?_ ?_ <;> clear h <;> intro c78 h
                    · refine sk_leaf ?_
                      obtain rfl := some_ h
                      exact end_ok [] Try.results5 (ps := [false = false]) (by as_aux_lemma => kernel_rfl) ⟨rfl, trivial⟩ (fun _ => ⟨rfl, by simp⟩)
                    · refine sk_leaf ?_
                      refine back_ok (p := p1) (by as_aux_lemma => kernel_rfl) (hp1 (n1, k9 + 1) _ h (Nat.lt_succ_self n1) ?_)
                      exact sub_ok (ρ := [(0, some 0)]) (l := [a0.length = a0.length, ∀ i, i < a0.length → ∀ j, j < 1 → E3.cf (a0.getD i E3.z) j = E3.cf (a0.getD i E3.z) j, a1.length = a1.length, ∀ i, i < a1.length → ∀ j, j < 2 → E41.cf (a1.getD i E41.z) j = E41.cf (a1.getD i E41.z) j, false = false, 0 = 0, r4.1.length = r4.1.length, (r4.2.1 : Int) = r4.2.1, ((IntKind.i64.wrap (((k9 : Nat) : Int) + 1)) : Int) = (((k9 + 1) : Nat) : Int), E3.cR r4.1 = E3.cR r4.1, AllPv (E3.cR r4.1)]) (by as_aux_lemma => kernel_rfl) ⟨rfl, fun _ _ _ _ => rfl, rfl, fun _ _ _ _ => rfl, rfl, rfl, rfl, rfl, (wrap_nat_lit (by simp at *; omega)), rfl, (Elem.cR_pv _ _), trivial⟩
        · refine sk_and ((by decide : ∀ y0 : Bool, ((y0 = true) → (y0 = true))) (decide ((r4.2.1 : Int) ≥ 0))) ?_
          refine sk_and ((by decide : ∀ y0 : Bool, ((y0 = true) → (y0 = true))) (decide ((r4.2.1 : Int) ≥ 0))) ?_
          refine sk_and ((by decide : ∀ y0 : Bool, ((y0 = true) → (y0 = true))) (decide ((r4.2.1 : Int) ≥ 0))) ?_
          refine sk_and ((by decide : ∀ y0 : Bool, ((y0 = true) → (y0 = true))) (decide ((r4.2.1 : Int) ≥ 0))) ?_
          refine sk_leaf ?_
          obtain rfl := some_ h
          exact end_ok [] Try.results5 (ps := [((decide ((r4.2.1 : Int) ≥ 0)) && (decide ((r4.2.1 : Int) ≤ ((r4.1.length : Nat) : Int)))) = ((decide ((r4.2.1 : Int) ≥ 0)) && (decide ((r4.2.1 : Int) ≤ ((r4.1.length : Nat) : Int))))]) (by as_aux_lemma => kernel_rfl) ⟨rfl, trivial⟩ (fun _ => ⟨rfl, by simp⟩)

set_option maxHeartbeats 40000000 in
set_option maxRecDepth 100000 in
theorem keep_SoftWho_ok (a0 : (List Int)) (a1 : (List Api_Raise)) (a2 : Int) (a3 : Int) (r : Bool) (h : keep_SoftWho a0 a1 a2 a3 = some r) {al : Bool} : PCalls Try.prog 6 [.pv ((E3.ro a0)), .pv ((E41.ro a1)), .pv (.raw (.int .i64 a2)), .pv (.raw (.int .i64 a3))] al (.pv (.raw (.bool r))) [] := by
  unfold keep_SoftWho at h
  refine fn_ok tabOk Try.func6 (by as_aux_lemma => kernel_rfl) (by as_aux_lemma => kernel_rfl) Try.ntmps6 (by simp) ?_
  refine segs [] tabOk mixed 4000 (S := .leaf 0) (by as_aux_lemma => kernel_rfl) ?_
  refine sk_leaf ?_
  obtain ⟨r1, e2, h⟩ := bd_ h
  refine call_ok (d := some 15) (fn := 18) (ax := []) (args := []) (ps := []) (hb' := []) (by as_aux_lemma => kernel_rfl) (keep_alive10_ok  _ e2 (al := true)) (by as_aux_lemma => kernel_rfl) trivial (fun _ => (by as_aux_lemma => kernel_rfl)) (by simp) rfl (by as_aux_lemma => kernel_rfl) ?_
  refine segs [] tabOk mixed 4000 (S := .br (!r1) (.leaf 0) (.leaf 1)) (by as_aux_lemma => kernel_rfl) ?_
  refine br_ h ?_ ?_ <;> clear h <;> intro c3 h
  · refine sk_leaf ?_
    obtain rfl := some_ h
    exact end_ok [] Try.results6 (ps := [false = false]) (by as_aux_lemma => kernel_rfl) ⟨rfl, trivial⟩ (fun _ => ⟨rfl, by simp⟩)
  · refine sk_leaf ?_
    obtain ⟨r4, e5, h⟩ := bd_ h
    refine call_ok (d := some 21) (fn := 19) (ax := [.pv ((E3.ro a0)), .pv ((E41.ro a1)), .pv (.raw (.int .i64 a2))]) (args := [.pv ((E3.ro a0)), .pv ((E41.ro a1)), .pv (.raw (.int .i64 a2))]) (ps := [a0.length = a0.length, ∀ i, i < a0.length → ∀ j, j < 1 → E3.cf (a0.getD i E3.z) j = E3.cf (a0.getD i E3.z) j, a1.length = a1.length, ∀ i, i < a1.length → ∀ j, j < 2 → E41.cf (a1.getD i E41.z) j = E41.cf (a1.getD i E41.z) j, (a2 : Int) = a2]) (hb' := [.row 3 1 (E3.cR r4.1)]) (by as_aux_lemma => kernel_rfl) (soft_Run_ok _ _ _ _ e5 (al := true)) (by as_aux_lemma => kernel_rfl) ⟨rfl, fun _ _ _ _ => rfl, rfl, fun _ _ _ _ => rfl, rfl, trivial⟩ (fun _ => (by as_aux_lemma => kernel_rfl)) (by simp) (by simp only [List.map_cons, List.map_nil, Elem.row_up]) (by as_aux_lemma => kernel_rfl) ?_
    refine segs [] tabOk mixed 4000 (S := .leaf 0) (by as_aux_lemma => kernel_rfl) ?_
    refine sk_leaf ?_
    obtain ⟨r6, e7, h⟩ := bd_ h
    refine call_ok (d := some 29) (fn := 19) (ax := [.pv ((E3.ro a0)), .pv ((E41.ro a1)), .pv (.raw (.int .i64 a3))]) (args := [.pv ((E3.ro a0)), .pv ((E41.ro a1)), .pv (.raw (.int .i64 a3))]) (ps := [a0.length = a0.length, ∀ i, i < a0.length → ∀ j, j < 1 → E3.cf (a0.getD i E3.z) j = E3.cf (a0.getD i E3.z) j, a1.length = a1.length, ∀ i, i < a1.length → ∀ j, j < 2 → E41.cf (a1.getD i E41.z) j = E41.cf (a1.getD i E41.z) j, (a3 : Int) = a3]) (hb' := [.row 3 1 (E3.cR r6.1)]) (by as_aux_lemma => kernel_rfl) (soft_Run_ok _ _ _ _ e7 (al := true)) (by as_aux_lemma => kernel_rfl) ⟨rfl, fun _ _ _ _ => rfl, rfl, fun _ _ _ _ => rfl, rfl, trivial⟩ (fun _ => (by as_aux_lemma => kernel_rfl)) (by simp) (by simp only [List.map_cons, List.map_nil, Elem.row_up]) (by as_aux_lemma => kernel_rfl) ?_
    refine segs [] tabOk mixed 4000 (S := .and (((!((r4.2.2 : Int) != 0)) = true → ((!((r4.2.2 : Int) != 0)) = true))) (.and (((r4.2.2 : Int) != 0) = false → (!((r4.2.2 : Int) != 0)) = true) (.br (((r4.2.2 : Int) != 0) || ((r6.2.2 : Int) != 0)) (.leaf 0) (.leaf 1)))) (by as_aux_lemma => kernel_rfl) ?_
    refine sk_and ((by decide : ∀ y0 : Bool, (((!y0) = true) → ((!y0) = true))) ((r4.2.2 : Int) != 0)) ?_
    refine sk_and ((by decide : ∀ y0 : Bool, ((y0 = false) → ((!y0) = true))) ((r4.2.2 : Int) != 0)) ?_
    refine br_ h ?_ ?_ <;> clear h <;> intro c10 h
    · refine sk_leaf ?_
      obtain rfl := some_ h
      exact end_ok [] Try.results6 (ps := [true = true]) (by as_aux_lemma => kernel_rfl) ⟨rfl, trivial⟩ (fun _ => ⟨rfl, by simp⟩)
    · refine sk_leaf ?_
      obtain ⟨r11, e12, h⟩ := bd_ h
      refine call_ok (d := some 41) (fn := 17) (ax := [.row 16720 1 0 r4.1.length, .row 16848 1 0 r6.1.length]) (args := [.pv ((E3.ro r4.1)), .pv ((E3.ro r6.1))]) (ps := [r4.1.length = r4.1.length, rowQ (E3.cR r4.1) 1 0 r4.1.length (fun i j => E3.cf (r4.1.getD i E3.z) j), r6.1.length = r6.1.length, rowQ (E3.cR r6.1) 1 0 r6.1.length (fun i j => E3.cf (r6.1.getD i E3.z) j)]) (hb' := []) (by as_aux_lemma => kernel_rfl) (slices_Equal_int_ok _ _ _ e12 (al := false)) (by as_aux_lemma => kernel_rfl) ⟨(by first | rfl | exact Elem.sub_len _ (by omega) | simp | (simp; omega)), E3.rowQ_all r4.1 rfl, (by first | rfl | exact Elem.sub_len _ (by omega) | simp | (simp; omega)), E3.rowQ_all r6.1 rfl, trivial⟩ (fun hx => by cases hx) (by simp) rfl (by as_aux_lemma => kernel_rfl) ?_
      refine segs [] tabOk mixed 4000 (S := .and ((r11 = true → (r11 = true))) (.and ((r11 = true → (r11 = true))) (.and ((r11 = true → (r11 = true))) (.and (((r11 && !(decide ((a2 : Int) > a3))) = true → ((r11 && !(decide ((a2 : Int) > a3))) = true))) (.and (((r11 && !(decide ((a2 : Int) > a3))) = true → ((r11 && !(decide ((a2 : Int) > a3))) = true))) (.and ((r11 = true → (r11 = true))) (.and ((r11 = true → ((decide ((a2 : Int) > a3)) = false → (r11 && !(decide ((a2 : Int) > a3))) = true))) (.and (r11 = true → r11 = true) (.leaf 0))))))))) (by as_aux_lemma => kernel_rfl) ?_
      refine sk_and ((by decide : ∀ y0 : Bool, ((y0 = true) → (y0 = true))) r11) ?_
      refine sk_and ((by decide : ∀ y0 : Bool, ((y0 = true) → (y0 = true))) r11) ?_
      refine sk_and ((by decide : ∀ y0 : Bool, ((y0 = true) → (y0 = true))) r11) ?_
      refine sk_and ((by decide : ∀ y0 y1 : Bool, (((y0 && (!y1)) = true) → ((y0 && (!y1)) = true))) r11 (decide ((a2 : Int) > a3))) ?_
      refine sk_and ((by decide : ∀ y0 y1 : Bool, (((y0 && (!y1)) = true) → ((y0 && (!y1)) = true))) r11 (decide ((a2 : Int) > a3))) ?_
      refine sk_and ((by decide : ∀ y0 : Bool, ((y0 = true) → (y0 = true))) r11) ?_
      refine sk_and ((by decide : ∀ y0 y1 : Bool, ((y0 = true) → ((y1 = false) → ((y0 && (!y1)) = true)))) r11 (decide ((a2 : Int) > a3))) ?_
      refine sk_and ((by decide : ∀ y0 : Bool, ((y0 = true) → (y0 = true))) r11) ?_
      refine sk_leaf ?_
      obtain rfl := some_ h
      exact end_ok [] Try.results6 (ps := [(r11 && ((decide ((a2 : Int) > a3)) || (decide ((r4.2.1 : Int) ≤ r6.2.1)))) = (r11 && ((decide ((a2 : Int) > a3)) || (decide ((r4.2.1 : Int) ≤ r6.2.1))))]) (by as_aux_lemma => kernel_rfl) ⟨rfl, trivial⟩ (fun _ => ⟨rfl, by simp⟩)

set_option maxRecDepth 100000 in
theorem slices_Clone_api_Raise_ok (a0 r : List Api_Raise) (h : slices_Clone_api_Raise a0 = some r) {al : Bool} : PCalls Try.prog 22 [.pv (E41.ro a0)] al (.row 0 2 0 r.length) [.row 41 2 (E41.cR r)] := by
  unfold slices_Clone_api_Raise at h
  obtain ⟨g, h⟩ := if_ h
  obtain rfl := some_ h
  refine fn_ok tabOk Try.func22 (by as_aux_lemma => kernel_rfl) (by as_aux_lemma => kernel_rfl) Try.ntmps22 (by simp) ?_
  refine segs [1] tabOk mixed 4000 (S := .leaf 0) (by as_aux_lemma => kernel_rfl) ?_
  refine sk_leaf ?_
  refine nil_ok (d1 := 3) (d2 := 4) (s := 2) (n := a0.length) (c := fun i j => E41.cf (a0.getD i E41.z) j) tabOk (by as_aux_lemma => kernel_rfl) ?_
  intro b hb
  refine segs [] tabOk mixed 4000 (S := .br b (.leaf 0) (.leaf 1)) (by as_aux_lemma => kernel_rfl) ?_
  refine sk_br ?_ ?_ <;> intro hc <;> refine sk_leaf ?_
  · obtain rfl : a0 = [] := List.eq_nil_of_length_eq_zero (hb hc)
    exact end_ok [(0, none)] Try.results22 (ps := [0 = 0, 0 = 0, E41.cR [] = []]) (by as_aux_lemma => kernel_rfl) ⟨rfl, rfl, rfl, trivial⟩ (fun _ => ⟨rfl, by simp only [List.mem_cons, List.not_mem_nil, or_false, forall_eq]; exact Elem.cR_bald E41_raw _⟩)
  · refine bs_ok (d := 5) (e := 41) (s := 2) (n := 0) (cs := []) (cs' := E41.cR []) (by as_aux_lemma => kernel_rfl) rfl (by as_aux_lemma => kernel_rfl) ?_
    refine segs [] tabOk mixed 4000 (S := .leaf 0) (by as_aux_lemma => kernel_rfl) ?_
    refine sk_leaf ?_
    refine app_ok (d := 7) (e := 41) (s := 2) (b := 16) (x := .row 16464 2 0 0) (y := .pv (E41.ro a0)) E41 (xs := []) (ys := a0) (by as_aux_lemma => kernel_rfl) rfl (.row 16464 [] 0 rfl (by as_aux_lemma => kernel_rfl)) (.ro a0) ⟨by simpa using g, by simp; omega⟩ (by as_aux_lemma => kernel_rfl) ?_
    refine segs [] tabOk mixed 4000 (S := .leaf 0) (by as_aux_lemma => kernel_rfl) ?_
    refine sk_leaf ?_
    exact end_ok [(0, some 16496)] Try.results22 (ps := [0 = 0, a0.length = a0.length, E41.cR a0 = E41.cR a0, AllPv (E41.cR a0)]) (by as_aux_lemma => kernel_rfl) ⟨rfl, rfl, rfl, Elem.cR_pv _ _, trivial⟩ (fun _ => ⟨rfl, by simp only [List.mem_cons, List.not_mem_nil, or_false, forall_eq]; exact Elem.cR_bald E41_raw _⟩)

set_option maxHeartbeats 40000000 in
set_option maxRecDepth 100000 in
theorem keep_SoftPart_ok (a0 : (List Int)) (a1 : (List Api_Raise)) (a2 : Api_Raise) (r : Bool) (h : keep_SoftPart a0 a1 a2 = some r) {al : Bool} : PCalls Try.prog 8 [.pv ((E3.ro a0)), .pv ((E41.ro a1)), .agg [.pv (.raw (.int .i64 a2.When)), .pv (.raw (.int .i64 a2.Soft))]] al (.pv (.raw (.bool r))) [] := by
  unfold keep_SoftPart at h
  refine fn_ok tabOk Try.func8 (by as_aux_lemma => kernel_rfl) (by as_aux_lemma => kernel_rfl) Try.ntmps8 (by simp) ?_
  refine segs [] tabOk mixed 4000 (S := .leaf 0) (by as_aux_lemma => kernel_rfl) ?_
  refine sk_leaf ?_
  obtain ⟨r1, e2, h⟩ := bd_ h
  refine call_ok (d := some 13) (fn := 18) (ax := []) (args := []) (ps := []) (hb' := []) (by as_aux_lemma => kernel_rfl) (keep_alive10_ok  _ e2 (al := true)) (by as_aux_lemma => kernel_rfl) trivial (fun _ => (by as_aux_lemma => kernel_rfl)) (by simp) rfl (by as_aux_lemma => kernel_rfl) ?_
  refine segs [] tabOk mixed 4000 (S := .br (!r1) (.leaf 0) (.leaf 1)) (by as_aux_lemma => kernel_rfl) ?_
  refine br_ h ?_ ?_ <;> clear h <;> intro c3 h
  · refine sk_leaf ?_
    obtain rfl := some_ h
    exact end_ok [] Try.results8 (ps := [false = false]) (by as_aux_lemma => kernel_rfl) ⟨rfl, trivial⟩ (fun _ => ⟨rfl, by simp⟩)
  · refine sk_leaf ?_
    obtain ⟨r4, e5, h⟩ := bd_ h
    refine call_ok (d := some 18) (fn := 19) (ax := [.pv ((E3.ro a0)), .pv ((E41.ro a1)), .pv (.raw (.int .i64 1))]) (args := [.pv ((E3.ro a0)), .pv ((E41.ro a1)), .pv (.raw (.int .i64 1))]) (ps := [a0.length = a0.length, ∀ i, i < a0.length → ∀ j, j < 1 → E3.cf (a0.getD i E3.z) j = E3.cf (a0.getD i E3.z) j, a1.length = a1.length, ∀ i, i < a1.length → ∀ j, j < 2 → E41.cf (a1.getD i E41.z) j = E41.cf (a1.getD i E41.z) j, (1 : Int) = 1]) (hb' := [.row 3 1 (E3.cR r4.1)]) (by as_aux_lemma => kernel_rfl) (soft_Run_ok _ _ _ _ e5 (al := true)) (by as_aux_lemma => kernel_rfl) ⟨rfl, fun _ _ _ _ => rfl, rfl, fun _ _ _ _ => rfl, rfl, trivial⟩ (fun _ => (by as_aux_lemma => kernel_rfl)) (by simp) (by simp only [List.map_cons, List.map_nil, Elem.row_up]) (by as_aux_lemma => kernel_rfl) ?_
    refine segs [] tabOk mixed 4000 (S := .leaf 0) (by as_aux_lemma => kernel_rfl) ?_
    refine sk_leaf ?_
    obtain ⟨r6, e7, h⟩ := bd_ h
    refine call_ok (d := some 25) (fn := 22) (ax := [.pv ((E41.ro a1))]) (args := [.pv ((E41.ro a1))]) (ps := [a1.length = a1.length, ∀ i, i < a1.length → ∀ j, j < 2 → E41.cf (a1.getD i E41.z) j = E41.cf (a1.getD i E41.z) j]) (hb' := [.row 41 2 (E41.cR r6)]) (by as_aux_lemma => kernel_rfl) (slices_Clone_api_Raise_ok _ _ e7 (al := true)) (by as_aux_lemma => kernel_rfl) ⟨rfl, fun _ _ _ _ => rfl, trivial⟩ (fun _ => (by as_aux_lemma => kernel_rfl)) (by simp) (by simp only [List.map_cons, List.map_nil, Elem.row_up]) (by as_aux_lemma => kernel_rfl) ?_
    refine segs [] tabOk mixed 4000 (S := .leaf 0) (by as_aux_lemma => kernel_rfl) ?_
    refine sk_leaf ?_
    refine bs_ok (d := 27) (e := 41) (s := 2) (n := 1) (cs := [.pv (.raw (.int .i64 a2.When)), .pv (.raw (.int .i64 a2.Soft))]) (cs' := E41.cR [a2]) (by as_aux_lemma => kernel_rfl) rfl (by as_aux_lemma => kernel_rfl) ?_
    refine segs [] tabOk mixed 4000 (S := .leaf 0) (by as_aux_lemma => kernel_rfl) ?_
    refine sk_leaf ?_
    obtain ⟨g8, h⟩ := if_ h
    refine app_ok (d := 28) (e := 41) (s := 2) (b := 16) (x := .row 16784 2 0 r6.length) (y := .row 16816 2 0 1) E41 (xs := r6) (ys := [a2]) (by as_aux_lemma => kernel_rfl) rfl (.row 16784 r6 r6.length rfl (by as_aux_lemma => kernel_rfl)) (.all 16816 41 [a2] 1 rfl (by as_aux_lemma => kernel_rfl)) g8 (by as_aux_lemma => kernel_rfl) ?_
    refine segs [] tabOk mixed 4000 (S := .leaf 0) (by as_aux_lemma => kernel_rfl) ?_
    refine sk_leaf ?_
    obtain ⟨r9, e10, h⟩ := bd_ h
    refine call_ok (d := some 29) (fn := 19) (ax := [.pv ((E3.ro a0)), .row 16832 2 0 ((r6 ++ [a2]).length), .pv (.raw (.int .i64 1))]) (args := [.pv ((E3.ro a0)), .pv ((E41.ro (r6 ++ [a2]))), .pv (.raw (.int .i64 1))]) (ps := [a0.length = a0.length, ∀ i, i < a0.length → ∀ j, j < 1 → E3.cf (a0.getD i E3.z) j = E3.cf (a0.getD i E3.z) j, ((r6 ++ [a2]).length) = (r6 ++ [a2]).length, rowQ (E41.cR (r6 ++ [a2])) 2 0 ((r6 ++ [a2]).length) (fun i j => E41.cf ((r6 ++ [a2]).getD i E41.z) j), (1 : Int) = 1]) (hb' := [.row 3 1 (E3.cR r9.1)]) (by as_aux_lemma => kernel_rfl) (soft_Run_ok _ _ _ _ e10 (al := false)) (by as_aux_lemma => kernel_rfl) ⟨rfl, fun _ _ _ _ => rfl, (by first | rfl | exact Elem.sub_len _ (by omega) | simp | (simp; omega)), E41.rowQ_all (r6 ++ [a2]) rfl, rfl, trivial⟩ (fun hx => by cases hx) (by simp) (by simp only [List.map_cons, List.map_nil, Elem.row_up]) (by as_aux_lemma => kernel_rfl) ?_
    refine segs [] tabOk mixed 4000 (S := .and (((!((r4.2.2 : Int) != 0)) = true → ((!((r4.2.2 : Int) != 0)) = true))) (.and (((r4.2.2 : Int) != 0) = false → (!((r4.2.2 : Int) != 0)) = true) (.and (((!(((r4.2.2 : Int) != 0) || ((r9.2.2 : Int) != 0))) = true → ((!(((r4.2.2 : Int) != 0) || ((r9.2.2 : Int) != 0))) = true))) (.and (((!(((r4.2.2 : Int) != 0) || ((r9.2.2 : Int) != 0))) = true → ((!(((r4.2.2 : Int) != 0) || ((r9.2.2 : Int) != 0))) = true))) (.and (((!(((r4.2.2 : Int) != 0) || ((r9.2.2 : Int) != 0))) = true → ((!(((r4.2.2 : Int) != 0) || ((r9.2.2 : Int) != 0))) = true))) (.and (((!(((r4.2.2 : Int) != 0) || ((r9.2.2 : Int) != 0))) = true → ((!(((r4.2.2 : Int) != 0) || ((r9.2.2 : Int) != 0))) = true))) (.and ((((r4.2.2 : Int) != 0) || ((r9.2.2 : Int) != 0)) = false → (!(((r4.2.2 : Int) != 0) || ((r9.2.2 : Int) != 0))) = true) (.br ((((r4.2.2 : Int) != 0) || ((r9.2.2 : Int) != 0)) || (decide ((a2.When : Int) > ((r4.1.length : Nat) : Int)))) (.leaf 0) (.and (((decide ((((r9.1.length : Nat) : Int) : Int) ≥ a2.When)) = true → ((decide ((((r9.1.length : Nat) : Int) : Int) ≥ a2.When)) = true))) (.and (((decide ((((r9.1.length : Nat) : Int) : Int) ≥ a2.When)) = true → ((decide ((((r9.1.length : Nat) : Int) : Int) ≥ a2.When)) = true))) (.and (((decide ((((r9.1.length : Nat) : Int) : Int) ≥ a2.When)) = true → ((decide ((((r9.1.length : Nat) : Int) : Int) ≥ a2.When)) = true))) (.and (((decide ((((r9.1.length : Nat) : Int) : Int) ≥ a2.When)) = true → (0 ≤ (a2.When : Int)))) (.and (((decide ((((r9.1.length : Nat) : Int) : Int) ≥ a2.When)) = true → ((Int.toNat a2.When) ≤ r4.1.length))) (.and (((decide ((((r9.1.length : Nat) : Int) : Int) ≥ a2.When)) = true → ((decide ((((r9.1.length : Nat) : Int) : Int) ≥ a2.When)) = true))) (.and (((decide ((((r9.1.length : Nat) : Int) : Int) ≥ a2.When)) = true → ((decide ((((r9.1.length : Nat) : Int) : Int) ≥ a2.When)) = true))) (.and (((decide ((((r9.1.length : Nat) : Int) : Int) ≥ a2.When)) = true → ((decide ((((r9.1.length : Nat) : Int) : Int) ≥ a2.When)) = true))) (.and (((decide ((((r9.1.length : Nat) : Int) : Int) ≥ a2.When)) = true → (0 ≤ (a2.When : Int)))) (.and (((decide ((((r9.1.length : Nat) : Int) : Int) ≥ a2.When)) = true → ((Int.toNat a2.When) ≤ r9.1.length))) (.leaf 1))))))))))))))))))) (by as_aux_lemma => kernel_rfl) ?_
    refine sk_and ((by decide : ∀ y0 : Bool, (((!y0) = true) → ((!y0) = true))) ((r4.2.2 : Int) != 0)) ?_
    refine sk_and ((by decide : ∀ y0 : Bool, ((y0 = false) → ((!y0) = true))) ((r4.2.2 : Int) != 0)) ?_
    refine sk_and ((by decide : ∀ y0 y1 : Bool, (((!(y0 || y1)) = true) → ((!(y0 || y1)) = true))) ((r4.2.2 : Int) != 0) ((r9.2.2 : Int) != 0)) ?_
    refine sk_and ((by decide : ∀ y0 y1 : Bool, (((!(y0 || y1)) = true) → ((!(y0 || y1)) = true))) ((r4.2.2 : Int) != 0) ((r9.2.2 : Int) != 0)) ?_
    refine sk_and ((by decide : ∀ y0 y1 : Bool, (((!(y0 || y1)) = true) → ((!(y0 || y1)) = true))) ((r4.2.2 : Int) != 0) ((r9.2.2 : Int) != 0)) ?_
    refine sk_and ((by decide : ∀ y0 y1 : Bool, (((!(y0 || y1)) = true) → ((!(y0 || y1)) = true))) ((r4.2.2 : Int) != 0) ((r9.2.2 : Int) != 0)) ?_
    refine sk_and ((by decide : ∀ y0 y1 : Bool, (((y0 || y1) = false) → ((!(y0 || y1)) = true))) ((r4.2.2 : Int) != 0) ((r9.2.2 : Int) != 0)) ?_
    refine br_ h ?_ ?_ <;> clear h <;> intro c18 h
    · refine sk_leaf ?_
      obtain rfl := some_ h
      exact end_ok [] Try.results8 (ps := [true = true]) (by as_aux_lemma => kernel_rfl) ⟨rfl, trivial⟩ (fun _ => ⟨rfl, by simp⟩)
    · refine sk_and ((by decide : ∀ y0 : Bool, ((y0 = true) → (y0 = true))) (decide ((((r9.1.length : Nat) : Int) : Int) ≥ a2.When))) ?_
      refine sk_and ((by decide : ∀ y0 : Bool, ((y0 = true) → (y0 = true))) (decide ((((r9.1.length : Nat) : Int) : Int) ≥ a2.When))) ?_
      refine sk_and ((by decide : ∀ y0 : Bool, ((y0 = true) → (y0 = true))) (decide ((((r9.1.length : Nat) : Int) : Int) ≥ a2.When))) ?_
      refine gd_ h ?_; clear h; intro g22 h
      refine gd_ h ?_; clear h; intro g23 h
      refine sk_and ((by decide : ∀ y0 : Bool, ((y0 = true) → (y0 = true))) (decide ((((r9.1.length : Nat) : Int) : Int) ≥ a2.When))) ?_
      refine sk_and ((by decide : ∀ y0 : Bool, ((y0 = true) → (y0 = true))) (decide ((((r9.1.length : Nat) : Int) : Int) ≥ a2.When))) ?_
      refine sk_and ((by decide : ∀ y0 : Bool, ((y0 = true) → (y0 = true))) (decide ((((r9.1.length : Nat) : Int) : Int) ≥ a2.When))) ?_
      refine gd_ h ?_; clear h; intro g27 h
      refine gd_ h ?_; clear h; intro g28 h
      refine sk_leaf ?_
      obtain ⟨r29, e30, h⟩ := bd_ h
      refine callG_ok (d := some 60) (fn := 17) (ax := [.row 16672 1 (0 + 0) ((Int.toNat a2.When) - 0), .row 16848 1 (0 + 0) ((Int.toNat a2.When) - 0)]) (args := [.pv ((E3.ro ((r4.1.drop (0 + 0)).take ((Int.toNat a2.When) - 0)))), .pv ((E3.ro ((r9.1.drop (0 + 0)).take ((Int.toNat a2.When) - 0))))]) (g := (decide ((((r9.1.length : Nat) : Int) : Int) ≥ a2.When))) (ws := [(decide ((((r9.1.length : Nat) : Int) : Int) ≥ a2.When)) = true, (decide ((((r9.1.length : Nat) : Int) : Int) ≥ a2.When)) = true]) (ps := [((Int.toNat a2.When) - 0) = ((r4.1.drop (0 + 0)).take ((Int.toNat a2.When) - 0)).length, rowQ (E3.cR r4.1) 1 (0 + 0) ((Int.toNat a2.When) - 0) (fun i j => E3.cf (((r4.1.drop (0 + 0)).take ((Int.toNat a2.When) - 0)).getD i E3.z) j), ((Int.toNat a2.When) - 0) = ((r9.1.drop (0 + 0)).take ((Int.toNat a2.When) - 0)).length, rowQ (E3.cR r9.1) 1 (0 + 0) ((Int.toNat a2.When) - 0) (fun i j => E3.cf (((r9.1.drop (0 + 0)).take ((Int.toNat a2.When) - 0)).getD i E3.z) j)]) (by as_aux_lemma => kernel_rfl) (fun hg => ⟨((by decide : ∀ y0 : Bool, ((y0 = true) → (y0 = true))) (decide ((((r9.1.length : Nat) : Int) : Int) ≥ a2.When))) hg, ((by decide : ∀ y0 : Bool, ((y0 = true) → (y0 = true))) (decide ((((r9.1.length : Nat) : Int) : Int) ≥ a2.When))) hg, trivial⟩) (fun hg => slices_Equal_int_ok _ _ _ (by rw [hg] at e30; exact e30) (al := false)) (by as_aux_lemma => kernel_rfl) (fun hg => (by have q0 := g22 hg; have q1 := g23 hg; have q2 := g27 hg; have q3 := g28 hg; exact ⟨(by first | rfl | exact Elem.sub_len _ (by omega) | simp | (simp; omega)), E3.rowQ_part r4.1 (0 + 0) ((Int.toNat a2.When) - 0) (by first | omega | (simp at *; omega)), (by first | rfl | exact Elem.sub_len _ (by omega) | simp | (simp; omega)), E3.rowQ_part r9.1 (0 + 0) ((Int.toNat a2.When) - 0) (by first | omega | (simp at *; omega)), trivial⟩)) (fun hx => by cases hx) ?_
      refine segs [] tabOk mixed 4000 (S := .and ((decide ((((r9.1.length : Nat) : Int) : Int) ≥ a2.When)) = true → (decide ((((r9.1.length : Nat) : Int) : Int) ≥ a2.When)) = true) (.leaf 0)) (by as_aux_lemma => kernel_rfl) ?_
      refine sk_and ((by decide : ∀ y0 : Bool, ((y0 = true) → (y0 = true))) (decide ((((r9.1.length : Nat) : Int) : Int) ≥ a2.When))) ?_
      refine sk_leaf ?_
      obtain rfl := some_ h
      exact end_ok [] Try.results8 (ps := [((decide ((((r9.1.length : Nat) : Int) : Int) ≥ a2.When)) && r29) = ((decide ((((r9.1.length : Nat) : Int) : Int) ≥ a2.When)) && r29)]) (by as_aux_lemma => kernel_rfl) ⟨rfl, trivial⟩ (fun _ => ⟨rfl, by simp⟩)

end Go.Proofs.Ytcbknmjbhjbifaa
