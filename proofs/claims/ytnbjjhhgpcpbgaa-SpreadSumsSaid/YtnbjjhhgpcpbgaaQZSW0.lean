/- The functions do as their models: printed by program. -/
import Derived.Test.YtnbjjhhgpcpbgaaQZST
import Derived.Test.YtnbjjhhgpcpbgaaQZSM
import Derived.Test.YtnbjjhhgpcpbgaaAbYh
import Derived.Test.YtnbjjhhgpcpbgaaAbYc
import Derived.Test.YtnbjjhhgpcpbgaaAbYw
import Derived.Test.YtnbjjhhgpcpbgaaSpM
import Derived.Test.YtnbjjhhgpcpbgaaSpZ
set_option linter.unusedSimpArgs false
set_option linter.unusedVariables false
namespace Go.Proofs.Ytnbjjhhgpcpbgaa
open Go Go.Ab
theorem mixed : Try.prog.follows .mixedOrders = true := by kernel_rfl
def E3 : Elem Int := { s := 1, cf := fun x j => match j with | _ => .raw (.int .i64 x), z := 0 }
theorem E3_raw : E3.Raw := by
  intro x j
  exact ⟨_, rfl⟩
def E22 : Elem (List Int) := { s := 1, cf := fun x j => match j with | _ => (E3.ro x), z := [] }
attribute [local irreducible] V VS runS Sk.Holds

set_option maxHeartbeats 40000000 in
set_option maxRecDepth 100000 in
theorem spread_Wrong_1_ok (a0 : Int) (r : Bool) (h : spread_Wrong_1 a0 = some r) {al : Bool} : PCalls Try.prog 21 [.pv (.raw (.int .i64 a0))] al (.pv (.raw (.bool r))) [] := by
  unfold spread_Wrong_1 at h
  refine fn_ok tabOk Try.func21 (by kernel_rfl) (by kernel_rfl) Try.ntmps21 (by simp) ?_
  refine segs [] tabOk mixed 4000 (S := .and (((!(decide ((a0 : Int) < 0))) = true → ((!(decide ((a0 : Int) < 0))) = true))) (.and ((decide ((a0 : Int) < 0)) = false → (!(decide ((a0 : Int) < 0))) = true) (.leaf 0))) (by kernel_rfl) ?_
  refine sk_and (fun h => h) ?_
  refine sk_and ((by decide : ∀ y0 : Bool, ((y0 = false) → ((!y0) = true))) (decide ((a0 : Int) < 0))) ?_
  refine sk_leaf ?_
  obtain rfl := some_ h
  exact end_ok [] Try.results21 (ps := [((decide ((a0 : Int) < 0)) || (decide ((a0 : Int) > 1073741824))) = ((decide ((a0 : Int) < 0)) || (decide ((a0 : Int) > 1073741824)))]) (by kernel_rfl) ⟨rfl, trivial⟩ (fun _ => ⟨rfl, by simp⟩)

set_option maxHeartbeats 40000000 in
set_option maxRecDepth 100000 in
theorem slices_IndexFunc_int_spread_Wrong_1_ok (a0 : (List Int)) (r : Int) (h : slices_IndexFunc_int_spread_Wrong_1 a0 = some r) {al : Bool} : PCalls Try.prog 26 [.pv ((E3.ro a0)), .fn 21 []] al (.pv (.raw (.int .i64 r))) [] := by
  unfold slices_IndexFunc_int_spread_Wrong_1 at h
  refine fn_ok tabOk Try.func26 (by kernel_rfl) (by kernel_rfl) Try.ntmps26 (by simp) ?_
  refine segs [] tabOk mixed 4000 (S := .leaf 0) (by kernel_rfl) ?_
  refine sk_leaf ?_
  refine len_ro (by kernel_rfl) 0 (s := 1) (n := a0.length) (c := fun i j => E3.cf (a0.getD i E3.z) j) (by kernel_rfl) ?_; intro hl1_0
  replace h : (fun (x : Nat × Nat) => slices_IndexFunc_int_spread_Wrong_1_l1 a0 x.1 x.2 = some r) (FUEL, 0) := h
  refine loop_ok (by kernel_rfl) (X := Nat × Nat) (fun x => slices_IndexFunc_int_spread_Wrong_1_l1 a0 x.1 x.2 = some r) (fun x => x.1) (fun x => mk 19 [(0, .pv ((E3.ro a0))), (1, .fn 21 []), (4, .pv (.raw (.int .i64 0))), (7, .pv (.raw (.int .i64 ((a0.length : Nat) : Int)))), (8, .pv (.raw (.int .i64 ((x.2 : Nat) : Int))))] []) (FUEL, 0) h ?_ ?_
  · exact sub_ok (ρ := []) (l := [a0.length = a0.length, ∀ i, i < a0.length → ∀ j, j < 1 → E3.cf (a0.getD i E3.z) j = E3.cf (a0.getD i E3.z) j, (0 : Int) = 0, (((a0.length : Nat) : Int) : Int) = ((a0.length : Nat) : Int), (0 : Int) = ((0 : Nat) : Int)]) (by kernel_rfl) ⟨rfl, fun _ _ _ _ => rfl, rfl, rfl, (by first | rfl | simp), trivial⟩
  · clear h; rintro ⟨n1, k1⟩ h p1 hp1
    obtain _ | n1 := n1
    · cases (show (none : Option (Int)) = some r from h)
    have h : slices_IndexFunc_int_spread_Wrong_1_l1 a0 (n1 + 1) k1 = some r := h
    unfold slices_IndexFunc_int_spread_Wrong_1_l1 at h
    refine segs [] tabOk mixed 4000 (S := .br (decide ((((k1 : Nat) : Int) : Int) < ((a0.length : Nat) : Int))) (.and (0 ≤ (((k1 : Nat) : Int) : Int) ∧ ((k1 : Nat) : Int) < ((a0.length : Nat) : Int)) (.leaf 0)) (.leaf 1)) (by kernel_rfl) ?_
    refine br_ h ?_ ?_ <;> clear h <;> intro c2 h
    · refine sk_and ⟨Int.natCast_nonneg _, of_decide_eq_true c2⟩ ?_
      refine sk_leaf ?_
      obtain ⟨r4, e5, h⟩ := bd_ h
      refine call_ok (d := some 16) (fn := 21) (ax := [.pv (.raw (.int .i64 (a0.getD k1 0)))]) (args := [.pv (.raw (.int .i64 (a0.getD k1 0)))]) (ps := [((a0.getD k1 0) : Int) = (a0.getD k1 0)]) (hb' := []) (by kernel_rfl) (spread_Wrong_1_ok _ _ e5 (al := true)) (by kernel_rfl) ⟨rfl, trivial⟩ (fun _ => (by kernel_rfl)) (by simp) rfl (by kernel_rfl) ?_
      refine segs [] tabOk mixed 4000 (S := .br r4 (.leaf 0) (.leaf 1)) (by kernel_rfl) ?_
      refine br_ h ?_ ?_ <;> clear h <;> intro c6 h
      · refine sk_leaf ?_
        obtain rfl := some_ h
        exact end_ok [] Try.results26 (ps := [(((k1 : Nat) : Int) : Int) = ((k1 : Nat) : Int)]) (by kernel_rfl) ⟨rfl, trivial⟩ (fun _ => ⟨rfl, by simp⟩)
      · refine sk_leaf ?_
        refine back_ok (p := p1) (by kernel_rfl) (hp1 (n1, k1 + 1) _ h (Nat.lt_succ_self n1) ?_)
        exact sub_ok (ρ := []) (l := [a0.length = a0.length, ∀ i, i < a0.length → ∀ j, j < 1 → E3.cf (a0.getD i E3.z) j = E3.cf (a0.getD i E3.z) j, (0 : Int) = 0, (((a0.length : Nat) : Int) : Int) = ((a0.length : Nat) : Int), ((IntKind.i64.wrap (((k1 : Nat) : Int) + 1)) : Int) = (((k1 + 1) : Nat) : Int)]) (by kernel_rfl) ⟨rfl, fun _ _ _ _ => rfl, rfl, rfl, (wrap_nat (Int.ofNat_lt.1 (of_decide_eq_true c2)) (by omega)), trivial⟩
    · refine sk_leaf ?_
      obtain rfl := some_ h
      exact end_ok [] Try.results26 (ps := [((-1) : Int) = (-1)]) (by kernel_rfl) ⟨rfl, trivial⟩ (fun _ => ⟨rfl, by simp⟩)

set_option maxHeartbeats 40000000 in
set_option maxRecDepth 100000 in
theorem slices_ContainsFunc_int_spread_Wrong_1_ok (a0 : (List Int)) (r : Bool) (h : slices_ContainsFunc_int_spread_Wrong_1 a0 = some r) {al : Bool} : PCalls Try.prog 20 [.pv ((E3.ro a0)), .fn 21 []] al (.pv (.raw (.bool r))) [] := by
  unfold slices_ContainsFunc_int_spread_Wrong_1 at h
  refine fn_ok tabOk Try.func20 (by kernel_rfl) (by kernel_rfl) Try.ntmps20 (by simp) ?_
  refine segs [] tabOk mixed 4000 (S := .leaf 0) (by kernel_rfl) ?_
  refine sk_leaf ?_
  obtain ⟨r1, e2, h⟩ := bd_ h
  refine call_ok (d := some 7) (fn := 26) (ax := [.pv ((E3.ro a0)), .fn 21 []]) (args := [.pv ((E3.ro a0)), .fn 21 []]) (ps := [a0.length = a0.length, ∀ i, i < a0.length → ∀ j, j < 1 → E3.cf (a0.getD i E3.z) j = E3.cf (a0.getD i E3.z) j]) (hb' := []) (by kernel_rfl) (slices_IndexFunc_int_spread_Wrong_1_ok _ _ e2 (al := false)) (by kernel_rfl) ⟨rfl, fun _ _ _ _ => rfl, trivial⟩ (fun hx => by cases hx) (by simp) rfl (by kernel_rfl) ?_
  refine segs [] tabOk mixed 4000 (S := .leaf 0) (by kernel_rfl) ?_
  refine sk_leaf ?_
  obtain rfl := some_ h
  exact end_ok [] Try.results20 (ps := [(decide ((r1 : Int) ≥ 0)) = (decide ((r1 : Int) ≥ 0))]) (by kernel_rfl) ⟨rfl, trivial⟩ (fun _ => ⟨rfl, by simp⟩)

set_option maxHeartbeats 40000000 in
set_option maxRecDepth 100000 in
theorem spread_Wrong_ok (a0 : (List Int)) (a1 : Int) (r : Int) (h : spread_Wrong a0 a1 = some r) {al : Bool} : PCalls Try.prog 10 [.pv ((E3.ro a0)), .pv (.raw (.int .i64 a1))] al (.pv (.raw (.int .i64 r))) [] := by
  unfold spread_Wrong at h
  refine fn_ok tabOk Try.func10 (by kernel_rfl) (by kernel_rfl) Try.ntmps10 (by simp) ?_
  refine segs [] tabOk mixed 4000 (S := .and (((!(decide ((a1 : Int) < 1))) = true → ((!(decide ((a1 : Int) < 1))) = true))) (.and ((decide ((a1 : Int) < 1)) = false → (!(decide ((a1 : Int) < 1))) = true) (.and (((!((decide ((a1 : Int) < 1)) || (decide ((a1 : Int) > 8)))) = true → ((!((decide ((a1 : Int) < 1)) || (decide ((a1 : Int) > 8)))) = true))) (.and (((!((decide ((a1 : Int) < 1)) || (decide ((a1 : Int) > 8)))) = true → ((!((decide ((a1 : Int) < 1)) || (decide ((a1 : Int) > 8)))) = true))) (.and (((decide ((a1 : Int) < 1)) || (decide ((a1 : Int) > 8))) = false → (!((decide ((a1 : Int) < 1)) || (decide ((a1 : Int) > 8)))) = true) (.leaf 0)))))) (by kernel_rfl) ?_
  refine sk_and (fun h => h) ?_
  refine sk_and ((by decide : ∀ y0 : Bool, ((y0 = false) → ((!y0) = true))) (decide ((a1 : Int) < 1))) ?_
  refine sk_and (fun h => h) ?_
  refine sk_and (fun h => h) ?_
  refine sk_and ((by decide : ∀ y0 : Bool, ((y0 = false) → ((!y0) = true))) ((decide ((a1 : Int) < 1)) || (decide ((a1 : Int) > 8)))) ?_
  refine sk_leaf ?_
  obtain ⟨r6, e7, h⟩ := bd_ h
  refine callG_ok (d := some 18) (fn := 20) (ax := [.pv ((E3.ro a0)), .fn 21 []]) (args := [.pv ((E3.ro a0)), .fn 21 []]) (g := (!(((decide ((a1 : Int) < 1)) || (decide ((a1 : Int) > 8))) || (decide ((((a0.length : Nat) : Int) : Int) > 400))))) (ws := [(!(((decide ((a1 : Int) < 1)) || (decide ((a1 : Int) > 8))) || (decide ((((a0.length : Nat) : Int) : Int) > 400)))) = true]) (ps := [a0.length = a0.length, ∀ i, i < a0.length → ∀ j, j < 1 → E3.cf (a0.getD i E3.z) j = E3.cf (a0.getD i E3.z) j]) (by kernel_rfl) (fun hg => ⟨((by decide : ∀ y0 : Bool, ((y0 = true) → (y0 = true))) (!(((decide ((a1 : Int) < 1)) || (decide ((a1 : Int) > 8))) || (decide ((((a0.length : Nat) : Int) : Int) > 400))))) hg, trivial⟩) (fun hg => slices_ContainsFunc_int_spread_Wrong_1_ok _ _ (by rw [hg] at e7; exact e7) (al := false)) (by kernel_rfl) (fun hg => ⟨rfl, fun _ _ _ _ => rfl, trivial⟩) (fun hx => by cases hx) ?_
  refine segs [] tabOk mixed 4000 (S := .and ((((decide ((a1 : Int) < 1)) || (decide ((a1 : Int) > 8))) || (decide ((((a0.length : Nat) : Int) : Int) > 400))) = false → (!(((decide ((a1 : Int) < 1)) || (decide ((a1 : Int) > 8))) || (decide ((((a0.length : Nat) : Int) : Int) > 400)))) = true) (.br ((((decide ((a1 : Int) < 1)) || (decide ((a1 : Int) > 8))) || (decide ((((a0.length : Nat) : Int) : Int) > 400))) || r6) (.leaf 0) (.leaf 1))) (by kernel_rfl) ?_
  refine sk_and ((by decide : ∀ y0 : Bool, ((y0 = false) → ((!y0) = true))) (((decide ((a1 : Int) < 1)) || (decide ((a1 : Int) > 8))) || (decide ((((a0.length : Nat) : Int) : Int) > 400)))) ?_
  refine br_ h ?_ ?_ <;> clear h <;> intro c9 h
  · refine sk_leaf ?_
    obtain rfl := some_ h
    exact end_ok [] Try.results10 (ps := [(2 : Int) = 2]) (by kernel_rfl) ⟨rfl, trivial⟩ (fun _ => ⟨rfl, by simp⟩)
  · refine sk_leaf ?_
    obtain rfl := some_ h
    exact end_ok [] Try.results10 (ps := [(0 : Int) = 0]) (by kernel_rfl) ⟨rfl, trivial⟩ (fun _ => ⟨rfl, by simp⟩)

set_option maxHeartbeats 40000000 in
set_option maxRecDepth 100000 in
theorem spread_inOrder_ok (a0 : Int) (r : (List Int)) (h : spread_inOrder a0 = some r) {al : Bool} : PCalls Try.prog 19 [.pv (.raw (.int .i64 a0))] al (.row 0 1 0 r.length) [.row 3 1 (E3.cR r)] := by
  unfold spread_inOrder at h
  refine fn_ok tabOk Try.func19 (by kernel_rfl) (by kernel_rfl) Try.ntmps19 (by simp) ?_
  refine segs [] tabOk mixed 4000 (S := .leaf 0) (by kernel_rfl) ?_
  refine sk_leaf ?_
  obtain ⟨g1, h⟩ := if_ h
  refine mks_ok (d := 6) (e := 3) (s := 1) (b := 8) (n := a0) (zs := [.pv (.raw (.int .i64 0))]) E3 (by kernel_rfl) (by kernel_rfl) rfl (by kernel_rfl) g1 (by kernel_rfl) ?_
  refine segs [] tabOk mixed 4000 (S := .leaf 0) (by kernel_rfl) ?_
  refine sk_leaf ?_
  refine len_row (by kernel_rfl) 16768 (e := 3) (s := 1) (n := (List.replicate (Int.toNat a0) (0 : Int)).length) (cs := E3.cR (List.replicate (Int.toNat a0) (0 : Int))) (by kernel_rfl) (Elem.cR_length _ _) ?_; intro hl1_0
  replace h : (fun (x : Nat × Nat × List Int) => spread_inOrder_l1 a0 x.1 x.2.1 x.2.2 = some r) (FUEL, 0, (List.replicate (Int.toNat a0) (0 : Int))) := h
  refine loop_ok (by kernel_rfl) (X := Nat × Nat × List Int) (fun x => spread_inOrder_l1 a0 x.1 x.2.1 x.2.2 = some r) (fun x => x.1) (fun x => mk 18 [(2, .pv (.raw (.slice none 0 0))), (3, .row 0 1 0 x.2.2.length), (8, .pv (.raw (.int .i64 (((Int.toNat a0) : Nat) : Int)))), (9, .pv (.raw (.int .i64 ((x.2.1 : Nat) : Int))))] [(0, .row 3 1 (E3.cR x.2.2))]) (FUEL, 0, (List.replicate (Int.toNat a0) (0 : Int))) h ?_ ?_
  · exact sub_ok (ρ := [(0, some 16768)]) (l := [0 = 0, (Int.toNat a0) = ((List.replicate (Int.toNat a0) (0 : Int)).length), ((((Int.toNat a0) : Nat) : Int) : Int) = (((Int.toNat a0) : Nat) : Int), (0 : Int) = ((0 : Nat) : Int), E3.cR (List.replicate (Int.toNat a0) (0 : Int)) = E3.cR (List.replicate (Int.toNat a0) (0 : Int)), AllPv (E3.cR (List.replicate (Int.toNat a0) (0 : Int)))]) (by kernel_rfl) ⟨rfl, (by first | rfl | (simp; done) | omega | (simp <;> omega)), rfl, (by first | rfl | simp), rfl, (Elem.cR_pv _ _), trivial⟩
  · clear h; rintro ⟨n1, k2, l3⟩ h p1 hp1
    obtain _ | n1 := n1
    · cases (show (none : Option ((List Int))) = some r from h)
    have h : spread_inOrder_l1 a0 (n1 + 1) k2 l3 = some r := h
    unfold spread_inOrder_l1 at h
    refine segs [] tabOk mixed 4000 (S := .br (decide ((((k2 : Nat) : Int) : Int) < (((Int.toNat a0) : Nat) : Int))) (.and (0 ≤ (((k2 : Nat) : Int) : Int) ∧ ((k2 : Nat) : Int) < ((l3.length : Nat) : Int)) (.leaf 0)) (.leaf 1)) (by kernel_rfl) ?_
    refine br_ h ?_ ?_ <;> clear h <;> intro c4 h
    · refine gd_ h ?_; clear h; intro g5 h
      refine sk_leaf ?_
      refine st_ok (id := 0) (i := (0 + k2)) (j := 0) (e := 3) (vs := [.pv (.raw (.int .i64 ((k2 : Nat) : Int)))]) E3 (xs := l3) ((k2 : Nat) : Int) (by kernel_rfl) (by kernel_rfl) (by first | omega | (simp at * <;> omega) | (simp_all <;> omega)) (by exact Nat.le_of_ble_eq_true rfl) rfl ?_
      refine segs [] tabOk mixed 4000 (S := .leaf 0) (by kernel_rfl) ?_
      refine sk_leaf ?_
      refine back_ok (p := p1) (by kernel_rfl) (hp1 (n1, k2 + 1, (l3.set (0 + k2) ((k2 : Nat) : Int))) _ h (Nat.lt_succ_self n1) ?_)
      exact sub_ok (ρ := [(0, some 0)]) (l := [0 = 0, l3.length = ((l3.set (0 + k2) ((k2 : Nat) : Int)).length), ((((Int.toNat a0) : Nat) : Int) : Int) = (((Int.toNat a0) : Nat) : Int), ((IntKind.i64.wrap (((k2 : Nat) : Int) + 1)) : Int) = (((k2 + 1) : Nat) : Int), E3.cR (l3.set (0 + k2) ((k2 : Nat) : Int)) = E3.cR (l3.set (0 + k2) ((k2 : Nat) : Int)), AllPv (E3.cR (l3.set (0 + k2) ((k2 : Nat) : Int)))]) (by kernel_rfl) ⟨rfl, (by first | rfl | (simp; done) | omega | (simp <;> omega)), rfl, (wrap_nat (Int.ofNat_lt.1 (of_decide_eq_true c4)) (by omega)), rfl, (Elem.cR_pv _ _), trivial⟩
    · refine sk_leaf ?_
      obtain rfl := some_ h
      exact end_ok [(0, some 0)] Try.results19 (ps := [0 = 0, l3.length = l3.length, E3.cR l3 = E3.cR l3, AllPv (E3.cR l3)]) (by kernel_rfl) ⟨rfl, rfl, rfl, (Elem.cR_pv _ _), trivial⟩ (fun _ => ⟨rfl, by simp only [List.mem_cons, List.not_mem_nil, or_false, forall_eq_or_imp, forall_eq]; exact Elem.cR_bald E3_raw _⟩)

set_option maxHeartbeats 40000000 in
set_option maxRecDepth 100000 in
theorem slices_Min_int_ok (a0 : (List Int)) (r : Int) (h : slices_Min_int a0 = some r) {al : Bool} : PCalls Try.prog 29 [.pv ((E3.ro a0))] al (.pv (.raw (.int .i64 r))) [] := by
  unfold slices_Min_int at h
  refine fn_ok tabOk Try.func29 (by kernel_rfl) (by kernel_rfl) Try.ntmps29 (by simp) ?_
  refine segs [] tabOk mixed 4000 (S := .br (decide ((((a0.length : Nat) : Int) : Int) < 1)) (.bad) (.and (0 ≤ (0 : Int) ∧ 0 < ((a0.length : Nat) : Int)) (.leaf 0))) (by kernel_rfl) ?_
  refine br_ h ?_ ?_ <;> clear h <;> intro c1 h
  · cases h
  · refine gd_ h ?_; clear h; intro g2 h
    refine sk_leaf ?_
    refine len_ro (by kernel_rfl) 0 (s := 1) (n := a0.length) (c := fun i j => E3.cf (a0.getD i E3.z) j) (by kernel_rfl) ?_; intro hl1_0
    replace h : (fun (x : Nat × Int × Int) => slices_Min_int_l1 a0 x.1 x.2.1 x.2.2 = some r) (FUEL, (a0.getD 0 0), 1) := h
    refine loop_ok (by kernel_rfl) (X := Nat × Int × Int) (fun x => slices_Min_int_l1 a0 x.1 x.2.1 x.2.2 = some r) (fun x => x.1) (fun x => mk 25 [(0, .pv ((E3.ro a0))), (2, .pv (.raw (.int .i64 0))), (3, .pv (.raw (.int .i64 x.2.1))), (4, .pv (.raw (.int .i64 x.2.2)))] []) (FUEL, (a0.getD 0 0), 1) h ?_ ?_
    · exact sub_ok (ρ := []) (l := [a0.length = a0.length, ∀ i, i < a0.length → ∀ j, j < 1 → E3.cf (a0.getD i E3.z) j = E3.cf (a0.getD i E3.z) j, (0 : Int) = 0, ((a0.getD 0 0) : Int) = (a0.getD 0 0), (1 : Int) = 1]) (by kernel_rfl) ⟨rfl, fun _ _ _ _ => rfl, rfl, rfl, rfl, trivial⟩
    · clear h; rintro ⟨n1, x3, x4⟩ h p1 hp1
      obtain _ | n1 := n1
      · cases (show (none : Option (Int)) = some r from h)
      have h : slices_Min_int_l1 a0 (n1 + 1) x3 x4 = some r := h
      unfold slices_Min_int_l1 at h
      refine segs [] tabOk mixed 4000 (S := .br (decide ((x4 : Int) < ((a0.length : Nat) : Int))) (.and (0 ≤ (x4 : Int) ∧ x4 < ((a0.length : Nat) : Int)) (.leaf 0)) (.leaf 1)) (by kernel_rfl) ?_
      refine br_ h ?_ ?_ <;> clear h <;> intro c5 h
      · refine gd_ h ?_; clear h; intro g6 h
        refine sk_leaf ?_
        refine back_ok (p := p1) (by kernel_rfl) (hp1 (n1, (if ((a0.getD (Int.toNat x4) 0) : Int) < x3 then (a0.getD (Int.toNat x4) 0) else x3), (IntKind.i64.wrap (x4 + 1))) _ h (Nat.lt_succ_self n1) ?_)
        exact sub_ok (ρ := []) (l := [a0.length = a0.length, ∀ i, i < a0.length → ∀ j, j < 1 → E3.cf (a0.getD i E3.z) j = E3.cf (a0.getD i E3.z) j, (0 : Int) = 0, ((if ((a0.getD (Int.toNat x4) 0) : Int) < x3 then (a0.getD (Int.toNat x4) 0) else x3) : Int) = (if ((a0.getD (Int.toNat x4) 0) : Int) < x3 then (a0.getD (Int.toNat x4) 0) else x3), ((IntKind.i64.wrap (x4 + 1)) : Int) = (IntKind.i64.wrap (x4 + 1))]) (by kernel_rfl) ⟨rfl, fun _ _ _ _ => rfl, rfl, rfl, rfl, trivial⟩
      · refine sk_leaf ?_
        obtain rfl := some_ h
        exact end_ok [] Try.results29 (ps := [(x3 : Int) = x3]) (by kernel_rfl) ⟨rfl, trivial⟩ (fun _ => ⟨rfl, by simp⟩)

set_option maxHeartbeats 40000000 in
set_option maxRecDepth 100000 in
theorem slices_Index_int_ok (a0 : (List Int)) (a1 : Int) (r : Int) (h : slices_Index_int a0 a1 = some r) {al : Bool} : PCalls Try.prog 28 [.pv ((E3.ro a0)), .pv (.raw (.int .i64 a1))] al (.pv (.raw (.int .i64 r))) [] := by
  unfold slices_Index_int at h
  refine fn_ok tabOk Try.func28 (by kernel_rfl) (by kernel_rfl) Try.ntmps28 (by simp) ?_
  refine segs [] tabOk mixed 4000 (S := .leaf 0) (by kernel_rfl) ?_
  refine sk_leaf ?_
  refine len_ro (by kernel_rfl) 0 (s := 1) (n := a0.length) (c := fun i j => E3.cf (a0.getD i E3.z) j) (by kernel_rfl) ?_; intro hl1_0
  replace h : (fun (x : Nat × Nat) => slices_Index_int_l1 a0 a1 x.1 x.2 = some r) (FUEL, 0) := h
  refine loop_ok (by kernel_rfl) (X := Nat × Nat) (fun x => slices_Index_int_l1 a0 a1 x.1 x.2 = some r) (fun x => x.1) (fun x => mk 19 [(0, .pv ((E3.ro a0))), (1, .pv (.raw (.int .i64 a1))), (4, .pv (.raw (.int .i64 0))), (7, .pv (.raw (.int .i64 ((a0.length : Nat) : Int)))), (8, .pv (.raw (.int .i64 ((x.2 : Nat) : Int))))] []) (FUEL, 0) h ?_ ?_
  · exact sub_ok (ρ := []) (l := [a0.length = a0.length, ∀ i, i < a0.length → ∀ j, j < 1 → E3.cf (a0.getD i E3.z) j = E3.cf (a0.getD i E3.z) j, (a1 : Int) = a1, (0 : Int) = 0, (((a0.length : Nat) : Int) : Int) = ((a0.length : Nat) : Int), (0 : Int) = ((0 : Nat) : Int)]) (by kernel_rfl) ⟨rfl, fun _ _ _ _ => rfl, rfl, rfl, rfl, (by first | rfl | simp), trivial⟩
  · clear h; rintro ⟨n1, k1⟩ h p1 hp1
    obtain _ | n1 := n1
    · cases (show (none : Option (Int)) = some r from h)
    have h : slices_Index_int_l1 a0 a1 (n1 + 1) k1 = some r := h
    unfold slices_Index_int_l1 at h
    refine segs [] tabOk mixed 4000 (S := .br (decide ((((k1 : Nat) : Int) : Int) < ((a0.length : Nat) : Int))) (.and (0 ≤ (((k1 : Nat) : Int) : Int) ∧ ((k1 : Nat) : Int) < ((a0.length : Nat) : Int)) (.br ((a1 : Int) == (a0.getD k1 0)) (.leaf 0) (.leaf 1))) (.leaf 2)) (by kernel_rfl) ?_
    refine br_ h ?_ ?_ <;> clear h <;> intro c2 h
    · refine sk_and ⟨Int.natCast_nonneg _, of_decide_eq_true c2⟩ ?_
      refine br_ h ?_ ?_ <;> clear h <;> intro c4 h
      · refine sk_leaf ?_
        obtain rfl := some_ h
        exact end_ok [] Try.results28 (ps := [(((k1 : Nat) : Int) : Int) = ((k1 : Nat) : Int)]) (by kernel_rfl) ⟨rfl, trivial⟩ (fun _ => ⟨rfl, by simp⟩)
      · refine sk_leaf ?_
        refine back_ok (p := p1) (by kernel_rfl) (hp1 (n1, k1 + 1) _ h (Nat.lt_succ_self n1) ?_)
        exact sub_ok (ρ := []) (l := [a0.length = a0.length, ∀ i, i < a0.length → ∀ j, j < 1 → E3.cf (a0.getD i E3.z) j = E3.cf (a0.getD i E3.z) j, (a1 : Int) = a1, (0 : Int) = 0, (((a0.length : Nat) : Int) : Int) = ((a0.length : Nat) : Int), ((IntKind.i64.wrap (((k1 : Nat) : Int) + 1)) : Int) = (((k1 + 1) : Nat) : Int)]) (by kernel_rfl) ⟨rfl, fun _ _ _ _ => rfl, rfl, rfl, rfl, (wrap_nat (Int.ofNat_lt.1 (of_decide_eq_true c2)) (by omega)), trivial⟩
    · refine sk_leaf ?_
      obtain rfl := some_ h
      exact end_ok [] Try.results28 (ps := [((-1) : Int) = (-1)]) (by kernel_rfl) ⟨rfl, trivial⟩ (fun _ => ⟨rfl, by simp⟩)

set_option maxHeartbeats 40000000 in
set_option maxRecDepth 100000 in
theorem spread_idle_ok (a0 : (List Int)) (r : Int) (h : spread_idle a0 = some r) {al : Bool} : PCalls Try.prog 25 [.pv ((E3.ro a0))] al (.pv (.raw (.int .i64 r))) [] := by
  unfold spread_idle at h
  refine fn_ok tabOk Try.func25 (by kernel_rfl) (by kernel_rfl) Try.ntmps25 (by simp) ?_
  refine segs [] tabOk mixed 4000 (S := .leaf 0) (by kernel_rfl) ?_
  refine sk_leaf ?_
  obtain ⟨r1, e2, h⟩ := bd_ h
  refine call_ok (d := some 5) (fn := 29) (ax := [.pv ((E3.ro a0))]) (args := [.pv ((E3.ro a0))]) (ps := [a0.length = a0.length, ∀ i, i < a0.length → ∀ j, j < 1 → E3.cf (a0.getD i E3.z) j = E3.cf (a0.getD i E3.z) j]) (hb' := []) (by kernel_rfl) (slices_Min_int_ok _ _ e2 (al := true)) (by kernel_rfl) ⟨rfl, fun _ _ _ _ => rfl, trivial⟩ (fun _ => (by kernel_rfl)) (by simp) rfl (by kernel_rfl) ?_
  refine segs [] tabOk mixed 4000 (S := .leaf 0) (by kernel_rfl) ?_
  refine sk_leaf ?_
  obtain ⟨r3, e4, h⟩ := bd_ h
  refine call_ok (d := some 6) (fn := 28) (ax := [.pv ((E3.ro a0)), .pv (.raw (.int .i64 r1))]) (args := [.pv ((E3.ro a0)), .pv (.raw (.int .i64 r1))]) (ps := [a0.length = a0.length, ∀ i, i < a0.length → ∀ j, j < 1 → E3.cf (a0.getD i E3.z) j = E3.cf (a0.getD i E3.z) j, (r1 : Int) = r1]) (hb' := []) (by kernel_rfl) (slices_Index_int_ok _ _ _ e4 (al := true)) (by kernel_rfl) ⟨rfl, fun _ _ _ _ => rfl, rfl, trivial⟩ (fun _ => (by kernel_rfl)) (by simp) rfl (by kernel_rfl) ?_
  refine segs [] tabOk mixed 4000 (S := .leaf 0) (by kernel_rfl) ?_
  refine sk_leaf ?_
  obtain rfl := some_ h
  exact end_ok [] Try.results25 (ps := [(r3 : Int) = r3]) (by kernel_rfl) ⟨rfl, trivial⟩ (fun _ => ⟨rfl, by simp⟩)

set_option maxHeartbeats 40000000 in
set_option maxRecDepth 100000 in
theorem spread_plan_ok (a0 : (List Int)) (a1 : Int) (a2 : (List Int)) (r : Api_Plan) (h : spread_plan a0 a1 a2 = some r) {al : Bool} : PCalls Try.prog 18 [.pv ((E3.ro a0)), .pv (.raw (.int .i64 a1)), .pv ((E3.ro a2))] al (.agg [.row 0 1 0 r.Core.length, .pv (.raw (.int .i64 r.Most))]) [.row 3 1 (E3.cR r.Core)] := by
  unfold spread_plan at h
  refine fn_ok tabOk Try.func18 (by kernel_rfl) (by kernel_rfl) Try.ntmps18 (by simp) ?_
  refine segs [] tabOk mixed 4000 (S := .leaf 0) (by kernel_rfl) ?_
  refine sk_leaf ?_
  obtain ⟨g1, h⟩ := if_ h
  refine mks_ok (d := 14) (e := 3) (s := 1) (b := 8) (n := ((a0.length : Nat) : Int)) (zs := [.pv (.raw (.int .i64 0))]) E3 (by kernel_rfl) (by kernel_rfl) rfl (by kernel_rfl) g1 (by kernel_rfl) ?_
  refine segs [] tabOk mixed 4000 (S := .leaf 0) (by kernel_rfl) ?_
  refine sk_leaf ?_
  obtain ⟨g2, h⟩ := if_ h
  refine mks_ok (d := 17) (e := 3) (s := 1) (b := 8) (n := a1) (zs := [.pv (.raw (.int .i64 0))]) E3 (by kernel_rfl) (by kernel_rfl) rfl (by kernel_rfl) g2 (by kernel_rfl) ?_
  refine segs [] tabOk mixed 4000 (S := .leaf 0) (by kernel_rfl) ?_
  refine sk_leaf ?_
  refine len_ro (by kernel_rfl) 0 (s := 1) (n := a0.length) (c := fun i j => E3.cf (a0.getD i E3.z) j) (by kernel_rfl) ?_; intro hl1_0
  refine len_ro (by kernel_rfl) 18 (s := 1) (n := a2.length) (c := fun i j => E3.cf (a2.getD i E3.z) j) (by kernel_rfl) ?_; intro hl1_1
  refine len_row (by kernel_rfl) 17280 (e := 3) (s := 1) (n := (List.replicate a0.length (0 : Int)).length) (cs := E3.cR (List.replicate a0.length (0 : Int))) (by kernel_rfl) (Elem.cR_length _ _) ?_; intro hl1_2
  refine len_row (by kernel_rfl) 17472 (e := 3) (s := 1) (n := (List.replicate (Int.toNat a1) (0 : Int)).length) (cs := E3.cR (List.replicate (Int.toNat a1) (0 : Int))) (by kernel_rfl) (Elem.cR_length _ _) ?_; intro hl1_3
  replace h : (fun (x : Nat × Nat × Int × List Int × List Int) => spread_plan_l1 a0 a1 a2 x.1 x.2.1 x.2.2.1 x.2.2.2.1 x.2.2.2.2 = some r) (FUEL, 0, 0, (List.replicate a0.length (0 : Int)), (List.replicate (Int.toNat a1) (0 : Int))) := h
  refine loop_ok (by kernel_rfl) (X := Nat × Nat × Int × List Int × List Int) (fun x => spread_plan_l1 a0 a1 a2 x.1 x.2.1 x.2.2.1 x.2.2.2.1 x.2.2.2.2 = some r) (fun x => x.1) (fun x => mk 51 [(0, .pv ((E3.ro a0))), (6, .ptr 0 0), (7, .ptr 1 0), (8, .row 3 1 0 x.2.2.2.2.length), (18, .pv ((E3.ro a2))), (19, .pv (.raw (.int .i64 ((a2.length : Nat) : Int)))), (20, .pv (.raw (.int .i64 ((x.2.1 : Nat) : Int))))] [(0, .box [.pv (.raw (.slice none 0 0)), .pv (.raw (.int .i64 0))]), (1, .box [.row 2 1 0 x.2.2.2.1.length, .pv (.raw (.int .i64 x.2.2.1))]), (2, .row 3 1 (E3.cR x.2.2.2.1)), (3, .row 3 1 (E3.cR x.2.2.2.2))]) (FUEL, 0, 0, (List.replicate a0.length (0 : Int)), (List.replicate (Int.toNat a1) (0 : Int))) h ?_ ?_
  · exact sub_ok (ρ := [(0, some 16768), (1, some 16832), (2, some 17280), (3, some 17472)]) (l := [a0.length = a0.length, ∀ i, i < a0.length → ∀ j, j < 1 → E3.cf (a0.getD i E3.z) j = E3.cf (a0.getD i E3.z) j, 0 = 0, 0 = 0, 0 = 0, (Int.toNat a1) = ((List.replicate (Int.toNat a1) (0 : Int)).length), a2.length = a2.length, ∀ i, i < a2.length → ∀ j, j < 1 → E3.cf (a2.getD i E3.z) j = E3.cf (a2.getD i E3.z) j, (((a2.length : Nat) : Int) : Int) = ((a2.length : Nat) : Int), (0 : Int) = ((0 : Nat) : Int), (0 : Int) = 0, 0 = 0, a0.length = ((List.replicate a0.length (0 : Int)).length), (0 : Int) = 0, E3.cR (List.replicate a0.length (0 : Int)) = E3.cR (List.replicate a0.length (0 : Int)), AllPv (E3.cR (List.replicate a0.length (0 : Int))), E3.cR (List.replicate (Int.toNat a1) (0 : Int)) = E3.cR (List.replicate (Int.toNat a1) (0 : Int)), AllPv (E3.cR (List.replicate (Int.toNat a1) (0 : Int)))]) (by kernel_rfl) ⟨rfl, fun _ _ _ _ => rfl, rfl, rfl, rfl, (by first | rfl | (simp; done) | omega | (simp <;> omega)), rfl, fun _ _ _ _ => rfl, rfl, (by first | rfl | simp), rfl, rfl, (by first | rfl | (simp; done) | omega | (simp <;> omega)), rfl, rfl, (Elem.cR_pv _ _), rfl, (Elem.cR_pv _ _), trivial⟩
  · clear h; rintro ⟨n1, k3, x4, l5, l6⟩ h p1 hp1
    obtain _ | n1 := n1
    · cases (show (none : Option (Api_Plan)) = some r from h)
    have h : spread_plan_l1 a0 a1 a2 (n1 + 1) k3 x4 l5 l6 = some r := h
    unfold spread_plan_l1 at h
    refine segs [] tabOk mixed 4000 (S := .br (decide ((((k3 : Nat) : Int) : Int) < ((a2.length : Nat) : Int))) (.and (0 ≤ (((k3 : Nat) : Int) : Int) ∧ ((k3 : Nat) : Int) < ((a2.length : Nat) : Int)) (.leaf 0)) (.leaf 1)) (by kernel_rfl) ?_
    refine br_ h ?_ ?_ <;> clear h <;> intro c7 h
    · refine sk_and ⟨Int.natCast_nonneg _, of_decide_eq_true c7⟩ ?_
      refine sk_leaf ?_
      obtain ⟨r9, e10, h⟩ := bd_ h
      refine call_ok (d := some 25) (fn := 25) (ax := [.row 3 1 0 l6.length]) (args := [.pv ((E3.ro l6))]) (ps := [l6.length = l6.length, rowQ (E3.cR l6) 1 0 l6.length (fun i j => E3.cf (l6.getD i E3.z) j)]) (hb' := []) (by kernel_rfl) (spread_idle_ok _ _ e10 (al := false)) (by kernel_rfl) ⟨(by first | rfl | exact Elem.sub_len _ (by omega) | omega | simp | (simp <;> omega)), E3.rowQ_all l6 rfl, trivial⟩ (fun hx => by cases hx) (by simp) rfl (by kernel_rfl) ?_
      refine segs [] tabOk mixed 4000 (S := .and (0 ≤ ((a2.getD k3 0) : Int) ∧ (a2.getD k3 0) < ((l5.length : Nat) : Int)) (.leaf 0)) (by kernel_rfl) ?_
      refine gd_ h ?_; clear h; intro g11 h
      refine sk_leaf ?_
      refine st_ok (id := 2) (i := (0 + (Int.toNat (a2.getD k3 0)))) (j := 0) (e := 3) (vs := [.pv (.raw (.int .i64 r9))]) E3 (xs := l5) r9 (by kernel_rfl) (by kernel_rfl) (by first | omega | (simp at * <;> omega) | (simp_all <;> omega)) (by exact Nat.le_of_ble_eq_true rfl) rfl ?_
      refine segs [] tabOk mixed 4000 (S := .and (0 ≤ (r9 : Int) ∧ r9 < ((l6.length : Nat) : Int)) (.leaf 0)) (by kernel_rfl) ?_
      refine gd_ h ?_; clear h; intro g12 h
      refine sk_leaf ?_
      refine ld_ok (d := 34) (id := 3) (i := (0 + (Int.toNat r9))) (j := 0) (e := 3) (n := 1) E3 (xs := l6) (by kernel_rfl) (by kernel_rfl) (by first | omega | (simp at * <;> omega) | (simp_all <;> omega)) (by exact Nat.le_of_ble_eq_true rfl) ?_
      refine segs [] tabOk mixed 4000 (S := .and (0 ≤ ((a2.getD k3 0) : Int) ∧ (a2.getD k3 0) < ((a0.length : Nat) : Int)) (.and (0 ≤ (r9 : Int) ∧ r9 < ((l6.length : Nat) : Int)) (.leaf 0))) (by kernel_rfl) ?_
      refine gd_ h ?_; clear h; intro g13 h
      refine gd_ h ?_; clear h; intro g14 h
      refine sk_leaf ?_
      refine st_ok (id := 3) (i := (0 + (Int.toNat r9))) (j := 0) (e := 3) (vs := [.pv (.raw (.int .i64 (IntKind.i64.wrap ((l6.getD (0 + (Int.toNat r9)) 0) + (a0.getD (Int.toNat (a2.getD k3 0)) 0)))))]) E3 (xs := l6) (IntKind.i64.wrap ((l6.getD (0 + (Int.toNat r9)) 0) + (a0.getD (Int.toNat (a2.getD k3 0)) 0))) (by kernel_rfl) (by kernel_rfl) (by first | omega | (simp at * <;> omega) | (simp_all <;> omega)) (by exact Nat.le_of_ble_eq_true rfl) rfl ?_
      refine segs [] tabOk mixed 4000 (S := .and (0 ≤ (r9 : Int) ∧ r9 < ((l6.length : Nat) : Int)) (.leaf 0)) (by kernel_rfl) ?_
      refine gd_ h ?_; clear h; intro g15 h
      refine sk_leaf ?_
      refine ld_ok (d := 46) (id := 3) (i := (0 + (Int.toNat r9))) (j := 0) (e := 3) (n := 1) E3 (xs := (l6.set (0 + (Int.toNat r9)) (IntKind.i64.wrap ((l6.getD (0 + (Int.toNat r9)) 0) + (a0.getD (Int.toNat (a2.getD k3 0)) 0))))) (by kernel_rfl) (by kernel_rfl) (by first | omega | (simp at * <;> omega) | (simp_all <;> omega)) (by exact Nat.le_of_ble_eq_true rfl) ?_
      refine segs [] tabOk mixed 4000 (S := .leaf 0) (by kernel_rfl) ?_
      refine sk_leaf ?_
      refine back_ok (p := p1) (by kernel_rfl) (hp1 (n1, k3 + 1, (if (((l6.set (0 + (Int.toNat r9)) (IntKind.i64.wrap ((l6.getD (0 + (Int.toNat r9)) 0) + (a0.getD (Int.toNat (a2.getD k3 0)) 0)))).getD (0 + (Int.toNat r9)) 0) : Int) > x4 then ((l6.set (0 + (Int.toNat r9)) (IntKind.i64.wrap ((l6.getD (0 + (Int.toNat r9)) 0) + (a0.getD (Int.toNat (a2.getD k3 0)) 0)))).getD (0 + (Int.toNat r9)) 0) else x4), (l5.set (0 + (Int.toNat (a2.getD k3 0))) r9), (l6.set (0 + (Int.toNat r9)) (IntKind.i64.wrap ((l6.getD (0 + (Int.toNat r9)) 0) + (a0.getD (Int.toNat (a2.getD k3 0)) 0))))) _ h (Nat.lt_succ_self n1) ?_)
      exact sub_ok (ρ := (rI 0 0 4)) (l := [a0.length = a0.length, ∀ i, i < a0.length → ∀ j, j < 1 → E3.cf (a0.getD i E3.z) j = E3.cf (a0.getD i E3.z) j, 0 = 0, 0 = 0, 0 = 0, l6.length = ((l6.set (0 + (Int.toNat r9)) (IntKind.i64.wrap ((l6.getD (0 + (Int.toNat r9)) 0) + (a0.getD (Int.toNat (a2.getD k3 0)) 0)))).length), a2.length = a2.length, ∀ i, i < a2.length → ∀ j, j < 1 → E3.cf (a2.getD i E3.z) j = E3.cf (a2.getD i E3.z) j, (((a2.length : Nat) : Int) : Int) = ((a2.length : Nat) : Int), ((IntKind.i64.wrap (((k3 : Nat) : Int) + 1)) : Int) = (((k3 + 1) : Nat) : Int), (0 : Int) = 0, 0 = 0, l5.length = ((l5.set (0 + (Int.toNat (a2.getD k3 0))) r9).length), ((if (((l6.set (0 + (Int.toNat r9)) (IntKind.i64.wrap ((l6.getD (0 + (Int.toNat r9)) 0) + (a0.getD (Int.toNat (a2.getD k3 0)) 0)))).getD (0 + (Int.toNat r9)) 0) : Int) > x4 then ((l6.set (0 + (Int.toNat r9)) (IntKind.i64.wrap ((l6.getD (0 + (Int.toNat r9)) 0) + (a0.getD (Int.toNat (a2.getD k3 0)) 0)))).getD (0 + (Int.toNat r9)) 0) else x4) : Int) = (if (((l6.set (0 + (Int.toNat r9)) (IntKind.i64.wrap ((l6.getD (0 + (Int.toNat r9)) 0) + (a0.getD (Int.toNat (a2.getD k3 0)) 0)))).getD (0 + (Int.toNat r9)) 0) : Int) > x4 then ((l6.set (0 + (Int.toNat r9)) (IntKind.i64.wrap ((l6.getD (0 + (Int.toNat r9)) 0) + (a0.getD (Int.toNat (a2.getD k3 0)) 0)))).getD (0 + (Int.toNat r9)) 0) else x4), E3.cR (l5.set (0 + (Int.toNat (a2.getD k3 0))) r9) = E3.cR (l5.set (0 + (Int.toNat (a2.getD k3 0))) r9), AllPv (E3.cR (l5.set (0 + (Int.toNat (a2.getD k3 0))) r9)), E3.cR (l6.set (0 + (Int.toNat r9)) (IntKind.i64.wrap ((l6.getD (0 + (Int.toNat r9)) 0) + (a0.getD (Int.toNat (a2.getD k3 0)) 0)))) = E3.cR (l6.set (0 + (Int.toNat r9)) (IntKind.i64.wrap ((l6.getD (0 + (Int.toNat r9)) 0) + (a0.getD (Int.toNat (a2.getD k3 0)) 0)))), AllPv (E3.cR (l6.set (0 + (Int.toNat r9)) (IntKind.i64.wrap ((l6.getD (0 + (Int.toNat r9)) 0) + (a0.getD (Int.toNat (a2.getD k3 0)) 0)))))]) (by kernel_rfl) ⟨rfl, fun _ _ _ _ => rfl, rfl, rfl, rfl, (by first | rfl | (simp; done) | omega | (simp <;> omega)), rfl, fun _ _ _ _ => rfl, rfl, (wrap_nat (Int.ofNat_lt.1 (of_decide_eq_true c7)) (by omega)), rfl, rfl, (by first | rfl | (simp; done) | omega | (simp <;> omega)), rfl, rfl, (Elem.cR_pv _ _), rfl, (Elem.cR_pv _ _), trivial⟩
    · refine sk_leaf ?_
      obtain rfl := some_ h
      exact end_ok [(0, some 2)] Try.results18 (ps := [0 = 0, l5.length = l5.length, (x4 : Int) = x4, E3.cR l5 = E3.cR l5, AllPv (E3.cR l5)]) (by kernel_rfl) ⟨rfl, rfl, rfl, rfl, (Elem.cR_pv _ _), trivial⟩ (fun _ => ⟨rfl, by simp only [List.mem_cons, List.not_mem_nil, or_false, forall_eq_or_imp, forall_eq]; exact Elem.cR_bald E3_raw _⟩)

set_option maxHeartbeats 40000000 in
set_option maxRecDepth 100000 in
theorem spread_List_ok (a0 : (List Int)) (a1 : Int) (r : Api_Plan × Int) (h : spread_List a0 a1 = some r) {al : Bool} : PCalls Try.prog 9 [.pv ((E3.ro a0)), .pv (.raw (.int .i64 a1))] al (.tup [.agg [.row 0 1 0 r.1.Core.length, .pv (.raw (.int .i64 r.1.Most))], .pv (.raw (.int .i64 r.2))]) [.row 3 1 (E3.cR r.1.Core)] := by
  unfold spread_List at h
  refine fn_ok tabOk Try.func9 (by kernel_rfl) (by kernel_rfl) Try.ntmps9 (by simp) ?_
  refine segs [] tabOk mixed 4000 (S := .leaf 0) (by kernel_rfl) ?_
  refine sk_leaf ?_
  obtain ⟨r1, e2, h⟩ := bd_ h
  refine call_ok (d := some 9) (fn := 10) (ax := [.pv ((E3.ro a0)), .pv (.raw (.int .i64 a1))]) (args := [.pv ((E3.ro a0)), .pv (.raw (.int .i64 a1))]) (ps := [a0.length = a0.length, ∀ i, i < a0.length → ∀ j, j < 1 → E3.cf (a0.getD i E3.z) j = E3.cf (a0.getD i E3.z) j, (a1 : Int) = a1]) (hb' := []) (by kernel_rfl) (spread_Wrong_ok _ _ _ e2 (al := true)) (by kernel_rfl) ⟨rfl, fun _ _ _ _ => rfl, rfl, trivial⟩ (fun _ => (by kernel_rfl)) (by simp) rfl (by kernel_rfl) ?_
  refine segs [] tabOk mixed 4000 (S := .br ((r1 : Int) != 0) (.leaf 0) (.leaf 1)) (by kernel_rfl) ?_
  refine br_ h ?_ ?_ <;> clear h <;> intro c3 h
  · refine sk_leaf ?_
    obtain rfl := some_ h
    exact end_ok [(0, none)] Try.results9 (ps := [0 = 0, ([] : List Int).length = 0, (0 : Int) = 0, (r1 : Int) = r1, E3.cR [] = []]) (by kernel_rfl) ⟨rfl, rfl, rfl, rfl, rfl, trivial⟩ (fun _ => ⟨rfl, by simp only [List.mem_cons, List.not_mem_nil, or_false, forall_eq_or_imp, forall_eq]; exact Elem.cR_bald E3_raw _⟩)
  · refine sk_leaf ?_
    obtain ⟨r4, e5, h⟩ := bd_ h
    refine call_ok (d := some 18) (fn := 19) (ax := [.pv (.raw (.int .i64 ((a0.length : Nat) : Int)))]) (args := [.pv (.raw (.int .i64 ((a0.length : Nat) : Int)))]) (ps := [(((a0.length : Nat) : Int) : Int) = ((a0.length : Nat) : Int)]) (hb' := [.row 3 1 (E3.cR r4)]) (by kernel_rfl) (spread_inOrder_ok _ _ e5 (al := true)) (by kernel_rfl) ⟨rfl, trivial⟩ (fun _ => (by kernel_rfl)) (by simp) (by simp only [List.map_cons, List.map_nil, Elem.row_up, up_map] <;> rfl) (by kernel_rfl) ?_
    refine segs [] tabOk mixed 4000 (S := .leaf 0) (by kernel_rfl) ?_
    refine sk_leaf ?_
    obtain ⟨r6, e7, h⟩ := bd_ h
    refine call_ok (d := some 19) (fn := 18) (ax := [.pv ((E3.ro a0)), .pv (.raw (.int .i64 a1)), .row 17536 1 0 r4.length]) (args := [.pv ((E3.ro a0)), .pv (.raw (.int .i64 a1)), .pv ((E3.ro r4))]) (ps := [a0.length = a0.length, ∀ i, i < a0.length → ∀ j, j < 1 → E3.cf (a0.getD i E3.z) j = E3.cf (a0.getD i E3.z) j, (a1 : Int) = a1, r4.length = r4.length, rowQ (E3.cR r4) 1 0 r4.length (fun i j => E3.cf (r4.getD i E3.z) j)]) (hb' := [.row 3 1 (E3.cR r6.Core)]) (by kernel_rfl) (spread_plan_ok _ _ _ _ e7 (al := false)) (by kernel_rfl) ⟨rfl, fun _ _ _ _ => rfl, rfl, (by first | rfl | exact Elem.sub_len _ (by omega) | omega | simp | (simp <;> omega)), E3.rowQ_all r4 rfl, trivial⟩ (fun hx => by cases hx) (by simp) (by simp only [List.map_cons, List.map_nil, Elem.row_up, up_map] <;> rfl) (by kernel_rfl) ?_
    refine segs [] tabOk mixed 4000 (S := .leaf 0) (by kernel_rfl) ?_
    refine sk_leaf ?_
    obtain rfl := some_ h
    exact end_ok [(0, some 17600)] Try.results9 (ps := [0 = 0, r6.Core.length = r6.Core.length, (r6.Most : Int) = r6.Most, (0 : Int) = 0, E3.cR r6.Core = E3.cR r6.Core, AllPv (E3.cR r6.Core)]) (by kernel_rfl) ⟨rfl, rfl, rfl, rfl, rfl, (Elem.cR_pv _ _), trivial⟩ (fun _ => ⟨rfl, by simp only [List.mem_cons, List.not_mem_nil, or_false, forall_eq_or_imp, forall_eq]; exact Elem.cR_bald E3_raw _⟩)

theorem slices_SortStable_spread_ok (a0 a1 r : List Int) (h : slices_SortStable_spread a0 a1 = some r) {al : Bool} : MCalls Try.prog 23 [.row 0 1 0 a0.length, .fn 24 [.roat 1 (fun j => E22.cf a1 j)]] [.row 3 1 (E3.cR a0)] 1 al (.tup []) [.row 3 1 (E3.cR r)] := by
  unfold slices_SortStable_spread at h
  obtain ⟨g, h⟩ := if_ h
  obtain rfl := some_ h
  exact stab_mcalls ⟨_, Try.func23, by kernel_rfl, by kernel_rfl⟩ rfl (fun _ => rfl) (fun _ => rfl) g.1 g.2.1 g.2.2

set_option maxHeartbeats 40000000 in
set_option maxRecDepth 100000 in
theorem spread_Longest_ok (a0 : (List Int)) (a1 : Int) (r : Api_Plan × Int) (h : spread_Longest a0 a1 = some r) {al : Bool} : PCalls Try.prog 14 [.pv ((E3.ro a0)), .pv (.raw (.int .i64 a1))] al (.tup [.agg [.row 0 1 0 r.1.Core.length, .pv (.raw (.int .i64 r.1.Most))], .pv (.raw (.int .i64 r.2))]) [.row 3 1 (E3.cR r.1.Core)] := by
  unfold spread_Longest at h
  refine fnZ_ok tabOk [23] Try.func14 (by kernel_rfl) (by kernel_rfl) Try.ntmps14 (by simp) ?_
  refine segs [] tabOk mixed 4000 (S := .leaf 0) (by kernel_rfl) ?_
  refine sk_leaf ?_
  obtain ⟨r1, e2, h⟩ := bd_ h
  refine call_ok (d := some 10) (fn := 10) (ax := [.pv ((E3.ro a0)), .pv (.raw (.int .i64 a1))]) (args := [.pv ((E3.ro a0)), .pv (.raw (.int .i64 a1))]) (ps := [a0.length = a0.length, ∀ i, i < a0.length → ∀ j, j < 1 → E3.cf (a0.getD i E3.z) j = E3.cf (a0.getD i E3.z) j, (a1 : Int) = a1]) (hb' := []) (by kernel_rfl) (spread_Wrong_ok _ _ _ e2 (al := true)) (by kernel_rfl) ⟨rfl, fun _ _ _ _ => rfl, rfl, trivial⟩ (fun _ => (by kernel_rfl)) (by simp) rfl (by kernel_rfl) ?_
  refine segs [] tabOk mixed 4000 (S := .br ((r1 : Int) != 0) (.leaf 0) (.leaf 1)) (by kernel_rfl) ?_
  refine br_ h ?_ ?_ <;> clear h <;> intro c3 h
  · refine sk_leaf ?_
    obtain rfl := some_ h
    exact end_ok [(0, none)] Try.results14 (ps := [0 = 0, ([] : List Int).length = 0, (0 : Int) = 0, (r1 : Int) = r1, E3.cR [] = []]) (by kernel_rfl) ⟨rfl, rfl, rfl, rfl, rfl, trivial⟩ (fun _ => ⟨rfl, by simp only [List.mem_cons, List.not_mem_nil, or_false, forall_eq_or_imp, forall_eq]; exact Elem.cR_bald E3_raw _⟩)
  · refine sk_leaf ?_
    obtain ⟨r4, e5, h⟩ := bd_ h
    refine call_ok (d := some 17) (fn := 19) (ax := [.pv (.raw (.int .i64 ((a0.length : Nat) : Int)))]) (args := [.pv (.raw (.int .i64 ((a0.length : Nat) : Int)))]) (ps := [(((a0.length : Nat) : Int) : Int) = ((a0.length : Nat) : Int)]) (hb' := [.row 3 1 (E3.cR r4)]) (by kernel_rfl) (spread_inOrder_ok _ _ e5 (al := true)) (by kernel_rfl) ⟨rfl, trivial⟩ (fun _ => (by kernel_rfl)) (by simp) (by simp only [List.map_cons, List.map_nil, Elem.row_up, up_map] <;> rfl) (by kernel_rfl) ?_
    refine segs [] tabOk mixed 4000 (S := .leaf 0) (by kernel_rfl) ?_
    refine sk_leaf ?_
    obtain ⟨r6, e7, h⟩ := bd_ h
    obtain ⟨g8, h⟩ := if_ h
    refine mcall_ok (d := some 20) (fn := 23) (ax := [.row 17472 1 0 r4.length, .fn 24 [.ptr 16512 0]]) (hs := [(17472, .row 3 1 (E3.cR r6))]) (del := []) (ps := [0 = 0, r4.length = r4.length, a0.length = a0.length, ∀ i, i < a0.length → ∀ j, j < 1 → E3.cf (a0.getD i E3.z) j = E3.cf (a0.getD i E3.z) j, E3.cR r4 = E3.cR r4, AllPv (E3.cR r4)]) [(0, some 17472)] (by kernel_rfl) (slices_SortStable_spread_ok _ _ _ e7 (al := false)) (by kernel_rfl) ⟨rfl, rfl, rfl, fun _ _ _ _ => rfl, rfl, (Elem.cR_pv _ _), trivial⟩ (by kernel_rfl) (by simp only [List.cons_append, List.nil_append, List.append_nil, rB, rA, fl, mset_row, mset_box, mset_nil, mset_map, List.set_set]; kernel_rfl) (by kernel_rfl) ?_
    refine segs [] tabOk mixed 4000 (S := .leaf 0) (by kernel_rfl) ?_
    refine sk_leaf ?_
    obtain ⟨r9, e10, h⟩ := bd_ h
    refine call_ok (d := some 24) (fn := 18) (ax := [.pv ((E3.ro a0)), .pv (.raw (.int .i64 a1)), .row 17472 1 0 r4.length]) (args := [.pv ((E3.ro a0)), .pv (.raw (.int .i64 a1)), .pv ((E3.ro r6))]) (ps := [a0.length = a0.length, ∀ i, i < a0.length → ∀ j, j < 1 → E3.cf (a0.getD i E3.z) j = E3.cf (a0.getD i E3.z) j, (a1 : Int) = a1, r4.length = r6.length, rowQ (E3.cR r6) 1 0 r4.length (fun i j => E3.cf (r6.getD i E3.z) j)]) (hb' := [.row 3 1 (E3.cR r9.Core)]) (by kernel_rfl) (spread_plan_ok _ _ _ _ e10 (al := false)) (by kernel_rfl) ⟨rfl, fun _ _ _ _ => rfl, rfl, (by first | rfl | exact Elem.sub_len _ (by omega) | omega | simp | (simp <;> omega)), E3.rowQ_all r6 (by first | omega | simp | (simp <;> omega) | (simp at * <;> omega)), trivial⟩ (fun hx => by cases hx) (by simp) (by simp only [List.map_cons, List.map_nil, Elem.row_up, up_map] <;> rfl) (by kernel_rfl) ?_
    refine segs [] tabOk mixed 4000 (S := .leaf 0) (by kernel_rfl) ?_
    refine sk_leaf ?_
    obtain rfl := some_ h
    exact end_ok [(0, some 17920)] Try.results14 (ps := [0 = 0, r9.Core.length = r9.Core.length, (r9.Most : Int) = r9.Most, (0 : Int) = 0, E3.cR r9.Core = E3.cR r9.Core, AllPv (E3.cR r9.Core)]) (by kernel_rfl) ⟨rfl, rfl, rfl, rfl, rfl, (Elem.cR_pv _ _), trivial⟩ (fun _ => ⟨rfl, by simp only [List.mem_cons, List.not_mem_nil, or_false, forall_eq_or_imp, forall_eq]; exact Elem.cR_bald E3_raw _⟩)

theorem spread_Best_ok (a0 : List Int) (a1 : Int) (r : Int × Int) (h : spread_Best a0 a1 = some r) {al : Bool} : PCalls Try.prog 13 [.pv (E3.ro a0), .pv (.raw (.int .i64 a1))] al (.tup [.pv (.raw (.int .i64 r.1)), .pv (.raw (.int .i64 r.2))]) [] := by
  unfold spread_Best at h
  obtain ⟨g, h⟩ := if_ h
  obtain rfl := some_ h
  exact best_pcalls ⟨_, Try.func13, by kernel_rfl, by kernel_rfl⟩ rfl (fun _ => rfl) g

set_option maxHeartbeats 40000000 in
set_option maxRecDepth 100000 in
theorem slices_Equal_int_ok (a0 : (List Int)) (a1 : (List Int)) (r : Bool) (h : slices_Equal_int a0 a1 = some r) {al : Bool} : PCalls Try.prog 17 [.pv ((E3.ro a0)), .pv ((E3.ro a1))] al (.pv (.raw (.bool r))) [] := by
  unfold slices_Equal_int at h
  refine fn_ok tabOk Try.func17 (by kernel_rfl) (by kernel_rfl) Try.ntmps17 (by simp) ?_
  refine segs [] tabOk mixed 4000 (S := .br ((((a0.length : Nat) : Int) : Int) != ((a1.length : Nat) : Int)) (.leaf 0) (.leaf 1)) (by kernel_rfl) ?_
  refine br_ h ?_ ?_ <;> clear h <;> intro c1 h
  · refine sk_leaf ?_
    obtain rfl := some_ h
    exact end_ok [] Try.results17 (ps := [false = false]) (by kernel_rfl) ⟨rfl, trivial⟩ (fun _ => ⟨rfl, by simp⟩)
  · refine sk_leaf ?_
    refine len_ro (by kernel_rfl) 0 (s := 1) (n := a0.length) (c := fun i j => E3.cf (a0.getD i E3.z) j) (by kernel_rfl) ?_; intro hl1_0
    refine len_ro (by kernel_rfl) 1 (s := 1) (n := a1.length) (c := fun i j => E3.cf (a1.getD i E3.z) j) (by kernel_rfl) ?_; intro hl1_1
    replace h : (fun (x : Nat × Nat) => slices_Equal_int_l1 a0 a1 x.1 x.2 = some r) (FUEL, 0) := h
    refine loop_ok (by kernel_rfl) (X := Nat × Nat) (fun x => slices_Equal_int_l1 a0 a1 x.1 x.2 = some r) (fun x => x.1) (fun x => mk 26 [(0, .pv ((E3.ro a0))), (1, .pv ((E3.ro a1))), (4, .pv (.raw (.bool false))), (12, .pv (.raw (.int .i64 ((a0.length : Nat) : Int)))), (13, .pv (.raw (.int .i64 ((x.2 : Nat) : Int))))] []) (FUEL, 0) h ?_ ?_
    · exact sub_ok (ρ := []) (l := [a0.length = a0.length, ∀ i, i < a0.length → ∀ j, j < 1 → E3.cf (a0.getD i E3.z) j = E3.cf (a0.getD i E3.z) j, a1.length = a1.length, ∀ i, i < a1.length → ∀ j, j < 1 → E3.cf (a1.getD i E3.z) j = E3.cf (a1.getD i E3.z) j, false = false, (((a0.length : Nat) : Int) : Int) = ((a0.length : Nat) : Int), (0 : Int) = ((0 : Nat) : Int)]) (by kernel_rfl) ⟨rfl, fun _ _ _ _ => rfl, rfl, fun _ _ _ _ => rfl, rfl, rfl, (by first | rfl | simp), trivial⟩
    · clear h; rintro ⟨n1, k2⟩ h p1 hp1
      obtain _ | n1 := n1
      · cases (show (none : Option (Bool)) = some r from h)
      have h : slices_Equal_int_l1 a0 a1 (n1 + 1) k2 = some r := h
      unfold slices_Equal_int_l1 at h
      refine segs [] tabOk mixed 4000 (S := .br (decide ((((k2 : Nat) : Int) : Int) < ((a0.length : Nat) : Int))) (.and (0 ≤ (((k2 : Nat) : Int) : Int) ∧ ((k2 : Nat) : Int) < ((a0.length : Nat) : Int)) (.and (0 ≤ (((k2 : Nat) : Int) : Int) ∧ ((k2 : Nat) : Int) < ((a1.length : Nat) : Int)) (.br (((a0.getD k2 0) : Int) != (a1.getD k2 0)) (.leaf 0) (.leaf 1)))) (.leaf 2)) (by kernel_rfl) ?_
      refine br_ h ?_ ?_ <;> clear h <;> intro c3 h
      · refine sk_and ⟨Int.natCast_nonneg _, of_decide_eq_true c3⟩ ?_
        refine gd_ h ?_; clear h; intro g5 h
        refine br_ h ?_ ?_ <;> clear h <;> intro c6 h
        · refine sk_leaf ?_
          obtain rfl := some_ h
          exact end_ok [] Try.results17 (ps := [false = false]) (by kernel_rfl) ⟨rfl, trivial⟩ (fun _ => ⟨rfl, by simp⟩)
        · refine sk_leaf ?_
          refine back_ok (p := p1) (by kernel_rfl) (hp1 (n1, k2 + 1) _ h (Nat.lt_succ_self n1) ?_)
          exact sub_ok (ρ := []) (l := [a0.length = a0.length, ∀ i, i < a0.length → ∀ j, j < 1 → E3.cf (a0.getD i E3.z) j = E3.cf (a0.getD i E3.z) j, a1.length = a1.length, ∀ i, i < a1.length → ∀ j, j < 1 → E3.cf (a1.getD i E3.z) j = E3.cf (a1.getD i E3.z) j, false = false, (((a0.length : Nat) : Int) : Int) = ((a0.length : Nat) : Int), ((IntKind.i64.wrap (((k2 : Nat) : Int) + 1)) : Int) = (((k2 + 1) : Nat) : Int)]) (by kernel_rfl) ⟨rfl, fun _ _ _ _ => rfl, rfl, fun _ _ _ _ => rfl, rfl, rfl, (wrap_nat (Int.ofNat_lt.1 (of_decide_eq_true c3)) (by omega)), trivial⟩
      · refine sk_leaf ?_
        obtain rfl := some_ h
        exact end_ok [] Try.results17 (ps := [true = true]) (by kernel_rfl) ⟨rfl, trivial⟩ (fun _ => ⟨rfl, by simp⟩)

set_option maxHeartbeats 40000000 in
set_option maxRecDepth 100000 in
theorem keep_alive5_ok (r : Bool) (h : keep_alive5 = some r) {al : Bool} : PCalls Try.prog 8 [] al (.pv (.raw (.bool r))) [] := by
  unfold keep_alive5 at h
  refine fn_ok tabOk Try.func8 (by kernel_rfl) (by kernel_rfl) Try.ntmps8 (by simp) ?_
  refine segs [] tabOk mixed 4000 (S := .leaf 0) (by kernel_rfl) ?_
  refine sk_leaf ?_
  refine bs_ok (d := 8) (e := 3) (s := 1) (n := 4) (cs := [.pv (.raw (.int .i64 2)), .pv (.raw (.int .i64 3)), .pv (.raw (.int .i64 4)), .pv (.raw (.int .i64 5))]) (cs' := E3.cR [2, 3, 4, 5]) (by kernel_rfl) rfl (by kernel_rfl) ?_
  refine segs [] tabOk mixed 4000 (S := .leaf 0) (by kernel_rfl) ?_
  refine sk_leaf ?_
  obtain ⟨r1, e2, h⟩ := bd_ h
  refine call_ok (d := some 9) (fn := 9) (ax := [.row 16896 1 0 4, .pv (.raw (.int .i64 2))]) (args := [.pv ((E3.ro [2, 3, 4, 5])), .pv (.raw (.int .i64 2))]) (ps := [4 = [2, 3, 4, 5].length, rowQ (E3.cR [2, 3, 4, 5]) 1 0 4 (fun i j => E3.cf ([2, 3, 4, 5].getD i E3.z) j), (2 : Int) = 2]) (hb' := [.row 3 1 (E3.cR r1.1.Core)]) (by kernel_rfl) (spread_List_ok _ _ _ e2 (al := false)) (by kernel_rfl) ⟨(by first | rfl | exact Elem.sub_len _ (by omega) | omega | simp | (simp <;> omega)), E3.rowQ_all [2, 3, 4, 5] rfl, rfl, trivial⟩ (fun hx => by cases hx) (by simp) (by simp only [List.map_cons, List.map_nil, Elem.row_up, up_map] <;> rfl) (by kernel_rfl) ?_
  refine segs [] tabOk mixed 4000 (S := .leaf 0) (by kernel_rfl) ?_
  refine sk_leaf ?_
  refine bs_ok (d := 13) (e := 3) (s := 1) (n := 4) (cs := [.pv (.raw (.int .i64 2)), .pv (.raw (.int .i64 3)), .pv (.raw (.int .i64 4)), .pv (.raw (.int .i64 5))]) (cs' := E3.cR [2, 3, 4, 5]) (by kernel_rfl) rfl (by kernel_rfl) ?_
  refine segs [] tabOk mixed 4000 (S := .leaf 0) (by kernel_rfl) ?_
  refine sk_leaf ?_
  obtain ⟨r3, e4, h⟩ := bd_ h
  refine call_ok (d := some 14) (fn := 14) (ax := [.row 17216 1 0 4, .pv (.raw (.int .i64 2))]) (args := [.pv ((E3.ro [2, 3, 4, 5])), .pv (.raw (.int .i64 2))]) (ps := [4 = [2, 3, 4, 5].length, rowQ (E3.cR [2, 3, 4, 5]) 1 0 4 (fun i j => E3.cf ([2, 3, 4, 5].getD i E3.z) j), (2 : Int) = 2]) (hb' := [.row 3 1 (E3.cR r3.1.Core)]) (by kernel_rfl) (spread_Longest_ok _ _ _ e4 (al := false)) (by kernel_rfl) ⟨(by first | rfl | exact Elem.sub_len _ (by omega) | omega | simp | (simp <;> omega)), E3.rowQ_all [2, 3, 4, 5] rfl, rfl, trivial⟩ (fun hx => by cases hx) (by simp) (by simp only [List.map_cons, List.map_nil, Elem.row_up, up_map] <;> rfl) (by kernel_rfl) ?_
  refine segs [] tabOk mixed 4000 (S := .leaf 0) (by kernel_rfl) ?_
  refine sk_leaf ?_
  refine bs_ok (d := 18) (e := 3) (s := 1) (n := 5) (cs := [.pv (.raw (.int .i64 3)), .pv (.raw (.int .i64 3)), .pv (.raw (.int .i64 2)), .pv (.raw (.int .i64 2)), .pv (.raw (.int .i64 2))]) (cs' := E3.cR [3, 3, 2, 2, 2]) (by kernel_rfl) rfl (by kernel_rfl) ?_
  refine segs [] tabOk mixed 4000 (S := .leaf 0) (by kernel_rfl) ?_
  refine sk_leaf ?_
  obtain ⟨r5, e6, h⟩ := bd_ h
  refine call_ok (d := some 19) (fn := 13) (ax := [.row 17536 1 0 5, .pv (.raw (.int .i64 2))]) (args := [.pv ((E3.ro [3, 3, 2, 2, 2])), .pv (.raw (.int .i64 2))]) (ps := [5 = [3, 3, 2, 2, 2].length, rowQ (E3.cR [3, 3, 2, 2, 2]) 1 0 5 (fun i j => E3.cf ([3, 3, 2, 2, 2].getD i E3.z) j), (2 : Int) = 2]) (hb' := []) (by kernel_rfl) (spread_Best_ok _ _ _ e6 (al := false)) (by kernel_rfl) ⟨(by first | rfl | exact Elem.sub_len _ (by omega) | omega | simp | (simp <;> omega)), E3.rowQ_all [3, 3, 2, 2, 2] rfl, rfl, trivial⟩ (fun hx => by cases hx) (by simp) rfl (by kernel_rfl) ?_
  refine segs [] tabOk mixed 4000 (S := .and ((((r1.2 : Int) == 0) = true → (((r1.2 : Int) == 0) = true))) (.and (((r1.2 : Int) == 0) = true → ((r1.2 : Int) == 0) = true) (.and (((((r1.2 : Int) == 0) && ((r3.2 : Int) == 0)) = true → ((((r1.2 : Int) == 0) && ((r3.2 : Int) == 0)) = true))) (.and ((((r1.2 : Int) == 0) && ((r3.2 : Int) == 0)) = true → (((r1.2 : Int) == 0) && ((r3.2 : Int) == 0)) = true) (.and ((((((r1.2 : Int) == 0) && ((r3.2 : Int) == 0)) && ((r5.2 : Int) == 0)) = true → (((((r1.2 : Int) == 0) && ((r3.2 : Int) == 0)) && ((r5.2 : Int) == 0)) = true))) (.leaf 0)))))) (by kernel_rfl) ?_
  refine sk_and (fun h => h) ?_
  refine sk_and (fun h => h) ?_
  refine sk_and (fun h => h) ?_
  refine sk_and (fun h => h) ?_
  refine sk_and (fun h => h) ?_
  refine sk_leaf ?_
  refine bsG_ok (d := 35) (e := 3) (s := 1) (n := 4) (g := ((((r1.2 : Int) == 0) && ((r3.2 : Int) == 0)) && ((r5.2 : Int) == 0))) (ws := []) (cs := [.pv (.raw (.int .i64 0)), .pv (.raw (.int .i64 1)), .pv (.raw (.int .i64 0)), .pv (.raw (.int .i64 1))]) E3 [0, 1, 0, 1] (by kernel_rfl) (fun _ => trivial) rfl rfl rfl (by kernel_rfl) ?_
  refine segs [] tabOk mixed 4000 (S := .leaf 0) (by kernel_rfl) ?_
  refine sk_leaf ?_
  obtain ⟨r12, e13, h⟩ := bd_ h
  refine callG_ok (d := some 36) (fn := 17) (ax := [.row 16960 1 0 r1.1.Core.length, .pv ((E3.ro [0, 1, 0, 1]))]) (args := [.pv ((E3.ro r1.1.Core)), .pv ((E3.ro [0, 1, 0, 1]))]) (g := ((((r1.2 : Int) == 0) && ((r3.2 : Int) == 0)) && ((r5.2 : Int) == 0))) (ws := [((((r1.2 : Int) == 0) && ((r3.2 : Int) == 0)) && ((r5.2 : Int) == 0)) = true, ((((r1.2 : Int) == 0) && ((r3.2 : Int) == 0)) && ((r5.2 : Int) == 0)) = true]) (ps := [r1.1.Core.length = r1.1.Core.length, rowQ (E3.cR r1.1.Core) 1 0 r1.1.Core.length (fun i j => E3.cf (r1.1.Core.getD i E3.z) j), [0, 1, 0, 1].length = [0, 1, 0, 1].length, ∀ i, i < [0, 1, 0, 1].length → ∀ j, j < 1 → E3.cf ([0, 1, 0, 1].getD i E3.z) j = E3.cf ([0, 1, 0, 1].getD i E3.z) j]) (by kernel_rfl) (fun hg => ⟨((by decide : ∀ y0 : Bool, ((y0 = true) → (y0 = true))) ((((r1.2 : Int) == 0) && ((r3.2 : Int) == 0)) && ((r5.2 : Int) == 0))) hg, ((by decide : ∀ y0 : Bool, ((y0 = true) → (y0 = true))) ((((r1.2 : Int) == 0) && ((r3.2 : Int) == 0)) && ((r5.2 : Int) == 0))) hg, trivial⟩) (fun hg => slices_Equal_int_ok _ _ _ (by rw [hg] at e13; exact e13) (al := false)) (by kernel_rfl) (fun hg => ⟨(by first | rfl | exact Elem.sub_len _ (by omega) | omega | simp | (simp <;> omega)), E3.rowQ_all r1.1.Core rfl, rfl, fun _ _ _ _ => rfl, trivial⟩) (fun hx => by cases hx) ?_
  refine segs [] tabOk mixed 4000 (S := .and (((((r1.2 : Int) == 0) && ((r3.2 : Int) == 0)) && ((r5.2 : Int) == 0)) = true → ((((r1.2 : Int) == 0) && ((r3.2 : Int) == 0)) && ((r5.2 : Int) == 0)) = true) (.and (((((((r1.2 : Int) == 0) && ((r3.2 : Int) == 0)) && ((r5.2 : Int) == 0)) && r12) = true → ((((((r1.2 : Int) == 0) && ((r3.2 : Int) == 0)) && ((r5.2 : Int) == 0)) && r12) = true))) (.and (((((((r1.2 : Int) == 0) && ((r3.2 : Int) == 0)) && ((r5.2 : Int) == 0)) && r12) = true → ((((((r1.2 : Int) == 0) && ((r3.2 : Int) == 0)) && ((r5.2 : Int) == 0)) && r12) = true))) (.and ((((((r1.2 : Int) == 0) && ((r3.2 : Int) == 0)) && ((r5.2 : Int) == 0)) && r12) = true → (((((r1.2 : Int) == 0) && ((r3.2 : Int) == 0)) && ((r5.2 : Int) == 0)) && r12) = true) (.and ((((((((r1.2 : Int) == 0) && ((r3.2 : Int) == 0)) && ((r5.2 : Int) == 0)) && r12) && ((r1.1.Most : Int) == 8)) = true → (((((((r1.2 : Int) == 0) && ((r3.2 : Int) == 0)) && ((r5.2 : Int) == 0)) && r12) && ((r1.1.Most : Int) == 8)) = true))) (.and ((((((((r1.2 : Int) == 0) && ((r3.2 : Int) == 0)) && ((r5.2 : Int) == 0)) && r12) && ((r1.1.Most : Int) == 8)) = true → (((((((r1.2 : Int) == 0) && ((r3.2 : Int) == 0)) && ((r5.2 : Int) == 0)) && r12) && ((r1.1.Most : Int) == 8)) = true))) (.and (((((((r1.2 : Int) == 0) && ((r3.2 : Int) == 0)) && ((r5.2 : Int) == 0)) && r12) && ((r1.1.Most : Int) == 8)) = true → ((((((r1.2 : Int) == 0) && ((r3.2 : Int) == 0)) && ((r5.2 : Int) == 0)) && r12) && ((r1.1.Most : Int) == 8)) = true) (.and (((((((((r1.2 : Int) == 0) && ((r3.2 : Int) == 0)) && ((r5.2 : Int) == 0)) && r12) && ((r1.1.Most : Int) == 8)) && ((r3.1.Most : Int) == 7)) = true → ((((((((r1.2 : Int) == 0) && ((r3.2 : Int) == 0)) && ((r5.2 : Int) == 0)) && r12) && ((r1.1.Most : Int) == 8)) && ((r3.1.Most : Int) == 7)) = true))) (.and ((((((((r1.2 : Int) == 0) && ((r3.2 : Int) == 0)) && ((r5.2 : Int) == 0)) && r12) && ((r1.1.Most : Int) == 8)) && ((r3.1.Most : Int) == 7)) = true → (((((((r1.2 : Int) == 0) && ((r3.2 : Int) == 0)) && ((r5.2 : Int) == 0)) && r12) && ((r1.1.Most : Int) == 8)) && ((r3.1.Most : Int) == 7)) = true) (.leaf 0)))))))))) (by kernel_rfl) ?_
  refine sk_and (fun h => h) ?_
  refine sk_and (fun h => h) ?_
  refine sk_and (fun h => h) ?_
  refine sk_and (fun h => h) ?_
  refine sk_and (fun h => h) ?_
  refine sk_and (fun h => h) ?_
  refine sk_and (fun h => h) ?_
  refine sk_and (fun h => h) ?_
  refine sk_and (fun h => h) ?_
  refine sk_leaf ?_
  obtain rfl := some_ h
  exact end_ok [] Try.results8 (ps := [((((((((r1.2 : Int) == 0) && ((r3.2 : Int) == 0)) && ((r5.2 : Int) == 0)) && r12) && ((r1.1.Most : Int) == 8)) && ((r3.1.Most : Int) == 7)) && ((r5.1 : Int) == 6)) = ((((((((r1.2 : Int) == 0) && ((r3.2 : Int) == 0)) && ((r5.2 : Int) == 0)) && r12) && ((r1.1.Most : Int) == 8)) && ((r3.1.Most : Int) == 7)) && ((r5.1 : Int) == 6))]) (by kernel_rfl) ⟨rfl, trivial⟩ (fun _ => ⟨rfl, by simp⟩)

set_option maxHeartbeats 40000000 in
set_option maxRecDepth 100000 in
theorem keep_total_ok (a0 : (List Int)) (r : Int) (h : keep_total a0 = some r) {al : Bool} : PCalls Try.prog 11 [.pv ((E3.ro a0))] al (.pv (.raw (.int .i64 r))) [] := by
  unfold keep_total at h
  refine fn_ok tabOk Try.func11 (by kernel_rfl) (by kernel_rfl) Try.ntmps11 (by simp) ?_
  refine segs [] tabOk mixed 4000 (S := .leaf 0) (by kernel_rfl) ?_
  refine sk_leaf ?_
  refine len_ro (by kernel_rfl) 6 (s := 1) (n := a0.length) (c := fun i j => E3.cf (a0.getD i E3.z) j) (by kernel_rfl) ?_; intro hl1_0
  replace h : (fun (x : Nat × Int × Nat) => keep_total_l1 a0 x.1 x.2.1 x.2.2 = some r) (FUEL, 0, 0) := h
  refine loop_ok (by kernel_rfl) (X := Nat × Int × Nat) (fun x => keep_total_l1 a0 x.1 x.2.1 x.2.2 = some r) (fun x => x.1) (fun x => mk 17 [(2, .pv (.raw (.int .i64 0))), (3, .pv (.raw (.int .i64 x.2.1))), (6, .pv ((E3.ro a0))), (7, .pv (.raw (.int .i64 ((a0.length : Nat) : Int)))), (8, .pv (.raw (.int .i64 ((x.2.2 : Nat) : Int))))] []) (FUEL, 0, 0) h ?_ ?_
  · exact sub_ok (ρ := []) (l := [(0 : Int) = 0, (0 : Int) = 0, a0.length = a0.length, ∀ i, i < a0.length → ∀ j, j < 1 → E3.cf (a0.getD i E3.z) j = E3.cf (a0.getD i E3.z) j, (((a0.length : Nat) : Int) : Int) = ((a0.length : Nat) : Int), (0 : Int) = ((0 : Nat) : Int)]) (by kernel_rfl) ⟨rfl, rfl, rfl, fun _ _ _ _ => rfl, rfl, (by first | rfl | simp), trivial⟩
  · clear h; rintro ⟨n1, x1, k2⟩ h p1 hp1
    obtain _ | n1 := n1
    · cases (show (none : Option (Int)) = some r from h)
    have h : keep_total_l1 a0 (n1 + 1) x1 k2 = some r := h
    unfold keep_total_l1 at h
    refine segs [] tabOk mixed 4000 (S := .br (decide ((((k2 : Nat) : Int) : Int) < ((a0.length : Nat) : Int))) (.and (0 ≤ (((k2 : Nat) : Int) : Int) ∧ ((k2 : Nat) : Int) < ((a0.length : Nat) : Int)) (.leaf 0)) (.leaf 1)) (by kernel_rfl) ?_
    refine br_ h ?_ ?_ <;> clear h <;> intro c3 h
    · refine sk_and ⟨Int.natCast_nonneg _, of_decide_eq_true c3⟩ ?_
      refine sk_leaf ?_
      refine back_ok (p := p1) (by kernel_rfl) (hp1 (n1, (IntKind.i64.wrap (x1 + (a0.getD k2 0))), k2 + 1) _ h (Nat.lt_succ_self n1) ?_)
      exact sub_ok (ρ := []) (l := [(0 : Int) = 0, ((IntKind.i64.wrap (x1 + (a0.getD k2 0))) : Int) = (IntKind.i64.wrap (x1 + (a0.getD k2 0))), a0.length = a0.length, ∀ i, i < a0.length → ∀ j, j < 1 → E3.cf (a0.getD i E3.z) j = E3.cf (a0.getD i E3.z) j, (((a0.length : Nat) : Int) : Int) = ((a0.length : Nat) : Int), ((IntKind.i64.wrap (((k2 : Nat) : Int) + 1)) : Int) = (((k2 + 1) : Nat) : Int)]) (by kernel_rfl) ⟨rfl, rfl, rfl, fun _ _ _ _ => rfl, rfl, (wrap_nat (Int.ofNat_lt.1 (of_decide_eq_true c3)) (by omega)), trivial⟩
    · refine sk_leaf ?_
      obtain rfl := some_ h
      exact end_ok [] Try.results11 (ps := [(x1 : Int) = x1]) (by kernel_rfl) ⟨rfl, trivial⟩ (fun _ => ⟨rfl, by simp⟩)

set_option maxHeartbeats 40000000 in
set_option maxRecDepth 100000 in
theorem slices_Max_int_ok (a0 : (List Int)) (r : Int) (h : slices_Max_int a0 = some r) {al : Bool} : PCalls Try.prog 12 [.pv ((E3.ro a0))] al (.pv (.raw (.int .i64 r))) [] := by
  unfold slices_Max_int at h
  refine fn_ok tabOk Try.func12 (by kernel_rfl) (by kernel_rfl) Try.ntmps12 (by simp) ?_
  refine segs [] tabOk mixed 4000 (S := .br (decide ((((a0.length : Nat) : Int) : Int) < 1)) (.bad) (.and (0 ≤ (0 : Int) ∧ 0 < ((a0.length : Nat) : Int)) (.leaf 0))) (by kernel_rfl) ?_
  refine br_ h ?_ ?_ <;> clear h <;> intro c1 h
  · cases h
  · refine gd_ h ?_; clear h; intro g2 h
    refine sk_leaf ?_
    refine len_ro (by kernel_rfl) 0 (s := 1) (n := a0.length) (c := fun i j => E3.cf (a0.getD i E3.z) j) (by kernel_rfl) ?_; intro hl1_0
    replace h : (fun (x : Nat × Int × Int) => slices_Max_int_l1 a0 x.1 x.2.1 x.2.2 = some r) (FUEL, (a0.getD 0 0), 1) := h
    refine loop_ok (by kernel_rfl) (X := Nat × Int × Int) (fun x => slices_Max_int_l1 a0 x.1 x.2.1 x.2.2 = some r) (fun x => x.1) (fun x => mk 25 [(0, .pv ((E3.ro a0))), (2, .pv (.raw (.int .i64 0))), (3, .pv (.raw (.int .i64 x.2.1))), (4, .pv (.raw (.int .i64 x.2.2)))] []) (FUEL, (a0.getD 0 0), 1) h ?_ ?_
    · exact sub_ok (ρ := []) (l := [a0.length = a0.length, ∀ i, i < a0.length → ∀ j, j < 1 → E3.cf (a0.getD i E3.z) j = E3.cf (a0.getD i E3.z) j, (0 : Int) = 0, ((a0.getD 0 0) : Int) = (a0.getD 0 0), (1 : Int) = 1]) (by kernel_rfl) ⟨rfl, fun _ _ _ _ => rfl, rfl, rfl, rfl, trivial⟩
    · clear h; rintro ⟨n1, x3, x4⟩ h p1 hp1
      obtain _ | n1 := n1
      · cases (show (none : Option (Int)) = some r from h)
      have h : slices_Max_int_l1 a0 (n1 + 1) x3 x4 = some r := h
      unfold slices_Max_int_l1 at h
      refine segs [] tabOk mixed 4000 (S := .br (decide ((x4 : Int) < ((a0.length : Nat) : Int))) (.and (0 ≤ (x4 : Int) ∧ x4 < ((a0.length : Nat) : Int)) (.leaf 0)) (.leaf 1)) (by kernel_rfl) ?_
      refine br_ h ?_ ?_ <;> clear h <;> intro c5 h
      · refine gd_ h ?_; clear h; intro g6 h
        refine sk_leaf ?_
        refine back_ok (p := p1) (by kernel_rfl) (hp1 (n1, (if ((a0.getD (Int.toNat x4) 0) : Int) > x3 then (a0.getD (Int.toNat x4) 0) else x3), (IntKind.i64.wrap (x4 + 1))) _ h (Nat.lt_succ_self n1) ?_)
        exact sub_ok (ρ := []) (l := [a0.length = a0.length, ∀ i, i < a0.length → ∀ j, j < 1 → E3.cf (a0.getD i E3.z) j = E3.cf (a0.getD i E3.z) j, (0 : Int) = 0, ((if ((a0.getD (Int.toNat x4) 0) : Int) > x3 then (a0.getD (Int.toNat x4) 0) else x3) : Int) = (if ((a0.getD (Int.toNat x4) 0) : Int) > x3 then (a0.getD (Int.toNat x4) 0) else x3), ((IntKind.i64.wrap (x4 + 1)) : Int) = (IntKind.i64.wrap (x4 + 1))]) (by kernel_rfl) ⟨rfl, fun _ _ _ _ => rfl, rfl, rfl, rfl, trivial⟩
      · refine sk_leaf ?_
        obtain rfl := some_ h
        exact end_ok [] Try.results12 (ps := [(x3 : Int) = x3]) (by kernel_rfl) ⟨rfl, trivial⟩ (fun _ => ⟨rfl, by simp⟩)

set_option maxHeartbeats 40000000 in
set_option maxRecDepth 100000 in
theorem keep_SpreadGraham_ok (a0 : (List Int)) (a1 : Int) (r : Bool) (h : keep_SpreadGraham a0 a1 = some r) {al : Bool} : PCalls Try.prog 3 [.pv ((E3.ro a0)), .pv (.raw (.int .i64 a1))] al (.pv (.raw (.bool r))) [] := by
  unfold keep_SpreadGraham at h
  refine fn_ok tabOk Try.func3 (by kernel_rfl) (by kernel_rfl) Try.ntmps3 (by simp) ?_
  refine segs [] tabOk mixed 4000 (S := .leaf 0) (by kernel_rfl) ?_
  refine sk_leaf ?_
  obtain ⟨r1, e2, h⟩ := bd_ h
  refine call_ok (d := some 9) (fn := 8) (ax := []) (args := []) (ps := []) (hb' := []) (by kernel_rfl) (keep_alive5_ok  _ e2 (al := true)) (by kernel_rfl) trivial (fun _ => (by kernel_rfl)) (by simp) rfl (by kernel_rfl) ?_
  refine segs [] tabOk mixed 4000 (S := .br (!r1) (.leaf 0) (.leaf 1)) (by kernel_rfl) ?_
  refine br_ h ?_ ?_ <;> clear h <;> intro c3 h
  · refine sk_leaf ?_
    obtain rfl := some_ h
    exact end_ok [] Try.results3 (ps := [false = false]) (by kernel_rfl) ⟨rfl, trivial⟩ (fun _ => ⟨rfl, by simp⟩)
  · refine sk_leaf ?_
    obtain ⟨r4, e5, h⟩ := bd_ h
    refine call_ok (d := some 14) (fn := 9) (ax := [.pv ((E3.ro a0)), .pv (.raw (.int .i64 a1))]) (args := [.pv ((E3.ro a0)), .pv (.raw (.int .i64 a1))]) (ps := [a0.length = a0.length, ∀ i, i < a0.length → ∀ j, j < 1 → E3.cf (a0.getD i E3.z) j = E3.cf (a0.getD i E3.z) j, (a1 : Int) = a1]) (hb' := [.row 3 1 (E3.cR r4.1.Core)]) (by kernel_rfl) (spread_List_ok _ _ _ e5 (al := true)) (by kernel_rfl) ⟨rfl, fun _ _ _ _ => rfl, rfl, trivial⟩ (fun _ => (by kernel_rfl)) (by simp) (by simp only [List.map_cons, List.map_nil, Elem.row_up, up_map] <;> rfl) (by kernel_rfl) ?_
    refine segs [] tabOk mixed 4000 (S := .and (((!((r4.2 : Int) != 0)) = true → ((!((r4.2 : Int) != 0)) = true))) (.and (((!((r4.2 : Int) != 0)) = true → ((!((r4.2 : Int) != 0)) = true))) (.and (((r4.2 : Int) != 0) = false → (!((r4.2 : Int) != 0)) = true) (.br (((r4.2 : Int) != 0) || ((((a0.length : Nat) : Int) : Int) == 0)) (.leaf 0) (.leaf 1))))) (by kernel_rfl) ?_
    refine sk_and (fun h => h) ?_
    refine sk_and (fun h => h) ?_
    refine sk_and ((by decide : ∀ y0 : Bool, ((y0 = false) → ((!y0) = true))) ((r4.2 : Int) != 0)) ?_
    refine br_ h ?_ ?_ <;> clear h <;> intro c9 h
    · refine sk_leaf ?_
      obtain ⟨r10, e11, h⟩ := bd_ h
      refine call_ok (d := some 27) (fn := 10) (ax := [.pv ((E3.ro a0)), .pv (.raw (.int .i64 a1))]) (args := [.pv ((E3.ro a0)), .pv (.raw (.int .i64 a1))]) (ps := [a0.length = a0.length, ∀ i, i < a0.length → ∀ j, j < 1 → E3.cf (a0.getD i E3.z) j = E3.cf (a0.getD i E3.z) j, (a1 : Int) = a1]) (hb' := []) (by kernel_rfl) (spread_Wrong_ok _ _ _ e11 (al := true)) (by kernel_rfl) ⟨rfl, fun _ _ _ _ => rfl, rfl, trivial⟩ (fun _ => (by kernel_rfl)) (by simp) rfl (by kernel_rfl) ?_
      refine segs [] tabOk mixed 4000 (S := .and ((((r4.2 : Int) == r10) = true → (((r4.2 : Int) == r10) = true))) (.and ((((r4.2 : Int) == r10) = true → (((r4.2 : Int) == r10) = true))) (.and (((r4.2 : Int) == r10) = true → ((r4.2 : Int) == r10) = true) (.leaf 0)))) (by kernel_rfl) ?_
      refine sk_and (fun h => h) ?_
      refine sk_and (fun h => h) ?_
      refine sk_and (fun h => h) ?_
      refine sk_leaf ?_
      obtain rfl := some_ h
      exact end_ok [] Try.results3 (ps := [(((r4.2 : Int) == r10) && ((r4.1.Most : Int) == 0)) = (((r4.2 : Int) == r10) && ((r4.1.Most : Int) == 0))]) (by kernel_rfl) ⟨rfl, trivial⟩ (fun _ => ⟨rfl, by simp⟩)
    · refine sk_leaf ?_
      obtain ⟨r15, e16, h⟩ := bd_ h
      refine call_ok (d := some 39) (fn := 11) (ax := [.pv ((E3.ro a0))]) (args := [.pv ((E3.ro a0))]) (ps := [a0.length = a0.length, ∀ i, i < a0.length → ∀ j, j < 1 → E3.cf (a0.getD i E3.z) j = E3.cf (a0.getD i E3.z) j]) (hb' := []) (by kernel_rfl) (keep_total_ok _ _ e16 (al := true)) (by kernel_rfl) ⟨rfl, fun _ _ _ _ => rfl, trivial⟩ (fun _ => (by kernel_rfl)) (by simp) rfl (by kernel_rfl) ?_
      refine segs [] tabOk mixed 4000 (S := .leaf 0) (by kernel_rfl) ?_
      refine sk_leaf ?_
      obtain ⟨r17, e18, h⟩ := bd_ h
      refine call_ok (d := some 43) (fn := 12) (ax := [.pv ((E3.ro a0))]) (args := [.pv ((E3.ro a0))]) (ps := [a0.length = a0.length, ∀ i, i < a0.length → ∀ j, j < 1 → E3.cf (a0.getD i E3.z) j = E3.cf (a0.getD i E3.z) j]) (hb' := []) (by kernel_rfl) (slices_Max_int_ok _ _ e18 (al := true)) (by kernel_rfl) ⟨rfl, fun _ _ _ _ => rfl, trivial⟩ (fun _ => (by kernel_rfl)) (by simp) rfl (by kernel_rfl) ?_
      refine segs [] tabOk mixed 4000 (S := .br (decide (((IntKind.i64.wrap (r4.1.Most * a1)) : Int) > (IntKind.i64.wrap (r15 + (IntKind.i64.wrap ((IntKind.i64.wrap (a1 - 1)) * r17)))))) (.leaf 0) (.leaf 1)) (by kernel_rfl) ?_
      refine br_ h ?_ ?_ <;> clear h <;> intro c19 h
      · refine sk_leaf ?_
        obtain rfl := some_ h
        exact end_ok [] Try.results3 (ps := [false = false]) (by kernel_rfl) ⟨rfl, trivial⟩ (fun _ => ⟨rfl, by simp⟩)
      · refine sk_leaf ?_
        obtain ⟨r20, e21, h⟩ := bd_ h
        refine call_ok (d := some 50) (fn := 13) (ax := [.pv ((E3.ro a0)), .pv (.raw (.int .i64 a1))]) (args := [.pv ((E3.ro a0)), .pv (.raw (.int .i64 a1))]) (ps := [a0.length = a0.length, ∀ i, i < a0.length → ∀ j, j < 1 → E3.cf (a0.getD i E3.z) j = E3.cf (a0.getD i E3.z) j, (a1 : Int) = a1]) (hb' := []) (by kernel_rfl) (spread_Best_ok _ _ _ e21 (al := true)) (by kernel_rfl) ⟨rfl, fun _ _ _ _ => rfl, rfl, trivial⟩ (fun _ => (by kernel_rfl)) (by simp) rfl (by kernel_rfl) ?_
        refine segs [] tabOk mixed 4000 (S := .and (((!((r20.2 : Int) != 0)) = true → ((!((r20.2 : Int) != 0)) = true))) (.and (((!((r20.2 : Int) != 0)) = true → ((!((r20.2 : Int) != 0)) = true))) (.and (((!((r20.2 : Int) != 0)) = true → ((!((r20.2 : Int) != 0)) = true))) (.and (((!((r20.2 : Int) != 0)) = true → ((!((r20.2 : Int) != 0)) = true))) (.and (((!((r20.2 : Int) != 0)) = true → ((!((r20.2 : Int) != 0)) = true))) (.and (((!((r20.2 : Int) != 0)) = true → ((!((r20.2 : Int) != 0)) = true))) (.and (((!((r20.2 : Int) != 0)) = true → ((!((r20.2 : Int) != 0)) = true))) (.and (((!((r20.2 : Int) != 0)) = true → ((!((r20.2 : Int) != 0)) = true))) (.and (((!((r20.2 : Int) != 0)) = true → ((!((r20.2 : Int) != 0)) = true))) (.and (((r20.2 : Int) != 0) = false → (!((r20.2 : Int) != 0)) = true) (.leaf 0))))))))))) (by kernel_rfl) ?_
        refine sk_and (fun h => h) ?_
        refine sk_and (fun h => h) ?_
        refine sk_and (fun h => h) ?_
        refine sk_and (fun h => h) ?_
        refine sk_and (fun h => h) ?_
        refine sk_and (fun h => h) ?_
        refine sk_and (fun h => h) ?_
        refine sk_and (fun h => h) ?_
        refine sk_and (fun h => h) ?_
        refine sk_and ((by decide : ∀ y0 : Bool, ((y0 = false) → ((!y0) = true))) ((r20.2 : Int) != 0)) ?_
        refine sk_leaf ?_
        obtain rfl := some_ h
        exact end_ok [] Try.results3 (ps := [(((r20.2 : Int) != 0) || (decide (((IntKind.i64.wrap (r4.1.Most * a1)) : Int) ≤ (IntKind.i64.wrap (r20.1 * (IntKind.i64.wrap ((IntKind.i64.wrap (2 * a1)) - 1))))))) = (((r20.2 : Int) != 0) || (decide (((IntKind.i64.wrap (r4.1.Most * a1)) : Int) ≤ (IntKind.i64.wrap (r20.1 * (IntKind.i64.wrap ((IntKind.i64.wrap (2 * a1)) - 1)))))))]) (by kernel_rfl) ⟨rfl, trivial⟩ (fun _ => ⟨rfl, by simp⟩)

set_option maxHeartbeats 40000000 in
set_option maxRecDepth 100000 in
theorem keep_SpreadThird_ok (a0 : (List Int)) (a1 : Int) (r : Bool) (h : keep_SpreadThird a0 a1 = some r) {al : Bool} : PCalls Try.prog 4 [.pv ((E3.ro a0)), .pv (.raw (.int .i64 a1))] al (.pv (.raw (.bool r))) [] := by
  unfold keep_SpreadThird at h
  refine fn_ok tabOk Try.func4 (by kernel_rfl) (by kernel_rfl) Try.ntmps4 (by simp) ?_
  refine segs [] tabOk mixed 4000 (S := .leaf 0) (by kernel_rfl) ?_
  refine sk_leaf ?_
  obtain ⟨r1, e2, h⟩ := bd_ h
  refine call_ok (d := some 9) (fn := 8) (ax := []) (args := []) (ps := []) (hb' := []) (by kernel_rfl) (keep_alive5_ok  _ e2 (al := true)) (by kernel_rfl) trivial (fun _ => (by kernel_rfl)) (by simp) rfl (by kernel_rfl) ?_
  refine segs [] tabOk mixed 4000 (S := .br (!r1) (.leaf 0) (.leaf 1)) (by kernel_rfl) ?_
  refine br_ h ?_ ?_ <;> clear h <;> intro c3 h
  · refine sk_leaf ?_
    obtain rfl := some_ h
    exact end_ok [] Try.results4 (ps := [false = false]) (by kernel_rfl) ⟨rfl, trivial⟩ (fun _ => ⟨rfl, by simp⟩)
  · refine sk_leaf ?_
    obtain ⟨r4, e5, h⟩ := bd_ h
    refine call_ok (d := some 14) (fn := 14) (ax := [.pv ((E3.ro a0)), .pv (.raw (.int .i64 a1))]) (args := [.pv ((E3.ro a0)), .pv (.raw (.int .i64 a1))]) (ps := [a0.length = a0.length, ∀ i, i < a0.length → ∀ j, j < 1 → E3.cf (a0.getD i E3.z) j = E3.cf (a0.getD i E3.z) j, (a1 : Int) = a1]) (hb' := [.row 3 1 (E3.cR r4.1.Core)]) (by kernel_rfl) (spread_Longest_ok _ _ _ e5 (al := true)) (by kernel_rfl) ⟨rfl, fun _ _ _ _ => rfl, rfl, trivial⟩ (fun _ => (by kernel_rfl)) (by simp) (by simp only [List.map_cons, List.map_nil, Elem.row_up, up_map] <;> rfl) (by kernel_rfl) ?_
    refine segs [] tabOk mixed 4000 (S := .leaf 0) (by kernel_rfl) ?_
    refine sk_leaf ?_
    obtain ⟨r6, e7, h⟩ := bd_ h
    refine call_ok (d := some 20) (fn := 13) (ax := [.pv ((E3.ro a0)), .pv (.raw (.int .i64 a1))]) (args := [.pv ((E3.ro a0)), .pv (.raw (.int .i64 a1))]) (ps := [a0.length = a0.length, ∀ i, i < a0.length → ∀ j, j < 1 → E3.cf (a0.getD i E3.z) j = E3.cf (a0.getD i E3.z) j, (a1 : Int) = a1]) (hb' := []) (by kernel_rfl) (spread_Best_ok _ _ _ e7 (al := true)) (by kernel_rfl) ⟨rfl, fun _ _ _ _ => rfl, rfl, trivial⟩ (fun _ => (by kernel_rfl)) (by simp) rfl (by kernel_rfl) ?_
    refine segs [] tabOk mixed 4000 (S := .and (((!((r4.2 : Int) != 0)) = true → ((!((r4.2 : Int) != 0)) = true))) (.and (((r4.2 : Int) != 0) = false → (!((r4.2 : Int) != 0)) = true) (.and (((!(((r4.2 : Int) != 0) || ((r6.2 : Int) != 0))) = true → ((!(((r4.2 : Int) != 0) || ((r6.2 : Int) != 0))) = true))) (.and (((!(((r4.2 : Int) != 0) || ((r6.2 : Int) != 0))) = true → ((!(((r4.2 : Int) != 0) || ((r6.2 : Int) != 0))) = true))) (.and (((!(((r4.2 : Int) != 0) || ((r6.2 : Int) != 0))) = true → ((!(((r4.2 : Int) != 0) || ((r6.2 : Int) != 0))) = true))) (.and (((!(((r4.2 : Int) != 0) || ((r6.2 : Int) != 0))) = true → ((!(((r4.2 : Int) != 0) || ((r6.2 : Int) != 0))) = true))) (.and (((!(((r4.2 : Int) != 0) || ((r6.2 : Int) != 0))) = true → ((!(((r4.2 : Int) != 0) || ((r6.2 : Int) != 0))) = true))) (.and (((!(((r4.2 : Int) != 0) || ((r6.2 : Int) != 0))) = true → ((!(((r4.2 : Int) != 0) || ((r6.2 : Int) != 0))) = true))) (.and (((!(((r4.2 : Int) != 0) || ((r6.2 : Int) != 0))) = true → ((!(((r4.2 : Int) != 0) || ((r6.2 : Int) != 0))) = true))) (.and (((!(((r4.2 : Int) != 0) || ((r6.2 : Int) != 0))) = true → ((!(((r4.2 : Int) != 0) || ((r6.2 : Int) != 0))) = true))) (.and (((!(((r4.2 : Int) != 0) || ((r6.2 : Int) != 0))) = true → ((!(((r4.2 : Int) != 0) || ((r6.2 : Int) != 0))) = true))) (.and (((!(((r4.2 : Int) != 0) || ((r6.2 : Int) != 0))) = true → ((!(((r4.2 : Int) != 0) || ((r6.2 : Int) != 0))) = true))) (.and ((((r4.2 : Int) != 0) || ((r6.2 : Int) != 0)) = false → (!(((r4.2 : Int) != 0) || ((r6.2 : Int) != 0))) = true) (.leaf 0)))))))))))))) (by kernel_rfl) ?_
    refine sk_and (fun h => h) ?_
    refine sk_and ((by decide : ∀ y0 : Bool, ((y0 = false) → ((!y0) = true))) ((r4.2 : Int) != 0)) ?_
    refine sk_and (fun h => h) ?_
    refine sk_and (fun h => h) ?_
    refine sk_and (fun h => h) ?_
    refine sk_and (fun h => h) ?_
    refine sk_and (fun h => h) ?_
    refine sk_and (fun h => h) ?_
    refine sk_and (fun h => h) ?_
    refine sk_and (fun h => h) ?_
    refine sk_and (fun h => h) ?_
    refine sk_and (fun h => h) ?_
    refine sk_and ((by decide : ∀ y0 : Bool, ((y0 = false) → ((!y0) = true))) (((r4.2 : Int) != 0) || ((r6.2 : Int) != 0))) ?_
    refine sk_leaf ?_
    obtain rfl := some_ h
    exact end_ok [] Try.results4 (ps := [((((r4.2 : Int) != 0) || ((r6.2 : Int) != 0)) || (decide (((IntKind.i64.wrap ((IntKind.i64.wrap (3 * a1)) * r4.1.Most)) : Int) ≤ (IntKind.i64.wrap (r6.1 * (IntKind.i64.wrap ((IntKind.i64.wrap (4 * a1)) - 1))))))) = ((((r4.2 : Int) != 0) || ((r6.2 : Int) != 0)) || (decide (((IntKind.i64.wrap ((IntKind.i64.wrap (3 * a1)) * r4.1.Most)) : Int) ≤ (IntKind.i64.wrap (r6.1 * (IntKind.i64.wrap ((IntKind.i64.wrap (4 * a1)) - 1)))))))]) (by kernel_rfl) ⟨rfl, trivial⟩ (fun _ => ⟨rfl, by simp⟩)

set_option maxHeartbeats 40000000 in
set_option maxRecDepth 100000 in
theorem keep_SpreadSums_ok (a0 : (List Int)) (a1 : Int) (r : Bool) (h : keep_SpreadSums a0 a1 = some r) {al : Bool} : PCalls Try.prog 5 [.pv ((E3.ro a0)), .pv (.raw (.int .i64 a1))] al (.pv (.raw (.bool r))) [] := by
  unfold keep_SpreadSums at h
  refine fn_ok tabOk Try.func5 (by kernel_rfl) (by kernel_rfl) Try.ntmps5 (by simp) ?_
  refine segs [4] tabOk mixed 4000 (S := .leaf 0) (by kernel_rfl) ?_
  refine sk_leaf ?_
  obtain ⟨r1, e2, h⟩ := bd_ h
  refine call_ok (d := some 12) (fn := 8) (ax := []) (args := []) (ps := []) (hb' := []) (by kernel_rfl) (keep_alive5_ok  _ e2 (al := true)) (by kernel_rfl) trivial (fun _ => (by kernel_rfl)) (by simp) rfl (by kernel_rfl) ?_
  refine segs [4] tabOk mixed 4000 (S := .br (!r1) (.leaf 0) (.leaf 1)) (by kernel_rfl) ?_
  refine br_ h ?_ ?_ <;> clear h <;> intro c3 h
  · refine sk_leaf ?_
    obtain rfl := some_ h
    exact end_ok [] Try.results5 (ps := [false = false]) (by kernel_rfl) ⟨rfl, trivial⟩ (fun _ => ⟨rfl, by simp⟩)
  · refine sk_leaf ?_
    refine bs_ok (d := 14) (e := 28) (s := 1) (n := 2) (cs := [.fn 9 [], .fn 14 []]) (cs' := [.fn 9 [], .fn 14 []]) (by kernel_rfl) rfl (by kernel_rfl) ?_
    refine segs [4] tabOk mixed 4000 (S := .leaf 0) (by kernel_rfl) ?_
    refine sk_leaf ?_
    refine unrollp_ok (by kernel_rfl) 3 ?_; intro u4 hu4; refine hu4 _ _ ?_
    refine segs [4] tabOk mixed 4000 (S := .leaf 0) (by kernel_rfl) ?_
    refine sk_leaf ?_
    refine cut_ok (by kernel_rfl) (τ := mk 76 [(0, .pv ((E3.ro a0))), (1, .pv (.raw (.int .i64 a1))), (4, .pv (.raw (.bool false))), (14, .row 0 1 0 2), (15, .pv (.raw (.int .i64 ((2 : Nat) : Int)))), (16, .pv (.raw (.int .i64 0)))] [(0, .row 28 1 [.fn 9 [], .fn 14 []])]) (subP_ok [0] (ρ := [(0, some 17280)]) (l := [a0.length = a0.length, ∀ i, i < a0.length → ∀ j, j < 1 → E3.cf (a0.getD i E3.z) j = E3.cf (a0.getD i E3.z) j, (a1 : Int) = a1, false = false, 0 = 0, 2 = 2, (((2 : Nat) : Int) : Int) = ((2 : Nat) : Int), (0 : Int) = 0]) (by kernel_rfl) ⟨rfl, fun _ _ _ _ => rfl, rfl, rfl, rfl, rfl, rfl, rfl, trivial⟩) ?_
    refine segs [] tabOk mixed 4000 (S := .br (decide ((0 : Int) < ((2 : Nat) : Int))) (.and (0 ≤ (0 : Int) ∧ 0 < ((2 : Nat) : Int)) (.leaf 0)) (.leaf 1)) (by kernel_rfl) ?_
    refine br_ h ?_ ?_ <;> clear h <;> intro c5 h
    · refine sk_and (by decide) ?_
      refine sk_leaf ?_
      refine ldl_ok (d := 19) (v := .fn 9 []) (by kernel_rfl) ?_
      refine segs [4] tabOk mixed 4000 (S := .leaf 0) (by kernel_rfl) ?_
      refine sk_leaf ?_
      obtain ⟨r7, e8, h⟩ := bd_ h
      refine call_ok (d := some 24) (fn := 9) (ax := [.pv ((E3.ro a0)), .pv (.raw (.int .i64 a1))]) (args := [.pv ((E3.ro a0)), .pv (.raw (.int .i64 a1))]) (ps := [a0.length = a0.length, ∀ i, i < a0.length → ∀ j, j < 1 → E3.cf (a0.getD i E3.z) j = E3.cf (a0.getD i E3.z) j, (a1 : Int) = a1]) (hb' := [.row 3 1 (E3.cR r7.1.Core)]) (by kernel_rfl) (spread_List_ok _ _ _ e8 (al := true)) (by kernel_rfl) ⟨rfl, fun _ _ _ _ => rfl, rfl, trivial⟩ (fun _ => (by kernel_rfl)) (by simp) (by simp only [List.map_cons, List.map_nil, Elem.row_up, up_map] <;> rfl) (by kernel_rfl) ?_
      refine segs [4] tabOk mixed 4000 (S := .br ((r7.2 : Int) != 0) (.leaf 0) (.leaf 1)) (by kernel_rfl) ?_
      refine br_ h ?_ ?_ <;> clear h <;> intro c9 h
      · refine sk_leaf ?_
        refine back_ok (p := u4 2) (by kernel_rfl) (hu4 _ _ ?_)
        refine segs [4] tabOk mixed 4000 (S := .leaf 0) (by kernel_rfl) ?_
        refine sk_leaf ?_
        refine cut_ok (by kernel_rfl) (τ := mk 76 [(0, .pv ((E3.ro a0))), (1, .pv (.raw (.int .i64 a1))), (4, .pv (.raw (.bool false))), (6, .fn 9 []), (7, .ptr 0 0), (8, .pv (.raw (.int .i64 r7.2))), (14, .row 2 1 0 2), (15, .pv (.raw (.int .i64 ((2 : Nat) : Int)))), (16, .pv (.raw (.int .i64 (IntKind.i64.wrap (0 + 1))))), (17, .pv (.raw (.bool (decide ((0 : Int) < ((2 : Nat) : Int)))))), (18, .ptr 2 ((0 + 0) * 1)), (19, .fn 9 []), (20, .tup [.agg [.row 1 1 0 r7.1.Core.length, .pv (.raw (.int .i64 r7.1.Most))], .pv (.raw (.int .i64 r7.2))]), (21, .fn 9 []), (22, .pv ((E3.ro a0))), (23, .pv (.raw (.int .i64 a1))), (24, .tup [.agg [.row 1 1 0 r7.1.Core.length, .pv (.raw (.int .i64 r7.1.Most))], .pv (.raw (.int .i64 r7.2))]), (25, .agg [.row 1 1 0 r7.1.Core.length, .pv (.raw (.int .i64 r7.1.Most))]), (26, .pv (.raw (.int .i64 r7.2))), (27, .pv (.raw (.int .i64 r7.2))), (28, .pv (.raw (.bool ((r7.2 : Int) != 0)))), (75, .pv (.raw (.int .i64 (IntKind.i64.wrap (0 + 1)))))] [(0, .box [.row 1 1 0 r7.1.Core.length, .pv (.raw (.int .i64 r7.1.Most))]), (1, .row 3 1 (E3.cR r7.1.Core)), (2, .row 28 1 [.fn 9 [], .fn 14 []])]) (subP_ok [2] (ρ := [(0, some 16832), (1, some 17920), (2, some 0)]) (l := [a0.length = a0.length, ∀ i, i < a0.length → ∀ j, j < 1 → E3.cf (a0.getD i E3.z) j = E3.cf (a0.getD i E3.z) j, (a1 : Int) = a1, false = false, 0 = 0, (r7.2 : Int) = r7.2, 0 = 0, 2 = 2, (((2 : Nat) : Int) : Int) = ((2 : Nat) : Int), ((IntKind.i64.wrap (0 + 1)) : Int) = (IntKind.i64.wrap (0 + 1)), (decide ((0 : Int) < ((2 : Nat) : Int))) = (decide ((0 : Int) < ((2 : Nat) : Int))), ((0 + 0) * 1) = ((0 + 0) * 1), 0 = 0, r7.1.Core.length = r7.1.Core.length, (r7.1.Most : Int) = r7.1.Most, (r7.2 : Int) = r7.2, a0.length = a0.length, ∀ i, i < a0.length → ∀ j, j < 1 → E3.cf (a0.getD i E3.z) j = E3.cf (a0.getD i E3.z) j, (a1 : Int) = a1, 0 = 0, r7.1.Core.length = r7.1.Core.length, (r7.1.Most : Int) = r7.1.Most, (r7.2 : Int) = r7.2, 0 = 0, r7.1.Core.length = r7.1.Core.length, (r7.1.Most : Int) = r7.1.Most, (r7.2 : Int) = r7.2, (r7.2 : Int) = r7.2, ((r7.2 : Int) != 0) = ((r7.2 : Int) != 0), ((IntKind.i64.wrap (0 + 1)) : Int) = (IntKind.i64.wrap (0 + 1)), 0 = 0, r7.1.Core.length = r7.1.Core.length, (r7.1.Most : Int) = r7.1.Most, E3.cR r7.1.Core = E3.cR r7.1.Core, AllPv (E3.cR r7.1.Core)]) (by kernel_rfl) ⟨rfl, fun _ _ _ _ => rfl, rfl, rfl, rfl, rfl, rfl, rfl, rfl, rfl, rfl, rfl, rfl, rfl, rfl, rfl, rfl, fun _ _ _ _ => rfl, rfl, rfl, rfl, rfl, rfl, rfl, rfl, rfl, rfl, rfl, rfl, rfl, rfl, rfl, rfl, rfl, (Elem.cR_pv _ _), trivial⟩) ?_
        refine segs [] tabOk mixed 4000 (S := .br (decide (((IntKind.i64.wrap (0 + 1)) : Int) < ((2 : Nat) : Int))) (.and (0 ≤ ((IntKind.i64.wrap (0 + 1)) : Int) ∧ (IntKind.i64.wrap (0 + 1)) < ((2 : Nat) : Int)) (.leaf 0)) (.leaf 1)) (by kernel_rfl) ?_
        refine br_ h ?_ ?_ <;> clear h <;> intro c10 h
        · refine gd_ h ?_; clear h; intro g11 h
          refine sk_leaf ?_
          refine ldl_ok (d := 19) (v := .fn 14 []) (by kernel_rfl) ?_
          refine segs [4] tabOk mixed 4000 (S := .leaf 0) (by kernel_rfl) ?_
          refine sk_leaf ?_
          obtain ⟨r12, e13, h⟩ := bd_ h
          refine call_ok (d := some 24) (fn := 14) (ax := [.pv ((E3.ro a0)), .pv (.raw (.int .i64 a1))]) (args := [.pv ((E3.ro a0)), .pv (.raw (.int .i64 a1))]) (ps := [a0.length = a0.length, ∀ i, i < a0.length → ∀ j, j < 1 → E3.cf (a0.getD i E3.z) j = E3.cf (a0.getD i E3.z) j, (a1 : Int) = a1]) (hb' := [.row 3 1 (E3.cR r12.1.Core)]) (by kernel_rfl) (spread_Longest_ok _ _ _ e13 (al := true)) (by kernel_rfl) ⟨rfl, fun _ _ _ _ => rfl, rfl, trivial⟩ (fun _ => (by kernel_rfl)) (by simp) (by simp only [List.map_cons, List.map_nil, Elem.row_up, up_map] <;> rfl) (by kernel_rfl) ?_
          refine segs [4] tabOk mixed 4000 (S := .br ((r12.2 : Int) != 0) (.leaf 0) (.leaf 1)) (by kernel_rfl) ?_
          refine br_ h ?_ ?_ <;> clear h <;> intro c14 h
          · refine sk_leaf ?_
            refine back_ok (p := u4 1) (by kernel_rfl) (hu4 _ _ ?_)
            refine segs [4] tabOk mixed 4000 (S := .leaf 0) (by kernel_rfl) ?_
            refine sk_leaf ?_
            refine cut_ok (by kernel_rfl) (τ := mk 76 [(0, .pv ((E3.ro a0))), (1, .pv (.raw (.int .i64 a1))), (4, .pv (.raw (.bool false))), (6, .fn 14 []), (7, .ptr 0 0), (8, .pv (.raw (.int .i64 r12.2))), (14, .row 2 1 0 2), (15, .pv (.raw (.int .i64 ((2 : Nat) : Int)))), (16, .pv (.raw (.int .i64 (IntKind.i64.wrap ((IntKind.i64.wrap (0 + 1)) + 1))))), (17, .pv (.raw (.bool (decide (((IntKind.i64.wrap (0 + 1)) : Int) < ((2 : Nat) : Int)))))), (18, .ptr 2 ((0 + (Int.toNat (IntKind.i64.wrap (0 + 1)))) * 1)), (19, .fn 14 []), (20, .tup [.agg [.row 1 1 0 r12.1.Core.length, .pv (.raw (.int .i64 r12.1.Most))], .pv (.raw (.int .i64 r12.2))]), (21, .fn 14 []), (22, .pv ((E3.ro a0))), (23, .pv (.raw (.int .i64 a1))), (24, .tup [.agg [.row 1 1 0 r12.1.Core.length, .pv (.raw (.int .i64 r12.1.Most))], .pv (.raw (.int .i64 r12.2))]), (25, .agg [.row 1 1 0 r12.1.Core.length, .pv (.raw (.int .i64 r12.1.Most))]), (26, .pv (.raw (.int .i64 r12.2))), (27, .pv (.raw (.int .i64 r12.2))), (28, .pv (.raw (.bool ((r12.2 : Int) != 0)))), (75, .pv (.raw (.int .i64 (IntKind.i64.wrap ((IntKind.i64.wrap (0 + 1)) + 1)))))] [(0, .box [.row 1 1 0 r12.1.Core.length, .pv (.raw (.int .i64 r12.1.Most))]), (1, .row 3 1 (E3.cR r12.1.Core)), (2, .row 28 1 [.fn 9 [], .fn 14 []])]) (subP_ok [2] (ρ := [(0, some 16832), (1, some 17920), (2, some 2)]) (l := [a0.length = a0.length, ∀ i, i < a0.length → ∀ j, j < 1 → E3.cf (a0.getD i E3.z) j = E3.cf (a0.getD i E3.z) j, (a1 : Int) = a1, false = false, 0 = 0, (r12.2 : Int) = r12.2, 0 = 0, 2 = 2, (((2 : Nat) : Int) : Int) = ((2 : Nat) : Int), ((IntKind.i64.wrap ((IntKind.i64.wrap (0 + 1)) + 1)) : Int) = (IntKind.i64.wrap ((IntKind.i64.wrap (0 + 1)) + 1)), (decide (((IntKind.i64.wrap (0 + 1)) : Int) < ((2 : Nat) : Int))) = (decide (((IntKind.i64.wrap (0 + 1)) : Int) < ((2 : Nat) : Int))), ((0 + (Int.toNat (IntKind.i64.wrap (0 + 1)))) * 1) = ((0 + (Int.toNat (IntKind.i64.wrap (0 + 1)))) * 1), 0 = 0, r12.1.Core.length = r12.1.Core.length, (r12.1.Most : Int) = r12.1.Most, (r12.2 : Int) = r12.2, a0.length = a0.length, ∀ i, i < a0.length → ∀ j, j < 1 → E3.cf (a0.getD i E3.z) j = E3.cf (a0.getD i E3.z) j, (a1 : Int) = a1, 0 = 0, r12.1.Core.length = r12.1.Core.length, (r12.1.Most : Int) = r12.1.Most, (r12.2 : Int) = r12.2, 0 = 0, r12.1.Core.length = r12.1.Core.length, (r12.1.Most : Int) = r12.1.Most, (r12.2 : Int) = r12.2, (r12.2 : Int) = r12.2, ((r12.2 : Int) != 0) = ((r12.2 : Int) != 0), ((IntKind.i64.wrap ((IntKind.i64.wrap (0 + 1)) + 1)) : Int) = (IntKind.i64.wrap ((IntKind.i64.wrap (0 + 1)) + 1)), 0 = 0, r12.1.Core.length = r12.1.Core.length, (r12.1.Most : Int) = r12.1.Most, E3.cR r12.1.Core = E3.cR r12.1.Core, AllPv (E3.cR r12.1.Core)]) (by kernel_rfl) ⟨rfl, fun _ _ _ _ => rfl, rfl, rfl, rfl, rfl, rfl, rfl, rfl, rfl, rfl, rfl, rfl, rfl, rfl, rfl, rfl, fun _ _ _ _ => rfl, rfl, rfl, rfl, rfl, rfl, rfl, rfl, rfl, rfl, rfl, rfl, rfl, rfl, rfl, rfl, rfl, (Elem.cR_pv _ _), trivial⟩) ?_
            refine segs [] tabOk mixed 4000 (S := .br (decide (((IntKind.i64.wrap ((IntKind.i64.wrap (0 + 1)) + 1)) : Int) < ((2 : Nat) : Int))) (.and (0 ≤ ((IntKind.i64.wrap ((IntKind.i64.wrap (0 + 1)) + 1)) : Int) ∧ (IntKind.i64.wrap ((IntKind.i64.wrap (0 + 1)) + 1)) < ((2 : Nat) : Int)) (.leaf 0)) (.leaf 1)) (by kernel_rfl) ?_
            refine br_ h ?_ ?_ <;> clear h <;> intro c15 h
            · refine gd_ h ?_; clear h; intro g16 h
              refine sk_leaf ?_
              cases h
            · refine sk_leaf ?_
              obtain rfl := some_ h
              exact end_ok [] Try.results5 (ps := [true = true]) (by kernel_rfl) ⟨rfl, trivial⟩ (fun _ => ⟨rfl, by simp⟩)
          · refine sk_leaf ?_
            obtain ⟨g17, h⟩ := if_ h
            refine mks_ok (d := 30) (e := 3) (s := 1) (b := 8) (n := a1) (zs := [.pv (.raw (.int .i64 0))]) E3 (by kernel_rfl) (by kernel_rfl) rfl (by kernel_rfl) g17 (by kernel_rfl) ?_
            refine segs [4] tabOk mixed 4000 (S := .br ((((r12.1.Core.length : Nat) : Int) : Int) != ((a0.length : Nat) : Int)) (.leaf 0) (.leaf 1)) (by kernel_rfl) ?_
            refine br_ h ?_ ?_ <;> clear h <;> intro c18 h
            · refine sk_leaf ?_
              obtain rfl := some_ h
              exact end_ok [] Try.results5 (ps := [false = false]) (by kernel_rfl) ⟨rfl, trivial⟩ (fun _ => ⟨rfl, by simp⟩)
            · refine sk_leaf ?_
              refine len_ro (by kernel_rfl) 0 (s := 1) (n := a0.length) (c := fun i j => E3.cf (a0.getD i E3.z) j) (by kernel_rfl) ?_; intro hl1_0
              refine len_ro (by kernel_rfl) 22 (s := 1) (n := a0.length) (c := fun i j => E3.cf (a0.getD i E3.z) j) (by kernel_rfl) ?_; intro hl1_1
              refine len_ro (by kernel_rfl) 34 (s := 1) (n := a0.length) (c := fun i j => E3.cf (a0.getD i E3.z) j) (by kernel_rfl) ?_; intro hl1_2
              refine len_row (by kernel_rfl) 1 (e := 3) (s := 1) (n := r7.1.Core.length) (cs := E3.cR r7.1.Core) (by kernel_rfl) (Elem.cR_length _ _) ?_; intro hl1_3
              refine len_row (by kernel_rfl) 17920 (e := 3) (s := 1) (n := r12.1.Core.length) (cs := E3.cR r12.1.Core) (by kernel_rfl) (Elem.cR_length _ _) ?_; intro hl1_4
              refine len_row (by kernel_rfl) 18304 (e := 3) (s := 1) (n := (List.replicate (Int.toNat a1) (0 : Int)).length) (cs := E3.cR (List.replicate (Int.toNat a1) (0 : Int))) (by kernel_rfl) (Elem.cR_length _ _) ?_; intro hl1_5
              replace h : (fun (x : Nat × Nat × List Int) => keep_SpreadSums_l1 a0 a1 r12 x.1 x.2.1 x.2.2 = some r) (FUEL, 0, (List.replicate (Int.toNat a1) (0 : Int))) := h
              refine loop_ok (by kernel_rfl) (X := Nat × Nat × List Int) (fun x => keep_SpreadSums_l1 a0 a1 r12 x.1 x.2.1 x.2.2 = some r) (fun x => x.1) (fun x => mk 76 [(0, .pv ((E3.ro a0))), (1, .pv (.raw (.int .i64 a1))), (4, .pv (.raw (.bool false))), (6, .fn 14 []), (7, .ptr 0 0), (8, .pv (.raw (.int .i64 r12.2))), (9, .row 2 1 0 x.2.2.length), (14, .row 3 1 0 2), (15, .pv (.raw (.int .i64 ((2 : Nat) : Int)))), (16, .pv (.raw (.int .i64 (IntKind.i64.wrap (0 + 1))))), (17, .pv (.raw (.bool (decide (((IntKind.i64.wrap (0 + 1)) : Int) < ((2 : Nat) : Int)))))), (18, .ptr 3 ((0 + (Int.toNat (IntKind.i64.wrap (0 + 1)))) * 1)), (19, .fn 14 []), (20, .tup [.agg [.row 1 1 0 r12.1.Core.length, .pv (.raw (.int .i64 r12.1.Most))], .pv (.raw (.int .i64 r12.2))]), (21, .fn 14 []), (22, .pv ((E3.ro a0))), (23, .pv (.raw (.int .i64 a1))), (24, .tup [.agg [.row 1 1 0 r12.1.Core.length, .pv (.raw (.int .i64 r12.1.Most))], .pv (.raw (.int .i64 r12.2))]), (25, .agg [.row 1 1 0 r12.1.Core.length, .pv (.raw (.int .i64 r12.1.Most))]), (26, .pv (.raw (.int .i64 r12.2))), (27, .pv (.raw (.int .i64 r12.2))), (28, .pv (.raw (.bool ((r12.2 : Int) != 0)))), (29, .pv (.raw (.int .i64 a1))), (30, .row 2 1 0 x.2.2.length), (31, .ptr 0 0), (32, .row 1 1 0 r12.1.Core.length), (33, .pv (.raw (.int .i64 ((r12.1.Core.length : Nat) : Int)))), (34, .pv ((E3.ro a0))), (35, .pv (.raw (.int .i64 ((a0.length : Nat) : Int)))), (36, .pv (.raw (.bool ((((r12.1.Core.length : Nat) : Int) : Int) != ((a0.length : Nat) : Int))))), (37, .ptr 0 0), (38, .row 1 1 0 r12.1.Core.length), (39, .pv (.raw (.int .i64 ((r12.1.Core.length : Nat) : Int)))), (40, .pv (.raw (.int .i64 ((x.2.1 : Nat) : Int)))), (75, .pv (.raw (.int .i64 (IntKind.i64.wrap (0 + 1)))))] [(0, .box [.row 1 1 0 r12.1.Core.length, .pv (.raw (.int .i64 r12.1.Most))]), (1, .row 3 1 (E3.cR r12.1.Core)), (2, .row 3 1 (E3.cR x.2.2)), (3, .row 28 1 [.fn 9 [], .fn 14 []])]) (FUEL, 0, (List.replicate (Int.toNat a1) (0 : Int))) h ?_ ?_
              · exact subP_ok [3] (ρ := [(0, some 16832), (1, some 17920), (2, some 18304), (3, some 2)]) (l := [a0.length = a0.length, ∀ i, i < a0.length → ∀ j, j < 1 → E3.cf (a0.getD i E3.z) j = E3.cf (a0.getD i E3.z) j, (a1 : Int) = a1, false = false, 0 = 0, (r12.2 : Int) = r12.2, 0 = 0, (Int.toNat a1) = ((List.replicate (Int.toNat a1) (0 : Int)).length), 0 = 0, 2 = 2, (((2 : Nat) : Int) : Int) = ((2 : Nat) : Int), ((IntKind.i64.wrap (0 + 1)) : Int) = (IntKind.i64.wrap (0 + 1)), (decide (((IntKind.i64.wrap (0 + 1)) : Int) < ((2 : Nat) : Int))) = (decide (((IntKind.i64.wrap (0 + 1)) : Int) < ((2 : Nat) : Int))), ((0 + (Int.toNat (IntKind.i64.wrap (0 + 1)))) * 1) = ((0 + (Int.toNat (IntKind.i64.wrap (0 + 1)))) * 1), 0 = 0, r12.1.Core.length = r12.1.Core.length, (r12.1.Most : Int) = r12.1.Most, (r12.2 : Int) = r12.2, a0.length = a0.length, ∀ i, i < a0.length → ∀ j, j < 1 → E3.cf (a0.getD i E3.z) j = E3.cf (a0.getD i E3.z) j, (a1 : Int) = a1, 0 = 0, r12.1.Core.length = r12.1.Core.length, (r12.1.Most : Int) = r12.1.Most, (r12.2 : Int) = r12.2, 0 = 0, r12.1.Core.length = r12.1.Core.length, (r12.1.Most : Int) = r12.1.Most, (r12.2 : Int) = r12.2, (r12.2 : Int) = r12.2, ((r12.2 : Int) != 0) = ((r12.2 : Int) != 0), (a1 : Int) = a1, 0 = 0, (Int.toNat a1) = ((List.replicate (Int.toNat a1) (0 : Int)).length), 0 = 0, 0 = 0, r12.1.Core.length = r12.1.Core.length, (((r12.1.Core.length : Nat) : Int) : Int) = ((r12.1.Core.length : Nat) : Int), a0.length = a0.length, ∀ i, i < a0.length → ∀ j, j < 1 → E3.cf (a0.getD i E3.z) j = E3.cf (a0.getD i E3.z) j, (((a0.length : Nat) : Int) : Int) = ((a0.length : Nat) : Int), ((((r12.1.Core.length : Nat) : Int) : Int) != ((a0.length : Nat) : Int)) = ((((r12.1.Core.length : Nat) : Int) : Int) != ((a0.length : Nat) : Int)), 0 = 0, 0 = 0, r12.1.Core.length = r12.1.Core.length, (((r12.1.Core.length : Nat) : Int) : Int) = ((r12.1.Core.length : Nat) : Int), (0 : Int) = ((0 : Nat) : Int), ((IntKind.i64.wrap (0 + 1)) : Int) = (IntKind.i64.wrap (0 + 1)), 0 = 0, r12.1.Core.length = r12.1.Core.length, (r12.1.Most : Int) = r12.1.Most, E3.cR r12.1.Core = E3.cR r12.1.Core, AllPv (E3.cR r12.1.Core), E3.cR (List.replicate (Int.toNat a1) (0 : Int)) = E3.cR (List.replicate (Int.toNat a1) (0 : Int)), AllPv (E3.cR (List.replicate (Int.toNat a1) (0 : Int)))]) (by kernel_rfl) ⟨rfl, fun _ _ _ _ => rfl, rfl, rfl, rfl, rfl, rfl, (by first | rfl | (simp; done) | omega | (simp <;> omega)), rfl, rfl, rfl, rfl, rfl, rfl, rfl, rfl, rfl, rfl, rfl, fun _ _ _ _ => rfl, rfl, rfl, rfl, rfl, rfl, rfl, rfl, rfl, rfl, rfl, rfl, rfl, rfl, (by first | rfl | (simp; done) | omega | (simp <;> omega)), rfl, rfl, rfl, rfl, rfl, fun _ _ _ _ => rfl, rfl, rfl, rfl, rfl, rfl, rfl, (by first | rfl | simp), rfl, rfl, rfl, rfl, rfl, (Elem.cR_pv _ _), rfl, (Elem.cR_pv _ _), trivial⟩
              · clear h; rintro ⟨n1, k19, l20⟩ h p1 hp1
                obtain _ | n1 := n1
                · cases (show (none : Option (Bool)) = some r from h)
                have h : keep_SpreadSums_l1 a0 a1 r12 (n1 + 1) k19 l20 = some r := h
                unfold keep_SpreadSums_l1 at h
                refine segs [4] tabOk mixed 4000 (S := .br (decide ((((k19 : Nat) : Int) : Int) < ((r12.1.Core.length : Nat) : Int))) (.and (0 ≤ (((k19 : Nat) : Int) : Int) ∧ ((k19 : Nat) : Int) < ((r12.1.Core.length : Nat) : Int)) (.leaf 0)) (.leaf 1)) (by kernel_rfl) ?_
                refine br_ h ?_ ?_ <;> clear h <;> intro c21 h
                · refine sk_and ⟨Int.natCast_nonneg _, of_decide_eq_true c21⟩ ?_
                  refine sk_leaf ?_
                  refine ld_ok (d := 44) (id := 1) (i := (0 + k19)) (j := 0) (e := 3) (n := 1) E3 (xs := r12.1.Core) (by kernel_rfl) (by kernel_rfl) (by first | omega | (simp at * <;> omega) | (simp_all <;> omega)) (by exact Nat.le_of_ble_eq_true rfl) ?_
                  refine segs [4] tabOk mixed 4000 (S := .and (((!(decide (((r12.1.Core.getD (0 + k19) 0) : Int) < 0))) = true → ((!(decide (((r12.1.Core.getD (0 + k19) 0) : Int) < 0))) = true))) (.and (((!(decide (((r12.1.Core.getD (0 + k19) 0) : Int) < 0))) = true → ((!(decide (((r12.1.Core.getD (0 + k19) 0) : Int) < 0))) = true))) (.and ((decide (((r12.1.Core.getD (0 + k19) 0) : Int) < 0)) = false → (!(decide (((r12.1.Core.getD (0 + k19) 0) : Int) < 0))) = true) (.br ((decide (((r12.1.Core.getD (0 + k19) 0) : Int) < 0)) || (decide (((r12.1.Core.getD (0 + k19) 0) : Int) ≥ a1))) (.leaf 0) (.and (0 ≤ ((r12.1.Core.getD (0 + k19) 0) : Int) ∧ (r12.1.Core.getD (0 + k19) 0) < ((l20.length : Nat) : Int)) (.leaf 1)))))) (by kernel_rfl) ?_
                  refine sk_and (fun h => h) ?_
                  refine sk_and (fun h => h) ?_
                  refine sk_and ((by decide : ∀ y0 : Bool, ((y0 = false) → ((!y0) = true))) (decide (((r12.1.Core.getD (0 + k19) 0) : Int) < 0))) ?_
                  refine br_ h ?_ ?_ <;> clear h <;> intro c26 h
                  · refine sk_leaf ?_
                    obtain rfl := some_ h
                    exact end_ok [] Try.results5 (ps := [false = false]) (by kernel_rfl) ⟨rfl, trivial⟩ (fun _ => ⟨rfl, by simp⟩)
                  · refine gd_ h ?_; clear h; intro g27 h
                    refine sk_leaf ?_
                    refine ld_ok (d := 55) (id := 2) (i := (0 + (Int.toNat (r12.1.Core.getD (0 + k19) 0)))) (j := 0) (e := 3) (n := 1) E3 (xs := l20) (by kernel_rfl) (by kernel_rfl) (by first | omega | (simp at * <;> omega) | (simp_all <;> omega)) (by exact Nat.le_of_ble_eq_true rfl) ?_
                    refine segs [4] tabOk mixed 4000 (S := .and (0 ≤ (((k19 : Nat) : Int) : Int) ∧ ((k19 : Nat) : Int) < ((a0.length : Nat) : Int)) (.and (0 ≤ ((r12.1.Core.getD (0 + k19) 0) : Int) ∧ (r12.1.Core.getD (0 + k19) 0) < ((l20.length : Nat) : Int)) (.leaf 0))) (by kernel_rfl) ?_
                    refine gd_ h ?_; clear h; intro g28 h
                    refine gd_ h ?_; clear h; intro g29 h
                    refine sk_leaf ?_
                    refine st_ok (id := 2) (i := (0 + (Int.toNat (r12.1.Core.getD (0 + k19) 0)))) (j := 0) (e := 3) (vs := [.pv (.raw (.int .i64 (IntKind.i64.wrap ((l20.getD (0 + (Int.toNat (r12.1.Core.getD (0 + k19) 0))) 0) + (a0.getD k19 0)))))]) E3 (xs := l20) (IntKind.i64.wrap ((l20.getD (0 + (Int.toNat (r12.1.Core.getD (0 + k19) 0))) 0) + (a0.getD k19 0))) (by kernel_rfl) (by kernel_rfl) (by first | omega | (simp at * <;> omega) | (simp_all <;> omega)) (by exact Nat.le_of_ble_eq_true rfl) rfl ?_
                    refine segs [4] tabOk mixed 4000 (S := .leaf 0) (by kernel_rfl) ?_
                    refine sk_leaf ?_
                    refine back_ok (p := p1) (by kernel_rfl) (hp1 (n1, k19 + 1, (l20.set (0 + (Int.toNat (r12.1.Core.getD (0 + k19) 0))) (IntKind.i64.wrap ((l20.getD (0 + (Int.toNat (r12.1.Core.getD (0 + k19) 0))) 0) + (a0.getD k19 0))))) _ h (Nat.lt_succ_self n1) ?_)
                    exact subP_ok [3] (ρ := (rI 0 0 4)) (l := [a0.length = a0.length, ∀ i, i < a0.length → ∀ j, j < 1 → E3.cf (a0.getD i E3.z) j = E3.cf (a0.getD i E3.z) j, (a1 : Int) = a1, false = false, 0 = 0, (r12.2 : Int) = r12.2, 0 = 0, l20.length = ((l20.set (0 + (Int.toNat (r12.1.Core.getD (0 + k19) 0))) (IntKind.i64.wrap ((l20.getD (0 + (Int.toNat (r12.1.Core.getD (0 + k19) 0))) 0) + (a0.getD k19 0)))).length), 0 = 0, 2 = 2, (((2 : Nat) : Int) : Int) = ((2 : Nat) : Int), ((IntKind.i64.wrap (0 + 1)) : Int) = (IntKind.i64.wrap (0 + 1)), (decide (((IntKind.i64.wrap (0 + 1)) : Int) < ((2 : Nat) : Int))) = (decide (((IntKind.i64.wrap (0 + 1)) : Int) < ((2 : Nat) : Int))), ((0 + (Int.toNat (IntKind.i64.wrap (0 + 1)))) * 1) = ((0 + (Int.toNat (IntKind.i64.wrap (0 + 1)))) * 1), 0 = 0, r12.1.Core.length = r12.1.Core.length, (r12.1.Most : Int) = r12.1.Most, (r12.2 : Int) = r12.2, a0.length = a0.length, ∀ i, i < a0.length → ∀ j, j < 1 → E3.cf (a0.getD i E3.z) j = E3.cf (a0.getD i E3.z) j, (a1 : Int) = a1, 0 = 0, r12.1.Core.length = r12.1.Core.length, (r12.1.Most : Int) = r12.1.Most, (r12.2 : Int) = r12.2, 0 = 0, r12.1.Core.length = r12.1.Core.length, (r12.1.Most : Int) = r12.1.Most, (r12.2 : Int) = r12.2, (r12.2 : Int) = r12.2, ((r12.2 : Int) != 0) = ((r12.2 : Int) != 0), (a1 : Int) = a1, 0 = 0, l20.length = ((l20.set (0 + (Int.toNat (r12.1.Core.getD (0 + k19) 0))) (IntKind.i64.wrap ((l20.getD (0 + (Int.toNat (r12.1.Core.getD (0 + k19) 0))) 0) + (a0.getD k19 0)))).length), 0 = 0, 0 = 0, r12.1.Core.length = r12.1.Core.length, (((r12.1.Core.length : Nat) : Int) : Int) = ((r12.1.Core.length : Nat) : Int), a0.length = a0.length, ∀ i, i < a0.length → ∀ j, j < 1 → E3.cf (a0.getD i E3.z) j = E3.cf (a0.getD i E3.z) j, (((a0.length : Nat) : Int) : Int) = ((a0.length : Nat) : Int), ((((r12.1.Core.length : Nat) : Int) : Int) != ((a0.length : Nat) : Int)) = ((((r12.1.Core.length : Nat) : Int) : Int) != ((a0.length : Nat) : Int)), 0 = 0, 0 = 0, r12.1.Core.length = r12.1.Core.length, (((r12.1.Core.length : Nat) : Int) : Int) = ((r12.1.Core.length : Nat) : Int), ((IntKind.i64.wrap (((k19 : Nat) : Int) + 1)) : Int) = (((k19 + 1) : Nat) : Int), ((IntKind.i64.wrap (0 + 1)) : Int) = (IntKind.i64.wrap (0 + 1)), 0 = 0, r12.1.Core.length = r12.1.Core.length, (r12.1.Most : Int) = r12.1.Most, E3.cR r12.1.Core = E3.cR r12.1.Core, AllPv (E3.cR r12.1.Core), E3.cR (l20.set (0 + (Int.toNat (r12.1.Core.getD (0 + k19) 0))) (IntKind.i64.wrap ((l20.getD (0 + (Int.toNat (r12.1.Core.getD (0 + k19) 0))) 0) + (a0.getD k19 0)))) = E3.cR (l20.set (0 + (Int.toNat (r12.1.Core.getD (0 + k19) 0))) (IntKind.i64.wrap ((l20.getD (0 + (Int.toNat (r12.1.Core.getD (0 + k19) 0))) 0) + (a0.getD k19 0)))), AllPv (E3.cR (l20.set (0 + (Int.toNat (r12.1.Core.getD (0 + k19) 0))) (IntKind.i64.wrap ((l20.getD (0 + (Int.toNat (r12.1.Core.getD (0 + k19) 0))) 0) + (a0.getD k19 0)))))]) (by kernel_rfl) ⟨rfl, fun _ _ _ _ => rfl, rfl, rfl, rfl, rfl, rfl, (by first | rfl | (simp; done) | omega | (simp <;> omega)), rfl, rfl, rfl, rfl, rfl, rfl, rfl, rfl, rfl, rfl, rfl, fun _ _ _ _ => rfl, rfl, rfl, rfl, rfl, rfl, rfl, rfl, rfl, rfl, rfl, rfl, rfl, rfl, (by first | rfl | (simp; done) | omega | (simp <;> omega)), rfl, rfl, rfl, rfl, rfl, fun _ _ _ _ => rfl, rfl, rfl, rfl, rfl, rfl, rfl, (wrap_nat (Int.ofNat_lt.1 (of_decide_eq_true c21)) (by omega)), rfl, rfl, rfl, rfl, rfl, (Elem.cR_pv _ _), rfl, (Elem.cR_pv _ _), trivial⟩
                · refine sk_leaf ?_
                  obtain ⟨r30, e31, h⟩ := bd_ h
                  refine call_ok (d := some 64) (fn := 12) (ax := [.row 2 1 0 l20.length]) (args := [.pv ((E3.ro l20))]) (ps := [l20.length = l20.length, rowQ (E3.cR l20) 1 0 l20.length (fun i j => E3.cf (l20.getD i E3.z) j)]) (hb' := []) (by kernel_rfl) (slices_Max_int_ok _ _ e31 (al := false)) (by kernel_rfl) ⟨(by first | rfl | exact Elem.sub_len _ (by omega) | omega | simp | (simp <;> omega)), E3.rowQ_all l20 rfl, trivial⟩ (fun hx => by cases hx) (by simp) rfl (by kernel_rfl) ?_
                  refine segs [4] tabOk mixed 4000 (S := .leaf 0) (by kernel_rfl) ?_
                  refine sk_leaf ?_
                  obtain ⟨r32, e33, h⟩ := bd_ h
                  refine callG_ok (d := some 70) (fn := 11) (ax := [.row 2 1 0 l20.length]) (args := [.pv ((E3.ro l20))]) (g := (!((r30 : Int) != r12.1.Most))) (ws := [(!((r30 : Int) != r12.1.Most)) = true]) (ps := [l20.length = l20.length, rowQ (E3.cR l20) 1 0 l20.length (fun i j => E3.cf (l20.getD i E3.z) j)]) (by kernel_rfl) (fun hg => ⟨((by decide : ∀ y0 : Bool, ((y0 = true) → (y0 = true))) (!((r30 : Int) != r12.1.Most))) hg, trivial⟩) (fun hg => keep_total_ok _ _ (by rw [hg] at e33; exact e33) (al := false)) (by kernel_rfl) (fun hg => ⟨(by first | rfl | exact Elem.sub_len _ (by omega) | omega | simp | (simp <;> omega)), E3.rowQ_all l20 rfl, trivial⟩) (fun hx => by cases hx) ?_
                  refine segs [4] tabOk mixed 4000 (S := .leaf 0) (by kernel_rfl) ?_
                  refine sk_leaf ?_
                  obtain ⟨r34, e35, h⟩ := bd_ h
                  refine callG_ok (d := some 72) (fn := 11) (ax := [.pv ((E3.ro a0))]) (args := [.pv ((E3.ro a0))]) (g := (!((r30 : Int) != r12.1.Most))) (ws := [(!((r30 : Int) != r12.1.Most)) = true]) (ps := [a0.length = a0.length, ∀ i, i < a0.length → ∀ j, j < 1 → E3.cf (a0.getD i E3.z) j = E3.cf (a0.getD i E3.z) j]) (by kernel_rfl) (fun hg => ⟨((by decide : ∀ y0 : Bool, ((y0 = true) → (y0 = true))) (!((r30 : Int) != r12.1.Most))) hg, trivial⟩) (fun hg => keep_total_ok _ _ (by rw [hg] at e35; exact e35) (al := true)) (by kernel_rfl) (fun hg => ⟨rfl, fun _ _ _ _ => rfl, trivial⟩) (fun _ => (by kernel_rfl)) ?_
                  refine segs [4] tabOk mixed 4000 (S := .and (((!((r30 : Int) != r12.1.Most)) = true → ((!((r30 : Int) != r12.1.Most)) = true))) (.and (((!((r30 : Int) != r12.1.Most)) = true → ((!((r30 : Int) != r12.1.Most)) = true))) (.and (((r30 : Int) != r12.1.Most) = false → (!((r30 : Int) != r12.1.Most)) = true) (.br (((r30 : Int) != r12.1.Most) || ((r32 : Int) != r34)) (.leaf 0) (.leaf 1))))) (by kernel_rfl) ?_
                  refine sk_and (fun h => h) ?_
                  refine sk_and (fun h => h) ?_
                  refine sk_and ((by decide : ∀ y0 : Bool, ((y0 = false) → ((!y0) = true))) ((r30 : Int) != r12.1.Most)) ?_
                  refine br_ h ?_ ?_ <;> clear h <;> intro c39 h
                  · refine sk_leaf ?_
                    obtain rfl := some_ h
                    exact end_ok [] Try.results5 (ps := [false = false]) (by kernel_rfl) ⟨rfl, trivial⟩ (fun _ => ⟨rfl, by simp⟩)
                  · refine sk_leaf ?_
                    refine back_ok (p := u4 1) (by kernel_rfl) (hu4 _ _ ?_)
                    refine segs [4] tabOk mixed 4000 (S := .leaf 0) (by kernel_rfl) ?_
                    refine sk_leaf ?_
                    refine cut_ok (by kernel_rfl) (τ := mk 76 [(0, .pv ((E3.ro a0))), (1, .pv (.raw (.int .i64 a1))), (4, .pv (.raw (.bool false))), (6, .fn 14 []), (7, .ptr 0 0), (8, .pv (.raw (.int .i64 r12.2))), (9, .row 2 1 0 l20.length), (14, .row 3 1 0 2), (15, .pv (.raw (.int .i64 ((2 : Nat) : Int)))), (16, .pv (.raw (.int .i64 (IntKind.i64.wrap ((IntKind.i64.wrap (0 + 1)) + 1))))), (17, .pv (.raw (.bool (decide (((IntKind.i64.wrap (0 + 1)) : Int) < ((2 : Nat) : Int)))))), (18, .ptr 3 ((0 + (Int.toNat (IntKind.i64.wrap (0 + 1)))) * 1)), (19, .fn 14 []), (20, .tup [.agg [.row 1 1 0 r12.1.Core.length, .pv (.raw (.int .i64 r12.1.Most))], .pv (.raw (.int .i64 r12.2))]), (21, .fn 14 []), (22, .pv ((E3.ro a0))), (23, .pv (.raw (.int .i64 a1))), (24, .tup [.agg [.row 1 1 0 r12.1.Core.length, .pv (.raw (.int .i64 r12.1.Most))], .pv (.raw (.int .i64 r12.2))]), (25, .agg [.row 1 1 0 r12.1.Core.length, .pv (.raw (.int .i64 r12.1.Most))]), (26, .pv (.raw (.int .i64 r12.2))), (27, .pv (.raw (.int .i64 r12.2))), (28, .pv (.raw (.bool ((r12.2 : Int) != 0)))), (29, .pv (.raw (.int .i64 a1))), (30, .row 2 1 0 l20.length), (31, .ptr 0 0), (32, .row 1 1 0 r12.1.Core.length), (33, .pv (.raw (.int .i64 ((r12.1.Core.length : Nat) : Int)))), (34, .pv ((E3.ro a0))), (35, .pv (.raw (.int .i64 ((a0.length : Nat) : Int)))), (36, .pv (.raw (.bool ((((r12.1.Core.length : Nat) : Int) : Int) != ((a0.length : Nat) : Int))))), (37, .ptr 0 0), (38, .row 1 1 0 r12.1.Core.length), (39, .pv (.raw (.int .i64 ((r12.1.Core.length : Nat) : Int)))), (40, .pv (.raw (.int .i64 ((k19 : Nat) : Int)))), (41, .pv (.raw (.bool (decide ((((k19 : Nat) : Int) : Int) < ((r12.1.Core.length : Nat) : Int)))))), (63, .row 2 1 0 l20.length), (64, .pv (.raw (.int .i64 r30))), (65, .ptr 0 1), (66, .pv (.raw (.int .i64 r12.1.Most))), (67, .pv (.raw (.bool ((r30 : Int) != r12.1.Most)))), (68, .pv (.raw (.bool ((r30 : Int) != r12.1.Most)))), (74, .pv (.raw (.bool (((r30 : Int) != r12.1.Most) || ((r32 : Int) != r34))))), (75, .pv (.raw (.int .i64 (IntKind.i64.wrap ((IntKind.i64.wrap (0 + 1)) + 1)))))] [(0, .box [.row 1 1 0 r12.1.Core.length, .pv (.raw (.int .i64 r12.1.Most))]), (1, .row 3 1 (E3.cR r12.1.Core)), (2, .row 3 1 (E3.cR l20)), (3, .row 28 1 [.fn 9 [], .fn 14 []])]) (subP_ok [3] (ρ := (rI 0 0 4)) (l := [a0.length = a0.length, ∀ i, i < a0.length → ∀ j, j < 1 → E3.cf (a0.getD i E3.z) j = E3.cf (a0.getD i E3.z) j, (a1 : Int) = a1, false = false, 0 = 0, (r12.2 : Int) = r12.2, 0 = 0, l20.length = l20.length, 0 = 0, 2 = 2, (((2 : Nat) : Int) : Int) = ((2 : Nat) : Int), ((IntKind.i64.wrap ((IntKind.i64.wrap (0 + 1)) + 1)) : Int) = (IntKind.i64.wrap ((IntKind.i64.wrap (0 + 1)) + 1)), (decide (((IntKind.i64.wrap (0 + 1)) : Int) < ((2 : Nat) : Int))) = (decide (((IntKind.i64.wrap (0 + 1)) : Int) < ((2 : Nat) : Int))), ((0 + (Int.toNat (IntKind.i64.wrap (0 + 1)))) * 1) = ((0 + (Int.toNat (IntKind.i64.wrap (0 + 1)))) * 1), 0 = 0, r12.1.Core.length = r12.1.Core.length, (r12.1.Most : Int) = r12.1.Most, (r12.2 : Int) = r12.2, a0.length = a0.length, ∀ i, i < a0.length → ∀ j, j < 1 → E3.cf (a0.getD i E3.z) j = E3.cf (a0.getD i E3.z) j, (a1 : Int) = a1, 0 = 0, r12.1.Core.length = r12.1.Core.length, (r12.1.Most : Int) = r12.1.Most, (r12.2 : Int) = r12.2, 0 = 0, r12.1.Core.length = r12.1.Core.length, (r12.1.Most : Int) = r12.1.Most, (r12.2 : Int) = r12.2, (r12.2 : Int) = r12.2, ((r12.2 : Int) != 0) = ((r12.2 : Int) != 0), (a1 : Int) = a1, 0 = 0, l20.length = l20.length, 0 = 0, 0 = 0, r12.1.Core.length = r12.1.Core.length, (((r12.1.Core.length : Nat) : Int) : Int) = ((r12.1.Core.length : Nat) : Int), a0.length = a0.length, ∀ i, i < a0.length → ∀ j, j < 1 → E3.cf (a0.getD i E3.z) j = E3.cf (a0.getD i E3.z) j, (((a0.length : Nat) : Int) : Int) = ((a0.length : Nat) : Int), ((((r12.1.Core.length : Nat) : Int) : Int) != ((a0.length : Nat) : Int)) = ((((r12.1.Core.length : Nat) : Int) : Int) != ((a0.length : Nat) : Int)), 0 = 0, 0 = 0, r12.1.Core.length = r12.1.Core.length, (((r12.1.Core.length : Nat) : Int) : Int) = ((r12.1.Core.length : Nat) : Int), (((k19 : Nat) : Int) : Int) = ((k19 : Nat) : Int), (decide ((((k19 : Nat) : Int) : Int) < ((r12.1.Core.length : Nat) : Int))) = (decide ((((k19 : Nat) : Int) : Int) < ((r12.1.Core.length : Nat) : Int))), 0 = 0, l20.length = l20.length, (r30 : Int) = r30, 1 = 1, (r12.1.Most : Int) = r12.1.Most, ((r30 : Int) != r12.1.Most) = ((r30 : Int) != r12.1.Most), ((r30 : Int) != r12.1.Most) = ((r30 : Int) != r12.1.Most), (((r30 : Int) != r12.1.Most) || ((r32 : Int) != r34)) = (((r30 : Int) != r12.1.Most) || ((r32 : Int) != r34)), ((IntKind.i64.wrap ((IntKind.i64.wrap (0 + 1)) + 1)) : Int) = (IntKind.i64.wrap ((IntKind.i64.wrap (0 + 1)) + 1)), 0 = 0, r12.1.Core.length = r12.1.Core.length, (r12.1.Most : Int) = r12.1.Most, E3.cR r12.1.Core = E3.cR r12.1.Core, AllPv (E3.cR r12.1.Core), E3.cR l20 = E3.cR l20, AllPv (E3.cR l20)]) (by kernel_rfl) ⟨rfl, fun _ _ _ _ => rfl, rfl, rfl, rfl, rfl, rfl, rfl, rfl, rfl, rfl, rfl, rfl, rfl, rfl, rfl, rfl, rfl, rfl, fun _ _ _ _ => rfl, rfl, rfl, rfl, rfl, rfl, rfl, rfl, rfl, rfl, rfl, rfl, rfl, rfl, rfl, rfl, rfl, rfl, rfl, rfl, fun _ _ _ _ => rfl, rfl, rfl, rfl, rfl, rfl, rfl, rfl, rfl, rfl, rfl, rfl, rfl, rfl, rfl, rfl, rfl, rfl, rfl, rfl, rfl, rfl, (Elem.cR_pv _ _), rfl, (Elem.cR_pv _ _), trivial⟩) ?_
                    refine segs [] tabOk mixed 4000 (S := .br (decide (((IntKind.i64.wrap ((IntKind.i64.wrap (0 + 1)) + 1)) : Int) < ((2 : Nat) : Int))) (.and (0 ≤ ((IntKind.i64.wrap ((IntKind.i64.wrap (0 + 1)) + 1)) : Int) ∧ (IntKind.i64.wrap ((IntKind.i64.wrap (0 + 1)) + 1)) < ((2 : Nat) : Int)) (.leaf 0)) (.leaf 1)) (by kernel_rfl) ?_
                    refine br_ h ?_ ?_ <;> clear h <;> intro c40 h
                    · refine gd_ h ?_; clear h; intro g41 h
                      refine sk_leaf ?_
                      cases h
                    · refine sk_leaf ?_
                      obtain rfl := some_ h
                      exact end_ok [] Try.results5 (ps := [true = true]) (by kernel_rfl) ⟨rfl, trivial⟩ (fun _ => ⟨rfl, by simp⟩)
        · refine sk_leaf ?_
          obtain rfl := some_ h
          exact end_ok [] Try.results5 (ps := [true = true]) (by kernel_rfl) ⟨rfl, trivial⟩ (fun _ => ⟨rfl, by simp⟩)
      · refine sk_leaf ?_
        obtain ⟨g42, h⟩ := if_ h
        refine mks_ok (d := 30) (e := 3) (s := 1) (b := 8) (n := a1) (zs := [.pv (.raw (.int .i64 0))]) E3 (by kernel_rfl) (by kernel_rfl) rfl (by kernel_rfl) g42 (by kernel_rfl) ?_
        refine segs [4] tabOk mixed 4000 (S := .br ((((r7.1.Core.length : Nat) : Int) : Int) != ((a0.length : Nat) : Int)) (.leaf 0) (.leaf 1)) (by kernel_rfl) ?_
        refine br_ h ?_ ?_ <;> clear h <;> intro c43 h
        · refine sk_leaf ?_
          obtain rfl := some_ h
          exact end_ok [] Try.results5 (ps := [false = false]) (by kernel_rfl) ⟨rfl, trivial⟩ (fun _ => ⟨rfl, by simp⟩)
        · refine sk_leaf ?_
          refine len_ro (by kernel_rfl) 0 (s := 1) (n := a0.length) (c := fun i j => E3.cf (a0.getD i E3.z) j) (by kernel_rfl) ?_; intro hl2_0
          refine len_ro (by kernel_rfl) 22 (s := 1) (n := a0.length) (c := fun i j => E3.cf (a0.getD i E3.z) j) (by kernel_rfl) ?_; intro hl2_1
          refine len_ro (by kernel_rfl) 34 (s := 1) (n := a0.length) (c := fun i j => E3.cf (a0.getD i E3.z) j) (by kernel_rfl) ?_; intro hl2_2
          refine len_row (by kernel_rfl) 17920 (e := 3) (s := 1) (n := r7.1.Core.length) (cs := E3.cR r7.1.Core) (by kernel_rfl) (Elem.cR_length _ _) ?_; intro hl2_3
          refine len_row (by kernel_rfl) 18304 (e := 3) (s := 1) (n := (List.replicate (Int.toNat a1) (0 : Int)).length) (cs := E3.cR (List.replicate (Int.toNat a1) (0 : Int))) (by kernel_rfl) (Elem.cR_length _ _) ?_; intro hl2_4
          replace h : (fun (x : Nat × Nat × List Int) => keep_SpreadSums_l2 a0 a1 r7 x.1 x.2.1 x.2.2 = some r) (FUEL, 0, (List.replicate (Int.toNat a1) (0 : Int))) := h
          refine loop_ok (by kernel_rfl) (X := Nat × Nat × List Int) (fun x => keep_SpreadSums_l2 a0 a1 r7 x.1 x.2.1 x.2.2 = some r) (fun x => x.1) (fun x => mk 76 [(0, .pv ((E3.ro a0))), (1, .pv (.raw (.int .i64 a1))), (4, .pv (.raw (.bool false))), (6, .fn 9 []), (7, .ptr 0 0), (8, .pv (.raw (.int .i64 r7.2))), (9, .row 2 1 0 x.2.2.length), (14, .row 3 1 0 2), (15, .pv (.raw (.int .i64 ((2 : Nat) : Int)))), (16, .pv (.raw (.int .i64 0))), (17, .pv (.raw (.bool (decide ((0 : Int) < ((2 : Nat) : Int)))))), (18, .ptr 3 ((0 + 0) * 1)), (19, .fn 9 []), (20, .tup [.agg [.row 1 1 0 r7.1.Core.length, .pv (.raw (.int .i64 r7.1.Most))], .pv (.raw (.int .i64 r7.2))]), (21, .fn 9 []), (22, .pv ((E3.ro a0))), (23, .pv (.raw (.int .i64 a1))), (24, .tup [.agg [.row 1 1 0 r7.1.Core.length, .pv (.raw (.int .i64 r7.1.Most))], .pv (.raw (.int .i64 r7.2))]), (25, .agg [.row 1 1 0 r7.1.Core.length, .pv (.raw (.int .i64 r7.1.Most))]), (26, .pv (.raw (.int .i64 r7.2))), (27, .pv (.raw (.int .i64 r7.2))), (28, .pv (.raw (.bool ((r7.2 : Int) != 0)))), (29, .pv (.raw (.int .i64 a1))), (30, .row 2 1 0 x.2.2.length), (31, .ptr 0 0), (32, .row 1 1 0 r7.1.Core.length), (33, .pv (.raw (.int .i64 ((r7.1.Core.length : Nat) : Int)))), (34, .pv ((E3.ro a0))), (35, .pv (.raw (.int .i64 ((a0.length : Nat) : Int)))), (36, .pv (.raw (.bool ((((r7.1.Core.length : Nat) : Int) : Int) != ((a0.length : Nat) : Int))))), (37, .ptr 0 0), (38, .row 1 1 0 r7.1.Core.length), (39, .pv (.raw (.int .i64 ((r7.1.Core.length : Nat) : Int)))), (40, .pv (.raw (.int .i64 ((x.2.1 : Nat) : Int))))] [(0, .box [.row 1 1 0 r7.1.Core.length, .pv (.raw (.int .i64 r7.1.Most))]), (1, .row 3 1 (E3.cR r7.1.Core)), (2, .row 3 1 (E3.cR x.2.2)), (3, .row 28 1 [.fn 9 [], .fn 14 []])]) (FUEL, 0, (List.replicate (Int.toNat a1) (0 : Int))) h ?_ ?_
          · exact subP_ok [3] (ρ := [(0, some 16832), (1, some 17920), (2, some 18304), (3, some 0)]) (l := [a0.length = a0.length, ∀ i, i < a0.length → ∀ j, j < 1 → E3.cf (a0.getD i E3.z) j = E3.cf (a0.getD i E3.z) j, (a1 : Int) = a1, false = false, 0 = 0, (r7.2 : Int) = r7.2, 0 = 0, (Int.toNat a1) = ((List.replicate (Int.toNat a1) (0 : Int)).length), 0 = 0, 2 = 2, (((2 : Nat) : Int) : Int) = ((2 : Nat) : Int), (0 : Int) = 0, (decide ((0 : Int) < ((2 : Nat) : Int))) = (decide ((0 : Int) < ((2 : Nat) : Int))), ((0 + 0) * 1) = ((0 + 0) * 1), 0 = 0, r7.1.Core.length = r7.1.Core.length, (r7.1.Most : Int) = r7.1.Most, (r7.2 : Int) = r7.2, a0.length = a0.length, ∀ i, i < a0.length → ∀ j, j < 1 → E3.cf (a0.getD i E3.z) j = E3.cf (a0.getD i E3.z) j, (a1 : Int) = a1, 0 = 0, r7.1.Core.length = r7.1.Core.length, (r7.1.Most : Int) = r7.1.Most, (r7.2 : Int) = r7.2, 0 = 0, r7.1.Core.length = r7.1.Core.length, (r7.1.Most : Int) = r7.1.Most, (r7.2 : Int) = r7.2, (r7.2 : Int) = r7.2, ((r7.2 : Int) != 0) = ((r7.2 : Int) != 0), (a1 : Int) = a1, 0 = 0, (Int.toNat a1) = ((List.replicate (Int.toNat a1) (0 : Int)).length), 0 = 0, 0 = 0, r7.1.Core.length = r7.1.Core.length, (((r7.1.Core.length : Nat) : Int) : Int) = ((r7.1.Core.length : Nat) : Int), a0.length = a0.length, ∀ i, i < a0.length → ∀ j, j < 1 → E3.cf (a0.getD i E3.z) j = E3.cf (a0.getD i E3.z) j, (((a0.length : Nat) : Int) : Int) = ((a0.length : Nat) : Int), ((((r7.1.Core.length : Nat) : Int) : Int) != ((a0.length : Nat) : Int)) = ((((r7.1.Core.length : Nat) : Int) : Int) != ((a0.length : Nat) : Int)), 0 = 0, 0 = 0, r7.1.Core.length = r7.1.Core.length, (((r7.1.Core.length : Nat) : Int) : Int) = ((r7.1.Core.length : Nat) : Int), (0 : Int) = ((0 : Nat) : Int), 0 = 0, r7.1.Core.length = r7.1.Core.length, (r7.1.Most : Int) = r7.1.Most, E3.cR r7.1.Core = E3.cR r7.1.Core, AllPv (E3.cR r7.1.Core), E3.cR (List.replicate (Int.toNat a1) (0 : Int)) = E3.cR (List.replicate (Int.toNat a1) (0 : Int)), AllPv (E3.cR (List.replicate (Int.toNat a1) (0 : Int)))]) (by kernel_rfl) ⟨rfl, fun _ _ _ _ => rfl, rfl, rfl, rfl, rfl, rfl, (by first | rfl | (simp; done) | omega | (simp <;> omega)), rfl, rfl, rfl, rfl, rfl, rfl, rfl, rfl, rfl, rfl, rfl, fun _ _ _ _ => rfl, rfl, rfl, rfl, rfl, rfl, rfl, rfl, rfl, rfl, rfl, rfl, rfl, rfl, (by first | rfl | (simp; done) | omega | (simp <;> omega)), rfl, rfl, rfl, rfl, rfl, fun _ _ _ _ => rfl, rfl, rfl, rfl, rfl, rfl, rfl, (by first | rfl | simp), rfl, rfl, rfl, rfl, (Elem.cR_pv _ _), rfl, (Elem.cR_pv _ _), trivial⟩
          · clear h; rintro ⟨n2, k44, l45⟩ h p2 hp2
            obtain _ | n2 := n2
            · cases (show (none : Option (Bool)) = some r from h)
            have h : keep_SpreadSums_l2 a0 a1 r7 (n2 + 1) k44 l45 = some r := h
            unfold keep_SpreadSums_l2 at h
            refine segs [4] tabOk mixed 4000 (S := .br (decide ((((k44 : Nat) : Int) : Int) < ((r7.1.Core.length : Nat) : Int))) (.and (0 ≤ (((k44 : Nat) : Int) : Int) ∧ ((k44 : Nat) : Int) < ((r7.1.Core.length : Nat) : Int)) (.leaf 0)) (.leaf 1)) (by kernel_rfl) ?_
            refine br_ h ?_ ?_ <;> clear h <;> intro c46 h
            · refine sk_and ⟨Int.natCast_nonneg _, of_decide_eq_true c46⟩ ?_
              refine sk_leaf ?_
              refine ld_ok (d := 44) (id := 1) (i := (0 + k44)) (j := 0) (e := 3) (n := 1) E3 (xs := r7.1.Core) (by kernel_rfl) (by kernel_rfl) (by first | omega | (simp at * <;> omega) | (simp_all <;> omega)) (by exact Nat.le_of_ble_eq_true rfl) ?_
              refine segs [4] tabOk mixed 4000 (S := .and (((!(decide (((r7.1.Core.getD (0 + k44) 0) : Int) < 0))) = true → ((!(decide (((r7.1.Core.getD (0 + k44) 0) : Int) < 0))) = true))) (.and (((!(decide (((r7.1.Core.getD (0 + k44) 0) : Int) < 0))) = true → ((!(decide (((r7.1.Core.getD (0 + k44) 0) : Int) < 0))) = true))) (.and ((decide (((r7.1.Core.getD (0 + k44) 0) : Int) < 0)) = false → (!(decide (((r7.1.Core.getD (0 + k44) 0) : Int) < 0))) = true) (.br ((decide (((r7.1.Core.getD (0 + k44) 0) : Int) < 0)) || (decide (((r7.1.Core.getD (0 + k44) 0) : Int) ≥ a1))) (.leaf 0) (.and (0 ≤ ((r7.1.Core.getD (0 + k44) 0) : Int) ∧ (r7.1.Core.getD (0 + k44) 0) < ((l45.length : Nat) : Int)) (.leaf 1)))))) (by kernel_rfl) ?_
              refine sk_and (fun h => h) ?_
              refine sk_and (fun h => h) ?_
              refine sk_and ((by decide : ∀ y0 : Bool, ((y0 = false) → ((!y0) = true))) (decide (((r7.1.Core.getD (0 + k44) 0) : Int) < 0))) ?_
              refine br_ h ?_ ?_ <;> clear h <;> intro c51 h
              · refine sk_leaf ?_
                obtain rfl := some_ h
                exact end_ok [] Try.results5 (ps := [false = false]) (by kernel_rfl) ⟨rfl, trivial⟩ (fun _ => ⟨rfl, by simp⟩)
              · refine gd_ h ?_; clear h; intro g52 h
                refine sk_leaf ?_
                refine ld_ok (d := 55) (id := 2) (i := (0 + (Int.toNat (r7.1.Core.getD (0 + k44) 0)))) (j := 0) (e := 3) (n := 1) E3 (xs := l45) (by kernel_rfl) (by kernel_rfl) (by first | omega | (simp at * <;> omega) | (simp_all <;> omega)) (by exact Nat.le_of_ble_eq_true rfl) ?_
                refine segs [4] tabOk mixed 4000 (S := .and (0 ≤ (((k44 : Nat) : Int) : Int) ∧ ((k44 : Nat) : Int) < ((a0.length : Nat) : Int)) (.and (0 ≤ ((r7.1.Core.getD (0 + k44) 0) : Int) ∧ (r7.1.Core.getD (0 + k44) 0) < ((l45.length : Nat) : Int)) (.leaf 0))) (by kernel_rfl) ?_
                refine gd_ h ?_; clear h; intro g53 h
                refine gd_ h ?_; clear h; intro g54 h
                refine sk_leaf ?_
                refine st_ok (id := 2) (i := (0 + (Int.toNat (r7.1.Core.getD (0 + k44) 0)))) (j := 0) (e := 3) (vs := [.pv (.raw (.int .i64 (IntKind.i64.wrap ((l45.getD (0 + (Int.toNat (r7.1.Core.getD (0 + k44) 0))) 0) + (a0.getD k44 0)))))]) E3 (xs := l45) (IntKind.i64.wrap ((l45.getD (0 + (Int.toNat (r7.1.Core.getD (0 + k44) 0))) 0) + (a0.getD k44 0))) (by kernel_rfl) (by kernel_rfl) (by first | omega | (simp at * <;> omega) | (simp_all <;> omega)) (by exact Nat.le_of_ble_eq_true rfl) rfl ?_
                refine segs [4] tabOk mixed 4000 (S := .leaf 0) (by kernel_rfl) ?_
                refine sk_leaf ?_
                refine back_ok (p := p2) (by kernel_rfl) (hp2 (n2, k44 + 1, (l45.set (0 + (Int.toNat (r7.1.Core.getD (0 + k44) 0))) (IntKind.i64.wrap ((l45.getD (0 + (Int.toNat (r7.1.Core.getD (0 + k44) 0))) 0) + (a0.getD k44 0))))) _ h (Nat.lt_succ_self n2) ?_)
                exact subP_ok [3] (ρ := (rI 0 0 4)) (l := [a0.length = a0.length, ∀ i, i < a0.length → ∀ j, j < 1 → E3.cf (a0.getD i E3.z) j = E3.cf (a0.getD i E3.z) j, (a1 : Int) = a1, false = false, 0 = 0, (r7.2 : Int) = r7.2, 0 = 0, l45.length = ((l45.set (0 + (Int.toNat (r7.1.Core.getD (0 + k44) 0))) (IntKind.i64.wrap ((l45.getD (0 + (Int.toNat (r7.1.Core.getD (0 + k44) 0))) 0) + (a0.getD k44 0)))).length), 0 = 0, 2 = 2, (((2 : Nat) : Int) : Int) = ((2 : Nat) : Int), (0 : Int) = 0, (decide ((0 : Int) < ((2 : Nat) : Int))) = (decide ((0 : Int) < ((2 : Nat) : Int))), ((0 + 0) * 1) = ((0 + 0) * 1), 0 = 0, r7.1.Core.length = r7.1.Core.length, (r7.1.Most : Int) = r7.1.Most, (r7.2 : Int) = r7.2, a0.length = a0.length, ∀ i, i < a0.length → ∀ j, j < 1 → E3.cf (a0.getD i E3.z) j = E3.cf (a0.getD i E3.z) j, (a1 : Int) = a1, 0 = 0, r7.1.Core.length = r7.1.Core.length, (r7.1.Most : Int) = r7.1.Most, (r7.2 : Int) = r7.2, 0 = 0, r7.1.Core.length = r7.1.Core.length, (r7.1.Most : Int) = r7.1.Most, (r7.2 : Int) = r7.2, (r7.2 : Int) = r7.2, ((r7.2 : Int) != 0) = ((r7.2 : Int) != 0), (a1 : Int) = a1, 0 = 0, l45.length = ((l45.set (0 + (Int.toNat (r7.1.Core.getD (0 + k44) 0))) (IntKind.i64.wrap ((l45.getD (0 + (Int.toNat (r7.1.Core.getD (0 + k44) 0))) 0) + (a0.getD k44 0)))).length), 0 = 0, 0 = 0, r7.1.Core.length = r7.1.Core.length, (((r7.1.Core.length : Nat) : Int) : Int) = ((r7.1.Core.length : Nat) : Int), a0.length = a0.length, ∀ i, i < a0.length → ∀ j, j < 1 → E3.cf (a0.getD i E3.z) j = E3.cf (a0.getD i E3.z) j, (((a0.length : Nat) : Int) : Int) = ((a0.length : Nat) : Int), ((((r7.1.Core.length : Nat) : Int) : Int) != ((a0.length : Nat) : Int)) = ((((r7.1.Core.length : Nat) : Int) : Int) != ((a0.length : Nat) : Int)), 0 = 0, 0 = 0, r7.1.Core.length = r7.1.Core.length, (((r7.1.Core.length : Nat) : Int) : Int) = ((r7.1.Core.length : Nat) : Int), ((IntKind.i64.wrap (((k44 : Nat) : Int) + 1)) : Int) = (((k44 + 1) : Nat) : Int), 0 = 0, r7.1.Core.length = r7.1.Core.length, (r7.1.Most : Int) = r7.1.Most, E3.cR r7.1.Core = E3.cR r7.1.Core, AllPv (E3.cR r7.1.Core), E3.cR (l45.set (0 + (Int.toNat (r7.1.Core.getD (0 + k44) 0))) (IntKind.i64.wrap ((l45.getD (0 + (Int.toNat (r7.1.Core.getD (0 + k44) 0))) 0) + (a0.getD k44 0)))) = E3.cR (l45.set (0 + (Int.toNat (r7.1.Core.getD (0 + k44) 0))) (IntKind.i64.wrap ((l45.getD (0 + (Int.toNat (r7.1.Core.getD (0 + k44) 0))) 0) + (a0.getD k44 0)))), AllPv (E3.cR (l45.set (0 + (Int.toNat (r7.1.Core.getD (0 + k44) 0))) (IntKind.i64.wrap ((l45.getD (0 + (Int.toNat (r7.1.Core.getD (0 + k44) 0))) 0) + (a0.getD k44 0)))))]) (by kernel_rfl) ⟨rfl, fun _ _ _ _ => rfl, rfl, rfl, rfl, rfl, rfl, (by first | rfl | (simp; done) | omega | (simp <;> omega)), rfl, rfl, rfl, rfl, rfl, rfl, rfl, rfl, rfl, rfl, rfl, fun _ _ _ _ => rfl, rfl, rfl, rfl, rfl, rfl, rfl, rfl, rfl, rfl, rfl, rfl, rfl, rfl, (by first | rfl | (simp; done) | omega | (simp <;> omega)), rfl, rfl, rfl, rfl, rfl, fun _ _ _ _ => rfl, rfl, rfl, rfl, rfl, rfl, rfl, (wrap_nat (Int.ofNat_lt.1 (of_decide_eq_true c46)) (by omega)), rfl, rfl, rfl, rfl, (Elem.cR_pv _ _), rfl, (Elem.cR_pv _ _), trivial⟩
            · refine sk_leaf ?_
              obtain ⟨r55, e56, h⟩ := bd_ h
              refine call_ok (d := some 64) (fn := 12) (ax := [.row 2 1 0 l45.length]) (args := [.pv ((E3.ro l45))]) (ps := [l45.length = l45.length, rowQ (E3.cR l45) 1 0 l45.length (fun i j => E3.cf (l45.getD i E3.z) j)]) (hb' := []) (by kernel_rfl) (slices_Max_int_ok _ _ e56 (al := false)) (by kernel_rfl) ⟨(by first | rfl | exact Elem.sub_len _ (by omega) | omega | simp | (simp <;> omega)), E3.rowQ_all l45 rfl, trivial⟩ (fun hx => by cases hx) (by simp) rfl (by kernel_rfl) ?_
              refine segs [4] tabOk mixed 4000 (S := .leaf 0) (by kernel_rfl) ?_
              refine sk_leaf ?_
              obtain ⟨r57, e58, h⟩ := bd_ h
              refine callG_ok (d := some 70) (fn := 11) (ax := [.row 2 1 0 l45.length]) (args := [.pv ((E3.ro l45))]) (g := (!((r55 : Int) != r7.1.Most))) (ws := [(!((r55 : Int) != r7.1.Most)) = true]) (ps := [l45.length = l45.length, rowQ (E3.cR l45) 1 0 l45.length (fun i j => E3.cf (l45.getD i E3.z) j)]) (by kernel_rfl) (fun hg => ⟨((by decide : ∀ y0 : Bool, ((y0 = true) → (y0 = true))) (!((r55 : Int) != r7.1.Most))) hg, trivial⟩) (fun hg => keep_total_ok _ _ (by rw [hg] at e58; exact e58) (al := false)) (by kernel_rfl) (fun hg => ⟨(by first | rfl | exact Elem.sub_len _ (by omega) | omega | simp | (simp <;> omega)), E3.rowQ_all l45 rfl, trivial⟩) (fun hx => by cases hx) ?_
              refine segs [4] tabOk mixed 4000 (S := .leaf 0) (by kernel_rfl) ?_
              refine sk_leaf ?_
              obtain ⟨r59, e60, h⟩ := bd_ h
              refine callG_ok (d := some 72) (fn := 11) (ax := [.pv ((E3.ro a0))]) (args := [.pv ((E3.ro a0))]) (g := (!((r55 : Int) != r7.1.Most))) (ws := [(!((r55 : Int) != r7.1.Most)) = true]) (ps := [a0.length = a0.length, ∀ i, i < a0.length → ∀ j, j < 1 → E3.cf (a0.getD i E3.z) j = E3.cf (a0.getD i E3.z) j]) (by kernel_rfl) (fun hg => ⟨((by decide : ∀ y0 : Bool, ((y0 = true) → (y0 = true))) (!((r55 : Int) != r7.1.Most))) hg, trivial⟩) (fun hg => keep_total_ok _ _ (by rw [hg] at e60; exact e60) (al := true)) (by kernel_rfl) (fun hg => ⟨rfl, fun _ _ _ _ => rfl, trivial⟩) (fun _ => (by kernel_rfl)) ?_
              refine segs [4] tabOk mixed 4000 (S := .and (((!((r55 : Int) != r7.1.Most)) = true → ((!((r55 : Int) != r7.1.Most)) = true))) (.and (((!((r55 : Int) != r7.1.Most)) = true → ((!((r55 : Int) != r7.1.Most)) = true))) (.and (((r55 : Int) != r7.1.Most) = false → (!((r55 : Int) != r7.1.Most)) = true) (.br (((r55 : Int) != r7.1.Most) || ((r57 : Int) != r59)) (.leaf 0) (.leaf 1))))) (by kernel_rfl) ?_
              refine sk_and (fun h => h) ?_
              refine sk_and (fun h => h) ?_
              refine sk_and ((by decide : ∀ y0 : Bool, ((y0 = false) → ((!y0) = true))) ((r55 : Int) != r7.1.Most)) ?_
              refine br_ h ?_ ?_ <;> clear h <;> intro c64 h
              · refine sk_leaf ?_
                obtain rfl := some_ h
                exact end_ok [] Try.results5 (ps := [false = false]) (by kernel_rfl) ⟨rfl, trivial⟩ (fun _ => ⟨rfl, by simp⟩)
              · refine sk_leaf ?_
                refine back_ok (p := u4 2) (by kernel_rfl) (hu4 _ _ ?_)
                refine segs [4] tabOk mixed 4000 (S := .leaf 0) (by kernel_rfl) ?_
                refine sk_leaf ?_
                refine cut_ok (by kernel_rfl) (τ := mk 76 [(0, .pv ((E3.ro a0))), (1, .pv (.raw (.int .i64 a1))), (4, .pv (.raw (.bool false))), (6, .fn 9 []), (7, .ptr 0 0), (8, .pv (.raw (.int .i64 r7.2))), (9, .row 2 1 0 l45.length), (14, .row 3 1 0 2), (15, .pv (.raw (.int .i64 ((2 : Nat) : Int)))), (16, .pv (.raw (.int .i64 (IntKind.i64.wrap (0 + 1))))), (17, .pv (.raw (.bool (decide ((0 : Int) < ((2 : Nat) : Int)))))), (18, .ptr 3 ((0 + 0) * 1)), (19, .fn 9 []), (20, .tup [.agg [.row 1 1 0 r7.1.Core.length, .pv (.raw (.int .i64 r7.1.Most))], .pv (.raw (.int .i64 r7.2))]), (21, .fn 9 []), (22, .pv ((E3.ro a0))), (23, .pv (.raw (.int .i64 a1))), (24, .tup [.agg [.row 1 1 0 r7.1.Core.length, .pv (.raw (.int .i64 r7.1.Most))], .pv (.raw (.int .i64 r7.2))]), (25, .agg [.row 1 1 0 r7.1.Core.length, .pv (.raw (.int .i64 r7.1.Most))]), (26, .pv (.raw (.int .i64 r7.2))), (27, .pv (.raw (.int .i64 r7.2))), (28, .pv (.raw (.bool ((r7.2 : Int) != 0)))), (29, .pv (.raw (.int .i64 a1))), (30, .row 2 1 0 l45.length), (31, .ptr 0 0), (32, .row 1 1 0 r7.1.Core.length), (33, .pv (.raw (.int .i64 ((r7.1.Core.length : Nat) : Int)))), (34, .pv ((E3.ro a0))), (35, .pv (.raw (.int .i64 ((a0.length : Nat) : Int)))), (36, .pv (.raw (.bool ((((r7.1.Core.length : Nat) : Int) : Int) != ((a0.length : Nat) : Int))))), (37, .ptr 0 0), (38, .row 1 1 0 r7.1.Core.length), (39, .pv (.raw (.int .i64 ((r7.1.Core.length : Nat) : Int)))), (40, .pv (.raw (.int .i64 ((k44 : Nat) : Int)))), (41, .pv (.raw (.bool (decide ((((k44 : Nat) : Int) : Int) < ((r7.1.Core.length : Nat) : Int)))))), (63, .row 2 1 0 l45.length), (64, .pv (.raw (.int .i64 r55))), (65, .ptr 0 1), (66, .pv (.raw (.int .i64 r7.1.Most))), (67, .pv (.raw (.bool ((r55 : Int) != r7.1.Most)))), (68, .pv (.raw (.bool ((r55 : Int) != r7.1.Most)))), (74, .pv (.raw (.bool (((r55 : Int) != r7.1.Most) || ((r57 : Int) != r59))))), (75, .pv (.raw (.int .i64 (IntKind.i64.wrap (0 + 1)))))] [(0, .box [.row 1 1 0 r7.1.Core.length, .pv (.raw (.int .i64 r7.1.Most))]), (1, .row 3 1 (E3.cR r7.1.Core)), (2, .row 3 1 (E3.cR l45)), (3, .row 28 1 [.fn 9 [], .fn 14 []])]) (subP_ok [3] (ρ := (rI 0 0 4)) (l := [a0.length = a0.length, ∀ i, i < a0.length → ∀ j, j < 1 → E3.cf (a0.getD i E3.z) j = E3.cf (a0.getD i E3.z) j, (a1 : Int) = a1, false = false, 0 = 0, (r7.2 : Int) = r7.2, 0 = 0, l45.length = l45.length, 0 = 0, 2 = 2, (((2 : Nat) : Int) : Int) = ((2 : Nat) : Int), ((IntKind.i64.wrap (0 + 1)) : Int) = (IntKind.i64.wrap (0 + 1)), (decide ((0 : Int) < ((2 : Nat) : Int))) = (decide ((0 : Int) < ((2 : Nat) : Int))), ((0 + 0) * 1) = ((0 + 0) * 1), 0 = 0, r7.1.Core.length = r7.1.Core.length, (r7.1.Most : Int) = r7.1.Most, (r7.2 : Int) = r7.2, a0.length = a0.length, ∀ i, i < a0.length → ∀ j, j < 1 → E3.cf (a0.getD i E3.z) j = E3.cf (a0.getD i E3.z) j, (a1 : Int) = a1, 0 = 0, r7.1.Core.length = r7.1.Core.length, (r7.1.Most : Int) = r7.1.Most, (r7.2 : Int) = r7.2, 0 = 0, r7.1.Core.length = r7.1.Core.length, (r7.1.Most : Int) = r7.1.Most, (r7.2 : Int) = r7.2, (r7.2 : Int) = r7.2, ((r7.2 : Int) != 0) = ((r7.2 : Int) != 0), (a1 : Int) = a1, 0 = 0, l45.length = l45.length, 0 = 0, 0 = 0, r7.1.Core.length = r7.1.Core.length, (((r7.1.Core.length : Nat) : Int) : Int) = ((r7.1.Core.length : Nat) : Int), a0.length = a0.length, ∀ i, i < a0.length → ∀ j, j < 1 → E3.cf (a0.getD i E3.z) j = E3.cf (a0.getD i E3.z) j, (((a0.length : Nat) : Int) : Int) = ((a0.length : Nat) : Int), ((((r7.1.Core.length : Nat) : Int) : Int) != ((a0.length : Nat) : Int)) = ((((r7.1.Core.length : Nat) : Int) : Int) != ((a0.length : Nat) : Int)), 0 = 0, 0 = 0, r7.1.Core.length = r7.1.Core.length, (((r7.1.Core.length : Nat) : Int) : Int) = ((r7.1.Core.length : Nat) : Int), (((k44 : Nat) : Int) : Int) = ((k44 : Nat) : Int), (decide ((((k44 : Nat) : Int) : Int) < ((r7.1.Core.length : Nat) : Int))) = (decide ((((k44 : Nat) : Int) : Int) < ((r7.1.Core.length : Nat) : Int))), 0 = 0, l45.length = l45.length, (r55 : Int) = r55, 1 = 1, (r7.1.Most : Int) = r7.1.Most, ((r55 : Int) != r7.1.Most) = ((r55 : Int) != r7.1.Most), ((r55 : Int) != r7.1.Most) = ((r55 : Int) != r7.1.Most), (((r55 : Int) != r7.1.Most) || ((r57 : Int) != r59)) = (((r55 : Int) != r7.1.Most) || ((r57 : Int) != r59)), ((IntKind.i64.wrap (0 + 1)) : Int) = (IntKind.i64.wrap (0 + 1)), 0 = 0, r7.1.Core.length = r7.1.Core.length, (r7.1.Most : Int) = r7.1.Most, E3.cR r7.1.Core = E3.cR r7.1.Core, AllPv (E3.cR r7.1.Core), E3.cR l45 = E3.cR l45, AllPv (E3.cR l45)]) (by kernel_rfl) ⟨rfl, fun _ _ _ _ => rfl, rfl, rfl, rfl, rfl, rfl, rfl, rfl, rfl, rfl, rfl, rfl, rfl, rfl, rfl, rfl, rfl, rfl, fun _ _ _ _ => rfl, rfl, rfl, rfl, rfl, rfl, rfl, rfl, rfl, rfl, rfl, rfl, rfl, rfl, rfl, rfl, rfl, rfl, rfl, rfl, fun _ _ _ _ => rfl, rfl, rfl, rfl, rfl, rfl, rfl, rfl, rfl, rfl, rfl, rfl, rfl, rfl, rfl, rfl, rfl, rfl, rfl, rfl, rfl, rfl, (Elem.cR_pv _ _), rfl, (Elem.cR_pv _ _), trivial⟩) ?_
                refine segs [] tabOk mixed 4000 (S := .br (decide (((IntKind.i64.wrap (0 + 1)) : Int) < ((2 : Nat) : Int))) (.and (0 ≤ ((IntKind.i64.wrap (0 + 1)) : Int) ∧ (IntKind.i64.wrap (0 + 1)) < ((2 : Nat) : Int)) (.leaf 0)) (.leaf 1)) (by kernel_rfl) ?_
                refine br_ h ?_ ?_ <;> clear h <;> intro c65 h
                · refine gd_ h ?_; clear h; intro g66 h
                  refine sk_leaf ?_
                  refine ldl_ok (d := 19) (v := .fn 14 []) (by kernel_rfl) ?_
                  refine segs [4] tabOk mixed 4000 (S := .leaf 0) (by kernel_rfl) ?_
                  refine sk_leaf ?_
                  obtain ⟨r67, e68, h⟩ := bd_ h
                  refine call_ok (d := some 24) (fn := 14) (ax := [.pv ((E3.ro a0)), .pv (.raw (.int .i64 a1))]) (args := [.pv ((E3.ro a0)), .pv (.raw (.int .i64 a1))]) (ps := [a0.length = a0.length, ∀ i, i < a0.length → ∀ j, j < 1 → E3.cf (a0.getD i E3.z) j = E3.cf (a0.getD i E3.z) j, (a1 : Int) = a1]) (hb' := [.row 3 1 (E3.cR r67.1.Core)]) (by kernel_rfl) (spread_Longest_ok _ _ _ e68 (al := true)) (by kernel_rfl) ⟨rfl, fun _ _ _ _ => rfl, rfl, trivial⟩ (fun _ => (by kernel_rfl)) (by simp) (by simp only [List.map_cons, List.map_nil, Elem.row_up, up_map] <;> rfl) (by kernel_rfl) ?_
                  refine segs [4] tabOk mixed 4000 (S := .br ((r67.2 : Int) != 0) (.leaf 0) (.leaf 1)) (by kernel_rfl) ?_
                  refine br_ h ?_ ?_ <;> clear h <;> intro c69 h
                  · refine sk_leaf ?_
                    refine back_ok (p := u4 1) (by kernel_rfl) (hu4 _ _ ?_)
                    refine segs [4] tabOk mixed 4000 (S := .leaf 0) (by kernel_rfl) ?_
                    refine sk_leaf ?_
                    refine cut_ok (by kernel_rfl) (τ := mk 76 [(0, .pv ((E3.ro a0))), (1, .pv (.raw (.int .i64 a1))), (4, .pv (.raw (.bool false))), (6, .fn 14 []), (7, .ptr 0 0), (8, .pv (.raw (.int .i64 r67.2))), (9, .row 2 1 0 l45.length), (14, .row 3 1 0 2), (15, .pv (.raw (.int .i64 ((2 : Nat) : Int)))), (16, .pv (.raw (.int .i64 (IntKind.i64.wrap ((IntKind.i64.wrap (0 + 1)) + 1))))), (17, .pv (.raw (.bool (decide (((IntKind.i64.wrap (0 + 1)) : Int) < ((2 : Nat) : Int)))))), (18, .ptr 3 ((0 + (Int.toNat (IntKind.i64.wrap (0 + 1)))) * 1)), (19, .fn 14 []), (20, .tup [.agg [.row 1 1 0 r67.1.Core.length, .pv (.raw (.int .i64 r67.1.Most))], .pv (.raw (.int .i64 r67.2))]), (21, .fn 14 []), (22, .pv ((E3.ro a0))), (23, .pv (.raw (.int .i64 a1))), (24, .tup [.agg [.row 1 1 0 r67.1.Core.length, .pv (.raw (.int .i64 r67.1.Most))], .pv (.raw (.int .i64 r67.2))]), (25, .agg [.row 1 1 0 r67.1.Core.length, .pv (.raw (.int .i64 r67.1.Most))]), (26, .pv (.raw (.int .i64 r67.2))), (27, .pv (.raw (.int .i64 r67.2))), (28, .pv (.raw (.bool ((r67.2 : Int) != 0)))), (29, .pv (.raw (.int .i64 a1))), (30, .row 2 1 0 l45.length), (31, .ptr 4 0), (32, .row 5 1 0 r7.1.Core.length), (33, .pv (.raw (.int .i64 ((r7.1.Core.length : Nat) : Int)))), (34, .pv ((E3.ro a0))), (35, .pv (.raw (.int .i64 ((a0.length : Nat) : Int)))), (36, .pv (.raw (.bool ((((r7.1.Core.length : Nat) : Int) : Int) != ((a0.length : Nat) : Int))))), (37, .ptr 4 0), (38, .row 5 1 0 r7.1.Core.length), (39, .pv (.raw (.int .i64 ((r7.1.Core.length : Nat) : Int)))), (40, .pv (.raw (.int .i64 ((k44 : Nat) : Int)))), (41, .pv (.raw (.bool (decide ((((k44 : Nat) : Int) : Int) < ((r7.1.Core.length : Nat) : Int)))))), (63, .row 2 1 0 l45.length), (64, .pv (.raw (.int .i64 r55))), (65, .ptr 4 1), (66, .pv (.raw (.int .i64 r7.1.Most))), (67, .pv (.raw (.bool ((r55 : Int) != r7.1.Most)))), (68, .pv (.raw (.bool ((r55 : Int) != r7.1.Most)))), (74, .pv (.raw (.bool (((r55 : Int) != r7.1.Most) || ((r57 : Int) != r59))))), (75, .pv (.raw (.int .i64 (IntKind.i64.wrap ((IntKind.i64.wrap (0 + 1)) + 1)))))] [(0, .box [.row 1 1 0 r67.1.Core.length, .pv (.raw (.int .i64 r67.1.Most))]), (1, .row 3 1 (E3.cR r67.1.Core)), (2, .row 3 1 (E3.cR l45)), (3, .row 28 1 [.fn 9 [], .fn 14 []]), (4, .box [.row 5 1 0 r7.1.Core.length, .pv (.raw (.int .i64 r7.1.Most))]), (5, .row 3 1 (E3.cR r7.1.Core))]) (subP_ok [3] (ρ := [(0, some 16832), (1, some 17920), (2, some 2), (3, some 3), (4, some 0), (5, some 1)]) (l := [a0.length = a0.length, ∀ i, i < a0.length → ∀ j, j < 1 → E3.cf (a0.getD i E3.z) j = E3.cf (a0.getD i E3.z) j, (a1 : Int) = a1, false = false, 0 = 0, (r67.2 : Int) = r67.2, 0 = 0, l45.length = l45.length, 0 = 0, 2 = 2, (((2 : Nat) : Int) : Int) = ((2 : Nat) : Int), ((IntKind.i64.wrap ((IntKind.i64.wrap (0 + 1)) + 1)) : Int) = (IntKind.i64.wrap ((IntKind.i64.wrap (0 + 1)) + 1)), (decide (((IntKind.i64.wrap (0 + 1)) : Int) < ((2 : Nat) : Int))) = (decide (((IntKind.i64.wrap (0 + 1)) : Int) < ((2 : Nat) : Int))), ((0 + (Int.toNat (IntKind.i64.wrap (0 + 1)))) * 1) = ((0 + (Int.toNat (IntKind.i64.wrap (0 + 1)))) * 1), 0 = 0, r67.1.Core.length = r67.1.Core.length, (r67.1.Most : Int) = r67.1.Most, (r67.2 : Int) = r67.2, a0.length = a0.length, ∀ i, i < a0.length → ∀ j, j < 1 → E3.cf (a0.getD i E3.z) j = E3.cf (a0.getD i E3.z) j, (a1 : Int) = a1, 0 = 0, r67.1.Core.length = r67.1.Core.length, (r67.1.Most : Int) = r67.1.Most, (r67.2 : Int) = r67.2, 0 = 0, r67.1.Core.length = r67.1.Core.length, (r67.1.Most : Int) = r67.1.Most, (r67.2 : Int) = r67.2, (r67.2 : Int) = r67.2, ((r67.2 : Int) != 0) = ((r67.2 : Int) != 0), (a1 : Int) = a1, 0 = 0, l45.length = l45.length, 0 = 0, 0 = 0, r7.1.Core.length = r7.1.Core.length, (((r7.1.Core.length : Nat) : Int) : Int) = ((r7.1.Core.length : Nat) : Int), a0.length = a0.length, ∀ i, i < a0.length → ∀ j, j < 1 → E3.cf (a0.getD i E3.z) j = E3.cf (a0.getD i E3.z) j, (((a0.length : Nat) : Int) : Int) = ((a0.length : Nat) : Int), ((((r7.1.Core.length : Nat) : Int) : Int) != ((a0.length : Nat) : Int)) = ((((r7.1.Core.length : Nat) : Int) : Int) != ((a0.length : Nat) : Int)), 0 = 0, 0 = 0, r7.1.Core.length = r7.1.Core.length, (((r7.1.Core.length : Nat) : Int) : Int) = ((r7.1.Core.length : Nat) : Int), (((k44 : Nat) : Int) : Int) = ((k44 : Nat) : Int), (decide ((((k44 : Nat) : Int) : Int) < ((r7.1.Core.length : Nat) : Int))) = (decide ((((k44 : Nat) : Int) : Int) < ((r7.1.Core.length : Nat) : Int))), 0 = 0, l45.length = l45.length, (r55 : Int) = r55, 1 = 1, (r7.1.Most : Int) = r7.1.Most, ((r55 : Int) != r7.1.Most) = ((r55 : Int) != r7.1.Most), ((r55 : Int) != r7.1.Most) = ((r55 : Int) != r7.1.Most), (((r55 : Int) != r7.1.Most) || ((r57 : Int) != r59)) = (((r55 : Int) != r7.1.Most) || ((r57 : Int) != r59)), ((IntKind.i64.wrap ((IntKind.i64.wrap (0 + 1)) + 1)) : Int) = (IntKind.i64.wrap ((IntKind.i64.wrap (0 + 1)) + 1)), 0 = 0, r67.1.Core.length = r67.1.Core.length, (r67.1.Most : Int) = r67.1.Most, E3.cR r67.1.Core = E3.cR r67.1.Core, AllPv (E3.cR r67.1.Core), E3.cR l45 = E3.cR l45, AllPv (E3.cR l45), 0 = 0, r7.1.Core.length = r7.1.Core.length, (r7.1.Most : Int) = r7.1.Most, E3.cR r7.1.Core = E3.cR r7.1.Core, AllPv (E3.cR r7.1.Core)]) (by kernel_rfl) ⟨rfl, fun _ _ _ _ => rfl, rfl, rfl, rfl, rfl, rfl, rfl, rfl, rfl, rfl, rfl, rfl, rfl, rfl, rfl, rfl, rfl, rfl, fun _ _ _ _ => rfl, rfl, rfl, rfl, rfl, rfl, rfl, rfl, rfl, rfl, rfl, rfl, rfl, rfl, rfl, rfl, rfl, rfl, rfl, rfl, fun _ _ _ _ => rfl, rfl, rfl, rfl, rfl, rfl, rfl, rfl, rfl, rfl, rfl, rfl, rfl, rfl, rfl, rfl, rfl, rfl, rfl, rfl, rfl, rfl, (Elem.cR_pv _ _), rfl, (Elem.cR_pv _ _), rfl, rfl, rfl, rfl, (Elem.cR_pv _ _), trivial⟩) ?_
                    refine segs [] tabOk mixed 4000 (S := .br (decide (((IntKind.i64.wrap ((IntKind.i64.wrap (0 + 1)) + 1)) : Int) < ((2 : Nat) : Int))) (.and (0 ≤ ((IntKind.i64.wrap ((IntKind.i64.wrap (0 + 1)) + 1)) : Int) ∧ (IntKind.i64.wrap ((IntKind.i64.wrap (0 + 1)) + 1)) < ((2 : Nat) : Int)) (.leaf 0)) (.leaf 1)) (by kernel_rfl) ?_
                    refine br_ h ?_ ?_ <;> clear h <;> intro c70 h
                    · refine gd_ h ?_; clear h; intro g71 h
                      refine sk_leaf ?_
                      cases h
                    · refine sk_leaf ?_
                      obtain rfl := some_ h
                      exact end_ok [] Try.results5 (ps := [true = true]) (by kernel_rfl) ⟨rfl, trivial⟩ (fun _ => ⟨rfl, by simp⟩)
                  · refine sk_leaf ?_
                    obtain ⟨g72, h⟩ := if_ h
                    refine mks_ok (d := 30) (e := 3) (s := 1) (b := 8) (n := a1) (zs := [.pv (.raw (.int .i64 0))]) E3 (by kernel_rfl) (by kernel_rfl) rfl (by kernel_rfl) g72 (by kernel_rfl) ?_
                    refine segs [4] tabOk mixed 4000 (S := .br ((((r67.1.Core.length : Nat) : Int) : Int) != ((a0.length : Nat) : Int)) (.leaf 0) (.leaf 1)) (by kernel_rfl) ?_
                    refine br_ h ?_ ?_ <;> clear h <;> intro c73 h
                    · refine sk_leaf ?_
                      obtain rfl := some_ h
                      exact end_ok [] Try.results5 (ps := [false = false]) (by kernel_rfl) ⟨rfl, trivial⟩ (fun _ => ⟨rfl, by simp⟩)
                    · refine sk_leaf ?_
                      refine len_ro (by kernel_rfl) 0 (s := 1) (n := a0.length) (c := fun i j => E3.cf (a0.getD i E3.z) j) (by kernel_rfl) ?_; intro hl3_0
                      refine len_ro (by kernel_rfl) 22 (s := 1) (n := a0.length) (c := fun i j => E3.cf (a0.getD i E3.z) j) (by kernel_rfl) ?_; intro hl3_1
                      refine len_ro (by kernel_rfl) 34 (s := 1) (n := a0.length) (c := fun i j => E3.cf (a0.getD i E3.z) j) (by kernel_rfl) ?_; intro hl3_2
                      refine len_row (by kernel_rfl) 1 (e := 3) (s := 1) (n := r7.1.Core.length) (cs := E3.cR r7.1.Core) (by kernel_rfl) (Elem.cR_length _ _) ?_; intro hl3_3
                      refine len_row (by kernel_rfl) 2 (e := 3) (s := 1) (n := l45.length) (cs := E3.cR l45) (by kernel_rfl) (Elem.cR_length _ _) ?_; intro hl3_4
                      refine len_row (by kernel_rfl) 17920 (e := 3) (s := 1) (n := r67.1.Core.length) (cs := E3.cR r67.1.Core) (by kernel_rfl) (Elem.cR_length _ _) ?_; intro hl3_5
                      refine len_row (by kernel_rfl) 18304 (e := 3) (s := 1) (n := (List.replicate (Int.toNat a1) (0 : Int)).length) (cs := E3.cR (List.replicate (Int.toNat a1) (0 : Int))) (by kernel_rfl) (Elem.cR_length _ _) ?_; intro hl3_6
                      replace h : (fun (x : Nat × Nat × Bool × List Int) => keep_SpreadSums_l3 a0 a1 r7 k44 r67 x.1 x.2.1 x.2.2.1 x.2.2.2 = some r) (FUEL, 0, (decide ((((k44 : Nat) : Int) : Int) < ((r7.1.Core.length : Nat) : Int))), (List.replicate (Int.toNat a1) (0 : Int))) := h
                      refine loop_ok (by kernel_rfl) (X := Nat × Nat × Bool × List Int) (fun x => keep_SpreadSums_l3 a0 a1 r7 k44 r67 x.1 x.2.1 x.2.2.1 x.2.2.2 = some r) (fun x => x.1) (fun x => mk 76 [(0, .pv ((E3.ro a0))), (1, .pv (.raw (.int .i64 a1))), (4, .pv (.raw (.bool false))), (6, .fn 14 []), (7, .ptr 0 0), (8, .pv (.raw (.int .i64 r67.2))), (9, .row 2 1 0 x.2.2.2.length), (14, .row 3 1 0 2), (15, .pv (.raw (.int .i64 ((2 : Nat) : Int)))), (16, .pv (.raw (.int .i64 (IntKind.i64.wrap (0 + 1))))), (17, .pv (.raw (.bool (decide (((IntKind.i64.wrap (0 + 1)) : Int) < ((2 : Nat) : Int)))))), (18, .ptr 3 ((0 + (Int.toNat (IntKind.i64.wrap (0 + 1)))) * 1)), (19, .fn 14 []), (20, .tup [.agg [.row 1 1 0 r67.1.Core.length, .pv (.raw (.int .i64 r67.1.Most))], .pv (.raw (.int .i64 r67.2))]), (21, .fn 14 []), (22, .pv ((E3.ro a0))), (23, .pv (.raw (.int .i64 a1))), (24, .tup [.agg [.row 1 1 0 r67.1.Core.length, .pv (.raw (.int .i64 r67.1.Most))], .pv (.raw (.int .i64 r67.2))]), (25, .agg [.row 1 1 0 r67.1.Core.length, .pv (.raw (.int .i64 r67.1.Most))]), (26, .pv (.raw (.int .i64 r67.2))), (27, .pv (.raw (.int .i64 r67.2))), (28, .pv (.raw (.bool ((r67.2 : Int) != 0)))), (29, .pv (.raw (.int .i64 a1))), (30, .row 2 1 0 x.2.2.2.length), (31, .ptr 0 0), (32, .row 1 1 0 r67.1.Core.length), (33, .pv (.raw (.int .i64 ((r67.1.Core.length : Nat) : Int)))), (34, .pv ((E3.ro a0))), (35, .pv (.raw (.int .i64 ((a0.length : Nat) : Int)))), (36, .pv (.raw (.bool ((((r67.1.Core.length : Nat) : Int) : Int) != ((a0.length : Nat) : Int))))), (37, .ptr 0 0), (38, .row 1 1 0 r67.1.Core.length), (39, .pv (.raw (.int .i64 ((r67.1.Core.length : Nat) : Int)))), (40, .pv (.raw (.int .i64 ((x.2.1 : Nat) : Int)))), (41, .pv (.raw (.bool x.2.2.1))), (63, .row 4 1 0 l45.length), (64, .pv (.raw (.int .i64 r55))), (65, .ptr 5 1), (66, .pv (.raw (.int .i64 r7.1.Most))), (67, .pv (.raw (.bool ((r55 : Int) != r7.1.Most)))), (68, .pv (.raw (.bool ((r55 : Int) != r7.1.Most)))), (74, .pv (.raw (.bool (((r55 : Int) != r7.1.Most) || ((r57 : Int) != r59))))), (75, .pv (.raw (.int .i64 (IntKind.i64.wrap (0 + 1)))))] [(0, .box [.row 1 1 0 r67.1.Core.length, .pv (.raw (.int .i64 r67.1.Most))]), (1, .row 3 1 (E3.cR r67.1.Core)), (2, .row 3 1 (E3.cR x.2.2.2)), (3, .row 28 1 [.fn 9 [], .fn 14 []]), (4, .row 3 1 (E3.cR l45)), (5, .box [.row 6 1 0 r7.1.Core.length, .pv (.raw (.int .i64 r7.1.Most))]), (6, .row 3 1 (E3.cR r7.1.Core))]) (FUEL, 0, (decide ((((k44 : Nat) : Int) : Int) < ((r7.1.Core.length : Nat) : Int))), (List.replicate (Int.toNat a1) (0 : Int))) h ?_ ?_
                      · exact subP_ok [3] (ρ := [(0, some 16832), (1, some 17920), (2, some 18304), (3, some 3), (4, some 2), (5, some 0), (6, some 1)]) (l := ([a0.length = a0.length, ∀ i, i < a0.length → ∀ j, j < 1 → E3.cf (a0.getD i E3.z) j = E3.cf (a0.getD i E3.z) j, (a1 : Int) = a1, false = false, 0 = 0, (r67.2 : Int) = r67.2, 0 = 0, (Int.toNat a1) = ((List.replicate (Int.toNat a1) (0 : Int)).length), 0 = 0, 2 = 2, (((2 : Nat) : Int) : Int) = ((2 : Nat) : Int), ((IntKind.i64.wrap (0 + 1)) : Int) = (IntKind.i64.wrap (0 + 1)), (decide (((IntKind.i64.wrap (0 + 1)) : Int) < ((2 : Nat) : Int))) = (decide (((IntKind.i64.wrap (0 + 1)) : Int) < ((2 : Nat) : Int))), ((0 + (Int.toNat (IntKind.i64.wrap (0 + 1)))) * 1) = ((0 + (Int.toNat (IntKind.i64.wrap (0 + 1)))) * 1), 0 = 0, r67.1.Core.length = r67.1.Core.length, (r67.1.Most : Int) = r67.1.Most, (r67.2 : Int) = r67.2, a0.length = a0.length, ∀ i, i < a0.length → ∀ j, j < 1 → E3.cf (a0.getD i E3.z) j = E3.cf (a0.getD i E3.z) j, (a1 : Int) = a1, 0 = 0, r67.1.Core.length = r67.1.Core.length, (r67.1.Most : Int) = r67.1.Most, (r67.2 : Int) = r67.2, 0 = 0, r67.1.Core.length = r67.1.Core.length, (r67.1.Most : Int) = r67.1.Most, (r67.2 : Int) = r67.2, (r67.2 : Int) = r67.2, ((r67.2 : Int) != 0) = ((r67.2 : Int) != 0), (a1 : Int) = a1, 0 = 0, (Int.toNat a1) = ((List.replicate (Int.toNat a1) (0 : Int)).length), 0 = 0, 0 = 0, r67.1.Core.length = r67.1.Core.length, (((r67.1.Core.length : Nat) : Int) : Int) = ((r67.1.Core.length : Nat) : Int), a0.length = a0.length, ∀ i, i < a0.length → ∀ j, j < 1 → E3.cf (a0.getD i E3.z) j = E3.cf (a0.getD i E3.z) j, (((a0.length : Nat) : Int) : Int) = ((a0.length : Nat) : Int), ((((r67.1.Core.length : Nat) : Int) : Int) != ((a0.length : Nat) : Int)) = ((((r67.1.Core.length : Nat) : Int) : Int) != ((a0.length : Nat) : Int)), 0 = 0, 0 = 0, r67.1.Core.length = r67.1.Core.length, (((r67.1.Core.length : Nat) : Int) : Int) = ((r67.1.Core.length : Nat) : Int), (0 : Int) = ((0 : Nat) : Int), (decide ((((k44 : Nat) : Int) : Int) < ((r7.1.Core.length : Nat) : Int))) = (decide ((((k44 : Nat) : Int) : Int) < ((r7.1.Core.length : Nat) : Int))), 0 = 0, l45.length = l45.length, (r55 : Int) = r55, 1 = 1, (r7.1.Most : Int) = r7.1.Most, ((r55 : Int) != r7.1.Most) = ((r55 : Int) != r7.1.Most), ((r55 : Int) != r7.1.Most) = ((r55 : Int) != r7.1.Most), (((r55 : Int) != r7.1.Most) || ((r57 : Int) != r59)) = (((r55 : Int) != r7.1.Most) || ((r57 : Int) != r59)), ((IntKind.i64.wrap (0 + 1)) : Int) = (IntKind.i64.wrap (0 + 1)), 0 = 0, r67.1.Core.length = r67.1.Core.length, (r67.1.Most : Int) = r67.1.Most] ++ (pB E3 ([r67.1.Core, List.replicate (Int.toNat a1) (0 : Int), l45]) ++ ([0 = 0, r7.1.Core.length = r7.1.Core.length, (r7.1.Most : Int) = r7.1.Most, E3.cR r7.1.Core = E3.cR r7.1.Core, AllPv (E3.cR r7.1.Core)])))) (by kernel_rfl) (allP_app ⟨rfl, fun _ _ _ _ => rfl, rfl, rfl, rfl, rfl, rfl, (by first | rfl | (simp; done) | omega | (simp <;> omega)), rfl, rfl, rfl, rfl, rfl, rfl, rfl, rfl, rfl, rfl, rfl, fun _ _ _ _ => rfl, rfl, rfl, rfl, rfl, rfl, rfl, rfl, rfl, rfl, rfl, rfl, rfl, rfl, (by first | rfl | (simp; done) | omega | (simp <;> omega)), rfl, rfl, rfl, rfl, rfl, fun _ _ _ _ => rfl, rfl, rfl, rfl, rfl, rfl, rfl, (by first | rfl | simp), rfl, rfl, rfl, rfl, rfl, rfl, rfl, rfl, rfl, rfl, rfl, rfl, rfl, trivial⟩ (allP_app (pB_ok _ _) ⟨rfl, rfl, rfl, rfl, (Elem.cR_pv _ _), trivial⟩))
                      · clear h; rintro ⟨n3, k74, b75, l76⟩ h p3 hp3
                        obtain _ | n3 := n3
                        · cases (show (none : Option (Bool)) = some r from h)
                        have h : keep_SpreadSums_l3 a0 a1 r7 k44 r67 (n3 + 1) k74 b75 l76 = some r := h
                        unfold keep_SpreadSums_l3 at h
                        refine segs [4] tabOk mixed 4000 (S := .br (decide ((((k74 : Nat) : Int) : Int) < ((r67.1.Core.length : Nat) : Int))) (.and (0 ≤ (((k74 : Nat) : Int) : Int) ∧ ((k74 : Nat) : Int) < ((r67.1.Core.length : Nat) : Int)) (.leaf 0)) (.leaf 1)) (by kernel_rfl) ?_
                        refine br_ h ?_ ?_ <;> clear h <;> intro c77 h
                        · refine sk_and ⟨Int.natCast_nonneg _, of_decide_eq_true c77⟩ ?_
                          refine sk_leaf ?_
                          refine ld_ok (d := 44) (id := 1) (i := (0 + k74)) (j := 0) (e := 3) (n := 1) E3 (xs := r67.1.Core) (by kernel_rfl) (by kernel_rfl) (by first | omega | (simp at * <;> omega) | (simp_all <;> omega)) (by exact Nat.le_of_ble_eq_true rfl) ?_
                          refine segs [4] tabOk mixed 4000 (S := .and (((!(decide (((r67.1.Core.getD (0 + k74) 0) : Int) < 0))) = true → ((!(decide (((r67.1.Core.getD (0 + k74) 0) : Int) < 0))) = true))) (.and (((!(decide (((r67.1.Core.getD (0 + k74) 0) : Int) < 0))) = true → ((!(decide (((r67.1.Core.getD (0 + k74) 0) : Int) < 0))) = true))) (.and ((decide (((r67.1.Core.getD (0 + k74) 0) : Int) < 0)) = false → (!(decide (((r67.1.Core.getD (0 + k74) 0) : Int) < 0))) = true) (.br ((decide (((r67.1.Core.getD (0 + k74) 0) : Int) < 0)) || (decide (((r67.1.Core.getD (0 + k74) 0) : Int) ≥ a1))) (.leaf 0) (.and (0 ≤ ((r67.1.Core.getD (0 + k74) 0) : Int) ∧ (r67.1.Core.getD (0 + k74) 0) < ((l76.length : Nat) : Int)) (.leaf 1)))))) (by kernel_rfl) ?_
                          refine sk_and (fun h => h) ?_
                          refine sk_and (fun h => h) ?_
                          refine sk_and ((by decide : ∀ y0 : Bool, ((y0 = false) → ((!y0) = true))) (decide (((r67.1.Core.getD (0 + k74) 0) : Int) < 0))) ?_
                          refine br_ h ?_ ?_ <;> clear h <;> intro c82 h
                          · refine sk_leaf ?_
                            obtain rfl := some_ h
                            exact end_ok [] Try.results5 (ps := [false = false]) (by kernel_rfl) ⟨rfl, trivial⟩ (fun _ => ⟨rfl, by simp⟩)
                          · refine gd_ h ?_; clear h; intro g83 h
                            refine sk_leaf ?_
                            refine ld_ok (d := 55) (id := 2) (i := (0 + (Int.toNat (r67.1.Core.getD (0 + k74) 0)))) (j := 0) (e := 3) (n := 1) E3 (xs := l76) (by kernel_rfl) (by kernel_rfl) (by first | omega | (simp at * <;> omega) | (simp_all <;> omega)) (by exact Nat.le_of_ble_eq_true rfl) ?_
                            refine segs [4] tabOk mixed 4000 (S := .and (0 ≤ (((k74 : Nat) : Int) : Int) ∧ ((k74 : Nat) : Int) < ((a0.length : Nat) : Int)) (.and (0 ≤ ((r67.1.Core.getD (0 + k74) 0) : Int) ∧ (r67.1.Core.getD (0 + k74) 0) < ((l76.length : Nat) : Int)) (.leaf 0))) (by kernel_rfl) ?_
                            refine gd_ h ?_; clear h; intro g84 h
                            refine gd_ h ?_; clear h; intro g85 h
                            refine sk_leaf ?_
                            refine st_ok (id := 2) (i := (0 + (Int.toNat (r67.1.Core.getD (0 + k74) 0)))) (j := 0) (e := 3) (vs := [.pv (.raw (.int .i64 (IntKind.i64.wrap ((l76.getD (0 + (Int.toNat (r67.1.Core.getD (0 + k74) 0))) 0) + (a0.getD k74 0)))))]) E3 (xs := l76) (IntKind.i64.wrap ((l76.getD (0 + (Int.toNat (r67.1.Core.getD (0 + k74) 0))) 0) + (a0.getD k74 0))) (by kernel_rfl) (by kernel_rfl) (by first | omega | (simp at * <;> omega) | (simp_all <;> omega)) (by exact Nat.le_of_ble_eq_true rfl) rfl ?_
                            refine segs [4] tabOk mixed 4000 (S := .leaf 0) (by kernel_rfl) ?_
                            refine sk_leaf ?_
                            refine back_ok (p := p3) (by kernel_rfl) (hp3 (n3, k74 + 1, (decide ((((k74 : Nat) : Int) : Int) < ((r67.1.Core.length : Nat) : Int))), (l76.set (0 + (Int.toNat (r67.1.Core.getD (0 + k74) 0))) (IntKind.i64.wrap ((l76.getD (0 + (Int.toNat (r67.1.Core.getD (0 + k74) 0))) 0) + (a0.getD k74 0))))) _ h (Nat.lt_succ_self n3) ?_)
                            exact subP_ok [3] (ρ := (rI 0 0 7)) (l := ([a0.length = a0.length, ∀ i, i < a0.length → ∀ j, j < 1 → E3.cf (a0.getD i E3.z) j = E3.cf (a0.getD i E3.z) j, (a1 : Int) = a1, false = false, 0 = 0, (r67.2 : Int) = r67.2, 0 = 0, l76.length = ((l76.set (0 + (Int.toNat (r67.1.Core.getD (0 + k74) 0))) (IntKind.i64.wrap ((l76.getD (0 + (Int.toNat (r67.1.Core.getD (0 + k74) 0))) 0) + (a0.getD k74 0)))).length), 0 = 0, 2 = 2, (((2 : Nat) : Int) : Int) = ((2 : Nat) : Int), ((IntKind.i64.wrap (0 + 1)) : Int) = (IntKind.i64.wrap (0 + 1)), (decide (((IntKind.i64.wrap (0 + 1)) : Int) < ((2 : Nat) : Int))) = (decide (((IntKind.i64.wrap (0 + 1)) : Int) < ((2 : Nat) : Int))), ((0 + (Int.toNat (IntKind.i64.wrap (0 + 1)))) * 1) = ((0 + (Int.toNat (IntKind.i64.wrap (0 + 1)))) * 1), 0 = 0, r67.1.Core.length = r67.1.Core.length, (r67.1.Most : Int) = r67.1.Most, (r67.2 : Int) = r67.2, a0.length = a0.length, ∀ i, i < a0.length → ∀ j, j < 1 → E3.cf (a0.getD i E3.z) j = E3.cf (a0.getD i E3.z) j, (a1 : Int) = a1, 0 = 0, r67.1.Core.length = r67.1.Core.length, (r67.1.Most : Int) = r67.1.Most, (r67.2 : Int) = r67.2, 0 = 0, r67.1.Core.length = r67.1.Core.length, (r67.1.Most : Int) = r67.1.Most, (r67.2 : Int) = r67.2, (r67.2 : Int) = r67.2, ((r67.2 : Int) != 0) = ((r67.2 : Int) != 0), (a1 : Int) = a1, 0 = 0, l76.length = ((l76.set (0 + (Int.toNat (r67.1.Core.getD (0 + k74) 0))) (IntKind.i64.wrap ((l76.getD (0 + (Int.toNat (r67.1.Core.getD (0 + k74) 0))) 0) + (a0.getD k74 0)))).length), 0 = 0, 0 = 0, r67.1.Core.length = r67.1.Core.length, (((r67.1.Core.length : Nat) : Int) : Int) = ((r67.1.Core.length : Nat) : Int), a0.length = a0.length, ∀ i, i < a0.length → ∀ j, j < 1 → E3.cf (a0.getD i E3.z) j = E3.cf (a0.getD i E3.z) j, (((a0.length : Nat) : Int) : Int) = ((a0.length : Nat) : Int), ((((r67.1.Core.length : Nat) : Int) : Int) != ((a0.length : Nat) : Int)) = ((((r67.1.Core.length : Nat) : Int) : Int) != ((a0.length : Nat) : Int)), 0 = 0, 0 = 0, r67.1.Core.length = r67.1.Core.length, (((r67.1.Core.length : Nat) : Int) : Int) = ((r67.1.Core.length : Nat) : Int), ((IntKind.i64.wrap (((k74 : Nat) : Int) + 1)) : Int) = (((k74 + 1) : Nat) : Int), (decide ((((k74 : Nat) : Int) : Int) < ((r67.1.Core.length : Nat) : Int))) = (decide ((((k74 : Nat) : Int) : Int) < ((r67.1.Core.length : Nat) : Int))), 0 = 0, l45.length = l45.length, (r55 : Int) = r55, 1 = 1, (r7.1.Most : Int) = r7.1.Most, ((r55 : Int) != r7.1.Most) = ((r55 : Int) != r7.1.Most), ((r55 : Int) != r7.1.Most) = ((r55 : Int) != r7.1.Most), (((r55 : Int) != r7.1.Most) || ((r57 : Int) != r59)) = (((r55 : Int) != r7.1.Most) || ((r57 : Int) != r59)), ((IntKind.i64.wrap (0 + 1)) : Int) = (IntKind.i64.wrap (0 + 1)), 0 = 0, r67.1.Core.length = r67.1.Core.length, (r67.1.Most : Int) = r67.1.Most] ++ (pB E3 ([r67.1.Core, l76.set (0 + (Int.toNat (r67.1.Core.getD (0 + k74) 0))) (IntKind.i64.wrap ((l76.getD (0 + (Int.toNat (r67.1.Core.getD (0 + k74) 0))) 0) + (a0.getD k74 0))), l45]) ++ ([0 = 0, r7.1.Core.length = r7.1.Core.length, (r7.1.Most : Int) = r7.1.Most, E3.cR r7.1.Core = E3.cR r7.1.Core, AllPv (E3.cR r7.1.Core)])))) (by kernel_rfl) (allP_app ⟨rfl, fun _ _ _ _ => rfl, rfl, rfl, rfl, rfl, rfl, (by first | rfl | (simp; done) | omega | (simp <;> omega)), rfl, rfl, rfl, rfl, rfl, rfl, rfl, rfl, rfl, rfl, rfl, fun _ _ _ _ => rfl, rfl, rfl, rfl, rfl, rfl, rfl, rfl, rfl, rfl, rfl, rfl, rfl, rfl, (by first | rfl | (simp; done) | omega | (simp <;> omega)), rfl, rfl, rfl, rfl, rfl, fun _ _ _ _ => rfl, rfl, rfl, rfl, rfl, rfl, rfl, (wrap_nat (Int.ofNat_lt.1 (of_decide_eq_true c77)) (by omega)), rfl, rfl, rfl, rfl, rfl, rfl, rfl, rfl, rfl, rfl, rfl, rfl, rfl, trivial⟩ (allP_app (pB_ok _ _) ⟨rfl, rfl, rfl, rfl, (Elem.cR_pv _ _), trivial⟩))
                        · refine sk_leaf ?_
                          obtain ⟨r86, e87, h⟩ := bd_ h
                          refine call_ok (d := some 64) (fn := 12) (ax := [.row 2 1 0 l76.length]) (args := [.pv ((E3.ro l76))]) (ps := [l76.length = l76.length, rowQ (E3.cR l76) 1 0 l76.length (fun i j => E3.cf (l76.getD i E3.z) j)]) (hb' := []) (by kernel_rfl) (slices_Max_int_ok _ _ e87 (al := false)) (by kernel_rfl) ⟨(by first | rfl | exact Elem.sub_len _ (by omega) | omega | simp | (simp <;> omega)), E3.rowQ_all l76 rfl, trivial⟩ (fun hx => by cases hx) (by simp) rfl (by kernel_rfl) ?_
                          refine segs [4] tabOk mixed 4000 (S := .leaf 0) (by kernel_rfl) ?_
                          refine sk_leaf ?_
                          obtain ⟨r88, e89, h⟩ := bd_ h
                          refine callG_ok (d := some 70) (fn := 11) (ax := [.row 2 1 0 l76.length]) (args := [.pv ((E3.ro l76))]) (g := (!((r86 : Int) != r67.1.Most))) (ws := [(!((r86 : Int) != r67.1.Most)) = true]) (ps := [l76.length = l76.length, rowQ (E3.cR l76) 1 0 l76.length (fun i j => E3.cf (l76.getD i E3.z) j)]) (by kernel_rfl) (fun hg => ⟨((by decide : ∀ y0 : Bool, ((y0 = true) → (y0 = true))) (!((r86 : Int) != r67.1.Most))) hg, trivial⟩) (fun hg => keep_total_ok _ _ (by rw [hg] at e89; exact e89) (al := false)) (by kernel_rfl) (fun hg => ⟨(by first | rfl | exact Elem.sub_len _ (by omega) | omega | simp | (simp <;> omega)), E3.rowQ_all l76 rfl, trivial⟩) (fun hx => by cases hx) ?_
                          refine segs [4] tabOk mixed 4000 (S := .leaf 0) (by kernel_rfl) ?_
                          refine sk_leaf ?_
                          obtain ⟨r90, e91, h⟩ := bd_ h
                          refine callG_ok (d := some 72) (fn := 11) (ax := [.pv ((E3.ro a0))]) (args := [.pv ((E3.ro a0))]) (g := (!((r86 : Int) != r67.1.Most))) (ws := [(!((r86 : Int) != r67.1.Most)) = true]) (ps := [a0.length = a0.length, ∀ i, i < a0.length → ∀ j, j < 1 → E3.cf (a0.getD i E3.z) j = E3.cf (a0.getD i E3.z) j]) (by kernel_rfl) (fun hg => ⟨((by decide : ∀ y0 : Bool, ((y0 = true) → (y0 = true))) (!((r86 : Int) != r67.1.Most))) hg, trivial⟩) (fun hg => keep_total_ok _ _ (by rw [hg] at e91; exact e91) (al := true)) (by kernel_rfl) (fun hg => ⟨rfl, fun _ _ _ _ => rfl, trivial⟩) (fun _ => (by kernel_rfl)) ?_
                          refine segs [4] tabOk mixed 4000 (S := .and (((!((r86 : Int) != r67.1.Most)) = true → ((!((r86 : Int) != r67.1.Most)) = true))) (.and (((!((r86 : Int) != r67.1.Most)) = true → ((!((r86 : Int) != r67.1.Most)) = true))) (.and (((r86 : Int) != r67.1.Most) = false → (!((r86 : Int) != r67.1.Most)) = true) (.br (((r86 : Int) != r67.1.Most) || ((r88 : Int) != r90)) (.leaf 0) (.leaf 1))))) (by kernel_rfl) ?_
                          refine sk_and (fun h => h) ?_
                          refine sk_and (fun h => h) ?_
                          refine sk_and ((by decide : ∀ y0 : Bool, ((y0 = false) → ((!y0) = true))) ((r86 : Int) != r67.1.Most)) ?_
                          refine br_ h ?_ ?_ <;> clear h <;> intro c95 h
                          · refine sk_leaf ?_
                            obtain rfl := some_ h
                            exact end_ok [] Try.results5 (ps := [false = false]) (by kernel_rfl) ⟨rfl, trivial⟩ (fun _ => ⟨rfl, by simp⟩)
                          · refine sk_leaf ?_
                            refine back_ok (p := u4 1) (by kernel_rfl) (hu4 _ _ ?_)
                            refine segs [4] tabOk mixed 4000 (S := .leaf 0) (by kernel_rfl) ?_
                            refine sk_leaf ?_
                            refine cut_ok (by kernel_rfl) (τ := mk 76 [(0, .pv ((E3.ro a0))), (1, .pv (.raw (.int .i64 a1))), (4, .pv (.raw (.bool false))), (6, .fn 14 []), (7, .ptr 0 0), (8, .pv (.raw (.int .i64 r67.2))), (9, .row 2 1 0 l76.length), (14, .row 3 1 0 2), (15, .pv (.raw (.int .i64 ((2 : Nat) : Int)))), (16, .pv (.raw (.int .i64 (IntKind.i64.wrap ((IntKind.i64.wrap (0 + 1)) + 1))))), (17, .pv (.raw (.bool (decide (((IntKind.i64.wrap (0 + 1)) : Int) < ((2 : Nat) : Int)))))), (18, .ptr 3 ((0 + (Int.toNat (IntKind.i64.wrap (0 + 1)))) * 1)), (19, .fn 14 []), (20, .tup [.agg [.row 1 1 0 r67.1.Core.length, .pv (.raw (.int .i64 r67.1.Most))], .pv (.raw (.int .i64 r67.2))]), (21, .fn 14 []), (22, .pv ((E3.ro a0))), (23, .pv (.raw (.int .i64 a1))), (24, .tup [.agg [.row 1 1 0 r67.1.Core.length, .pv (.raw (.int .i64 r67.1.Most))], .pv (.raw (.int .i64 r67.2))]), (25, .agg [.row 1 1 0 r67.1.Core.length, .pv (.raw (.int .i64 r67.1.Most))]), (26, .pv (.raw (.int .i64 r67.2))), (27, .pv (.raw (.int .i64 r67.2))), (28, .pv (.raw (.bool ((r67.2 : Int) != 0)))), (29, .pv (.raw (.int .i64 a1))), (30, .row 2 1 0 l76.length), (31, .ptr 0 0), (32, .row 1 1 0 r67.1.Core.length), (33, .pv (.raw (.int .i64 ((r67.1.Core.length : Nat) : Int)))), (34, .pv ((E3.ro a0))), (35, .pv (.raw (.int .i64 ((a0.length : Nat) : Int)))), (36, .pv (.raw (.bool ((((r67.1.Core.length : Nat) : Int) : Int) != ((a0.length : Nat) : Int))))), (37, .ptr 0 0), (38, .row 1 1 0 r67.1.Core.length), (39, .pv (.raw (.int .i64 ((r67.1.Core.length : Nat) : Int)))), (40, .pv (.raw (.int .i64 ((k74 : Nat) : Int)))), (41, .pv (.raw (.bool (decide ((((k74 : Nat) : Int) : Int) < ((r67.1.Core.length : Nat) : Int)))))), (63, .row 2 1 0 l76.length), (64, .pv (.raw (.int .i64 r86))), (65, .ptr 0 1), (66, .pv (.raw (.int .i64 r67.1.Most))), (67, .pv (.raw (.bool ((r86 : Int) != r67.1.Most)))), (68, .pv (.raw (.bool ((r86 : Int) != r67.1.Most)))), (74, .pv (.raw (.bool (((r86 : Int) != r67.1.Most) || ((r88 : Int) != r90))))), (75, .pv (.raw (.int .i64 (IntKind.i64.wrap ((IntKind.i64.wrap (0 + 1)) + 1)))))] [(0, .box [.row 1 1 0 r67.1.Core.length, .pv (.raw (.int .i64 r67.1.Most))]), (1, .row 3 1 (E3.cR r67.1.Core)), (2, .row 3 1 (E3.cR l76)), (3, .row 28 1 [.fn 9 [], .fn 14 []])]) (subP_ok [3] (ρ := (rI 0 0 4)) (l := [a0.length = a0.length, ∀ i, i < a0.length → ∀ j, j < 1 → E3.cf (a0.getD i E3.z) j = E3.cf (a0.getD i E3.z) j, (a1 : Int) = a1, false = false, 0 = 0, (r67.2 : Int) = r67.2, 0 = 0, l76.length = l76.length, 0 = 0, 2 = 2, (((2 : Nat) : Int) : Int) = ((2 : Nat) : Int), ((IntKind.i64.wrap ((IntKind.i64.wrap (0 + 1)) + 1)) : Int) = (IntKind.i64.wrap ((IntKind.i64.wrap (0 + 1)) + 1)), (decide (((IntKind.i64.wrap (0 + 1)) : Int) < ((2 : Nat) : Int))) = (decide (((IntKind.i64.wrap (0 + 1)) : Int) < ((2 : Nat) : Int))), ((0 + (Int.toNat (IntKind.i64.wrap (0 + 1)))) * 1) = ((0 + (Int.toNat (IntKind.i64.wrap (0 + 1)))) * 1), 0 = 0, r67.1.Core.length = r67.1.Core.length, (r67.1.Most : Int) = r67.1.Most, (r67.2 : Int) = r67.2, a0.length = a0.length, ∀ i, i < a0.length → ∀ j, j < 1 → E3.cf (a0.getD i E3.z) j = E3.cf (a0.getD i E3.z) j, (a1 : Int) = a1, 0 = 0, r67.1.Core.length = r67.1.Core.length, (r67.1.Most : Int) = r67.1.Most, (r67.2 : Int) = r67.2, 0 = 0, r67.1.Core.length = r67.1.Core.length, (r67.1.Most : Int) = r67.1.Most, (r67.2 : Int) = r67.2, (r67.2 : Int) = r67.2, ((r67.2 : Int) != 0) = ((r67.2 : Int) != 0), (a1 : Int) = a1, 0 = 0, l76.length = l76.length, 0 = 0, 0 = 0, r67.1.Core.length = r67.1.Core.length, (((r67.1.Core.length : Nat) : Int) : Int) = ((r67.1.Core.length : Nat) : Int), a0.length = a0.length, ∀ i, i < a0.length → ∀ j, j < 1 → E3.cf (a0.getD i E3.z) j = E3.cf (a0.getD i E3.z) j, (((a0.length : Nat) : Int) : Int) = ((a0.length : Nat) : Int), ((((r67.1.Core.length : Nat) : Int) : Int) != ((a0.length : Nat) : Int)) = ((((r67.1.Core.length : Nat) : Int) : Int) != ((a0.length : Nat) : Int)), 0 = 0, 0 = 0, r67.1.Core.length = r67.1.Core.length, (((r67.1.Core.length : Nat) : Int) : Int) = ((r67.1.Core.length : Nat) : Int), (((k74 : Nat) : Int) : Int) = ((k74 : Nat) : Int), (decide ((((k74 : Nat) : Int) : Int) < ((r67.1.Core.length : Nat) : Int))) = (decide ((((k74 : Nat) : Int) : Int) < ((r67.1.Core.length : Nat) : Int))), 0 = 0, l76.length = l76.length, (r86 : Int) = r86, 1 = 1, (r67.1.Most : Int) = r67.1.Most, ((r86 : Int) != r67.1.Most) = ((r86 : Int) != r67.1.Most), ((r86 : Int) != r67.1.Most) = ((r86 : Int) != r67.1.Most), (((r86 : Int) != r67.1.Most) || ((r88 : Int) != r90)) = (((r86 : Int) != r67.1.Most) || ((r88 : Int) != r90)), ((IntKind.i64.wrap ((IntKind.i64.wrap (0 + 1)) + 1)) : Int) = (IntKind.i64.wrap ((IntKind.i64.wrap (0 + 1)) + 1)), 0 = 0, r67.1.Core.length = r67.1.Core.length, (r67.1.Most : Int) = r67.1.Most, E3.cR r67.1.Core = E3.cR r67.1.Core, AllPv (E3.cR r67.1.Core), E3.cR l76 = E3.cR l76, AllPv (E3.cR l76)]) (by kernel_rfl) ⟨rfl, fun _ _ _ _ => rfl, rfl, rfl, rfl, rfl, rfl, rfl, rfl, rfl, rfl, rfl, rfl, rfl, rfl, rfl, rfl, rfl, rfl, fun _ _ _ _ => rfl, rfl, rfl, rfl, rfl, rfl, rfl, rfl, rfl, rfl, rfl, rfl, rfl, rfl, rfl, rfl, rfl, rfl, rfl, rfl, fun _ _ _ _ => rfl, rfl, rfl, rfl, rfl, rfl, rfl, rfl, rfl, rfl, rfl, rfl, rfl, rfl, rfl, rfl, rfl, rfl, rfl, rfl, rfl, rfl, (Elem.cR_pv _ _), rfl, (Elem.cR_pv _ _), trivial⟩) ?_
                            refine segs [] tabOk mixed 4000 (S := .br (decide (((IntKind.i64.wrap ((IntKind.i64.wrap (0 + 1)) + 1)) : Int) < ((2 : Nat) : Int))) (.and (0 ≤ ((IntKind.i64.wrap ((IntKind.i64.wrap (0 + 1)) + 1)) : Int) ∧ (IntKind.i64.wrap ((IntKind.i64.wrap (0 + 1)) + 1)) < ((2 : Nat) : Int)) (.leaf 0)) (.leaf 1)) (by kernel_rfl) ?_
                            refine br_ h ?_ ?_ <;> clear h <;> intro c96 h
                            · refine gd_ h ?_; clear h; intro g97 h
                              refine sk_leaf ?_
                              cases h
                            · refine sk_leaf ?_
                              obtain rfl := some_ h
                              exact end_ok [] Try.results5 (ps := [true = true]) (by kernel_rfl) ⟨rfl, trivial⟩ (fun _ => ⟨rfl, by simp⟩)
                · refine sk_leaf ?_
                  obtain rfl := some_ h
                  exact end_ok [] Try.results5 (ps := [true = true]) (by kernel_rfl) ⟨rfl, trivial⟩ (fun _ => ⟨rfl, by simp⟩)
    · refine sk_leaf ?_
      obtain rfl := some_ h
      exact end_ok [] Try.results5 (ps := [true = true]) (by kernel_rfl) ⟨rfl, trivial⟩ (fun _ => ⟨rfl, by simp⟩)

set_option maxHeartbeats 40000000 in
set_option maxRecDepth 100000 in
theorem keep_SpreadLeast_ok (a0 : (List Int)) (a1 : Int) (r : Bool) (h : keep_SpreadLeast a0 a1 = some r) {al : Bool} : PCalls Try.prog 6 [.pv ((E3.ro a0)), .pv (.raw (.int .i64 a1))] al (.pv (.raw (.bool r))) [] := by
  unfold keep_SpreadLeast at h
  refine fn_ok tabOk Try.func6 (by kernel_rfl) (by kernel_rfl) Try.ntmps6 (by simp) ?_
  refine segs [] tabOk mixed 4000 (S := .leaf 0) (by kernel_rfl) ?_
  refine sk_leaf ?_
  obtain ⟨r1, e2, h⟩ := bd_ h
  refine call_ok (d := some 13) (fn := 8) (ax := []) (args := []) (ps := []) (hb' := []) (by kernel_rfl) (keep_alive5_ok  _ e2 (al := true)) (by kernel_rfl) trivial (fun _ => (by kernel_rfl)) (by simp) rfl (by kernel_rfl) ?_
  refine segs [] tabOk mixed 4000 (S := .br (!r1) (.leaf 0) (.leaf 1)) (by kernel_rfl) ?_
  refine br_ h ?_ ?_ <;> clear h <;> intro c3 h
  · refine sk_leaf ?_
    obtain rfl := some_ h
    exact end_ok [] Try.results6 (ps := [false = false]) (by kernel_rfl) ⟨rfl, trivial⟩ (fun _ => ⟨rfl, by simp⟩)
  · refine sk_leaf ?_
    obtain ⟨r4, e5, h⟩ := bd_ h
    refine call_ok (d := some 18) (fn := 13) (ax := [.pv ((E3.ro a0)), .pv (.raw (.int .i64 a1))]) (args := [.pv ((E3.ro a0)), .pv (.raw (.int .i64 a1))]) (ps := [a0.length = a0.length, ∀ i, i < a0.length → ∀ j, j < 1 → E3.cf (a0.getD i E3.z) j = E3.cf (a0.getD i E3.z) j, (a1 : Int) = a1]) (hb' := []) (by kernel_rfl) (spread_Best_ok _ _ _ e5 (al := true)) (by kernel_rfl) ⟨rfl, fun _ _ _ _ => rfl, rfl, trivial⟩ (fun _ => (by kernel_rfl)) (by simp) rfl (by kernel_rfl) ?_
    refine segs [] tabOk mixed 4000 (S := .br ((r4.2 : Int) != 0) (.leaf 0) (.leaf 1)) (by kernel_rfl) ?_
    refine br_ h ?_ ?_ <;> clear h <;> intro c6 h
    · refine sk_leaf ?_
      obtain rfl := some_ h
      exact end_ok [] Try.results6 (ps := [((r4.1 : Int) == 0) = ((r4.1 : Int) == 0)]) (by kernel_rfl) ⟨rfl, trivial⟩ (fun _ => ⟨rfl, by simp⟩)
    · refine sk_leaf ?_
      obtain ⟨r7, e8, h⟩ := bd_ h
      refine call_ok (d := some 28) (fn := 9) (ax := [.pv ((E3.ro a0)), .pv (.raw (.int .i64 a1))]) (args := [.pv ((E3.ro a0)), .pv (.raw (.int .i64 a1))]) (ps := [a0.length = a0.length, ∀ i, i < a0.length → ∀ j, j < 1 → E3.cf (a0.getD i E3.z) j = E3.cf (a0.getD i E3.z) j, (a1 : Int) = a1]) (hb' := [.row 3 1 (E3.cR r7.1.Core)]) (by kernel_rfl) (spread_List_ok _ _ _ e8 (al := true)) (by kernel_rfl) ⟨rfl, fun _ _ _ _ => rfl, rfl, trivial⟩ (fun _ => (by kernel_rfl)) (by simp) (by simp only [List.map_cons, List.map_nil, Elem.row_up, up_map] <;> rfl) (by kernel_rfl) ?_
      refine segs [] tabOk mixed 4000 (S := .leaf 0) (by kernel_rfl) ?_
      refine sk_leaf ?_
      obtain ⟨r9, e10, h⟩ := bd_ h
      refine call_ok (d := some 34) (fn := 14) (ax := [.pv ((E3.ro a0)), .pv (.raw (.int .i64 a1))]) (args := [.pv ((E3.ro a0)), .pv (.raw (.int .i64 a1))]) (ps := [a0.length = a0.length, ∀ i, i < a0.length → ∀ j, j < 1 → E3.cf (a0.getD i E3.z) j = E3.cf (a0.getD i E3.z) j, (a1 : Int) = a1]) (hb' := [.row 3 1 (E3.cR r9.1.Core)]) (by kernel_rfl) (spread_Longest_ok _ _ _ e10 (al := true)) (by kernel_rfl) ⟨rfl, fun _ _ _ _ => rfl, rfl, trivial⟩ (fun _ => (by kernel_rfl)) (by simp) (by simp only [List.map_cons, List.map_nil, Elem.row_up, up_map] <;> rfl) (by kernel_rfl) ?_
      refine segs [] tabOk mixed 4000 (S := .and (((!(decide ((r4.1 : Int) > r7.1.Most))) = true → ((!(decide ((r4.1 : Int) > r7.1.Most))) = true))) (.and (((!(decide ((r4.1 : Int) > r7.1.Most))) = true → ((!(decide ((r4.1 : Int) > r7.1.Most))) = true))) (.and (((!(decide ((r4.1 : Int) > r7.1.Most))) = true → ((!(decide ((r4.1 : Int) > r7.1.Most))) = true))) (.and ((decide ((r4.1 : Int) > r7.1.Most)) = false → (!(decide ((r4.1 : Int) > r7.1.Most))) = true) (.and (((!((decide ((r4.1 : Int) > r7.1.Most)) || (decide ((r4.1 : Int) > r9.1.Most)))) = true → ((!((decide ((r4.1 : Int) > r7.1.Most)) || (decide ((r4.1 : Int) > r9.1.Most)))) = true))) (.and (((!((decide ((r4.1 : Int) > r7.1.Most)) || (decide ((r4.1 : Int) > r9.1.Most)))) = true → ((!((decide ((r4.1 : Int) > r7.1.Most)) || (decide ((r4.1 : Int) > r9.1.Most)))) = true))) (.leaf 0))))))) (by kernel_rfl) ?_
      refine sk_and (fun h => h) ?_
      refine sk_and (fun h => h) ?_
      refine sk_and (fun h => h) ?_
      refine sk_and ((by decide : ∀ y0 : Bool, ((y0 = false) → ((!y0) = true))) (decide ((r4.1 : Int) > r7.1.Most))) ?_
      refine sk_and (fun h => h) ?_
      refine sk_and (fun h => h) ?_
      refine sk_leaf ?_
      obtain ⟨r17, e18, h⟩ := bd_ h
      refine callG_ok (d := some 52) (fn := 11) (ax := [.pv ((E3.ro a0))]) (args := [.pv ((E3.ro a0))]) (g := (!((decide ((r4.1 : Int) > r7.1.Most)) || (decide ((r4.1 : Int) > r9.1.Most))))) (ws := [(!((decide ((r4.1 : Int) > r7.1.Most)) || (decide ((r4.1 : Int) > r9.1.Most)))) = true]) (ps := [a0.length = a0.length, ∀ i, i < a0.length → ∀ j, j < 1 → E3.cf (a0.getD i E3.z) j = E3.cf (a0.getD i E3.z) j]) (by kernel_rfl) (fun hg => ⟨((by decide : ∀ y0 : Bool, ((y0 = true) → (y0 = true))) (!((decide ((r4.1 : Int) > r7.1.Most)) || (decide ((r4.1 : Int) > r9.1.Most))))) hg, trivial⟩) (fun hg => keep_total_ok _ _ (by rw [hg] at e18; exact e18) (al := true)) (by kernel_rfl) (fun hg => ⟨rfl, fun _ _ _ _ => rfl, trivial⟩) (fun _ => (by kernel_rfl)) ?_
      refine segs [] tabOk mixed 4000 (S := .and (((!((decide ((r4.1 : Int) > r7.1.Most)) || (decide ((r4.1 : Int) > r9.1.Most)))) = true → ((!((decide ((r4.1 : Int) > r7.1.Most)) || (decide ((r4.1 : Int) > r9.1.Most)))) = true))) (.and (((!((decide ((r4.1 : Int) > r7.1.Most)) || (decide ((r4.1 : Int) > r9.1.Most)))) = true → ((!((decide ((r4.1 : Int) > r7.1.Most)) || (decide ((r4.1 : Int) > r9.1.Most)))) = true))) (.and (((decide ((r4.1 : Int) > r7.1.Most)) || (decide ((r4.1 : Int) > r9.1.Most))) = false → (!((decide ((r4.1 : Int) > r7.1.Most)) || (decide ((r4.1 : Int) > r9.1.Most)))) = true) (.and (((!(((decide ((r4.1 : Int) > r7.1.Most)) || (decide ((r4.1 : Int) > r9.1.Most))) || (decide (((IntKind.i64.wrap (r4.1 * a1)) : Int) < r17)))) = true → ((!(((decide ((r4.1 : Int) > r7.1.Most)) || (decide ((r4.1 : Int) > r9.1.Most))) || (decide (((IntKind.i64.wrap (r4.1 * a1)) : Int) < r17)))) = true))) (.and (((!(((decide ((r4.1 : Int) > r7.1.Most)) || (decide ((r4.1 : Int) > r9.1.Most))) || (decide (((IntKind.i64.wrap (r4.1 * a1)) : Int) < r17)))) = true → ((!(((decide ((r4.1 : Int) > r7.1.Most)) || (decide ((r4.1 : Int) > r9.1.Most))) || (decide (((IntKind.i64.wrap (r4.1 * a1)) : Int) < r17)))) = true))) (.and (((!(((decide ((r4.1 : Int) > r7.1.Most)) || (decide ((r4.1 : Int) > r9.1.Most))) || (decide (((IntKind.i64.wrap (r4.1 * a1)) : Int) < r17)))) = true → ((!(((decide ((r4.1 : Int) > r7.1.Most)) || (decide ((r4.1 : Int) > r9.1.Most))) || (decide (((IntKind.i64.wrap (r4.1 * a1)) : Int) < r17)))) = true))) (.leaf 0))))))) (by kernel_rfl) ?_
      refine sk_and (fun h => h) ?_
      refine sk_and (fun h => h) ?_
      refine sk_and ((by decide : ∀ y0 : Bool, ((y0 = false) → ((!y0) = true))) ((decide ((r4.1 : Int) > r7.1.Most)) || (decide ((r4.1 : Int) > r9.1.Most)))) ?_
      refine sk_and (fun h => h) ?_
      refine sk_and (fun h => h) ?_
      refine sk_and (fun h => h) ?_
      refine sk_leaf ?_
      obtain ⟨r25, e26, h⟩ := bd_ h
      refine callG_ok (d := some 62) (fn := 12) (ax := [.pv ((E3.ro a0))]) (args := [.pv ((E3.ro a0))]) (g := ((!(((decide ((r4.1 : Int) > r7.1.Most)) || (decide ((r4.1 : Int) > r9.1.Most))) || (decide (((IntKind.i64.wrap (r4.1 * a1)) : Int) < r17)))) && (decide ((((a0.length : Nat) : Int) : Int) > 0)))) (ws := [((!(((decide ((r4.1 : Int) > r7.1.Most)) || (decide ((r4.1 : Int) > r9.1.Most))) || (decide (((IntKind.i64.wrap (r4.1 * a1)) : Int) < r17)))) && (decide ((((a0.length : Nat) : Int) : Int) > 0))) = true]) (ps := [a0.length = a0.length, ∀ i, i < a0.length → ∀ j, j < 1 → E3.cf (a0.getD i E3.z) j = E3.cf (a0.getD i E3.z) j]) (by kernel_rfl) (fun hg => ⟨((by decide : ∀ y0 : Bool, ((y0 = true) → (y0 = true))) ((!(((decide ((r4.1 : Int) > r7.1.Most)) || (decide ((r4.1 : Int) > r9.1.Most))) || (decide (((IntKind.i64.wrap (r4.1 * a1)) : Int) < r17)))) && (decide ((((a0.length : Nat) : Int) : Int) > 0)))) hg, trivial⟩) (fun hg => slices_Max_int_ok _ _ (by rw [hg] at e26; exact e26) (al := true)) (by kernel_rfl) (fun hg => ⟨rfl, fun _ _ _ _ => rfl, trivial⟩) (fun _ => (by kernel_rfl)) ?_
      refine segs [] tabOk mixed 4000 (S := .and ((((!(((decide ((r4.1 : Int) > r7.1.Most)) || (decide ((r4.1 : Int) > r9.1.Most))) || (decide (((IntKind.i64.wrap (r4.1 * a1)) : Int) < r17)))) && (decide ((((a0.length : Nat) : Int) : Int) > 0))) = true → (((!(((decide ((r4.1 : Int) > r7.1.Most)) || (decide ((r4.1 : Int) > r9.1.Most))) || (decide (((IntKind.i64.wrap (r4.1 * a1)) : Int) < r17)))) && (decide ((((a0.length : Nat) : Int) : Int) > 0))) = true))) (.and ((((!(((decide ((r4.1 : Int) > r7.1.Most)) || (decide ((r4.1 : Int) > r9.1.Most))) || (decide (((IntKind.i64.wrap (r4.1 * a1)) : Int) < r17)))) && (decide ((((a0.length : Nat) : Int) : Int) > 0))) = true → (((!(((decide ((r4.1 : Int) > r7.1.Most)) || (decide ((r4.1 : Int) > r9.1.Most))) || (decide (((IntKind.i64.wrap (r4.1 * a1)) : Int) < r17)))) && (decide ((((a0.length : Nat) : Int) : Int) > 0))) = true))) (.and (((!(((decide ((r4.1 : Int) > r7.1.Most)) || (decide ((r4.1 : Int) > r9.1.Most))) || (decide (((IntKind.i64.wrap (r4.1 * a1)) : Int) < r17)))) = true → ((!(((decide ((r4.1 : Int) > r7.1.Most)) || (decide ((r4.1 : Int) > r9.1.Most))) || (decide (((IntKind.i64.wrap (r4.1 * a1)) : Int) < r17)))) = true))) (.and (((!(((decide ((r4.1 : Int) > r7.1.Most)) || (decide ((r4.1 : Int) > r9.1.Most))) || (decide (((IntKind.i64.wrap (r4.1 * a1)) : Int) < r17)))) = true → ((decide ((((a0.length : Nat) : Int) : Int) > 0)) = true → ((!(((decide ((r4.1 : Int) > r7.1.Most)) || (decide ((r4.1 : Int) > r9.1.Most))) || (decide (((IntKind.i64.wrap (r4.1 * a1)) : Int) < r17)))) && (decide ((((a0.length : Nat) : Int) : Int) > 0))) = true))) (.and ((((decide ((r4.1 : Int) > r7.1.Most)) || (decide ((r4.1 : Int) > r9.1.Most))) || (decide (((IntKind.i64.wrap (r4.1 * a1)) : Int) < r17))) = false → (!(((decide ((r4.1 : Int) > r7.1.Most)) || (decide ((r4.1 : Int) > r9.1.Most))) || (decide (((IntKind.i64.wrap (r4.1 * a1)) : Int) < r17)))) = true) (.br ((((decide ((r4.1 : Int) > r7.1.Most)) || (decide ((r4.1 : Int) > r9.1.Most))) || (decide (((IntKind.i64.wrap (r4.1 * a1)) : Int) < r17))) || ((decide ((((a0.length : Nat) : Int) : Int) > 0)) && (decide ((r4.1 : Int) < r25)))) (.leaf 0) (.leaf 1))))))) (by kernel_rfl) ?_
      refine sk_and (fun h => h) ?_
      refine sk_and (fun h => h) ?_
      refine sk_and (fun h => h) ?_
      refine sk_and ((by decide : ∀ y0 y1 : Bool, ((y0 = true) → ((y1 = true) → ((y0 && y1) = true)))) (!(((decide ((r4.1 : Int) > r7.1.Most)) || (decide ((r4.1 : Int) > r9.1.Most))) || (decide (((IntKind.i64.wrap (r4.1 * a1)) : Int) < r17)))) (decide ((((a0.length : Nat) : Int) : Int) > 0))) ?_
      refine sk_and ((by decide : ∀ y0 : Bool, ((y0 = false) → ((!y0) = true))) (((decide ((r4.1 : Int) > r7.1.Most)) || (decide ((r4.1 : Int) > r9.1.Most))) || (decide (((IntKind.i64.wrap (r4.1 * a1)) : Int) < r17)))) ?_
      refine br_ h ?_ ?_ <;> clear h <;> intro c32 h
      · refine sk_leaf ?_
        obtain rfl := some_ h
        exact end_ok [] Try.results6 (ps := [false = false]) (by kernel_rfl) ⟨rfl, trivial⟩ (fun _ => ⟨rfl, by simp⟩)
      · refine sk_leaf ?_
        obtain ⟨r33, e34, h⟩ := bd_ h
        refine call_ok (d := some 70) (fn := 13) (ax := [.pv ((E3.ro a0)), .pv (.raw (.int .i64 (IntKind.i64.wrap (a1 + 1))))]) (args := [.pv ((E3.ro a0)), .pv (.raw (.int .i64 (IntKind.i64.wrap (a1 + 1))))]) (ps := [a0.length = a0.length, ∀ i, i < a0.length → ∀ j, j < 1 → E3.cf (a0.getD i E3.z) j = E3.cf (a0.getD i E3.z) j, ((IntKind.i64.wrap (a1 + 1)) : Int) = (IntKind.i64.wrap (a1 + 1))]) (hb' := []) (by kernel_rfl) (spread_Best_ok _ _ _ e34 (al := true)) (by kernel_rfl) ⟨rfl, fun _ _ _ _ => rfl, rfl, trivial⟩ (fun _ => (by kernel_rfl)) (by simp) rfl (by kernel_rfl) ?_
        refine segs [] tabOk mixed 4000 (S := .and (((!((r33.2 : Int) != 0)) = true → ((!((r33.2 : Int) != 0)) = true))) (.and (((!((r33.2 : Int) != 0)) = true → ((!((r33.2 : Int) != 0)) = true))) (.and (((r33.2 : Int) != 0) = false → (!((r33.2 : Int) != 0)) = true) (.leaf 0)))) (by kernel_rfl) ?_
        refine sk_and (fun h => h) ?_
        refine sk_and (fun h => h) ?_
        refine sk_and ((by decide : ∀ y0 : Bool, ((y0 = false) → ((!y0) = true))) ((r33.2 : Int) != 0)) ?_
        refine sk_leaf ?_
        obtain rfl := some_ h
        exact end_ok [] Try.results6 (ps := [(((r33.2 : Int) != 0) || (decide ((r33.1 : Int) ≤ r4.1))) = (((r33.2 : Int) != 0) || (decide ((r33.1 : Int) ≤ r4.1)))]) (by kernel_rfl) ⟨rfl, trivial⟩ (fun _ => ⟨rfl, by simp⟩)

set_option maxRecDepth 100000 in
theorem slices_Clone_int_ok (a0 r : List Int) (h : slices_Clone_int a0 = some r) {al : Bool} : PCalls Try.prog 15 [.pv (E3.ro a0)] al (.row 0 1 0 r.length) [.row 3 1 (E3.cR r)] := by
  unfold slices_Clone_int at h
  obtain ⟨g, h⟩ := if_ h
  obtain rfl := some_ h
  refine fn_ok tabOk Try.func15 (by kernel_rfl) (by kernel_rfl) Try.ntmps15 (by simp) ?_
  refine segs [1] tabOk mixed 4000 (S := .leaf 0) (by kernel_rfl) ?_
  refine sk_leaf ?_
  refine nil_ok (d1 := 3) (d2 := 4) (s := 1) (n := a0.length) (c := fun i j => E3.cf (a0.getD i E3.z) j) tabOk (by kernel_rfl) ?_
  intro b hb
  refine segs [] tabOk mixed 4000 (S := .br b (.leaf 0) (.leaf 1)) (by kernel_rfl) ?_
  refine sk_br ?_ ?_ <;> intro hc <;> refine sk_leaf ?_
  · obtain rfl : a0 = [] := List.eq_nil_of_length_eq_zero (hb hc)
    exact end_ok [(0, none)] Try.results15 (ps := [0 = 0, 0 = 0, E3.cR [] = []]) (by kernel_rfl) ⟨rfl, rfl, rfl, trivial⟩ (fun _ => ⟨rfl, by simp only [List.mem_cons, List.not_mem_nil, or_false, forall_eq]; exact Elem.cR_bald E3_raw _⟩)
  · refine bs_ok (d := 5) (e := 3) (s := 1) (n := 0) (cs := []) (cs' := E3.cR []) (by kernel_rfl) rfl (by kernel_rfl) ?_
    refine segs [] tabOk mixed 4000 (S := .leaf 0) (by kernel_rfl) ?_
    refine sk_leaf ?_
    refine app_ok (d := 7) (e := 3) (s := 1) (b := 8) (x := .row 16704 1 0 0) (y := .pv (E3.ro a0)) E3 (xs := []) (ys := a0) (by kernel_rfl) rfl (.row 16704 [] 0 rfl (by kernel_rfl)) (.ro a0) ⟨by simpa using g, by simp; omega⟩ (by kernel_rfl) ?_
    refine segs [] tabOk mixed 4000 (S := .leaf 0) (by kernel_rfl) ?_
    refine sk_leaf ?_
    exact end_ok [(0, some 16832)] Try.results15 (ps := [0 = 0, a0.length = a0.length, E3.cR a0 = E3.cR a0, AllPv (E3.cR a0)]) (by kernel_rfl) ⟨rfl, rfl, rfl, Elem.cR_pv _ _, trivial⟩ (fun _ => ⟨rfl, by simp only [List.mem_cons, List.not_mem_nil, or_false, forall_eq]; exact Elem.cR_bald E3_raw _⟩)

set_option maxHeartbeats 40000000 in
set_option maxRecDepth 100000 in
theorem slices_Reverse_int_h0_ok (a0 : (List Int)) (r : (List Int)) (h : slices_Reverse_int_h0 a0 = some r) {al : Bool} : MCalls Try.prog 16 [.row 0 1 0 a0.length] [.row 3 1 (E3.cR a0)] 1 al (.tup []) [.row 3 1 (E3.cR r)] := by
  unfold slices_Reverse_int_h0 at h
  refine fnM_ok tabOk (fz := []) Try.func16 (by kernel_rfl) (by kernel_rfl) Try.ntmps16 (by simp) (by first | (simp; done) | exact Nat.le_of_ble_eq_true rfl) ?_
  refine segs [] tabOk mixed 4000 (S := .leaf 0) (by kernel_rfl) ?_
  refine sk_leaf ?_
  refine len_row (by kernel_rfl) 0 (e := 3) (s := 1) (n := a0.length) (cs := E3.cR a0) (by kernel_rfl) (Elem.cR_length _ _) ?_; intro hl1_0
  replace h : (fun (x : Nat × Int × Int × List Int) => slices_Reverse_int_h0_l1 a0 x.1 x.2.1 x.2.2.1 x.2.2.2 = some r) (FUEL, 0, (IntKind.i64.wrap (((a0.length : Nat) : Int) - 1)), a0) := h
  refine loop_ok (by kernel_rfl) (X := Nat × Int × Int × List Int) (fun x => slices_Reverse_int_h0_l1 a0 x.1 x.2.1 x.2.2.1 x.2.2.2 = some r) (fun x => x.1) (fun x => mk 28 [(0, .row 0 1 0 x.2.2.2.length), (2, .pv (.raw (.int .i64 x.2.1))), (3, .pv (.raw (.int .i64 x.2.2.1)))] [(0, .row 3 1 (E3.cR x.2.2.2))] [] 1) (FUEL, 0, (IntKind.i64.wrap (((a0.length : Nat) : Int) - 1)), a0) h ?_ ?_
  · exact sub_ok (ρ := [(0, some 0)]) (l := [0 = 0, a0.length = a0.length, (0 : Int) = 0, ((IntKind.i64.wrap (((a0.length : Nat) : Int) - 1)) : Int) = (IntKind.i64.wrap (((a0.length : Nat) : Int) - 1)), E3.cR a0 = E3.cR a0, AllPv (E3.cR a0)]) (by kernel_rfl) ⟨rfl, rfl, rfl, rfl, rfl, (Elem.cR_pv _ _), trivial⟩
  · clear h; rintro ⟨n1, x1, x2, l3⟩ h p1 hp1
    obtain _ | n1 := n1
    · cases (show (none : Option ((List Int))) = some r from h)
    have h : slices_Reverse_int_h0_l1 a0 (n1 + 1) x1 x2 l3 = some r := h
    unfold slices_Reverse_int_h0_l1 at h
    refine segs [] tabOk mixed 4000 (S := .br (decide ((x1 : Int) < x2)) (.and (0 ≤ (x2 : Int) ∧ x2 < ((l3.length : Nat) : Int)) (.leaf 0)) (.leaf 1)) (by kernel_rfl) ?_
    refine br_ h ?_ ?_ <;> clear h <;> intro c4 h
    · refine gd_ h ?_; clear h; intro g5 h
      refine sk_leaf ?_
      refine ld_ok (d := 21) (id := 0) (i := (0 + (Int.toNat x2))) (j := 0) (e := 3) (n := 1) E3 (xs := l3) (by kernel_rfl) (by kernel_rfl) (by first | omega | (simp at * <;> omega) | (simp_all <;> omega)) (by exact Nat.le_of_ble_eq_true rfl) ?_
      refine segs [] tabOk mixed 4000 (S := .and (0 ≤ (x1 : Int) ∧ x1 < ((l3.length : Nat) : Int)) (.leaf 0)) (by kernel_rfl) ?_
      refine gd_ h ?_; clear h; intro g6 h
      refine sk_leaf ?_
      refine ld_ok (d := 25) (id := 0) (i := (0 + (Int.toNat x1))) (j := 0) (e := 3) (n := 1) E3 (xs := l3) (by kernel_rfl) (by kernel_rfl) (by first | omega | (simp at * <;> omega) | (simp_all <;> omega)) (by exact Nat.le_of_ble_eq_true rfl) ?_
      refine segs [] tabOk mixed 4000 (S := .and (0 ≤ (x1 : Int) ∧ x1 < ((l3.length : Nat) : Int)) (.leaf 0)) (by kernel_rfl) ?_
      refine gd_ h ?_; clear h; intro g7 h
      refine sk_leaf ?_
      refine st_ok (id := 0) (i := (0 + (Int.toNat x1))) (j := 0) (e := 3) (vs := [.pv (.raw (.int .i64 (l3.getD (0 + (Int.toNat x2)) 0)))]) E3 (xs := l3) (l3.getD (0 + (Int.toNat x2)) 0) (by kernel_rfl) (by kernel_rfl) (by first | omega | (simp at * <;> omega) | (simp_all <;> omega)) (by exact Nat.le_of_ble_eq_true rfl) rfl ?_
      refine segs [] tabOk mixed 4000 (S := .and (0 ≤ (x2 : Int) ∧ x2 < ((l3.length : Nat) : Int)) (.leaf 0)) (by kernel_rfl) ?_
      refine gd_ h ?_; clear h; intro g8 h
      refine sk_leaf ?_
      refine st_ok (id := 0) (i := (0 + (Int.toNat x2))) (j := 0) (e := 3) (vs := [.pv (.raw (.int .i64 (l3.getD (0 + (Int.toNat x1)) 0)))]) E3 (xs := (l3.set (0 + (Int.toNat x1)) (l3.getD (0 + (Int.toNat x2)) 0))) (l3.getD (0 + (Int.toNat x1)) 0) (by kernel_rfl) (by kernel_rfl) (by first | omega | (simp at * <;> omega) | (simp_all <;> omega)) (by exact Nat.le_of_ble_eq_true rfl) rfl ?_
      refine segs [] tabOk mixed 4000 (S := .leaf 0) (by kernel_rfl) ?_
      refine sk_leaf ?_
      refine back_ok (p := p1) (by kernel_rfl) (hp1 (n1, (IntKind.i64.wrap (x1 + 1)), (IntKind.i64.wrap (x2 - 1)), ((l3.set (0 + (Int.toNat x1)) (l3.getD (0 + (Int.toNat x2)) 0)).set (0 + (Int.toNat x2)) (l3.getD (0 + (Int.toNat x1)) 0))) _ h (Nat.lt_succ_self n1) ?_)
      exact sub_ok (ρ := [(0, some 0)]) (l := [0 = 0, l3.length = (((l3.set (0 + (Int.toNat x1)) (l3.getD (0 + (Int.toNat x2)) 0)).set (0 + (Int.toNat x2)) (l3.getD (0 + (Int.toNat x1)) 0)).length), ((IntKind.i64.wrap (x1 + 1)) : Int) = (IntKind.i64.wrap (x1 + 1)), ((IntKind.i64.wrap (x2 - 1)) : Int) = (IntKind.i64.wrap (x2 - 1)), E3.cR ((l3.set (0 + (Int.toNat x1)) (l3.getD (0 + (Int.toNat x2)) 0)).set (0 + (Int.toNat x2)) (l3.getD (0 + (Int.toNat x1)) 0)) = E3.cR ((l3.set (0 + (Int.toNat x1)) (l3.getD (0 + (Int.toNat x2)) 0)).set (0 + (Int.toNat x2)) (l3.getD (0 + (Int.toNat x1)) 0)), AllPv (E3.cR ((l3.set (0 + (Int.toNat x1)) (l3.getD (0 + (Int.toNat x2)) 0)).set (0 + (Int.toNat x2)) (l3.getD (0 + (Int.toNat x1)) 0)))]) (by kernel_rfl) ⟨rfl, (by first | rfl | (simp; done) | omega | (simp <;> omega)), rfl, rfl, rfl, (Elem.cR_pv _ _), trivial⟩
    · refine sk_leaf ?_
      obtain rfl := some_ h
      exact endM_ok [(0, some 0)] Try.results16 (ps := [E3.cR l3 = E3.cR l3, AllPv (E3.cR l3)]) (by kernel_rfl) ⟨rfl, (Elem.cR_pv _ _), trivial⟩ (fun _ => ⟨rfl, by simp only [List.mem_cons, List.not_mem_nil, or_false, forall_eq_or_imp, forall_eq]; exact Elem.cR_bald E3_raw _⟩)

end Go.Proofs.Ytnbjjhhgpcpbgaa
