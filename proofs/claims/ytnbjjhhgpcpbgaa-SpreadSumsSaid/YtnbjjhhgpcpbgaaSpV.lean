/- spread.Wrong does as its model: printed by program. -/
import Derived.Test.YtnbjjhhgpcpbgaaQZST
import Derived.Test.YtnbjjhhgpcpbgaaQZSM
import Derived.Test.YtnbjjhhgpcpbgaaAbYh
import Derived.Test.YtnbjjhhgpcpbgaaAbYc
import Derived.Test.YtnbjjhhgpcpbgaaAbYw
set_option linter.unusedSimpArgs false
set_option linter.unusedVariables false
namespace Go.Proofs.Ytnbjjhhgpcpbgaa.Pre
open Go Go.Ab
theorem mixed : Try.prog.follows .mixedOrders = true := by kernel_rfl
def E3 : Elem Int := { s := 1, cf := fun x j => match j with | _ => .raw (.int .i64 x), z := 0 }
theorem E3_raw : E3.Raw := by
  intro x j
  exact ⟨_, rfl⟩
def E22 : Elem (List Int) := { s := 1, cf := fun x j => match j with | _ => (E3.ro x), z := [] }
attribute [local irreducible] V VS runS Sk.Holds

set_option maxHeartbeats 40000000 in
set_option maxRecDepth 100000 in
theorem spread_Wrong_1_ok (a0 : Int) (r : Bool) (h : spread_Wrong_1 a0 = some r) {al : Bool} : PCalls Try.prog 21 [.pv (.raw (.int .i64 a0))] al (.pv (.raw (.bool r))) [] := by
  unfold spread_Wrong_1 at h
  refine fn_ok tabOk Try.func21 (by kernel_rfl) (by kernel_rfl) Try.ntmps21 (by simp) ?_
  refine segs [] tabOk mixed 4000 (S := .and (((!(decide ((a0 : Int) < 0))) = true → ((!(decide ((a0 : Int) < 0))) = true))) (.and ((decide ((a0 : Int) < 0)) = false → (!(decide ((a0 : Int) < 0))) = true) (.leaf 0))) (by kernel_rfl) ?_
  refine sk_and (fun h => h) ?_
  refine sk_and ((by decide : ∀ y0 : Bool, ((y0 = false) → ((!y0) = true))) (decide ((a0 : Int) < 0))) ?_
  refine sk_leaf ?_
  obtain rfl := some_ h
  exact end_ok [] Try.results21 (ps := [((decide ((a0 : Int) < 0)) || (decide ((a0 : Int) > 1073741824))) = ((decide ((a0 : Int) < 0)) || (decide ((a0 : Int) > 1073741824)))]) (by kernel_rfl) ⟨rfl, trivial⟩ (fun _ => ⟨rfl, by simp⟩)

set_option maxHeartbeats 40000000 in
set_option maxRecDepth 100000 in
theorem slices_IndexFunc_int_spread_Wrong_1_ok (a0 : (List Int)) (r : Int) (h : slices_IndexFunc_int_spread_Wrong_1 a0 = some r) {al : Bool} : PCalls Try.prog 26 [.pv ((E3.ro a0)), .fn 21 []] al (.pv (.raw (.int .i64 r))) [] := by
  unfold slices_IndexFunc_int_spread_Wrong_1 at h
  refine fn_ok tabOk Try.func26 (by kernel_rfl) (by kernel_rfl) Try.ntmps26 (by simp) ?_
  refine segs [] tabOk mixed 4000 (S := .leaf 0) (by kernel_rfl) ?_
  refine sk_leaf ?_
  refine len_ro (by kernel_rfl) 0 (s := 1) (n := a0.length) (c := fun i j => E3.cf (a0.getD i E3.z) j) (by kernel_rfl) ?_; intro hl1_0
  replace h : (fun (x : Nat × Nat) => slices_IndexFunc_int_spread_Wrong_1_l1 a0 x.1 x.2 = some r) (FUEL, 0) := h
  refine loop_ok (by kernel_rfl) (X := Nat × Nat) (fun x => slices_IndexFunc_int_spread_Wrong_1_l1 a0 x.1 x.2 = some r) (fun x => x.1) (fun x => mk 19 [(0, .pv ((E3.ro a0))), (1, .fn 21 []), (4, .pv (.raw (.int .i64 0))), (7, .pv (.raw (.int .i64 ((a0.length : Nat) : Int)))), (8, .pv (.raw (.int .i64 ((x.2 : Nat) : Int))))] []) (FUEL, 0) h ?_ ?_
  · exact sub_ok (ρ := []) (l := [a0.length = a0.length, ∀ i, i < a0.length → ∀ j, j < 1 → E3.cf (a0.getD i E3.z) j = E3.cf (a0.getD i E3.z) j, (0 : Int) = 0, (((a0.length : Nat) : Int) : Int) = ((a0.length : Nat) : Int), (0 : Int) = ((0 : Nat) : Int)]) (by kernel_rfl) ⟨rfl, fun _ _ _ _ => rfl, rfl, rfl, (by first | rfl | simp), trivial⟩
  · clear h; rintro ⟨n1, k1⟩ h p1 hp1
    obtain _ | n1 := n1
    · cases (show (none : Option (Int)) = some r from h)
    have h : slices_IndexFunc_int_spread_Wrong_1_l1 a0 (n1 + 1) k1 = some r := h
    unfold slices_IndexFunc_int_spread_Wrong_1_l1 at h
    refine segs [] tabOk mixed 4000 (S := .br (decide ((((k1 : Nat) : Int) : Int) < ((a0.length : Nat) : Int))) (.and (0 ≤ (((k1 : Nat) : Int) : Int) ∧ ((k1 : Nat) : Int) < ((a0.length : Nat) : Int)) (.leaf 0)) (.leaf 1)) (by kernel_rfl) ?_
    refine br_ h ?_ ?_ <;> clear h <;> intro c2 h
    · refine sk_and ⟨Int.natCast_nonneg _, of_decide_eq_true c2⟩ ?_
      refine sk_leaf ?_
      obtain ⟨r4, e5, h⟩ := bd_ h
      refine call_ok (d := some 16) (fn := 21) (ax := [.pv (.raw (.int .i64 (a0.getD k1 0)))]) (args := [.pv (.raw (.int .i64 (a0.getD k1 0)))]) (ps := [((a0.getD k1 0) : Int) = (a0.getD k1 0)]) (hb' := []) (by kernel_rfl) (spread_Wrong_1_ok _ _ e5 (al := true)) (by kernel_rfl) ⟨rfl, trivial⟩ (fun _ => (by kernel_rfl)) (by simp) rfl (by kernel_rfl) ?_
      refine segs [] tabOk mixed 4000 (S := .br r4 (.leaf 0) (.leaf 1)) (by kernel_rfl) ?_
      refine br_ h ?_ ?_ <;> clear h <;> intro c6 h
      · refine sk_leaf ?_
        obtain rfl := some_ h
        exact end_ok [] Try.results26 (ps := [(((k1 : Nat) : Int) : Int) = ((k1 : Nat) : Int)]) (by kernel_rfl) ⟨rfl, trivial⟩ (fun _ => ⟨rfl, by simp⟩)
      · refine sk_leaf ?_
        refine back_ok (p := p1) (by kernel_rfl) (hp1 (n1, k1 + 1) _ h (Nat.lt_succ_self n1) ?_)
        exact sub_ok (ρ := []) (l := [a0.length = a0.length, ∀ i, i < a0.length → ∀ j, j < 1 → E3.cf (a0.getD i E3.z) j = E3.cf (a0.getD i E3.z) j, (0 : Int) = 0, (((a0.length : Nat) : Int) : Int) = ((a0.length : Nat) : Int), ((IntKind.i64.wrap (((k1 : Nat) : Int) + 1)) : Int) = (((k1 + 1) : Nat) : Int)]) (by kernel_rfl) ⟨rfl, fun _ _ _ _ => rfl, rfl, rfl, (wrap_nat (Int.ofNat_lt.1 (of_decide_eq_true c2)) (by omega)), trivial⟩
    · refine sk_leaf ?_
      obtain rfl := some_ h
      exact end_ok [] Try.results26 (ps := [((-1) : Int) = (-1)]) (by kernel_rfl) ⟨rfl, trivial⟩ (fun _ => ⟨rfl, by simp⟩)

set_option maxHeartbeats 40000000 in
set_option maxRecDepth 100000 in
theorem slices_ContainsFunc_int_spread_Wrong_1_ok (a0 : (List Int)) (r : Bool) (h : slices_ContainsFunc_int_spread_Wrong_1 a0 = some r) {al : Bool} : PCalls Try.prog 20 [.pv ((E3.ro a0)), .fn 21 []] al (.pv (.raw (.bool r))) [] := by
  unfold slices_ContainsFunc_int_spread_Wrong_1 at h
  refine fn_ok tabOk Try.func20 (by kernel_rfl) (by kernel_rfl) Try.ntmps20 (by simp) ?_
  refine segs [] tabOk mixed 4000 (S := .leaf 0) (by kernel_rfl) ?_
  refine sk_leaf ?_
  obtain ⟨r1, e2, h⟩ := bd_ h
  refine call_ok (d := some 7) (fn := 26) (ax := [.pv ((E3.ro a0)), .fn 21 []]) (args := [.pv ((E3.ro a0)), .fn 21 []]) (ps := [a0.length = a0.length, ∀ i, i < a0.length → ∀ j, j < 1 → E3.cf (a0.getD i E3.z) j = E3.cf (a0.getD i E3.z) j]) (hb' := []) (by kernel_rfl) (slices_IndexFunc_int_spread_Wrong_1_ok _ _ e2 (al := false)) (by kernel_rfl) ⟨rfl, fun _ _ _ _ => rfl, trivial⟩ (fun hx => by cases hx) (by simp) rfl (by kernel_rfl) ?_
  refine segs [] tabOk mixed 4000 (S := .leaf 0) (by kernel_rfl) ?_
  refine sk_leaf ?_
  obtain rfl := some_ h
  exact end_ok [] Try.results20 (ps := [(decide ((r1 : Int) ≥ 0)) = (decide ((r1 : Int) ≥ 0))]) (by kernel_rfl) ⟨rfl, trivial⟩ (fun _ => ⟨rfl, by simp⟩)

set_option maxHeartbeats 40000000 in
set_option maxRecDepth 100000 in
theorem spread_Wrong_ok (a0 : (List Int)) (a1 : Int) (r : Int) (h : spread_Wrong a0 a1 = some r) {al : Bool} : PCalls Try.prog 10 [.pv ((E3.ro a0)), .pv (.raw (.int .i64 a1))] al (.pv (.raw (.int .i64 r))) [] := by
  unfold spread_Wrong at h
  refine fn_ok tabOk Try.func10 (by kernel_rfl) (by kernel_rfl) Try.ntmps10 (by simp) ?_
  refine segs [] tabOk mixed 4000 (S := .and (((!(decide ((a1 : Int) < 1))) = true → ((!(decide ((a1 : Int) < 1))) = true))) (.and ((decide ((a1 : Int) < 1)) = false → (!(decide ((a1 : Int) < 1))) = true) (.and (((!((decide ((a1 : Int) < 1)) || (decide ((a1 : Int) > 8)))) = true → ((!((decide ((a1 : Int) < 1)) || (decide ((a1 : Int) > 8)))) = true))) (.and (((!((decide ((a1 : Int) < 1)) || (decide ((a1 : Int) > 8)))) = true → ((!((decide ((a1 : Int) < 1)) || (decide ((a1 : Int) > 8)))) = true))) (.and (((decide ((a1 : Int) < 1)) || (decide ((a1 : Int) > 8))) = false → (!((decide ((a1 : Int) < 1)) || (decide ((a1 : Int) > 8)))) = true) (.leaf 0)))))) (by kernel_rfl) ?_
  refine sk_and (fun h => h) ?_
  refine sk_and ((by decide : ∀ y0 : Bool, ((y0 = false) → ((!y0) = true))) (decide ((a1 : Int) < 1))) ?_
  refine sk_and (fun h => h) ?_
  refine sk_and (fun h => h) ?_
  refine sk_and ((by decide : ∀ y0 : Bool, ((y0 = false) → ((!y0) = true))) ((decide ((a1 : Int) < 1)) || (decide ((a1 : Int) > 8)))) ?_
  refine sk_leaf ?_
  obtain ⟨r6, e7, h⟩ := bd_ h
  refine callG_ok (d := some 18) (fn := 20) (ax := [.pv ((E3.ro a0)), .fn 21 []]) (args := [.pv ((E3.ro a0)), .fn 21 []]) (g := (!(((decide ((a1 : Int) < 1)) || (decide ((a1 : Int) > 8))) || (decide ((((a0.length : Nat) : Int) : Int) > 400))))) (ws := [(!(((decide ((a1 : Int) < 1)) || (decide ((a1 : Int) > 8))) || (decide ((((a0.length : Nat) : Int) : Int) > 400)))) = true]) (ps := [a0.length = a0.length, ∀ i, i < a0.length → ∀ j, j < 1 → E3.cf (a0.getD i E3.z) j = E3.cf (a0.getD i E3.z) j]) (by kernel_rfl) (fun hg => ⟨((by decide : ∀ y0 : Bool, ((y0 = true) → (y0 = true))) (!(((decide ((a1 : Int) < 1)) || (decide ((a1 : Int) > 8))) || (decide ((((a0.length : Nat) : Int) : Int) > 400))))) hg, trivial⟩) (fun hg => slices_ContainsFunc_int_spread_Wrong_1_ok _ _ (by rw [hg] at e7; exact e7) (al := false)) (by kernel_rfl) (fun hg => ⟨rfl, fun _ _ _ _ => rfl, trivial⟩) (fun hx => by cases hx) ?_
  refine segs [] tabOk mixed 4000 (S := .and ((((decide ((a1 : Int) < 1)) || (decide ((a1 : Int) > 8))) || (decide ((((a0.length : Nat) : Int) : Int) > 400))) = false → (!(((decide ((a1 : Int) < 1)) || (decide ((a1 : Int) > 8))) || (decide ((((a0.length : Nat) : Int) : Int) > 400)))) = true) (.br ((((decide ((a1 : Int) < 1)) || (decide ((a1 : Int) > 8))) || (decide ((((a0.length : Nat) : Int) : Int) > 400))) || r6) (.leaf 0) (.leaf 1))) (by kernel_rfl) ?_
  refine sk_and ((by decide : ∀ y0 : Bool, ((y0 = false) → ((!y0) = true))) (((decide ((a1 : Int) < 1)) || (decide ((a1 : Int) > 8))) || (decide ((((a0.length : Nat) : Int) : Int) > 400)))) ?_
  refine br_ h ?_ ?_ <;> clear h <;> intro c9 h
  · refine sk_leaf ?_
    obtain rfl := some_ h
    exact end_ok [] Try.results10 (ps := [(2 : Int) = 2]) (by kernel_rfl) ⟨rfl, trivial⟩ (fun _ => ⟨rfl, by simp⟩)
  · refine sk_leaf ?_
    obtain rfl := some_ h
    exact end_ok [] Try.results10 (ps := [(0 : Int) = 0]) (by kernel_rfl) ⟨rfl, trivial⟩ (fun _ => ⟨rfl, by simp⟩)

end Go.Proofs.Ytnbjjhhgpcpbgaa.Pre
