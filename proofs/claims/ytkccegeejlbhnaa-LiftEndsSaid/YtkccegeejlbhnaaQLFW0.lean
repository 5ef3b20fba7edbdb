/- The functions do as their models: printed by program. -/
import Derived.Test.YtkccegeejlbhnaaQLFT
import Derived.Test.YtkccegeejlbhnaaQLFM
import Derived.Test.YtkccegeejlbhnaaAbYs
import Derived.Test.YtkccegeejlbhnaaAbYc
import Derived.Test.YtkccegeejlbhnaaAbYt
import Derived.Test.YtkccegeejlbhnaaAbYe
import Derived.Test.YtkccegeejlbhnaaAbYv
import Derived.Test.YtkccegeejlbhnaaQLFV
import Derived.Test.YtkccegeejlbhnaaAbYv
import Derived.Test.YtkccegeejlbhnaaQLFU
import Derived.Test.YtkccegeejlbhnaaQLFF
import Derived.Test.YtkccegeejlbhnaaQLFS
set_option linter.unusedSimpArgs false
set_option linter.unusedVariables false
namespace Go.Proofs.Ytkccegeejlbhnaa
open Go Go.Ab
theorem mixed : Try.prog.follows .mixedOrders = true := by kernel_rfl
def E3 : Elem Int := { s := 1, cf := fun x j => match j with | _ => .raw (.int .i64 x), z := 0 }
theorem E3_raw : E3.Raw := by
  intro x j
  exact ⟨_, rfl⟩
def E38 : Elem Api_Span := { s := 2, cf := fun x j => match j with | 0 => .raw (.int .i64 x.From) | _ => .raw (.int .i64 x.To), z := (⟨0, 0⟩ : Api_Span) }
theorem E38_raw : E38.Raw := by
  intro x j
  match j with
  | 0 => exact ⟨_, rfl⟩
  | n + 1 => exact ⟨_, rfl⟩
def E22 : Elem (List Int) := { s := 1, cf := fun x j => match j with | _ => (E3.ro x), z := [] }
def E33 : Elem (List Api_Span) := { s := 1, cf := fun x j => match j with | _ => (E38.ro x), z := [] }
attribute [local irreducible] V VS runS Sk.Holds

set_option maxHeartbeats 40000000 in
set_option maxRecDepth 100000 in
theorem lift_Wrong_1_ok (a0 : Int) (r : Bool) (h : lift_Wrong_1 a0 = some r) {al : Bool} : PCalls Try.prog 46 [.pv (.raw (.int .i64 a0))] al (.pv (.raw (.bool r))) [] := by
  unfold lift_Wrong_1 at h
  refine fn_ok tabOk Try.func46 (by as_aux_lemma => kernel_rfl) (by as_aux_lemma => kernel_rfl) Try.ntmps46 (by simp) ?_
  refine segs [] tabOk mixed 4000 (S := .and (((!(decide ((a0 : Int) < 0))) = true → ((!(decide ((a0 : Int) < 0))) = true))) (.and ((decide ((a0 : Int) < 0)) = false → (!(decide ((a0 : Int) < 0))) = true) (.leaf 0))) (by as_aux_lemma => kernel_rfl) ?_
  refine sk_and ((by decide : ∀ y0 : Bool, ((y0 = true) → (y0 = true))) (!(decide ((a0 : Int) < 0)))) ?_
  refine sk_and ((by decide : ∀ y0 : Bool, ((y0 = false) → ((!y0) = true))) (decide ((a0 : Int) < 0))) ?_
  refine sk_leaf ?_
  obtain rfl := some_ h
  exact end_ok [] Try.results46 (ps := [((decide ((a0 : Int) < 0)) || (decide ((a0 : Int) > 1099511627776))) = ((decide ((a0 : Int) < 0)) || (decide ((a0 : Int) > 1099511627776)))]) (by as_aux_lemma => kernel_rfl) ⟨rfl, trivial⟩ (fun _ => ⟨rfl, by simp⟩)

set_option maxHeartbeats 40000000 in
set_option maxRecDepth 100000 in
theorem slices_IndexFunc_int_lift_Wrong_1_ok (a0 : (List Int)) (r : Int) (h : slices_IndexFunc_int_lift_Wrong_1 a0 = some r) {al : Bool} : PCalls Try.prog 60 [.pv ((E3.ro a0)), .fn 46 []] al (.pv (.raw (.int .i64 r))) [] := by
  unfold slices_IndexFunc_int_lift_Wrong_1 at h
  refine fn_ok tabOk Try.func60 (by as_aux_lemma => kernel_rfl) (by as_aux_lemma => kernel_rfl) Try.ntmps60 (by simp) ?_
  refine segs [] tabOk mixed 4000 (S := .leaf 0) (by as_aux_lemma => kernel_rfl) ?_
  refine sk_leaf ?_
  refine len_ro (by as_aux_lemma => kernel_rfl) 0 (s := 1) (n := a0.length) (c := fun i j => E3.cf (a0.getD i E3.z) j) (by as_aux_lemma => kernel_rfl) ?_; intro hl1_0
  replace h : (fun (x : Nat × Nat) => slices_IndexFunc_int_lift_Wrong_1_l1 a0 x.1 x.2 = some r) (FUEL, 0) := h
  refine loop_ok (by as_aux_lemma => kernel_rfl) (X := Nat × Nat) (fun x => slices_IndexFunc_int_lift_Wrong_1_l1 a0 x.1 x.2 = some r) (fun x => x.1) (fun x => mk 19 [(0, .pv ((E3.ro a0))), (1, .fn 46 []), (4, .pv (.raw (.int .i64 0))), (7, .pv (.raw (.int .i64 ((a0.length : Nat) : Int)))), (8, .pv (.raw (.int .i64 ((x.2 : Nat) : Int))))] []) (FUEL, 0) h ?_ ?_
  · exact sub_ok (ρ := []) (l := [a0.length = a0.length, ∀ i, i < a0.length → ∀ j, j < 1 → E3.cf (a0.getD i E3.z) j = E3.cf (a0.getD i E3.z) j, (0 : Int) = 0, (((a0.length : Nat) : Int) : Int) = ((a0.length : Nat) : Int), (0 : Int) = ((0 : Nat) : Int)]) (by as_aux_lemma => kernel_rfl) ⟨rfl, fun _ _ _ _ => rfl, rfl, rfl, (by first | rfl | simp), trivial⟩
  · clear h; rintro ⟨n1, k1⟩ h p1 hp1
    obtain _ | n1 := n1
    · cases (show (none : Option (Int)) = some r from h)
    have h : slices_IndexFunc_int_lift_Wrong_1_l1 a0 (n1 + 1) k1 = some r := h
    unfold slices_IndexFunc_int_lift_Wrong_1_l1 at h
    refine segs [] tabOk mixed 4000 (S := .br (decide ((((k1 : Nat) : Int) : Int) < ((a0.length : Nat) : Int))) (.and (0 ≤ (((k1 : Nat) : Int) : Int) ∧ ((k1 : Nat) : Int) < ((a0.length : Nat) : Int)) (.leaf 0)) (.leaf 1)) (by as_aux_lemma => kernel_rfl) ?_
    refine br_ h ?_ ?_ <;> clear h <;> intro c2 h
    · refine sk_and ⟨Int.natCast_nonneg _, of_decide_eq_true c2⟩ ?_
      refine sk_leaf ?_
      obtain ⟨r4, e5, h⟩ := bd_ h
      refine call_ok (d := some 16) (fn := 46) (ax := [.pv (.raw (.int .i64 (a0.getD k1 0)))]) (args := [.pv (.raw (.int .i64 (a0.getD k1 0)))]) (ps := [((a0.getD k1 0) : Int) = (a0.getD k1 0)]) (hb' := []) (by as_aux_lemma => kernel_rfl) (lift_Wrong_1_ok _ _ e5 (al := true)) (by as_aux_lemma => kernel_rfl) ⟨rfl, trivial⟩ (fun _ => (by as_aux_lemma => kernel_rfl)) (by simp) rfl (by as_aux_lemma => kernel_rfl) ?_
      refine segs [] tabOk mixed 4000 (S := .br r4 (.leaf 0) (.leaf 1)) (by as_aux_lemma => kernel_rfl) ?_
      refine br_ h ?_ ?_ <;> clear h <;> intro c6 h
      · refine sk_leaf ?_
        obtain rfl := some_ h
        exact end_ok [] Try.results60 (ps := [(((k1 : Nat) : Int) : Int) = ((k1 : Nat) : Int)]) (by as_aux_lemma => kernel_rfl) ⟨rfl, trivial⟩ (fun _ => ⟨rfl, by simp⟩)
      · refine sk_leaf ?_
        refine back_ok (p := p1) (by as_aux_lemma => kernel_rfl) (hp1 (n1, k1 + 1) _ h (Nat.lt_succ_self n1) ?_)
        exact sub_ok (ρ := []) (l := [a0.length = a0.length, ∀ i, i < a0.length → ∀ j, j < 1 → E3.cf (a0.getD i E3.z) j = E3.cf (a0.getD i E3.z) j, (0 : Int) = 0, (((a0.length : Nat) : Int) : Int) = ((a0.length : Nat) : Int), ((IntKind.i64.wrap (((k1 : Nat) : Int) + 1)) : Int) = (((k1 + 1) : Nat) : Int)]) (by as_aux_lemma => kernel_rfl) ⟨rfl, fun _ _ _ _ => rfl, rfl, rfl, (wrap_nat (Int.ofNat_lt.1 (of_decide_eq_true c2)) (by omega)), trivial⟩
    · refine sk_leaf ?_
      obtain rfl := some_ h
      exact end_ok [] Try.results60 (ps := [((-1) : Int) = (-1)]) (by as_aux_lemma => kernel_rfl) ⟨rfl, trivial⟩ (fun _ => ⟨rfl, by simp⟩)

set_option maxHeartbeats 40000000 in
set_option maxRecDepth 100000 in
theorem slices_ContainsFunc_int_lift_Wrong_1_ok (a0 : (List Int)) (r : Bool) (h : slices_ContainsFunc_int_lift_Wrong_1 a0 = some r) {al : Bool} : PCalls Try.prog 45 [.pv ((E3.ro a0)), .fn 46 []] al (.pv (.raw (.bool r))) [] := by
  unfold slices_ContainsFunc_int_lift_Wrong_1 at h
  refine fn_ok tabOk Try.func45 (by as_aux_lemma => kernel_rfl) (by as_aux_lemma => kernel_rfl) Try.ntmps45 (by simp) ?_
  refine segs [] tabOk mixed 4000 (S := .leaf 0) (by as_aux_lemma => kernel_rfl) ?_
  refine sk_leaf ?_
  obtain ⟨r1, e2, h⟩ := bd_ h
  refine call_ok (d := some 7) (fn := 60) (ax := [.pv ((E3.ro a0)), .fn 46 []]) (args := [.pv ((E3.ro a0)), .fn 46 []]) (ps := [a0.length = a0.length, ∀ i, i < a0.length → ∀ j, j < 1 → E3.cf (a0.getD i E3.z) j = E3.cf (a0.getD i E3.z) j]) (hb' := []) (by as_aux_lemma => kernel_rfl) (slices_IndexFunc_int_lift_Wrong_1_ok _ _ e2 (al := false)) (by as_aux_lemma => kernel_rfl) ⟨rfl, fun _ _ _ _ => rfl, trivial⟩ (fun hx => by cases hx) (by simp) rfl (by as_aux_lemma => kernel_rfl) ?_
  refine segs [] tabOk mixed 4000 (S := .leaf 0) (by as_aux_lemma => kernel_rfl) ?_
  refine sk_leaf ?_
  obtain rfl := some_ h
  exact end_ok [] Try.results45 (ps := [(decide ((r1 : Int) ≥ 0)) = (decide ((r1 : Int) ≥ 0))]) (by as_aux_lemma => kernel_rfl) ⟨rfl, trivial⟩ (fun _ => ⟨rfl, by simp⟩)

set_option maxHeartbeats 40000000 in
set_option maxRecDepth 100000 in
theorem lift_Wrong_ok (a0 : (List Int)) (r : Int) (h : lift_Wrong a0 = some r) {al : Bool} : PCalls Try.prog 35 [.pv ((E3.ro a0))] al (.pv (.raw (.int .i64 r))) [] := by
  unfold lift_Wrong at h
  refine fn_ok tabOk Try.func35 (by as_aux_lemma => kernel_rfl) (by as_aux_lemma => kernel_rfl) Try.ntmps35 (by simp) ?_
  refine segs [] tabOk mixed 4000 (S := .leaf 0) (by as_aux_lemma => kernel_rfl) ?_
  refine sk_leaf ?_
  obtain ⟨r1, e2, h⟩ := bd_ h
  refine callG_ok (d := some 8) (fn := 45) (ax := [.pv ((E3.ro a0)), .fn 46 []]) (args := [.pv ((E3.ro a0)), .fn 46 []]) (g := (!(decide ((((a0.length : Nat) : Int) : Int) > 400)))) (ws := [(!(decide ((((a0.length : Nat) : Int) : Int) > 400))) = true]) (ps := [a0.length = a0.length, ∀ i, i < a0.length → ∀ j, j < 1 → E3.cf (a0.getD i E3.z) j = E3.cf (a0.getD i E3.z) j]) (by as_aux_lemma => kernel_rfl) (fun hg => ⟨((by decide : ∀ y0 : Bool, ((y0 = true) → (y0 = true))) (!(decide ((((a0.length : Nat) : Int) : Int) > 400)))) hg, trivial⟩) (fun hg => slices_ContainsFunc_int_lift_Wrong_1_ok _ _ (by rw [hg] at e2; exact e2) (al := false)) (by as_aux_lemma => kernel_rfl) (fun hg => ⟨rfl, fun _ _ _ _ => rfl, trivial⟩) (fun hx => by cases hx) ?_
  refine segs [] tabOk mixed 4000 (S := .and ((decide ((((a0.length : Nat) : Int) : Int) > 400)) = false → (!(decide ((((a0.length : Nat) : Int) : Int) > 400))) = true) (.br ((decide ((((a0.length : Nat) : Int) : Int) > 400)) || r1) (.leaf 0) (.leaf 1))) (by as_aux_lemma => kernel_rfl) ?_
  refine sk_and ((by decide : ∀ y0 : Bool, ((y0 = false) → ((!y0) = true))) (decide ((((a0.length : Nat) : Int) : Int) > 400))) ?_
  refine br_ h ?_ ?_ <;> clear h <;> intro c4 h
  · refine sk_leaf ?_
    obtain rfl := some_ h
    exact end_ok [] Try.results35 (ps := [(2 : Int) = 2]) (by as_aux_lemma => kernel_rfl) ⟨rfl, trivial⟩ (fun _ => ⟨rfl, by simp⟩)
  · refine sk_leaf ?_
    obtain rfl := some_ h
    exact end_ok [] Try.results35 (ps := [(0 : Int) = 0]) (by as_aux_lemma => kernel_rfl) ⟨rfl, trivial⟩ (fun _ => ⟨rfl, by simp⟩)

set_option maxHeartbeats 40000000 in
set_option maxRecDepth 100000 in
theorem lift_Way_ok (a0 : Int) (a1 : (List Int)) (r : Int × Int) (h : lift_Way a0 a1 = some r) {al : Bool} : PCalls Try.prog 22 [.pv (.raw (.int .i64 a0)), .pv ((E3.ro a1))] al (.tup [.pv (.raw (.int .i64 r.1)), .pv (.raw (.int .i64 r.2))]) [] := by
  unfold lift_Way at h
  refine fn_ok tabOk Try.func22 (by as_aux_lemma => kernel_rfl) (by as_aux_lemma => kernel_rfl) Try.ntmps22 (by simp) ?_
  refine segs [] tabOk mixed 4000 (S := .leaf 0) (by as_aux_lemma => kernel_rfl) ?_
  refine sk_leaf ?_
  obtain ⟨r1, e2, h⟩ := bd_ h
  refine call_ok (d := some 10) (fn := 35) (ax := [.pv ((E3.ro a1))]) (args := [.pv ((E3.ro a1))]) (ps := [a1.length = a1.length, ∀ i, i < a1.length → ∀ j, j < 1 → E3.cf (a1.getD i E3.z) j = E3.cf (a1.getD i E3.z) j]) (hb' := []) (by as_aux_lemma => kernel_rfl) (lift_Wrong_ok _ _ e2 (al := true)) (by as_aux_lemma => kernel_rfl) ⟨rfl, fun _ _ _ _ => rfl, trivial⟩ (fun _ => (by as_aux_lemma => kernel_rfl)) (by simp) rfl (by as_aux_lemma => kernel_rfl) ?_
  refine segs [] tabOk mixed 4000 (S := .leaf 0) (by as_aux_lemma => kernel_rfl) ?_
  refine sk_leaf ?_
  refine bsG_ok (d := 14) (e := 3) (s := 1) (n := 1) (g := (!((r1 : Int) != 0))) (ws := [(!((r1 : Int) != 0)) = true]) (cs := [.pv (.raw (.int .i64 a0))]) E3 [a0] (by as_aux_lemma => kernel_rfl) (fun hg => ⟨((by decide : ∀ y0 : Bool, ((y0 = true) → (y0 = true))) (!((r1 : Int) != 0))) hg, trivial⟩) rfl rfl rfl (by as_aux_lemma => kernel_rfl) ?_
  refine segs [] tabOk mixed 4000 (S := .leaf 0) (by as_aux_lemma => kernel_rfl) ?_
  refine sk_leaf ?_
  obtain ⟨r3, e4, h⟩ := bd_ h
  refine callG_ok (d := some 15) (fn := 35) (ax := [.pv ((E3.ro [a0]))]) (args := [.pv ((E3.ro [a0]))]) (g := (!((r1 : Int) != 0))) (ws := [(!((r1 : Int) != 0)) = true]) (ps := [[a0].length = [a0].length, ∀ i, i < [a0].length → ∀ j, j < 1 → E3.cf ([a0].getD i E3.z) j = E3.cf ([a0].getD i E3.z) j]) (by as_aux_lemma => kernel_rfl) (fun hg => ⟨((by decide : ∀ y0 : Bool, ((y0 = true) → (y0 = true))) (!((r1 : Int) != 0))) hg, trivial⟩) (fun hg => lift_Wrong_ok _ _ (by rw [hg] at e4; exact e4) (al := true)) (by as_aux_lemma => kernel_rfl) (fun hg => ⟨rfl, fun _ _ _ _ => rfl, trivial⟩) (fun _ => (by as_aux_lemma => kernel_rfl)) ?_
  refine segs [] tabOk mixed 4000 (S := .and (((!((r1 : Int) != 0)) = true → ((!((r1 : Int) != 0)) = true))) (.and (((r1 : Int) != 0) = false → (!((r1 : Int) != 0)) = true) (.br (((r1 : Int) != 0) || ((r3 : Int) != 0)) (.leaf 0) (.leaf 1)))) (by as_aux_lemma => kernel_rfl) ?_
  refine sk_and ((by decide : ∀ y0 : Bool, ((y0 = true) → (y0 = true))) (!((r1 : Int) != 0))) ?_
  refine sk_and ((by decide : ∀ y0 : Bool, ((y0 = false) → ((!y0) = true))) ((r1 : Int) != 0)) ?_
  refine br_ h ?_ ?_ <;> clear h <;> intro c7 h
  · refine sk_leaf ?_
    obtain rfl := some_ h
    exact end_ok [] Try.results22 (ps := [(0 : Int) = 0, (2 : Int) = 2]) (by as_aux_lemma => kernel_rfl) ⟨rfl, rfl, trivial⟩ (fun _ => ⟨rfl, by simp⟩)
  · refine sk_leaf ?_
    refine len_ro (by as_aux_lemma => kernel_rfl) 18 (s := 1) (n := a1.length) (c := fun i j => E3.cf (a1.getD i E3.z) j) (by as_aux_lemma => kernel_rfl) ?_; intro hl1_0
    replace h : (fun (x : Nat × Int × Int × Nat) => lift_Way_l1 a0 a1 x.1 x.2.1 x.2.2.1 x.2.2.2 = some r) (FUEL, a0, 0, 0) := h
    refine loop_ok (by as_aux_lemma => kernel_rfl) (X := Nat × Int × Int × Nat) (fun x => lift_Way_l1 a0 a1 x.1 x.2.1 x.2.2.1 x.2.2.2 = some r) (fun x => x.1) (fun x => mk 36 [(0, .pv (.raw (.int .i64 x.2.1))), (4, .pv (.raw (.int .i64 0))), (5, .pv (.raw (.int .i64 0))), (6, .pv (.raw (.int .i64 x.2.2.1))), (18, .pv ((E3.ro a1))), (19, .pv (.raw (.int .i64 ((a1.length : Nat) : Int)))), (20, .pv (.raw (.int .i64 ((x.2.2.2 : Nat) : Int))))] []) (FUEL, a0, 0, 0) h ?_ ?_
    · exact sub_ok (ρ := []) (l := [(a0 : Int) = a0, (0 : Int) = 0, (0 : Int) = 0, (0 : Int) = 0, a1.length = a1.length, ∀ i, i < a1.length → ∀ j, j < 1 → E3.cf (a1.getD i E3.z) j = E3.cf (a1.getD i E3.z) j, (((a1.length : Nat) : Int) : Int) = ((a1.length : Nat) : Int), (0 : Int) = ((0 : Nat) : Int)]) (by as_aux_lemma => kernel_rfl) ⟨rfl, rfl, rfl, rfl, rfl, fun _ _ _ _ => rfl, rfl, (by first | rfl | simp), trivial⟩
    · clear h; rintro ⟨n1, x8, x9, k10⟩ h p1 hp1
      obtain _ | n1 := n1
      · cases (show (none : Option (Int × Int)) = some r from h)
      have h : lift_Way_l1 a0 a1 (n1 + 1) x8 x9 k10 = some r := h
      unfold lift_Way_l1 at h
      refine segs [] tabOk mixed 4000 (S := .br (decide ((((k10 : Nat) : Int) : Int) < ((a1.length : Nat) : Int))) (.and (0 ≤ (((k10 : Nat) : Int) : Int) ∧ ((k10 : Nat) : Int) < ((a1.length : Nat) : Int)) (.leaf 0)) (.leaf 1)) (by as_aux_lemma => kernel_rfl) ?_
      refine br_ h ?_ ?_ <;> clear h <;> intro c11 h
      · refine sk_and ⟨Int.natCast_nonneg _, of_decide_eq_true c11⟩ ?_
        refine sk_leaf ?_
        refine back_ok (p := p1) (by as_aux_lemma => kernel_rfl) (hp1 (n1, (a1.getD k10 0), (IntKind.i64.wrap (x9 + (if ((IntKind.i64.wrap (x8 - (a1.getD k10 0))) : Int) > (IntKind.i64.wrap ((a1.getD k10 0) - x8)) then (IntKind.i64.wrap (x8 - (a1.getD k10 0))) else (IntKind.i64.wrap ((a1.getD k10 0) - x8))))), k10 + 1) _ h (Nat.lt_succ_self n1) ?_)
        exact sub_ok (ρ := []) (l := [((a1.getD k10 0) : Int) = (a1.getD k10 0), (0 : Int) = 0, (0 : Int) = 0, ((IntKind.i64.wrap (x9 + (if ((IntKind.i64.wrap (x8 - (a1.getD k10 0))) : Int) > (IntKind.i64.wrap ((a1.getD k10 0) - x8)) then (IntKind.i64.wrap (x8 - (a1.getD k10 0))) else (IntKind.i64.wrap ((a1.getD k10 0) - x8))))) : Int) = (IntKind.i64.wrap (x9 + (if ((IntKind.i64.wrap (x8 - (a1.getD k10 0))) : Int) > (IntKind.i64.wrap ((a1.getD k10 0) - x8)) then (IntKind.i64.wrap (x8 - (a1.getD k10 0))) else (IntKind.i64.wrap ((a1.getD k10 0) - x8))))), a1.length = a1.length, ∀ i, i < a1.length → ∀ j, j < 1 → E3.cf (a1.getD i E3.z) j = E3.cf (a1.getD i E3.z) j, (((a1.length : Nat) : Int) : Int) = ((a1.length : Nat) : Int), ((IntKind.i64.wrap (((k10 : Nat) : Int) + 1)) : Int) = (((k10 + 1) : Nat) : Int)]) (by as_aux_lemma => kernel_rfl) ⟨rfl, rfl, rfl, rfl, rfl, fun _ _ _ _ => rfl, rfl, (wrap_nat (Int.ofNat_lt.1 (of_decide_eq_true c11)) (by omega)), trivial⟩
      · refine sk_leaf ?_
        obtain rfl := some_ h
        exact end_ok [] Try.results22 (ps := [(x9 : Int) = x9, (0 : Int) = 0]) (by as_aux_lemma => kernel_rfl) ⟨rfl, rfl, trivial⟩ (fun _ => ⟨rfl, by simp⟩)

theorem slices_Values_int_ok (a0 : List Int) (r : Unit) (h : slices_Values_int a0 = some r) : PCalls Try.prog 11 [.pv (E3.ro a0)] true (.fn 30 [.roat 1 (fun j => E22.cf a0 j)]) [] :=
  values_pcalls ⟨_, Try.func11, by kernel_rfl, by kernel_rfl⟩ rfl (fun a n cap w => Try.values_calls a n cap w)

theorem slices_Sorted_int_ok (a0 r : List Int) (h : slices_Sorted_int a0 = some r) {al : Bool} : PCalls Try.prog 10 [.fn 30 [.roat 1 (fun j => E22.cf a0 j)]] al (.row 0 1 0 r.length) [.row 3 1 (E3.cR r)] := by
  unfold slices_Sorted_int at h
  obtain ⟨g, h⟩ := if_ h
  obtain rfl := some_ h
  exact sortv_pcalls (e := 3) (xs := a0) ⟨_, Try.func10, by kernel_rfl, by kernel_rfl⟩ rfl (fun _ => rfl) rfl (by simp) fun gg o b off cap a w _ hgl hbl ha hp hc => Try.sorted_calls gg o b off cap a0 g w hgl hbl a ha hp hc

set_option maxHeartbeats 40000000 in
set_option maxRecDepth 100000 in
theorem cmp_isNaN_int_ok (a0 : Int) (r : Bool) (h : cmp_isNaN_int a0 = some r) {al : Bool} : PCalls Try.prog 47 [.pv (.raw (.int .i64 a0))] al (.pv (.raw (.bool r))) [] := by
  unfold cmp_isNaN_int at h
  refine fn_ok tabOk Try.func47 (by as_aux_lemma => kernel_rfl) (by as_aux_lemma => kernel_rfl) Try.ntmps47 (by simp) ?_
  refine segs [] tabOk mixed 4000 (S := .leaf 0) (by as_aux_lemma => kernel_rfl) ?_
  refine sk_leaf ?_
  obtain rfl := some_ h
  exact end_ok [] Try.results47 (ps := [((a0 : Int) != a0) = ((a0 : Int) != a0)]) (by as_aux_lemma => kernel_rfl) ⟨rfl, trivial⟩ (fun _ => ⟨rfl, by simp⟩)

set_option maxHeartbeats 40000000 in
set_option maxRecDepth 100000 in
theorem cmp_Less_int_ok (a0 : Int) (a1 : Int) (r : Bool) (h : cmp_Less_int a0 a1 = some r) {al : Bool} : PCalls Try.prog 36 [.pv (.raw (.int .i64 a0)), .pv (.raw (.int .i64 a1))] al (.pv (.raw (.bool r))) [] := by
  unfold cmp_Less_int at h
  refine fn_ok tabOk Try.func36 (by as_aux_lemma => kernel_rfl) (by as_aux_lemma => kernel_rfl) Try.ntmps36 (by simp) ?_
  refine segs [] tabOk mixed 4000 (S := .leaf 0) (by as_aux_lemma => kernel_rfl) ?_
  refine sk_leaf ?_
  obtain ⟨r1, e2, h⟩ := bd_ h
  refine call_ok (d := some 6) (fn := 47) (ax := [.pv (.raw (.int .i64 a0))]) (args := [.pv (.raw (.int .i64 a0))]) (ps := [(a0 : Int) = a0]) (hb' := []) (by as_aux_lemma => kernel_rfl) (cmp_isNaN_int_ok _ _ e2 (al := true)) (by as_aux_lemma => kernel_rfl) ⟨rfl, trivial⟩ (fun _ => (by as_aux_lemma => kernel_rfl)) (by simp) rfl (by as_aux_lemma => kernel_rfl) ?_
  refine segs [] tabOk mixed 4000 (S := .leaf 0) (by as_aux_lemma => kernel_rfl) ?_
  refine sk_leaf ?_
  obtain ⟨r3, e4, h⟩ := bd_ h
  refine callG_ok (d := some 9) (fn := 47) (ax := [.pv (.raw (.int .i64 a1))]) (args := [.pv (.raw (.int .i64 a1))]) (g := r1) (ws := [r1 = true]) (ps := [(a1 : Int) = a1]) (by as_aux_lemma => kernel_rfl) (fun hg => ⟨((by decide : ∀ y0 : Bool, ((y0 = true) → (y0 = true))) r1) hg, trivial⟩) (fun hg => cmp_isNaN_int_ok _ _ (by rw [hg] at e4; exact e4) (al := true)) (by as_aux_lemma => kernel_rfl) (fun hg => ⟨rfl, trivial⟩) (fun _ => (by as_aux_lemma => kernel_rfl)) ?_
  refine segs [] tabOk mixed 4000 (S := .and ((r1 = true → (r1 = true))) (.and (r1 = true → r1 = true) (.and (((!(r1 && (!r3))) = true → ((!(r1 && (!r3))) = true))) (.and (((!(r1 && (!r3))) = true → ((!(r1 && (!r3))) = true))) (.and ((r1 && (!r3)) = false → (!(r1 && (!r3))) = true) (.leaf 0)))))) (by as_aux_lemma => kernel_rfl) ?_
  refine sk_and ((by decide : ∀ y0 : Bool, ((y0 = true) → (y0 = true))) r1) ?_
  refine sk_and ((by decide : ∀ y0 : Bool, ((y0 = true) → (y0 = true))) r1) ?_
  refine sk_and ((by decide : ∀ y0 : Bool, ((y0 = true) → (y0 = true))) (!(r1 && (!r3)))) ?_
  refine sk_and ((by decide : ∀ y0 : Bool, ((y0 = true) → (y0 = true))) (!(r1 && (!r3)))) ?_
  refine sk_and ((by decide : ∀ y0 : Bool, ((y0 = false) → ((!y0) = true))) (r1 && (!r3))) ?_
  refine sk_leaf ?_
  obtain rfl := some_ h
  exact end_ok [] Try.results36 (ps := [((r1 && (!r3)) || (decide ((a0 : Int) < a1))) = ((r1 && (!r3)) || (decide ((a0 : Int) < a1)))]) (by as_aux_lemma => kernel_rfl) ⟨rfl, trivial⟩ (fun _ => ⟨rfl, by simp⟩)

set_option maxHeartbeats 40000000 in
set_option maxRecDepth 100000 in
theorem slices_isNaN_int_ok (a0 : Int) (r : Bool) (h : slices_isNaN_int a0 = some r) {al : Bool} : PCalls Try.prog 37 [.pv (.raw (.int .i64 a0))] al (.pv (.raw (.bool r))) [] := by
  unfold slices_isNaN_int at h
  refine fn_ok tabOk Try.func37 (by as_aux_lemma => kernel_rfl) (by as_aux_lemma => kernel_rfl) Try.ntmps37 (by simp) ?_
  refine segs [] tabOk mixed 4000 (S := .leaf 0) (by as_aux_lemma => kernel_rfl) ?_
  refine sk_leaf ?_
  obtain rfl := some_ h
  exact end_ok [] Try.results37 (ps := [((a0 : Int) != a0) = ((a0 : Int) != a0)]) (by as_aux_lemma => kernel_rfl) ⟨rfl, trivial⟩ (fun _ => ⟨rfl, by simp⟩)

set_option maxHeartbeats 40000000 in
set_option maxRecDepth 100000 in
theorem slices_BinarySearch_int_ok (a0 : (List Int)) (a1 : Int) (r : Int × Bool) (h : slices_BinarySearch_int a0 a1 = some r) {al : Bool} : PCalls Try.prog 25 [.pv ((E3.ro a0)), .pv (.raw (.int .i64 a1))] al (.tup [.pv (.raw (.int .i64 r.1)), .pv (.raw (.bool r.2))]) [] := by
  unfold slices_BinarySearch_int at h
  refine fn_ok tabOk Try.func25 (by as_aux_lemma => kernel_rfl) (by as_aux_lemma => kernel_rfl) Try.ntmps25 (by simp) ?_
  refine segs [] tabOk mixed 4000 (S := .leaf 0) (by as_aux_lemma => kernel_rfl) ?_
  refine sk_leaf ?_
  refine len_ro (by as_aux_lemma => kernel_rfl) 0 (s := 1) (n := a0.length) (c := fun i j => E3.cf (a0.getD i E3.z) j) (by as_aux_lemma => kernel_rfl) ?_; intro hl1_0
  replace h : (fun (x : Nat × Int × Int) => slices_BinarySearch_int_l1 a0 a1 x.1 x.2.1 x.2.2 = some r) (FUEL, 0, ((a0.length : Nat) : Int)) := h
  refine loop_ok (by as_aux_lemma => kernel_rfl) (X := Nat × Int × Int) (fun x => slices_BinarySearch_int_l1 a0 a1 x.1 x.2.1 x.2.2 = some r) (fun x => x.1) (fun x => mk 54 [(0, .pv ((E3.ro a0))), (1, .pv (.raw (.int .i64 a1))), (4, .pv (.raw (.int .i64 0))), (5, .pv (.raw (.bool false))), (6, .pv (.raw (.int .i64 ((a0.length : Nat) : Int)))), (7, .pv (.raw (.int .i64 x.2.1))), (8, .pv (.raw (.int .i64 x.2.2)))] []) (FUEL, 0, ((a0.length : Nat) : Int)) h ?_ ?_
  · exact sub_ok (ρ := []) (l := [a0.length = a0.length, ∀ i, i < a0.length → ∀ j, j < 1 → E3.cf (a0.getD i E3.z) j = E3.cf (a0.getD i E3.z) j, (a1 : Int) = a1, (0 : Int) = 0, false = false, (((a0.length : Nat) : Int) : Int) = ((a0.length : Nat) : Int), (0 : Int) = 0, (((a0.length : Nat) : Int) : Int) = ((a0.length : Nat) : Int)]) (by as_aux_lemma => kernel_rfl) ⟨rfl, fun _ _ _ _ => rfl, rfl, rfl, rfl, rfl, rfl, rfl, trivial⟩
  · clear h; rintro ⟨n1, x1, x2⟩ h p1 hp1
    obtain _ | n1 := n1
    · cases (show (none : Option (Int × Bool)) = some r from h)
    have h : slices_BinarySearch_int_l1 a0 a1 (n1 + 1) x1 x2 = some r := h
    unfold slices_BinarySearch_int_l1 at h
    refine segs [] tabOk mixed 4000 (S := .br (decide ((x1 : Int) < x2)) (.and (0 ≤ (1 : Int)) (.and (0 ≤ ((IntKind.i64.wrap (Int.fdiv (IntKind.u64.wrap (IntKind.i64.wrap (x1 + x2))) (2 ^ (min (Int.toNat 1) IntKind.u64.bits)))) : Int) ∧ (IntKind.i64.wrap (Int.fdiv (IntKind.u64.wrap (IntKind.i64.wrap (x1 + x2))) (2 ^ (min (Int.toNat 1) IntKind.u64.bits)))) < ((a0.length : Nat) : Int)) (.leaf 0))) (.and (((decide ((x1 : Int) < ((a0.length : Nat) : Int))) = true → ((decide ((x1 : Int) < ((a0.length : Nat) : Int))) = true))) (.and (((decide ((x1 : Int) < ((a0.length : Nat) : Int))) = true → ((decide ((x1 : Int) < ((a0.length : Nat) : Int))) = true))) (.and (((decide ((x1 : Int) < ((a0.length : Nat) : Int))) = true → (0 ≤ (x1 : Int) ∧ x1 < ((a0.length : Nat) : Int)))) (.and (((decide ((x1 : Int) < ((a0.length : Nat) : Int))) = true → ((decide ((x1 : Int) < ((a0.length : Nat) : Int))) = true))) (.and (((decide ((x1 : Int) < ((a0.length : Nat) : Int))) = true → ((decide ((x1 : Int) < ((a0.length : Nat) : Int))) = true))) (.and (((decide ((x1 : Int) < ((a0.length : Nat) : Int))) = true → ((decide ((x1 : Int) < ((a0.length : Nat) : Int))) = true))) (.and (((decide ((x1 : Int) < ((a0.length : Nat) : Int))) = true → ((decide ((x1 : Int) < ((a0.length : Nat) : Int))) = true))) (.and ((((decide ((x1 : Int) < ((a0.length : Nat) : Int))) && !(((a0.getD (Int.toNat x1) 0) : Int) == a1)) = true → (((decide ((x1 : Int) < ((a0.length : Nat) : Int))) && !(((a0.getD (Int.toNat x1) 0) : Int) == a1)) = true))) (.and ((((decide ((x1 : Int) < ((a0.length : Nat) : Int))) && !(((a0.getD (Int.toNat x1) 0) : Int) == a1)) = true → (((decide ((x1 : Int) < ((a0.length : Nat) : Int))) && !(((a0.getD (Int.toNat x1) 0) : Int) == a1)) = true))) (.and ((((decide ((x1 : Int) < ((a0.length : Nat) : Int))) && !(((a0.getD (Int.toNat x1) 0) : Int) == a1)) = true → (0 ≤ (x1 : Int) ∧ x1 < ((a0.length : Nat) : Int)))) (.and ((((decide ((x1 : Int) < ((a0.length : Nat) : Int))) && !(((a0.getD (Int.toNat x1) 0) : Int) == a1)) = true → (((decide ((x1 : Int) < ((a0.length : Nat) : Int))) && !(((a0.getD (Int.toNat x1) 0) : Int) == a1)) = true))) (.leaf 1))))))))))))) (by as_aux_lemma => kernel_rfl) ?_
    refine br_ h ?_ ?_ <;> clear h <;> intro c3 h
    · refine sk_and (by decide) ?_
      refine gd_ h ?_; clear h; intro g5 h
      refine sk_leaf ?_
      obtain ⟨r6, e7, h⟩ := bd_ h
      refine call_ok (d := some 27) (fn := 36) (ax := [.pv (.raw (.int .i64 (a0.getD (Int.toNat (IntKind.i64.wrap (Int.fdiv (IntKind.u64.wrap (IntKind.i64.wrap (x1 + x2))) (2 ^ (min (Int.toNat 1) IntKind.u64.bits))))) 0))), .pv (.raw (.int .i64 a1))]) (args := [.pv (.raw (.int .i64 (a0.getD (Int.toNat (IntKind.i64.wrap (Int.fdiv (IntKind.u64.wrap (IntKind.i64.wrap (x1 + x2))) (2 ^ (min (Int.toNat 1) IntKind.u64.bits))))) 0))), .pv (.raw (.int .i64 a1))]) (ps := [((a0.getD (Int.toNat (IntKind.i64.wrap (Int.fdiv (IntKind.u64.wrap (IntKind.i64.wrap (x1 + x2))) (2 ^ (min (Int.toNat 1) IntKind.u64.bits))))) 0) : Int) = (a0.getD (Int.toNat (IntKind.i64.wrap (Int.fdiv (IntKind.u64.wrap (IntKind.i64.wrap (x1 + x2))) (2 ^ (min (Int.toNat 1) IntKind.u64.bits))))) 0), (a1 : Int) = a1]) (hb' := []) (by as_aux_lemma => kernel_rfl) (cmp_Less_int_ok _ _ _ e7 (al := true)) (by as_aux_lemma => kernel_rfl) ⟨rfl, rfl, trivial⟩ (fun _ => (by as_aux_lemma => kernel_rfl)) (by simp) rfl (by as_aux_lemma => kernel_rfl) ?_
      refine segs [] tabOk mixed 4000 (S := .br r6 (.leaf 0) (.leaf 1)) (by as_aux_lemma => kernel_rfl) ?_
      refine br_ h ?_ ?_ <;> clear h <;> intro c8 h
      · refine sk_leaf ?_
        refine back_ok (p := p1) (by as_aux_lemma => kernel_rfl) (hp1 (n1, (IntKind.i64.wrap ((IntKind.i64.wrap (Int.fdiv (IntKind.u64.wrap (IntKind.i64.wrap (x1 + x2))) (2 ^ (min (Int.toNat 1) IntKind.u64.bits)))) + 1)), x2) _ h (Nat.lt_succ_self n1) ?_)
        exact sub_ok (ρ := []) (l := [a0.length = a0.length, ∀ i, i < a0.length → ∀ j, j < 1 → E3.cf (a0.getD i E3.z) j = E3.cf (a0.getD i E3.z) j, (a1 : Int) = a1, (0 : Int) = 0, false = false, (((a0.length : Nat) : Int) : Int) = ((a0.length : Nat) : Int), ((IntKind.i64.wrap ((IntKind.i64.wrap (Int.fdiv (IntKind.u64.wrap (IntKind.i64.wrap (x1 + x2))) (2 ^ (min (Int.toNat 1) IntKind.u64.bits)))) + 1)) : Int) = (IntKind.i64.wrap ((IntKind.i64.wrap (Int.fdiv (IntKind.u64.wrap (IntKind.i64.wrap (x1 + x2))) (2 ^ (min (Int.toNat 1) IntKind.u64.bits)))) + 1)), (x2 : Int) = x2]) (by as_aux_lemma => kernel_rfl) ⟨rfl, fun _ _ _ _ => rfl, rfl, rfl, rfl, rfl, rfl, rfl, trivial⟩
      · refine sk_leaf ?_
        refine back_ok (p := p1) (by as_aux_lemma => kernel_rfl) (hp1 (n1, x1, (IntKind.i64.wrap (Int.fdiv (IntKind.u64.wrap (IntKind.i64.wrap (x1 + x2))) (2 ^ (min (Int.toNat 1) IntKind.u64.bits))))) _ h (Nat.lt_succ_self n1) ?_)
        exact sub_ok (ρ := []) (l := [a0.length = a0.length, ∀ i, i < a0.length → ∀ j, j < 1 → E3.cf (a0.getD i E3.z) j = E3.cf (a0.getD i E3.z) j, (a1 : Int) = a1, (0 : Int) = 0, false = false, (((a0.length : Nat) : Int) : Int) = ((a0.length : Nat) : Int), (x1 : Int) = x1, ((IntKind.i64.wrap (Int.fdiv (IntKind.u64.wrap (IntKind.i64.wrap (x1 + x2))) (2 ^ (min (Int.toNat 1) IntKind.u64.bits)))) : Int) = (IntKind.i64.wrap (Int.fdiv (IntKind.u64.wrap (IntKind.i64.wrap (x1 + x2))) (2 ^ (min (Int.toNat 1) IntKind.u64.bits))))]) (by as_aux_lemma => kernel_rfl) ⟨rfl, fun _ _ _ _ => rfl, rfl, rfl, rfl, rfl, rfl, rfl, trivial⟩
    · refine sk_and ((by decide : ∀ y0 : Bool, ((y0 = true) → (y0 = true))) (decide ((x1 : Int) < ((a0.length : Nat) : Int)))) ?_
      refine sk_and ((by decide : ∀ y0 : Bool, ((y0 = true) → (y0 = true))) (decide ((x1 : Int) < ((a0.length : Nat) : Int)))) ?_
      refine gd_ h ?_; clear h; intro g11 h
      refine sk_and ((by decide : ∀ y0 : Bool, ((y0 = true) → (y0 = true))) (decide ((x1 : Int) < ((a0.length : Nat) : Int)))) ?_
      refine sk_and ((by decide : ∀ y0 : Bool, ((y0 = true) → (y0 = true))) (decide ((x1 : Int) < ((a0.length : Nat) : Int)))) ?_
      refine sk_and ((by decide : ∀ y0 : Bool, ((y0 = true) → (y0 = true))) (decide ((x1 : Int) < ((a0.length : Nat) : Int)))) ?_
      refine sk_and ((by decide : ∀ y0 : Bool, ((y0 = true) → (y0 = true))) (decide ((x1 : Int) < ((a0.length : Nat) : Int)))) ?_
      refine sk_and ((by decide : ∀ y0 : Bool, ((y0 = true) → (y0 = true))) ((decide ((x1 : Int) < ((a0.length : Nat) : Int))) && !(((a0.getD (Int.toNat x1) 0) : Int) == a1))) ?_
      refine sk_and ((by decide : ∀ y0 : Bool, ((y0 = true) → (y0 = true))) ((decide ((x1 : Int) < ((a0.length : Nat) : Int))) && !(((a0.getD (Int.toNat x1) 0) : Int) == a1))) ?_
      refine gd_ h ?_; clear h; intro g18 h
      refine sk_and ((by decide : ∀ y0 : Bool, ((y0 = true) → (y0 = true))) ((decide ((x1 : Int) < ((a0.length : Nat) : Int))) && !(((a0.getD (Int.toNat x1) 0) : Int) == a1))) ?_
      refine sk_leaf ?_
      obtain ⟨r20, e21, h⟩ := bd_ h
      refine callG_ok (d := some 47) (fn := 37) (ax := [.pv (.raw (.int .i64 (a0.getD (Int.toNat x1) 0)))]) (args := [.pv (.raw (.int .i64 (a0.getD (Int.toNat x1) 0)))]) (g := ((decide ((x1 : Int) < ((a0.length : Nat) : Int))) && !(((a0.getD (Int.toNat x1) 0) : Int) == a1))) (ws := [((decide ((x1 : Int) < ((a0.length : Nat) : Int))) && !(((a0.getD (Int.toNat x1) 0) : Int) == a1)) = true]) (ps := [((a0.getD (Int.toNat x1) 0) : Int) = (a0.getD (Int.toNat x1) 0)]) (by as_aux_lemma => kernel_rfl) (fun hg => ⟨((by decide : ∀ y0 : Bool, ((y0 = true) → (y0 = true))) ((decide ((x1 : Int) < ((a0.length : Nat) : Int))) && !(((a0.getD (Int.toNat x1) 0) : Int) == a1))) hg, trivial⟩) (fun hg => slices_isNaN_int_ok _ _ (by rw [hg] at e21; exact e21) (al := true)) (by as_aux_lemma => kernel_rfl) (fun hg => (by have q0 := g18 hg; exact ⟨rfl, trivial⟩)) (fun _ => (by as_aux_lemma => kernel_rfl)) ?_
      refine segs [] tabOk mixed 4000 (S := .and ((((decide ((x1 : Int) < ((a0.length : Nat) : Int))) && !(((a0.getD (Int.toNat x1) 0) : Int) == a1)) = true → (((decide ((x1 : Int) < ((a0.length : Nat) : Int))) && !(((a0.getD (Int.toNat x1) 0) : Int) == a1)) = true))) (.leaf 0)) (by as_aux_lemma => kernel_rfl) ?_
      refine sk_and ((by decide : ∀ y0 : Bool, ((y0 = true) → (y0 = true))) ((decide ((x1 : Int) < ((a0.length : Nat) : Int))) && !(((a0.getD (Int.toNat x1) 0) : Int) == a1))) ?_
      refine sk_leaf ?_
      obtain ⟨r23, e24, h⟩ := bd_ h
      refine callG_ok (d := some 50) (fn := 37) (ax := [.pv (.raw (.int .i64 a1))]) (args := [.pv (.raw (.int .i64 a1))]) (g := (((decide ((x1 : Int) < ((a0.length : Nat) : Int))) && !(((a0.getD (Int.toNat x1) 0) : Int) == a1)) && r20)) (ws := [(((decide ((x1 : Int) < ((a0.length : Nat) : Int))) && !(((a0.getD (Int.toNat x1) 0) : Int) == a1)) && r20) = true]) (ps := [(a1 : Int) = a1]) (by as_aux_lemma => kernel_rfl) (fun hg => ⟨((by decide : ∀ y0 : Bool, ((y0 = true) → (y0 = true))) (((decide ((x1 : Int) < ((a0.length : Nat) : Int))) && !(((a0.getD (Int.toNat x1) 0) : Int) == a1)) && r20)) hg, trivial⟩) (fun hg => slices_isNaN_int_ok _ _ (by rw [hg] at e24; exact e24) (al := true)) (by as_aux_lemma => kernel_rfl) (fun hg => ⟨rfl, trivial⟩) (fun _ => (by as_aux_lemma => kernel_rfl)) ?_
      refine segs [] tabOk mixed 4000 (S := .and ((((decide ((x1 : Int) < ((a0.length : Nat) : Int))) && !(((a0.getD (Int.toNat x1) 0) : Int) == a1)) = true → (((decide ((x1 : Int) < ((a0.length : Nat) : Int))) && !(((a0.getD (Int.toNat x1) 0) : Int) == a1)) = true))) (.and ((((decide ((x1 : Int) < ((a0.length : Nat) : Int))) && !(((a0.getD (Int.toNat x1) 0) : Int) == a1)) = true → (r20 = true → (((decide ((x1 : Int) < ((a0.length : Nat) : Int))) && !(((a0.getD (Int.toNat x1) 0) : Int) == a1)) && r20) = true))) (.and (((decide ((x1 : Int) < ((a0.length : Nat) : Int))) = true → ((decide ((x1 : Int) < ((a0.length : Nat) : Int))) = true))) (.and (((decide ((x1 : Int) < ((a0.length : Nat) : Int))) = true → ((((a0.getD (Int.toNat x1) 0) : Int) == a1) = false → ((decide ((x1 : Int) < ((a0.length : Nat) : Int))) && !(((a0.getD (Int.toNat x1) 0) : Int) == a1)) = true))) (.and ((decide ((x1 : Int) < ((a0.length : Nat) : Int))) = true → (decide ((x1 : Int) < ((a0.length : Nat) : Int))) = true) (.leaf 0)))))) (by as_aux_lemma => kernel_rfl) ?_
      refine sk_and ((by decide : ∀ y0 : Bool, ((y0 = true) → (y0 = true))) ((decide ((x1 : Int) < ((a0.length : Nat) : Int))) && !(((a0.getD (Int.toNat x1) 0) : Int) == a1))) ?_
      refine sk_and ((by decide : ∀ y0 y1 : Bool, ((y0 = true) → ((y1 = true) → ((y0 && y1) = true)))) ((decide ((x1 : Int) < ((a0.length : Nat) : Int))) && !(((a0.getD (Int.toNat x1) 0) : Int) == a1)) r20) ?_
      refine sk_and ((by decide : ∀ y0 : Bool, ((y0 = true) → (y0 = true))) (decide ((x1 : Int) < ((a0.length : Nat) : Int)))) ?_
      refine sk_and ((by decide : ∀ y0 y1 : Bool, ((y0 = true) → ((y1 = false) → ((y0 && (!y1)) = true)))) (decide ((x1 : Int) < ((a0.length : Nat) : Int))) (((a0.getD (Int.toNat x1) 0) : Int) == a1)) ?_
      refine sk_and ((by decide : ∀ y0 : Bool, ((y0 = true) → (y0 = true))) (decide ((x1 : Int) < ((a0.length : Nat) : Int)))) ?_
      refine sk_leaf ?_
      obtain rfl := some_ h
      exact end_ok [] Try.results25 (ps := [(x1 : Int) = x1, ((decide ((x1 : Int) < ((a0.length : Nat) : Int))) && ((((a0.getD (Int.toNat x1) 0) : Int) == a1) || (r20 && r23))) = ((decide ((x1 : Int) < ((a0.length : Nat) : Int))) && ((((a0.getD (Int.toNat x1) 0) : Int) == a1) || (r20 && r23)))]) (by as_aux_lemma => kernel_rfl) ⟨rfl, rfl, trivial⟩ (fun _ => ⟨rfl, by simp⟩)

set_option maxRecDepth 100000 in
set_option maxHeartbeats 2000000 in
theorem slices_Grow_int_nil_calls (n : Nat) (hb : n * 8 ≤ 140737488355328) (hb2 : n ≤ 140737488355328) (w : World) : Calls Try.prog 38 #[.slice none 0 0, .int .i64 n] w fun ex w' => GrowPost 3 1 w ex w' := by
  obtain ⟨_, info, hi, hi1, hi2, hz, _⟩ := tabOk 3 _ tab_3
  have hi1 : info.size = 1 := hi1
  have hi2 : info.bytes = 8 := hi2
  obtain ⟨z, hz, hzs⟩ : ∃ z, info.zero = some z ∧ z.cells.size = 1 := ⟨_, hz, by kernel_rfl⟩
  have h1 : ¬ ((n : Int) < 0) := by omega
  have h2 : Go.RowKit.wrap64 (0 - 0 : Int) = 0 := by unfold Go.RowKit.wrap64; omega
  have h3 : Go.RowKit.wrap64 ((n : Int) - 0) = (n : Int) := by unfold Go.RowKit.wrap64; omega
  by_cases h0 : n = 0
  · subst h0
    go_enter Try.func38, Try.ntmps38
    go_wp2
    all_goals first | (go_ret; exact .inl ⟨rfl, rfl⟩) | skip
  · have hn : 0 < n := by omega
    have h4 : ((n : Int) > 0) := by omega
    have hrun := fun ty => Go.Lib.run_append_nil_zeros (P := Try.prog) w 22 3 ty 3 info z .i64 .i64 Try.underlying22 Try.underlying3 hi hz n hn (by rw [hi1]; decide) (by omega) (by rw [hi2]; omega)
    have hGn : n ≤ grownCap w n 0 3 := grownCap_ge w _ _ _
    have hG63 := grownCap_le_maxLen w n 0 3 (by unfold maxLen; omega)
    obtain ⟨G, hG⟩ : ∃ G, G = grownCap w n 0 3 := ⟨_, rfl⟩
    rw [← hG] at hrun hGn hG63
    obtain ⟨cur, hcur⟩ : ∃ cur, cur = Builtin.zeroCells z.cells n ++ Builtin.zeroCells z.cells (G - n) := ⟨_, rfl⟩
    rw [← hcur] at hrun
    have hsz : cur.size = G * 1 := by rw [hcur, Array.size_append, size_zeroCells, size_zeroCells, hzs, ← Nat.add_mul]; congr 1; omega
    clear hcur hG hi hz
    go_enter Try.func38, Try.ntmps38
    go_wp2_with (at_builtin; refine Go.Lib.wpList_append_run _ rfl _ _ _ _ rfl _ _ rfl rfl _ _ (hrun _) ?_)
    all_goals (go_ret; exact .inr ⟨G, cur, rfl, rfl, hsz, hG63⟩)
theorem slices_Grow_int_nil_ok (a0 : Int) (r : List Int) (h : slices_Grow_int_nil a0 = some r) {al : Bool} : PCalls Try.prog 38 [.pv (.raw (.slice none 0 0)), .pv (.raw (.int .i64 a0))] al (.row 0 1 0 r.length) [.row 3 1 (E3.cR r)] := by
  unfold slices_Grow_int_nil at h
  obtain ⟨g, h⟩ := if_ h
  obtain rfl := some_ h
  obtain ⟨n, rfl⟩ : ∃ n : Nat, a0 = n := ⟨a0.toNat, by omega⟩
  exact grow_pcalls ⟨_, Try.func38, by kernel_rfl, by kernel_rfl⟩ (E := E3) (by decide) (slices_Grow_int_nil_calls n (by omega) (by omega))

set_option maxHeartbeats 40000000 in
set_option maxRecDepth 100000 in
theorem slices_Concat_int_ok (a0 : (List (List Int))) (r : (List Int)) (h : slices_Concat_int a0 = some r) {al : Bool} : PCalls Try.prog 26 [.pv ((E22.ro a0))] al (.row 0 1 0 r.length) [.row 3 1 (E3.cR r)] := by
  unfold slices_Concat_int at h
  refine fn_ok tabOk Try.func26 (by as_aux_lemma => kernel_rfl) (by as_aux_lemma => kernel_rfl) Try.ntmps26 (by simp) ?_
  refine segs [] tabOk mixed 4000 (S := .leaf 0) (by as_aux_lemma => kernel_rfl) ?_
  refine sk_leaf ?_
  refine len_ro (by as_aux_lemma => kernel_rfl) 0 (s := 1) (n := a0.length) (c := fun i j => E22.cf (a0.getD i E22.z) j) (by as_aux_lemma => kernel_rfl) ?_; intro hl1_0
  refine len_ro (by as_aux_lemma => kernel_rfl) 9 (s := 1) (n := a0.length) (c := fun i j => E22.cf (a0.getD i E22.z) j) (by as_aux_lemma => kernel_rfl) ?_; intro hl1_1
  replace h : (fun (x : Nat × Int × Nat) => slices_Concat_int_l1 a0 x.1 x.2.1 x.2.2 = some r) (FUEL, 0, 0) := h
  refine loop_ok (by as_aux_lemma => kernel_rfl) (X := Nat × Int × Nat) (fun x => slices_Concat_int_l1 a0 x.1 x.2.1 x.2.2 = some r) (fun x => x.1) (fun x => mk 36 [(0, .pv ((E22.ro a0))), (2, .pv (.raw (.slice none 0 0))), (3, .pv (.raw (.int .i64 x.2.1))), (9, .pv ((E22.ro a0))), (10, .pv (.raw (.int .i64 ((a0.length : Nat) : Int)))), (11, .pv (.raw (.int .i64 ((x.2.2 : Nat) : Int))))] []) (FUEL, 0, 0) h ?_ ?_
  · exact sub_ok (ρ := []) (l := [a0.length = a0.length, ∀ i, i < a0.length → ∀ j, j < 1 → E22.cf (a0.getD i E22.z) j = E22.cf (a0.getD i E22.z) j, (0 : Int) = 0, a0.length = a0.length, ∀ i, i < a0.length → ∀ j, j < 1 → E22.cf (a0.getD i E22.z) j = E22.cf (a0.getD i E22.z) j, (((a0.length : Nat) : Int) : Int) = ((a0.length : Nat) : Int), (0 : Int) = ((0 : Nat) : Int)]) (by as_aux_lemma => kernel_rfl) ⟨rfl, fun _ _ _ _ => rfl, rfl, rfl, fun _ _ _ _ => rfl, rfl, (by first | rfl | simp), trivial⟩
  · clear h; rintro ⟨n1, x1, k2⟩ h p1 hp1
    obtain _ | n1 := n1
    · cases (show (none : Option ((List Int))) = some r from h)
    have h : slices_Concat_int_l1 a0 (n1 + 1) x1 k2 = some r := h
    unfold slices_Concat_int_l1 at h
    refine segs [] tabOk mixed 4000 (S := .br (decide ((((k2 : Nat) : Int) : Int) < ((a0.length : Nat) : Int))) (.and (0 ≤ (((k2 : Nat) : Int) : Int) ∧ ((k2 : Nat) : Int) < ((a0.length : Nat) : Int)) (.br (decide (((IntKind.i64.wrap (x1 + (((a0.getD k2 []).length : Nat) : Int))) : Int) < 0)) (.bad) (.leaf 0))) (.leaf 1)) (by as_aux_lemma => kernel_rfl) ?_
    refine br_ h ?_ ?_ <;> clear h <;> intro c3 h
    · refine sk_and ⟨Int.natCast_nonneg _, of_decide_eq_true c3⟩ ?_
      refine br_ h ?_ ?_ <;> clear h <;> intro c5 h
      · cases h
      · refine sk_leaf ?_
        refine back_ok (p := p1) (by as_aux_lemma => kernel_rfl) (hp1 (n1, (IntKind.i64.wrap (x1 + (((a0.getD k2 []).length : Nat) : Int))), k2 + 1) _ h (Nat.lt_succ_self n1) ?_)
        exact sub_ok (ρ := []) (l := [a0.length = a0.length, ∀ i, i < a0.length → ∀ j, j < 1 → E22.cf (a0.getD i E22.z) j = E22.cf (a0.getD i E22.z) j, ((IntKind.i64.wrap (x1 + (((a0.getD k2 []).length : Nat) : Int))) : Int) = (IntKind.i64.wrap (x1 + (((a0.getD k2 []).length : Nat) : Int))), a0.length = a0.length, ∀ i, i < a0.length → ∀ j, j < 1 → E22.cf (a0.getD i E22.z) j = E22.cf (a0.getD i E22.z) j, (((a0.length : Nat) : Int) : Int) = ((a0.length : Nat) : Int), ((IntKind.i64.wrap (((k2 : Nat) : Int) + 1)) : Int) = (((k2 + 1) : Nat) : Int)]) (by as_aux_lemma => kernel_rfl) ⟨rfl, fun _ _ _ _ => rfl, rfl, rfl, fun _ _ _ _ => rfl, rfl, (wrap_nat (Int.ofNat_lt.1 (of_decide_eq_true c3)) (by omega)), trivial⟩
    · refine sk_leaf ?_
      obtain ⟨r6, e7, h⟩ := bd_ h
      refine call_ok (d := some 24) (fn := 38) (ax := [.pv (.raw (.slice none 0 0)), .pv (.raw (.int .i64 x1))]) (args := [.pv (.raw (.slice none 0 0)), .pv (.raw (.int .i64 x1))]) (ps := [(x1 : Int) = x1]) (hb' := [.row 3 1 (E3.cR r6)]) (by as_aux_lemma => kernel_rfl) (slices_Grow_int_nil_ok _ _ e7 (al := true)) (by as_aux_lemma => kernel_rfl) ⟨rfl, trivial⟩ (fun _ => (by as_aux_lemma => kernel_rfl)) (by simp) (by simp only [List.map_cons, List.map_nil, Elem.row_up, up_map] <;> rfl) (by as_aux_lemma => kernel_rfl) ?_
      refine segs [] tabOk mixed 4000 (S := .leaf 0) (by as_aux_lemma => kernel_rfl) ?_
      refine sk_leaf ?_
      refine len_ro (by as_aux_lemma => kernel_rfl) 25 (s := 1) (n := a0.length) (c := fun i j => E22.cf (a0.getD i E22.z) j) (by as_aux_lemma => kernel_rfl) ?_; intro hl2_0
      refine len_row (by as_aux_lemma => kernel_rfl) 17920 (e := 3) (s := 1) (n := r6.length) (cs := E3.cR r6) (by as_aux_lemma => kernel_rfl) (Elem.cR_length _ _) ?_; intro hl2_1
      replace h : (fun (x : Nat × List Int × Nat) => slices_Concat_int_l2 a0 r6 x.1 x.2.1 x.2.2 = some r) (FUEL, r6, 0) := h
      refine loop_ok (by as_aux_lemma => kernel_rfl) (X := Nat × List Int × Nat) (fun x => slices_Concat_int_l2 a0 r6 x.1 x.2.1 x.2.2 = some r) (fun x => x.1) (fun x => mk 36 [(2, .pv (.raw (.slice none 0 0))), (6, .row 0 1 0 x.2.1.length), (25, .pv ((E22.ro a0))), (26, .pv (.raw (.int .i64 ((a0.length : Nat) : Int)))), (27, .pv (.raw (.int .i64 ((x.2.2 : Nat) : Int))))] [(0, .row 3 1 (E3.cR x.2.1))]) (FUEL, r6, 0) h ?_ ?_
      · exact sub_ok (ρ := [(0, some 17920)]) (l := [0 = 0, r6.length = r6.length, a0.length = a0.length, ∀ i, i < a0.length → ∀ j, j < 1 → E22.cf (a0.getD i E22.z) j = E22.cf (a0.getD i E22.z) j, (((a0.length : Nat) : Int) : Int) = ((a0.length : Nat) : Int), (0 : Int) = ((0 : Nat) : Int), E3.cR r6 = E3.cR r6, AllPv (E3.cR r6)]) (by as_aux_lemma => kernel_rfl) ⟨rfl, rfl, rfl, fun _ _ _ _ => rfl, rfl, (by first | rfl | simp), rfl, (Elem.cR_pv _ _), trivial⟩
      · clear h; rintro ⟨n2, l8, k9⟩ h p2 hp2
        obtain _ | n2 := n2
        · cases (show (none : Option ((List Int))) = some r from h)
        have h : slices_Concat_int_l2 a0 r6 (n2 + 1) l8 k9 = some r := h
        unfold slices_Concat_int_l2 at h
        refine segs [] tabOk mixed 4000 (S := .br (decide ((((k9 : Nat) : Int) : Int) < ((a0.length : Nat) : Int))) (.and (0 ≤ (((k9 : Nat) : Int) : Int) ∧ ((k9 : Nat) : Int) < ((a0.length : Nat) : Int)) (.leaf 0)) (.leaf 1)) (by as_aux_lemma => kernel_rfl) ?_
        refine br_ h ?_ ?_ <;> clear h <;> intro c10 h
        · refine sk_and ⟨Int.natCast_nonneg _, of_decide_eq_true c10⟩ ?_
          refine sk_leaf ?_
          obtain ⟨g12, h⟩ := if_ h
          refine app_ok (d := 33) (e := 3) (s := 1) (b := 8) (x := .row 0 1 0 l8.length) (y := .pv ((E3.ro (a0.getD k9 [])))) E3 (xs := l8) (ys := (a0.getD k9 [])) (by as_aux_lemma => kernel_rfl) rfl (.row 0 l8 l8.length rfl (by as_aux_lemma => kernel_rfl)) (.ro (a0.getD k9 [])) g12 (by as_aux_lemma => kernel_rfl) ?_
          refine segs [] tabOk mixed 4000 (S := .leaf 0) (by as_aux_lemma => kernel_rfl) ?_
          refine sk_leaf ?_
          refine back_ok (p := p2) (by as_aux_lemma => kernel_rfl) (hp2 (n2, (l8 ++ (a0.getD k9 [])), k9 + 1) _ h (Nat.lt_succ_self n2) ?_)
          exact sub_ok (ρ := [(0, some 18496)]) (l := [0 = 0, ((l8 ++ (a0.getD k9 [])).length) = ((l8 ++ (a0.getD k9 [])).length), a0.length = a0.length, ∀ i, i < a0.length → ∀ j, j < 1 → E22.cf (a0.getD i E22.z) j = E22.cf (a0.getD i E22.z) j, (((a0.length : Nat) : Int) : Int) = ((a0.length : Nat) : Int), ((IntKind.i64.wrap (((k9 : Nat) : Int) + 1)) : Int) = (((k9 + 1) : Nat) : Int), E3.cR (l8 ++ (a0.getD k9 [])) = E3.cR (l8 ++ (a0.getD k9 [])), AllPv (E3.cR (l8 ++ (a0.getD k9 [])))]) (by as_aux_lemma => kernel_rfl) ⟨rfl, rfl, rfl, fun _ _ _ _ => rfl, rfl, (wrap_nat (Int.ofNat_lt.1 (of_decide_eq_true c10)) (by omega)), rfl, (Elem.cR_pv _ _), trivial⟩
        · refine sk_leaf ?_
          obtain rfl := some_ h
          exact end_ok [(0, some 0)] Try.results26 (ps := [0 = 0, l8.length = l8.length, E3.cR l8 = E3.cR l8, AllPv (E3.cR l8)]) (by as_aux_lemma => kernel_rfl) ⟨rfl, rfl, rfl, (Elem.cR_pv _ _), trivial⟩ (fun _ => ⟨rfl, by simp only [List.mem_cons, List.not_mem_nil, or_false, forall_eq_or_imp, forall_eq]; exact Elem.cR_bald E3_raw _⟩)

set_option maxHeartbeats 40000000 in
set_option maxRecDepth 100000 in
theorem lift_Sweep_ok (a0 : Int) (a1 : (List Int)) (r : (List Int) × Int) (h : lift_Sweep a0 a1 = some r) {al : Bool} : PCalls Try.prog 8 [.pv (.raw (.int .i64 a0)), .pv ((E3.ro a1))] al (.tup [.row 0 1 0 r.1.length, .pv (.raw (.int .i64 r.2))]) [.row 3 1 (E3.cR r.1)] := by
  unfold lift_Sweep at h
  refine fn_ok tabOk Try.func8 (by as_aux_lemma => kernel_rfl) (by as_aux_lemma => kernel_rfl) Try.ntmps8 (by simp) ?_
  refine segs [6] tabOk mixed 4000 (S := .leaf 0) (by as_aux_lemma => kernel_rfl) ?_
  refine sk_leaf ?_
  obtain ⟨r1, e2, h⟩ := bd_ h
  refine call_ok (d := some 14) (fn := 22) (ax := [.pv (.raw (.int .i64 a0)), .pv ((E3.ro a1))]) (args := [.pv (.raw (.int .i64 a0)), .pv ((E3.ro a1))]) (ps := [(a0 : Int) = a0, a1.length = a1.length, ∀ i, i < a1.length → ∀ j, j < 1 → E3.cf (a1.getD i E3.z) j = E3.cf (a1.getD i E3.z) j]) (hb' := []) (by as_aux_lemma => kernel_rfl) (lift_Way_ok _ _ _ e2 (al := true)) (by as_aux_lemma => kernel_rfl) ⟨rfl, rfl, fun _ _ _ _ => rfl, trivial⟩ (fun _ => (by as_aux_lemma => kernel_rfl)) (by simp) rfl (by as_aux_lemma => kernel_rfl) ?_
  refine segs [6] tabOk mixed 4000 (S := .br ((r1.2 : Int) != 0) (.leaf 0) (.leaf 1)) (by as_aux_lemma => kernel_rfl) ?_
  refine br_ h ?_ ?_ <;> clear h <;> intro c3 h
  · refine sk_leaf ?_
    obtain rfl := some_ h
    exact end_ok [(0, none)] Try.results8 (ps := [0 = 0, ([] : List Int).length = 0, (r1.2 : Int) = r1.2, E3.cR [] = []]) (by as_aux_lemma => kernel_rfl) ⟨rfl, rfl, rfl, rfl, trivial⟩ (fun _ => ⟨rfl, by simp only [List.mem_cons, List.not_mem_nil, or_false, forall_eq_or_imp, forall_eq]; exact Elem.cR_bald E3_raw _⟩)
  · refine sk_leaf ?_
    obtain ⟨r4, e5, h⟩ := bd_ h
    refine call_ok (d := some 21) (fn := 11) (ax := [.pv ((E3.ro a1))]) (args := [.pv ((E3.ro a1))]) (ps := [a1.length = a1.length, ∀ i, i < a1.length → ∀ j, j < 1 → E3.cf (a1.getD i E3.z) j = E3.cf (a1.getD i E3.z) j]) (hb' := []) (by as_aux_lemma => kernel_rfl) (slices_Values_int_ok _ _ e5) (by as_aux_lemma => kernel_rfl) ⟨rfl, fun _ _ _ _ => rfl, trivial⟩ (fun _ => (by as_aux_lemma => kernel_rfl)) (by simp) rfl (by as_aux_lemma => kernel_rfl) ?_
    refine segs [6] tabOk mixed 4000 (S := .leaf 0) (by as_aux_lemma => kernel_rfl) ?_
    refine sk_leaf ?_
    obtain ⟨r6, e7, h⟩ := bd_ h
    refine call_ok (d := some 22) (fn := 10) (ax := [.fn 30 [.roat 1 (fun j => E22.cf a1 j)]]) (args := [.fn 30 [.roat 1 (fun j => E22.cf a1 j)]]) (ps := [a1.length = a1.length, ∀ i, i < a1.length → ∀ j, j < 1 → E3.cf (a1.getD i E3.z) j = E3.cf (a1.getD i E3.z) j]) (hb' := [.row 3 1 (E3.cR r6)]) (by as_aux_lemma => kernel_rfl) (slices_Sorted_int_ok _ _ e7 (al := false)) (by as_aux_lemma => kernel_rfl) ⟨rfl, fun _ _ _ _ => rfl, trivial⟩ (fun hx => by cases hx) (by simp) (by simp only [List.map_cons, List.map_nil, Elem.row_up, up_map] <;> rfl) (by as_aux_lemma => kernel_rfl) ?_
    refine segs [6] tabOk mixed 4000 (S := .leaf 0) (by as_aux_lemma => kernel_rfl) ?_
    refine sk_leaf ?_
    obtain ⟨r8, e9, h⟩ := bd_ h
    refine call_ok (d := some 26) (fn := 25) (ax := [.row 17792 1 0 r6.length, .pv (.raw (.int .i64 a0))]) (args := [.pv ((E3.ro r6)), .pv (.raw (.int .i64 a0))]) (ps := [r6.length = r6.length, rowQ (E3.cR r6) 1 0 r6.length (fun i j => E3.cf (r6.getD i E3.z) j), (a0 : Int) = a0]) (hb' := []) (by as_aux_lemma => kernel_rfl) (slices_BinarySearch_int_ok _ _ _ e9 (al := false)) (by as_aux_lemma => kernel_rfl) ⟨(by first | rfl | exact Elem.sub_len _ (by omega) | omega | simp | (simp <;> omega)), E3.rowQ_all r6 rfl, rfl, trivial⟩ (fun hx => by cases hx) (by simp) rfl (by as_aux_lemma => kernel_rfl) ?_
    refine segs [6] tabOk mixed 4000 (S := .leaf 0) (by as_aux_lemma => kernel_rfl) ?_
    refine sk_leaf ?_
    refine cut_ok (by as_aux_lemma => kernel_rfl) (τ := mk 37 [(4, .pv (.raw (.slice none 0 0))), (5, .pv (.raw (.int .i64 0))), (8, .pv ((E3.ro r6))), (9, .pv (.raw (.int .i64 r8.1)))] []) (sub_ok (ρ := []) (l := [(0 : Int) = 0, r6.length = r6.length, rowQ (E3.cR r6) 1 0 r6.length (fun i j => E3.cf (r6.getD i E3.z) j), (r8.1 : Int) = r8.1]) (by as_aux_lemma => kernel_rfl) ⟨rfl, (by first | rfl | exact Elem.sub_len _ (by omega) | omega | simp | (simp <;> omega)), E3.rowQ_all r6 rfl, rfl, trivial⟩) ?_
    refine segs [] tabOk mixed 4000 (S := .and (0 ≤ (r8.1 : Int)) (.and ((Int.toNat r8.1) ≤ r6.length) (.and (0 ≤ (r8.1 : Int)) (.and ((Int.toNat r8.1) ≤ r6.length) (.leaf 0))))) (by as_aux_lemma => kernel_rfl) ?_
    refine gd_ h ?_; clear h; intro g10 h
    refine gd_ h ?_; clear h; intro g11 h
    refine gd_ h ?_; clear h; intro g12 h
    refine gd_ h ?_; clear h; intro g13 h
    refine sk_leaf ?_
    refine bsS_ok (d := 35) (e := 22) (s := 1) (n := 2) (cs := [.pv (.ro E3.s (r6.length - (Int.toNat r8.1)) (fun i j => E3.cf (r6.getD ((Int.toNat r8.1) + i) E3.z) j)), .pv (.ro E3.s ((Int.toNat r8.1) - 0) (fun i j => E3.cf (r6.getD (0 + i) E3.z) j))]) (ds := [.pv ((E3.ro ((r6.drop (Int.toNat r8.1)).take (r6.length - (Int.toNat r8.1))))), .pv ((E3.ro ((r6.drop 0).take ((Int.toNat r8.1) - 0))))]) E22 [((r6.drop (Int.toNat r8.1)).take (r6.length - (Int.toNat r8.1))), ((r6.drop 0).take ((Int.toNat r8.1) - 0))] (by as_aux_lemma => kernel_rfl) rfl rfl rfl ⟨.inr ⟨_, _, _, _, _, rfl, rfl, (Elem.sub_len _ (by omega)), (Elem.sub_cf _ _ (by omega))⟩, .inr ⟨_, _, _, _, _, rfl, rfl, (Elem.sub_len _ (by omega)), (Elem.sub_cf _ _ (by omega))⟩, trivial⟩ (by as_aux_lemma => kernel_rfl) ?_
    refine segs [6] tabOk mixed 4000 (S := .leaf 0) (by as_aux_lemma => kernel_rfl) ?_
    refine sk_leaf ?_
    obtain ⟨r14, e15, h⟩ := bd_ h
    refine call_ok (d := some 36) (fn := 26) (ax := [.pv ((E22.ro [((r6.drop (Int.toNat r8.1)).take (r6.length - (Int.toNat r8.1))), ((r6.drop 0).take ((Int.toNat r8.1) - 0))]))]) (args := [.pv ((E22.ro [((r6.drop (Int.toNat r8.1)).take (r6.length - (Int.toNat r8.1))), ((r6.drop 0).take ((Int.toNat r8.1) - 0))]))]) (ps := [[((r6.drop (Int.toNat r8.1)).take (r6.length - (Int.toNat r8.1))), ((r6.drop 0).take ((Int.toNat r8.1) - 0))].length = [((r6.drop (Int.toNat r8.1)).take (r6.length - (Int.toNat r8.1))), ((r6.drop 0).take ((Int.toNat r8.1) - 0))].length, ∀ i, i < [((r6.drop (Int.toNat r8.1)).take (r6.length - (Int.toNat r8.1))), ((r6.drop 0).take ((Int.toNat r8.1) - 0))].length → ∀ j, j < 1 → E22.cf ([((r6.drop (Int.toNat r8.1)).take (r6.length - (Int.toNat r8.1))), ((r6.drop 0).take ((Int.toNat r8.1) - 0))].getD i E22.z) j = E22.cf ([((r6.drop (Int.toNat r8.1)).take (r6.length - (Int.toNat r8.1))), ((r6.drop 0).take ((Int.toNat r8.1) - 0))].getD i E22.z) j]) (hb' := [.row 3 1 (E3.cR r14)]) (by as_aux_lemma => kernel_rfl) (slices_Concat_int_ok _ _ e15 (al := true)) (by as_aux_lemma => kernel_rfl) ⟨rfl, fun _ _ _ _ => rfl, trivial⟩ (fun _ => (by as_aux_lemma => kernel_rfl)) (by simp) (by simp only [List.map_cons, List.map_nil, Elem.row_up, up_map] <;> rfl) (by as_aux_lemma => kernel_rfl) ?_
    refine segs [6] tabOk mixed 4000 (S := .leaf 0) (by as_aux_lemma => kernel_rfl) ?_
    refine sk_leaf ?_
    obtain rfl := some_ h
    exact end_ok [(0, some 18688)] Try.results8 (ps := [0 = 0, r14.length = r14.length, (0 : Int) = 0, E3.cR r14 = E3.cR r14, AllPv (E3.cR r14)]) (by as_aux_lemma => kernel_rfl) ⟨rfl, rfl, rfl, rfl, (Elem.cR_pv _ _), trivial⟩ (fun _ => ⟨rfl, by simp only [List.mem_cons, List.not_mem_nil, or_false, forall_eq_or_imp, forall_eq]; exact Elem.cR_bald E3_raw _⟩)

set_option maxRecDepth 100000 in
theorem slices_Clone_int_ok (a0 r : List Int) (h : slices_Clone_int a0 = some r) {al : Bool} : PCalls Try.prog 20 [.pv (E3.ro a0)] al (.row 0 1 0 r.length) [.row 3 1 (E3.cR r)] := by
  unfold slices_Clone_int at h
  obtain ⟨g, h⟩ := if_ h
  obtain rfl := some_ h
  refine fn_ok tabOk Try.func20 (by as_aux_lemma => kernel_rfl) (by as_aux_lemma => kernel_rfl) Try.ntmps20 (by simp) ?_
  refine segs [1] tabOk mixed 4000 (S := .leaf 0) (by as_aux_lemma => kernel_rfl) ?_
  refine sk_leaf ?_
  refine nil_ok (d1 := 3) (d2 := 4) (s := 1) (n := a0.length) (c := fun i j => E3.cf (a0.getD i E3.z) j) tabOk (by as_aux_lemma => kernel_rfl) ?_
  intro b hb
  refine segs [] tabOk mixed 4000 (S := .br b (.leaf 0) (.leaf 1)) (by as_aux_lemma => kernel_rfl) ?_
  refine sk_br ?_ ?_ <;> intro hc <;> refine sk_leaf ?_
  · obtain rfl : a0 = [] := List.eq_nil_of_length_eq_zero (hb hc)
    exact end_ok [(0, none)] Try.results20 (ps := [0 = 0, 0 = 0, E3.cR [] = []]) (by as_aux_lemma => kernel_rfl) ⟨rfl, rfl, rfl, trivial⟩ (fun _ => ⟨rfl, by simp only [List.mem_cons, List.not_mem_nil, or_false, forall_eq]; exact Elem.cR_bald E3_raw _⟩)
  · refine bs_ok (d := 5) (e := 3) (s := 1) (n := 0) (cs := []) (cs' := E3.cR []) (by as_aux_lemma => kernel_rfl) rfl (by as_aux_lemma => kernel_rfl) ?_
    refine segs [] tabOk mixed 4000 (S := .leaf 0) (by as_aux_lemma => kernel_rfl) ?_
    refine sk_leaf ?_
    refine app_ok (d := 7) (e := 3) (s := 1) (b := 8) (x := .row 16704 1 0 0) (y := .pv (E3.ro a0)) E3 (xs := []) (ys := a0) (by as_aux_lemma => kernel_rfl) rfl (.row 16704 [] 0 rfl (by as_aux_lemma => kernel_rfl)) (.ro a0) ⟨by simpa using g, by simp; omega⟩ (by as_aux_lemma => kernel_rfl) ?_
    refine segs [] tabOk mixed 4000 (S := .leaf 0) (by as_aux_lemma => kernel_rfl) ?_
    refine sk_leaf ?_
    exact end_ok [(0, some 16832)] Try.results20 (ps := [0 = 0, a0.length = a0.length, E3.cR a0 = E3.cR a0, AllPv (E3.cR a0)]) (by as_aux_lemma => kernel_rfl) ⟨rfl, rfl, rfl, Elem.cR_pv _ _, trivial⟩ (fun _ => ⟨rfl, by simp only [List.mem_cons, List.not_mem_nil, or_false, forall_eq]; exact Elem.cR_bald E3_raw _⟩)

set_option maxHeartbeats 40000000 in
set_option maxRecDepth 100000 in
theorem slices_Reverse_int_h0_ok (a0 : (List Int)) (r : (List Int)) (h : slices_Reverse_int_h0 a0 = some r) {al : Bool} : MCalls Try.prog 27 [.row 0 1 0 a0.length] [.row 3 1 (E3.cR a0)] 1 al (.tup []) [.row 3 1 (E3.cR r)] := by
  unfold slices_Reverse_int_h0 at h
  refine fnM_ok tabOk (fz := []) Try.func27 (by as_aux_lemma => kernel_rfl) (by as_aux_lemma => kernel_rfl) Try.ntmps27 (by simp) (by first | (simp; done) | exact Nat.le_of_ble_eq_true rfl) ?_
  refine segs [] tabOk mixed 4000 (S := .leaf 0) (by as_aux_lemma => kernel_rfl) ?_
  refine sk_leaf ?_
  refine len_row (by as_aux_lemma => kernel_rfl) 0 (e := 3) (s := 1) (n := a0.length) (cs := E3.cR a0) (by as_aux_lemma => kernel_rfl) (Elem.cR_length _ _) ?_; intro hl1_0
  replace h : (fun (x : Nat × Int × Int × List Int) => slices_Reverse_int_h0_l1 a0 x.1 x.2.1 x.2.2.1 x.2.2.2 = some r) (FUEL, 0, (IntKind.i64.wrap (((a0.length : Nat) : Int) - 1)), a0) := h
  refine loop_ok (by as_aux_lemma => kernel_rfl) (X := Nat × Int × Int × List Int) (fun x => slices_Reverse_int_h0_l1 a0 x.1 x.2.1 x.2.2.1 x.2.2.2 = some r) (fun x => x.1) (fun x => mk 28 [(0, .row 0 1 0 x.2.2.2.length), (2, .pv (.raw (.int .i64 x.2.1))), (3, .pv (.raw (.int .i64 x.2.2.1)))] [(0, .row 3 1 (E3.cR x.2.2.2))] [] 1) (FUEL, 0, (IntKind.i64.wrap (((a0.length : Nat) : Int) - 1)), a0) h ?_ ?_
  · exact sub_ok (ρ := [(0, some 0)]) (l := [0 = 0, a0.length = a0.length, (0 : Int) = 0, ((IntKind.i64.wrap (((a0.length : Nat) : Int) - 1)) : Int) = (IntKind.i64.wrap (((a0.length : Nat) : Int) - 1)), E3.cR a0 = E3.cR a0, AllPv (E3.cR a0)]) (by as_aux_lemma => kernel_rfl) ⟨rfl, rfl, rfl, rfl, rfl, (Elem.cR_pv _ _), trivial⟩
  · clear h; rintro ⟨n1, x1, x2, l3⟩ h p1 hp1
    obtain _ | n1 := n1
    · cases (show (none : Option ((List Int))) = some r from h)
    have h : slices_Reverse_int_h0_l1 a0 (n1 + 1) x1 x2 l3 = some r := h
    unfold slices_Reverse_int_h0_l1 at h
    refine segs [] tabOk mixed 4000 (S := .br (decide ((x1 : Int) < x2)) (.and (0 ≤ (x2 : Int) ∧ x2 < ((l3.length : Nat) : Int)) (.leaf 0)) (.leaf 1)) (by as_aux_lemma => kernel_rfl) ?_
    refine br_ h ?_ ?_ <;> clear h <;> intro c4 h
    · refine gd_ h ?_; clear h; intro g5 h
      refine sk_leaf ?_
      refine ld_ok (d := 21) (id := 0) (i := (0 + (Int.toNat x2))) (j := 0) (e := 3) (n := 1) E3 (xs := l3) (by as_aux_lemma => kernel_rfl) (by as_aux_lemma => kernel_rfl) (by first | omega | (simp at * <;> omega) | (simp_all <;> omega)) (by exact Nat.le_of_ble_eq_true rfl) ?_
      refine segs [] tabOk mixed 4000 (S := .and (0 ≤ (x1 : Int) ∧ x1 < ((l3.length : Nat) : Int)) (.leaf 0)) (by as_aux_lemma => kernel_rfl) ?_
      refine gd_ h ?_; clear h; intro g6 h
      refine sk_leaf ?_
      refine ld_ok (d := 25) (id := 0) (i := (0 + (Int.toNat x1))) (j := 0) (e := 3) (n := 1) E3 (xs := l3) (by as_aux_lemma => kernel_rfl) (by as_aux_lemma => kernel_rfl) (by first | omega | (simp at * <;> omega) | (simp_all <;> omega)) (by exact Nat.le_of_ble_eq_true rfl) ?_
      refine segs [] tabOk mixed 4000 (S := .and (0 ≤ (x1 : Int) ∧ x1 < ((l3.length : Nat) : Int)) (.leaf 0)) (by as_aux_lemma => kernel_rfl) ?_
      refine gd_ h ?_; clear h; intro g7 h
      refine sk_leaf ?_
      refine st_ok (id := 0) (i := (0 + (Int.toNat x1))) (j := 0) (e := 3) (vs := [.pv (.raw (.int .i64 (l3.getD (0 + (Int.toNat x2)) 0)))]) E3 (xs := l3) (l3.getD (0 + (Int.toNat x2)) 0) (by as_aux_lemma => kernel_rfl) (by as_aux_lemma => kernel_rfl) (by first | omega | (simp at * <;> omega) | (simp_all <;> omega)) (by exact Nat.le_of_ble_eq_true rfl) rfl ?_
      refine segs [] tabOk mixed 4000 (S := .and (0 ≤ (x2 : Int) ∧ x2 < ((l3.length : Nat) : Int)) (.leaf 0)) (by as_aux_lemma => kernel_rfl) ?_
      refine gd_ h ?_; clear h; intro g8 h
      refine sk_leaf ?_
      refine st_ok (id := 0) (i := (0 + (Int.toNat x2))) (j := 0) (e := 3) (vs := [.pv (.raw (.int .i64 (l3.getD (0 + (Int.toNat x1)) 0)))]) E3 (xs := (l3.set (0 + (Int.toNat x1)) (l3.getD (0 + (Int.toNat x2)) 0))) (l3.getD (0 + (Int.toNat x1)) 0) (by as_aux_lemma => kernel_rfl) (by as_aux_lemma => kernel_rfl) (by first | omega | (simp at * <;> omega) | (simp_all <;> omega)) (by exact Nat.le_of_ble_eq_true rfl) rfl ?_
      refine segs [] tabOk mixed 4000 (S := .leaf 0) (by as_aux_lemma => kernel_rfl) ?_
      refine sk_leaf ?_
      refine back_ok (p := p1) (by as_aux_lemma => kernel_rfl) (hp1 (n1, (IntKind.i64.wrap (x1 + 1)), (IntKind.i64.wrap (x2 - 1)), ((l3.set (0 + (Int.toNat x1)) (l3.getD (0 + (Int.toNat x2)) 0)).set (0 + (Int.toNat x2)) (l3.getD (0 + (Int.toNat x1)) 0))) _ h (Nat.lt_succ_self n1) ?_)
      exact sub_ok (ρ := [(0, some 0)]) (l := [0 = 0, l3.length = (((l3.set (0 + (Int.toNat x1)) (l3.getD (0 + (Int.toNat x2)) 0)).set (0 + (Int.toNat x2)) (l3.getD (0 + (Int.toNat x1)) 0)).length), ((IntKind.i64.wrap (x1 + 1)) : Int) = (IntKind.i64.wrap (x1 + 1)), ((IntKind.i64.wrap (x2 - 1)) : Int) = (IntKind.i64.wrap (x2 - 1)), E3.cR ((l3.set (0 + (Int.toNat x1)) (l3.getD (0 + (Int.toNat x2)) 0)).set (0 + (Int.toNat x2)) (l3.getD (0 + (Int.toNat x1)) 0)) = E3.cR ((l3.set (0 + (Int.toNat x1)) (l3.getD (0 + (Int.toNat x2)) 0)).set (0 + (Int.toNat x2)) (l3.getD (0 + (Int.toNat x1)) 0)), AllPv (E3.cR ((l3.set (0 + (Int.toNat x1)) (l3.getD (0 + (Int.toNat x2)) 0)).set (0 + (Int.toNat x2)) (l3.getD (0 + (Int.toNat x1)) 0)))]) (by as_aux_lemma => kernel_rfl) ⟨rfl, (by first | rfl | (simp; done) | omega | (simp <;> omega)), rfl, rfl, rfl, (Elem.cR_pv _ _), trivial⟩
    · refine sk_leaf ?_
      obtain rfl := some_ h
      exact endM_ok [(0, some 0)] Try.results27 (ps := [E3.cR l3 = E3.cR l3, AllPv (E3.cR l3)]) (by as_aux_lemma => kernel_rfl) ⟨rfl, (Elem.cR_pv _ _), trivial⟩ (fun _ => ⟨rfl, by simp only [List.mem_cons, List.not_mem_nil, or_false, forall_eq_or_imp, forall_eq]; exact Elem.cR_bald E3_raw _⟩)

set_option maxHeartbeats 40000000 in
set_option maxRecDepth 100000 in
theorem lift_Short_ok (a0 : Int) (a1 : (List Int)) (r : (List Int) × Int) (h : lift_Short a0 a1 = some r) {al : Bool} : PCalls Try.prog 9 [.pv (.raw (.int .i64 a0)), .pv ((E3.ro a1))] al (.tup [.row 0 1 0 r.1.length, .pv (.raw (.int .i64 r.2))]) [.row 3 1 (E3.cR r.1)] := by
  unfold lift_Short at h
  refine fnZ_ok tabOk [27] Try.func9 (by as_aux_lemma => kernel_rfl) (by as_aux_lemma => kernel_rfl) Try.ntmps9 (by simp) ?_
  refine segs [11, 12] tabOk mixed 4000 (S := .leaf 0) (by as_aux_lemma => kernel_rfl) ?_
  refine sk_leaf ?_
  obtain ⟨r1, e2, h⟩ := bd_ h
  refine call_ok (d := some 16) (fn := 22) (ax := [.pv (.raw (.int .i64 a0)), .pv ((E3.ro a1))]) (args := [.pv (.raw (.int .i64 a0)), .pv ((E3.ro a1))]) (ps := [(a0 : Int) = a0, a1.length = a1.length, ∀ i, i < a1.length → ∀ j, j < 1 → E3.cf (a1.getD i E3.z) j = E3.cf (a1.getD i E3.z) j]) (hb' := []) (by as_aux_lemma => kernel_rfl) (lift_Way_ok _ _ _ e2 (al := true)) (by as_aux_lemma => kernel_rfl) ⟨rfl, rfl, fun _ _ _ _ => rfl, trivial⟩ (fun _ => (by as_aux_lemma => kernel_rfl)) (by simp) rfl (by as_aux_lemma => kernel_rfl) ?_
  refine segs [11, 12] tabOk mixed 4000 (S := .br ((r1.2 : Int) != 0) (.leaf 0) (.br ((((a1.length : Nat) : Int) : Int) == 0) (.leaf 1) (.leaf 2))) (by as_aux_lemma => kernel_rfl) ?_
  refine br_ h ?_ ?_ <;> clear h <;> intro c3 h
  · refine sk_leaf ?_
    obtain rfl := some_ h
    exact end_ok [(0, none)] Try.results9 (ps := [0 = 0, ([] : List Int).length = 0, (r1.2 : Int) = r1.2, E3.cR [] = []]) (by as_aux_lemma => kernel_rfl) ⟨rfl, rfl, rfl, rfl, trivial⟩ (fun _ => ⟨rfl, by simp only [List.mem_cons, List.not_mem_nil, or_false, forall_eq_or_imp, forall_eq]; exact Elem.cR_bald E3_raw _⟩)
  · refine br_ h ?_ ?_ <;> clear h <;> intro c4 h
    · refine sk_leaf ?_
      obtain rfl := some_ h
      exact end_ok [(0, none)] Try.results9 (ps := [0 = 0, ([] : List Int).length = 0, (0 : Int) = 0, E3.cR [] = []]) (by as_aux_lemma => kernel_rfl) ⟨rfl, rfl, rfl, rfl, trivial⟩ (fun _ => ⟨rfl, by simp only [List.mem_cons, List.not_mem_nil, or_false, forall_eq_or_imp, forall_eq]; exact Elem.cR_bald E3_raw _⟩)
    · refine sk_leaf ?_
      obtain ⟨r5, e6, h⟩ := bd_ h
      refine call_ok (d := some 26) (fn := 11) (ax := [.pv ((E3.ro a1))]) (args := [.pv ((E3.ro a1))]) (ps := [a1.length = a1.length, ∀ i, i < a1.length → ∀ j, j < 1 → E3.cf (a1.getD i E3.z) j = E3.cf (a1.getD i E3.z) j]) (hb' := []) (by as_aux_lemma => kernel_rfl) (slices_Values_int_ok _ _ e6) (by as_aux_lemma => kernel_rfl) ⟨rfl, fun _ _ _ _ => rfl, trivial⟩ (fun _ => (by as_aux_lemma => kernel_rfl)) (by simp) rfl (by as_aux_lemma => kernel_rfl) ?_
      refine segs [11, 12] tabOk mixed 4000 (S := .leaf 0) (by as_aux_lemma => kernel_rfl) ?_
      refine sk_leaf ?_
      obtain ⟨r7, e8, h⟩ := bd_ h
      refine call_ok (d := some 27) (fn := 10) (ax := [.fn 30 [.roat 1 (fun j => E22.cf a1 j)]]) (args := [.fn 30 [.roat 1 (fun j => E22.cf a1 j)]]) (ps := [a1.length = a1.length, ∀ i, i < a1.length → ∀ j, j < 1 → E3.cf (a1.getD i E3.z) j = E3.cf (a1.getD i E3.z) j]) (hb' := [.row 3 1 (E3.cR r7)]) (by as_aux_lemma => kernel_rfl) (slices_Sorted_int_ok _ _ e8 (al := false)) (by as_aux_lemma => kernel_rfl) ⟨rfl, fun _ _ _ _ => rfl, trivial⟩ (fun hx => by cases hx) (by simp) (by simp only [List.map_cons, List.map_nil, Elem.row_up, up_map] <;> rfl) (by as_aux_lemma => kernel_rfl) ?_
      refine segs [11, 12] tabOk mixed 4000 (S := .leaf 0) (by as_aux_lemma => kernel_rfl) ?_
      refine sk_leaf ?_
      obtain ⟨r9, e10, h⟩ := bd_ h
      refine call_ok (d := some 31) (fn := 25) (ax := [.row 18112 1 0 r7.length, .pv (.raw (.int .i64 a0))]) (args := [.pv ((E3.ro r7)), .pv (.raw (.int .i64 a0))]) (ps := [r7.length = r7.length, rowQ (E3.cR r7) 1 0 r7.length (fun i j => E3.cf (r7.getD i E3.z) j), (a0 : Int) = a0]) (hb' := []) (by as_aux_lemma => kernel_rfl) (slices_BinarySearch_int_ok _ _ _ e10 (al := false)) (by as_aux_lemma => kernel_rfl) ⟨(by first | rfl | exact Elem.sub_len _ (by omega) | omega | simp | (simp <;> omega)), E3.rowQ_all r7 rfl, rfl, trivial⟩ (fun hx => by cases hx) (by simp) rfl (by as_aux_lemma => kernel_rfl) ?_
      refine segs [11, 12] tabOk mixed 4000 (S := .and (0 ≤ (r9.1 : Int)) (.and ((Int.toNat r9.1) ≤ r7.length) (.and (0 ≤ (r9.1 : Int)) (.and ((Int.toNat r9.1) ≤ r7.length) (.leaf 0))))) (by as_aux_lemma => kernel_rfl) ?_
      refine gd_ h ?_; clear h; intro g11 h
      refine gd_ h ?_; clear h; intro g12 h
      refine gd_ h ?_; clear h; intro g13 h
      refine gd_ h ?_; clear h; intro g14 h
      refine sk_leaf ?_
      obtain ⟨r15, e16, h⟩ := bd_ h
      refine call_ok (d := some 40) (fn := 20) (ax := [.row 18112 1 (0 + 0) ((Int.toNat r9.1) - 0)]) (args := [.pv ((E3.ro ((r7.drop (0 + 0)).take ((Int.toNat r9.1) - 0))))]) (ps := [((Int.toNat r9.1) - 0) = ((r7.drop (0 + 0)).take ((Int.toNat r9.1) - 0)).length, rowQ (E3.cR r7) 1 (0 + 0) ((Int.toNat r9.1) - 0) (fun i j => E3.cf (((r7.drop (0 + 0)).take ((Int.toNat r9.1) - 0)).getD i E3.z) j)]) (hb' := [.row 3 1 (E3.cR r15)]) (by as_aux_lemma => kernel_rfl) (slices_Clone_int_ok _ _ e16 (al := false)) (by as_aux_lemma => kernel_rfl) ⟨(by first | rfl | exact Elem.sub_len _ (by omega) | omega | simp | (simp <;> omega)), E3.rowQ_part r7 (0 + 0) ((Int.toNat r9.1) - 0) (by first | omega | (simp at * <;> omega) | (simp_all <;> omega)), trivial⟩ (fun hx => by cases hx) (by simp) (by simp only [List.map_cons, List.map_nil, Elem.row_up, up_map] <;> rfl) (by as_aux_lemma => kernel_rfl) ?_
      refine segs [11, 12] tabOk mixed 4000 (S := .leaf 0) (by as_aux_lemma => kernel_rfl) ?_
      refine sk_leaf ?_
      obtain ⟨r17, e18, h⟩ := bd_ h
      obtain ⟨g19, h⟩ := if_ h
      refine mcall_ok (d := some 42) (fn := 27) (ax := [.row 18944 1 0 r15.length]) (hs := [(18944, .row 3 1 (E3.cR r17))]) (del := []) (ps := [0 = 0, r15.length = r15.length, E3.cR r15 = E3.cR r15, AllPv (E3.cR r15)]) [(0, some 18944)] (by as_aux_lemma => kernel_rfl) (slices_Reverse_int_h0_ok _ _ e18 (al := true)) (by as_aux_lemma => kernel_rfl) ⟨rfl, rfl, rfl, (Elem.cR_pv _ _), trivial⟩ (by as_aux_lemma => kernel_rfl) (by simp only [List.cons_append, List.nil_append, List.append_nil, rB, rA, fl, mset_row, mset_box, mset_nil, mset_map, List.set_set]; kernel_rfl) (by as_aux_lemma => kernel_rfl) ?_
      refine segs [11, 12] tabOk mixed 4000 (S := .and (0 ≤ ((IntKind.i64.wrap (((r7.length : Nat) : Int) - 1)) : Int) ∧ (IntKind.i64.wrap (((r7.length : Nat) : Int) - 1)) < ((r7.length : Nat) : Int)) (.leaf 0)) (by as_aux_lemma => kernel_rfl) ?_
      refine gd_ h ?_; clear h; intro g20 h
      refine sk_leaf ?_
      refine ld_ok (d := 48) (id := 18112) (i := (0 + (Int.toNat (IntKind.i64.wrap (((r7.length : Nat) : Int) - 1))))) (j := 0) (e := 3) (n := 1) E3 (xs := r7) (by as_aux_lemma => kernel_rfl) (by as_aux_lemma => kernel_rfl) (by first | omega | (simp at * <;> omega) | (simp_all <;> omega)) (by exact Nat.le_of_ble_eq_true rfl) ?_
      refine segs [11, 12] tabOk mixed 4000 (S := .and (0 ≤ (0 : Int) ∧ 0 < ((r7.length : Nat) : Int)) (.leaf 0)) (by as_aux_lemma => kernel_rfl) ?_
      refine gd_ h ?_; clear h; intro g21 h
      refine sk_leaf ?_
      refine ld_ok (d := 54) (id := 18112) (i := (0 + 0)) (j := 0) (e := 3) (n := 1) E3 (xs := r7) (by as_aux_lemma => kernel_rfl) (by as_aux_lemma => kernel_rfl) (by first | omega | (simp at * <;> omega) | (simp_all <;> omega)) (by exact Nat.le_of_ble_eq_true rfl) ?_
      refine segs [11, 12] tabOk mixed 4000 (S := .br (decide (((IntKind.i64.wrap ((r7.getD (0 + (Int.toNat (IntKind.i64.wrap (((r7.length : Nat) : Int) - 1)))) 0) - a0)) : Int) ≤ (IntKind.i64.wrap (a0 - (r7.getD (0 + 0) 0))))) (.leaf 0) (.leaf 1)) (by as_aux_lemma => kernel_rfl) ?_
      refine br_ h ?_ ?_ <;> clear h <;> intro c22 h
      · refine sk_leaf ?_
        refine cut_ok (by as_aux_lemma => kernel_rfl) (τ := mk 65 [(4, .pv (.raw (.slice none 0 0))), (5, .pv (.raw (.int .i64 0))), (11, .pv ((E3.ro ((r7.drop (0 + (Int.toNat r9.1))).take (r7.length - (Int.toNat r9.1)))))), (12, .pv ((E3.ro r17)))] [] [27]) (sub_ok (ρ := []) (l := [(0 : Int) = 0, (r7.length - (Int.toNat r9.1)) = ((r7.drop (0 + (Int.toNat r9.1))).take (r7.length - (Int.toNat r9.1))).length, rowQ (E3.cR r7) 1 (0 + (Int.toNat r9.1)) (r7.length - (Int.toNat r9.1)) (fun i j => E3.cf (((r7.drop (0 + (Int.toNat r9.1))).take (r7.length - (Int.toNat r9.1))).getD i E3.z) j), r15.length = r17.length, rowQ (E3.cR r17) 1 0 r15.length (fun i j => E3.cf (r17.getD i E3.z) j)]) (by as_aux_lemma => kernel_rfl) ⟨rfl, (by first | rfl | exact Elem.sub_len _ (by omega) | omega | simp | (simp <;> omega)), E3.rowQ_part r7 (0 + (Int.toNat r9.1)) (r7.length - (Int.toNat r9.1)) (by first | omega | (simp at * <;> omega) | (simp_all <;> omega)), (by first | rfl | exact Elem.sub_len _ (by omega) | omega | simp | (simp <;> omega)), E3.rowQ_all r17 (by first | omega | simp | (simp <;> omega) | (simp at * <;> omega)), trivial⟩) ?_
        refine segs [12] tabOk mixed 4000 (S := .leaf 0) (by as_aux_lemma => kernel_rfl) ?_
        refine sk_leaf ?_
        refine bs_ok (d := 59) (e := 22) (s := 1) (n := 2) (cs := [.pv ((E3.ro ((r7.drop (0 + (Int.toNat r9.1))).take (r7.length - (Int.toNat r9.1))))), .pv ((E3.ro r17))]) (cs' := E22.cR [((r7.drop (0 + (Int.toNat r9.1))).take (r7.length - (Int.toNat r9.1))), r17]) (by as_aux_lemma => kernel_rfl) rfl (by as_aux_lemma => kernel_rfl) ?_
        refine segs [11, 12] tabOk mixed 4000 (S := .leaf 0) (by as_aux_lemma => kernel_rfl) ?_
        refine sk_leaf ?_
        obtain ⟨r23, e24, h⟩ := bd_ h
        refine call_ok (d := some 60) (fn := 26) (ax := [.row 20160 1 0 2]) (args := [.pv ((E22.ro [((r7.drop (0 + (Int.toNat r9.1))).take (r7.length - (Int.toNat r9.1))), r17]))]) (ps := [2 = [((r7.drop (0 + (Int.toNat r9.1))).take (r7.length - (Int.toNat r9.1))), r17].length, rowQ (E22.cR [((r7.drop (0 + (Int.toNat r9.1))).take (r7.length - (Int.toNat r9.1))), r17]) 1 0 2 (fun i j => E22.cf ([((r7.drop (0 + (Int.toNat r9.1))).take (r7.length - (Int.toNat r9.1))), r17].getD i E22.z) j)]) (hb' := [.row 3 1 (E3.cR r23)]) (by as_aux_lemma => kernel_rfl) (slices_Concat_int_ok _ _ e24 (al := false)) (by as_aux_lemma => kernel_rfl) ⟨(by first | rfl | exact Elem.sub_len _ (by omega) | omega | simp | (simp <;> omega)), E22.rowQ_all [((r7.drop (0 + (Int.toNat r9.1))).take (r7.length - (Int.toNat r9.1))), r17] rfl, trivial⟩ (fun hx => by cases hx) (by simp) (by simp only [List.map_cons, List.map_nil, Elem.row_up, up_map] <;> rfl) (by as_aux_lemma => kernel_rfl) ?_
        refine segs [11, 12] tabOk mixed 4000 (S := .leaf 0) (by as_aux_lemma => kernel_rfl) ?_
        refine sk_leaf ?_
        obtain rfl := some_ h
        exact end_ok [(0, some 20224)] Try.results9 (ps := [0 = 0, r23.length = r23.length, (0 : Int) = 0, E3.cR r23 = E3.cR r23, AllPv (E3.cR r23)]) (by as_aux_lemma => kernel_rfl) ⟨rfl, rfl, rfl, rfl, (Elem.cR_pv _ _), trivial⟩ (fun _ => ⟨rfl, by simp only [List.mem_cons, List.not_mem_nil, or_false, forall_eq_or_imp, forall_eq]; exact Elem.cR_bald E3_raw _⟩)
      · refine sk_leaf ?_
        refine cut_ok (by as_aux_lemma => kernel_rfl) (τ := mk 65 [(4, .pv (.raw (.slice none 0 0))), (5, .pv (.raw (.int .i64 0))), (11, .pv ((E3.ro ((r7.drop (0 + (Int.toNat r9.1))).take (r7.length - (Int.toNat r9.1)))))), (12, .pv ((E3.ro r17)))] [] [27]) (sub_ok (ρ := []) (l := [(0 : Int) = 0, (r7.length - (Int.toNat r9.1)) = ((r7.drop (0 + (Int.toNat r9.1))).take (r7.length - (Int.toNat r9.1))).length, rowQ (E3.cR r7) 1 (0 + (Int.toNat r9.1)) (r7.length - (Int.toNat r9.1)) (fun i j => E3.cf (((r7.drop (0 + (Int.toNat r9.1))).take (r7.length - (Int.toNat r9.1))).getD i E3.z) j), r15.length = r17.length, rowQ (E3.cR r17) 1 0 r15.length (fun i j => E3.cf (r17.getD i E3.z) j)]) (by as_aux_lemma => kernel_rfl) ⟨rfl, (by first | rfl | exact Elem.sub_len _ (by omega) | omega | simp | (simp <;> omega)), E3.rowQ_part r7 (0 + (Int.toNat r9.1)) (r7.length - (Int.toNat r9.1)) (by first | omega | (simp at * <;> omega) | (simp_all <;> omega)), (by first | rfl | exact Elem.sub_len _ (by omega) | omega | simp | (simp <;> omega)), E3.rowQ_all r17 (by first | omega | simp | (simp <;> omega) | (simp at * <;> omega)), trivial⟩) ?_
        refine segs [11] tabOk mixed 4000 (S := .leaf 0) (by as_aux_lemma => kernel_rfl) ?_
        refine sk_leaf ?_
        refine bs_ok (d := 63) (e := 22) (s := 1) (n := 2) (cs := [.pv ((E3.ro r17)), .pv ((E3.ro ((r7.drop (0 + (Int.toNat r9.1))).take (r7.length - (Int.toNat r9.1)))))]) (cs' := E22.cR [r17, ((r7.drop (0 + (Int.toNat r9.1))).take (r7.length - (Int.toNat r9.1)))]) (by as_aux_lemma => kernel_rfl) rfl (by as_aux_lemma => kernel_rfl) ?_
        refine segs [11, 12] tabOk mixed 4000 (S := .leaf 0) (by as_aux_lemma => kernel_rfl) ?_
        refine sk_leaf ?_
        obtain ⟨r25, e26, h⟩ := bd_ h
        refine call_ok (d := some 64) (fn := 26) (ax := [.row 20416 1 0 2]) (args := [.pv ((E22.ro [r17, ((r7.drop (0 + (Int.toNat r9.1))).take (r7.length - (Int.toNat r9.1)))]))]) (ps := [2 = [r17, ((r7.drop (0 + (Int.toNat r9.1))).take (r7.length - (Int.toNat r9.1)))].length, rowQ (E22.cR [r17, ((r7.drop (0 + (Int.toNat r9.1))).take (r7.length - (Int.toNat r9.1)))]) 1 0 2 (fun i j => E22.cf ([r17, ((r7.drop (0 + (Int.toNat r9.1))).take (r7.length - (Int.toNat r9.1)))].getD i E22.z) j)]) (hb' := [.row 3 1 (E3.cR r25)]) (by as_aux_lemma => kernel_rfl) (slices_Concat_int_ok _ _ e26 (al := false)) (by as_aux_lemma => kernel_rfl) ⟨(by first | rfl | exact Elem.sub_len _ (by omega) | omega | simp | (simp <;> omega)), E22.rowQ_all [r17, ((r7.drop (0 + (Int.toNat r9.1))).take (r7.length - (Int.toNat r9.1)))] rfl, trivial⟩ (fun hx => by cases hx) (by simp) (by simp only [List.map_cons, List.map_nil, Elem.row_up, up_map] <;> rfl) (by as_aux_lemma => kernel_rfl) ?_
        refine segs [11, 12] tabOk mixed 4000 (S := .leaf 0) (by as_aux_lemma => kernel_rfl) ?_
        refine sk_leaf ?_
        obtain rfl := some_ h
        exact end_ok [(0, some 20480)] Try.results9 (ps := [0 = 0, r25.length = r25.length, (0 : Int) = 0, E3.cR r25 = E3.cR r25, AllPv (E3.cR r25)]) (by as_aux_lemma => kernel_rfl) ⟨rfl, rfl, rfl, rfl, (Elem.cR_pv _ _), trivial⟩ (fun _ => ⟨rfl, by simp only [List.mem_cons, List.not_mem_nil, or_false, forall_eq_or_imp, forall_eq]; exact Elem.cR_bald E3_raw _⟩)

theorem slices_Values_api_Span_ok (a0 : List Api_Span) (r : Unit) (h : slices_Values_api_Span a0 = some r) : PCalls Try.prog 32 [.pv (E38.ro a0)] true (.fn 44 [.roat 1 (fun j => E33.cf a0 j)]) [] :=
  values_pcalls ⟨_, Try.func32, by kernel_rfl, by kernel_rfl⟩ rfl (fun a n cap w => Try.values2_calls a n cap w)

theorem slices_Collect_api_Span_ok (a0 r : List Api_Span) (h : slices_Collect_api_Span a0 = some r) {al : Bool} : PCalls Try.prog 42 [.fn 44 [.roat 1 (fun j => E33.cf a0 j)]] al (.row 0 2 0 r.length) [.row 38 2 (E38.cR r)] := by
  unfold slices_Collect_api_Span at h
  obtain ⟨g, h⟩ := if_ h
  obtain rfl := some_ h
  exact collect2_pcalls (e := 38) (xs := a0) (q := fun x => (x.1, x.2)) ⟨_, Try.func42, by kernel_rfl, by kernel_rfl⟩ rfl (fun _ => rfl) (fun _ => rfl) rfl fun gg o b off cap a w hn hgl hbl ha hp hc => by
    have := Try.collect_vals2 gg o b off cap (a0.map fun x => (x.1, x.2)) (by rw [List.length_map]; unfold maxLen; omega) (by rw [List.length_map]; exact g) w hgl (by rw [List.length_map]; exact hbl) a (by rw [List.length_map]; exact ha) (by rw [List.length_map]; exact hp) (by rw [List.length_map]; exact hc)
    rw [List.length_map] at this
    exact this

theorem slices_SortFunc_api_Span_ok (a0 r : List Api_Span) (h : slices_SortFunc_api_Span a0 = some r) {al : Bool} : MCalls Try.prog 43 [.row 0 2 0 a0.length, .fn 33 []] [.row 38 2 (E38.cR a0)] 1 al (.tup []) [.row 38 2 (E38.cR r)] := by
  unfold slices_SortFunc_api_Span at h
  split at h
  · rename_i hd
    obtain rfl := some_ h
    refine sortf_mcalls (k := 2) (q := sfq) ⟨_, Try.func43, by kernel_rfl, by kernel_rfl⟩ (by decide) rfl sfq_length (fun x j hj => ?_) sfq_one (srtF_length sf_swo) (fun hx a c w => ?_) (fun g0 o0 c w hx hg hH hsz => ?_)
    · match j, hj with
      | 0, _ => exact ⟨_, rfl, rfl⟩
      | 1, _ => exact ⟨_, rfl, rfl⟩
    · subst hx
      exact sf_none a c _ w
    · exact sf_calls g0 o0 c w hg hH hsz
  · cases h

set_option maxHeartbeats 40000000 in
set_option maxRecDepth 100000 in
theorem slices_SortedFunc_api_Span_slices_Values_1_api_Span_lift_Merge_1_ok (a0 : (List Api_Span)) (r : (List Api_Span)) (h : slices_SortedFunc_api_Span_slices_Values_1_api_Span_lift_Merge_1 a0 = some r) {al : Bool} : PCalls Try.prog 31 [.fn 44 [.roat 1 (fun j => E33.cf a0 j)], .fn 33 []] al (.row 0 2 0 r.length) [.row 38 2 (E38.cR r)] := by
  unfold slices_SortedFunc_api_Span_slices_Values_1_api_Span_lift_Merge_1 at h
  refine fnZ_ok tabOk [43] Try.func31 (by as_aux_lemma => kernel_rfl) (by as_aux_lemma => kernel_rfl) Try.ntmps31 (by simp) ?_
  refine segs [] tabOk mixed 4000 (S := .leaf 0) (by as_aux_lemma => kernel_rfl) ?_
  refine sk_leaf ?_
  obtain ⟨r1, e2, h⟩ := bd_ h
  refine call_ok (d := some 7) (fn := 42) (ax := [.fn 44 [.roat 1 (fun j => E33.cf a0 j)]]) (args := [.fn 44 [.roat 1 (fun j => E33.cf a0 j)]]) (ps := [a0.length = a0.length, ∀ i, i < a0.length → ∀ j, j < 2 → E38.cf (a0.getD i E38.z) j = E38.cf (a0.getD i E38.z) j]) (hb' := [.row 38 2 (E38.cR r1)]) (by as_aux_lemma => kernel_rfl) (slices_Collect_api_Span_ok _ _ e2 (al := false)) (by as_aux_lemma => kernel_rfl) ⟨rfl, fun _ _ _ _ => rfl, trivial⟩ (fun hx => by cases hx) (by simp) (by simp only [List.map_cons, List.map_nil, Elem.row_up, up_map] <;> rfl) (by as_aux_lemma => kernel_rfl) ?_
  refine segs [] tabOk mixed 4000 (S := .leaf 0) (by as_aux_lemma => kernel_rfl) ?_
  refine sk_leaf ?_
  obtain ⟨r3, e4, h⟩ := bd_ h
  obtain ⟨g5, h⟩ := if_ h
  refine mcall_ok (d := some 10) (fn := 43) (ax := [.row 16832 2 0 r1.length, .fn 33 []]) (hs := [(16832, .row 38 2 (E38.cR r3))]) (del := []) (ps := [0 = 0, r1.length = r1.length, E38.cR r1 = E38.cR r1, AllPv (E38.cR r1)]) [(0, some 16832)] (by as_aux_lemma => kernel_rfl) (slices_SortFunc_api_Span_ok _ _ e4 (al := true)) (by as_aux_lemma => kernel_rfl) ⟨rfl, rfl, rfl, (Elem.cR_pv _ _), trivial⟩ (by as_aux_lemma => kernel_rfl) (by simp only [List.cons_append, List.nil_append, List.append_nil, rB, rA, fl, mset_row, mset_box, mset_nil, mset_map, List.set_set]; kernel_rfl) (by as_aux_lemma => kernel_rfl) ?_
  refine segs [] tabOk mixed 4000 (S := .leaf 0) (by as_aux_lemma => kernel_rfl) ?_
  refine sk_leaf ?_
  obtain rfl := some_ h
  exact end_ok [(0, some 16832)] Try.results31 (ps := [0 = 0, r1.length = r3.length, E38.cR r3 = E38.cR r3, AllPv (E38.cR r3)]) (by as_aux_lemma => kernel_rfl) ⟨rfl, (by first | omega | (simp; done) | (simp <;> omega) | (simp at * <;> omega)), rfl, (Elem.cR_pv _ _), trivial⟩ (fun _ => ⟨rfl, by simp only [List.mem_cons, List.not_mem_nil, or_false, forall_eq_or_imp, forall_eq]; exact Elem.cR_bald E38_raw _⟩)

set_option maxHeartbeats 40000000 in
set_option maxRecDepth 100000 in
theorem lift_Merge_ok (a0 : (List Api_Span)) (r : (List Api_Span) × Int) (h : lift_Merge a0 = some r) {al : Bool} : PCalls Try.prog 13 [.pv ((E38.ro a0))] al (.tup [.row 0 2 0 r.1.length, .pv (.raw (.int .i64 r.2))]) [.row 38 2 (E38.cR r.1)] := by
  unfold lift_Merge at h
  refine fn_ok tabOk Try.func13 (by as_aux_lemma => kernel_rfl) (by as_aux_lemma => kernel_rfl) Try.ntmps13 (by simp) ?_
  refine segs [] tabOk mixed 4000 (S := .br (decide ((((a0.length : Nat) : Int) : Int) > 400)) (.leaf 0) (.leaf 1)) (by as_aux_lemma => kernel_rfl) ?_
  refine br_ h ?_ ?_ <;> clear h <;> intro c1 h
  · refine sk_leaf ?_
    obtain rfl := some_ h
    exact end_ok [(0, none)] Try.results13 (ps := [0 = 0, ([] : List Api_Span).length = 0, (2 : Int) = 2, E38.cR [] = []]) (by as_aux_lemma => kernel_rfl) ⟨rfl, rfl, rfl, rfl, trivial⟩ (fun _ => ⟨rfl, by simp only [List.mem_cons, List.not_mem_nil, or_false, forall_eq_or_imp, forall_eq]; exact Elem.cR_bald E38_raw _⟩)
  · refine sk_leaf ?_
    refine len_ro (by as_aux_lemma => kernel_rfl) 0 (s := 2) (n := a0.length) (c := fun i j => E38.cf (a0.getD i E38.z) j) (by as_aux_lemma => kernel_rfl) ?_; intro hl1_0
    refine len_ro (by as_aux_lemma => kernel_rfl) 14 (s := 2) (n := a0.length) (c := fun i j => E38.cf (a0.getD i E38.z) j) (by as_aux_lemma => kernel_rfl) ?_; intro hl1_1
    replace h : (fun (x : Nat × Nat) => lift_Merge_l1 a0 x.1 x.2 = some r) (FUEL, 0) := h
    refine loop_ok (by as_aux_lemma => kernel_rfl) (X := Nat × Nat) (fun x => lift_Merge_l1 a0 x.1 x.2 = some r) (fun x => x.1) (fun x => mk 78 [(0, .pv ((E38.ro a0))), (2, .pv (.raw (.slice none 0 0))), (3, .pv (.raw (.int .i64 0))), (14, .pv ((E38.ro a0))), (15, .pv (.raw (.int .i64 ((a0.length : Nat) : Int)))), (16, .pv (.raw (.int .i64 ((x.2 : Nat) : Int))))] []) (FUEL, 0) h ?_ ?_
    · exact sub_ok (ρ := []) (l := [a0.length = a0.length, ∀ i, i < a0.length → ∀ j, j < 2 → E38.cf (a0.getD i E38.z) j = E38.cf (a0.getD i E38.z) j, (0 : Int) = 0, a0.length = a0.length, ∀ i, i < a0.length → ∀ j, j < 2 → E38.cf (a0.getD i E38.z) j = E38.cf (a0.getD i E38.z) j, (((a0.length : Nat) : Int) : Int) = ((a0.length : Nat) : Int), (0 : Int) = ((0 : Nat) : Int)]) (by as_aux_lemma => kernel_rfl) ⟨rfl, fun _ _ _ _ => rfl, rfl, rfl, fun _ _ _ _ => rfl, rfl, (by first | rfl | simp), trivial⟩
    · clear h; rintro ⟨n1, k2⟩ h p1 hp1
      obtain _ | n1 := n1
      · cases (show (none : Option ((List Api_Span) × Int)) = some r from h)
      have h : lift_Merge_l1 a0 (n1 + 1) k2 = some r := h
      unfold lift_Merge_l1 at h
      refine segs [] tabOk mixed 4000 (S := .br (decide ((((k2 : Nat) : Int) : Int) < ((a0.length : Nat) : Int))) (.and (0 ≤ (((k2 : Nat) : Int) : Int) ∧ ((k2 : Nat) : Int) < ((a0.length : Nat) : Int)) (.and (((!(decide (((a0.getD k2 (⟨0, 0⟩ : Api_Span)).From : Int) < 0))) = true → ((!(decide (((a0.getD k2 (⟨0, 0⟩ : Api_Span)).From : Int) < 0))) = true))) (.and (((!(decide (((a0.getD k2 (⟨0, 0⟩ : Api_Span)).From : Int) < 0))) = true → ((!(decide (((a0.getD k2 (⟨0, 0⟩ : Api_Span)).From : Int) < 0))) = true))) (.and (((!(decide (((a0.getD k2 (⟨0, 0⟩ : Api_Span)).From : Int) < 0))) = true → ((!(decide (((a0.getD k2 (⟨0, 0⟩ : Api_Span)).From : Int) < 0))) = true))) (.and (((!(decide (((a0.getD k2 (⟨0, 0⟩ : Api_Span)).From : Int) < 0))) = true → ((!(decide (((a0.getD k2 (⟨0, 0⟩ : Api_Span)).From : Int) < 0))) = true))) (.and ((decide (((a0.getD k2 (⟨0, 0⟩ : Api_Span)).From : Int) < 0)) = false → (!(decide (((a0.getD k2 (⟨0, 0⟩ : Api_Span)).From : Int) < 0))) = true) (.and (((!((decide (((a0.getD k2 (⟨0, 0⟩ : Api_Span)).From : Int) < 0)) || (decide (((a0.getD k2 (⟨0, 0⟩ : Api_Span)).From : Int) ≥ ((a0.getD k2 (⟨0, 0⟩ : Api_Span)).To))))) = true → ((!((decide (((a0.getD k2 (⟨0, 0⟩ : Api_Span)).From : Int) < 0)) || (decide (((a0.getD k2 (⟨0, 0⟩ : Api_Span)).From : Int) ≥ ((a0.getD k2 (⟨0, 0⟩ : Api_Span)).To))))) = true))) (.and (((!((decide (((a0.getD k2 (⟨0, 0⟩ : Api_Span)).From : Int) < 0)) || (decide (((a0.getD k2 (⟨0, 0⟩ : Api_Span)).From : Int) ≥ ((a0.getD k2 (⟨0, 0⟩ : Api_Span)).To))))) = true → ((!((decide (((a0.getD k2 (⟨0, 0⟩ : Api_Span)).From : Int) < 0)) || (decide (((a0.getD k2 (⟨0, 0⟩ : Api_Span)).From : Int) ≥ ((a0.getD k2 (⟨0, 0⟩ : Api_Span)).To))))) = true))) (.and (((decide (((a0.getD k2 (⟨0, 0⟩ : Api_Span)).From : Int) < 0)) || (decide (((a0.getD k2 (⟨0, 0⟩ : Api_Span)).From : Int) ≥ ((a0.getD k2 (⟨0, 0⟩ : Api_Span)).To)))) = false → (!((decide (((a0.getD k2 (⟨0, 0⟩ : Api_Span)).From : Int) < 0)) || (decide (((a0.getD k2 (⟨0, 0⟩ : Api_Span)).From : Int) ≥ ((a0.getD k2 (⟨0, 0⟩ : Api_Span)).To))))) = true) (.br (((decide (((a0.getD k2 (⟨0, 0⟩ : Api_Span)).From : Int) < 0)) || (decide (((a0.getD k2 (⟨0, 0⟩ : Api_Span)).From : Int) ≥ ((a0.getD k2 (⟨0, 0⟩ : Api_Span)).To)))) || (decide (((a0.getD k2 (⟨0, 0⟩ : Api_Span)).To : Int) > 1099511627776))) (.leaf 0) (.leaf 1))))))))))) (.leaf 2)) (by as_aux_lemma => kernel_rfl) ?_
      refine br_ h ?_ ?_ <;> clear h <;> intro c3 h
      · refine sk_and ⟨Int.natCast_nonneg _, of_decide_eq_true c3⟩ ?_
        refine sk_and ((by decide : ∀ y0 : Bool, ((y0 = true) → (y0 = true))) (!(decide (((a0.getD k2 (⟨0, 0⟩ : Api_Span)).From : Int) < 0)))) ?_
        refine sk_and ((by decide : ∀ y0 : Bool, ((y0 = true) → (y0 = true))) (!(decide (((a0.getD k2 (⟨0, 0⟩ : Api_Span)).From : Int) < 0)))) ?_
        refine sk_and ((by decide : ∀ y0 : Bool, ((y0 = true) → (y0 = true))) (!(decide (((a0.getD k2 (⟨0, 0⟩ : Api_Span)).From : Int) < 0)))) ?_
        refine sk_and ((by decide : ∀ y0 : Bool, ((y0 = true) → (y0 = true))) (!(decide (((a0.getD k2 (⟨0, 0⟩ : Api_Span)).From : Int) < 0)))) ?_
        refine sk_and ((by decide : ∀ y0 : Bool, ((y0 = false) → ((!y0) = true))) (decide (((a0.getD k2 (⟨0, 0⟩ : Api_Span)).From : Int) < 0))) ?_
        refine sk_and ((by decide : ∀ y0 : Bool, ((y0 = true) → (y0 = true))) (!((decide (((a0.getD k2 (⟨0, 0⟩ : Api_Span)).From : Int) < 0)) || (decide (((a0.getD k2 (⟨0, 0⟩ : Api_Span)).From : Int) ≥ ((a0.getD k2 (⟨0, 0⟩ : Api_Span)).To)))))) ?_
        refine sk_and ((by decide : ∀ y0 : Bool, ((y0 = true) → (y0 = true))) (!((decide (((a0.getD k2 (⟨0, 0⟩ : Api_Span)).From : Int) < 0)) || (decide (((a0.getD k2 (⟨0, 0⟩ : Api_Span)).From : Int) ≥ ((a0.getD k2 (⟨0, 0⟩ : Api_Span)).To)))))) ?_
        refine sk_and ((by decide : ∀ y0 : Bool, ((y0 = false) → ((!y0) = true))) ((decide (((a0.getD k2 (⟨0, 0⟩ : Api_Span)).From : Int) < 0)) || (decide (((a0.getD k2 (⟨0, 0⟩ : Api_Span)).From : Int) ≥ ((a0.getD k2 (⟨0, 0⟩ : Api_Span)).To))))) ?_
        refine br_ h ?_ ?_ <;> clear h <;> intro c13 h
        · refine sk_leaf ?_
          obtain rfl := some_ h
          exact end_ok [(0, none)] Try.results13 (ps := [0 = 0, ([] : List Api_Span).length = 0, (2 : Int) = 2, E38.cR [] = []]) (by as_aux_lemma => kernel_rfl) ⟨rfl, rfl, rfl, rfl, trivial⟩ (fun _ => ⟨rfl, by simp only [List.mem_cons, List.not_mem_nil, or_false, forall_eq_or_imp, forall_eq]; exact Elem.cR_bald E38_raw _⟩)
        · refine sk_leaf ?_
          refine back_ok (p := p1) (by as_aux_lemma => kernel_rfl) (hp1 (n1, k2 + 1) _ h (Nat.lt_succ_self n1) ?_)
          exact sub_ok (ρ := []) (l := [a0.length = a0.length, ∀ i, i < a0.length → ∀ j, j < 2 → E38.cf (a0.getD i E38.z) j = E38.cf (a0.getD i E38.z) j, (0 : Int) = 0, a0.length = a0.length, ∀ i, i < a0.length → ∀ j, j < 2 → E38.cf (a0.getD i E38.z) j = E38.cf (a0.getD i E38.z) j, (((a0.length : Nat) : Int) : Int) = ((a0.length : Nat) : Int), ((IntKind.i64.wrap (((k2 : Nat) : Int) + 1)) : Int) = (((k2 + 1) : Nat) : Int)]) (by as_aux_lemma => kernel_rfl) ⟨rfl, fun _ _ _ _ => rfl, rfl, rfl, fun _ _ _ _ => rfl, rfl, (wrap_nat (Int.ofNat_lt.1 (of_decide_eq_true c3)) (by omega)), trivial⟩
      · refine sk_leaf ?_
        obtain ⟨r14, e15, h⟩ := bd_ h
        refine call_ok (d := some 37) (fn := 32) (ax := [.pv ((E38.ro a0))]) (args := [.pv ((E38.ro a0))]) (ps := [a0.length = a0.length, ∀ i, i < a0.length → ∀ j, j < 2 → E38.cf (a0.getD i E38.z) j = E38.cf (a0.getD i E38.z) j]) (hb' := []) (by as_aux_lemma => kernel_rfl) (slices_Values_api_Span_ok _ _ e15) (by as_aux_lemma => kernel_rfl) ⟨rfl, fun _ _ _ _ => rfl, trivial⟩ (fun _ => (by as_aux_lemma => kernel_rfl)) (by simp) rfl (by as_aux_lemma => kernel_rfl) ?_
        refine segs [] tabOk mixed 4000 (S := .leaf 0) (by as_aux_lemma => kernel_rfl) ?_
        refine sk_leaf ?_
        obtain ⟨r16, e17, h⟩ := bd_ h
        refine call_ok (d := some 38) (fn := 31) (ax := [.fn 44 [.roat 1 (fun j => E33.cf a0 j)], .fn 33 []]) (args := [.fn 44 [.roat 1 (fun j => E33.cf a0 j)], .fn 33 []]) (ps := [a0.length = a0.length, ∀ i, i < a0.length → ∀ j, j < 2 → E38.cf (a0.getD i E38.z) j = E38.cf (a0.getD i E38.z) j]) (hb' := [.row 38 2 (E38.cR r16)]) (by as_aux_lemma => kernel_rfl) (slices_SortedFunc_api_Span_slices_Values_1_api_Span_lift_Merge_1_ok _ _ e17 (al := false)) (by as_aux_lemma => kernel_rfl) ⟨rfl, fun _ _ _ _ => rfl, trivial⟩ (fun hx => by cases hx) (by simp) (by simp only [List.map_cons, List.map_nil, Elem.row_up, up_map] <;> rfl) (by as_aux_lemma => kernel_rfl) ?_
        refine segs [] tabOk mixed 4000 (S := .leaf 0) (by as_aux_lemma => kernel_rfl) ?_
        refine sk_leaf ?_
        refine len_row (by as_aux_lemma => kernel_rfl) 18816 (e := 38) (s := 2) (n := r16.length) (cs := E38.cR r16) (by as_aux_lemma => kernel_rfl) (Elem.cR_length _ _) ?_; intro hl2_0
        replace h : (fun (x : Nat × List Api_Span × Nat) => lift_Merge_l2 r16 x.1 x.2.1 x.2.2 = some r) (FUEL, ([] : List Api_Span), 0) := h
        refine loop_ok (by as_aux_lemma => kernel_rfl) (X := Nat × List Api_Span × Nat) (fun x => lift_Merge_l2 r16 x.1 x.2.1 x.2.2 = some r) (fun x => x.1) (fun x => mk 78 [(2, .pv (.raw (.slice none 0 0))), (3, .pv (.raw (.int .i64 0))), (7, .row 1 2 0 x.2.1.length), (39, .row 0 2 0 r16.length), (40, .pv (.raw (.int .i64 ((r16.length : Nat) : Int)))), (41, .pv (.raw (.int .i64 ((x.2.2 : Nat) : Int))))] [(0, .row 38 2 (E38.cR r16)), (1, .row 38 2 (E38.cR x.2.1))]) (FUEL, ([] : List Api_Span), 0) h ?_ ?_
        · exact sub_ok (ρ := [(0, some 18816), (1, none)]) (l := [(0 : Int) = 0, 0 = 0, (([] : List Api_Span).length) = 0, 0 = 0, r16.length = r16.length, (((r16.length : Nat) : Int) : Int) = ((r16.length : Nat) : Int), (0 : Int) = ((0 : Nat) : Int), E38.cR r16 = E38.cR r16, AllPv (E38.cR r16), E38.cR ([] : List Api_Span) = []]) (by as_aux_lemma => kernel_rfl) ⟨rfl, rfl, (by first | rfl | simp), rfl, rfl, rfl, (by first | rfl | simp), rfl, (Elem.cR_pv _ _), rfl, trivial⟩
        · clear h; rintro ⟨n2, l18, k19⟩ h p2 hp2
          obtain _ | n2 := n2
          · cases (show (none : Option ((List Api_Span) × Int)) = some r from h)
          have h : lift_Merge_l2 r16 (n2 + 1) l18 k19 = some r := h
          unfold lift_Merge_l2 at h
          refine segs [] tabOk mixed 4000 (S := .br (decide ((((k19 : Nat) : Int) : Int) < ((r16.length : Nat) : Int))) (.and (0 ≤ (((k19 : Nat) : Int) : Int) ∧ ((k19 : Nat) : Int) < ((r16.length : Nat) : Int)) (.leaf 0)) (.leaf 1)) (by as_aux_lemma => kernel_rfl) ?_
          refine br_ h ?_ ?_ <;> clear h <;> intro c20 h
          · refine sk_and ⟨Int.natCast_nonneg _, of_decide_eq_true c20⟩ ?_
            refine sk_leaf ?_
            refine lda_ok (d := 44) (id := 0) (i := (0 + k19)) (e := 38) (n := 2) E38 (xs := r16) (by as_aux_lemma => kernel_rfl) (by as_aux_lemma => kernel_rfl) (by first | omega | (simp at * <;> omega) | (simp_all <;> omega)) rfl ?_
            refine segs [] tabOk mixed 4000 (S := .and (((decide (((IntKind.i64.wrap (((l18.length : Nat) : Int) - 1)) : Int) ≥ 0)) = true → ((decide (((IntKind.i64.wrap (((l18.length : Nat) : Int) - 1)) : Int) ≥ 0)) = true))) (.and (((decide (((IntKind.i64.wrap (((l18.length : Nat) : Int) - 1)) : Int) ≥ 0)) = true → ((decide (((IntKind.i64.wrap (((l18.length : Nat) : Int) - 1)) : Int) ≥ 0)) = true))) (.and (((decide (((IntKind.i64.wrap (((l18.length : Nat) : Int) - 1)) : Int) ≥ 0)) = true → ((decide (((IntKind.i64.wrap (((l18.length : Nat) : Int) - 1)) : Int) ≥ 0)) = true))) (.and (((decide (((IntKind.i64.wrap (((l18.length : Nat) : Int) - 1)) : Int) ≥ 0)) = true → (0 ≤ ((IntKind.i64.wrap (((l18.length : Nat) : Int) - 1)) : Int) ∧ (IntKind.i64.wrap (((l18.length : Nat) : Int) - 1)) < ((l18.length : Nat) : Int)))) (.and (((decide (((IntKind.i64.wrap (((l18.length : Nat) : Int) - 1)) : Int) ≥ 0)) = true → ((decide (((IntKind.i64.wrap (((l18.length : Nat) : Int) - 1)) : Int) ≥ 0)) = true))) (.leaf 0)))))) (by as_aux_lemma => kernel_rfl) ?_
            refine sk_and ((by decide : ∀ y0 : Bool, ((y0 = true) → (y0 = true))) (decide (((IntKind.i64.wrap (((l18.length : Nat) : Int) - 1)) : Int) ≥ 0))) ?_
            refine sk_and ((by decide : ∀ y0 : Bool, ((y0 = true) → (y0 = true))) (decide (((IntKind.i64.wrap (((l18.length : Nat) : Int) - 1)) : Int) ≥ 0))) ?_
            refine sk_and ((by decide : ∀ y0 : Bool, ((y0 = true) → (y0 = true))) (decide (((IntKind.i64.wrap (((l18.length : Nat) : Int) - 1)) : Int) ≥ 0))) ?_
            refine gd_ h ?_; clear h; intro g25 h
            refine sk_and ((by decide : ∀ y0 : Bool, ((y0 = true) → (y0 = true))) (decide (((IntKind.i64.wrap (((l18.length : Nat) : Int) - 1)) : Int) ≥ 0))) ?_
            refine sk_leaf ?_
            refine ldG_ok (d := 57) (id := 1) (i := (0 + (Int.toNat (IntKind.i64.wrap (((l18.length : Nat) : Int) - 1))))) (j := 1) (e := 38) (n := 1) (g := (decide (((IntKind.i64.wrap (((l18.length : Nat) : Int) - 1)) : Int) ≥ 0))) (ws := [(decide (((IntKind.i64.wrap (((l18.length : Nat) : Int) - 1)) : Int) ≥ 0)) = true]) E38 (xs := l18) (by as_aux_lemma => kernel_rfl) (fun hg => ⟨((by decide : ∀ y0 : Bool, ((y0 = true) → (y0 = true))) (decide (((IntKind.i64.wrap (((l18.length : Nat) : Int) - 1)) : Int) ≥ 0))) hg, trivial⟩) (by as_aux_lemma => kernel_rfl) (fun hg => (by first | omega | (simp at * <;> omega) | (simp_all <;> omega))) (by exact Nat.le_of_ble_eq_true rfl) ?_
            refine segs [] tabOk mixed 4000 (S := .and (((decide (((IntKind.i64.wrap (((l18.length : Nat) : Int) - 1)) : Int) ≥ 0)) = true → ((decide (((IntKind.i64.wrap (((l18.length : Nat) : Int) - 1)) : Int) ≥ 0)) = true))) (.and (((decide (((IntKind.i64.wrap (((l18.length : Nat) : Int) - 1)) : Int) ≥ 0)) = true → ((decide (((IntKind.i64.wrap (((l18.length : Nat) : Int) - 1)) : Int) ≥ 0)) = true))) (.and ((decide (((IntKind.i64.wrap (((l18.length : Nat) : Int) - 1)) : Int) ≥ 0)) = true → (decide (((IntKind.i64.wrap (((l18.length : Nat) : Int) - 1)) : Int) ≥ 0)) = true) (.br ((decide (((IntKind.i64.wrap (((l18.length : Nat) : Int) - 1)) : Int) ≥ 0)) && (decide (((r16.getD (0 + k19) (⟨0, 0⟩ : Api_Span)).From : Int) ≤ ((l18.getD (0 + (Int.toNat (IntKind.i64.wrap (((l18.length : Nat) : Int) - 1)))) (⟨0, 0⟩ : Api_Span)).To)))) (.and (0 ≤ ((IntKind.i64.wrap (((l18.length : Nat) : Int) - 1)) : Int) ∧ (IntKind.i64.wrap (((l18.length : Nat) : Int) - 1)) < ((l18.length : Nat) : Int)) (.leaf 0)) (.leaf 1))))) (by as_aux_lemma => kernel_rfl) ?_
            refine sk_and ((by decide : ∀ y0 : Bool, ((y0 = true) → (y0 = true))) (decide (((IntKind.i64.wrap (((l18.length : Nat) : Int) - 1)) : Int) ≥ 0))) ?_
            refine sk_and ((by decide : ∀ y0 : Bool, ((y0 = true) → (y0 = true))) (decide (((IntKind.i64.wrap (((l18.length : Nat) : Int) - 1)) : Int) ≥ 0))) ?_
            refine sk_and ((by decide : ∀ y0 : Bool, ((y0 = true) → (y0 = true))) (decide (((IntKind.i64.wrap (((l18.length : Nat) : Int) - 1)) : Int) ≥ 0))) ?_
            refine br_ h ?_ ?_ <;> clear h <;> intro c30 h
            · refine gd_ h ?_; clear h; intro g31 h
              refine sk_leaf ?_
              refine ld_ok (d := 66) (id := 1) (i := (0 + (Int.toNat (IntKind.i64.wrap (((l18.length : Nat) : Int) - 1))))) (j := 1) (e := 38) (n := 1) E38 (xs := l18) (by as_aux_lemma => kernel_rfl) (by as_aux_lemma => kernel_rfl) (by first | omega | (simp at * <;> omega) | (simp_all <;> omega)) (by exact Nat.le_of_ble_eq_true rfl) ?_
              refine segs [] tabOk mixed 4000 (S := .and (0 ≤ ((IntKind.i64.wrap (((l18.length : Nat) : Int) - 1)) : Int) ∧ (IntKind.i64.wrap (((l18.length : Nat) : Int) - 1)) < ((l18.length : Nat) : Int)) (.leaf 0)) (by as_aux_lemma => kernel_rfl) ?_
              refine gd_ h ?_; clear h; intro g32 h
              refine sk_leaf ?_
              refine st_ok (id := 1) (i := (0 + (Int.toNat (IntKind.i64.wrap (((l18.length : Nat) : Int) - 1))))) (j := 1) (e := 38) (vs := [.pv (.raw (.int .i64 (if ((r16.getD (0 + k19) (⟨0, 0⟩ : Api_Span)).To : Int) > ((l18.getD (0 + (Int.toNat (IntKind.i64.wrap (((l18.length : Nat) : Int) - 1)))) (⟨0, 0⟩ : Api_Span)).To) then ((r16.getD (0 + k19) (⟨0, 0⟩ : Api_Span)).To) else ((l18.getD (0 + (Int.toNat (IntKind.i64.wrap (((l18.length : Nat) : Int) - 1)))) (⟨0, 0⟩ : Api_Span)).To))))]) E38 (xs := l18) (⟨(l18.getD (0 + (Int.toNat (IntKind.i64.wrap (((l18.length : Nat) : Int) - 1)))) (⟨0, 0⟩ : Api_Span)).From, (if ((r16.getD (0 + k19) (⟨0, 0⟩ : Api_Span)).To : Int) > ((l18.getD (0 + (Int.toNat (IntKind.i64.wrap (((l18.length : Nat) : Int) - 1)))) (⟨0, 0⟩ : Api_Span)).To) then ((r16.getD (0 + k19) (⟨0, 0⟩ : Api_Span)).To) else ((l18.getD (0 + (Int.toNat (IntKind.i64.wrap (((l18.length : Nat) : Int) - 1)))) (⟨0, 0⟩ : Api_Span)).To))⟩ : Api_Span) (by as_aux_lemma => kernel_rfl) (by as_aux_lemma => kernel_rfl) (by first | omega | (simp at * <;> omega) | (simp_all <;> omega)) (by exact Nat.le_of_ble_eq_true rfl) rfl ?_
              refine segs [] tabOk mixed 4000 (S := .leaf 0) (by as_aux_lemma => kernel_rfl) ?_
              refine sk_leaf ?_
              refine back_ok (p := p2) (by as_aux_lemma => kernel_rfl) (hp2 (n2, (l18.set (0 + (Int.toNat (IntKind.i64.wrap (((l18.length : Nat) : Int) - 1)))) (⟨(l18.getD (0 + (Int.toNat (IntKind.i64.wrap (((l18.length : Nat) : Int) - 1)))) (⟨0, 0⟩ : Api_Span)).From, (if ((r16.getD (0 + k19) (⟨0, 0⟩ : Api_Span)).To : Int) > ((l18.getD (0 + (Int.toNat (IntKind.i64.wrap (((l18.length : Nat) : Int) - 1)))) (⟨0, 0⟩ : Api_Span)).To) then ((r16.getD (0 + k19) (⟨0, 0⟩ : Api_Span)).To) else ((l18.getD (0 + (Int.toNat (IntKind.i64.wrap (((l18.length : Nat) : Int) - 1)))) (⟨0, 0⟩ : Api_Span)).To))⟩ : Api_Span)), k19 + 1) _ h (Nat.lt_succ_self n2) ?_)
              exact sub_ok (ρ := [(0, some 0), (1, some 1)]) (l := [(0 : Int) = 0, 0 = 0, l18.length = ((l18.set (0 + (Int.toNat (IntKind.i64.wrap (((l18.length : Nat) : Int) - 1)))) (⟨(l18.getD (0 + (Int.toNat (IntKind.i64.wrap (((l18.length : Nat) : Int) - 1)))) (⟨0, 0⟩ : Api_Span)).From, (if ((r16.getD (0 + k19) (⟨0, 0⟩ : Api_Span)).To : Int) > ((l18.getD (0 + (Int.toNat (IntKind.i64.wrap (((l18.length : Nat) : Int) - 1)))) (⟨0, 0⟩ : Api_Span)).To) then ((r16.getD (0 + k19) (⟨0, 0⟩ : Api_Span)).To) else ((l18.getD (0 + (Int.toNat (IntKind.i64.wrap (((l18.length : Nat) : Int) - 1)))) (⟨0, 0⟩ : Api_Span)).To))⟩ : Api_Span)).length), 0 = 0, r16.length = r16.length, (((r16.length : Nat) : Int) : Int) = ((r16.length : Nat) : Int), ((IntKind.i64.wrap (((k19 : Nat) : Int) + 1)) : Int) = (((k19 + 1) : Nat) : Int), E38.cR r16 = E38.cR r16, AllPv (E38.cR r16), E38.cR (l18.set (0 + (Int.toNat (IntKind.i64.wrap (((l18.length : Nat) : Int) - 1)))) (⟨(l18.getD (0 + (Int.toNat (IntKind.i64.wrap (((l18.length : Nat) : Int) - 1)))) (⟨0, 0⟩ : Api_Span)).From, (if ((r16.getD (0 + k19) (⟨0, 0⟩ : Api_Span)).To : Int) > ((l18.getD (0 + (Int.toNat (IntKind.i64.wrap (((l18.length : Nat) : Int) - 1)))) (⟨0, 0⟩ : Api_Span)).To) then ((r16.getD (0 + k19) (⟨0, 0⟩ : Api_Span)).To) else ((l18.getD (0 + (Int.toNat (IntKind.i64.wrap (((l18.length : Nat) : Int) - 1)))) (⟨0, 0⟩ : Api_Span)).To))⟩ : Api_Span)) = E38.cR (l18.set (0 + (Int.toNat (IntKind.i64.wrap (((l18.length : Nat) : Int) - 1)))) (⟨(l18.getD (0 + (Int.toNat (IntKind.i64.wrap (((l18.length : Nat) : Int) - 1)))) (⟨0, 0⟩ : Api_Span)).From, (if ((r16.getD (0 + k19) (⟨0, 0⟩ : Api_Span)).To : Int) > ((l18.getD (0 + (Int.toNat (IntKind.i64.wrap (((l18.length : Nat) : Int) - 1)))) (⟨0, 0⟩ : Api_Span)).To) then ((r16.getD (0 + k19) (⟨0, 0⟩ : Api_Span)).To) else ((l18.getD (0 + (Int.toNat (IntKind.i64.wrap (((l18.length : Nat) : Int) - 1)))) (⟨0, 0⟩ : Api_Span)).To))⟩ : Api_Span)), AllPv (E38.cR (l18.set (0 + (Int.toNat (IntKind.i64.wrap (((l18.length : Nat) : Int) - 1)))) (⟨(l18.getD (0 + (Int.toNat (IntKind.i64.wrap (((l18.length : Nat) : Int) - 1)))) (⟨0, 0⟩ : Api_Span)).From, (if ((r16.getD (0 + k19) (⟨0, 0⟩ : Api_Span)).To : Int) > ((l18.getD (0 + (Int.toNat (IntKind.i64.wrap (((l18.length : Nat) : Int) - 1)))) (⟨0, 0⟩ : Api_Span)).To) then ((r16.getD (0 + k19) (⟨0, 0⟩ : Api_Span)).To) else ((l18.getD (0 + (Int.toNat (IntKind.i64.wrap (((l18.length : Nat) : Int) - 1)))) (⟨0, 0⟩ : Api_Span)).To))⟩ : Api_Span)))]) (by as_aux_lemma => kernel_rfl) ⟨rfl, rfl, (by first | rfl | (simp; done) | omega | (simp <;> omega)), rfl, rfl, rfl, (wrap_nat (Int.ofNat_lt.1 (of_decide_eq_true c20)) (by omega)), rfl, (Elem.cR_pv _ _), rfl, (Elem.cR_pv _ _), trivial⟩
            · refine sk_leaf ?_
              refine bs_ok (d := 74) (e := 38) (s := 2) (n := 1) (cs := [.pv (.raw (.int .i64 ((r16.getD (0 + k19) (⟨0, 0⟩ : Api_Span)).From))), .pv (.raw (.int .i64 ((r16.getD (0 + k19) (⟨0, 0⟩ : Api_Span)).To)))]) (cs' := E38.cR [(r16.getD (0 + k19) (⟨0, 0⟩ : Api_Span))]) (by as_aux_lemma => kernel_rfl) rfl (by as_aux_lemma => kernel_rfl) ?_
              refine segs [] tabOk mixed 4000 (S := .leaf 0) (by as_aux_lemma => kernel_rfl) ?_
              refine sk_leaf ?_
              obtain ⟨g33, h⟩ := if_ h
              refine app_ok (d := 75) (e := 38) (s := 2) (b := 16) (x := .row 1 2 0 l18.length) (y := .row 21120 2 0 1) E38 (xs := l18) (ys := [(r16.getD (0 + k19) (⟨0, 0⟩ : Api_Span))]) (by as_aux_lemma => kernel_rfl) rfl (.row 1 l18 l18.length rfl (by as_aux_lemma => kernel_rfl)) (.all 21120 38 [(r16.getD (0 + k19) (⟨0, 0⟩ : Api_Span))] 1 rfl (by as_aux_lemma => kernel_rfl)) g33 (by as_aux_lemma => kernel_rfl) ?_
              refine segs [] tabOk mixed 4000 (S := .leaf 0) (by as_aux_lemma => kernel_rfl) ?_
              refine sk_leaf ?_
              refine back_ok (p := p2) (by as_aux_lemma => kernel_rfl) (hp2 (n2, (l18 ++ [(r16.getD (0 + k19) (⟨0, 0⟩ : Api_Span))]), k19 + 1) _ h (Nat.lt_succ_self n2) ?_)
              exact sub_ok (ρ := [(0, some 0), (1, some 21184)]) (l := [(0 : Int) = 0, 0 = 0, ((l18 ++ [(r16.getD (0 + k19) (⟨0, 0⟩ : Api_Span))]).length) = ((l18 ++ [(r16.getD (0 + k19) (⟨0, 0⟩ : Api_Span))]).length), 0 = 0, r16.length = r16.length, (((r16.length : Nat) : Int) : Int) = ((r16.length : Nat) : Int), ((IntKind.i64.wrap (((k19 : Nat) : Int) + 1)) : Int) = (((k19 + 1) : Nat) : Int), E38.cR r16 = E38.cR r16, AllPv (E38.cR r16), E38.cR (l18 ++ [(r16.getD (0 + k19) (⟨0, 0⟩ : Api_Span))]) = E38.cR (l18 ++ [(r16.getD (0 + k19) (⟨0, 0⟩ : Api_Span))]), AllPv (E38.cR (l18 ++ [(r16.getD (0 + k19) (⟨0, 0⟩ : Api_Span))]))]) (by as_aux_lemma => kernel_rfl) ⟨rfl, rfl, rfl, rfl, rfl, rfl, (wrap_nat (Int.ofNat_lt.1 (of_decide_eq_true c20)) (by omega)), rfl, (Elem.cR_pv _ _), rfl, (Elem.cR_pv _ _), trivial⟩
          · refine sk_leaf ?_
            obtain rfl := some_ h
            exact end_ok [(0, some 1)] Try.results13 (ps := [0 = 0, l18.length = l18.length, (0 : Int) = 0, E38.cR l18 = E38.cR l18, AllPv (E38.cR l18)]) (by as_aux_lemma => kernel_rfl) ⟨rfl, rfl, rfl, rfl, (Elem.cR_pv _ _), trivial⟩ (fun _ => ⟨rfl, by simp only [List.mem_cons, List.not_mem_nil, or_false, forall_eq_or_imp, forall_eq]; exact Elem.cR_bald E38_raw _⟩)

set_option maxHeartbeats 40000000 in
set_option maxRecDepth 100000 in
theorem slices_Equal_int_ok (a0 : (List Int)) (a1 : (List Int)) (r : Bool) (h : slices_Equal_int a0 a1 = some r) {al : Bool} : PCalls Try.prog 12 [.pv ((E3.ro a0)), .pv ((E3.ro a1))] al (.pv (.raw (.bool r))) [] := by
  unfold slices_Equal_int at h
  refine fn_ok tabOk Try.func12 (by as_aux_lemma => kernel_rfl) (by as_aux_lemma => kernel_rfl) Try.ntmps12 (by simp) ?_
  refine segs [] tabOk mixed 4000 (S := .br ((((a0.length : Nat) : Int) : Int) != ((a1.length : Nat) : Int)) (.leaf 0) (.leaf 1)) (by as_aux_lemma => kernel_rfl) ?_
  refine br_ h ?_ ?_ <;> clear h <;> intro c1 h
  · refine sk_leaf ?_
    obtain rfl := some_ h
    exact end_ok [] Try.results12 (ps := [false = false]) (by as_aux_lemma => kernel_rfl) ⟨rfl, trivial⟩ (fun _ => ⟨rfl, by simp⟩)
  · refine sk_leaf ?_
    refine len_ro (by as_aux_lemma => kernel_rfl) 0 (s := 1) (n := a0.length) (c := fun i j => E3.cf (a0.getD i E3.z) j) (by as_aux_lemma => kernel_rfl) ?_; intro hl1_0
    refine len_ro (by as_aux_lemma => kernel_rfl) 1 (s := 1) (n := a1.length) (c := fun i j => E3.cf (a1.getD i E3.z) j) (by as_aux_lemma => kernel_rfl) ?_; intro hl1_1
    replace h : (fun (x : Nat × Nat) => slices_Equal_int_l1 a0 a1 x.1 x.2 = some r) (FUEL, 0) := h
    refine loop_ok (by as_aux_lemma => kernel_rfl) (X := Nat × Nat) (fun x => slices_Equal_int_l1 a0 a1 x.1 x.2 = some r) (fun x => x.1) (fun x => mk 26 [(0, .pv ((E3.ro a0))), (1, .pv ((E3.ro a1))), (4, .pv (.raw (.bool false))), (12, .pv (.raw (.int .i64 ((a0.length : Nat) : Int)))), (13, .pv (.raw (.int .i64 ((x.2 : Nat) : Int))))] []) (FUEL, 0) h ?_ ?_
    · exact sub_ok (ρ := []) (l := [a0.length = a0.length, ∀ i, i < a0.length → ∀ j, j < 1 → E3.cf (a0.getD i E3.z) j = E3.cf (a0.getD i E3.z) j, a1.length = a1.length, ∀ i, i < a1.length → ∀ j, j < 1 → E3.cf (a1.getD i E3.z) j = E3.cf (a1.getD i E3.z) j, false = false, (((a0.length : Nat) : Int) : Int) = ((a0.length : Nat) : Int), (0 : Int) = ((0 : Nat) : Int)]) (by as_aux_lemma => kernel_rfl) ⟨rfl, fun _ _ _ _ => rfl, rfl, fun _ _ _ _ => rfl, rfl, rfl, (by first | rfl | simp), trivial⟩
    · clear h; rintro ⟨n1, k2⟩ h p1 hp1
      obtain _ | n1 := n1
      · cases (show (none : Option (Bool)) = some r from h)
      have h : slices_Equal_int_l1 a0 a1 (n1 + 1) k2 = some r := h
      unfold slices_Equal_int_l1 at h
      refine segs [] tabOk mixed 4000 (S := .br (decide ((((k2 : Nat) : Int) : Int) < ((a0.length : Nat) : Int))) (.and (0 ≤ (((k2 : Nat) : Int) : Int) ∧ ((k2 : Nat) : Int) < ((a0.length : Nat) : Int)) (.and (0 ≤ (((k2 : Nat) : Int) : Int) ∧ ((k2 : Nat) : Int) < ((a1.length : Nat) : Int)) (.br (((a0.getD k2 0) : Int) != (a1.getD k2 0)) (.leaf 0) (.leaf 1)))) (.leaf 2)) (by as_aux_lemma => kernel_rfl) ?_
      refine br_ h ?_ ?_ <;> clear h <;> intro c3 h
      · refine sk_and ⟨Int.natCast_nonneg _, of_decide_eq_true c3⟩ ?_
        refine gd_ h ?_; clear h; intro g5 h
        refine br_ h ?_ ?_ <;> clear h <;> intro c6 h
        · refine sk_leaf ?_
          obtain rfl := some_ h
          exact end_ok [] Try.results12 (ps := [false = false]) (by as_aux_lemma => kernel_rfl) ⟨rfl, trivial⟩ (fun _ => ⟨rfl, by simp⟩)
        · refine sk_leaf ?_
          refine back_ok (p := p1) (by as_aux_lemma => kernel_rfl) (hp1 (n1, k2 + 1) _ h (Nat.lt_succ_self n1) ?_)
          exact sub_ok (ρ := []) (l := [a0.length = a0.length, ∀ i, i < a0.length → ∀ j, j < 1 → E3.cf (a0.getD i E3.z) j = E3.cf (a0.getD i E3.z) j, a1.length = a1.length, ∀ i, i < a1.length → ∀ j, j < 1 → E3.cf (a1.getD i E3.z) j = E3.cf (a1.getD i E3.z) j, false = false, (((a0.length : Nat) : Int) : Int) = ((a0.length : Nat) : Int), ((IntKind.i64.wrap (((k2 : Nat) : Int) + 1)) : Int) = (((k2 + 1) : Nat) : Int)]) (by as_aux_lemma => kernel_rfl) ⟨rfl, fun _ _ _ _ => rfl, rfl, fun _ _ _ _ => rfl, rfl, rfl, (wrap_nat (Int.ofNat_lt.1 (of_decide_eq_true c3)) (by omega)), trivial⟩
      · refine sk_leaf ?_
        obtain rfl := some_ h
        exact end_ok [] Try.results12 (ps := [true = true]) (by as_aux_lemma => kernel_rfl) ⟨rfl, trivial⟩ (fun _ => ⟨rfl, by simp⟩)

set_option maxHeartbeats 40000000 in
set_option maxRecDepth 100000 in
theorem slices_Equal_api_Span_ok (a0 : (List Api_Span)) (a1 : (List Api_Span)) (r : Bool) (h : slices_Equal_api_Span a0 a1 = some r) {al : Bool} : PCalls Try.prog 19 [.pv ((E38.ro a0)), .pv ((E38.ro a1))] al (.pv (.raw (.bool r))) [] := by
  unfold slices_Equal_api_Span at h
  refine fn_ok tabOk Try.func19 (by as_aux_lemma => kernel_rfl) (by as_aux_lemma => kernel_rfl) Try.ntmps19 (by simp) ?_
  refine segs [] tabOk mixed 4000 (S := .br ((((a0.length : Nat) : Int) : Int) != ((a1.length : Nat) : Int)) (.leaf 0) (.leaf 1)) (by as_aux_lemma => kernel_rfl) ?_
  refine br_ h ?_ ?_ <;> clear h <;> intro c1 h
  · refine sk_leaf ?_
    obtain rfl := some_ h
    exact end_ok [] Try.results19 (ps := [false = false]) (by as_aux_lemma => kernel_rfl) ⟨rfl, trivial⟩ (fun _ => ⟨rfl, by simp⟩)
  · refine sk_leaf ?_
    refine len_ro (by as_aux_lemma => kernel_rfl) 0 (s := 2) (n := a0.length) (c := fun i j => E38.cf (a0.getD i E38.z) j) (by as_aux_lemma => kernel_rfl) ?_; intro hl1_0
    refine len_ro (by as_aux_lemma => kernel_rfl) 1 (s := 2) (n := a1.length) (c := fun i j => E38.cf (a1.getD i E38.z) j) (by as_aux_lemma => kernel_rfl) ?_; intro hl1_1
    replace h : (fun (x : Nat × Nat) => slices_Equal_api_Span_l1 a0 a1 x.1 x.2 = some r) (FUEL, 0) := h
    refine loop_ok (by as_aux_lemma => kernel_rfl) (X := Nat × Nat) (fun x => slices_Equal_api_Span_l1 a0 a1 x.1 x.2 = some r) (fun x => x.1) (fun x => mk 26 [(0, .pv ((E38.ro a0))), (1, .pv ((E38.ro a1))), (4, .pv (.raw (.bool false))), (12, .pv (.raw (.int .i64 ((a0.length : Nat) : Int)))), (13, .pv (.raw (.int .i64 ((x.2 : Nat) : Int))))] []) (FUEL, 0) h ?_ ?_
    · exact sub_ok (ρ := []) (l := [a0.length = a0.length, ∀ i, i < a0.length → ∀ j, j < 2 → E38.cf (a0.getD i E38.z) j = E38.cf (a0.getD i E38.z) j, a1.length = a1.length, ∀ i, i < a1.length → ∀ j, j < 2 → E38.cf (a1.getD i E38.z) j = E38.cf (a1.getD i E38.z) j, false = false, (((a0.length : Nat) : Int) : Int) = ((a0.length : Nat) : Int), (0 : Int) = ((0 : Nat) : Int)]) (by as_aux_lemma => kernel_rfl) ⟨rfl, fun _ _ _ _ => rfl, rfl, fun _ _ _ _ => rfl, rfl, rfl, (by first | rfl | simp), trivial⟩
    · clear h; rintro ⟨n1, k2⟩ h p1 hp1
      obtain _ | n1 := n1
      · cases (show (none : Option (Bool)) = some r from h)
      have h : slices_Equal_api_Span_l1 a0 a1 (n1 + 1) k2 = some r := h
      unfold slices_Equal_api_Span_l1 at h
      refine segs [] tabOk mixed 4000 (S := .br (decide ((((k2 : Nat) : Int) : Int) < ((a0.length : Nat) : Int))) (.and (0 ≤ (((k2 : Nat) : Int) : Int) ∧ ((k2 : Nat) : Int) < ((a0.length : Nat) : Int)) (.and (0 ≤ (((k2 : Nat) : Int) : Int) ∧ ((k2 : Nat) : Int) < ((a1.length : Nat) : Int)) (.br (!((((a0.getD k2 (⟨0, 0⟩ : Api_Span)).From : Int) == ((a1.getD k2 (⟨0, 0⟩ : Api_Span)).From)) && ((((a0.getD k2 (⟨0, 0⟩ : Api_Span)).To : Int) == ((a1.getD k2 (⟨0, 0⟩ : Api_Span)).To)) && true))) (.leaf 0) (.leaf 1)))) (.leaf 2)) (by as_aux_lemma => kernel_rfl) ?_
      refine br_ h ?_ ?_ <;> clear h <;> intro c3 h
      · refine sk_and ⟨Int.natCast_nonneg _, of_decide_eq_true c3⟩ ?_
        refine gd_ h ?_; clear h; intro g5 h
        refine br_ h ?_ ?_ <;> clear h <;> intro c6 h
        · refine sk_leaf ?_
          obtain rfl := some_ h
          exact end_ok [] Try.results19 (ps := [false = false]) (by as_aux_lemma => kernel_rfl) ⟨rfl, trivial⟩ (fun _ => ⟨rfl, by simp⟩)
        · refine sk_leaf ?_
          refine back_ok (p := p1) (by as_aux_lemma => kernel_rfl) (hp1 (n1, k2 + 1) _ h (Nat.lt_succ_self n1) ?_)
          exact sub_ok (ρ := []) (l := [a0.length = a0.length, ∀ i, i < a0.length → ∀ j, j < 2 → E38.cf (a0.getD i E38.z) j = E38.cf (a0.getD i E38.z) j, a1.length = a1.length, ∀ i, i < a1.length → ∀ j, j < 2 → E38.cf (a1.getD i E38.z) j = E38.cf (a1.getD i E38.z) j, false = false, (((a0.length : Nat) : Int) : Int) = ((a0.length : Nat) : Int), ((IntKind.i64.wrap (((k2 : Nat) : Int) + 1)) : Int) = (((k2 + 1) : Nat) : Int)]) (by as_aux_lemma => kernel_rfl) ⟨rfl, fun _ _ _ _ => rfl, rfl, fun _ _ _ _ => rfl, rfl, rfl, (wrap_nat (Int.ofNat_lt.1 (of_decide_eq_true c3)) (by omega)), trivial⟩
      · refine sk_leaf ?_
        obtain rfl := some_ h
        exact end_ok [] Try.results19 (ps := [true = true]) (by as_aux_lemma => kernel_rfl) ⟨rfl, trivial⟩ (fun _ => ⟨rfl, by simp⟩)

set_option maxHeartbeats 40000000 in
set_option maxRecDepth 100000 in
theorem keep_alive19_ok (r : Bool) (h : keep_alive19 = some r) {al : Bool} : PCalls Try.prog 7 [] al (.pv (.raw (.bool r))) [] := by
  unfold keep_alive19 at h
  refine fn_ok tabOk Try.func7 (by as_aux_lemma => kernel_rfl) (by as_aux_lemma => kernel_rfl) Try.ntmps7 (by simp) ?_
  refine segs [] tabOk mixed 4000 (S := .leaf 0) (by as_aux_lemma => kernel_rfl) ?_
  refine sk_leaf ?_
  refine bs_ok (d := 10) (e := 3) (s := 1) (n := 4) (cs := [.pv (.raw (.int .i64 10)), .pv (.raw (.int .i64 60)), .pv (.raw (.int .i64 55)), .pv (.raw (.int .i64 40))]) (cs' := E3.cR [10, 60, 55, 40]) (by as_aux_lemma => kernel_rfl) rfl (by as_aux_lemma => kernel_rfl) ?_
  refine segs [] tabOk mixed 4000 (S := .leaf 0) (by as_aux_lemma => kernel_rfl) ?_
  refine sk_leaf ?_
  obtain ⟨r1, e2, h⟩ := bd_ h
  refine call_ok (d := some 11) (fn := 8) (ax := [.pv (.raw (.int .i64 50)), .row 17024 1 0 4]) (args := [.pv (.raw (.int .i64 50)), .pv ((E3.ro [10, 60, 55, 40]))]) (ps := [(50 : Int) = 50, 4 = [10, 60, 55, 40].length, rowQ (E3.cR [10, 60, 55, 40]) 1 0 4 (fun i j => E3.cf ([10, 60, 55, 40].getD i E3.z) j)]) (hb' := [.row 3 1 (E3.cR r1.1)]) (by as_aux_lemma => kernel_rfl) (lift_Sweep_ok _ _ _ e2 (al := false)) (by as_aux_lemma => kernel_rfl) ⟨rfl, (by first | rfl | exact Elem.sub_len _ (by omega) | omega | simp | (simp <;> omega)), E3.rowQ_all [10, 60, 55, 40] rfl, trivial⟩ (fun hx => by cases hx) (by simp) (by simp only [List.map_cons, List.map_nil, Elem.row_up, up_map] <;> rfl) (by as_aux_lemma => kernel_rfl) ?_
  refine segs [] tabOk mixed 4000 (S := .leaf 0) (by as_aux_lemma => kernel_rfl) ?_
  refine sk_leaf ?_
  refine bs_ok (d := 15) (e := 3) (s := 1) (n := 4) (cs := [.pv (.raw (.int .i64 10)), .pv (.raw (.int .i64 60)), .pv (.raw (.int .i64 55)), .pv (.raw (.int .i64 40))]) (cs' := E3.cR [10, 60, 55, 40]) (by as_aux_lemma => kernel_rfl) rfl (by as_aux_lemma => kernel_rfl) ?_
  refine segs [] tabOk mixed 4000 (S := .leaf 0) (by as_aux_lemma => kernel_rfl) ?_
  refine sk_leaf ?_
  obtain ⟨r3, e4, h⟩ := bd_ h
  refine call_ok (d := some 16) (fn := 9) (ax := [.pv (.raw (.int .i64 50)), .row 17344 1 0 4]) (args := [.pv (.raw (.int .i64 50)), .pv ((E3.ro [10, 60, 55, 40]))]) (ps := [(50 : Int) = 50, 4 = [10, 60, 55, 40].length, rowQ (E3.cR [10, 60, 55, 40]) 1 0 4 (fun i j => E3.cf ([10, 60, 55, 40].getD i E3.z) j)]) (hb' := [.row 3 1 (E3.cR r3.1)]) (by as_aux_lemma => kernel_rfl) (lift_Short_ok _ _ _ e4 (al := false)) (by as_aux_lemma => kernel_rfl) ⟨rfl, (by first | rfl | exact Elem.sub_len _ (by omega) | omega | simp | (simp <;> omega)), E3.rowQ_all [10, 60, 55, 40] rfl, trivial⟩ (fun hx => by cases hx) (by simp) (by simp only [List.map_cons, List.map_nil, Elem.row_up, up_map] <;> rfl) (by as_aux_lemma => kernel_rfl) ?_
  refine segs [] tabOk mixed 4000 (S := .leaf 0) (by as_aux_lemma => kernel_rfl) ?_
  refine sk_leaf ?_
  refine bs_ok (d := 20) (e := 3) (s := 1) (n := 4) (cs := [.pv (.raw (.int .i64 55)), .pv (.raw (.int .i64 60)), .pv (.raw (.int .i64 40)), .pv (.raw (.int .i64 10))]) (cs' := E3.cR [55, 60, 40, 10]) (by as_aux_lemma => kernel_rfl) rfl (by as_aux_lemma => kernel_rfl) ?_
  refine segs [] tabOk mixed 4000 (S := .leaf 0) (by as_aux_lemma => kernel_rfl) ?_
  refine sk_leaf ?_
  obtain ⟨r5, e6, h⟩ := bd_ h
  refine call_ok (d := some 21) (fn := 22) (ax := [.pv (.raw (.int .i64 50)), .row 17664 1 0 4]) (args := [.pv (.raw (.int .i64 50)), .pv ((E3.ro [55, 60, 40, 10]))]) (ps := [(50 : Int) = 50, 4 = [55, 60, 40, 10].length, rowQ (E3.cR [55, 60, 40, 10]) 1 0 4 (fun i j => E3.cf ([55, 60, 40, 10].getD i E3.z) j)]) (hb' := []) (by as_aux_lemma => kernel_rfl) (lift_Way_ok _ _ _ e6 (al := false)) (by as_aux_lemma => kernel_rfl) ⟨rfl, (by first | rfl | exact Elem.sub_len _ (by omega) | omega | simp | (simp <;> omega)), E3.rowQ_all [55, 60, 40, 10] rfl, trivial⟩ (fun hx => by cases hx) (by simp) rfl (by as_aux_lemma => kernel_rfl) ?_
  refine segs [] tabOk mixed 4000 (S := .leaf 0) (by as_aux_lemma => kernel_rfl) ?_
  refine sk_leaf ?_
  refine bs_ok (d := 28) (e := 38) (s := 2) (n := 3) (cs := [.pv (.raw (.int .i64 5)), .pv (.raw (.int .i64 7)), .pv (.raw (.int .i64 1)), .pv (.raw (.int .i64 3)), .pv (.raw (.int .i64 7)), .pv (.raw (.int .i64 9))]) (cs' := E38.cR [(⟨5, 7⟩ : Api_Span), (⟨1, 3⟩ : Api_Span), (⟨7, 9⟩ : Api_Span)]) (by as_aux_lemma => kernel_rfl) rfl (by as_aux_lemma => kernel_rfl) ?_
  refine segs [] tabOk mixed 4000 (S := .leaf 0) (by as_aux_lemma => kernel_rfl) ?_
  refine sk_leaf ?_
  obtain ⟨r7, e8, h⟩ := bd_ h
  refine call_ok (d := some 29) (fn := 13) (ax := [.row 18176 2 0 3]) (args := [.pv ((E38.ro [(⟨5, 7⟩ : Api_Span), (⟨1, 3⟩ : Api_Span), (⟨7, 9⟩ : Api_Span)]))]) (ps := [3 = [(⟨5, 7⟩ : Api_Span), (⟨1, 3⟩ : Api_Span), (⟨7, 9⟩ : Api_Span)].length, rowQ (E38.cR [(⟨5, 7⟩ : Api_Span), (⟨1, 3⟩ : Api_Span), (⟨7, 9⟩ : Api_Span)]) 2 0 3 (fun i j => E38.cf ([(⟨5, 7⟩ : Api_Span), (⟨1, 3⟩ : Api_Span), (⟨7, 9⟩ : Api_Span)].getD i E38.z) j)]) (hb' := [.row 38 2 (E38.cR r7.1)]) (by as_aux_lemma => kernel_rfl) (lift_Merge_ok _ _ e8 (al := false)) (by as_aux_lemma => kernel_rfl) ⟨(by first | rfl | exact Elem.sub_len _ (by omega) | omega | simp | (simp <;> omega)), E38.rowQ_all [(⟨5, 7⟩ : Api_Span), (⟨1, 3⟩ : Api_Span), (⟨7, 9⟩ : Api_Span)] rfl, trivial⟩ (fun hx => by cases hx) (by simp) (by simp only [List.map_cons, List.map_nil, Elem.row_up, up_map] <;> rfl) (by as_aux_lemma => kernel_rfl) ?_
  refine segs [] tabOk mixed 4000 (S := .and ((((r1.2 : Int) == 0) = true → (((r1.2 : Int) == 0) = true))) (.and (((r1.2 : Int) == 0) = true → ((r1.2 : Int) == 0) = true) (.and (((((r1.2 : Int) == 0) && ((r3.2 : Int) == 0)) = true → ((((r1.2 : Int) == 0) && ((r3.2 : Int) == 0)) = true))) (.and ((((r1.2 : Int) == 0) && ((r3.2 : Int) == 0)) = true → (((r1.2 : Int) == 0) && ((r3.2 : Int) == 0)) = true) (.and ((((((r1.2 : Int) == 0) && ((r3.2 : Int) == 0)) && ((r5.2 : Int) == 0)) = true → (((((r1.2 : Int) == 0) && ((r3.2 : Int) == 0)) && ((r5.2 : Int) == 0)) = true))) (.and (((((r1.2 : Int) == 0) && ((r3.2 : Int) == 0)) && ((r5.2 : Int) == 0)) = true → ((((r1.2 : Int) == 0) && ((r3.2 : Int) == 0)) && ((r5.2 : Int) == 0)) = true) (.leaf 0))))))) (by as_aux_lemma => kernel_rfl) ?_
  refine sk_and ((by decide : ∀ y0 : Bool, ((y0 = true) → (y0 = true))) ((r1.2 : Int) == 0)) ?_
  refine sk_and ((by decide : ∀ y0 : Bool, ((y0 = true) → (y0 = true))) ((r1.2 : Int) == 0)) ?_
  refine sk_and ((by decide : ∀ y0 : Bool, ((y0 = true) → (y0 = true))) (((r1.2 : Int) == 0) && ((r3.2 : Int) == 0))) ?_
  refine sk_and ((by decide : ∀ y0 : Bool, ((y0 = true) → (y0 = true))) (((r1.2 : Int) == 0) && ((r3.2 : Int) == 0))) ?_
  refine sk_and ((by decide : ∀ y0 : Bool, ((y0 = true) → (y0 = true))) ((((r1.2 : Int) == 0) && ((r3.2 : Int) == 0)) && ((r5.2 : Int) == 0))) ?_
  refine sk_and ((by decide : ∀ y0 : Bool, ((y0 = true) → (y0 = true))) ((((r1.2 : Int) == 0) && ((r3.2 : Int) == 0)) && ((r5.2 : Int) == 0))) ?_
  refine sk_leaf ?_
  refine bsG_ok (d := 48) (e := 3) (s := 1) (n := 4) (g := (((((r1.2 : Int) == 0) && ((r3.2 : Int) == 0)) && ((r5.2 : Int) == 0)) && ((r7.2 : Int) == 0))) (ws := []) (cs := [.pv (.raw (.int .i64 55)), .pv (.raw (.int .i64 60)), .pv (.raw (.int .i64 10)), .pv (.raw (.int .i64 40))]) E3 [55, 60, 10, 40] (by as_aux_lemma => kernel_rfl) (fun _ => trivial) rfl rfl rfl (by as_aux_lemma => kernel_rfl) ?_
  refine segs [] tabOk mixed 4000 (S := .leaf 0) (by as_aux_lemma => kernel_rfl) ?_
  refine sk_leaf ?_
  obtain ⟨r15, e16, h⟩ := bd_ h
  refine callG_ok (d := some 49) (fn := 12) (ax := [.row 17088 1 0 r1.1.length, .pv ((E3.ro [55, 60, 10, 40]))]) (args := [.pv ((E3.ro r1.1)), .pv ((E3.ro [55, 60, 10, 40]))]) (g := (((((r1.2 : Int) == 0) && ((r3.2 : Int) == 0)) && ((r5.2 : Int) == 0)) && ((r7.2 : Int) == 0))) (ws := [(((((r1.2 : Int) == 0) && ((r3.2 : Int) == 0)) && ((r5.2 : Int) == 0)) && ((r7.2 : Int) == 0)) = true, (((((r1.2 : Int) == 0) && ((r3.2 : Int) == 0)) && ((r5.2 : Int) == 0)) && ((r7.2 : Int) == 0)) = true]) (ps := [r1.1.length = r1.1.length, rowQ (E3.cR r1.1) 1 0 r1.1.length (fun i j => E3.cf (r1.1.getD i E3.z) j), [55, 60, 10, 40].length = [55, 60, 10, 40].length, ∀ i, i < [55, 60, 10, 40].length → ∀ j, j < 1 → E3.cf ([55, 60, 10, 40].getD i E3.z) j = E3.cf ([55, 60, 10, 40].getD i E3.z) j]) (by as_aux_lemma => kernel_rfl) (fun hg => ⟨((by decide : ∀ y0 : Bool, ((y0 = true) → (y0 = true))) (((((r1.2 : Int) == 0) && ((r3.2 : Int) == 0)) && ((r5.2 : Int) == 0)) && ((r7.2 : Int) == 0))) hg, ((by decide : ∀ y0 : Bool, ((y0 = true) → (y0 = true))) (((((r1.2 : Int) == 0) && ((r3.2 : Int) == 0)) && ((r5.2 : Int) == 0)) && ((r7.2 : Int) == 0))) hg, trivial⟩) (fun hg => slices_Equal_int_ok _ _ _ (by rw [hg] at e16; exact e16) (al := false)) (by as_aux_lemma => kernel_rfl) (fun hg => ⟨(by first | rfl | exact Elem.sub_len _ (by omega) | omega | simp | (simp <;> omega)), E3.rowQ_all r1.1 rfl, rfl, fun _ _ _ _ => rfl, trivial⟩) (fun hx => by cases hx) ?_
  refine segs [] tabOk mixed 4000 (S := .and ((((((r1.2 : Int) == 0) && ((r3.2 : Int) == 0)) && ((r5.2 : Int) == 0)) && ((r7.2 : Int) == 0)) = true → (((((r1.2 : Int) == 0) && ((r3.2 : Int) == 0)) && ((r5.2 : Int) == 0)) && ((r7.2 : Int) == 0)) = true) (.leaf 0)) (by as_aux_lemma => kernel_rfl) ?_
  refine sk_and ((by decide : ∀ y0 : Bool, ((y0 = true) → (y0 = true))) (((((r1.2 : Int) == 0) && ((r3.2 : Int) == 0)) && ((r5.2 : Int) == 0)) && ((r7.2 : Int) == 0))) ?_
  refine sk_leaf ?_
  refine bsG_ok (d := 53) (e := 3) (s := 1) (n := 4) (g := ((((((r1.2 : Int) == 0) && ((r3.2 : Int) == 0)) && ((r5.2 : Int) == 0)) && ((r7.2 : Int) == 0)) && r15)) (ws := []) (cs := [.pv (.raw (.int .i64 55)), .pv (.raw (.int .i64 60)), .pv (.raw (.int .i64 40)), .pv (.raw (.int .i64 10))]) E3 [55, 60, 40, 10] (by as_aux_lemma => kernel_rfl) (fun _ => trivial) rfl rfl rfl (by as_aux_lemma => kernel_rfl) ?_
  refine segs [] tabOk mixed 4000 (S := .leaf 0) (by as_aux_lemma => kernel_rfl) ?_
  refine sk_leaf ?_
  obtain ⟨r18, e19, h⟩ := bd_ h
  refine callG_ok (d := some 54) (fn := 12) (ax := [.row 17408 1 0 r3.1.length, .pv ((E3.ro [55, 60, 40, 10]))]) (args := [.pv ((E3.ro r3.1)), .pv ((E3.ro [55, 60, 40, 10]))]) (g := ((((((r1.2 : Int) == 0) && ((r3.2 : Int) == 0)) && ((r5.2 : Int) == 0)) && ((r7.2 : Int) == 0)) && r15)) (ws := [((((((r1.2 : Int) == 0) && ((r3.2 : Int) == 0)) && ((r5.2 : Int) == 0)) && ((r7.2 : Int) == 0)) && r15) = true, ((((((r1.2 : Int) == 0) && ((r3.2 : Int) == 0)) && ((r5.2 : Int) == 0)) && ((r7.2 : Int) == 0)) && r15) = true]) (ps := [r3.1.length = r3.1.length, rowQ (E3.cR r3.1) 1 0 r3.1.length (fun i j => E3.cf (r3.1.getD i E3.z) j), [55, 60, 40, 10].length = [55, 60, 40, 10].length, ∀ i, i < [55, 60, 40, 10].length → ∀ j, j < 1 → E3.cf ([55, 60, 40, 10].getD i E3.z) j = E3.cf ([55, 60, 40, 10].getD i E3.z) j]) (by as_aux_lemma => kernel_rfl) (fun hg => ⟨((by decide : ∀ y0 : Bool, ((y0 = true) → (y0 = true))) ((((((r1.2 : Int) == 0) && ((r3.2 : Int) == 0)) && ((r5.2 : Int) == 0)) && ((r7.2 : Int) == 0)) && r15)) hg, ((by decide : ∀ y0 : Bool, ((y0 = true) → (y0 = true))) ((((((r1.2 : Int) == 0) && ((r3.2 : Int) == 0)) && ((r5.2 : Int) == 0)) && ((r7.2 : Int) == 0)) && r15)) hg, trivial⟩) (fun hg => slices_Equal_int_ok _ _ _ (by rw [hg] at e19; exact e19) (al := false)) (by as_aux_lemma => kernel_rfl) (fun hg => ⟨(by first | rfl | exact Elem.sub_len _ (by omega) | omega | simp | (simp <;> omega)), E3.rowQ_all r3.1 rfl, rfl, fun _ _ _ _ => rfl, trivial⟩) (fun hx => by cases hx) ?_
  refine segs [] tabOk mixed 4000 (S := .and (((((((r1.2 : Int) == 0) && ((r3.2 : Int) == 0)) && ((r5.2 : Int) == 0)) && ((r7.2 : Int) == 0)) && r15) = true → ((((((r1.2 : Int) == 0) && ((r3.2 : Int) == 0)) && ((r5.2 : Int) == 0)) && ((r7.2 : Int) == 0)) && r15) = true) (.and (((((((((r1.2 : Int) == 0) && ((r3.2 : Int) == 0)) && ((r5.2 : Int) == 0)) && ((r7.2 : Int) == 0)) && r15) && r18) = true → ((((((((r1.2 : Int) == 0) && ((r3.2 : Int) == 0)) && ((r5.2 : Int) == 0)) && ((r7.2 : Int) == 0)) && r15) && r18) = true))) (.and ((((((((r1.2 : Int) == 0) && ((r3.2 : Int) == 0)) && ((r5.2 : Int) == 0)) && ((r7.2 : Int) == 0)) && r15) && r18) = true → (((((((r1.2 : Int) == 0) && ((r3.2 : Int) == 0)) && ((r5.2 : Int) == 0)) && ((r7.2 : Int) == 0)) && r15) && r18) = true) (.leaf 0)))) (by as_aux_lemma => kernel_rfl) ?_
  refine sk_and ((by decide : ∀ y0 : Bool, ((y0 = true) → (y0 = true))) ((((((r1.2 : Int) == 0) && ((r3.2 : Int) == 0)) && ((r5.2 : Int) == 0)) && ((r7.2 : Int) == 0)) && r15)) ?_
  refine sk_and ((by decide : ∀ y0 : Bool, ((y0 = true) → (y0 = true))) (((((((r1.2 : Int) == 0) && ((r3.2 : Int) == 0)) && ((r5.2 : Int) == 0)) && ((r7.2 : Int) == 0)) && r15) && r18)) ?_
  refine sk_and ((by decide : ∀ y0 : Bool, ((y0 = true) → (y0 = true))) (((((((r1.2 : Int) == 0) && ((r3.2 : Int) == 0)) && ((r5.2 : Int) == 0)) && ((r7.2 : Int) == 0)) && r15) && r18)) ?_
  refine sk_leaf ?_
  refine bsG_ok (d := 64) (e := 38) (s := 2) (n := 2) (g := ((((((((r1.2 : Int) == 0) && ((r3.2 : Int) == 0)) && ((r5.2 : Int) == 0)) && ((r7.2 : Int) == 0)) && r15) && r18) && ((r5.1 : Int) == 60))) (ws := [((((((((r1.2 : Int) == 0) && ((r3.2 : Int) == 0)) && ((r5.2 : Int) == 0)) && ((r7.2 : Int) == 0)) && r15) && r18) && ((r5.1 : Int) == 60)) = true, ((((((((r1.2 : Int) == 0) && ((r3.2 : Int) == 0)) && ((r5.2 : Int) == 0)) && ((r7.2 : Int) == 0)) && r15) && r18) && ((r5.1 : Int) == 60)) = true]) (cs := [.pv (.raw (.int .i64 1)), .pv (.raw (.int .i64 3)), .pv (.raw (.int .i64 5)), .pv (.raw (.int .i64 9))]) E38 [(⟨1, 3⟩ : Api_Span), (⟨5, 9⟩ : Api_Span)] (by as_aux_lemma => kernel_rfl) (fun hg => ⟨((by decide : ∀ y0 : Bool, ((y0 = true) → (y0 = true))) ((((((((r1.2 : Int) == 0) && ((r3.2 : Int) == 0)) && ((r5.2 : Int) == 0)) && ((r7.2 : Int) == 0)) && r15) && r18) && ((r5.1 : Int) == 60))) hg, ((by decide : ∀ y0 : Bool, ((y0 = true) → (y0 = true))) ((((((((r1.2 : Int) == 0) && ((r3.2 : Int) == 0)) && ((r5.2 : Int) == 0)) && ((r7.2 : Int) == 0)) && r15) && r18) && ((r5.1 : Int) == 60))) hg, trivial⟩) rfl rfl rfl (by as_aux_lemma => kernel_rfl) ?_
  refine segs [] tabOk mixed 4000 (S := .leaf 0) (by as_aux_lemma => kernel_rfl) ?_
  refine sk_leaf ?_
  obtain ⟨r23, e24, h⟩ := bd_ h
  refine callG_ok (d := some 65) (fn := 19) (ax := [.row 18240 2 0 r7.1.length, .pv ((E38.ro [(⟨1, 3⟩ : Api_Span), (⟨5, 9⟩ : Api_Span)]))]) (args := [.pv ((E38.ro r7.1)), .pv ((E38.ro [(⟨1, 3⟩ : Api_Span), (⟨5, 9⟩ : Api_Span)]))]) (g := ((((((((r1.2 : Int) == 0) && ((r3.2 : Int) == 0)) && ((r5.2 : Int) == 0)) && ((r7.2 : Int) == 0)) && r15) && r18) && ((r5.1 : Int) == 60))) (ws := [((((((((r1.2 : Int) == 0) && ((r3.2 : Int) == 0)) && ((r5.2 : Int) == 0)) && ((r7.2 : Int) == 0)) && r15) && r18) && ((r5.1 : Int) == 60)) = true, ((((((((r1.2 : Int) == 0) && ((r3.2 : Int) == 0)) && ((r5.2 : Int) == 0)) && ((r7.2 : Int) == 0)) && r15) && r18) && ((r5.1 : Int) == 60)) = true]) (ps := [r7.1.length = r7.1.length, rowQ (E38.cR r7.1) 2 0 r7.1.length (fun i j => E38.cf (r7.1.getD i E38.z) j), [(⟨1, 3⟩ : Api_Span), (⟨5, 9⟩ : Api_Span)].length = [(⟨1, 3⟩ : Api_Span), (⟨5, 9⟩ : Api_Span)].length, ∀ i, i < [(⟨1, 3⟩ : Api_Span), (⟨5, 9⟩ : Api_Span)].length → ∀ j, j < 2 → E38.cf ([(⟨1, 3⟩ : Api_Span), (⟨5, 9⟩ : Api_Span)].getD i E38.z) j = E38.cf ([(⟨1, 3⟩ : Api_Span), (⟨5, 9⟩ : Api_Span)].getD i E38.z) j]) (by as_aux_lemma => kernel_rfl) (fun hg => ⟨((by decide : ∀ y0 : Bool, ((y0 = true) → (y0 = true))) ((((((((r1.2 : Int) == 0) && ((r3.2 : Int) == 0)) && ((r5.2 : Int) == 0)) && ((r7.2 : Int) == 0)) && r15) && r18) && ((r5.1 : Int) == 60))) hg, ((by decide : ∀ y0 : Bool, ((y0 = true) → (y0 = true))) ((((((((r1.2 : Int) == 0) && ((r3.2 : Int) == 0)) && ((r5.2 : Int) == 0)) && ((r7.2 : Int) == 0)) && r15) && r18) && ((r5.1 : Int) == 60))) hg, trivial⟩) (fun hg => slices_Equal_api_Span_ok _ _ _ (by rw [hg] at e24; exact e24) (al := false)) (by as_aux_lemma => kernel_rfl) (fun hg => ⟨(by first | rfl | exact Elem.sub_len _ (by omega) | omega | simp | (simp <;> omega)), E38.rowQ_all r7.1 rfl, rfl, fun _ _ _ _ => rfl, trivial⟩) (fun hx => by cases hx) ?_
  refine segs [] tabOk mixed 4000 (S := .and (((((((((r1.2 : Int) == 0) && ((r3.2 : Int) == 0)) && ((r5.2 : Int) == 0)) && ((r7.2 : Int) == 0)) && r15) && r18) && ((r5.1 : Int) == 60)) = true → ((((((((r1.2 : Int) == 0) && ((r3.2 : Int) == 0)) && ((r5.2 : Int) == 0)) && ((r7.2 : Int) == 0)) && r15) && r18) && ((r5.1 : Int) == 60)) = true) (.leaf 0)) (by as_aux_lemma => kernel_rfl) ?_
  refine sk_and ((by decide : ∀ y0 : Bool, ((y0 = true) → (y0 = true))) ((((((((r1.2 : Int) == 0) && ((r3.2 : Int) == 0)) && ((r5.2 : Int) == 0)) && ((r7.2 : Int) == 0)) && r15) && r18) && ((r5.1 : Int) == 60))) ?_
  refine sk_leaf ?_
  obtain rfl := some_ h
  exact end_ok [] Try.results7 (ps := [(((((((((r1.2 : Int) == 0) && ((r3.2 : Int) == 0)) && ((r5.2 : Int) == 0)) && ((r7.2 : Int) == 0)) && r15) && r18) && ((r5.1 : Int) == 60)) && r23) = (((((((((r1.2 : Int) == 0) && ((r3.2 : Int) == 0)) && ((r5.2 : Int) == 0)) && ((r7.2 : Int) == 0)) && r15) && r18) && ((r5.1 : Int) == 60)) && r23)]) (by as_aux_lemma => kernel_rfl) ⟨rfl, trivial⟩ (fun _ => ⟨rfl, by simp⟩)

set_option maxHeartbeats 40000000 in
set_option maxRecDepth 100000 in
theorem keep_LiftAll_ok (a0 : Int) (a1 : (List Int)) (r : Bool) (h : keep_LiftAll a0 a1 = some r) {al : Bool} : PCalls Try.prog 3 [.pv (.raw (.int .i64 a0)), .pv ((E3.ro a1))] al (.pv (.raw (.bool r))) [] := by
  unfold keep_LiftAll at h
  refine fn_ok tabOk Try.func3 (by as_aux_lemma => kernel_rfl) (by as_aux_lemma => kernel_rfl) Try.ntmps3 (by simp) ?_
  refine segs [15] tabOk mixed 4000 (S := .leaf 0) (by as_aux_lemma => kernel_rfl) ?_
  refine sk_leaf ?_
  obtain ⟨r1, e2, h⟩ := bd_ h
  refine call_ok (d := some 12) (fn := 7) (ax := []) (args := []) (ps := []) (hb' := []) (by as_aux_lemma => kernel_rfl) (keep_alive19_ok  _ e2 (al := true)) (by as_aux_lemma => kernel_rfl) trivial (fun _ => (by as_aux_lemma => kernel_rfl)) (by simp) rfl (by as_aux_lemma => kernel_rfl) ?_
  refine segs [15] tabOk mixed 4000 (S := .br (!r1) (.leaf 0) (.leaf 1)) (by as_aux_lemma => kernel_rfl) ?_
  refine br_ h ?_ ?_ <;> clear h <;> intro c3 h
  · refine sk_leaf ?_
    obtain rfl := some_ h
    exact end_ok [] Try.results3 (ps := [false = false]) (by as_aux_lemma => kernel_rfl) ⟨rfl, trivial⟩ (fun _ => ⟨rfl, by simp⟩)
  · refine sk_leaf ?_
    obtain ⟨r4, e5, h⟩ := bd_ h
    refine call_ok (d := some 17) (fn := 8) (ax := [.pv (.raw (.int .i64 a0)), .pv ((E3.ro a1))]) (args := [.pv (.raw (.int .i64 a0)), .pv ((E3.ro a1))]) (ps := [(a0 : Int) = a0, a1.length = a1.length, ∀ i, i < a1.length → ∀ j, j < 1 → E3.cf (a1.getD i E3.z) j = E3.cf (a1.getD i E3.z) j]) (hb' := [.row 3 1 (E3.cR r4.1)]) (by as_aux_lemma => kernel_rfl) (lift_Sweep_ok _ _ _ e5 (al := true)) (by as_aux_lemma => kernel_rfl) ⟨rfl, rfl, fun _ _ _ _ => rfl, trivial⟩ (fun _ => (by as_aux_lemma => kernel_rfl)) (by simp) (by simp only [List.map_cons, List.map_nil, Elem.row_up, up_map] <;> rfl) (by as_aux_lemma => kernel_rfl) ?_
    refine segs [15] tabOk mixed 4000 (S := .leaf 0) (by as_aux_lemma => kernel_rfl) ?_
    refine sk_leaf ?_
    obtain ⟨r6, e7, h⟩ := bd_ h
    refine call_ok (d := some 23) (fn := 9) (ax := [.pv (.raw (.int .i64 a0)), .pv ((E3.ro a1))]) (args := [.pv (.raw (.int .i64 a0)), .pv ((E3.ro a1))]) (ps := [(a0 : Int) = a0, a1.length = a1.length, ∀ i, i < a1.length → ∀ j, j < 1 → E3.cf (a1.getD i E3.z) j = E3.cf (a1.getD i E3.z) j]) (hb' := [.row 3 1 (E3.cR r6.1)]) (by as_aux_lemma => kernel_rfl) (lift_Short_ok _ _ _ e7 (al := true)) (by as_aux_lemma => kernel_rfl) ⟨rfl, rfl, fun _ _ _ _ => rfl, trivial⟩ (fun _ => (by as_aux_lemma => kernel_rfl)) (by simp) (by simp only [List.map_cons, List.map_nil, Elem.row_up, up_map] <;> rfl) (by as_aux_lemma => kernel_rfl) ?_
    refine segs [15] tabOk mixed 4000 (S := .br ((r4.2 : Int) != 0) (.leaf 0) (.leaf 1)) (by as_aux_lemma => kernel_rfl) ?_
    refine br_ h ?_ ?_ <;> clear h <;> intro c8 h
    · refine sk_leaf ?_
      obtain rfl := some_ h
      exact end_ok [] Try.results3 (ps := [((r4.2 : Int) == r6.2) = ((r4.2 : Int) == r6.2)]) (by as_aux_lemma => kernel_rfl) ⟨rfl, trivial⟩ (fun _ => ⟨rfl, by simp⟩)
    · refine sk_leaf ?_
      obtain ⟨r9, e10, h⟩ := bd_ h
      refine call_ok (d := some 32) (fn := 11) (ax := [.pv ((E3.ro a1))]) (args := [.pv ((E3.ro a1))]) (ps := [a1.length = a1.length, ∀ i, i < a1.length → ∀ j, j < 1 → E3.cf (a1.getD i E3.z) j = E3.cf (a1.getD i E3.z) j]) (hb' := []) (by as_aux_lemma => kernel_rfl) (slices_Values_int_ok _ _ e10) (by as_aux_lemma => kernel_rfl) ⟨rfl, fun _ _ _ _ => rfl, trivial⟩ (fun _ => (by as_aux_lemma => kernel_rfl)) (by simp) rfl (by as_aux_lemma => kernel_rfl) ?_
      refine segs [15] tabOk mixed 4000 (S := .leaf 0) (by as_aux_lemma => kernel_rfl) ?_
      refine sk_leaf ?_
      obtain ⟨r11, e12, h⟩ := bd_ h
      refine call_ok (d := some 33) (fn := 10) (ax := [.fn 30 [.roat 1 (fun j => E22.cf a1 j)]]) (args := [.fn 30 [.roat 1 (fun j => E22.cf a1 j)]]) (ps := [a1.length = a1.length, ∀ i, i < a1.length → ∀ j, j < 1 → E3.cf (a1.getD i E3.z) j = E3.cf (a1.getD i E3.z) j]) (hb' := [.row 3 1 (E3.cR r11)]) (by as_aux_lemma => kernel_rfl) (slices_Sorted_int_ok _ _ e12 (al := false)) (by as_aux_lemma => kernel_rfl) ⟨rfl, fun _ _ _ _ => rfl, trivial⟩ (fun hx => by cases hx) (by simp) (by simp only [List.map_cons, List.map_nil, Elem.row_up, up_map] <;> rfl) (by as_aux_lemma => kernel_rfl) ?_
      refine segs [15] tabOk mixed 4000 (S := .leaf 0) (by as_aux_lemma => kernel_rfl) ?_
      refine sk_leaf ?_
      refine len_row (by as_aux_lemma => kernel_rfl) 17472 (e := 3) (s := 1) (n := r4.1.length) (cs := E3.cR r4.1) (by as_aux_lemma => kernel_rfl) (Elem.cR_length _ _) ?_; intro hl1_0
      refine len_row (by as_aux_lemma => kernel_rfl) 17856 (e := 3) (s := 1) (n := r6.1.length) (cs := E3.cR r6.1) (by as_aux_lemma => kernel_rfl) (Elem.cR_length _ _) ?_; intro hl1_1
      refine len_row (by as_aux_lemma => kernel_rfl) 18496 (e := 3) (s := 1) (n := r11.length) (cs := E3.cR r11) (by as_aux_lemma => kernel_rfl) (Elem.cR_length _ _) ?_; intro hl1_2
      replace h : (fun (x : Nat × Int × Nat) => keep_LiftAll_l1 r4 r6 r11 x.1 x.2.1 x.2.2 = some r) (FUEL, 0, 0) := h
      refine loop_ok (by as_aux_lemma => kernel_rfl) (X := Nat × Int × Nat) (fun x => keep_LiftAll_l1 r4 r6 r11 x.1 x.2.1 x.2.2 = some r) (fun x => x.1) (fun x => mk 76 [(4, .pv (.raw (.bool false))), (5, .row 0 1 0 r4.1.length), (7, .row 1 1 0 r6.1.length), (8, .pv (.raw (.int .i64 r6.2))), (9, .row 2 1 0 r11.length), (10, .pv (.raw (.int .i64 x.2.1))), (35, .pv (.raw (.int .i64 ((r4.1.length : Nat) : Int)))), (36, .pv (.raw (.int .i64 ((x.2.2 : Nat) : Int))))] (rH E3 3 1 0 ([r4.1, r6.1, r11]))) (FUEL, 0, 0) h ?_ ?_
      · exact sub_ok (ρ := [(0, some 17472), (1, some 17856), (2, some 18496)]) (l := ([false = false, 0 = 0, r4.1.length = r4.1.length, 0 = 0, r6.1.length = r6.1.length, (r6.2 : Int) = r6.2, 0 = 0, r11.length = r11.length, (0 : Int) = 0, (((r4.1.length : Nat) : Int) : Int) = ((r4.1.length : Nat) : Int), (0 : Int) = ((0 : Nat) : Int)] ++ (pB E3 ([r4.1, r6.1, r11])))) (by as_aux_lemma => kernel_rfl) (allP_app ⟨rfl, rfl, rfl, rfl, rfl, rfl, rfl, rfl, rfl, rfl, (by first | rfl | simp), trivial⟩ (pB_ok _ _))
      · clear h; rintro ⟨n1, x13, k14⟩ h p1 hp1
        obtain _ | n1 := n1
        · cases (show (none : Option (Bool)) = some r from h)
        have h : keep_LiftAll_l1 r4 r6 r11 (n1 + 1) x13 k14 = some r := h
        unfold keep_LiftAll_l1 at h
        refine segs [15] tabOk mixed 4000 (S := .br (decide ((((k14 : Nat) : Int) : Int) < ((r4.1.length : Nat) : Int))) (.and (((decide ((((k14 : Nat) : Int) : Int) > 0)) = true → ((decide ((((k14 : Nat) : Int) : Int) > 0)) = true))) (.and (((decide ((((k14 : Nat) : Int) : Int) > 0)) = true → ((decide ((((k14 : Nat) : Int) : Int) > 0)) = true))) (.and (((decide ((((k14 : Nat) : Int) : Int) > 0)) = true → (0 ≤ (((k14 : Nat) : Int) : Int) ∧ ((k14 : Nat) : Int) < ((r4.1.length : Nat) : Int)))) (.leaf 0)))) (.leaf 1)) (by as_aux_lemma => kernel_rfl) ?_
        refine br_ h ?_ ?_ <;> clear h <;> intro c15 h
        · refine sk_and ((by decide : ∀ y0 : Bool, ((y0 = true) → (y0 = true))) (decide ((((k14 : Nat) : Int) : Int) > 0))) ?_
          refine sk_and ((by decide : ∀ y0 : Bool, ((y0 = true) → (y0 = true))) (decide ((((k14 : Nat) : Int) : Int) > 0))) ?_
          refine gd_ h ?_; clear h; intro g18 h
          refine sk_leaf ?_
          refine gsp_ h ?_ ?_ <;> clear h <;> intro c19 h
          · refine unG_ok (g := (decide ((((k14 : Nat) : Int) : Int) > 0))) (ws := [(decide ((((k14 : Nat) : Int) : Int) > 0)) = true]) (by as_aux_lemma => kernel_rfl) (by as_aux_lemma => kernel_rfl) c19 ⟨((by decide : ∀ y0 : Bool, ((y0 = true) → (y0 = true))) (decide ((((k14 : Nat) : Int) : Int) > 0))) c19, trivial⟩ ?_
            refine ld_ok (d := 45) (id := 0) (i := (0 + k14)) (j := 0) (e := 3) (n := 1) E3 (xs := r4.1) (by as_aux_lemma => kernel_rfl) (by as_aux_lemma => kernel_rfl) (by first | omega | (simp at * <;> omega) | (simp_all <;> omega)) (by exact Nat.le_of_ble_eq_true rfl) ?_
            refine gdw_ok (g := (decide ((((k14 : Nat) : Int) : Int) > 0))) (ws := [(decide ((((k14 : Nat) : Int) : Int) > 0)) = true]) (by as_aux_lemma => kernel_rfl) ?_
            refine segs [15] tabOk mixed 4000 (S := .and (((decide ((((k14 : Nat) : Int) : Int) > 0)) = true → ((decide ((((k14 : Nat) : Int) : Int) > 0)) = true))) (.and (((decide ((((k14 : Nat) : Int) : Int) > 0)) = true → ((decide ((((k14 : Nat) : Int) : Int) > 0)) = true))) (.and (((decide ((((k14 : Nat) : Int) : Int) > 0)) = true → ((decide ((((k14 : Nat) : Int) : Int) > 0)) = true))) (.and (((decide ((((k14 : Nat) : Int) : Int) > 0)) = true → (0 ≤ ((IntKind.i64.wrap (((k14 : Nat) : Int) - 1)) : Int) ∧ (IntKind.i64.wrap (((k14 : Nat) : Int) - 1)) < ((r4.1.length : Nat) : Int)))) (.leaf 0))))) (by as_aux_lemma => kernel_rfl) ?_
            refine sk_and ((by decide : ∀ y0 : Bool, ((y0 = true) → (y0 = true))) (decide ((((k14 : Nat) : Int) : Int) > 0))) ?_
            refine sk_and ((by decide : ∀ y0 : Bool, ((y0 = true) → (y0 = true))) (decide ((((k14 : Nat) : Int) : Int) > 0))) ?_
            refine sk_and ((by decide : ∀ y0 : Bool, ((y0 = true) → (y0 = true))) (decide ((((k14 : Nat) : Int) : Int) > 0))) ?_
            refine gd_ h ?_; clear h; intro g23 h
            refine sk_leaf ?_
            refine unG_ok (g := (decide ((((k14 : Nat) : Int) : Int) > 0))) (ws := [(decide ((((k14 : Nat) : Int) : Int) > 0)) = true]) (by as_aux_lemma => kernel_rfl) (by as_aux_lemma => kernel_rfl) c19 ⟨((by decide : ∀ y0 : Bool, ((y0 = true) → (y0 = true))) (decide ((((k14 : Nat) : Int) : Int) > 0))) c19, trivial⟩ ?_
            refine ld_ok (d := 50) (id := 0) (i := (0 + (Int.toNat (IntKind.i64.wrap (((k14 : Nat) : Int) - 1))))) (j := 0) (e := 3) (n := 1) E3 (xs := r4.1) (by as_aux_lemma => kernel_rfl) (by as_aux_lemma => kernel_rfl) (by first | omega | (simp at * <;> omega) | (simp_all <;> omega)) (by exact Nat.le_of_ble_eq_true rfl) ?_
            refine gdw_ok (g := (decide ((((k14 : Nat) : Int) : Int) > 0))) (ws := [(decide ((((k14 : Nat) : Int) : Int) > 0)) = true]) (by as_aux_lemma => kernel_rfl) ?_
            refine segs [15] tabOk mixed 4000 (S := .and (((decide ((((k14 : Nat) : Int) : Int) > 0)) = true → ((decide ((((k14 : Nat) : Int) : Int) > 0)) = true))) (.and (((decide ((((k14 : Nat) : Int) : Int) > 0)) = true → ((decide ((((k14 : Nat) : Int) : Int) > 0)) = true))) (.and ((decide ((((k14 : Nat) : Int) : Int) > 0)) = true → (decide ((((k14 : Nat) : Int) : Int) > 0)) = true) (.br ((decide ((((k14 : Nat) : Int) : Int) > 0)) && (decide (((r4.1.getD (0 + k14) 0) : Int) < (r4.1.getD (0 + (Int.toNat (IntKind.i64.wrap (((k14 : Nat) : Int) - 1)))) 0)))) (.leaf 0) (.leaf 1))))) (by as_aux_lemma => kernel_rfl) ?_
            refine sk_and ((by decide : ∀ y0 : Bool, ((y0 = true) → (y0 = true))) (decide ((((k14 : Nat) : Int) : Int) > 0))) ?_
            refine sk_and ((by decide : ∀ y0 : Bool, ((y0 = true) → (y0 = true))) (decide ((((k14 : Nat) : Int) : Int) > 0))) ?_
            refine sk_and ((by decide : ∀ y0 : Bool, ((y0 = true) → (y0 = true))) (decide ((((k14 : Nat) : Int) : Int) > 0))) ?_
            refine br_ h ?_ ?_ <;> clear h <;> intro c27 h
            · refine sk_leaf ?_
              refine back_ok (p := p1) (by as_aux_lemma => kernel_rfl) (hp1 (n1, (IntKind.i64.wrap (x13 + 1)), k14 + 1) _ h (Nat.lt_succ_self n1) ?_)
              exact sub_ok (ρ := (rI 0 0 3)) (l := ([false = false, 0 = 0, r4.1.length = r4.1.length, 0 = 0, r6.1.length = r6.1.length, (r6.2 : Int) = r6.2, 0 = 0, r11.length = r11.length, ((IntKind.i64.wrap (x13 + 1)) : Int) = (IntKind.i64.wrap (x13 + 1)), (((r4.1.length : Nat) : Int) : Int) = ((r4.1.length : Nat) : Int), ((IntKind.i64.wrap (((k14 : Nat) : Int) + 1)) : Int) = (((k14 + 1) : Nat) : Int)] ++ (pB E3 ([r4.1, r6.1, r11])))) (by as_aux_lemma => kernel_rfl) (allP_app ⟨rfl, rfl, rfl, rfl, rfl, rfl, rfl, rfl, rfl, rfl, (wrap_nat (Int.ofNat_lt.1 (of_decide_eq_true c15)) (by omega)), trivial⟩ (pB_ok _ _))
            · refine sk_leaf ?_
              refine back_ok (p := p1) (by as_aux_lemma => kernel_rfl) (hp1 (n1, x13, k14 + 1) _ h (Nat.lt_succ_self n1) ?_)
              exact sub_ok (ρ := (rI 0 0 3)) (l := ([false = false, 0 = 0, r4.1.length = r4.1.length, 0 = 0, r6.1.length = r6.1.length, (r6.2 : Int) = r6.2, 0 = 0, r11.length = r11.length, (x13 : Int) = x13, (((r4.1.length : Nat) : Int) : Int) = ((r4.1.length : Nat) : Int), ((IntKind.i64.wrap (((k14 : Nat) : Int) + 1)) : Int) = (((k14 + 1) : Nat) : Int)] ++ (pB E3 ([r4.1, r6.1, r11])))) (by as_aux_lemma => kernel_rfl) (allP_app ⟨rfl, rfl, rfl, rfl, rfl, rfl, rfl, rfl, rfl, rfl, (wrap_nat (Int.ofNat_lt.1 (of_decide_eq_true c15)) (by omega)), trivial⟩ (pB_ok _ _))
          · refine skG_ok (g := (decide ((((k14 : Nat) : Int) : Int) > 0))) (ws := [(decide ((((k14 : Nat) : Int) : Int) > 0)) = true]) (.pv (.raw (.int .i64 0))) (by as_aux_lemma => kernel_rfl) c19 ?_
            refine segs [15] tabOk mixed 4000 (S := .and (((decide ((((k14 : Nat) : Int) : Int) > 0)) = true → ((decide ((((k14 : Nat) : Int) : Int) > 0)) = true))) (.and (((decide ((((k14 : Nat) : Int) : Int) > 0)) = true → ((decide ((((k14 : Nat) : Int) : Int) > 0)) = true))) (.and (((decide ((((k14 : Nat) : Int) : Int) > 0)) = true → ((decide ((((k14 : Nat) : Int) : Int) > 0)) = true))) (.and (((decide ((((k14 : Nat) : Int) : Int) > 0)) = true → (0 ≤ ((IntKind.i64.wrap (((k14 : Nat) : Int) - 1)) : Int) ∧ (IntKind.i64.wrap (((k14 : Nat) : Int) - 1)) < ((r4.1.length : Nat) : Int)))) (.leaf 0))))) (by as_aux_lemma => kernel_rfl) ?_
            refine sk_and ((by decide : ∀ y0 : Bool, ((y0 = true) → (y0 = true))) (decide ((((k14 : Nat) : Int) : Int) > 0))) ?_
            refine sk_and ((by decide : ∀ y0 : Bool, ((y0 = true) → (y0 = true))) (decide ((((k14 : Nat) : Int) : Int) > 0))) ?_
            refine sk_and ((by decide : ∀ y0 : Bool, ((y0 = true) → (y0 = true))) (decide ((((k14 : Nat) : Int) : Int) > 0))) ?_
            refine gd_ h ?_; clear h; intro g31 h
            refine sk_leaf ?_
            refine skG_ok (g := (decide ((((k14 : Nat) : Int) : Int) > 0))) (ws := [(decide ((((k14 : Nat) : Int) : Int) > 0)) = true]) (.pv (.raw (.int .i64 0))) (by as_aux_lemma => kernel_rfl) c19 ?_
            refine segs [15] tabOk mixed 4000 (S := .and (((decide ((((k14 : Nat) : Int) : Int) > 0)) = true → ((decide ((((k14 : Nat) : Int) : Int) > 0)) = true))) (.and (((decide ((((k14 : Nat) : Int) : Int) > 0)) = true → ((decide ((((k14 : Nat) : Int) : Int) > 0)) = true))) (.and ((decide ((((k14 : Nat) : Int) : Int) > 0)) = true → (decide ((((k14 : Nat) : Int) : Int) > 0)) = true) (.br ((decide ((((k14 : Nat) : Int) : Int) > 0)) && (decide ((0 : Int) < 0))) (.leaf 0) (.leaf 1))))) (by as_aux_lemma => kernel_rfl) ?_
            refine sk_and ((by decide : ∀ y0 : Bool, ((y0 = true) → (y0 = true))) (decide ((((k14 : Nat) : Int) : Int) > 0))) ?_
            refine sk_and ((by decide : ∀ y0 : Bool, ((y0 = true) → (y0 = true))) (decide ((((k14 : Nat) : Int) : Int) > 0))) ?_
            refine sk_and ((by decide : ∀ y0 : Bool, ((y0 = true) → (y0 = true))) (decide ((((k14 : Nat) : Int) : Int) > 0))) ?_
            refine br_ h ?_ ?_ <;> clear h <;> intro c35 h
            · refine sk_leaf ?_
              refine back_ok (p := p1) (by as_aux_lemma => kernel_rfl) (hp1 (n1, (IntKind.i64.wrap (x13 + 1)), k14 + 1) _ h (Nat.lt_succ_self n1) ?_)
              exact sub_ok (ρ := (rI 0 0 3)) (l := ([false = false, 0 = 0, r4.1.length = r4.1.length, 0 = 0, r6.1.length = r6.1.length, (r6.2 : Int) = r6.2, 0 = 0, r11.length = r11.length, ((IntKind.i64.wrap (x13 + 1)) : Int) = (IntKind.i64.wrap (x13 + 1)), (((r4.1.length : Nat) : Int) : Int) = ((r4.1.length : Nat) : Int), ((IntKind.i64.wrap (((k14 : Nat) : Int) + 1)) : Int) = (((k14 + 1) : Nat) : Int)] ++ (pB E3 ([r4.1, r6.1, r11])))) (by as_aux_lemma => kernel_rfl) (allP_app ⟨rfl, rfl, rfl, rfl, rfl, rfl, rfl, rfl, rfl, rfl, (wrap_nat (Int.ofNat_lt.1 (of_decide_eq_true c15)) (by omega)), trivial⟩ (pB_ok _ _))
            · refine sk_leaf ?_
              refine back_ok (p := p1) (by as_aux_lemma => kernel_rfl) (hp1 (n1, x13, k14 + 1) _ h (Nat.lt_succ_self n1) ?_)
              exact sub_ok (ρ := (rI 0 0 3)) (l := ([false = false, 0 = 0, r4.1.length = r4.1.length, 0 = 0, r6.1.length = r6.1.length, (r6.2 : Int) = r6.2, 0 = 0, r11.length = r11.length, (x13 : Int) = x13, (((r4.1.length : Nat) : Int) : Int) = ((r4.1.length : Nat) : Int), ((IntKind.i64.wrap (((k14 : Nat) : Int) + 1)) : Int) = (((k14 + 1) : Nat) : Int)] ++ (pB E3 ([r4.1, r6.1, r11])))) (by as_aux_lemma => kernel_rfl) (allP_app ⟨rfl, rfl, rfl, rfl, rfl, rfl, rfl, rfl, rfl, rfl, (wrap_nat (Int.ofNat_lt.1 (of_decide_eq_true c15)) (by omega)), trivial⟩ (pB_ok _ _))
        · refine sk_leaf ?_
          refine cut_ok (by as_aux_lemma => kernel_rfl) (τ := mk 76 [(4, .pv (.raw (.bool false))), (5, .pv ((E3.ro r4.1))), (7, .pv ((E3.ro r6.1))), (8, .pv (.raw (.int .i64 r6.2))), (9, .pv ((E3.ro r11))), (10, .pv (.raw (.int .i64 x13)))] []) (sub_ok (ρ := []) (l := [false = false, r4.1.length = r4.1.length, rowQ (E3.cR r4.1) 1 0 r4.1.length (fun i j => E3.cf (r4.1.getD i E3.z) j), r6.1.length = r6.1.length, rowQ (E3.cR r6.1) 1 0 r6.1.length (fun i j => E3.cf (r6.1.getD i E3.z) j), (r6.2 : Int) = r6.2, r11.length = r11.length, rowQ (E3.cR r11) 1 0 r11.length (fun i j => E3.cf (r11.getD i E3.z) j), (x13 : Int) = x13]) (by as_aux_lemma => kernel_rfl) ⟨rfl, (by first | rfl | exact Elem.sub_len _ (by omega) | omega | simp | (simp <;> omega)), E3.rowQ_all r4.1 rfl, (by first | rfl | exact Elem.sub_len _ (by omega) | omega | simp | (simp <;> omega)), E3.rowQ_all r6.1 rfl, rfl, (by first | rfl | exact Elem.sub_len _ (by omega) | omega | simp | (simp <;> omega)), E3.rowQ_all r11 rfl, rfl, trivial⟩) ?_
          refine segs [] tabOk mixed 4000 (S := .leaf 0) (by as_aux_lemma => kernel_rfl) ?_
          refine sk_leaf ?_
          refine gsp_ h ?_ ?_ <;> clear h <;> intro c36 h
          · refine unG_ok (g := ((r6.2 : Int) == 0)) (ws := [((r6.2 : Int) == 0) = true]) (by as_aux_lemma => kernel_rfl) (by as_aux_lemma => kernel_rfl) c36 ⟨((by decide : ∀ y0 : Bool, ((y0 = true) → (y0 = true))) ((r6.2 : Int) == 0)) c36, trivial⟩ ?_
            obtain ⟨r37, e38, h⟩ := bd_ h
            refine call_ok (d := some 60) (fn := 11) (ax := [.pv ((E3.ro r4.1))]) (args := [.pv ((E3.ro r4.1))]) (ps := [r4.1.length = r4.1.length, ∀ i, i < r4.1.length → ∀ j, j < 1 → E3.cf (r4.1.getD i E3.z) j = E3.cf (r4.1.getD i E3.z) j]) (hb' := []) (by as_aux_lemma => kernel_rfl) (slices_Values_int_ok _ _ e38) (by as_aux_lemma => kernel_rfl) ⟨rfl, fun _ _ _ _ => rfl, trivial⟩ (fun _ => (by as_aux_lemma => kernel_rfl)) (by simp) rfl (by as_aux_lemma => kernel_rfl) ?_
            refine gdw_ok (g := ((r6.2 : Int) == 0)) (ws := [((r6.2 : Int) == 0) = true]) (by as_aux_lemma => kernel_rfl) ?_
            refine segs [15] tabOk mixed 4000 (S := .leaf 0) (by as_aux_lemma => kernel_rfl) ?_
            refine sk_leaf ?_
            refine unG_ok (g := ((r6.2 : Int) == 0)) (ws := [((r6.2 : Int) == 0) = true]) (by as_aux_lemma => kernel_rfl) (by as_aux_lemma => kernel_rfl) c36 ⟨((by decide : ∀ y0 : Bool, ((y0 = true) → (y0 = true))) ((r6.2 : Int) == 0)) c36, trivial⟩ ?_
            obtain ⟨r39, e40, h⟩ := bd_ h
            refine call_ok (d := some 61) (fn := 10) (ax := [.fn 30 [.roat 1 (fun j => E22.cf r4.1 j)]]) (args := [.fn 30 [.roat 1 (fun j => E22.cf r4.1 j)]]) (ps := [r4.1.length = r4.1.length, ∀ i, i < r4.1.length → ∀ j, j < 1 → E3.cf (r4.1.getD i E3.z) j = E3.cf (r4.1.getD i E3.z) j]) (hb' := [.row 3 1 (E3.cR r39)]) (by as_aux_lemma => kernel_rfl) (slices_Sorted_int_ok _ _ e40 (al := false)) (by as_aux_lemma => kernel_rfl) ⟨rfl, fun _ _ _ _ => rfl, trivial⟩ (fun hx => by cases hx) (by simp) (by simp only [List.map_cons, List.map_nil, Elem.row_up, up_map] <;> rfl) (by as_aux_lemma => kernel_rfl) ?_
            refine gdw_ok (g := ((r6.2 : Int) == 0)) (ws := [((r6.2 : Int) == 0) = true]) (by as_aux_lemma => kernel_rfl) ?_
            refine segs [15] tabOk mixed 4000 (S := .leaf 0) (by as_aux_lemma => kernel_rfl) ?_
            refine sk_leaf ?_
            refine unG_ok (g := ((r6.2 : Int) == 0)) (ws := [((r6.2 : Int) == 0) = true, ((r6.2 : Int) == 0) = true]) (by as_aux_lemma => kernel_rfl) (by as_aux_lemma => kernel_rfl) c36 ⟨((by decide : ∀ y0 : Bool, ((y0 = true) → (y0 = true))) ((r6.2 : Int) == 0)) c36, ((by decide : ∀ y0 : Bool, ((y0 = true) → (y0 = true))) ((r6.2 : Int) == 0)) c36, trivial⟩ ?_
            obtain ⟨r41, e42, h⟩ := bd_ h
            refine call_ok (d := some 63) (fn := 12) (ax := [.row 20288 1 0 r39.length, .pv ((E3.ro r11))]) (args := [.pv ((E3.ro r39)), .pv ((E3.ro r11))]) (ps := [r39.length = r39.length, rowQ (E3.cR r39) 1 0 r39.length (fun i j => E3.cf (r39.getD i E3.z) j), r11.length = r11.length, ∀ i, i < r11.length → ∀ j, j < 1 → E3.cf (r11.getD i E3.z) j = E3.cf (r11.getD i E3.z) j]) (hb' := []) (by as_aux_lemma => kernel_rfl) (slices_Equal_int_ok _ _ _ e42 (al := false)) (by as_aux_lemma => kernel_rfl) ⟨(by first | rfl | exact Elem.sub_len _ (by omega) | omega | simp | (simp <;> omega)), E3.rowQ_all r39 rfl, rfl, fun _ _ _ _ => rfl, trivial⟩ (fun hx => by cases hx) (by simp) rfl (by as_aux_lemma => kernel_rfl) ?_
            refine gdw_ok (g := ((r6.2 : Int) == 0)) (ws := [((r6.2 : Int) == 0) = true, ((r6.2 : Int) == 0) = true]) (by as_aux_lemma => kernel_rfl) ?_
            refine segs [15] tabOk mixed 4000 (S := .and (((r6.2 : Int) == 0) = true → ((r6.2 : Int) == 0) = true) (.leaf 0)) (by as_aux_lemma => kernel_rfl) ?_
            refine sk_and ((by decide : ∀ y0 : Bool, ((y0 = true) → (y0 = true))) ((r6.2 : Int) == 0)) ?_
            refine sk_leaf ?_
            refine gsp_ h ?_ ?_ <;> clear h <;> intro c44 h
            · refine unG_ok (g := (((r6.2 : Int) == 0) && r41)) (ws := [(((r6.2 : Int) == 0) && r41) = true]) (by as_aux_lemma => kernel_rfl) (by as_aux_lemma => kernel_rfl) c44 ⟨((by decide : ∀ y0 : Bool, ((y0 = true) → (y0 = true))) (((r6.2 : Int) == 0) && r41)) c44, trivial⟩ ?_
              obtain ⟨r45, e46, h⟩ := bd_ h
              refine call_ok (d := some 67) (fn := 11) (ax := [.pv ((E3.ro r6.1))]) (args := [.pv ((E3.ro r6.1))]) (ps := [r6.1.length = r6.1.length, ∀ i, i < r6.1.length → ∀ j, j < 1 → E3.cf (r6.1.getD i E3.z) j = E3.cf (r6.1.getD i E3.z) j]) (hb' := []) (by as_aux_lemma => kernel_rfl) (slices_Values_int_ok _ _ e46) (by as_aux_lemma => kernel_rfl) ⟨rfl, fun _ _ _ _ => rfl, trivial⟩ (fun _ => (by as_aux_lemma => kernel_rfl)) (by simp) rfl (by as_aux_lemma => kernel_rfl) ?_
              refine gdw_ok (g := (((r6.2 : Int) == 0) && r41)) (ws := [(((r6.2 : Int) == 0) && r41) = true]) (by as_aux_lemma => kernel_rfl) ?_
              refine segs [15] tabOk mixed 4000 (S := .leaf 0) (by as_aux_lemma => kernel_rfl) ?_
              refine sk_leaf ?_
              refine unG_ok (g := (((r6.2 : Int) == 0) && r41)) (ws := [(((r6.2 : Int) == 0) && r41) = true]) (by as_aux_lemma => kernel_rfl) (by as_aux_lemma => kernel_rfl) c44 ⟨((by decide : ∀ y0 : Bool, ((y0 = true) → (y0 = true))) (((r6.2 : Int) == 0) && r41)) c44, trivial⟩ ?_
              obtain ⟨r47, e48, h⟩ := bd_ h
              refine call_ok (d := some 68) (fn := 10) (ax := [.fn 30 [.roat 1 (fun j => E22.cf r6.1 j)]]) (args := [.fn 30 [.roat 1 (fun j => E22.cf r6.1 j)]]) (ps := [r6.1.length = r6.1.length, ∀ i, i < r6.1.length → ∀ j, j < 1 → E3.cf (r6.1.getD i E3.z) j = E3.cf (r6.1.getD i E3.z) j]) (hb' := [.row 3 1 (E3.cR r47)]) (by as_aux_lemma => kernel_rfl) (slices_Sorted_int_ok _ _ e48 (al := false)) (by as_aux_lemma => kernel_rfl) ⟨rfl, fun _ _ _ _ => rfl, trivial⟩ (fun hx => by cases hx) (by simp) (by simp only [List.map_cons, List.map_nil, Elem.row_up, up_map] <;> rfl) (by as_aux_lemma => kernel_rfl) ?_
              refine gdw_ok (g := (((r6.2 : Int) == 0) && r41)) (ws := [(((r6.2 : Int) == 0) && r41) = true]) (by as_aux_lemma => kernel_rfl) ?_
              refine segs [15] tabOk mixed 4000 (S := .leaf 0) (by as_aux_lemma => kernel_rfl) ?_
              refine sk_leaf ?_
              refine unG_ok (g := (((r6.2 : Int) == 0) && r41)) (ws := [(((r6.2 : Int) == 0) && r41) = true, (((r6.2 : Int) == 0) && r41) = true]) (by as_aux_lemma => kernel_rfl) (by as_aux_lemma => kernel_rfl) c44 ⟨((by decide : ∀ y0 : Bool, ((y0 = true) → (y0 = true))) (((r6.2 : Int) == 0) && r41)) c44, ((by decide : ∀ y0 : Bool, ((y0 = true) → (y0 = true))) (((r6.2 : Int) == 0) && r41)) c44, trivial⟩ ?_
              obtain ⟨r49, e50, h⟩ := bd_ h
              refine call_ok (d := some 70) (fn := 12) (ax := [.row 20736 1 0 r47.length, .pv ((E3.ro r11))]) (args := [.pv ((E3.ro r47)), .pv ((E3.ro r11))]) (ps := [r47.length = r47.length, rowQ (E3.cR r47) 1 0 r47.length (fun i j => E3.cf (r47.getD i E3.z) j), r11.length = r11.length, ∀ i, i < r11.length → ∀ j, j < 1 → E3.cf (r11.getD i E3.z) j = E3.cf (r11.getD i E3.z) j]) (hb' := []) (by as_aux_lemma => kernel_rfl) (slices_Equal_int_ok _ _ _ e50 (al := false)) (by as_aux_lemma => kernel_rfl) ⟨(by first | rfl | exact Elem.sub_len _ (by omega) | omega | simp | (simp <;> omega)), E3.rowQ_all r47 rfl, rfl, fun _ _ _ _ => rfl, trivial⟩ (fun hx => by cases hx) (by simp) rfl (by as_aux_lemma => kernel_rfl) ?_
              refine gdw_ok (g := (((r6.2 : Int) == 0) && r41)) (ws := [(((r6.2 : Int) == 0) && r41) = true, (((r6.2 : Int) == 0) && r41) = true]) (by as_aux_lemma => kernel_rfl) ?_
              refine segs [15] tabOk mixed 4000 (S := .and ((((r6.2 : Int) == 0) && r41) = true → (((r6.2 : Int) == 0) && r41) = true) (.and ((((((r6.2 : Int) == 0) && r41) && r49) = true → (((((r6.2 : Int) == 0) && r41) && r49) = true))) (.and (((((r6.2 : Int) == 0) && r41) && r49) = true → ((((r6.2 : Int) == 0) && r41) && r49) = true) (.leaf 0)))) (by as_aux_lemma => kernel_rfl) ?_
              refine sk_and ((by decide : ∀ y0 : Bool, ((y0 = true) → (y0 = true))) (((r6.2 : Int) == 0) && r41)) ?_
              refine sk_and ((by decide : ∀ y0 : Bool, ((y0 = true) → (y0 = true))) ((((r6.2 : Int) == 0) && r41) && r49)) ?_
              refine sk_and ((by decide : ∀ y0 : Bool, ((y0 = true) → (y0 = true))) ((((r6.2 : Int) == 0) && r41) && r49)) ?_
              refine sk_leaf ?_
              obtain rfl := some_ h
              exact end_ok [] Try.results3 (ps := [(((((r6.2 : Int) == 0) && r41) && r49) && (decide ((x13 : Int) ≤ 1))) = (((((r6.2 : Int) == 0) && r41) && r49) && (decide ((x13 : Int) ≤ 1)))]) (by as_aux_lemma => kernel_rfl) ⟨rfl, trivial⟩ (fun _ => ⟨rfl, by simp⟩)
            · refine skG_ok (g := (((r6.2 : Int) == 0) && r41)) (ws := [(((r6.2 : Int) == 0) && r41) = true]) (.junk) (by as_aux_lemma => kernel_rfl) c44 ?_
              refine segs [15] tabOk mixed 4000 (S := .leaf 0) (by as_aux_lemma => kernel_rfl) ?_
              refine sk_leaf ?_
              refine skG_ok (g := (((r6.2 : Int) == 0) && r41)) (ws := [(((r6.2 : Int) == 0) && r41) = true]) (.pv (.raw (.slice none 0 0))) (by as_aux_lemma => kernel_rfl) c44 ?_
              refine segs [15] tabOk mixed 4000 (S := .leaf 0) (by as_aux_lemma => kernel_rfl) ?_
              refine sk_leaf ?_
              refine skG_ok (g := (((r6.2 : Int) == 0) && r41)) (ws := [(((r6.2 : Int) == 0) && r41) = true, (((r6.2 : Int) == 0) && r41) = true]) (.pv (.raw (.bool false))) (by as_aux_lemma => kernel_rfl) c44 ?_
              refine segs [15] tabOk mixed 4000 (S := .and ((((r6.2 : Int) == 0) && r41) = true → (((r6.2 : Int) == 0) && r41) = true) (.and ((((((r6.2 : Int) == 0) && r41) && false) = true → (((((r6.2 : Int) == 0) && r41) && false) = true))) (.and (((((r6.2 : Int) == 0) && r41) && false) = true → ((((r6.2 : Int) == 0) && r41) && false) = true) (.leaf 0)))) (by as_aux_lemma => kernel_rfl) ?_
              refine sk_and ((by decide : ∀ y0 : Bool, ((y0 = true) → (y0 = true))) (((r6.2 : Int) == 0) && r41)) ?_
              refine sk_and ((by decide : ∀ y0 : Bool, ((y0 = true) → (y0 = true))) ((((r6.2 : Int) == 0) && r41) && false)) ?_
              refine sk_and ((by decide : ∀ y0 : Bool, ((y0 = true) → (y0 = true))) ((((r6.2 : Int) == 0) && r41) && false)) ?_
              refine sk_leaf ?_
              obtain rfl := some_ h
              exact end_ok [] Try.results3 (ps := [(((((r6.2 : Int) == 0) && r41) && false) && (decide ((x13 : Int) ≤ 1))) = (((((r6.2 : Int) == 0) && r41) && false) && (decide ((x13 : Int) ≤ 1)))]) (by as_aux_lemma => kernel_rfl) ⟨rfl, trivial⟩ (fun _ => ⟨rfl, by simp⟩)
          · refine skG_ok (g := ((r6.2 : Int) == 0)) (ws := [((r6.2 : Int) == 0) = true]) (.junk) (by as_aux_lemma => kernel_rfl) c36 ?_
            refine segs [15] tabOk mixed 4000 (S := .leaf 0) (by as_aux_lemma => kernel_rfl) ?_
            refine sk_leaf ?_
            refine skG_ok (g := ((r6.2 : Int) == 0)) (ws := [((r6.2 : Int) == 0) = true]) (.pv (.raw (.slice none 0 0))) (by as_aux_lemma => kernel_rfl) c36 ?_
            refine segs [15] tabOk mixed 4000 (S := .leaf 0) (by as_aux_lemma => kernel_rfl) ?_
            refine sk_leaf ?_
            refine skG_ok (g := ((r6.2 : Int) == 0)) (ws := [((r6.2 : Int) == 0) = true, ((r6.2 : Int) == 0) = true]) (.pv (.raw (.bool false))) (by as_aux_lemma => kernel_rfl) c36 ?_
            refine segs [15] tabOk mixed 4000 (S := .and (((r6.2 : Int) == 0) = true → ((r6.2 : Int) == 0) = true) (.leaf 0)) (by as_aux_lemma => kernel_rfl) ?_
            refine sk_and ((by decide : ∀ y0 : Bool, ((y0 = true) → (y0 = true))) ((r6.2 : Int) == 0)) ?_
            refine sk_leaf ?_
            refine gsp_ h ?_ ?_ <;> clear h <;> intro c58 h
            · refine unG_ok (g := (((r6.2 : Int) == 0) && false)) (ws := [(((r6.2 : Int) == 0) && false) = true]) (by as_aux_lemma => kernel_rfl) (by as_aux_lemma => kernel_rfl) c58 ⟨((by decide : ∀ y0 : Bool, ((y0 = true) → (y0 = true))) (((r6.2 : Int) == 0) && false)) c58, trivial⟩ ?_
              obtain ⟨r59, e60, h⟩ := bd_ h
              refine call_ok (d := some 67) (fn := 11) (ax := [.pv ((E3.ro r6.1))]) (args := [.pv ((E3.ro r6.1))]) (ps := [r6.1.length = r6.1.length, ∀ i, i < r6.1.length → ∀ j, j < 1 → E3.cf (r6.1.getD i E3.z) j = E3.cf (r6.1.getD i E3.z) j]) (hb' := []) (by as_aux_lemma => kernel_rfl) (slices_Values_int_ok _ _ e60) (by as_aux_lemma => kernel_rfl) ⟨rfl, fun _ _ _ _ => rfl, trivial⟩ (fun _ => (by as_aux_lemma => kernel_rfl)) (by simp) rfl (by as_aux_lemma => kernel_rfl) ?_
              refine gdw_ok (g := (((r6.2 : Int) == 0) && false)) (ws := [(((r6.2 : Int) == 0) && false) = true]) (by as_aux_lemma => kernel_rfl) ?_
              refine segs [15] tabOk mixed 4000 (S := .leaf 0) (by as_aux_lemma => kernel_rfl) ?_
              refine sk_leaf ?_
              refine unG_ok (g := (((r6.2 : Int) == 0) && false)) (ws := [(((r6.2 : Int) == 0) && false) = true]) (by as_aux_lemma => kernel_rfl) (by as_aux_lemma => kernel_rfl) c58 ⟨((by decide : ∀ y0 : Bool, ((y0 = true) → (y0 = true))) (((r6.2 : Int) == 0) && false)) c58, trivial⟩ ?_
              obtain ⟨r61, e62, h⟩ := bd_ h
              refine call_ok (d := some 68) (fn := 10) (ax := [.fn 30 [.roat 1 (fun j => E22.cf r6.1 j)]]) (args := [.fn 30 [.roat 1 (fun j => E22.cf r6.1 j)]]) (ps := [r6.1.length = r6.1.length, ∀ i, i < r6.1.length → ∀ j, j < 1 → E3.cf (r6.1.getD i E3.z) j = E3.cf (r6.1.getD i E3.z) j]) (hb' := [.row 3 1 (E3.cR r61)]) (by as_aux_lemma => kernel_rfl) (slices_Sorted_int_ok _ _ e62 (al := false)) (by as_aux_lemma => kernel_rfl) ⟨rfl, fun _ _ _ _ => rfl, trivial⟩ (fun hx => by cases hx) (by simp) (by simp only [List.map_cons, List.map_nil, Elem.row_up, up_map] <;> rfl) (by as_aux_lemma => kernel_rfl) ?_
              refine gdw_ok (g := (((r6.2 : Int) == 0) && false)) (ws := [(((r6.2 : Int) == 0) && false) = true]) (by as_aux_lemma => kernel_rfl) ?_
              refine segs [15] tabOk mixed 4000 (S := .leaf 0) (by as_aux_lemma => kernel_rfl) ?_
              refine sk_leaf ?_
              refine unG_ok (g := (((r6.2 : Int) == 0) && false)) (ws := [(((r6.2 : Int) == 0) && false) = true, (((r6.2 : Int) == 0) && false) = true]) (by as_aux_lemma => kernel_rfl) (by as_aux_lemma => kernel_rfl) c58 ⟨((by decide : ∀ y0 : Bool, ((y0 = true) → (y0 = true))) (((r6.2 : Int) == 0) && false)) c58, ((by decide : ∀ y0 : Bool, ((y0 = true) → (y0 = true))) (((r6.2 : Int) == 0) && false)) c58, trivial⟩ ?_
              obtain ⟨r63, e64, h⟩ := bd_ h
              refine call_ok (d := some 70) (fn := 12) (ax := [.row 20736 1 0 r61.length, .pv ((E3.ro r11))]) (args := [.pv ((E3.ro r61)), .pv ((E3.ro r11))]) (ps := [r61.length = r61.length, rowQ (E3.cR r61) 1 0 r61.length (fun i j => E3.cf (r61.getD i E3.z) j), r11.length = r11.length, ∀ i, i < r11.length → ∀ j, j < 1 → E3.cf (r11.getD i E3.z) j = E3.cf (r11.getD i E3.z) j]) (hb' := []) (by as_aux_lemma => kernel_rfl) (slices_Equal_int_ok _ _ _ e64 (al := false)) (by as_aux_lemma => kernel_rfl) ⟨(by first | rfl | exact Elem.sub_len _ (by omega) | omega | simp | (simp <;> omega)), E3.rowQ_all r61 rfl, rfl, fun _ _ _ _ => rfl, trivial⟩ (fun hx => by cases hx) (by simp) rfl (by as_aux_lemma => kernel_rfl) ?_
              refine gdw_ok (g := (((r6.2 : Int) == 0) && false)) (ws := [(((r6.2 : Int) == 0) && false) = true, (((r6.2 : Int) == 0) && false) = true]) (by as_aux_lemma => kernel_rfl) ?_
              refine segs [15] tabOk mixed 4000 (S := .and ((((r6.2 : Int) == 0) && false) = true → (((r6.2 : Int) == 0) && false) = true) (.and ((((((r6.2 : Int) == 0) && false) && r63) = true → (((((r6.2 : Int) == 0) && false) && r63) = true))) (.and (((((r6.2 : Int) == 0) && false) && r63) = true → ((((r6.2 : Int) == 0) && false) && r63) = true) (.leaf 0)))) (by as_aux_lemma => kernel_rfl) ?_
              refine sk_and ((by decide : ∀ y0 : Bool, ((y0 = true) → (y0 = true))) (((r6.2 : Int) == 0) && false)) ?_
              refine sk_and ((by decide : ∀ y0 : Bool, ((y0 = true) → (y0 = true))) ((((r6.2 : Int) == 0) && false) && r63)) ?_
              refine sk_and ((by decide : ∀ y0 : Bool, ((y0 = true) → (y0 = true))) ((((r6.2 : Int) == 0) && false) && r63)) ?_
              refine sk_leaf ?_
              obtain rfl := some_ h
              exact end_ok [] Try.results3 (ps := [(((((r6.2 : Int) == 0) && false) && r63) && (decide ((x13 : Int) ≤ 1))) = (((((r6.2 : Int) == 0) && false) && r63) && (decide ((x13 : Int) ≤ 1)))]) (by as_aux_lemma => kernel_rfl) ⟨rfl, trivial⟩ (fun _ => ⟨rfl, by simp⟩)
            · refine skG_ok (g := (((r6.2 : Int) == 0) && false)) (ws := [(((r6.2 : Int) == 0) && false) = true]) (.junk) (by as_aux_lemma => kernel_rfl) c58 ?_
              refine segs [15] tabOk mixed 4000 (S := .leaf 0) (by as_aux_lemma => kernel_rfl) ?_
              refine sk_leaf ?_
              refine skG_ok (g := (((r6.2 : Int) == 0) && false)) (ws := [(((r6.2 : Int) == 0) && false) = true]) (.pv (.raw (.slice none 0 0))) (by as_aux_lemma => kernel_rfl) c58 ?_
              refine segs [15] tabOk mixed 4000 (S := .leaf 0) (by as_aux_lemma => kernel_rfl) ?_
              refine sk_leaf ?_
              refine skG_ok (g := (((r6.2 : Int) == 0) && false)) (ws := [(((r6.2 : Int) == 0) && false) = true, (((r6.2 : Int) == 0) && false) = true]) (.pv (.raw (.bool false))) (by as_aux_lemma => kernel_rfl) c58 ?_
              refine segs [15] tabOk mixed 4000 (S := .and ((((r6.2 : Int) == 0) && false) = true → (((r6.2 : Int) == 0) && false) = true) (.and ((((((r6.2 : Int) == 0) && false) && false) = true → (((((r6.2 : Int) == 0) && false) && false) = true))) (.and (((((r6.2 : Int) == 0) && false) && false) = true → ((((r6.2 : Int) == 0) && false) && false) = true) (.leaf 0)))) (by as_aux_lemma => kernel_rfl) ?_
              refine sk_and ((by decide : ∀ y0 : Bool, ((y0 = true) → (y0 = true))) (((r6.2 : Int) == 0) && false)) ?_
              refine sk_and ((by decide : ∀ y0 : Bool, ((y0 = true) → (y0 = true))) ((((r6.2 : Int) == 0) && false) && false)) ?_
              refine sk_and ((by decide : ∀ y0 : Bool, ((y0 = true) → (y0 = true))) ((((r6.2 : Int) == 0) && false) && false)) ?_
              refine sk_leaf ?_
              obtain rfl := some_ h
              exact end_ok [] Try.results3 (ps := [(((((r6.2 : Int) == 0) && false) && false) && (decide ((x13 : Int) ≤ 1))) = (((((r6.2 : Int) == 0) && false) && false) && (decide ((x13 : Int) ≤ 1)))]) (by as_aux_lemma => kernel_rfl) ⟨rfl, trivial⟩ (fun _ => ⟨rfl, by simp⟩)

set_option maxRecDepth 100000 in
theorem slices_Clone_api_Span_ok (a0 r : List Api_Span) (h : slices_Clone_api_Span a0 = some r) {al : Bool} : PCalls Try.prog 17 [.pv (E38.ro a0)] al (.row 0 2 0 r.length) [.row 38 2 (E38.cR r)] := by
  unfold slices_Clone_api_Span at h
  obtain ⟨g, h⟩ := if_ h
  obtain rfl := some_ h
  refine fn_ok tabOk Try.func17 (by as_aux_lemma => kernel_rfl) (by as_aux_lemma => kernel_rfl) Try.ntmps17 (by simp) ?_
  refine segs [1] tabOk mixed 4000 (S := .leaf 0) (by as_aux_lemma => kernel_rfl) ?_
  refine sk_leaf ?_
  refine nil_ok (d1 := 3) (d2 := 4) (s := 2) (n := a0.length) (c := fun i j => E38.cf (a0.getD i E38.z) j) tabOk (by as_aux_lemma => kernel_rfl) ?_
  intro b hb
  refine segs [] tabOk mixed 4000 (S := .br b (.leaf 0) (.leaf 1)) (by as_aux_lemma => kernel_rfl) ?_
  refine sk_br ?_ ?_ <;> intro hc <;> refine sk_leaf ?_
  · obtain rfl : a0 = [] := List.eq_nil_of_length_eq_zero (hb hc)
    exact end_ok [(0, none)] Try.results17 (ps := [0 = 0, 0 = 0, E38.cR [] = []]) (by as_aux_lemma => kernel_rfl) ⟨rfl, rfl, rfl, trivial⟩ (fun _ => ⟨rfl, by simp only [List.mem_cons, List.not_mem_nil, or_false, forall_eq]; exact Elem.cR_bald E38_raw _⟩)
  · refine bs_ok (d := 5) (e := 38) (s := 2) (n := 0) (cs := []) (cs' := E38.cR []) (by as_aux_lemma => kernel_rfl) rfl (by as_aux_lemma => kernel_rfl) ?_
    refine segs [] tabOk mixed 4000 (S := .leaf 0) (by as_aux_lemma => kernel_rfl) ?_
    refine sk_leaf ?_
    refine app_ok (d := 7) (e := 38) (s := 2) (b := 16) (x := .row 16704 2 0 0) (y := .pv (E38.ro a0)) E38 (xs := []) (ys := a0) (by as_aux_lemma => kernel_rfl) rfl (.row 16704 [] 0 rfl (by as_aux_lemma => kernel_rfl)) (.ro a0) ⟨by simpa using g, by simp; omega⟩ (by as_aux_lemma => kernel_rfl) ?_
    refine segs [] tabOk mixed 4000 (S := .leaf 0) (by as_aux_lemma => kernel_rfl) ?_
    refine sk_leaf ?_
    exact end_ok [(0, some 16832)] Try.results17 (ps := [0 = 0, a0.length = a0.length, E38.cR a0 = E38.cR a0, AllPv (E38.cR a0)]) (by as_aux_lemma => kernel_rfl) ⟨rfl, rfl, rfl, Elem.cR_pv _ _, trivial⟩ (fun _ => ⟨rfl, by simp only [List.mem_cons, List.not_mem_nil, or_false, forall_eq]; exact Elem.cR_bald E38_raw _⟩)

set_option maxHeartbeats 40000000 in
set_option maxRecDepth 100000 in
theorem slices_Reverse_api_Span_h0_ok (a0 : (List Api_Span)) (r : (List Api_Span)) (h : slices_Reverse_api_Span_h0 a0 = some r) {al : Bool} : MCalls Try.prog 18 [.row 0 2 0 a0.length] [.row 38 2 (E38.cR a0)] 1 al (.tup []) [.row 38 2 (E38.cR r)] := by
  unfold slices_Reverse_api_Span_h0 at h
  refine fnM_ok tabOk (fz := []) Try.func18 (by as_aux_lemma => kernel_rfl) (by as_aux_lemma => kernel_rfl) Try.ntmps18 (by simp) (by first | (simp; done) | exact Nat.le_of_ble_eq_true rfl) ?_
  refine segs [] tabOk mixed 4000 (S := .leaf 0) (by as_aux_lemma => kernel_rfl) ?_
  refine sk_leaf ?_
  refine len_row (by as_aux_lemma => kernel_rfl) 0 (e := 38) (s := 2) (n := a0.length) (cs := E38.cR a0) (by as_aux_lemma => kernel_rfl) (Elem.cR_length _ _) ?_; intro hl1_0
  replace h : (fun (x : Nat × Int × Int × List Api_Span) => slices_Reverse_api_Span_h0_l1 a0 x.1 x.2.1 x.2.2.1 x.2.2.2 = some r) (FUEL, 0, (IntKind.i64.wrap (((a0.length : Nat) : Int) - 1)), a0) := h
  refine loop_ok (by as_aux_lemma => kernel_rfl) (X := Nat × Int × Int × List Api_Span) (fun x => slices_Reverse_api_Span_h0_l1 a0 x.1 x.2.1 x.2.2.1 x.2.2.2 = some r) (fun x => x.1) (fun x => mk 28 [(0, .row 0 2 0 x.2.2.2.length), (2, .pv (.raw (.int .i64 x.2.1))), (3, .pv (.raw (.int .i64 x.2.2.1)))] [(0, .row 38 2 (E38.cR x.2.2.2))] [] 1) (FUEL, 0, (IntKind.i64.wrap (((a0.length : Nat) : Int) - 1)), a0) h ?_ ?_
  · exact sub_ok (ρ := [(0, some 0)]) (l := [0 = 0, a0.length = a0.length, (0 : Int) = 0, ((IntKind.i64.wrap (((a0.length : Nat) : Int) - 1)) : Int) = (IntKind.i64.wrap (((a0.length : Nat) : Int) - 1)), E38.cR a0 = E38.cR a0, AllPv (E38.cR a0)]) (by as_aux_lemma => kernel_rfl) ⟨rfl, rfl, rfl, rfl, rfl, (Elem.cR_pv _ _), trivial⟩
  · clear h; rintro ⟨n1, x1, x2, l3⟩ h p1 hp1
    obtain _ | n1 := n1
    · cases (show (none : Option ((List Api_Span))) = some r from h)
    have h : slices_Reverse_api_Span_h0_l1 a0 (n1 + 1) x1 x2 l3 = some r := h
    unfold slices_Reverse_api_Span_h0_l1 at h
    refine segs [] tabOk mixed 4000 (S := .br (decide ((x1 : Int) < x2)) (.and (0 ≤ (x2 : Int) ∧ x2 < ((l3.length : Nat) : Int)) (.leaf 0)) (.leaf 1)) (by as_aux_lemma => kernel_rfl) ?_
    refine br_ h ?_ ?_ <;> clear h <;> intro c4 h
    · refine gd_ h ?_; clear h; intro g5 h
      refine sk_leaf ?_
      refine lda_ok (d := 21) (id := 0) (i := (0 + (Int.toNat x2))) (e := 38) (n := 2) E38 (xs := l3) (by as_aux_lemma => kernel_rfl) (by as_aux_lemma => kernel_rfl) (by first | omega | (simp at * <;> omega) | (simp_all <;> omega)) rfl ?_
      refine segs [] tabOk mixed 4000 (S := .and (0 ≤ (x1 : Int) ∧ x1 < ((l3.length : Nat) : Int)) (.leaf 0)) (by as_aux_lemma => kernel_rfl) ?_
      refine gd_ h ?_; clear h; intro g6 h
      refine sk_leaf ?_
      refine lda_ok (d := 25) (id := 0) (i := (0 + (Int.toNat x1))) (e := 38) (n := 2) E38 (xs := l3) (by as_aux_lemma => kernel_rfl) (by as_aux_lemma => kernel_rfl) (by first | omega | (simp at * <;> omega) | (simp_all <;> omega)) rfl ?_
      refine segs [] tabOk mixed 4000 (S := .and (0 ≤ (x1 : Int) ∧ x1 < ((l3.length : Nat) : Int)) (.leaf 0)) (by as_aux_lemma => kernel_rfl) ?_
      refine gd_ h ?_; clear h; intro g7 h
      refine sk_leaf ?_
      refine st_ok (id := 0) (i := (0 + (Int.toNat x1))) (j := 0) (e := 38) (vs := [.pv (.raw (.int .i64 ((l3.getD (0 + (Int.toNat x2)) (⟨0, 0⟩ : Api_Span)).From))), .pv (.raw (.int .i64 ((l3.getD (0 + (Int.toNat x2)) (⟨0, 0⟩ : Api_Span)).To)))]) E38 (xs := l3) (l3.getD (0 + (Int.toNat x2)) (⟨0, 0⟩ : Api_Span)) (by as_aux_lemma => kernel_rfl) (by as_aux_lemma => kernel_rfl) (by first | omega | (simp at * <;> omega) | (simp_all <;> omega)) (by exact Nat.le_of_ble_eq_true rfl) rfl ?_
      refine segs [] tabOk mixed 4000 (S := .and (0 ≤ (x2 : Int) ∧ x2 < ((l3.length : Nat) : Int)) (.leaf 0)) (by as_aux_lemma => kernel_rfl) ?_
      refine gd_ h ?_; clear h; intro g8 h
      refine sk_leaf ?_
      refine st_ok (id := 0) (i := (0 + (Int.toNat x2))) (j := 0) (e := 38) (vs := [.pv (.raw (.int .i64 ((l3.getD (0 + (Int.toNat x1)) (⟨0, 0⟩ : Api_Span)).From))), .pv (.raw (.int .i64 ((l3.getD (0 + (Int.toNat x1)) (⟨0, 0⟩ : Api_Span)).To)))]) E38 (xs := (l3.set (0 + (Int.toNat x1)) (l3.getD (0 + (Int.toNat x2)) (⟨0, 0⟩ : Api_Span)))) (l3.getD (0 + (Int.toNat x1)) (⟨0, 0⟩ : Api_Span)) (by as_aux_lemma => kernel_rfl) (by as_aux_lemma => kernel_rfl) (by first | omega | (simp at * <;> omega) | (simp_all <;> omega)) (by exact Nat.le_of_ble_eq_true rfl) rfl ?_
      refine segs [] tabOk mixed 4000 (S := .leaf 0) (by as_aux_lemma => kernel_rfl) ?_
      refine sk_leaf ?_
      refine back_ok (p := p1) (by as_aux_lemma => kernel_rfl) (hp1 (n1, (IntKind.i64.wrap (x1 + 1)), (IntKind.i64.wrap (x2 - 1)), ((l3.set (0 + (Int.toNat x1)) (l3.getD (0 + (Int.toNat x2)) (⟨0, 0⟩ : Api_Span))).set (0 + (Int.toNat x2)) (l3.getD (0 + (Int.toNat x1)) (⟨0, 0⟩ : Api_Span)))) _ h (Nat.lt_succ_self n1) ?_)
      exact sub_ok (ρ := [(0, some 0)]) (l := [0 = 0, l3.length = (((l3.set (0 + (Int.toNat x1)) (l3.getD (0 + (Int.toNat x2)) (⟨0, 0⟩ : Api_Span))).set (0 + (Int.toNat x2)) (l3.getD (0 + (Int.toNat x1)) (⟨0, 0⟩ : Api_Span))).length), ((IntKind.i64.wrap (x1 + 1)) : Int) = (IntKind.i64.wrap (x1 + 1)), ((IntKind.i64.wrap (x2 - 1)) : Int) = (IntKind.i64.wrap (x2 - 1)), E38.cR ((l3.set (0 + (Int.toNat x1)) (l3.getD (0 + (Int.toNat x2)) (⟨0, 0⟩ : Api_Span))).set (0 + (Int.toNat x2)) (l3.getD (0 + (Int.toNat x1)) (⟨0, 0⟩ : Api_Span))) = E38.cR ((l3.set (0 + (Int.toNat x1)) (l3.getD (0 + (Int.toNat x2)) (⟨0, 0⟩ : Api_Span))).set (0 + (Int.toNat x2)) (l3.getD (0 + (Int.toNat x1)) (⟨0, 0⟩ : Api_Span))), AllPv (E38.cR ((l3.set (0 + (Int.toNat x1)) (l3.getD (0 + (Int.toNat x2)) (⟨0, 0⟩ : Api_Span))).set (0 + (Int.toNat x2)) (l3.getD (0 + (Int.toNat x1)) (⟨0, 0⟩ : Api_Span))))]) (by as_aux_lemma => kernel_rfl) ⟨rfl, (by first | rfl | (simp; done) | omega | (simp <;> omega)), rfl, rfl, rfl, (Elem.cR_pv _ _), trivial⟩
    · refine sk_leaf ?_
      obtain rfl := some_ h
      exact endM_ok [(0, some 0)] Try.results18 (ps := [E38.cR l3 = E38.cR l3, AllPv (E38.cR l3)]) (by as_aux_lemma => kernel_rfl) ⟨rfl, (Elem.cR_pv _ _), trivial⟩ (fun _ => ⟨rfl, by simp only [List.mem_cons, List.not_mem_nil, or_false, forall_eq_or_imp, forall_eq]; exact Elem.cR_bald E38_raw _⟩)

set_option maxHeartbeats 40000000 in
set_option maxRecDepth 100000 in
theorem keep_LiftMerged_1_1_ok (a0 : Api_Span) (a1 : Int) (r : Bool) (h : keep_LiftMerged_1_1 a0 a1 = some r) {al : Bool} : PCalls Try.prog 16 [.agg [.pv (.raw (.int .i64 a0.From)), .pv (.raw (.int .i64 a0.To))], .roat 1 (fun j => E3.cf a1 j)] al (.pv (.raw (.bool r))) [] := by
  unfold keep_LiftMerged_1_1 at h
  refine fn_ok tabOk Try.func16 (by as_aux_lemma => kernel_rfl) (by as_aux_lemma => kernel_rfl) Try.ntmps16 (by simp) ?_
  refine segs [] tabOk mixed 4000 (S := .and (((decide ((a0.From : Int) ≤ a1)) = true → ((decide ((a0.From : Int) ≤ a1)) = true))) (.and (((decide ((a0.From : Int) ≤ a1)) = true → ((decide ((a0.From : Int) ≤ a1)) = true))) (.and (((decide ((a0.From : Int) ≤ a1)) = true → ((decide ((a0.From : Int) ≤ a1)) = true))) (.and ((decide ((a0.From : Int) ≤ a1)) = true → (decide ((a0.From : Int) ≤ a1)) = true) (.leaf 0))))) (by as_aux_lemma => kernel_rfl) ?_
  refine sk_and ((by decide : ∀ y0 : Bool, ((y0 = true) → (y0 = true))) (decide ((a0.From : Int) ≤ a1))) ?_
  refine sk_and ((by decide : ∀ y0 : Bool, ((y0 = true) → (y0 = true))) (decide ((a0.From : Int) ≤ a1))) ?_
  refine sk_and ((by decide : ∀ y0 : Bool, ((y0 = true) → (y0 = true))) (decide ((a0.From : Int) ≤ a1))) ?_
  refine sk_and ((by decide : ∀ y0 : Bool, ((y0 = true) → (y0 = true))) (decide ((a0.From : Int) ≤ a1))) ?_
  refine sk_leaf ?_
  obtain rfl := some_ h
  exact end_ok [] Try.results16 (ps := [((decide ((a0.From : Int) ≤ a1)) && (decide ((a1 : Int) < a0.To))) = ((decide ((a0.From : Int) ≤ a1)) && (decide ((a1 : Int) < a0.To)))]) (by as_aux_lemma => kernel_rfl) ⟨rfl, trivial⟩ (fun _ => ⟨rfl, by simp⟩)

set_option maxHeartbeats 40000000 in
set_option maxRecDepth 100000 in
theorem slices_IndexFunc_api_Span_keep_LiftMerged_1_1_ok (a0 : (List Api_Span)) (a1 : Int) (r : Int) (h : slices_IndexFunc_api_Span_keep_LiftMerged_1_1 a0 a1 = some r) {al : Bool} : PCalls Try.prog 34 [.pv ((E38.ro a0)), .fn 16 [.roat 1 (fun j => E3.cf a1 j)]] al (.pv (.raw (.int .i64 r))) [] := by
  unfold slices_IndexFunc_api_Span_keep_LiftMerged_1_1 at h
  refine fn_ok tabOk Try.func34 (by as_aux_lemma => kernel_rfl) (by as_aux_lemma => kernel_rfl) Try.ntmps34 (by simp) ?_
  refine segs [] tabOk mixed 4000 (S := .leaf 0) (by as_aux_lemma => kernel_rfl) ?_
  refine sk_leaf ?_
  refine len_ro (by as_aux_lemma => kernel_rfl) 0 (s := 2) (n := a0.length) (c := fun i j => E38.cf (a0.getD i E38.z) j) (by as_aux_lemma => kernel_rfl) ?_; intro hl1_0
  replace h : (fun (x : Nat × Nat) => slices_IndexFunc_api_Span_keep_LiftMerged_1_1_l1 a0 a1 x.1 x.2 = some r) (FUEL, 0) := h
  refine loop_ok (by as_aux_lemma => kernel_rfl) (X := Nat × Nat) (fun x => slices_IndexFunc_api_Span_keep_LiftMerged_1_1_l1 a0 a1 x.1 x.2 = some r) (fun x => x.1) (fun x => mk 19 [(0, .pv ((E38.ro a0))), (1, .fn 16 [.roat 1 (fun j => E3.cf a1 j)]), (4, .pv (.raw (.int .i64 0))), (7, .pv (.raw (.int .i64 ((a0.length : Nat) : Int)))), (8, .pv (.raw (.int .i64 ((x.2 : Nat) : Int))))] []) (FUEL, 0) h ?_ ?_
  · exact sub_ok (ρ := []) (l := [a0.length = a0.length, ∀ i, i < a0.length → ∀ j, j < 2 → E38.cf (a0.getD i E38.z) j = E38.cf (a0.getD i E38.z) j, (a1 : Int) = a1, (0 : Int) = 0, (((a0.length : Nat) : Int) : Int) = ((a0.length : Nat) : Int), (0 : Int) = ((0 : Nat) : Int)]) (by as_aux_lemma => kernel_rfl) ⟨rfl, fun _ _ _ _ => rfl, rfl, rfl, rfl, (by first | rfl | simp), trivial⟩
  · clear h; rintro ⟨n1, k1⟩ h p1 hp1
    obtain _ | n1 := n1
    · cases (show (none : Option (Int)) = some r from h)
    have h : slices_IndexFunc_api_Span_keep_LiftMerged_1_1_l1 a0 a1 (n1 + 1) k1 = some r := h
    unfold slices_IndexFunc_api_Span_keep_LiftMerged_1_1_l1 at h
    refine segs [] tabOk mixed 4000 (S := .br (decide ((((k1 : Nat) : Int) : Int) < ((a0.length : Nat) : Int))) (.and (0 ≤ (((k1 : Nat) : Int) : Int) ∧ ((k1 : Nat) : Int) < ((a0.length : Nat) : Int)) (.leaf 0)) (.leaf 1)) (by as_aux_lemma => kernel_rfl) ?_
    refine br_ h ?_ ?_ <;> clear h <;> intro c2 h
    · refine sk_and ⟨Int.natCast_nonneg _, of_decide_eq_true c2⟩ ?_
      refine sk_leaf ?_
      obtain ⟨r4, e5, h⟩ := bd_ h
      refine call_ok (d := some 16) (fn := 16) (ax := [.agg [.pv (.raw (.int .i64 ((a0.getD k1 (⟨0, 0⟩ : Api_Span)).From))), .pv (.raw (.int .i64 ((a0.getD k1 (⟨0, 0⟩ : Api_Span)).To)))], .roat 1 (fun j => E3.cf a1 j)]) (args := [.agg [.pv (.raw (.int .i64 ((a0.getD k1 (⟨0, 0⟩ : Api_Span)).From))), .pv (.raw (.int .i64 ((a0.getD k1 (⟨0, 0⟩ : Api_Span)).To)))], .roat 1 (fun j => E3.cf a1 j)]) (ps := [((a0.getD k1 (⟨0, 0⟩ : Api_Span)).From : Int) = ((a0.getD k1 (⟨0, 0⟩ : Api_Span)).From), ((a0.getD k1 (⟨0, 0⟩ : Api_Span)).To : Int) = ((a0.getD k1 (⟨0, 0⟩ : Api_Span)).To), (a1 : Int) = a1]) (hb' := []) (by as_aux_lemma => kernel_rfl) (keep_LiftMerged_1_1_ok _ _ _ e5 (al := false)) (by as_aux_lemma => kernel_rfl) ⟨rfl, rfl, rfl, trivial⟩ (fun hx => by cases hx) (by simp) rfl (by as_aux_lemma => kernel_rfl) ?_
      refine segs [] tabOk mixed 4000 (S := .br r4 (.leaf 0) (.leaf 1)) (by as_aux_lemma => kernel_rfl) ?_
      refine br_ h ?_ ?_ <;> clear h <;> intro c6 h
      · refine sk_leaf ?_
        obtain rfl := some_ h
        exact end_ok [] Try.results34 (ps := [(((k1 : Nat) : Int) : Int) = ((k1 : Nat) : Int)]) (by as_aux_lemma => kernel_rfl) ⟨rfl, trivial⟩ (fun _ => ⟨rfl, by simp⟩)
      · refine sk_leaf ?_
        refine back_ok (p := p1) (by as_aux_lemma => kernel_rfl) (hp1 (n1, k1 + 1) _ h (Nat.lt_succ_self n1) ?_)
        exact sub_ok (ρ := []) (l := [a0.length = a0.length, ∀ i, i < a0.length → ∀ j, j < 2 → E38.cf (a0.getD i E38.z) j = E38.cf (a0.getD i E38.z) j, (a1 : Int) = a1, (0 : Int) = 0, (((a0.length : Nat) : Int) : Int) = ((a0.length : Nat) : Int), ((IntKind.i64.wrap (((k1 : Nat) : Int) + 1)) : Int) = (((k1 + 1) : Nat) : Int)]) (by as_aux_lemma => kernel_rfl) ⟨rfl, fun _ _ _ _ => rfl, rfl, rfl, rfl, (wrap_nat (Int.ofNat_lt.1 (of_decide_eq_true c2)) (by omega)), trivial⟩
    · refine sk_leaf ?_
      obtain rfl := some_ h
      exact end_ok [] Try.results34 (ps := [((-1) : Int) = (-1)]) (by as_aux_lemma => kernel_rfl) ⟨rfl, trivial⟩ (fun _ => ⟨rfl, by simp⟩)

set_option maxHeartbeats 40000000 in
set_option maxRecDepth 100000 in
theorem slices_ContainsFunc_api_Span_keep_LiftMerged_1_1_ok (a0 : (List Api_Span)) (a1 : Int) (r : Bool) (h : slices_ContainsFunc_api_Span_keep_LiftMerged_1_1 a0 a1 = some r) {al : Bool} : PCalls Try.prog 15 [.pv ((E38.ro a0)), .fn 16 [.roat 1 (fun j => E3.cf a1 j)]] al (.pv (.raw (.bool r))) [] := by
  unfold slices_ContainsFunc_api_Span_keep_LiftMerged_1_1 at h
  refine fn_ok tabOk Try.func15 (by as_aux_lemma => kernel_rfl) (by as_aux_lemma => kernel_rfl) Try.ntmps15 (by simp) ?_
  refine segs [] tabOk mixed 4000 (S := .leaf 0) (by as_aux_lemma => kernel_rfl) ?_
  refine sk_leaf ?_
  obtain ⟨r1, e2, h⟩ := bd_ h
  refine call_ok (d := some 7) (fn := 34) (ax := [.pv ((E38.ro a0)), .fn 16 [.roat 1 (fun j => E3.cf a1 j)]]) (args := [.pv ((E38.ro a0)), .fn 16 [.roat 1 (fun j => E3.cf a1 j)]]) (ps := [a0.length = a0.length, ∀ i, i < a0.length → ∀ j, j < 2 → E38.cf (a0.getD i E38.z) j = E38.cf (a0.getD i E38.z) j, (a1 : Int) = a1]) (hb' := []) (by as_aux_lemma => kernel_rfl) (slices_IndexFunc_api_Span_keep_LiftMerged_1_1_ok _ _ _ e2 (al := false)) (by as_aux_lemma => kernel_rfl) ⟨rfl, fun _ _ _ _ => rfl, rfl, trivial⟩ (fun hx => by cases hx) (by simp) rfl (by as_aux_lemma => kernel_rfl) ?_
  refine segs [] tabOk mixed 4000 (S := .leaf 0) (by as_aux_lemma => kernel_rfl) ?_
  refine sk_leaf ?_
  obtain rfl := some_ h
  exact end_ok [] Try.results15 (ps := [(decide ((r1 : Int) ≥ 0)) = (decide ((r1 : Int) ≥ 0))]) (by as_aux_lemma => kernel_rfl) ⟨rfl, trivial⟩ (fun _ => ⟨rfl, by simp⟩)

set_option maxHeartbeats 40000000 in
set_option maxRecDepth 100000 in
theorem keep_LiftMerged_1_ok (a0 : (List Api_Span)) (a1 : Int) (r : Bool) (h : keep_LiftMerged_1 a0 a1 = some r) {al : Bool} : PCalls Try.prog 14 [.pv ((E38.ro a0)), .roat 1 (fun j => E3.cf a1 j)] al (.pv (.raw (.bool r))) [] := by
  unfold keep_LiftMerged_1 at h
  refine fn_ok tabOk Try.func14 (by as_aux_lemma => kernel_rfl) (by as_aux_lemma => kernel_rfl) Try.ntmps14 (by simp) ?_
  refine segs [] tabOk mixed 4000 (S := .leaf 0) (by as_aux_lemma => kernel_rfl) ?_
  refine sk_leaf ?_
  obtain ⟨r1, e2, h⟩ := bd_ h
  refine call_ok (d := some 6) (fn := 15) (ax := [.pv ((E38.ro a0)), .fn 16 [.roat 1 (fun j => E3.cf a1 j)]]) (args := [.pv ((E38.ro a0)), .fn 16 [.roat 1 (fun j => E3.cf a1 j)]]) (ps := [a0.length = a0.length, ∀ i, i < a0.length → ∀ j, j < 2 → E38.cf (a0.getD i E38.z) j = E38.cf (a0.getD i E38.z) j, (a1 : Int) = a1]) (hb' := []) (by as_aux_lemma => kernel_rfl) (slices_ContainsFunc_api_Span_keep_LiftMerged_1_1_ok _ _ _ e2 (al := false)) (by as_aux_lemma => kernel_rfl) ⟨rfl, fun _ _ _ _ => rfl, rfl, trivial⟩ (fun hx => by cases hx) (by simp) rfl (by as_aux_lemma => kernel_rfl) ?_
  refine segs [] tabOk mixed 4000 (S := .leaf 0) (by as_aux_lemma => kernel_rfl) ?_
  refine sk_leaf ?_
  obtain rfl := some_ h
  exact end_ok [] Try.results14 (ps := [r1 = r1]) (by as_aux_lemma => kernel_rfl) ⟨rfl, trivial⟩ (fun _ => ⟨rfl, by simp⟩)

end Go.Proofs.Ytkccegeejlbhnaa
