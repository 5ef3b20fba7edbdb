/- The functions do as their models: printed by program. -/
import Derived.Test.YtdijmangjgepaaaQZCT
import Derived.Test.YtdijmangjgepaaaQZCM
import Derived.Test.YtdijmangjgepaaaAbYh
import Derived.Test.YtdijmangjgepaaaAbYc
import Derived.Test.YtdijmangjgepaaaQCQ
set_option linter.unusedSimpArgs false
set_option linter.unusedVariables false
namespace Go.Proofs.Ytdijmangjgepaaa
open Go Go.Ab
theorem mixed : Try.prog.follows .mixedOrders = true := by kernel_rfl
def E3 : Elem Int := { s := 1, cf := fun x j => match j with | _ => .raw (.int .i64 x), z := 0 }
theorem E3_raw : E3.Raw := by
  intro x j
  exact ⟨_, rfl⟩
def E25 : Elem Api_Thread := { s := 3, cf := fun x j => match j with | 0 => .raw (.int .i64 x.Come) | 1 => .raw (.int .i64 x.Level) | _ => .raw (.int .i64 x.Work), z := (⟨0, 0, 0⟩ : Api_Thread) }
theorem E25_raw : E25.Raw := by
  intro x j
  match j with
  | 0 => exact ⟨_, rfl⟩
  | 1 => exact ⟨_, rfl⟩
  | n + 2 => exact ⟨_, rfl⟩
def E30 : Elem (List Int) := { s := 1, cf := fun x j => match j with | _ => (E3.ro x), z := [] }
attribute [local irreducible] V VS runS Sk.Holds

theorem cores_Run_ok (a0 : Int) (a1 : Int) (a2 : List Api_Thread) (a3 : Int) (r : ((List (List Int)) × Int)) (h : cores_Run a0 a1 a2 a3 = some r) {al : Bool} : PCalls Try.prog 8 [.pv (.raw (.int .i64 a0)), .pv (.raw (.int .i64 a1)), .pv (E25.ro a2), .pv (.raw (.int .i64 a3))] al (.tup [.row 0 1 0 r.1.length, .pv (.raw (.int .i64 r.2))]) [.row 30 1 (E30.cR r.1)] := by
  unfold cores_Run at h
  obtain ⟨g, h⟩ := if_ h
  obtain rfl := some_ h
  exact run_pcalls (f := cp_in) ⟨_, Try.func8, by kernel_rfl, by kernel_rfl⟩ rfl (fun _ => rfl) (fun _ => rfl) (fun _ => rfl) rfl (fun _ => rfl) rfl g

set_option maxHeartbeats 40000000 in
set_option maxRecDepth 100000 in
theorem slices_Equal_int_ok (a0 : (List Int)) (a1 : (List Int)) (r : Bool) (h : slices_Equal_int a0 a1 = some r) {al : Bool} : PCalls Try.prog 10 [.pv ((E3.ro a0)), .pv ((E3.ro a1))] al (.pv (.raw (.bool r))) [] := by
  unfold slices_Equal_int at h
  refine fn_ok tabOk Try.func10 (by kernel_rfl) (by kernel_rfl) Try.ntmps10 (by simp) ?_
  refine segs [] tabOk mixed 4000 (S := .br ((((a0.length : Nat) : Int) : Int) != ((a1.length : Nat) : Int)) (.leaf 0) (.leaf 1)) (by kernel_rfl) ?_
  refine br_ h ?_ ?_ <;> clear h <;> intro c1 h
  · refine sk_leaf ?_
    obtain rfl := some_ h
    exact end_ok [] Try.results10 (ps := [false = false]) (by kernel_rfl) ⟨rfl, trivial⟩ (fun _ => ⟨rfl, by simp⟩)
  · refine sk_leaf ?_
    refine len_ro (by kernel_rfl) 0 (s := 1) (n := a0.length) (c := fun i j => E3.cf (a0.getD i E3.z) j) (by kernel_rfl) ?_; intro hl1_0
    refine len_ro (by kernel_rfl) 1 (s := 1) (n := a1.length) (c := fun i j => E3.cf (a1.getD i E3.z) j) (by kernel_rfl) ?_; intro hl1_1
    replace h : (fun (x : Nat × Nat) => slices_Equal_int_l1 a0 a1 x.1 x.2 = some r) (FUEL, 0) := h
    refine loop_ok (by kernel_rfl) (X := Nat × Nat) (fun x => slices_Equal_int_l1 a0 a1 x.1 x.2 = some r) (fun x => x.1) (fun x => mk 26 [(0, .pv ((E3.ro a0))), (1, .pv ((E3.ro a1))), (4, .pv (.raw (.bool false))), (12, .pv (.raw (.int .i64 ((a0.length : Nat) : Int)))), (13, .pv (.raw (.int .i64 ((x.2 : Nat) : Int))))] []) (FUEL, 0) h ?_ ?_
    · exact sub_ok (ρ := []) (l := [a0.length = a0.length, ∀ i, i < a0.length → ∀ j, j < 1 → E3.cf (a0.getD i E3.z) j = E3.cf (a0.getD i E3.z) j, a1.length = a1.length, ∀ i, i < a1.length → ∀ j, j < 1 → E3.cf (a1.getD i E3.z) j = E3.cf (a1.getD i E3.z) j, false = false, (((a0.length : Nat) : Int) : Int) = ((a0.length : Nat) : Int), (0 : Int) = ((0 : Nat) : Int)]) (by kernel_rfl) ⟨rfl, fun _ _ _ _ => rfl, rfl, fun _ _ _ _ => rfl, rfl, rfl, (by first | rfl | simp), trivial⟩
    · clear h; rintro ⟨n1, k2⟩ h p1 hp1
      obtain _ | n1 := n1
      · cases (show (none : Option (Bool)) = some r from h)
      have h : slices_Equal_int_l1 a0 a1 (n1 + 1) k2 = some r := h
      unfold slices_Equal_int_l1 at h
      refine segs [] tabOk mixed 4000 (S := .br (decide ((((k2 : Nat) : Int) : Int) < ((a0.length : Nat) : Int))) (.and (0 ≤ (((k2 : Nat) : Int) : Int) ∧ ((k2 : Nat) : Int) < ((a0.length : Nat) : Int)) (.and (0 ≤ (((k2 : Nat) : Int) : Int) ∧ ((k2 : Nat) : Int) < ((a1.length : Nat) : Int)) (.br (((a0.getD k2 0) : Int) != (a1.getD k2 0)) (.leaf 0) (.leaf 1)))) (.leaf 2)) (by kernel_rfl) ?_
      refine br_ h ?_ ?_ <;> clear h <;> intro c3 h
      · refine sk_and ⟨Int.natCast_nonneg _, of_decide_eq_true c3⟩ ?_
        refine gd_ h ?_; clear h; intro g5 h
        refine br_ h ?_ ?_ <;> clear h <;> intro c6 h
        · refine sk_leaf ?_
          obtain rfl := some_ h
          exact end_ok [] Try.results10 (ps := [false = false]) (by kernel_rfl) ⟨rfl, trivial⟩ (fun _ => ⟨rfl, by simp⟩)
        · refine sk_leaf ?_
          refine back_ok (p := p1) (by kernel_rfl) (hp1 (n1, k2 + 1) _ h (Nat.lt_succ_self n1) ?_)
          exact sub_ok (ρ := []) (l := [a0.length = a0.length, ∀ i, i < a0.length → ∀ j, j < 1 → E3.cf (a0.getD i E3.z) j = E3.cf (a0.getD i E3.z) j, a1.length = a1.length, ∀ i, i < a1.length → ∀ j, j < 1 → E3.cf (a1.getD i E3.z) j = E3.cf (a1.getD i E3.z) j, false = false, (((a0.length : Nat) : Int) : Int) = ((a0.length : Nat) : Int), ((IntKind.i64.wrap (((k2 : Nat) : Int) + 1)) : Int) = (((k2 + 1) : Nat) : Int)]) (by kernel_rfl) ⟨rfl, fun _ _ _ _ => rfl, rfl, fun _ _ _ _ => rfl, rfl, rfl, (wrap_nat (Int.ofNat_lt.1 (of_decide_eq_true c3)) (by omega)), trivial⟩
      · refine sk_leaf ?_
        obtain rfl := some_ h
        exact end_ok [] Try.results10 (ps := [true = true]) (by kernel_rfl) ⟨rfl, trivial⟩ (fun _ => ⟨rfl, by simp⟩)

set_option maxHeartbeats 40000000 in
set_option maxRecDepth 100000 in
theorem keep_alive14_1_ok (a0 : (List Int)) (a1 : (List Int)) (r : Bool) (h : keep_alive14_1 a0 a1 = some r) {al : Bool} : PCalls Try.prog 18 [.pv ((E3.ro a0)), .pv ((E3.ro a1))] al (.pv (.raw (.bool r))) [] := by
  unfold keep_alive14_1 at h
  refine fn_ok tabOk Try.func18 (by kernel_rfl) (by kernel_rfl) Try.ntmps18 (by simp) ?_
  refine segs [] tabOk mixed 4000 (S := .leaf 0) (by kernel_rfl) ?_
  refine sk_leaf ?_
  obtain ⟨r1, e2, h⟩ := bd_ h
  refine call_ok (d := some 7) (fn := 10) (ax := [.pv ((E3.ro a0)), .pv ((E3.ro a1))]) (args := [.pv ((E3.ro a0)), .pv ((E3.ro a1))]) (ps := [a0.length = a0.length, ∀ i, i < a0.length → ∀ j, j < 1 → E3.cf (a0.getD i E3.z) j = E3.cf (a0.getD i E3.z) j, a1.length = a1.length, ∀ i, i < a1.length → ∀ j, j < 1 → E3.cf (a1.getD i E3.z) j = E3.cf (a1.getD i E3.z) j]) (hb' := []) (by kernel_rfl) (slices_Equal_int_ok _ _ _ e2 (al := true)) (by kernel_rfl) ⟨rfl, fun _ _ _ _ => rfl, rfl, fun _ _ _ _ => rfl, trivial⟩ (fun _ => (by kernel_rfl)) (by simp) rfl (by kernel_rfl) ?_
  refine segs [] tabOk mixed 4000 (S := .leaf 0) (by kernel_rfl) ?_
  refine sk_leaf ?_
  obtain rfl := some_ h
  exact end_ok [] Try.results18 (ps := [r1 = r1]) (by kernel_rfl) ⟨rfl, trivial⟩ (fun _ => ⟨rfl, by simp⟩)

set_option maxHeartbeats 40000000 in
set_option maxRecDepth 100000 in
theorem slices_EqualFunc_slint_keep_alive14_1_ok (a0 : (List (List Int))) (a1 : (List (List Int))) (r : Bool) (h : slices_EqualFunc_slint_keep_alive14_1 a0 a1 = some r) {al : Bool} : PCalls Try.prog 17 [.pv ((E30.ro a0)), .pv ((E30.ro a1)), .fn 18 []] al (.pv (.raw (.bool r))) [] := by
  unfold slices_EqualFunc_slint_keep_alive14_1 at h
  refine fn_ok tabOk Try.func17 (by kernel_rfl) (by kernel_rfl) Try.ntmps17 (by simp) ?_
  refine segs [] tabOk mixed 4000 (S := .br ((((a0.length : Nat) : Int) : Int) != ((a1.length : Nat) : Int)) (.leaf 0) (.leaf 1)) (by kernel_rfl) ?_
  refine br_ h ?_ ?_ <;> clear h <;> intro c1 h
  · refine sk_leaf ?_
    obtain rfl := some_ h
    exact end_ok [] Try.results17 (ps := [false = false]) (by kernel_rfl) ⟨rfl, trivial⟩ (fun _ => ⟨rfl, by simp⟩)
  · refine sk_leaf ?_
    refine len_ro (by kernel_rfl) 1 (s := 1) (n := a1.length) (c := fun i j => E30.cf (a1.getD i E30.z) j) (by kernel_rfl) ?_; intro hl1_0
    refine len_ro (by kernel_rfl) 15 (s := 1) (n := a0.length) (c := fun i j => E30.cf (a0.getD i E30.z) j) (by kernel_rfl) ?_; intro hl1_1
    replace h : (fun (x : Nat × Nat) => slices_EqualFunc_slint_keep_alive14_1_l1 a0 a1 x.1 x.2 = some r) (FUEL, 0) := h
    refine loop_ok (by kernel_rfl) (X := Nat × Nat) (fun x => slices_EqualFunc_slint_keep_alive14_1_l1 a0 a1 x.1 x.2 = some r) (fun x => x.1) (fun x => mk 32 [(1, .pv ((E30.ro a1))), (2, .fn 18 []), (6, .pv (.raw (.bool false))), (15, .pv ((E30.ro a0))), (16, .pv (.raw (.int .i64 ((a0.length : Nat) : Int)))), (17, .pv (.raw (.int .i64 ((x.2 : Nat) : Int))))] []) (FUEL, 0) h ?_ ?_
    · exact sub_ok (ρ := []) (l := [a1.length = a1.length, ∀ i, i < a1.length → ∀ j, j < 1 → E30.cf (a1.getD i E30.z) j = E30.cf (a1.getD i E30.z) j, false = false, a0.length = a0.length, ∀ i, i < a0.length → ∀ j, j < 1 → E30.cf (a0.getD i E30.z) j = E30.cf (a0.getD i E30.z) j, (((a0.length : Nat) : Int) : Int) = ((a0.length : Nat) : Int), (0 : Int) = ((0 : Nat) : Int)]) (by kernel_rfl) ⟨rfl, fun _ _ _ _ => rfl, rfl, rfl, fun _ _ _ _ => rfl, rfl, (by first | rfl | simp), trivial⟩
    · clear h; rintro ⟨n1, k2⟩ h p1 hp1
      obtain _ | n1 := n1
      · cases (show (none : Option (Bool)) = some r from h)
      have h : slices_EqualFunc_slint_keep_alive14_1_l1 a0 a1 (n1 + 1) k2 = some r := h
      unfold slices_EqualFunc_slint_keep_alive14_1_l1 at h
      refine segs [] tabOk mixed 4000 (S := .br (decide ((((k2 : Nat) : Int) : Int) < ((a0.length : Nat) : Int))) (.and (0 ≤ (((k2 : Nat) : Int) : Int) ∧ ((k2 : Nat) : Int) < ((a0.length : Nat) : Int)) (.and (0 ≤ (((k2 : Nat) : Int) : Int) ∧ ((k2 : Nat) : Int) < ((a1.length : Nat) : Int)) (.leaf 0))) (.leaf 1)) (by kernel_rfl) ?_
      refine br_ h ?_ ?_ <;> clear h <;> intro c3 h
      · refine sk_and ⟨Int.natCast_nonneg _, of_decide_eq_true c3⟩ ?_
        refine gd_ h ?_; clear h; intro g5 h
        refine sk_leaf ?_
        obtain ⟨r6, e7, h⟩ := bd_ h
        refine call_ok (d := some 29) (fn := 18) (ax := [.pv ((E3.ro (a0.getD k2 []))), .pv ((E3.ro (a1.getD k2 [])))]) (args := [.pv ((E3.ro (a0.getD k2 []))), .pv ((E3.ro (a1.getD k2 [])))]) (ps := [(a0.getD k2 []).length = (a0.getD k2 []).length, ∀ i, i < (a0.getD k2 []).length → ∀ j, j < 1 → E3.cf ((a0.getD k2 []).getD i E3.z) j = E3.cf ((a0.getD k2 []).getD i E3.z) j, (a1.getD k2 []).length = (a1.getD k2 []).length, ∀ i, i < (a1.getD k2 []).length → ∀ j, j < 1 → E3.cf ((a1.getD k2 []).getD i E3.z) j = E3.cf ((a1.getD k2 []).getD i E3.z) j]) (hb' := []) (by kernel_rfl) (keep_alive14_1_ok _ _ _ e7 (al := true)) (by kernel_rfl) ⟨rfl, fun _ _ _ _ => rfl, rfl, fun _ _ _ _ => rfl, trivial⟩ (fun _ => (by kernel_rfl)) (by simp) rfl (by kernel_rfl) ?_
        refine segs [] tabOk mixed 4000 (S := .br (!r6) (.leaf 0) (.leaf 1)) (by kernel_rfl) ?_
        refine br_ h ?_ ?_ <;> clear h <;> intro c8 h
        · refine sk_leaf ?_
          obtain rfl := some_ h
          exact end_ok [] Try.results17 (ps := [false = false]) (by kernel_rfl) ⟨rfl, trivial⟩ (fun _ => ⟨rfl, by simp⟩)
        · refine sk_leaf ?_
          refine back_ok (p := p1) (by kernel_rfl) (hp1 (n1, k2 + 1) _ h (Nat.lt_succ_self n1) ?_)
          exact sub_ok (ρ := []) (l := [a1.length = a1.length, ∀ i, i < a1.length → ∀ j, j < 1 → E30.cf (a1.getD i E30.z) j = E30.cf (a1.getD i E30.z) j, false = false, a0.length = a0.length, ∀ i, i < a0.length → ∀ j, j < 1 → E30.cf (a0.getD i E30.z) j = E30.cf (a0.getD i E30.z) j, (((a0.length : Nat) : Int) : Int) = ((a0.length : Nat) : Int), ((IntKind.i64.wrap (((k2 : Nat) : Int) + 1)) : Int) = (((k2 + 1) : Nat) : Int)]) (by kernel_rfl) ⟨rfl, fun _ _ _ _ => rfl, rfl, rfl, fun _ _ _ _ => rfl, rfl, (wrap_nat (Int.ofNat_lt.1 (of_decide_eq_true c3)) (by omega)), trivial⟩
      · refine sk_leaf ?_
        obtain rfl := some_ h
        exact end_ok [] Try.results17 (ps := [true = true]) (by kernel_rfl) ⟨rfl, trivial⟩ (fun _ => ⟨rfl, by simp⟩)

set_option maxHeartbeats 40000000 in
set_option maxRecDepth 100000 in
theorem keep_alive14_ok (r : Bool) (h : keep_alive14 = some r) {al : Bool} : PCalls Try.prog 7 [] al (.pv (.raw (.bool r))) [] := by
  unfold keep_alive14 at h
  refine fn_ok tabOk Try.func7 (by kernel_rfl) (by kernel_rfl) Try.ntmps7 (by simp) ?_
  refine segs [] tabOk mixed 4000 (S := .leaf 0) (by kernel_rfl) ?_
  refine sk_leaf ?_
  refine bs_ok (d := 7) (e := 25) (s := 3) (n := 3) (cs := [.pv (.raw (.int .i64 0)), .pv (.raw (.int .i64 0)), .pv (.raw (.int .i64 3)), .pv (.raw (.int .i64 0)), .pv (.raw (.int .i64 0)), .pv (.raw (.int .i64 9)), .pv (.raw (.int .i64 5)), .pv (.raw (.int .i64 3)), .pv (.raw (.int .i64 1))]) (cs' := E25.cR [(⟨0, 0, 3⟩ : Api_Thread), (⟨0, 0, 9⟩ : Api_Thread), (⟨5, 3, 1⟩ : Api_Thread)]) (by kernel_rfl) rfl (by kernel_rfl) ?_
  refine segs [] tabOk mixed 4000 (S := .leaf 0) (by kernel_rfl) ?_
  refine sk_leaf ?_
  obtain ⟨r1, e2, h⟩ := bd_ h
  refine call_ok (d := some 8) (fn := 8) (ax := [.pv (.raw (.int .i64 1)), .pv (.raw (.int .i64 2)), .row 16832 3 0 3, .pv (.raw (.int .i64 7))]) (args := [.pv (.raw (.int .i64 1)), .pv (.raw (.int .i64 2)), .pv ((E25.ro [(⟨0, 0, 3⟩ : Api_Thread), (⟨0, 0, 9⟩ : Api_Thread), (⟨5, 3, 1⟩ : Api_Thread)])), .pv (.raw (.int .i64 7))]) (ps := [(1 : Int) = 1, (2 : Int) = 2, 3 = [(⟨0, 0, 3⟩ : Api_Thread), (⟨0, 0, 9⟩ : Api_Thread), (⟨5, 3, 1⟩ : Api_Thread)].length, rowQ (E25.cR [(⟨0, 0, 3⟩ : Api_Thread), (⟨0, 0, 9⟩ : Api_Thread), (⟨5, 3, 1⟩ : Api_Thread)]) 3 0 3 (fun i j => E25.cf ([(⟨0, 0, 3⟩ : Api_Thread), (⟨0, 0, 9⟩ : Api_Thread), (⟨5, 3, 1⟩ : Api_Thread)].getD i E25.z) j), (7 : Int) = 7]) (hb' := [.row 30 1 (E30.cR r1.1)]) (by kernel_rfl) (cores_Run_ok _ _ _ _ _ e2 (al := false)) (by kernel_rfl) ⟨rfl, rfl, (by first | rfl | exact Elem.sub_len _ (by omega) | omega | simp | (simp <;> omega)), E25.rowQ_all [(⟨0, 0, 3⟩ : Api_Thread), (⟨0, 0, 9⟩ : Api_Thread), (⟨5, 3, 1⟩ : Api_Thread)] rfl, rfl, trivial⟩ (fun hx => by cases hx) (by simp) (by simp only [List.map_cons, List.map_nil, Elem.row_up, up_map] <;> rfl) (by kernel_rfl) ?_
  refine segs [] tabOk mixed 4000 (S := .leaf 0) (by kernel_rfl) ?_
  refine sk_leaf ?_
  refine bsG_ok (d := 15) (e := 3) (s := 1) (n := 1) (g := ((r1.2 : Int) == 0)) (ws := []) (cs := [.pv (.raw (.int .i64 0))]) E3 [0] (by kernel_rfl) (fun _ => trivial) rfl rfl rfl (by kernel_rfl) ?_
  refine segs [] tabOk mixed 4000 (S := .leaf 0) (by kernel_rfl) ?_
  refine sk_leaf ?_
  refine bsG_ok (d := 16) (e := 3) (s := 1) (n := 1) (g := ((r1.2 : Int) == 0)) (ws := []) (cs := [.pv (.raw (.int .i64 0))]) E3 [0] (by kernel_rfl) (fun _ => trivial) rfl rfl rfl (by kernel_rfl) ?_
  refine segs [] tabOk mixed 4000 (S := .leaf 0) (by kernel_rfl) ?_
  refine sk_leaf ?_
  refine bsG_ok (d := 17) (e := 3) (s := 1) (n := 1) (g := ((r1.2 : Int) == 0)) (ws := []) (cs := [.pv (.raw (.int .i64 1))]) E3 [1] (by kernel_rfl) (fun _ => trivial) rfl rfl rfl (by kernel_rfl) ?_
  refine segs [] tabOk mixed 4000 (S := .leaf 0) (by kernel_rfl) ?_
  refine sk_leaf ?_
  refine bsG_ok (d := 18) (e := 3) (s := 1) (n := 1) (g := ((r1.2 : Int) == 0)) (ws := []) (cs := [.pv (.raw (.int .i64 1))]) E3 [1] (by kernel_rfl) (fun _ => trivial) rfl rfl rfl (by kernel_rfl) ?_
  refine segs [] tabOk mixed 4000 (S := .leaf 0) (by kernel_rfl) ?_
  refine sk_leaf ?_
  refine bsG_ok (d := 19) (e := 3) (s := 1) (n := 1) (g := ((r1.2 : Int) == 0)) (ws := []) (cs := [.pv (.raw (.int .i64 0))]) E3 [0] (by kernel_rfl) (fun _ => trivial) rfl rfl rfl (by kernel_rfl) ?_
  refine segs [] tabOk mixed 4000 (S := .leaf 0) (by kernel_rfl) ?_
  refine sk_leaf ?_
  refine bsG_ok (d := 20) (e := 3) (s := 1) (n := 1) (g := ((r1.2 : Int) == 0)) (ws := []) (cs := [.pv (.raw (.int .i64 2))]) E3 [2] (by kernel_rfl) (fun _ => trivial) rfl rfl rfl (by kernel_rfl) ?_
  refine segs [] tabOk mixed 4000 (S := .leaf 0) (by kernel_rfl) ?_
  refine sk_leaf ?_
  refine bsG_ok (d := 21) (e := 3) (s := 1) (n := 1) (g := ((r1.2 : Int) == 0)) (ws := []) (cs := [.pv (.raw (.int .i64 1))]) E3 [1] (by kernel_rfl) (fun _ => trivial) rfl rfl rfl (by kernel_rfl) ?_
  refine segs [] tabOk mixed 4000 (S := .leaf 0) (by kernel_rfl) ?_
  refine sk_leaf ?_
  refine bsG_ok (d := 22) (e := 30) (s := 1) (n := 7) (g := ((r1.2 : Int) == 0)) (ws := [((r1.2 : Int) == 0) = true, ((r1.2 : Int) == 0) = true, ((r1.2 : Int) == 0) = true, ((r1.2 : Int) == 0) = true, ((r1.2 : Int) == 0) = true, ((r1.2 : Int) == 0) = true, ((r1.2 : Int) == 0) = true]) (cs := [.pv ((E3.ro [0])), .pv ((E3.ro [0])), .pv ((E3.ro [1])), .pv ((E3.ro [1])), .pv ((E3.ro [0])), .pv ((E3.ro [2])), .pv ((E3.ro [1]))]) E30 [[0], [0], [1], [1], [0], [2], [1]] (by kernel_rfl) (fun hg => ⟨((by decide : ∀ y0 : Bool, ((y0 = true) → (y0 = true))) ((r1.2 : Int) == 0)) hg, ((by decide : ∀ y0 : Bool, ((y0 = true) → (y0 = true))) ((r1.2 : Int) == 0)) hg, ((by decide : ∀ y0 : Bool, ((y0 = true) → (y0 = true))) ((r1.2 : Int) == 0)) hg, ((by decide : ∀ y0 : Bool, ((y0 = true) → (y0 = true))) ((r1.2 : Int) == 0)) hg, ((by decide : ∀ y0 : Bool, ((y0 = true) → (y0 = true))) ((r1.2 : Int) == 0)) hg, ((by decide : ∀ y0 : Bool, ((y0 = true) → (y0 = true))) ((r1.2 : Int) == 0)) hg, ((by decide : ∀ y0 : Bool, ((y0 = true) → (y0 = true))) ((r1.2 : Int) == 0)) hg, trivial⟩) rfl rfl rfl (by kernel_rfl) ?_
  refine segs [] tabOk mixed 4000 (S := .leaf 0) (by kernel_rfl) ?_
  refine sk_leaf ?_
  obtain ⟨r3, e4, h⟩ := bd_ h
  refine callG_ok (d := some 23) (fn := 17) (ax := [.row 16896 1 0 r1.1.length, .pv ((E30.ro [[0], [0], [1], [1], [0], [2], [1]])), .fn 18 []]) (args := [.pv ((E30.ro r1.1)), .pv ((E30.ro [[0], [0], [1], [1], [0], [2], [1]])), .fn 18 []]) (g := ((r1.2 : Int) == 0)) (ws := [((r1.2 : Int) == 0) = true, ((r1.2 : Int) == 0) = true]) (ps := [r1.1.length = r1.1.length, rowQ (E30.cR r1.1) 1 0 r1.1.length (fun i j => E30.cf (r1.1.getD i E30.z) j), [[0], [0], [1], [1], [0], [2], [1]].length = [[0], [0], [1], [1], [0], [2], [1]].length, ∀ i, i < [[0], [0], [1], [1], [0], [2], [1]].length → ∀ j, j < 1 → E30.cf ([[0], [0], [1], [1], [0], [2], [1]].getD i E30.z) j = E30.cf ([[0], [0], [1], [1], [0], [2], [1]].getD i E30.z) j]) (by kernel_rfl) (fun hg => ⟨((by decide : ∀ y0 : Bool, ((y0 = true) → (y0 = true))) ((r1.2 : Int) == 0)) hg, ((by decide : ∀ y0 : Bool, ((y0 = true) → (y0 = true))) ((r1.2 : Int) == 0)) hg, trivial⟩) (fun hg => slices_EqualFunc_slint_keep_alive14_1_ok _ _ _ (by rw [hg] at e4; exact e4) (al := false)) (by kernel_rfl) (fun hg => ⟨(by first | rfl | exact Elem.sub_len _ (by omega) | omega | simp | (simp <;> omega)), E30.rowQ_all r1.1 rfl, rfl, fun _ _ _ _ => rfl, trivial⟩) (fun hx => by cases hx) ?_
  refine segs [] tabOk mixed 4000 (S := .and (((r1.2 : Int) == 0) = true → ((r1.2 : Int) == 0) = true) (.leaf 0)) (by kernel_rfl) ?_
  refine sk_and (fun h => h) ?_
  refine sk_leaf ?_
  obtain rfl := some_ h
  exact end_ok [] Try.results7 (ps := [(((r1.2 : Int) == 0) && r3) = (((r1.2 : Int) == 0) && r3)]) (by kernel_rfl) ⟨rfl, trivial⟩ (fun _ => ⟨rfl, by simp⟩)

set_option maxHeartbeats 40000000 in
set_option maxRecDepth 100000 in
theorem slices_Index_int_ok (a0 : (List Int)) (a1 : Int) (r : Int) (h : slices_Index_int a0 a1 = some r) {al : Bool} : PCalls Try.prog 25 [.pv ((E3.ro a0)), .pv (.raw (.int .i64 a1))] al (.pv (.raw (.int .i64 r))) [] := by
  unfold slices_Index_int at h
  refine fn_ok tabOk Try.func25 (by kernel_rfl) (by kernel_rfl) Try.ntmps25 (by simp) ?_
  refine segs [] tabOk mixed 4000 (S := .leaf 0) (by kernel_rfl) ?_
  refine sk_leaf ?_
  refine len_ro (by kernel_rfl) 0 (s := 1) (n := a0.length) (c := fun i j => E3.cf (a0.getD i E3.z) j) (by kernel_rfl) ?_; intro hl1_0
  replace h : (fun (x : Nat × Nat) => slices_Index_int_l1 a0 a1 x.1 x.2 = some r) (FUEL, 0) := h
  refine loop_ok (by kernel_rfl) (X := Nat × Nat) (fun x => slices_Index_int_l1 a0 a1 x.1 x.2 = some r) (fun x => x.1) (fun x => mk 19 [(0, .pv ((E3.ro a0))), (1, .pv (.raw (.int .i64 a1))), (4, .pv (.raw (.int .i64 0))), (7, .pv (.raw (.int .i64 ((a0.length : Nat) : Int)))), (8, .pv (.raw (.int .i64 ((x.2 : Nat) : Int))))] []) (FUEL, 0) h ?_ ?_
  · exact sub_ok (ρ := []) (l := [a0.length = a0.length, ∀ i, i < a0.length → ∀ j, j < 1 → E3.cf (a0.getD i E3.z) j = E3.cf (a0.getD i E3.z) j, (a1 : Int) = a1, (0 : Int) = 0, (((a0.length : Nat) : Int) : Int) = ((a0.length : Nat) : Int), (0 : Int) = ((0 : Nat) : Int)]) (by kernel_rfl) ⟨rfl, fun _ _ _ _ => rfl, rfl, rfl, rfl, (by first | rfl | simp), trivial⟩
  · clear h; rintro ⟨n1, k1⟩ h p1 hp1
    obtain _ | n1 := n1
    · cases (show (none : Option (Int)) = some r from h)
    have h : slices_Index_int_l1 a0 a1 (n1 + 1) k1 = some r := h
    unfold slices_Index_int_l1 at h
    refine segs [] tabOk mixed 4000 (S := .br (decide ((((k1 : Nat) : Int) : Int) < ((a0.length : Nat) : Int))) (.and (0 ≤ (((k1 : Nat) : Int) : Int) ∧ ((k1 : Nat) : Int) < ((a0.length : Nat) : Int)) (.br ((a1 : Int) == (a0.getD k1 0)) (.leaf 0) (.leaf 1))) (.leaf 2)) (by kernel_rfl) ?_
    refine br_ h ?_ ?_ <;> clear h <;> intro c2 h
    · refine sk_and ⟨Int.natCast_nonneg _, of_decide_eq_true c2⟩ ?_
      refine br_ h ?_ ?_ <;> clear h <;> intro c4 h
      · refine sk_leaf ?_
        obtain rfl := some_ h
        exact end_ok [] Try.results25 (ps := [(((k1 : Nat) : Int) : Int) = ((k1 : Nat) : Int)]) (by kernel_rfl) ⟨rfl, trivial⟩ (fun _ => ⟨rfl, by simp⟩)
      · refine sk_leaf ?_
        refine back_ok (p := p1) (by kernel_rfl) (hp1 (n1, k1 + 1) _ h (Nat.lt_succ_self n1) ?_)
        exact sub_ok (ρ := []) (l := [a0.length = a0.length, ∀ i, i < a0.length → ∀ j, j < 1 → E3.cf (a0.getD i E3.z) j = E3.cf (a0.getD i E3.z) j, (a1 : Int) = a1, (0 : Int) = 0, (((a0.length : Nat) : Int) : Int) = ((a0.length : Nat) : Int), ((IntKind.i64.wrap (((k1 : Nat) : Int) + 1)) : Int) = (((k1 + 1) : Nat) : Int)]) (by kernel_rfl) ⟨rfl, fun _ _ _ _ => rfl, rfl, rfl, rfl, (wrap_nat (Int.ofNat_lt.1 (of_decide_eq_true c2)) (by omega)), trivial⟩
    · refine sk_leaf ?_
      obtain rfl := some_ h
      exact end_ok [] Try.results25 (ps := [((-1) : Int) = (-1)]) (by kernel_rfl) ⟨rfl, trivial⟩ (fun _ => ⟨rfl, by simp⟩)

set_option maxHeartbeats 40000000 in
set_option maxRecDepth 100000 in
theorem slices_Contains_int_ok (a0 : (List Int)) (a1 : Int) (r : Bool) (h : slices_Contains_int a0 a1 = some r) {al : Bool} : PCalls Try.prog 9 [.pv ((E3.ro a0)), .pv (.raw (.int .i64 a1))] al (.pv (.raw (.bool r))) [] := by
  unfold slices_Contains_int at h
  refine fn_ok tabOk Try.func9 (by kernel_rfl) (by kernel_rfl) Try.ntmps9 (by simp) ?_
  refine segs [] tabOk mixed 4000 (S := .leaf 0) (by kernel_rfl) ?_
  refine sk_leaf ?_
  obtain ⟨r1, e2, h⟩ := bd_ h
  refine call_ok (d := some 7) (fn := 25) (ax := [.pv ((E3.ro a0)), .pv (.raw (.int .i64 a1))]) (args := [.pv ((E3.ro a0)), .pv (.raw (.int .i64 a1))]) (ps := [a0.length = a0.length, ∀ i, i < a0.length → ∀ j, j < 1 → E3.cf (a0.getD i E3.z) j = E3.cf (a0.getD i E3.z) j, (a1 : Int) = a1]) (hb' := []) (by kernel_rfl) (slices_Index_int_ok _ _ _ e2 (al := true)) (by kernel_rfl) ⟨rfl, fun _ _ _ _ => rfl, rfl, trivial⟩ (fun _ => (by kernel_rfl)) (by simp) rfl (by kernel_rfl) ?_
  refine segs [] tabOk mixed 4000 (S := .leaf 0) (by kernel_rfl) ?_
  refine sk_leaf ?_
  obtain rfl := some_ h
  exact end_ok [] Try.results9 (ps := [(decide ((r1 : Int) ≥ 0)) = (decide ((r1 : Int) ≥ 0))]) (by kernel_rfl) ⟨rfl, trivial⟩ (fun _ => ⟨rfl, by simp⟩)

set_option maxHeartbeats 40000000 in
set_option maxRecDepth 100000 in
theorem keep_CoresBusy_ok (a0 : Int) (a1 : Int) (a2 : (List Api_Thread)) (a3 : Int) (r : Bool) (h : keep_CoresBusy a0 a1 a2 a3 = some r) {al : Bool} : PCalls Try.prog 4 [.pv (.raw (.int .i64 a0)), .pv (.raw (.int .i64 a1)), .pv ((E25.ro a2)), .pv (.raw (.int .i64 a3))] al (.pv (.raw (.bool r))) [] := by
  unfold keep_CoresBusy at h
  refine fn_ok tabOk Try.func4 (by kernel_rfl) (by kernel_rfl) Try.ntmps4 (by simp) ?_
  refine segs [] tabOk mixed 4000 (S := .leaf 0) (by kernel_rfl) ?_
  refine sk_leaf ?_
  obtain ⟨r1, e2, h⟩ := bd_ h
  refine call_ok (d := some 25) (fn := 7) (ax := []) (args := []) (ps := []) (hb' := []) (by kernel_rfl) (keep_alive14_ok  _ e2 (al := true)) (by kernel_rfl) trivial (fun _ => (by kernel_rfl)) (by simp) rfl (by kernel_rfl) ?_
  refine segs [] tabOk mixed 4000 (S := .br (!r1) (.leaf 0) (.leaf 1)) (by kernel_rfl) ?_
  refine br_ h ?_ ?_ <;> clear h <;> intro c3 h
  · refine sk_leaf ?_
    obtain rfl := some_ h
    exact end_ok [] Try.results4 (ps := [false = false]) (by kernel_rfl) ⟨rfl, trivial⟩ (fun _ => ⟨rfl, by simp⟩)
  · refine sk_leaf ?_
    obtain ⟨r4, e5, h⟩ := bd_ h
    refine call_ok (d := some 32) (fn := 8) (ax := [.pv (.raw (.int .i64 a0)), .pv (.raw (.int .i64 a1)), .pv ((E25.ro a2)), .pv (.raw (.int .i64 a3))]) (args := [.pv (.raw (.int .i64 a0)), .pv (.raw (.int .i64 a1)), .pv ((E25.ro a2)), .pv (.raw (.int .i64 a3))]) (ps := [(a0 : Int) = a0, (a1 : Int) = a1, a2.length = a2.length, ∀ i, i < a2.length → ∀ j, j < 3 → E25.cf (a2.getD i E25.z) j = E25.cf (a2.getD i E25.z) j, (a3 : Int) = a3]) (hb' := [.row 30 1 (E30.cR r4.1)]) (by kernel_rfl) (cores_Run_ok _ _ _ _ _ e5 (al := true)) (by kernel_rfl) ⟨rfl, rfl, rfl, fun _ _ _ _ => rfl, rfl, trivial⟩ (fun _ => (by kernel_rfl)) (by simp) (by simp only [List.map_cons, List.map_nil, Elem.row_up, up_map] <;> rfl) (by kernel_rfl) ?_
    refine segs [] tabOk mixed 4000 (S := .br ((r4.2 : Int) != 0) (.leaf 0) (.leaf 1)) (by kernel_rfl) ?_
    refine br_ h ?_ ?_ <;> clear h <;> intro c6 h
    · refine sk_leaf ?_
      obtain rfl := some_ h
      exact end_ok [] Try.results4 (ps := [((((r4.1.length : Nat) : Int) : Int) == 0) = ((((r4.1.length : Nat) : Int) : Int) == 0)]) (by kernel_rfl) ⟨rfl, trivial⟩ (fun _ => ⟨rfl, by simp⟩)
    · refine sk_leaf ?_
      obtain ⟨g7, h⟩ := if_ h
      refine mks_ok (d := 42) (e := 3) (s := 1) (b := 8) (n := ((a2.length : Nat) : Int)) (zs := [.pv (.raw (.int .i64 0))]) E3 (by kernel_rfl) (by kernel_rfl) rfl (by kernel_rfl) g7 (by kernel_rfl) ?_
      refine segs [] tabOk mixed 4000 (S := .leaf 0) (by kernel_rfl) ?_
      refine sk_leaf ?_
      refine len_ro (by kernel_rfl) 2 (s := 3) (n := a2.length) (c := fun i j => E25.cf (a2.getD i E25.z) j) (by kernel_rfl) ?_; intro hl1_0
      refine len_ro (by kernel_rfl) 43 (s := 3) (n := a2.length) (c := fun i j => E25.cf (a2.getD i E25.z) j) (by kernel_rfl) ?_; intro hl1_1
      refine len_row (by kernel_rfl) 18432 (e := 30) (s := 1) (n := r4.1.length) (cs := E30.cR r4.1) (by kernel_rfl) (Elem.cR_length _ _) ?_; intro hl1_2
      refine len_row (by kernel_rfl) 19072 (e := 3) (s := 1) (n := (List.replicate a2.length (0 : Int)).length) (cs := E3.cR (List.replicate a2.length (0 : Int))) (by kernel_rfl) (Elem.cR_length _ _) ?_; intro hl1_3
      replace h : (fun (x : Nat × Nat × List Int) => keep_CoresBusy_l1 a0 a2 a3 r4 x.1 x.2.1 x.2.2 = some r) (FUEL, 0, (List.replicate a2.length (0 : Int))) := h
      refine loop_ok (by kernel_rfl) (X := Nat × Nat × List Int) (fun x => keep_CoresBusy_l1 a0 a2 a3 r4 x.1 x.2.1 x.2.2 = some r) (fun x => x.1) (fun x => mk 160 [(0, .pv (.raw (.int .i64 a0))), (2, .pv ((E25.ro a2))), (3, .pv (.raw (.int .i64 a3))), (8, .pv (.raw (.bool false))), (9, .row 0 1 0 r4.1.length), (11, .row 1 1 0 x.2.2.length), (43, .pv ((E25.ro a2))), (44, .pv (.raw (.int .i64 ((a2.length : Nat) : Int)))), (45, .pv (.raw (.int .i64 ((x.2.1 : Nat) : Int))))] [(0, .row 30 1 (E30.cR r4.1)), (1, .row 3 1 (E3.cR x.2.2))]) (FUEL, 0, (List.replicate a2.length (0 : Int))) h ?_ ?_
      · exact sub_ok (ρ := [(0, some 18432), (1, some 19072)]) (l := [(a0 : Int) = a0, a2.length = a2.length, ∀ i, i < a2.length → ∀ j, j < 3 → E25.cf (a2.getD i E25.z) j = E25.cf (a2.getD i E25.z) j, (a3 : Int) = a3, false = false, 0 = 0, r4.1.length = r4.1.length, 0 = 0, a2.length = ((List.replicate a2.length (0 : Int)).length), a2.length = a2.length, ∀ i, i < a2.length → ∀ j, j < 3 → E25.cf (a2.getD i E25.z) j = E25.cf (a2.getD i E25.z) j, (((a2.length : Nat) : Int) : Int) = ((a2.length : Nat) : Int), (0 : Int) = ((0 : Nat) : Int), E30.cR r4.1 = E30.cR r4.1, AllPv (E30.cR r4.1), E3.cR (List.replicate a2.length (0 : Int)) = E3.cR (List.replicate a2.length (0 : Int)), AllPv (E3.cR (List.replicate a2.length (0 : Int)))]) (by kernel_rfl) ⟨rfl, rfl, fun _ _ _ _ => rfl, rfl, rfl, rfl, rfl, rfl, (by first | rfl | (simp; done) | omega | (simp <;> omega)), rfl, fun _ _ _ _ => rfl, rfl, (by first | rfl | simp), rfl, (Elem.cR_pv _ _), rfl, (Elem.cR_pv _ _), trivial⟩
      · clear h; rintro ⟨n1, k8, l9⟩ h p1 hp1
        obtain _ | n1 := n1
        · cases (show (none : Option (Bool)) = some r from h)
        have h : keep_CoresBusy_l1 a0 a2 a3 r4 (n1 + 1) k8 l9 = some r := h
        unfold keep_CoresBusy_l1 at h
        refine segs [] tabOk mixed 4000 (S := .br (decide ((((k8 : Nat) : Int) : Int) < ((a2.length : Nat) : Int))) (.and (0 ≤ (((k8 : Nat) : Int) : Int) ∧ ((k8 : Nat) : Int) < ((a2.length : Nat) : Int)) (.and (0 ≤ (((k8 : Nat) : Int) : Int) ∧ ((k8 : Nat) : Int) < ((l9.length : Nat) : Int)) (.leaf 0))) (.leaf 1)) (by kernel_rfl) ?_
        refine br_ h ?_ ?_ <;> clear h <;> intro c10 h
        · refine sk_and ⟨Int.natCast_nonneg _, of_decide_eq_true c10⟩ ?_
          refine gd_ h ?_; clear h; intro g12 h
          refine sk_leaf ?_
          refine st_ok (id := 1) (i := (0 + k8)) (j := 0) (e := 3) (vs := [.pv (.raw (.int .i64 ((a2.getD k8 (⟨0, 0, 0⟩ : Api_Thread)).Work)))]) E3 (xs := l9) ((a2.getD k8 (⟨0, 0, 0⟩ : Api_Thread)).Work) (by kernel_rfl) (by kernel_rfl) (by first | omega | (simp at * <;> omega) | (simp_all <;> omega)) (by exact Nat.le_of_ble_eq_true rfl) rfl ?_
          refine segs [] tabOk mixed 4000 (S := .leaf 0) (by kernel_rfl) ?_
          refine sk_leaf ?_
          refine back_ok (p := p1) (by kernel_rfl) (hp1 (n1, k8 + 1, (l9.set (0 + k8) ((a2.getD k8 (⟨0, 0, 0⟩ : Api_Thread)).Work))) _ h (Nat.lt_succ_self n1) ?_)
          exact sub_ok (ρ := [(0, some 0), (1, some 1)]) (l := [(a0 : Int) = a0, a2.length = a2.length, ∀ i, i < a2.length → ∀ j, j < 3 → E25.cf (a2.getD i E25.z) j = E25.cf (a2.getD i E25.z) j, (a3 : Int) = a3, false = false, 0 = 0, r4.1.length = r4.1.length, 0 = 0, l9.length = ((l9.set (0 + k8) ((a2.getD k8 (⟨0, 0, 0⟩ : Api_Thread)).Work)).length), a2.length = a2.length, ∀ i, i < a2.length → ∀ j, j < 3 → E25.cf (a2.getD i E25.z) j = E25.cf (a2.getD i E25.z) j, (((a2.length : Nat) : Int) : Int) = ((a2.length : Nat) : Int), ((IntKind.i64.wrap (((k8 : Nat) : Int) + 1)) : Int) = (((k8 + 1) : Nat) : Int), E30.cR r4.1 = E30.cR r4.1, AllPv (E30.cR r4.1), E3.cR (l9.set (0 + k8) ((a2.getD k8 (⟨0, 0, 0⟩ : Api_Thread)).Work)) = E3.cR (l9.set (0 + k8) ((a2.getD k8 (⟨0, 0, 0⟩ : Api_Thread)).Work)), AllPv (E3.cR (l9.set (0 + k8) ((a2.getD k8 (⟨0, 0, 0⟩ : Api_Thread)).Work)))]) (by kernel_rfl) ⟨rfl, rfl, fun _ _ _ _ => rfl, rfl, rfl, rfl, rfl, rfl, (by first | rfl | (simp; done) | omega | (simp <;> omega)), rfl, fun _ _ _ _ => rfl, rfl, (wrap_nat (Int.ofNat_lt.1 (of_decide_eq_true c10)) (by omega)), rfl, (Elem.cR_pv _ _), rfl, (Elem.cR_pv _ _), trivial⟩
        · refine sk_leaf ?_
          refine len_ro (by kernel_rfl) 2 (s := 3) (n := a2.length) (c := fun i j => E25.cf (a2.getD i E25.z) j) (by kernel_rfl) ?_; intro hl2_0
          refine len_row (by kernel_rfl) 0 (e := 30) (s := 1) (n := r4.1.length) (cs := E30.cR r4.1) (by kernel_rfl) (Elem.cR_length _ _) ?_; intro hl2_1
          refine len_row (by kernel_rfl) 1 (e := 3) (s := 1) (n := l9.length) (cs := E3.cR l9) (by kernel_rfl) (Elem.cR_length _ _) ?_; intro hl2_2
          replace h : (fun (x : Nat × Nat × List Int) => keep_CoresBusy_l2 a0 a2 a3 r4 l9 x.1 x.2.1 x.2.2 = some r) (FUEL, 0, l9) := h
          refine loop_ok (by kernel_rfl) (X := Nat × Nat × List Int) (fun x => keep_CoresBusy_l2 a0 a2 a3 r4 l9 x.1 x.2.1 x.2.2 = some r) (fun x => x.1) (fun x => mk 160 [(0, .pv (.raw (.int .i64 a0))), (2, .pv ((E25.ro a2))), (3, .pv (.raw (.int .i64 a3))), (8, .pv (.raw (.bool false))), (9, .row 0 1 0 r4.1.length), (11, .row 1 1 0 x.2.2.length), (56, .row 0 1 0 r4.1.length), (57, .pv (.raw (.int .i64 ((r4.1.length : Nat) : Int)))), (58, .pv (.raw (.int .i64 ((x.2.1 : Nat) : Int))))] [(0, .row 30 1 (E30.cR r4.1)), (1, .row 3 1 (E3.cR x.2.2))]) (FUEL, 0, l9) h ?_ ?_
          · exact sub_ok (ρ := [(0, some 0), (1, some 1)]) (l := ([(a0 : Int) = a0, a2.length = a2.length, ∀ i, i < a2.length → ∀ j, j < 3 → E25.cf (a2.getD i E25.z) j = E25.cf (a2.getD i E25.z) j, (a3 : Int) = a3, false = false] ++ (pL ([r4.1.length, l9.length, r4.1.length]) ++ ([(((r4.1.length : Nat) : Int) : Int) = ((r4.1.length : Nat) : Int), (0 : Int) = ((0 : Nat) : Int), E30.cR r4.1 = E30.cR r4.1, AllPv (E30.cR r4.1), E3.cR l9 = E3.cR l9, AllPv (E3.cR l9)])))) (by kernel_rfl) (allP_app ⟨rfl, rfl, fun _ _ _ _ => rfl, rfl, rfl, trivial⟩ (allP_app (pL_ok _) ⟨rfl, (by first | rfl | simp), rfl, (Elem.cR_pv _ _), rfl, (Elem.cR_pv _ _), trivial⟩))
          · clear h; rintro ⟨n2, k13, l14⟩ h p2 hp2
            obtain _ | n2 := n2
            · cases (show (none : Option (Bool)) = some r from h)
            have h : keep_CoresBusy_l2 a0 a2 a3 r4 l9 (n2 + 1) k13 l14 = some r := h
            unfold keep_CoresBusy_l2 at h
            refine segs [] tabOk mixed 4000 (S := .br (decide ((((k13 : Nat) : Int) : Int) < ((r4.1.length : Nat) : Int))) (.and (0 ≤ (((k13 : Nat) : Int) : Int) ∧ ((k13 : Nat) : Int) < ((r4.1.length : Nat) : Int)) (.leaf 0)) (.leaf 1)) (by kernel_rfl) ?_
            refine br_ h ?_ ?_ <;> clear h <;> intro c15 h
            · refine sk_and ⟨Int.natCast_nonneg _, of_decide_eq_true c15⟩ ?_
              refine sk_leaf ?_
              refine ld_ok (d := 62) (id := 0) (i := (0 + k13)) (j := 0) (e := 30) (n := 1) E30 (xs := r4.1) (by kernel_rfl) (by kernel_rfl) (by first | omega | (simp at * <;> omega) | (simp_all <;> omega)) (by exact Nat.le_of_ble_eq_true rfl) ?_
              refine segs [] tabOk mixed 4000 (S := .leaf 0) (by kernel_rfl) ?_
              refine sk_leaf ?_
              refine len_ro (by kernel_rfl) 2 (s := 3) (n := a2.length) (c := fun i j => E25.cf (a2.getD i E25.z) j) (by kernel_rfl) ?_; intro hl3_0
              refine len_ro (by kernel_rfl) 15 (s := 1) (n := (r4.1.getD (0 + k13) []).length) (c := fun i j => E3.cf ((r4.1.getD (0 + k13) []).getD i E3.z) j) (by kernel_rfl) ?_; intro hl3_1
              refine len_ro (by kernel_rfl) 63 (s := 3) (n := a2.length) (c := fun i j => E25.cf (a2.getD i E25.z) j) (by kernel_rfl) ?_; intro hl3_2
              refine len_row (by kernel_rfl) 0 (e := 30) (s := 1) (n := r4.1.length) (cs := E30.cR r4.1) (by kernel_rfl) (Elem.cR_length _ _) ?_; intro hl3_3
              refine len_row (by kernel_rfl) 1 (e := 3) (s := 1) (n := l14.length) (cs := E3.cR l14) (by kernel_rfl) (Elem.cR_length _ _) ?_; intro hl3_4
              obtain ⟨K3_0, hK3_0, h⟩ : ∃ (K3_0 : (List Int) → Nat → Option (Bool)), K3_0 = (fun (l17 : List Int) (k18 : Nat) => bif (((((r4.1.getD (0 + k13) []).length : Nat) : Int) : Int) != (if (((l17.length : Nat) : Int) : Int) < a0 then ((l17.length : Nat) : Int) else a0)) then some false else keep_CoresBusy_l4 a2 r4 k13 l17 (fun (k29 : Nat) => keep_CoresBusy_l6 r4 k13 l14 (fun (k66 : Nat) (l67 : List Int) => keep_CoresBusy_l2 a0 a2 a3 r4 l9 n2 (k13 + 1) l67 ) FUEL 0 l14 ) FUEL 0 ) ∧ keep_CoresBusy_l3 a2 k13 l14 K3_0 FUEL ([] : List Int) 0 = some r := ⟨_, rfl, h⟩
              replace h : (fun (x : Nat × List Int × Nat) => keep_CoresBusy_l3 a2 k13 l14 K3_0 x.1 x.2.1 x.2.2 = some r) (FUEL, ([] : List Int), 0) := h
              refine loop_ok (by kernel_rfl) (X := Nat × List Int × Nat) (fun x => keep_CoresBusy_l3 a2 k13 l14 K3_0 x.1 x.2.1 x.2.2 = some r) (fun x => x.1) (fun x => mk 160 [(0, .pv (.raw (.int .i64 a0))), (2, .pv ((E25.ro a2))), (3, .pv (.raw (.int .i64 a3))), (8, .pv (.raw (.bool false))), (9, .row 0 1 0 r4.1.length), (11, .row 1 1 0 l14.length), (14, .pv (.raw (.int .i64 ((k13 : Nat) : Int)))), (15, .pv ((E3.ro (r4.1.getD (0 + k13) [])))), (16, .row 2 1 0 x.2.1.length), (56, .row 0 1 0 r4.1.length), (57, .pv (.raw (.int .i64 ((r4.1.length : Nat) : Int)))), (58, .pv (.raw (.int .i64 ((k13 : Nat) : Int)))), (63, .pv ((E25.ro a2))), (64, .pv (.raw (.int .i64 ((a2.length : Nat) : Int)))), (65, .pv (.raw (.int .i64 ((x.2.2 : Nat) : Int))))] [(0, .row 30 1 (E30.cR r4.1)), (1, .row 3 1 (E3.cR l14)), (2, .row 3 1 (E3.cR x.2.1))]) (FUEL, ([] : List Int), 0) h ?_ ?_
              · exact sub_ok (ρ := [(0, some 0), (1, some 1), (2, none)]) (l := [(a0 : Int) = a0, a2.length = a2.length, ∀ i, i < a2.length → ∀ j, j < 3 → E25.cf (a2.getD i E25.z) j = E25.cf (a2.getD i E25.z) j, (a3 : Int) = a3, false = false, 0 = 0, r4.1.length = r4.1.length, 0 = 0, l14.length = l14.length, (((k13 : Nat) : Int) : Int) = ((k13 : Nat) : Int), (r4.1.getD (0 + k13) []).length = (r4.1.getD (0 + k13) []).length, ∀ i, i < (r4.1.getD (0 + k13) []).length → ∀ j, j < 1 → E3.cf ((r4.1.getD (0 + k13) []).getD i E3.z) j = E3.cf ((r4.1.getD (0 + k13) []).getD i E3.z) j, 0 = 0, (([] : List Int).length) = 0, 0 = 0, r4.1.length = r4.1.length, (((r4.1.length : Nat) : Int) : Int) = ((r4.1.length : Nat) : Int), (((k13 : Nat) : Int) : Int) = ((k13 : Nat) : Int), a2.length = a2.length, ∀ i, i < a2.length → ∀ j, j < 3 → E25.cf (a2.getD i E25.z) j = E25.cf (a2.getD i E25.z) j, (((a2.length : Nat) : Int) : Int) = ((a2.length : Nat) : Int), (0 : Int) = ((0 : Nat) : Int), E30.cR r4.1 = E30.cR r4.1, AllPv (E30.cR r4.1), E3.cR l14 = E3.cR l14, AllPv (E3.cR l14), E3.cR ([] : List Int) = []]) (by kernel_rfl) ⟨rfl, rfl, fun _ _ _ _ => rfl, rfl, rfl, rfl, rfl, rfl, rfl, rfl, rfl, fun _ _ _ _ => rfl, rfl, (by first | rfl | simp), rfl, rfl, rfl, rfl, rfl, fun _ _ _ _ => rfl, rfl, (by first | rfl | simp), rfl, (Elem.cR_pv _ _), rfl, (Elem.cR_pv _ _), rfl, trivial⟩
              · clear h; rintro ⟨n3, l17, k18⟩ h p3 hp3
                obtain _ | n3 := n3
                · cases (show (none : Option (Bool)) = some r from h)
                have h : keep_CoresBusy_l3 a2 k13 l14 K3_0 (n3 + 1) l17 k18 = some r := h
                unfold keep_CoresBusy_l3 at h
                refine segs [] tabOk mixed 4000 (S := .br (decide ((((k18 : Nat) : Int) : Int) < ((a2.length : Nat) : Int))) (.and (0 ≤ (((k18 : Nat) : Int) : Int) ∧ ((k18 : Nat) : Int) < ((a2.length : Nat) : Int)) (.and (((decide (((a2.getD k18 (⟨0, 0, 0⟩ : Api_Thread)).Come : Int) ≤ ((k13 : Nat) : Int))) = true → ((decide (((a2.getD k18 (⟨0, 0, 0⟩ : Api_Thread)).Come : Int) ≤ ((k13 : Nat) : Int))) = true))) (.and (((decide (((a2.getD k18 (⟨0, 0, 0⟩ : Api_Thread)).Come : Int) ≤ ((k13 : Nat) : Int))) = true → ((decide (((a2.getD k18 (⟨0, 0, 0⟩ : Api_Thread)).Come : Int) ≤ ((k13 : Nat) : Int))) = true))) (.and (((decide (((a2.getD k18 (⟨0, 0, 0⟩ : Api_Thread)).Come : Int) ≤ ((k13 : Nat) : Int))) = true → (0 ≤ (((k18 : Nat) : Int) : Int) ∧ ((k18 : Nat) : Int) < ((l14.length : Nat) : Int)))) (.leaf 0))))) (.br (((((r4.1.getD (0 + k13) []).length : Nat) : Int) : Int) != (if (((l17.length : Nat) : Int) : Int) < a0 then ((l17.length : Nat) : Int) else a0)) (.leaf 1) (.leaf 2))) (by kernel_rfl) ?_
                refine br_ h ?_ ?_ <;> clear h <;> intro c19 h
                · refine sk_and ⟨Int.natCast_nonneg _, of_decide_eq_true c19⟩ ?_
                  refine sk_and (fun h => h) ?_
                  refine sk_and (fun h => h) ?_
                  refine gd_ h ?_; clear h; intro g23 h
                  refine sk_leaf ?_
                  refine ldG_ok (d := 78) (id := 1) (i := (0 + k18)) (j := 0) (e := 3) (n := 1) (g := (decide (((a2.getD k18 (⟨0, 0, 0⟩ : Api_Thread)).Come : Int) ≤ ((k13 : Nat) : Int)))) (ws := [(decide (((a2.getD k18 (⟨0, 0, 0⟩ : Api_Thread)).Come : Int) ≤ ((k13 : Nat) : Int))) = true]) E3 (xs := l14) (by kernel_rfl) (fun hg => ⟨((by decide : ∀ y0 : Bool, ((y0 = true) → (y0 = true))) (decide (((a2.getD k18 (⟨0, 0, 0⟩ : Api_Thread)).Come : Int) ≤ ((k13 : Nat) : Int)))) hg, trivial⟩) (by kernel_rfl) (fun hg => (by first | omega | (simp at * <;> omega) | (simp_all <;> omega))) (by exact Nat.le_of_ble_eq_true rfl) ?_
                  refine segs [] tabOk mixed 4000 (S := .and (((decide (((a2.getD k18 (⟨0, 0, 0⟩ : Api_Thread)).Come : Int) ≤ ((k13 : Nat) : Int))) = true → ((decide (((a2.getD k18 (⟨0, 0, 0⟩ : Api_Thread)).Come : Int) ≤ ((k13 : Nat) : Int))) = true))) (.and ((decide (((a2.getD k18 (⟨0, 0, 0⟩ : Api_Thread)).Come : Int) ≤ ((k13 : Nat) : Int))) = true → (decide (((a2.getD k18 (⟨0, 0, 0⟩ : Api_Thread)).Come : Int) ≤ ((k13 : Nat) : Int))) = true) (.br ((decide (((a2.getD k18 (⟨0, 0, 0⟩ : Api_Thread)).Come : Int) ≤ ((k13 : Nat) : Int))) && (decide (((l14.getD (0 + k18) 0) : Int) > 0))) (.leaf 0) (.leaf 1)))) (by kernel_rfl) ?_
                  refine sk_and (fun h => h) ?_
                  refine sk_and (fun h => h) ?_
                  refine br_ h ?_ ?_ <;> clear h <;> intro c26 h
                  · refine sk_leaf ?_
                    refine bs_ok (d := 83) (e := 3) (s := 1) (n := 1) (cs := [.pv (.raw (.int .i64 ((k18 : Nat) : Int)))]) (cs' := E3.cR [((k18 : Nat) : Int)]) (by kernel_rfl) rfl (by kernel_rfl) ?_
                    refine segs [] tabOk mixed 4000 (S := .leaf 0) (by kernel_rfl) ?_
                    refine sk_leaf ?_
                    obtain ⟨g27, h⟩ := if_ h
                    refine app_ok (d := 84) (e := 3) (s := 1) (b := 8) (x := .row 2 1 0 l17.length) (y := .row 21696 1 0 1) E3 (xs := l17) (ys := [((k18 : Nat) : Int)]) (by kernel_rfl) rfl (.row 2 l17 l17.length rfl (by kernel_rfl)) (.all 21696 3 [((k18 : Nat) : Int)] 1 rfl (by kernel_rfl)) g27 (by kernel_rfl) ?_
                    refine segs [] tabOk mixed 4000 (S := .leaf 0) (by kernel_rfl) ?_
                    refine sk_leaf ?_
                    refine back_ok (p := p3) (by kernel_rfl) (hp3 (n3, (l17 ++ [((k18 : Nat) : Int)]), k18 + 1) _ h (Nat.lt_succ_self n3) ?_)
                    exact sub_ok (ρ := [(0, some 0), (1, some 1), (2, some 21760)]) (l := [(a0 : Int) = a0, a2.length = a2.length, ∀ i, i < a2.length → ∀ j, j < 3 → E25.cf (a2.getD i E25.z) j = E25.cf (a2.getD i E25.z) j, (a3 : Int) = a3, false = false, 0 = 0, r4.1.length = r4.1.length, 0 = 0, l14.length = l14.length, (((k13 : Nat) : Int) : Int) = ((k13 : Nat) : Int), (r4.1.getD (0 + k13) []).length = (r4.1.getD (0 + k13) []).length, ∀ i, i < (r4.1.getD (0 + k13) []).length → ∀ j, j < 1 → E3.cf ((r4.1.getD (0 + k13) []).getD i E3.z) j = E3.cf ((r4.1.getD (0 + k13) []).getD i E3.z) j, 0 = 0, ((l17 ++ [((k18 : Nat) : Int)]).length) = ((l17 ++ [((k18 : Nat) : Int)]).length), 0 = 0, r4.1.length = r4.1.length, (((r4.1.length : Nat) : Int) : Int) = ((r4.1.length : Nat) : Int), (((k13 : Nat) : Int) : Int) = ((k13 : Nat) : Int), a2.length = a2.length, ∀ i, i < a2.length → ∀ j, j < 3 → E25.cf (a2.getD i E25.z) j = E25.cf (a2.getD i E25.z) j, (((a2.length : Nat) : Int) : Int) = ((a2.length : Nat) : Int), ((IntKind.i64.wrap (((k18 : Nat) : Int) + 1)) : Int) = (((k18 + 1) : Nat) : Int), E30.cR r4.1 = E30.cR r4.1, AllPv (E30.cR r4.1), E3.cR l14 = E3.cR l14, AllPv (E3.cR l14), E3.cR (l17 ++ [((k18 : Nat) : Int)]) = E3.cR (l17 ++ [((k18 : Nat) : Int)]), AllPv (E3.cR (l17 ++ [((k18 : Nat) : Int)]))]) (by kernel_rfl) ⟨rfl, rfl, fun _ _ _ _ => rfl, rfl, rfl, rfl, rfl, rfl, rfl, rfl, rfl, fun _ _ _ _ => rfl, rfl, rfl, rfl, rfl, rfl, rfl, rfl, fun _ _ _ _ => rfl, rfl, (wrap_nat (Int.ofNat_lt.1 (of_decide_eq_true c19)) (by omega)), rfl, (Elem.cR_pv _ _), rfl, (Elem.cR_pv _ _), rfl, (Elem.cR_pv _ _), trivial⟩
                  · refine sk_leaf ?_
                    refine back_ok (p := p3) (by kernel_rfl) (hp3 (n3, l17, k18 + 1) _ h (Nat.lt_succ_self n3) ?_)
                    exact sub_ok (ρ := (rI 0 0 3)) (l := [(a0 : Int) = a0, a2.length = a2.length, ∀ i, i < a2.length → ∀ j, j < 3 → E25.cf (a2.getD i E25.z) j = E25.cf (a2.getD i E25.z) j, (a3 : Int) = a3, false = false, 0 = 0, r4.1.length = r4.1.length, 0 = 0, l14.length = l14.length, (((k13 : Nat) : Int) : Int) = ((k13 : Nat) : Int), (r4.1.getD (0 + k13) []).length = (r4.1.getD (0 + k13) []).length, ∀ i, i < (r4.1.getD (0 + k13) []).length → ∀ j, j < 1 → E3.cf ((r4.1.getD (0 + k13) []).getD i E3.z) j = E3.cf ((r4.1.getD (0 + k13) []).getD i E3.z) j, 0 = 0, l17.length = l17.length, 0 = 0, r4.1.length = r4.1.length, (((r4.1.length : Nat) : Int) : Int) = ((r4.1.length : Nat) : Int), (((k13 : Nat) : Int) : Int) = ((k13 : Nat) : Int), a2.length = a2.length, ∀ i, i < a2.length → ∀ j, j < 3 → E25.cf (a2.getD i E25.z) j = E25.cf (a2.getD i E25.z) j, (((a2.length : Nat) : Int) : Int) = ((a2.length : Nat) : Int), ((IntKind.i64.wrap (((k18 : Nat) : Int) + 1)) : Int) = (((k18 + 1) : Nat) : Int), E30.cR r4.1 = E30.cR r4.1, AllPv (E30.cR r4.1), E3.cR l14 = E3.cR l14, AllPv (E3.cR l14), E3.cR l17 = E3.cR l17, AllPv (E3.cR l17)]) (by kernel_rfl) ⟨rfl, rfl, fun _ _ _ _ => rfl, rfl, rfl, rfl, rfl, rfl, rfl, rfl, rfl, fun _ _ _ _ => rfl, rfl, rfl, rfl, rfl, rfl, rfl, rfl, fun _ _ _ _ => rfl, rfl, (wrap_nat (Int.ofNat_lt.1 (of_decide_eq_true c19)) (by omega)), rfl, (Elem.cR_pv _ _), rfl, (Elem.cR_pv _ _), rfl, (Elem.cR_pv _ _), trivial⟩
                · replace h := (congrFun (congrFun hK3_0 l17) k18).symm.trans h
                  refine br_ h ?_ ?_ <;> clear h <;> intro c28 h
                  · refine sk_leaf ?_
                    obtain rfl := some_ h
                    exact end_ok [] Try.results4 (ps := [false = false]) (by kernel_rfl) ⟨rfl, trivial⟩ (fun _ => ⟨rfl, by simp⟩)
                  · refine sk_leaf ?_
                    refine len_ro (by kernel_rfl) 2 (s := 3) (n := a2.length) (c := fun i j => E25.cf (a2.getD i E25.z) j) (by kernel_rfl) ?_; intro hl4_0
                    refine len_ro (by kernel_rfl) 15 (s := 1) (n := (r4.1.getD (0 + k13) []).length) (c := fun i j => E3.cf ((r4.1.getD (0 + k13) []).getD i E3.z) j) (by kernel_rfl) ?_; intro hl4_1
                    refine len_ro (by kernel_rfl) 93 (s := 1) (n := (r4.1.getD (0 + k13) []).length) (c := fun i j => E3.cf ((r4.1.getD (0 + k13) []).getD i E3.z) j) (by kernel_rfl) ?_; intro hl4_2
                    refine len_row (by kernel_rfl) 2 (e := 3) (s := 1) (n := l17.length) (cs := E3.cR l17) (by kernel_rfl) (Elem.cR_length _ _) ?_; intro hl4_3
                    refine len_row (by kernel_rfl) 0 (e := 30) (s := 1) (n := r4.1.length) (cs := E30.cR r4.1) (by kernel_rfl) (Elem.cR_length _ _) ?_; intro hl4_4
                    refine len_row (by kernel_rfl) 1 (e := 3) (s := 1) (n := l14.length) (cs := E3.cR l14) (by kernel_rfl) (Elem.cR_length _ _) ?_; intro hl4_5
                    obtain ⟨K4_0, hK4_0, h⟩ : ∃ (K4_0 : Nat → Option (Bool)), K4_0 = (fun (k29 : Nat) => keep_CoresBusy_l6 r4 k13 l14 (fun (k66 : Nat) (l67 : List Int) => keep_CoresBusy_l2 a0 a2 a3 r4 l9 n2 (k13 + 1) l67 ) FUEL 0 l14 ) ∧ keep_CoresBusy_l4 a2 r4 k13 l17 K4_0 FUEL 0 = some r := ⟨_, rfl, h⟩
                    replace h : (fun (x : Nat × Nat) => keep_CoresBusy_l4 a2 r4 k13 l17 K4_0 x.1 x.2 = some r) (FUEL, 0) := h
                    refine loop_ok (by kernel_rfl) (X := Nat × Nat) (fun x => keep_CoresBusy_l4 a2 r4 k13 l17 K4_0 x.1 x.2 = some r) (fun x => x.1) (fun x => mk 160 [(0, .pv (.raw (.int .i64 a0))), (2, .pv ((E25.ro a2))), (3, .pv (.raw (.int .i64 a3))), (8, .pv (.raw (.bool false))), (9, .row 0 1 0 r4.1.length), (11, .row 1 1 0 l14.length), (15, .pv ((E3.ro (r4.1.getD (0 + k13) [])))), (16, .row 2 1 0 l17.length), (56, .row 0 1 0 r4.1.length), (57, .pv (.raw (.int .i64 ((r4.1.length : Nat) : Int)))), (58, .pv (.raw (.int .i64 ((k13 : Nat) : Int)))), (93, .pv ((E3.ro (r4.1.getD (0 + k13) [])))), (94, .pv (.raw (.int .i64 (((r4.1.getD (0 + k13) []).length : Nat) : Int)))), (95, .pv (.raw (.int .i64 ((x.2 : Nat) : Int))))] [(0, .row 30 1 (E30.cR r4.1)), (1, .row 3 1 (E3.cR l14)), (2, .row 3 1 (E3.cR l17))]) (FUEL, 0) h ?_ ?_
                    · exact sub_ok (ρ := (rI 0 0 3)) (l := [(a0 : Int) = a0, a2.length = a2.length, ∀ i, i < a2.length → ∀ j, j < 3 → E25.cf (a2.getD i E25.z) j = E25.cf (a2.getD i E25.z) j, (a3 : Int) = a3, false = false, 0 = 0, r4.1.length = r4.1.length, 0 = 0, l14.length = l14.length, (r4.1.getD (0 + k13) []).length = (r4.1.getD (0 + k13) []).length, ∀ i, i < (r4.1.getD (0 + k13) []).length → ∀ j, j < 1 → E3.cf ((r4.1.getD (0 + k13) []).getD i E3.z) j = E3.cf ((r4.1.getD (0 + k13) []).getD i E3.z) j, 0 = 0, l17.length = l17.length, 0 = 0, r4.1.length = r4.1.length, (((r4.1.length : Nat) : Int) : Int) = ((r4.1.length : Nat) : Int), (((k13 : Nat) : Int) : Int) = ((k13 : Nat) : Int), (r4.1.getD (0 + k13) []).length = (r4.1.getD (0 + k13) []).length, ∀ i, i < (r4.1.getD (0 + k13) []).length → ∀ j, j < 1 → E3.cf ((r4.1.getD (0 + k13) []).getD i E3.z) j = E3.cf ((r4.1.getD (0 + k13) []).getD i E3.z) j, ((((r4.1.getD (0 + k13) []).length : Nat) : Int) : Int) = (((r4.1.getD (0 + k13) []).length : Nat) : Int), (0 : Int) = ((0 : Nat) : Int), E30.cR r4.1 = E30.cR r4.1, AllPv (E30.cR r4.1), E3.cR l14 = E3.cR l14, AllPv (E3.cR l14), E3.cR l17 = E3.cR l17, AllPv (E3.cR l17)]) (by kernel_rfl) ⟨rfl, rfl, fun _ _ _ _ => rfl, rfl, rfl, rfl, rfl, rfl, rfl, rfl, fun _ _ _ _ => rfl, rfl, rfl, rfl, rfl, rfl, rfl, rfl, fun _ _ _ _ => rfl, rfl, (by first | rfl | simp), rfl, (Elem.cR_pv _ _), rfl, (Elem.cR_pv _ _), rfl, (Elem.cR_pv _ _), trivial⟩
                    · clear h; rintro ⟨n4, k29⟩ h p4 hp4
                      obtain _ | n4 := n4
                      · cases (show (none : Option (Bool)) = some r from h)
                      have h : keep_CoresBusy_l4 a2 r4 k13 l17 K4_0 (n4 + 1) k29 = some r := h
                      unfold keep_CoresBusy_l4 at h
                      refine segs [] tabOk mixed 4000 (S := .br (decide ((((k29 : Nat) : Int) : Int) < (((r4.1.getD (0 + k13) []).length : Nat) : Int))) (.and (0 ≤ (((k29 : Nat) : Int) : Int) ∧ ((k29 : Nat) : Int) < (((r4.1.getD (0 + k13) []).length : Nat) : Int)) (.leaf 0)) (.leaf 1)) (by kernel_rfl) ?_
                      refine br_ h ?_ ?_ <;> clear h <;> intro c30 h
                      · refine sk_and ⟨Int.natCast_nonneg _, of_decide_eq_true c30⟩ ?_
                        refine sk_leaf ?_
                        obtain ⟨r32, e33, h⟩ := bd_ h
                        refine call_ok (d := some 102) (fn := 9) (ax := [.row 2 1 0 l17.length, .pv (.raw (.int .i64 ((r4.1.getD (0 + k13) []).getD k29 0)))]) (args := [.pv ((E3.ro l17)), .pv (.raw (.int .i64 ((r4.1.getD (0 + k13) []).getD k29 0)))]) (ps := [l17.length = l17.length, rowQ (E3.cR l17) 1 0 l17.length (fun i j => E3.cf (l17.getD i E3.z) j), (((r4.1.getD (0 + k13) []).getD k29 0) : Int) = ((r4.1.getD (0 + k13) []).getD k29 0)]) (hb' := []) (by kernel_rfl) (slices_Contains_int_ok _ _ _ e33 (al := false)) (by kernel_rfl) ⟨(by first | rfl | exact Elem.sub_len _ (by omega) | omega | simp | (simp <;> omega)), E3.rowQ_all l17 rfl, rfl, trivial⟩ (fun hx => by cases hx) (by simp) rfl (by kernel_rfl) ?_
                        refine segs [] tabOk mixed 4000 (S := .and (((!(!r32)) = true → ((!(!r32)) = true))) (.and (((!(!r32)) = true → ((!(!r32)) = true))) (.and ((((!(!r32)) && (decide ((((k29 : Nat) : Int) : Int) > 0))) = true → (((!(!r32)) && (decide ((((k29 : Nat) : Int) : Int) > 0))) = true))) (.and ((((!(!r32)) && (decide ((((k29 : Nat) : Int) : Int) > 0))) = true → (((!(!r32)) && (decide ((((k29 : Nat) : Int) : Int) > 0))) = true))) (.and ((((!(!r32)) && (decide ((((k29 : Nat) : Int) : Int) > 0))) = true → (((!(!r32)) && (decide ((((k29 : Nat) : Int) : Int) > 0))) = true))) (.and ((((!(!r32)) && (decide ((((k29 : Nat) : Int) : Int) > 0))) = true → (0 ≤ ((IntKind.i64.wrap (((k29 : Nat) : Int) - 1)) : Int) ∧ (IntKind.i64.wrap (((k29 : Nat) : Int) - 1)) < (((r4.1.getD (0 + k13) []).length : Nat) : Int)))) (.and ((((!(!r32)) && (decide ((((k29 : Nat) : Int) : Int) > 0))) = true → (((!(!r32)) && (decide ((((k29 : Nat) : Int) : Int) > 0))) = true))) (.and ((((!(!r32)) && (decide ((((k29 : Nat) : Int) : Int) > 0))) = true → (((!(!r32)) && (decide ((((k29 : Nat) : Int) : Int) > 0))) = true))) (.and ((((!(!r32)) && (decide ((((k29 : Nat) : Int) : Int) > 0))) = true → (((!(!r32)) && (decide ((((k29 : Nat) : Int) : Int) > 0))) = true))) (.and (((!(!r32)) = true → ((!(!r32)) = true))) (.and (((!(!r32)) = true → ((decide ((((k29 : Nat) : Int) : Int) > 0)) = true → ((!(!r32)) && (decide ((((k29 : Nat) : Int) : Int) > 0))) = true))) (.and ((!r32) = false → (!(!r32)) = true) (.br ((!r32) || ((decide ((((k29 : Nat) : Int) : Int) > 0)) && (decide ((((r4.1.getD (0 + k13) []).getD (Int.toNat (IntKind.i64.wrap (((k29 : Nat) : Int) - 1))) 0) : Int) ≥ ((r4.1.getD (0 + k13) []).getD k29 0))))) (.leaf 0) (.leaf 1)))))))))))))) (by kernel_rfl) ?_
                        refine sk_and (fun h => h) ?_
                        refine sk_and (fun h => h) ?_
                        refine sk_and (fun h => h) ?_
                        refine sk_and (fun h => h) ?_
                        refine sk_and (fun h => h) ?_
                        refine gd_ h ?_; clear h; intro g39 h
                        refine sk_and (fun h => h) ?_
                        refine sk_and (fun h => h) ?_
                        refine sk_and (fun h => h) ?_
                        refine sk_and (fun h => h) ?_
                        refine sk_and ((by decide : ∀ y0 y1 : Bool, ((y0 = true) → ((y1 = true) → ((y0 && y1) = true)))) (!(!r32)) (decide ((((k29 : Nat) : Int) : Int) > 0))) ?_
                        refine sk_and ((by decide : ∀ y0 : Bool, ((y0 = false) → ((!y0) = true))) (!r32)) ?_
                        refine br_ h ?_ ?_ <;> clear h <;> intro c46 h
                        · refine sk_leaf ?_
                          obtain rfl := some_ h
                          exact end_ok [] Try.results4 (ps := [false = false]) (by kernel_rfl) ⟨rfl, trivial⟩ (fun _ => ⟨rfl, by simp⟩)
                        · refine sk_leaf ?_
                          refine len_ro (by kernel_rfl) 2 (s := 3) (n := a2.length) (c := fun i j => E25.cf (a2.getD i E25.z) j) (by kernel_rfl) ?_; intro hl5_0
                          refine len_ro (by kernel_rfl) 15 (s := 1) (n := (r4.1.getD (0 + k13) []).length) (c := fun i j => E3.cf ((r4.1.getD (0 + k13) []).getD i E3.z) j) (by kernel_rfl) ?_; intro hl5_1
                          refine len_ro (by kernel_rfl) 93 (s := 1) (n := (r4.1.getD (0 + k13) []).length) (c := fun i j => E3.cf ((r4.1.getD (0 + k13) []).getD i E3.z) j) (by kernel_rfl) ?_; intro hl5_2
                          refine len_row (by kernel_rfl) 0 (e := 30) (s := 1) (n := r4.1.length) (cs := E30.cR r4.1) (by kernel_rfl) (Elem.cR_length _ _) ?_; intro hl5_3
                          refine len_row (by kernel_rfl) 1 (e := 3) (s := 1) (n := l14.length) (cs := E3.cR l14) (by kernel_rfl) (Elem.cR_length _ _) ?_; intro hl5_4
                          refine len_row (by kernel_rfl) 2 (e := 3) (s := 1) (n := l17.length) (cs := E3.cR l17) (by kernel_rfl) (Elem.cR_length _ _) ?_; intro hl5_5
                          obtain ⟨K5_0, hK5_0, h⟩ : ∃ (K5_0 : Nat → Option (Bool)), K5_0 = (fun (k47 : Nat) => keep_CoresBusy_l4 a2 r4 k13 l17 K4_0 n4 (k29 + 1) ) ∧ keep_CoresBusy_l5 a2 r4 k13 l17 k29 K5_0 FUEL 0 = some r := ⟨_, rfl, h⟩
                          replace h : (fun (x : Nat × Nat) => keep_CoresBusy_l5 a2 r4 k13 l17 k29 K5_0 x.1 x.2 = some r) (FUEL, 0) := h
                          refine loop_ok (by kernel_rfl) (X := Nat × Nat) (fun x => keep_CoresBusy_l5 a2 r4 k13 l17 k29 K5_0 x.1 x.2 = some r) (fun x => x.1) (fun x => mk 160 [(0, .pv (.raw (.int .i64 a0))), (2, .pv ((E25.ro a2))), (3, .pv (.raw (.int .i64 a3))), (8, .pv (.raw (.bool false))), (9, .row 0 1 0 r4.1.length), (11, .row 1 1 0 l14.length), (15, .pv ((E3.ro (r4.1.getD (0 + k13) [])))), (16, .row 2 1 0 l17.length), (20, .pv (.raw (.int .i64 ((r4.1.getD (0 + k13) []).getD k29 0)))), (56, .row 0 1 0 r4.1.length), (57, .pv (.raw (.int .i64 ((r4.1.length : Nat) : Int)))), (58, .pv (.raw (.int .i64 ((k13 : Nat) : Int)))), (93, .pv ((E3.ro (r4.1.getD (0 + k13) [])))), (94, .pv (.raw (.int .i64 (((r4.1.getD (0 + k13) []).length : Nat) : Int)))), (95, .pv (.raw (.int .i64 ((k29 : Nat) : Int)))), (117, .row 2 1 0 l17.length), (118, .pv (.raw (.int .i64 ((l17.length : Nat) : Int)))), (119, .pv (.raw (.int .i64 ((x.2 : Nat) : Int))))] [(0, .row 30 1 (E30.cR r4.1)), (1, .row 3 1 (E3.cR l14)), (2, .row 3 1 (E3.cR l17))]) (FUEL, 0) h ?_ ?_
                          · exact sub_ok (ρ := (rI 0 0 3)) (l := [(a0 : Int) = a0, a2.length = a2.length, ∀ i, i < a2.length → ∀ j, j < 3 → E25.cf (a2.getD i E25.z) j = E25.cf (a2.getD i E25.z) j, (a3 : Int) = a3, false = false, 0 = 0, r4.1.length = r4.1.length, 0 = 0, l14.length = l14.length, (r4.1.getD (0 + k13) []).length = (r4.1.getD (0 + k13) []).length, ∀ i, i < (r4.1.getD (0 + k13) []).length → ∀ j, j < 1 → E3.cf ((r4.1.getD (0 + k13) []).getD i E3.z) j = E3.cf ((r4.1.getD (0 + k13) []).getD i E3.z) j, 0 = 0, l17.length = l17.length, (((r4.1.getD (0 + k13) []).getD k29 0) : Int) = ((r4.1.getD (0 + k13) []).getD k29 0), 0 = 0, r4.1.length = r4.1.length, (((r4.1.length : Nat) : Int) : Int) = ((r4.1.length : Nat) : Int), (((k13 : Nat) : Int) : Int) = ((k13 : Nat) : Int), (r4.1.getD (0 + k13) []).length = (r4.1.getD (0 + k13) []).length, ∀ i, i < (r4.1.getD (0 + k13) []).length → ∀ j, j < 1 → E3.cf ((r4.1.getD (0 + k13) []).getD i E3.z) j = E3.cf ((r4.1.getD (0 + k13) []).getD i E3.z) j, ((((r4.1.getD (0 + k13) []).length : Nat) : Int) : Int) = (((r4.1.getD (0 + k13) []).length : Nat) : Int), (((k29 : Nat) : Int) : Int) = ((k29 : Nat) : Int), 0 = 0, l17.length = l17.length, (((l17.length : Nat) : Int) : Int) = ((l17.length : Nat) : Int), (0 : Int) = ((0 : Nat) : Int), E30.cR r4.1 = E30.cR r4.1, AllPv (E30.cR r4.1), E3.cR l14 = E3.cR l14, AllPv (E3.cR l14), E3.cR l17 = E3.cR l17, AllPv (E3.cR l17)]) (by kernel_rfl) ⟨rfl, rfl, fun _ _ _ _ => rfl, rfl, rfl, rfl, rfl, rfl, rfl, rfl, fun _ _ _ _ => rfl, rfl, rfl, rfl, rfl, rfl, rfl, rfl, rfl, fun _ _ _ _ => rfl, rfl, rfl, rfl, rfl, rfl, (by first | rfl | simp), rfl, (Elem.cR_pv _ _), rfl, (Elem.cR_pv _ _), rfl, (Elem.cR_pv _ _), trivial⟩
                          · clear h; rintro ⟨n5, k47⟩ h p5 hp5
                            obtain _ | n5 := n5
                            · cases (show (none : Option (Bool)) = some r from h)
                            have h : keep_CoresBusy_l5 a2 r4 k13 l17 k29 K5_0 (n5 + 1) k47 = some r := h
                            unfold keep_CoresBusy_l5 at h
                            refine segs [] tabOk mixed 4000 (S := .br (decide ((((k47 : Nat) : Int) : Int) < ((l17.length : Nat) : Int))) (.and (0 ≤ (((k47 : Nat) : Int) : Int) ∧ ((k47 : Nat) : Int) < ((l17.length : Nat) : Int)) (.leaf 0)) (.leaf 1)) (by kernel_rfl) ?_
                            refine br_ h ?_ ?_ <;> clear h <;> intro c48 h
                            · refine sk_and ⟨Int.natCast_nonneg _, of_decide_eq_true c48⟩ ?_
                              refine sk_leaf ?_
                              refine ld_ok (d := 122) (id := 2) (i := (0 + k47)) (j := 0) (e := 3) (n := 1) E3 (xs := l17) (by kernel_rfl) (by kernel_rfl) (by first | omega | (simp at * <;> omega) | (simp_all <;> omega)) (by exact Nat.le_of_ble_eq_true rfl) ?_
                              refine segs [] tabOk mixed 4000 (S := .leaf 0) (by kernel_rfl) ?_
                              refine sk_leaf ?_
                              obtain ⟨r50, e51, h⟩ := bd_ h
                              refine call_ok (d := some 125) (fn := 9) (ax := [.pv ((E3.ro (r4.1.getD (0 + k13) []))), .pv (.raw (.int .i64 (l17.getD (0 + k47) 0)))]) (args := [.pv ((E3.ro (r4.1.getD (0 + k13) []))), .pv (.raw (.int .i64 (l17.getD (0 + k47) 0)))]) (ps := [(r4.1.getD (0 + k13) []).length = (r4.1.getD (0 + k13) []).length, ∀ i, i < (r4.1.getD (0 + k13) []).length → ∀ j, j < 1 → E3.cf ((r4.1.getD (0 + k13) []).getD i E3.z) j = E3.cf ((r4.1.getD (0 + k13) []).getD i E3.z) j, ((l17.getD (0 + k47) 0) : Int) = (l17.getD (0 + k47) 0)]) (hb' := []) (by kernel_rfl) (slices_Contains_int_ok _ _ _ e51 (al := true)) (by kernel_rfl) ⟨rfl, fun _ _ _ _ => rfl, rfl, trivial⟩ (fun _ => (by kernel_rfl)) (by simp) rfl (by kernel_rfl) ?_
                              refine segs [] tabOk mixed 4000 (S := .and (((!r50) = true → ((!r50) = true))) (.and (((!r50) = true → ((!r50) = true))) (.and (((!r50) = true → (0 ≤ ((l17.getD (0 + k47) 0) : Int) ∧ (l17.getD (0 + k47) 0) < ((a2.length : Nat) : Int)))) (.and (((!r50) = true → ((!r50) = true))) (.and (((!r50) = true → ((!r50) = true))) (.and (((!r50) = true → ((!r50) = true))) (.and (((!r50) = true → ((!r50) = true))) (.and (((!r50) = true → (0 ≤ (((r4.1.getD (0 + k13) []).getD k29 0) : Int) ∧ ((r4.1.getD (0 + k13) []).getD k29 0) < ((a2.length : Nat) : Int)))) (.and (((!r50) = true → ((!r50) = true))) (.and (((!r50) = true → ((!r50) = true))) (.and (((!r50) = true → ((!r50) = true))) (.and (((!r50) = true → ((!r50) = true))) (.and ((!r50) = true → (!r50) = true) (.br ((!r50) && (decide (((a2.getD (Int.toNat (l17.getD (0 + k47) 0)) (⟨0, 0, 0⟩ : Api_Thread)).Level : Int) > ((a2.getD (Int.toNat ((r4.1.getD (0 + k13) []).getD k29 0)) (⟨0, 0, 0⟩ : Api_Thread)).Level)))) (.leaf 0) (.leaf 1))))))))))))))) (by kernel_rfl) ?_
                              refine sk_and (fun h => h) ?_
                              refine sk_and (fun h => h) ?_
                              refine gd_ h ?_; clear h; intro g54 h
                              refine sk_and (fun h => h) ?_
                              refine sk_and (fun h => h) ?_
                              refine sk_and (fun h => h) ?_
                              refine sk_and (fun h => h) ?_
                              refine gd_ h ?_; clear h; intro g59 h
                              refine sk_and (fun h => h) ?_
                              refine sk_and (fun h => h) ?_
                              refine sk_and (fun h => h) ?_
                              refine sk_and (fun h => h) ?_
                              refine sk_and (fun h => h) ?_
                              refine br_ h ?_ ?_ <;> clear h <;> intro c65 h
                              · refine sk_leaf ?_
                                obtain rfl := some_ h
                                exact end_ok [] Try.results4 (ps := [false = false]) (by kernel_rfl) ⟨rfl, trivial⟩ (fun _ => ⟨rfl, by simp⟩)
                              · refine sk_leaf ?_
                                refine back_ok (p := p5) (by kernel_rfl) (hp5 (n5, k47 + 1) _ h (Nat.lt_succ_self n5) ?_)
                                exact sub_ok (ρ := (rI 0 0 3)) (l := [(a0 : Int) = a0, a2.length = a2.length, ∀ i, i < a2.length → ∀ j, j < 3 → E25.cf (a2.getD i E25.z) j = E25.cf (a2.getD i E25.z) j, (a3 : Int) = a3, false = false, 0 = 0, r4.1.length = r4.1.length, 0 = 0, l14.length = l14.length, (r4.1.getD (0 + k13) []).length = (r4.1.getD (0 + k13) []).length, ∀ i, i < (r4.1.getD (0 + k13) []).length → ∀ j, j < 1 → E3.cf ((r4.1.getD (0 + k13) []).getD i E3.z) j = E3.cf ((r4.1.getD (0 + k13) []).getD i E3.z) j, 0 = 0, l17.length = l17.length, (((r4.1.getD (0 + k13) []).getD k29 0) : Int) = ((r4.1.getD (0 + k13) []).getD k29 0), 0 = 0, r4.1.length = r4.1.length, (((r4.1.length : Nat) : Int) : Int) = ((r4.1.length : Nat) : Int), (((k13 : Nat) : Int) : Int) = ((k13 : Nat) : Int), (r4.1.getD (0 + k13) []).length = (r4.1.getD (0 + k13) []).length, ∀ i, i < (r4.1.getD (0 + k13) []).length → ∀ j, j < 1 → E3.cf ((r4.1.getD (0 + k13) []).getD i E3.z) j = E3.cf ((r4.1.getD (0 + k13) []).getD i E3.z) j, ((((r4.1.getD (0 + k13) []).length : Nat) : Int) : Int) = (((r4.1.getD (0 + k13) []).length : Nat) : Int), (((k29 : Nat) : Int) : Int) = ((k29 : Nat) : Int), 0 = 0, l17.length = l17.length, (((l17.length : Nat) : Int) : Int) = ((l17.length : Nat) : Int), ((IntKind.i64.wrap (((k47 : Nat) : Int) + 1)) : Int) = (((k47 + 1) : Nat) : Int), E30.cR r4.1 = E30.cR r4.1, AllPv (E30.cR r4.1), E3.cR l14 = E3.cR l14, AllPv (E3.cR l14), E3.cR l17 = E3.cR l17, AllPv (E3.cR l17)]) (by kernel_rfl) ⟨rfl, rfl, fun _ _ _ _ => rfl, rfl, rfl, rfl, rfl, rfl, rfl, rfl, fun _ _ _ _ => rfl, rfl, rfl, rfl, rfl, rfl, rfl, rfl, rfl, fun _ _ _ _ => rfl, rfl, rfl, rfl, rfl, rfl, (wrap_nat (Int.ofNat_lt.1 (of_decide_eq_true c48)) (by omega)), rfl, (Elem.cR_pv _ _), rfl, (Elem.cR_pv _ _), rfl, (Elem.cR_pv _ _), trivial⟩
                            · replace h := (congrFun hK5_0 k47).symm.trans h
                              refine sk_leaf ?_
                              refine back_ok (p := p4) (by kernel_rfl) (hp4 (n4, k29 + 1) _ h (Nat.lt_succ_self n4) ?_)
                              exact sub_ok (ρ := (rI 0 0 3)) (l := [(a0 : Int) = a0, a2.length = a2.length, ∀ i, i < a2.length → ∀ j, j < 3 → E25.cf (a2.getD i E25.z) j = E25.cf (a2.getD i E25.z) j, (a3 : Int) = a3, false = false, 0 = 0, r4.1.length = r4.1.length, 0 = 0, l14.length = l14.length, (r4.1.getD (0 + k13) []).length = (r4.1.getD (0 + k13) []).length, ∀ i, i < (r4.1.getD (0 + k13) []).length → ∀ j, j < 1 → E3.cf ((r4.1.getD (0 + k13) []).getD i E3.z) j = E3.cf ((r4.1.getD (0 + k13) []).getD i E3.z) j, 0 = 0, l17.length = l17.length, 0 = 0, r4.1.length = r4.1.length, (((r4.1.length : Nat) : Int) : Int) = ((r4.1.length : Nat) : Int), (((k13 : Nat) : Int) : Int) = ((k13 : Nat) : Int), (r4.1.getD (0 + k13) []).length = (r4.1.getD (0 + k13) []).length, ∀ i, i < (r4.1.getD (0 + k13) []).length → ∀ j, j < 1 → E3.cf ((r4.1.getD (0 + k13) []).getD i E3.z) j = E3.cf ((r4.1.getD (0 + k13) []).getD i E3.z) j, ((((r4.1.getD (0 + k13) []).length : Nat) : Int) : Int) = (((r4.1.getD (0 + k13) []).length : Nat) : Int), ((IntKind.i64.wrap (((k29 : Nat) : Int) + 1)) : Int) = (((k29 + 1) : Nat) : Int), E30.cR r4.1 = E30.cR r4.1, AllPv (E30.cR r4.1), E3.cR l14 = E3.cR l14, AllPv (E3.cR l14), E3.cR l17 = E3.cR l17, AllPv (E3.cR l17)]) (by kernel_rfl) ⟨rfl, rfl, fun _ _ _ _ => rfl, rfl, rfl, rfl, rfl, rfl, rfl, rfl, fun _ _ _ _ => rfl, rfl, rfl, rfl, rfl, rfl, rfl, rfl, fun _ _ _ _ => rfl, rfl, (wrap_nat (Int.ofNat_lt.1 (of_decide_eq_true c30)) (by omega)), rfl, (Elem.cR_pv _ _), rfl, (Elem.cR_pv _ _), rfl, (Elem.cR_pv _ _), trivial⟩
                      · replace h := (congrFun hK4_0 k29).symm.trans h
                        refine sk_leaf ?_
                        refine len_ro (by kernel_rfl) 2 (s := 3) (n := a2.length) (c := fun i j => E25.cf (a2.getD i E25.z) j) (by kernel_rfl) ?_; intro hl6_0
                        refine len_ro (by kernel_rfl) 142 (s := 1) (n := (r4.1.getD (0 + k13) []).length) (c := fun i j => E3.cf ((r4.1.getD (0 + k13) []).getD i E3.z) j) (by kernel_rfl) ?_; intro hl6_1
                        refine len_row (by kernel_rfl) 0 (e := 30) (s := 1) (n := r4.1.length) (cs := E30.cR r4.1) (by kernel_rfl) (Elem.cR_length _ _) ?_; intro hl6_2
                        refine len_row (by kernel_rfl) 1 (e := 3) (s := 1) (n := l14.length) (cs := E3.cR l14) (by kernel_rfl) (Elem.cR_length _ _) ?_; intro hl6_3
                        refine len_row (by kernel_rfl) 2 (e := 3) (s := 1) (n := l17.length) (cs := E3.cR l17) (by kernel_rfl) (Elem.cR_length _ _) ?_; intro hl6_4
                        obtain ⟨K6_0, hK6_0, h⟩ : ∃ (K6_0 : Nat → (List Int) → Option (Bool)), K6_0 = (fun (k66 : Nat) (l67 : List Int) => keep_CoresBusy_l2 a0 a2 a3 r4 l9 n2 (k13 + 1) l67 ) ∧ keep_CoresBusy_l6 r4 k13 l14 K6_0 FUEL 0 l14 = some r := ⟨_, rfl, h⟩
                        replace h : (fun (x : Nat × Nat × List Int) => keep_CoresBusy_l6 r4 k13 l14 K6_0 x.1 x.2.1 x.2.2 = some r) (FUEL, 0, l14) := h
                        refine loop_ok (by kernel_rfl) (X := Nat × Nat × List Int) (fun x => keep_CoresBusy_l6 r4 k13 l14 K6_0 x.1 x.2.1 x.2.2 = some r) (fun x => x.1) (fun x => mk 160 [(0, .pv (.raw (.int .i64 a0))), (2, .pv ((E25.ro a2))), (3, .pv (.raw (.int .i64 a3))), (8, .pv (.raw (.bool false))), (9, .row 0 1 0 r4.1.length), (11, .row 1 1 0 x.2.2.length), (56, .row 0 1 0 r4.1.length), (57, .pv (.raw (.int .i64 ((r4.1.length : Nat) : Int)))), (58, .pv (.raw (.int .i64 ((k13 : Nat) : Int)))), (142, .pv ((E3.ro (r4.1.getD (0 + k13) [])))), (143, .pv (.raw (.int .i64 (((r4.1.getD (0 + k13) []).length : Nat) : Int)))), (144, .pv (.raw (.int .i64 ((x.2.1 : Nat) : Int))))] [(0, .row 30 1 (E30.cR r4.1)), (1, .row 3 1 (E3.cR x.2.2))]) (FUEL, 0, l14) h ?_ ?_
                        · exact sub_ok (ρ := [(0, some 0), (1, some 1)]) (l := ([(a0 : Int) = a0, a2.length = a2.length, ∀ i, i < a2.length → ∀ j, j < 3 → E25.cf (a2.getD i E25.z) j = E25.cf (a2.getD i E25.z) j, (a3 : Int) = a3, false = false] ++ (pL ([r4.1.length, l14.length, r4.1.length]) ++ ([(((r4.1.length : Nat) : Int) : Int) = ((r4.1.length : Nat) : Int), (((k13 : Nat) : Int) : Int) = ((k13 : Nat) : Int), (r4.1.getD (0 + k13) []).length = (r4.1.getD (0 + k13) []).length, ∀ i, i < (r4.1.getD (0 + k13) []).length → ∀ j, j < 1 → E3.cf ((r4.1.getD (0 + k13) []).getD i E3.z) j = E3.cf ((r4.1.getD (0 + k13) []).getD i E3.z) j, ((((r4.1.getD (0 + k13) []).length : Nat) : Int) : Int) = (((r4.1.getD (0 + k13) []).length : Nat) : Int), (0 : Int) = ((0 : Nat) : Int), E30.cR r4.1 = E30.cR r4.1, AllPv (E30.cR r4.1), E3.cR l14 = E3.cR l14, AllPv (E3.cR l14)])))) (by kernel_rfl) (allP_app ⟨rfl, rfl, fun _ _ _ _ => rfl, rfl, rfl, trivial⟩ (allP_app (pL_ok _) ⟨rfl, rfl, rfl, fun _ _ _ _ => rfl, rfl, (by first | rfl | simp), rfl, (Elem.cR_pv _ _), rfl, (Elem.cR_pv _ _), trivial⟩))
                        · clear h; rintro ⟨n6, k66, l67⟩ h p6 hp6
                          obtain _ | n6 := n6
                          · cases (show (none : Option (Bool)) = some r from h)
                          have h : keep_CoresBusy_l6 r4 k13 l14 K6_0 (n6 + 1) k66 l67 = some r := h
                          unfold keep_CoresBusy_l6 at h
                          refine segs [] tabOk mixed 4000 (S := .br (decide ((((k66 : Nat) : Int) : Int) < (((r4.1.getD (0 + k13) []).length : Nat) : Int))) (.and (0 ≤ (((k66 : Nat) : Int) : Int) ∧ ((k66 : Nat) : Int) < (((r4.1.getD (0 + k13) []).length : Nat) : Int)) (.and (0 ≤ (((r4.1.getD (0 + k13) []).getD k66 0) : Int) ∧ ((r4.1.getD (0 + k13) []).getD k66 0) < ((l67.length : Nat) : Int)) (.leaf 0))) (.leaf 1)) (by kernel_rfl) ?_
                          refine br_ h ?_ ?_ <;> clear h <;> intro c68 h
                          · refine sk_and ⟨Int.natCast_nonneg _, of_decide_eq_true c68⟩ ?_
                            refine gd_ h ?_; clear h; intro g70 h
                            refine sk_leaf ?_
                            refine ld_ok (d := 151) (id := 1) (i := (0 + (Int.toNat ((r4.1.getD (0 + k13) []).getD k66 0)))) (j := 0) (e := 3) (n := 1) E3 (xs := l67) (by kernel_rfl) (by kernel_rfl) (by first | omega | (simp at * <;> omega) | (simp_all <;> omega)) (by exact Nat.le_of_ble_eq_true rfl) ?_
                            refine segs [] tabOk mixed 4000 (S := .and (0 ≤ (((r4.1.getD (0 + k13) []).getD k66 0) : Int) ∧ ((r4.1.getD (0 + k13) []).getD k66 0) < ((l67.length : Nat) : Int)) (.leaf 0)) (by kernel_rfl) ?_
                            refine gd_ h ?_; clear h; intro g71 h
                            refine sk_leaf ?_
                            refine st_ok (id := 1) (i := (0 + (Int.toNat ((r4.1.getD (0 + k13) []).getD k66 0)))) (j := 0) (e := 3) (vs := [.pv (.raw (.int .i64 (IntKind.i64.wrap ((l67.getD (0 + (Int.toNat ((r4.1.getD (0 + k13) []).getD k66 0))) 0) - 1))))]) E3 (xs := l67) (IntKind.i64.wrap ((l67.getD (0 + (Int.toNat ((r4.1.getD (0 + k13) []).getD k66 0))) 0) - 1)) (by kernel_rfl) (by kernel_rfl) (by first | omega | (simp at * <;> omega) | (simp_all <;> omega)) (by exact Nat.le_of_ble_eq_true rfl) rfl ?_
                            refine segs [] tabOk mixed 4000 (S := .leaf 0) (by kernel_rfl) ?_
                            refine sk_leaf ?_
                            refine back_ok (p := p6) (by kernel_rfl) (hp6 (n6, k66 + 1, (l67.set (0 + (Int.toNat ((r4.1.getD (0 + k13) []).getD k66 0))) (IntKind.i64.wrap ((l67.getD (0 + (Int.toNat ((r4.1.getD (0 + k13) []).getD k66 0))) 0) - 1)))) _ h (Nat.lt_succ_self n6) ?_)
                            exact sub_ok (ρ := [(0, some 0), (1, some 1)]) (l := [(a0 : Int) = a0, a2.length = a2.length, ∀ i, i < a2.length → ∀ j, j < 3 → E25.cf (a2.getD i E25.z) j = E25.cf (a2.getD i E25.z) j, (a3 : Int) = a3, false = false, 0 = 0, r4.1.length = r4.1.length, 0 = 0, l67.length = ((l67.set (0 + (Int.toNat ((r4.1.getD (0 + k13) []).getD k66 0))) (IntKind.i64.wrap ((l67.getD (0 + (Int.toNat ((r4.1.getD (0 + k13) []).getD k66 0))) 0) - 1))).length), 0 = 0, r4.1.length = r4.1.length, (((r4.1.length : Nat) : Int) : Int) = ((r4.1.length : Nat) : Int), (((k13 : Nat) : Int) : Int) = ((k13 : Nat) : Int), (r4.1.getD (0 + k13) []).length = (r4.1.getD (0 + k13) []).length, ∀ i, i < (r4.1.getD (0 + k13) []).length → ∀ j, j < 1 → E3.cf ((r4.1.getD (0 + k13) []).getD i E3.z) j = E3.cf ((r4.1.getD (0 + k13) []).getD i E3.z) j, ((((r4.1.getD (0 + k13) []).length : Nat) : Int) : Int) = (((r4.1.getD (0 + k13) []).length : Nat) : Int), ((IntKind.i64.wrap (((k66 : Nat) : Int) + 1)) : Int) = (((k66 + 1) : Nat) : Int), E30.cR r4.1 = E30.cR r4.1, AllPv (E30.cR r4.1), E3.cR (l67.set (0 + (Int.toNat ((r4.1.getD (0 + k13) []).getD k66 0))) (IntKind.i64.wrap ((l67.getD (0 + (Int.toNat ((r4.1.getD (0 + k13) []).getD k66 0))) 0) - 1))) = E3.cR (l67.set (0 + (Int.toNat ((r4.1.getD (0 + k13) []).getD k66 0))) (IntKind.i64.wrap ((l67.getD (0 + (Int.toNat ((r4.1.getD (0 + k13) []).getD k66 0))) 0) - 1))), AllPv (E3.cR (l67.set (0 + (Int.toNat ((r4.1.getD (0 + k13) []).getD k66 0))) (IntKind.i64.wrap ((l67.getD (0 + (Int.toNat ((r4.1.getD (0 + k13) []).getD k66 0))) 0) - 1))))]) (by kernel_rfl) ⟨rfl, rfl, fun _ _ _ _ => rfl, rfl, rfl, rfl, rfl, rfl, (by first | rfl | (simp; done) | omega | (simp <;> omega)), rfl, rfl, rfl, rfl, rfl, fun _ _ _ _ => rfl, rfl, (wrap_nat (Int.ofNat_lt.1 (of_decide_eq_true c68)) (by omega)), rfl, (Elem.cR_pv _ _), rfl, (Elem.cR_pv _ _), trivial⟩
                          · replace h := (congrFun (congrFun hK6_0 k66) l67).symm.trans h
                            refine sk_leaf ?_
                            refine back_ok (p := p2) (by kernel_rfl) (hp2 (n2, k13 + 1, l67) _ h (Nat.lt_succ_self n2) ?_)
                            exact sub_ok (ρ := [(0, some 0), (1, some 1)]) (l := ([(a0 : Int) = a0, a2.length = a2.length, ∀ i, i < a2.length → ∀ j, j < 3 → E25.cf (a2.getD i E25.z) j = E25.cf (a2.getD i E25.z) j, (a3 : Int) = a3, false = false] ++ (pL ([r4.1.length, l67.length, r4.1.length]) ++ ([(((r4.1.length : Nat) : Int) : Int) = ((r4.1.length : Nat) : Int), ((IntKind.i64.wrap (((k13 : Nat) : Int) + 1)) : Int) = (((k13 + 1) : Nat) : Int), E30.cR r4.1 = E30.cR r4.1, AllPv (E30.cR r4.1), E3.cR l67 = E3.cR l67, AllPv (E3.cR l67)])))) (by kernel_rfl) (allP_app ⟨rfl, rfl, fun _ _ _ _ => rfl, rfl, rfl, trivial⟩ (allP_app (pL_ok _) ⟨rfl, (wrap_nat (Int.ofNat_lt.1 (of_decide_eq_true c15)) (by omega)), rfl, (Elem.cR_pv _ _), rfl, (Elem.cR_pv _ _), trivial⟩))
            · refine sk_leaf ?_
              obtain rfl := some_ h
              exact end_ok [] Try.results4 (ps := [((((r4.1.length : Nat) : Int) : Int) == a3) = ((((r4.1.length : Nat) : Int) : Int) == a3)]) (by kernel_rfl) ⟨rfl, trivial⟩ (fun _ => ⟨rfl, by simp⟩)

set_option maxHeartbeats 40000000 in
set_option maxRecDepth 100000 in
theorem keep_CoresDone_ok (a0 : Int) (a1 : Int) (a2 : (List Api_Thread)) (r : Bool) (h : keep_CoresDone a0 a1 a2 = some r) {al : Bool} : PCalls Try.prog 3 [.pv (.raw (.int .i64 a0)), .pv (.raw (.int .i64 a1)), .pv ((E25.ro a2))] al (.pv (.raw (.bool r))) [] := by
  unfold keep_CoresDone at h
  refine fn_ok tabOk Try.func3 (by kernel_rfl) (by kernel_rfl) Try.ntmps3 (by simp) ?_
  refine segs [] tabOk mixed 4000 (S := .leaf 0) (by kernel_rfl) ?_
  refine sk_leaf ?_
  obtain ⟨r1, e2, h⟩ := bd_ h
  refine call_ok (d := some 21) (fn := 7) (ax := []) (args := []) (ps := []) (hb' := []) (by kernel_rfl) (keep_alive14_ok  _ e2 (al := true)) (by kernel_rfl) trivial (fun _ => (by kernel_rfl)) (by simp) rfl (by kernel_rfl) ?_
  refine segs [] tabOk mixed 4000 (S := .br (!r1) (.leaf 0) (.leaf 1)) (by kernel_rfl) ?_
  refine br_ h ?_ ?_ <;> clear h <;> intro c3 h
  · refine sk_leaf ?_
    obtain rfl := some_ h
    exact end_ok [] Try.results3 (ps := [false = false]) (by kernel_rfl) ⟨rfl, trivial⟩ (fun _ => ⟨rfl, by simp⟩)
  · refine sk_leaf ?_
    refine len_ro (by kernel_rfl) 2 (s := 3) (n := a2.length) (c := fun i j => E25.cf (a2.getD i E25.z) j) (by kernel_rfl) ?_; intro hl1_0
    refine len_ro (by kernel_rfl) 23 (s := 3) (n := a2.length) (c := fun i j => E25.cf (a2.getD i E25.z) j) (by kernel_rfl) ?_; intro hl1_1
    replace h : (fun (x : Nat × Int × Nat) => keep_CoresDone_l1 a0 a1 a2 x.1 x.2.1 x.2.2 = some r) (FUEL, 0, 0) := h
    refine loop_ok (by kernel_rfl) (X := Nat × Int × Nat) (fun x => keep_CoresDone_l1 a0 a1 a2 x.1 x.2.1 x.2.2 = some r) (fun x => x.1) (fun x => mk 119 [(0, .pv (.raw (.int .i64 a0))), (1, .pv (.raw (.int .i64 a1))), (2, .pv ((E25.ro a2))), (6, .pv (.raw (.bool false))), (7, .pv (.raw (.int .i64 x.2.1))), (23, .pv ((E25.ro a2))), (24, .pv (.raw (.int .i64 ((a2.length : Nat) : Int)))), (25, .pv (.raw (.int .i64 ((x.2.2 : Nat) : Int))))] []) (FUEL, 0, 0) h ?_ ?_
    · exact sub_ok (ρ := []) (l := [(a0 : Int) = a0, (a1 : Int) = a1, a2.length = a2.length, ∀ i, i < a2.length → ∀ j, j < 3 → E25.cf (a2.getD i E25.z) j = E25.cf (a2.getD i E25.z) j, false = false, (0 : Int) = 0, a2.length = a2.length, ∀ i, i < a2.length → ∀ j, j < 3 → E25.cf (a2.getD i E25.z) j = E25.cf (a2.getD i E25.z) j, (((a2.length : Nat) : Int) : Int) = ((a2.length : Nat) : Int), (0 : Int) = ((0 : Nat) : Int)]) (by kernel_rfl) ⟨rfl, rfl, rfl, fun _ _ _ _ => rfl, rfl, rfl, rfl, fun _ _ _ _ => rfl, rfl, (by first | rfl | simp), trivial⟩
    · clear h; rintro ⟨n1, x4, k5⟩ h p1 hp1
      obtain _ | n1 := n1
      · cases (show (none : Option (Bool)) = some r from h)
      have h : keep_CoresDone_l1 a0 a1 a2 (n1 + 1) x4 k5 = some r := h
      unfold keep_CoresDone_l1 at h
      refine segs [] tabOk mixed 4000 (S := .br (decide ((((k5 : Nat) : Int) : Int) < ((a2.length : Nat) : Int))) (.and (0 ≤ (((k5 : Nat) : Int) : Int) ∧ ((k5 : Nat) : Int) < ((a2.length : Nat) : Int)) (.and (((!(decide (((a2.getD k5 (⟨0, 0, 0⟩ : Api_Thread)).Come : Int) < 0))) = true → ((!(decide (((a2.getD k5 (⟨0, 0, 0⟩ : Api_Thread)).Come : Int) < 0))) = true))) (.and (((!(decide (((a2.getD k5 (⟨0, 0, 0⟩ : Api_Thread)).Come : Int) < 0))) = true → ((!(decide (((a2.getD k5 (⟨0, 0, 0⟩ : Api_Thread)).Come : Int) < 0))) = true))) (.and ((decide (((a2.getD k5 (⟨0, 0, 0⟩ : Api_Thread)).Come : Int) < 0)) = false → (!(decide (((a2.getD k5 (⟨0, 0, 0⟩ : Api_Thread)).Come : Int) < 0))) = true) (.and (((!((decide (((a2.getD k5 (⟨0, 0, 0⟩ : Api_Thread)).Come : Int) < 0)) || (decide (((a2.getD k5 (⟨0, 0, 0⟩ : Api_Thread)).Work : Int) < 0)))) = true → ((!((decide (((a2.getD k5 (⟨0, 0, 0⟩ : Api_Thread)).Come : Int) < 0)) || (decide (((a2.getD k5 (⟨0, 0, 0⟩ : Api_Thread)).Work : Int) < 0)))) = true))) (.and (((!((decide (((a2.getD k5 (⟨0, 0, 0⟩ : Api_Thread)).Come : Int) < 0)) || (decide (((a2.getD k5 (⟨0, 0, 0⟩ : Api_Thread)).Work : Int) < 0)))) = true → ((!((decide (((a2.getD k5 (⟨0, 0, 0⟩ : Api_Thread)).Come : Int) < 0)) || (decide (((a2.getD k5 (⟨0, 0, 0⟩ : Api_Thread)).Work : Int) < 0)))) = true))) (.and (((decide (((a2.getD k5 (⟨0, 0, 0⟩ : Api_Thread)).Come : Int) < 0)) || (decide (((a2.getD k5 (⟨0, 0, 0⟩ : Api_Thread)).Work : Int) < 0))) = false → (!((decide (((a2.getD k5 (⟨0, 0, 0⟩ : Api_Thread)).Come : Int) < 0)) || (decide (((a2.getD k5 (⟨0, 0, 0⟩ : Api_Thread)).Work : Int) < 0)))) = true) (.and (((!(((decide (((a2.getD k5 (⟨0, 0, 0⟩ : Api_Thread)).Come : Int) < 0)) || (decide (((a2.getD k5 (⟨0, 0, 0⟩ : Api_Thread)).Work : Int) < 0))) || (decide (((a2.getD k5 (⟨0, 0, 0⟩ : Api_Thread)).Come : Int) > 300)))) = true → ((!(((decide (((a2.getD k5 (⟨0, 0, 0⟩ : Api_Thread)).Come : Int) < 0)) || (decide (((a2.getD k5 (⟨0, 0, 0⟩ : Api_Thread)).Work : Int) < 0))) || (decide (((a2.getD k5 (⟨0, 0, 0⟩ : Api_Thread)).Come : Int) > 300)))) = true))) (.and (((!(((decide (((a2.getD k5 (⟨0, 0, 0⟩ : Api_Thread)).Come : Int) < 0)) || (decide (((a2.getD k5 (⟨0, 0, 0⟩ : Api_Thread)).Work : Int) < 0))) || (decide (((a2.getD k5 (⟨0, 0, 0⟩ : Api_Thread)).Come : Int) > 300)))) = true → ((!(((decide (((a2.getD k5 (⟨0, 0, 0⟩ : Api_Thread)).Come : Int) < 0)) || (decide (((a2.getD k5 (⟨0, 0, 0⟩ : Api_Thread)).Work : Int) < 0))) || (decide (((a2.getD k5 (⟨0, 0, 0⟩ : Api_Thread)).Come : Int) > 300)))) = true))) (.and ((((decide (((a2.getD k5 (⟨0, 0, 0⟩ : Api_Thread)).Come : Int) < 0)) || (decide (((a2.getD k5 (⟨0, 0, 0⟩ : Api_Thread)).Work : Int) < 0))) || (decide (((a2.getD k5 (⟨0, 0, 0⟩ : Api_Thread)).Come : Int) > 300))) = false → (!(((decide (((a2.getD k5 (⟨0, 0, 0⟩ : Api_Thread)).Come : Int) < 0)) || (decide (((a2.getD k5 (⟨0, 0, 0⟩ : Api_Thread)).Work : Int) < 0))) || (decide (((a2.getD k5 (⟨0, 0, 0⟩ : Api_Thread)).Come : Int) > 300)))) = true) (.br ((((decide (((a2.getD k5 (⟨0, 0, 0⟩ : Api_Thread)).Come : Int) < 0)) || (decide (((a2.getD k5 (⟨0, 0, 0⟩ : Api_Thread)).Work : Int) < 0))) || (decide (((a2.getD k5 (⟨0, 0, 0⟩ : Api_Thread)).Come : Int) > 300))) || (decide (((a2.getD k5 (⟨0, 0, 0⟩ : Api_Thread)).Work : Int) > 30))) (.leaf 0) (.leaf 1)))))))))))) (.leaf 2)) (by kernel_rfl) ?_
      refine br_ h ?_ ?_ <;> clear h <;> intro c6 h
      · refine sk_and ⟨Int.natCast_nonneg _, of_decide_eq_true c6⟩ ?_
        refine sk_and (fun h => h) ?_
        refine sk_and (fun h => h) ?_
        refine sk_and ((by decide : ∀ y0 : Bool, ((y0 = false) → ((!y0) = true))) (decide (((a2.getD k5 (⟨0, 0, 0⟩ : Api_Thread)).Come : Int) < 0))) ?_
        refine sk_and (fun h => h) ?_
        refine sk_and (fun h => h) ?_
        refine sk_and ((by decide : ∀ y0 : Bool, ((y0 = false) → ((!y0) = true))) ((decide (((a2.getD k5 (⟨0, 0, 0⟩ : Api_Thread)).Come : Int) < 0)) || (decide (((a2.getD k5 (⟨0, 0, 0⟩ : Api_Thread)).Work : Int) < 0)))) ?_
        refine sk_and (fun h => h) ?_
        refine sk_and (fun h => h) ?_
        refine sk_and ((by decide : ∀ y0 : Bool, ((y0 = false) → ((!y0) = true))) (((decide (((a2.getD k5 (⟨0, 0, 0⟩ : Api_Thread)).Come : Int) < 0)) || (decide (((a2.getD k5 (⟨0, 0, 0⟩ : Api_Thread)).Work : Int) < 0))) || (decide (((a2.getD k5 (⟨0, 0, 0⟩ : Api_Thread)).Come : Int) > 300)))) ?_
        refine br_ h ?_ ?_ <;> clear h <;> intro c17 h
        · refine sk_leaf ?_
          obtain rfl := some_ h
          exact end_ok [] Try.results3 (ps := [true = true]) (by kernel_rfl) ⟨rfl, trivial⟩ (fun _ => ⟨rfl, by simp⟩)
        · refine sk_leaf ?_
          refine back_ok (p := p1) (by kernel_rfl) (hp1 (n1, (if ((a2.getD k5 (⟨0, 0, 0⟩ : Api_Thread)).Come : Int) > x4 then ((a2.getD k5 (⟨0, 0, 0⟩ : Api_Thread)).Come) else x4), k5 + 1) _ h (Nat.lt_succ_self n1) ?_)
          exact sub_ok (ρ := []) (l := [(a0 : Int) = a0, (a1 : Int) = a1, a2.length = a2.length, ∀ i, i < a2.length → ∀ j, j < 3 → E25.cf (a2.getD i E25.z) j = E25.cf (a2.getD i E25.z) j, false = false, ((if ((a2.getD k5 (⟨0, 0, 0⟩ : Api_Thread)).Come : Int) > x4 then ((a2.getD k5 (⟨0, 0, 0⟩ : Api_Thread)).Come) else x4) : Int) = (if ((a2.getD k5 (⟨0, 0, 0⟩ : Api_Thread)).Come : Int) > x4 then ((a2.getD k5 (⟨0, 0, 0⟩ : Api_Thread)).Come) else x4), a2.length = a2.length, ∀ i, i < a2.length → ∀ j, j < 3 → E25.cf (a2.getD i E25.z) j = E25.cf (a2.getD i E25.z) j, (((a2.length : Nat) : Int) : Int) = ((a2.length : Nat) : Int), ((IntKind.i64.wrap (((k5 : Nat) : Int) + 1)) : Int) = (((k5 + 1) : Nat) : Int)]) (by kernel_rfl) ⟨rfl, rfl, rfl, fun _ _ _ _ => rfl, rfl, rfl, rfl, fun _ _ _ _ => rfl, rfl, (wrap_nat (Int.ofNat_lt.1 (of_decide_eq_true c6)) (by omega)), trivial⟩
      · refine sk_leaf ?_
        refine len_ro (by kernel_rfl) 2 (s := 3) (n := a2.length) (c := fun i j => E25.cf (a2.getD i E25.z) j) (by kernel_rfl) ?_; intro hl2_0
        refine len_ro (by kernel_rfl) 52 (s := 3) (n := a2.length) (c := fun i j => E25.cf (a2.getD i E25.z) j) (by kernel_rfl) ?_; intro hl2_1
        replace h : (fun (x : Nat × Int × Nat) => keep_CoresDone_l2 a0 a1 a2 x4 x.1 x.2.1 x.2.2 = some r) (FUEL, x4, 0) := h
        refine loop_ok (by kernel_rfl) (X := Nat × Int × Nat) (fun x => keep_CoresDone_l2 a0 a1 a2 x4 x.1 x.2.1 x.2.2 = some r) (fun x => x.1) (fun x => mk 119 [(0, .pv (.raw (.int .i64 a0))), (1, .pv (.raw (.int .i64 a1))), (2, .pv ((E25.ro a2))), (6, .pv (.raw (.bool false))), (7, .pv (.raw (.int .i64 x.2.1))), (52, .pv ((E25.ro a2))), (53, .pv (.raw (.int .i64 ((a2.length : Nat) : Int)))), (54, .pv (.raw (.int .i64 ((x.2.2 : Nat) : Int))))] []) (FUEL, x4, 0) h ?_ ?_
        · exact sub_ok (ρ := []) (l := [(a0 : Int) = a0, (a1 : Int) = a1, a2.length = a2.length, ∀ i, i < a2.length → ∀ j, j < 3 → E25.cf (a2.getD i E25.z) j = E25.cf (a2.getD i E25.z) j, false = false, (x4 : Int) = x4, a2.length = a2.length, ∀ i, i < a2.length → ∀ j, j < 3 → E25.cf (a2.getD i E25.z) j = E25.cf (a2.getD i E25.z) j, (((a2.length : Nat) : Int) : Int) = ((a2.length : Nat) : Int), (0 : Int) = ((0 : Nat) : Int)]) (by kernel_rfl) ⟨rfl, rfl, rfl, fun _ _ _ _ => rfl, rfl, rfl, rfl, fun _ _ _ _ => rfl, rfl, (by first | rfl | simp), trivial⟩
        · clear h; rintro ⟨n2, x18, k19⟩ h p2 hp2
          obtain _ | n2 := n2
          · cases (show (none : Option (Bool)) = some r from h)
          have h : keep_CoresDone_l2 a0 a1 a2 x4 (n2 + 1) x18 k19 = some r := h
          unfold keep_CoresDone_l2 at h
          refine segs [] tabOk mixed 4000 (S := .br (decide ((((k19 : Nat) : Int) : Int) < ((a2.length : Nat) : Int))) (.and (0 ≤ (((k19 : Nat) : Int) : Int) ∧ ((k19 : Nat) : Int) < ((a2.length : Nat) : Int)) (.leaf 0)) (.leaf 1)) (by kernel_rfl) ?_
          refine br_ h ?_ ?_ <;> clear h <;> intro c20 h
          · refine sk_and ⟨Int.natCast_nonneg _, of_decide_eq_true c20⟩ ?_
            refine sk_leaf ?_
            refine back_ok (p := p2) (by kernel_rfl) (hp2 (n2, (IntKind.i64.wrap (x18 + ((a2.getD k19 (⟨0, 0, 0⟩ : Api_Thread)).Work))), k19 + 1) _ h (Nat.lt_succ_self n2) ?_)
            exact sub_ok (ρ := []) (l := [(a0 : Int) = a0, (a1 : Int) = a1, a2.length = a2.length, ∀ i, i < a2.length → ∀ j, j < 3 → E25.cf (a2.getD i E25.z) j = E25.cf (a2.getD i E25.z) j, false = false, ((IntKind.i64.wrap (x18 + ((a2.getD k19 (⟨0, 0, 0⟩ : Api_Thread)).Work))) : Int) = (IntKind.i64.wrap (x18 + ((a2.getD k19 (⟨0, 0, 0⟩ : Api_Thread)).Work))), a2.length = a2.length, ∀ i, i < a2.length → ∀ j, j < 3 → E25.cf (a2.getD i E25.z) j = E25.cf (a2.getD i E25.z) j, (((a2.length : Nat) : Int) : Int) = ((a2.length : Nat) : Int), ((IntKind.i64.wrap (((k19 : Nat) : Int) + 1)) : Int) = (((k19 + 1) : Nat) : Int)]) (by kernel_rfl) ⟨rfl, rfl, rfl, fun _ _ _ _ => rfl, rfl, rfl, rfl, fun _ _ _ _ => rfl, rfl, (wrap_nat (Int.ofNat_lt.1 (of_decide_eq_true c20)) (by omega)), trivial⟩
          · refine sk_leaf ?_
            obtain ⟨r22, e23, h⟩ := bd_ h
            refine call_ok (d := some 68) (fn := 8) (ax := [.pv (.raw (.int .i64 a0)), .pv (.raw (.int .i64 a1)), .pv ((E25.ro a2)), .pv (.raw (.int .i64 x18))]) (args := [.pv (.raw (.int .i64 a0)), .pv (.raw (.int .i64 a1)), .pv ((E25.ro a2)), .pv (.raw (.int .i64 x18))]) (ps := [(a0 : Int) = a0, (a1 : Int) = a1, a2.length = a2.length, ∀ i, i < a2.length → ∀ j, j < 3 → E25.cf (a2.getD i E25.z) j = E25.cf (a2.getD i E25.z) j, (x18 : Int) = x18]) (hb' := [.row 30 1 (E30.cR r22.1)]) (by kernel_rfl) (cores_Run_ok _ _ _ _ _ e23 (al := true)) (by kernel_rfl) ⟨rfl, rfl, rfl, fun _ _ _ _ => rfl, rfl, trivial⟩ (fun _ => (by kernel_rfl)) (by simp) (by simp only [List.map_cons, List.map_nil, Elem.row_up, up_map] <;> rfl) (by kernel_rfl) ?_
            refine segs [] tabOk mixed 4000 (S := .br ((r22.2 : Int) != 0) (.leaf 0) (.leaf 1)) (by kernel_rfl) ?_
            refine br_ h ?_ ?_ <;> clear h <;> intro c24 h
            · refine sk_leaf ?_
              obtain rfl := some_ h
              exact end_ok [] Try.results3 (ps := [true = true]) (by kernel_rfl) ⟨rfl, trivial⟩ (fun _ => ⟨rfl, by simp⟩)
            · refine sk_leaf ?_
              obtain ⟨g25, h⟩ := if_ h
              refine mks_ok (d := 75) (e := 3) (s := 1) (b := 8) (n := ((a2.length : Nat) : Int)) (zs := [.pv (.raw (.int .i64 0))]) E3 (by kernel_rfl) (by kernel_rfl) rfl (by kernel_rfl) g25 (by kernel_rfl) ?_
              refine segs [] tabOk mixed 4000 (S := .leaf 0) (by kernel_rfl) ?_
              refine sk_leaf ?_
              refine len_ro (by kernel_rfl) 2 (s := 3) (n := a2.length) (c := fun i j => E25.cf (a2.getD i E25.z) j) (by kernel_rfl) ?_; intro hl3_0
              refine len_row (by kernel_rfl) 20736 (e := 30) (s := 1) (n := r22.1.length) (cs := E30.cR r22.1) (by kernel_rfl) (Elem.cR_length _ _) ?_; intro hl3_1
              refine len_row (by kernel_rfl) 21184 (e := 3) (s := 1) (n := (List.replicate a2.length (0 : Int)).length) (cs := E3.cR (List.replicate a2.length (0 : Int))) (by kernel_rfl) (Elem.cR_length _ _) ?_; intro hl3_2
              replace h : (fun (x : Nat × Nat × List Int) => keep_CoresDone_l3 a2 r22 x.1 x.2.1 x.2.2 = some r) (FUEL, 0, (List.replicate a2.length (0 : Int))) := h
              refine loop_ok (by kernel_rfl) (X := Nat × Nat × List Int) (fun x => keep_CoresDone_l3 a2 r22 x.1 x.2.1 x.2.2 = some r) (fun x => x.1) (fun x => mk 119 [(2, .pv ((E25.ro a2))), (6, .pv (.raw (.bool false))), (14, .row 0 1 0 x.2.2.length), (76, .row 1 1 0 r22.1.length), (77, .pv (.raw (.int .i64 ((r22.1.length : Nat) : Int)))), (78, .pv (.raw (.int .i64 ((x.2.1 : Nat) : Int))))] [(0, .row 3 1 (E3.cR x.2.2)), (1, .row 30 1 (E30.cR r22.1))]) (FUEL, 0, (List.replicate a2.length (0 : Int))) h ?_ ?_
              · exact sub_ok (ρ := [(0, some 21184), (1, some 20736)]) (l := [a2.length = a2.length, ∀ i, i < a2.length → ∀ j, j < 3 → E25.cf (a2.getD i E25.z) j = E25.cf (a2.getD i E25.z) j, false = false, 0 = 0, a2.length = ((List.replicate a2.length (0 : Int)).length), 0 = 0, r22.1.length = r22.1.length, (((r22.1.length : Nat) : Int) : Int) = ((r22.1.length : Nat) : Int), (0 : Int) = ((0 : Nat) : Int), E3.cR (List.replicate a2.length (0 : Int)) = E3.cR (List.replicate a2.length (0 : Int)), AllPv (E3.cR (List.replicate a2.length (0 : Int))), E30.cR r22.1 = E30.cR r22.1, AllPv (E30.cR r22.1)]) (by kernel_rfl) ⟨rfl, fun _ _ _ _ => rfl, rfl, rfl, (by first | rfl | (simp; done) | omega | (simp <;> omega)), rfl, rfl, rfl, (by first | rfl | simp), rfl, (Elem.cR_pv _ _), rfl, (Elem.cR_pv _ _), trivial⟩
              · clear h; rintro ⟨n3, k26, l27⟩ h p3 hp3
                obtain _ | n3 := n3
                · cases (show (none : Option (Bool)) = some r from h)
                have h : keep_CoresDone_l3 a2 r22 (n3 + 1) k26 l27 = some r := h
                unfold keep_CoresDone_l3 at h
                refine segs [] tabOk mixed 4000 (S := .br (decide ((((k26 : Nat) : Int) : Int) < ((r22.1.length : Nat) : Int))) (.and (0 ≤ (((k26 : Nat) : Int) : Int) ∧ ((k26 : Nat) : Int) < ((r22.1.length : Nat) : Int)) (.leaf 0)) (.leaf 1)) (by kernel_rfl) ?_
                refine br_ h ?_ ?_ <;> clear h <;> intro c28 h
                · refine sk_and ⟨Int.natCast_nonneg _, of_decide_eq_true c28⟩ ?_
                  refine sk_leaf ?_
                  refine ld_ok (d := 81) (id := 1) (i := (0 + k26)) (j := 0) (e := 30) (n := 1) E30 (xs := r22.1) (by kernel_rfl) (by kernel_rfl) (by first | omega | (simp at * <;> omega) | (simp_all <;> omega)) (by exact Nat.le_of_ble_eq_true rfl) ?_
                  refine segs [] tabOk mixed 4000 (S := .leaf 0) (by kernel_rfl) ?_
                  refine sk_leaf ?_
                  refine len_ro (by kernel_rfl) 2 (s := 3) (n := a2.length) (c := fun i j => E25.cf (a2.getD i E25.z) j) (by kernel_rfl) ?_; intro hl4_0
                  refine len_ro (by kernel_rfl) 82 (s := 1) (n := (r22.1.getD (0 + k26) []).length) (c := fun i j => E3.cf ((r22.1.getD (0 + k26) []).getD i E3.z) j) (by kernel_rfl) ?_; intro hl4_1
                  refine len_row (by kernel_rfl) 0 (e := 3) (s := 1) (n := l27.length) (cs := E3.cR l27) (by kernel_rfl) (Elem.cR_length _ _) ?_; intro hl4_2
                  refine len_row (by kernel_rfl) 1 (e := 30) (s := 1) (n := r22.1.length) (cs := E30.cR r22.1) (by kernel_rfl) (Elem.cR_length _ _) ?_; intro hl4_3
                  obtain ⟨K4_0, hK4_0, h⟩ : ∃ (K4_0 : Nat → (List Int) → Option (Bool)), K4_0 = (fun (k30 : Nat) (l31 : List Int) => keep_CoresDone_l3 a2 r22 n3 (k26 + 1) l31 ) ∧ keep_CoresDone_l4 a2 r22 k26 l27 K4_0 FUEL 0 l27 = some r := ⟨_, rfl, h⟩
                  replace h : (fun (x : Nat × Nat × List Int) => keep_CoresDone_l4 a2 r22 k26 l27 K4_0 x.1 x.2.1 x.2.2 = some r) (FUEL, 0, l27) := h
                  refine loop_ok (by kernel_rfl) (X := Nat × Nat × List Int) (fun x => keep_CoresDone_l4 a2 r22 k26 l27 K4_0 x.1 x.2.1 x.2.2 = some r) (fun x => x.1) (fun x => mk 119 [(2, .pv ((E25.ro a2))), (6, .pv (.raw (.bool false))), (14, .row 0 1 0 x.2.2.length), (76, .row 1 1 0 r22.1.length), (77, .pv (.raw (.int .i64 ((r22.1.length : Nat) : Int)))), (78, .pv (.raw (.int .i64 ((k26 : Nat) : Int)))), (82, .pv ((E3.ro (r22.1.getD (0 + k26) [])))), (83, .pv (.raw (.int .i64 (((r22.1.getD (0 + k26) []).length : Nat) : Int)))), (84, .pv (.raw (.int .i64 ((x.2.1 : Nat) : Int))))] [(0, .row 3 1 (E3.cR x.2.2)), (1, .row 30 1 (E30.cR r22.1))]) (FUEL, 0, l27) h ?_ ?_
                  · exact sub_ok (ρ := [(0, some 0), (1, some 1)]) (l := [a2.length = a2.length, ∀ i, i < a2.length → ∀ j, j < 3 → E25.cf (a2.getD i E25.z) j = E25.cf (a2.getD i E25.z) j, false = false, 0 = 0, l27.length = l27.length, 0 = 0, r22.1.length = r22.1.length, (((r22.1.length : Nat) : Int) : Int) = ((r22.1.length : Nat) : Int), (((k26 : Nat) : Int) : Int) = ((k26 : Nat) : Int), (r22.1.getD (0 + k26) []).length = (r22.1.getD (0 + k26) []).length, ∀ i, i < (r22.1.getD (0 + k26) []).length → ∀ j, j < 1 → E3.cf ((r22.1.getD (0 + k26) []).getD i E3.z) j = E3.cf ((r22.1.getD (0 + k26) []).getD i E3.z) j, ((((r22.1.getD (0 + k26) []).length : Nat) : Int) : Int) = (((r22.1.getD (0 + k26) []).length : Nat) : Int), (0 : Int) = ((0 : Nat) : Int), E3.cR l27 = E3.cR l27, AllPv (E3.cR l27), E30.cR r22.1 = E30.cR r22.1, AllPv (E30.cR r22.1)]) (by kernel_rfl) ⟨rfl, fun _ _ _ _ => rfl, rfl, rfl, rfl, rfl, rfl, rfl, rfl, rfl, fun _ _ _ _ => rfl, rfl, (by first | rfl | simp), rfl, (Elem.cR_pv _ _), rfl, (Elem.cR_pv _ _), trivial⟩
                  · clear h; rintro ⟨n4, k30, l31⟩ h p4 hp4
                    obtain _ | n4 := n4
                    · cases (show (none : Option (Bool)) = some r from h)
                    have h : keep_CoresDone_l4 a2 r22 k26 l27 K4_0 (n4 + 1) k30 l31 = some r := h
                    unfold keep_CoresDone_l4 at h
                    refine segs [] tabOk mixed 4000 (S := .br (decide ((((k30 : Nat) : Int) : Int) < (((r22.1.getD (0 + k26) []).length : Nat) : Int))) (.and (0 ≤ (((k30 : Nat) : Int) : Int) ∧ ((k30 : Nat) : Int) < (((r22.1.getD (0 + k26) []).length : Nat) : Int)) (.and (((!(decide ((((r22.1.getD (0 + k26) []).getD k30 0) : Int) < 0))) = true → ((!(decide ((((r22.1.getD (0 + k26) []).getD k30 0) : Int) < 0))) = true))) (.and (((!(decide ((((r22.1.getD (0 + k26) []).getD k30 0) : Int) < 0))) = true → ((!(decide ((((r22.1.getD (0 + k26) []).getD k30 0) : Int) < 0))) = true))) (.and (((!(decide ((((r22.1.getD (0 + k26) []).getD k30 0) : Int) < 0))) = true → ((!(decide ((((r22.1.getD (0 + k26) []).getD k30 0) : Int) < 0))) = true))) (.and ((decide ((((r22.1.getD (0 + k26) []).getD k30 0) : Int) < 0)) = false → (!(decide ((((r22.1.getD (0 + k26) []).getD k30 0) : Int) < 0))) = true) (.br ((decide ((((r22.1.getD (0 + k26) []).getD k30 0) : Int) < 0)) || (decide ((((r22.1.getD (0 + k26) []).getD k30 0) : Int) ≥ ((a2.length : Nat) : Int)))) (.leaf 0) (.and (0 ≤ (((r22.1.getD (0 + k26) []).getD k30 0) : Int) ∧ ((r22.1.getD (0 + k26) []).getD k30 0) < ((l31.length : Nat) : Int)) (.leaf 1)))))))) (.leaf 2)) (by kernel_rfl) ?_
                    refine br_ h ?_ ?_ <;> clear h <;> intro c32 h
                    · refine sk_and ⟨Int.natCast_nonneg _, of_decide_eq_true c32⟩ ?_
                      refine sk_and (fun h => h) ?_
                      refine sk_and (fun h => h) ?_
                      refine sk_and (fun h => h) ?_
                      refine sk_and ((by decide : ∀ y0 : Bool, ((y0 = false) → ((!y0) = true))) (decide ((((r22.1.getD (0 + k26) []).getD k30 0) : Int) < 0))) ?_
                      refine br_ h ?_ ?_ <;> clear h <;> intro c38 h
                      · refine sk_leaf ?_
                        obtain rfl := some_ h
                        exact end_ok [] Try.results3 (ps := [false = false]) (by kernel_rfl) ⟨rfl, trivial⟩ (fun _ => ⟨rfl, by simp⟩)
                      · refine gd_ h ?_; clear h; intro g39 h
                        refine sk_leaf ?_
                        refine ld_ok (d := 99) (id := 0) (i := (0 + (Int.toNat ((r22.1.getD (0 + k26) []).getD k30 0)))) (j := 0) (e := 3) (n := 1) E3 (xs := l31) (by kernel_rfl) (by kernel_rfl) (by first | omega | (simp at * <;> omega) | (simp_all <;> omega)) (by exact Nat.le_of_ble_eq_true rfl) ?_
                        refine segs [] tabOk mixed 4000 (S := .and (0 ≤ (((r22.1.getD (0 + k26) []).getD k30 0) : Int) ∧ ((r22.1.getD (0 + k26) []).getD k30 0) < ((l31.length : Nat) : Int)) (.leaf 0)) (by kernel_rfl) ?_
                        refine gd_ h ?_; clear h; intro g40 h
                        refine sk_leaf ?_
                        refine st_ok (id := 0) (i := (0 + (Int.toNat ((r22.1.getD (0 + k26) []).getD k30 0)))) (j := 0) (e := 3) (vs := [.pv (.raw (.int .i64 (IntKind.i64.wrap ((l31.getD (0 + (Int.toNat ((r22.1.getD (0 + k26) []).getD k30 0))) 0) + 1))))]) E3 (xs := l31) (IntKind.i64.wrap ((l31.getD (0 + (Int.toNat ((r22.1.getD (0 + k26) []).getD k30 0))) 0) + 1)) (by kernel_rfl) (by kernel_rfl) (by first | omega | (simp at * <;> omega) | (simp_all <;> omega)) (by exact Nat.le_of_ble_eq_true rfl) rfl ?_
                        refine segs [] tabOk mixed 4000 (S := .leaf 0) (by kernel_rfl) ?_
                        refine sk_leaf ?_
                        refine back_ok (p := p4) (by kernel_rfl) (hp4 (n4, k30 + 1, (l31.set (0 + (Int.toNat ((r22.1.getD (0 + k26) []).getD k30 0))) (IntKind.i64.wrap ((l31.getD (0 + (Int.toNat ((r22.1.getD (0 + k26) []).getD k30 0))) 0) + 1)))) _ h (Nat.lt_succ_self n4) ?_)
                        exact sub_ok (ρ := [(0, some 0), (1, some 1)]) (l := [a2.length = a2.length, ∀ i, i < a2.length → ∀ j, j < 3 → E25.cf (a2.getD i E25.z) j = E25.cf (a2.getD i E25.z) j, false = false, 0 = 0, l31.length = ((l31.set (0 + (Int.toNat ((r22.1.getD (0 + k26) []).getD k30 0))) (IntKind.i64.wrap ((l31.getD (0 + (Int.toNat ((r22.1.getD (0 + k26) []).getD k30 0))) 0) + 1))).length), 0 = 0, r22.1.length = r22.1.length, (((r22.1.length : Nat) : Int) : Int) = ((r22.1.length : Nat) : Int), (((k26 : Nat) : Int) : Int) = ((k26 : Nat) : Int), (r22.1.getD (0 + k26) []).length = (r22.1.getD (0 + k26) []).length, ∀ i, i < (r22.1.getD (0 + k26) []).length → ∀ j, j < 1 → E3.cf ((r22.1.getD (0 + k26) []).getD i E3.z) j = E3.cf ((r22.1.getD (0 + k26) []).getD i E3.z) j, ((((r22.1.getD (0 + k26) []).length : Nat) : Int) : Int) = (((r22.1.getD (0 + k26) []).length : Nat) : Int), ((IntKind.i64.wrap (((k30 : Nat) : Int) + 1)) : Int) = (((k30 + 1) : Nat) : Int), E3.cR (l31.set (0 + (Int.toNat ((r22.1.getD (0 + k26) []).getD k30 0))) (IntKind.i64.wrap ((l31.getD (0 + (Int.toNat ((r22.1.getD (0 + k26) []).getD k30 0))) 0) + 1))) = E3.cR (l31.set (0 + (Int.toNat ((r22.1.getD (0 + k26) []).getD k30 0))) (IntKind.i64.wrap ((l31.getD (0 + (Int.toNat ((r22.1.getD (0 + k26) []).getD k30 0))) 0) + 1))), AllPv (E3.cR (l31.set (0 + (Int.toNat ((r22.1.getD (0 + k26) []).getD k30 0))) (IntKind.i64.wrap ((l31.getD (0 + (Int.toNat ((r22.1.getD (0 + k26) []).getD k30 0))) 0) + 1)))), E30.cR r22.1 = E30.cR r22.1, AllPv (E30.cR r22.1)]) (by kernel_rfl) ⟨rfl, fun _ _ _ _ => rfl, rfl, rfl, (by first | rfl | (simp; done) | omega | (simp <;> omega)), rfl, rfl, rfl, rfl, rfl, fun _ _ _ _ => rfl, rfl, (wrap_nat (Int.ofNat_lt.1 (of_decide_eq_true c32)) (by omega)), rfl, (Elem.cR_pv _ _), rfl, (Elem.cR_pv _ _), trivial⟩
                    · replace h := (congrFun (congrFun hK4_0 k30) l31).symm.trans h
                      refine sk_leaf ?_
                      refine back_ok (p := p3) (by kernel_rfl) (hp3 (n3, k26 + 1, l31) _ h (Nat.lt_succ_self n3) ?_)
                      exact sub_ok (ρ := [(0, some 0), (1, some 1)]) (l := [a2.length = a2.length, ∀ i, i < a2.length → ∀ j, j < 3 → E25.cf (a2.getD i E25.z) j = E25.cf (a2.getD i E25.z) j, false = false, 0 = 0, l31.length = l31.length, 0 = 0, r22.1.length = r22.1.length, (((r22.1.length : Nat) : Int) : Int) = ((r22.1.length : Nat) : Int), ((IntKind.i64.wrap (((k26 : Nat) : Int) + 1)) : Int) = (((k26 + 1) : Nat) : Int), E3.cR l31 = E3.cR l31, AllPv (E3.cR l31), E30.cR r22.1 = E30.cR r22.1, AllPv (E30.cR r22.1)]) (by kernel_rfl) ⟨rfl, fun _ _ _ _ => rfl, rfl, rfl, rfl, rfl, rfl, rfl, (wrap_nat (Int.ofNat_lt.1 (of_decide_eq_true c28)) (by omega)), rfl, (Elem.cR_pv _ _), rfl, (Elem.cR_pv _ _), trivial⟩
                · refine sk_leaf ?_
                  refine len_ro (by kernel_rfl) 104 (s := 3) (n := a2.length) (c := fun i j => E25.cf (a2.getD i E25.z) j) (by kernel_rfl) ?_; intro hl5_0
                  refine len_row (by kernel_rfl) 0 (e := 3) (s := 1) (n := l27.length) (cs := E3.cR l27) (by kernel_rfl) (Elem.cR_length _ _) ?_; intro hl5_1
                  refine len_row (by kernel_rfl) 1 (e := 30) (s := 1) (n := r22.1.length) (cs := E30.cR r22.1) (by kernel_rfl) (Elem.cR_length _ _) ?_; intro hl5_2
                  replace h : (fun (x : Nat × Nat) => keep_CoresDone_l5 a2 l27 x.1 x.2 = some r) (FUEL, 0) := h
                  refine loop_ok (by kernel_rfl) (X := Nat × Nat) (fun x => keep_CoresDone_l5 a2 l27 x.1 x.2 = some r) (fun x => x.1) (fun x => mk 119 [(6, .pv (.raw (.bool false))), (14, .row 0 1 0 l27.length), (104, .pv ((E25.ro a2))), (105, .pv (.raw (.int .i64 ((a2.length : Nat) : Int)))), (106, .pv (.raw (.int .i64 ((x.2 : Nat) : Int))))] [(0, .row 3 1 (E3.cR l27))]) (FUEL, 0) h ?_ ?_
                  · exact sub_ok (ρ := [(0, some 0)]) (l := [false = false, 0 = 0, l27.length = l27.length, a2.length = a2.length, ∀ i, i < a2.length → ∀ j, j < 3 → E25.cf (a2.getD i E25.z) j = E25.cf (a2.getD i E25.z) j, (((a2.length : Nat) : Int) : Int) = ((a2.length : Nat) : Int), (0 : Int) = ((0 : Nat) : Int), E3.cR l27 = E3.cR l27, AllPv (E3.cR l27)]) (by kernel_rfl) ⟨rfl, rfl, rfl, rfl, fun _ _ _ _ => rfl, rfl, (by first | rfl | simp), rfl, (Elem.cR_pv _ _), trivial⟩
                  · clear h; rintro ⟨n5, k41⟩ h p5 hp5
                    obtain _ | n5 := n5
                    · cases (show (none : Option (Bool)) = some r from h)
                    have h : keep_CoresDone_l5 a2 l27 (n5 + 1) k41 = some r := h
                    unfold keep_CoresDone_l5 at h
                    refine segs [] tabOk mixed 4000 (S := .br (decide ((((k41 : Nat) : Int) : Int) < ((a2.length : Nat) : Int))) (.and (0 ≤ (((k41 : Nat) : Int) : Int) ∧ ((k41 : Nat) : Int) < ((a2.length : Nat) : Int)) (.and (0 ≤ (((k41 : Nat) : Int) : Int) ∧ ((k41 : Nat) : Int) < ((l27.length : Nat) : Int)) (.leaf 0))) (.leaf 1)) (by kernel_rfl) ?_
                    refine br_ h ?_ ?_ <;> clear h <;> intro c42 h
                    · refine sk_and ⟨Int.natCast_nonneg _, of_decide_eq_true c42⟩ ?_
                      refine gd_ h ?_; clear h; intro g44 h
                      refine sk_leaf ?_
                      refine ld_ok (d := 114) (id := 0) (i := (0 + k41)) (j := 0) (e := 3) (n := 1) E3 (xs := l27) (by kernel_rfl) (by kernel_rfl) (by first | omega | (simp at * <;> omega) | (simp_all <;> omega)) (by exact Nat.le_of_ble_eq_true rfl) ?_
                      refine segs [] tabOk mixed 4000 (S := .br (((l27.getD (0 + k41) 0) : Int) != ((a2.getD k41 (⟨0, 0, 0⟩ : Api_Thread)).Work)) (.leaf 0) (.leaf 1)) (by kernel_rfl) ?_
                      refine br_ h ?_ ?_ <;> clear h <;> intro c45 h
                      · refine sk_leaf ?_
                        obtain rfl := some_ h
                        exact end_ok [] Try.results3 (ps := [false = false]) (by kernel_rfl) ⟨rfl, trivial⟩ (fun _ => ⟨rfl, by simp⟩)
                      · refine sk_leaf ?_
                        refine back_ok (p := p5) (by kernel_rfl) (hp5 (n5, k41 + 1) _ h (Nat.lt_succ_self n5) ?_)
                        exact sub_ok (ρ := [(0, some 0)]) (l := [false = false, 0 = 0, l27.length = l27.length, a2.length = a2.length, ∀ i, i < a2.length → ∀ j, j < 3 → E25.cf (a2.getD i E25.z) j = E25.cf (a2.getD i E25.z) j, (((a2.length : Nat) : Int) : Int) = ((a2.length : Nat) : Int), ((IntKind.i64.wrap (((k41 : Nat) : Int) + 1)) : Int) = (((k41 + 1) : Nat) : Int), E3.cR l27 = E3.cR l27, AllPv (E3.cR l27)]) (by kernel_rfl) ⟨rfl, rfl, rfl, rfl, fun _ _ _ _ => rfl, rfl, (wrap_nat (Int.ofNat_lt.1 (of_decide_eq_true c42)) (by omega)), rfl, (Elem.cR_pv _ _), trivial⟩
                    · refine sk_leaf ?_
                      obtain rfl := some_ h
                      exact end_ok [] Try.results3 (ps := [true = true]) (by kernel_rfl) ⟨rfl, trivial⟩ (fun _ => ⟨rfl, by simp⟩)

set_option maxRecDepth 100000 in
theorem slices_Clone_int_ok (a0 r : List Int) (h : slices_Clone_int a0 = some r) {al : Bool} : PCalls Try.prog 12 [.pv (E3.ro a0)] al (.row 0 1 0 r.length) [.row 3 1 (E3.cR r)] := by
  unfold slices_Clone_int at h
  obtain ⟨g, h⟩ := if_ h
  obtain rfl := some_ h
  refine fn_ok tabOk Try.func12 (by kernel_rfl) (by kernel_rfl) Try.ntmps12 (by simp) ?_
  refine segs [1] tabOk mixed 4000 (S := .leaf 0) (by kernel_rfl) ?_
  refine sk_leaf ?_
  refine nil_ok (d1 := 3) (d2 := 4) (s := 1) (n := a0.length) (c := fun i j => E3.cf (a0.getD i E3.z) j) tabOk (by kernel_rfl) ?_
  intro b hb
  refine segs [] tabOk mixed 4000 (S := .br b (.leaf 0) (.leaf 1)) (by kernel_rfl) ?_
  refine sk_br ?_ ?_ <;> intro hc <;> refine sk_leaf ?_
  · obtain rfl : a0 = [] := List.eq_nil_of_length_eq_zero (hb hc)
    exact end_ok [(0, none)] Try.results12 (ps := [0 = 0, 0 = 0, E3.cR [] = []]) (by kernel_rfl) ⟨rfl, rfl, rfl, trivial⟩ (fun _ => ⟨rfl, by simp only [List.mem_cons, List.not_mem_nil, or_false, forall_eq]; exact Elem.cR_bald E3_raw _⟩)
  · refine bs_ok (d := 5) (e := 3) (s := 1) (n := 0) (cs := []) (cs' := E3.cR []) (by kernel_rfl) rfl (by kernel_rfl) ?_
    refine segs [] tabOk mixed 4000 (S := .leaf 0) (by kernel_rfl) ?_
    refine sk_leaf ?_
    refine app_ok (d := 7) (e := 3) (s := 1) (b := 8) (x := .row 16704 1 0 0) (y := .pv (E3.ro a0)) E3 (xs := []) (ys := a0) (by kernel_rfl) rfl (.row 16704 [] 0 rfl (by kernel_rfl)) (.ro a0) ⟨by simpa using g, by simp; omega⟩ (by kernel_rfl) ?_
    refine segs [] tabOk mixed 4000 (S := .leaf 0) (by kernel_rfl) ?_
    refine sk_leaf ?_
    exact end_ok [(0, some 16832)] Try.results12 (ps := [0 = 0, a0.length = a0.length, E3.cR a0 = E3.cR a0, AllPv (E3.cR a0)]) (by kernel_rfl) ⟨rfl, rfl, rfl, Elem.cR_pv _ _, trivial⟩ (fun _ => ⟨rfl, by simp only [List.mem_cons, List.not_mem_nil, or_false, forall_eq]; exact Elem.cR_bald E3_raw _⟩)

set_option maxHeartbeats 40000000 in
set_option maxRecDepth 100000 in
theorem keep_CoresAlone_1_ok (a0 : Int) (a1 : (List Int)) (r : Bool) (h : keep_CoresAlone_1 a0 a1 = some r) {al : Bool} : PCalls Try.prog 13 [.pv (.raw (.int .i64 a0)), .roat 1 (fun j => E30.cf a1 j)] al (.pv (.raw (.bool r))) [] := by
  unfold keep_CoresAlone_1 at h
  refine fn_ok tabOk Try.func13 (by kernel_rfl) (by kernel_rfl) Try.ntmps13 (by simp) ?_
  refine segs [] tabOk mixed 4000 (S := .leaf 0) (by kernel_rfl) ?_
  refine sk_leaf ?_
  obtain ⟨r1, e2, h⟩ := bd_ h
  refine call_ok (d := some 6) (fn := 9) (ax := [.pv ((E3.ro a1)), .pv (.raw (.int .i64 a0))]) (args := [.pv ((E3.ro a1)), .pv (.raw (.int .i64 a0))]) (ps := [a1.length = a1.length, ∀ i, i < a1.length → ∀ j, j < 1 → E3.cf (a1.getD i E3.z) j = E3.cf (a1.getD i E3.z) j, (a0 : Int) = a0]) (hb' := []) (by kernel_rfl) (slices_Contains_int_ok _ _ _ e2 (al := true)) (by kernel_rfl) ⟨rfl, fun _ _ _ _ => rfl, rfl, trivial⟩ (fun _ => (by kernel_rfl)) (by simp) rfl (by kernel_rfl) ?_
  refine segs [] tabOk mixed 4000 (S := .leaf 0) (by kernel_rfl) ?_
  refine sk_leaf ?_
  obtain rfl := some_ h
  exact end_ok [] Try.results13 (ps := [(!r1) = (!r1)]) (by kernel_rfl) ⟨rfl, trivial⟩ (fun _ => ⟨rfl, by simp⟩)

set_option maxHeartbeats 40000000 in
set_option maxRecDepth 100000 in
theorem slices_IndexFunc_int_keep_CoresAlone_1_ok (a0 : (List Int)) (a1 : (List Int)) (r : Int) (h : slices_IndexFunc_int_keep_CoresAlone_1 a0 a1 = some r) {al : Bool} : PCalls Try.prog 26 [.pv ((E3.ro a0)), .fn 13 [.roat 1 (fun j => E30.cf a1 j)]] al (.pv (.raw (.int .i64 r))) [] := by
  unfold slices_IndexFunc_int_keep_CoresAlone_1 at h
  refine fn_ok tabOk Try.func26 (by kernel_rfl) (by kernel_rfl) Try.ntmps26 (by simp) ?_
  refine segs [] tabOk mixed 4000 (S := .leaf 0) (by kernel_rfl) ?_
  refine sk_leaf ?_
  refine len_ro (by kernel_rfl) 0 (s := 1) (n := a0.length) (c := fun i j => E3.cf (a0.getD i E3.z) j) (by kernel_rfl) ?_; intro hl1_0
  replace h : (fun (x : Nat × Nat) => slices_IndexFunc_int_keep_CoresAlone_1_l1 a0 a1 x.1 x.2 = some r) (FUEL, 0) := h
  refine loop_ok (by kernel_rfl) (X := Nat × Nat) (fun x => slices_IndexFunc_int_keep_CoresAlone_1_l1 a0 a1 x.1 x.2 = some r) (fun x => x.1) (fun x => mk 19 [(0, .pv ((E3.ro a0))), (1, .fn 13 [.roat 1 (fun j => E30.cf a1 j)]), (4, .pv (.raw (.int .i64 0))), (7, .pv (.raw (.int .i64 ((a0.length : Nat) : Int)))), (8, .pv (.raw (.int .i64 ((x.2 : Nat) : Int))))] []) (FUEL, 0) h ?_ ?_
  · exact sub_ok (ρ := []) (l := [a0.length = a0.length, ∀ i, i < a0.length → ∀ j, j < 1 → E3.cf (a0.getD i E3.z) j = E3.cf (a0.getD i E3.z) j, a1.length = a1.length, ∀ i, i < a1.length → ∀ j, j < 1 → E3.cf (a1.getD i E3.z) j = E3.cf (a1.getD i E3.z) j, (0 : Int) = 0, (((a0.length : Nat) : Int) : Int) = ((a0.length : Nat) : Int), (0 : Int) = ((0 : Nat) : Int)]) (by kernel_rfl) ⟨rfl, fun _ _ _ _ => rfl, rfl, fun _ _ _ _ => rfl, rfl, rfl, (by first | rfl | simp), trivial⟩
  · clear h; rintro ⟨n1, k1⟩ h p1 hp1
    obtain _ | n1 := n1
    · cases (show (none : Option (Int)) = some r from h)
    have h : slices_IndexFunc_int_keep_CoresAlone_1_l1 a0 a1 (n1 + 1) k1 = some r := h
    unfold slices_IndexFunc_int_keep_CoresAlone_1_l1 at h
    refine segs [] tabOk mixed 4000 (S := .br (decide ((((k1 : Nat) : Int) : Int) < ((a0.length : Nat) : Int))) (.and (0 ≤ (((k1 : Nat) : Int) : Int) ∧ ((k1 : Nat) : Int) < ((a0.length : Nat) : Int)) (.leaf 0)) (.leaf 1)) (by kernel_rfl) ?_
    refine br_ h ?_ ?_ <;> clear h <;> intro c2 h
    · refine sk_and ⟨Int.natCast_nonneg _, of_decide_eq_true c2⟩ ?_
      refine sk_leaf ?_
      obtain ⟨r4, e5, h⟩ := bd_ h
      refine call_ok (d := some 16) (fn := 13) (ax := [.pv (.raw (.int .i64 (a0.getD k1 0))), .roat 1 (fun j => E30.cf a1 j)]) (args := [.pv (.raw (.int .i64 (a0.getD k1 0))), .roat 1 (fun j => E30.cf a1 j)]) (ps := [((a0.getD k1 0) : Int) = (a0.getD k1 0), a1.length = a1.length, ∀ i, i < a1.length → ∀ j, j < 1 → E3.cf (a1.getD i E3.z) j = E3.cf (a1.getD i E3.z) j]) (hb' := []) (by kernel_rfl) (keep_CoresAlone_1_ok _ _ _ e5 (al := false)) (by kernel_rfl) ⟨rfl, rfl, fun _ _ _ _ => rfl, trivial⟩ (fun hx => by cases hx) (by simp) rfl (by kernel_rfl) ?_
      refine segs [] tabOk mixed 4000 (S := .br r4 (.leaf 0) (.leaf 1)) (by kernel_rfl) ?_
      refine br_ h ?_ ?_ <;> clear h <;> intro c6 h
      · refine sk_leaf ?_
        obtain rfl := some_ h
        exact end_ok [] Try.results26 (ps := [(((k1 : Nat) : Int) : Int) = ((k1 : Nat) : Int)]) (by kernel_rfl) ⟨rfl, trivial⟩ (fun _ => ⟨rfl, by simp⟩)
      · refine sk_leaf ?_
        refine back_ok (p := p1) (by kernel_rfl) (hp1 (n1, k1 + 1) _ h (Nat.lt_succ_self n1) ?_)
        exact sub_ok (ρ := []) (l := [a0.length = a0.length, ∀ i, i < a0.length → ∀ j, j < 1 → E3.cf (a0.getD i E3.z) j = E3.cf (a0.getD i E3.z) j, a1.length = a1.length, ∀ i, i < a1.length → ∀ j, j < 1 → E3.cf (a1.getD i E3.z) j = E3.cf (a1.getD i E3.z) j, (0 : Int) = 0, (((a0.length : Nat) : Int) : Int) = ((a0.length : Nat) : Int), ((IntKind.i64.wrap (((k1 : Nat) : Int) + 1)) : Int) = (((k1 + 1) : Nat) : Int)]) (by kernel_rfl) ⟨rfl, fun _ _ _ _ => rfl, rfl, fun _ _ _ _ => rfl, rfl, rfl, (wrap_nat (Int.ofNat_lt.1 (of_decide_eq_true c2)) (by omega)), trivial⟩
    · refine sk_leaf ?_
      obtain rfl := some_ h
      exact end_ok [] Try.results26 (ps := [((-1) : Int) = (-1)]) (by kernel_rfl) ⟨rfl, trivial⟩ (fun _ => ⟨rfl, by simp⟩)

set_option maxHeartbeats 40000000 in
set_option maxRecDepth 100000 in
theorem slices_DeleteFunc_int_keep_CoresAlone_1_h0_ok (a0 : (List Int)) (a1 : (List Int)) (r : (List Int)) (h : slices_DeleteFunc_int_keep_CoresAlone_1_h0 a0 a1 = some r) {al : Bool} : MCalls Try.prog 11 [.row 0 1 0 a0.length, .fn 13 [.roat 1 (fun j => E30.cf a1 j)]] [.row 3 1 (E3.cR a0)] 0 al (.row 0 1 0 r.length) [.row 3 1 (E3.cR r)] := by
  unfold slices_DeleteFunc_int_keep_CoresAlone_1_h0 at h
  refine fnM_ok tabOk (fz := []) Try.func11 (by kernel_rfl) (by kernel_rfl) Try.ntmps11 (by simp) (by first | (simp; done) | exact Nat.le_of_ble_eq_true rfl) ?_
  refine segs [] tabOk mixed 4000 (S := .leaf 0) (by kernel_rfl) ?_
  refine sk_leaf ?_
  obtain ⟨r1, e2, h⟩ := bd_ h
  refine call_ok (d := some 10) (fn := 26) (ax := [.row 0 1 0 a0.length, .fn 13 [.roat 1 (fun j => E30.cf a1 j)]]) (args := [.pv ((E3.ro a0)), .fn 13 [.roat 1 (fun j => E30.cf a1 j)]]) (ps := [a0.length = a0.length, rowQ (E3.cR a0) 1 0 a0.length (fun i j => E3.cf (a0.getD i E3.z) j), a1.length = a1.length, ∀ i, i < a1.length → ∀ j, j < 1 → E3.cf (a1.getD i E3.z) j = E3.cf (a1.getD i E3.z) j]) (hb' := []) (by kernel_rfl) (slices_IndexFunc_int_keep_CoresAlone_1_ok _ _ _ e2 (al := false)) (by kernel_rfl) ⟨(by first | rfl | exact Elem.sub_len _ (by omega) | omega | simp | (simp <;> omega)), E3.rowQ_all a0 rfl, rfl, fun _ _ _ _ => rfl, trivial⟩ (fun hx => by cases hx) (by simp) rfl (by kernel_rfl) ?_
  refine segs [] tabOk mixed 4000 (S := .br ((r1 : Int) == (-1)) (.leaf 0) (.leaf 1)) (by kernel_rfl) ?_
  refine br_ h ?_ ?_ <;> clear h <;> intro c3 h
  · refine sk_leaf ?_
    obtain rfl := some_ h
    exact endM_ok [(0, some 0)] Try.results11 (ps := [0 = 0, a0.length = a0.length, E3.cR a0 = E3.cR a0, AllPv (E3.cR a0)]) (by kernel_rfl) ⟨rfl, rfl, rfl, (Elem.cR_pv _ _), trivial⟩ (fun _ => ⟨rfl, by simp only [List.mem_cons, List.not_mem_nil, or_false, forall_eq_or_imp, forall_eq]; exact Elem.cR_bald E3_raw _⟩)
  · refine sk_leaf ?_
    refine len_row (by kernel_rfl) 0 (e := 3) (s := 1) (n := a0.length) (cs := E3.cR a0) (by kernel_rfl) (Elem.cR_length _ _) ?_; intro hl1_0
    replace h : (fun (x : Nat × Int × Int × List Int) => slices_DeleteFunc_int_keep_CoresAlone_1_h0_l1 a0 a1 r1 x.1 x.2.1 x.2.2.1 x.2.2.2 = some r) (FUEL, r1, (IntKind.i64.wrap (r1 + 1)), a0) := h
    refine loop_ok (by kernel_rfl) (X := Nat × Int × Int × List Int) (fun x => slices_DeleteFunc_int_keep_CoresAlone_1_h0_l1 a0 a1 r1 x.1 x.2.1 x.2.2.1 x.2.2.2 = some r) (fun x => x.1) (fun x => mk 42 [(0, .row 0 1 0 x.2.2.2.length), (1, .fn 13 [.roat 1 (fun j => E30.cf a1 j)]), (4, .pv (.raw (.slice none 0 0))), (5, .pv (.raw (.int .i64 x.2.1))), (6, .pv (.raw (.int .i64 x.2.2.1)))] [(0, .row 3 1 (E3.cR x.2.2.2))]) (FUEL, r1, (IntKind.i64.wrap (r1 + 1)), a0) h ?_ ?_
    · exact sub_ok (ρ := [(0, some 0)]) (l := [0 = 0, a0.length = a0.length, a1.length = a1.length, ∀ i, i < a1.length → ∀ j, j < 1 → E3.cf (a1.getD i E3.z) j = E3.cf (a1.getD i E3.z) j, (r1 : Int) = r1, ((IntKind.i64.wrap (r1 + 1)) : Int) = (IntKind.i64.wrap (r1 + 1)), E3.cR a0 = E3.cR a0, AllPv (E3.cR a0)]) (by kernel_rfl) ⟨rfl, rfl, rfl, fun _ _ _ _ => rfl, rfl, rfl, rfl, (Elem.cR_pv _ _), trivial⟩
    · clear h; rintro ⟨n1, x4, x5, l6⟩ h p1 hp1
      obtain _ | n1 := n1
      · cases (show (none : Option ((List Int))) = some r from h)
      have h : slices_DeleteFunc_int_keep_CoresAlone_1_h0_l1 a0 a1 r1 (n1 + 1) x4 x5 l6 = some r := h
      unfold slices_DeleteFunc_int_keep_CoresAlone_1_h0_l1 at h
      refine segs [] tabOk mixed 4000 (S := .br (decide ((x5 : Int) < ((l6.length : Nat) : Int))) (.and (0 ≤ (x5 : Int) ∧ x5 < ((l6.length : Nat) : Int)) (.leaf 0)) (.and (0 ≤ (x4 : Int)) (.and ((Int.toNat x4) ≤ l6.length) (.leaf 1)))) (by kernel_rfl) ?_
      refine br_ h ?_ ?_ <;> clear h <;> intro c7 h
      · refine gd_ h ?_; clear h; intro g8 h
        refine sk_leaf ?_
        refine ld_ok (d := 25) (id := 0) (i := (0 + (Int.toNat x5))) (j := 0) (e := 3) (n := 1) E3 (xs := l6) (by kernel_rfl) (by kernel_rfl) (by first | omega | (simp at * <;> omega) | (simp_all <;> omega)) (by exact Nat.le_of_ble_eq_true rfl) ?_
        refine segs [] tabOk mixed 4000 (S := .leaf 0) (by kernel_rfl) ?_
        refine sk_leaf ?_
        obtain ⟨r9, e10, h⟩ := bd_ h
        refine call_ok (d := some 28) (fn := 13) (ax := [.pv (.raw (.int .i64 (l6.getD (0 + (Int.toNat x5)) 0))), .roat 1 (fun j => E30.cf a1 j)]) (args := [.pv (.raw (.int .i64 (l6.getD (0 + (Int.toNat x5)) 0))), .roat 1 (fun j => E30.cf a1 j)]) (ps := [((l6.getD (0 + (Int.toNat x5)) 0) : Int) = (l6.getD (0 + (Int.toNat x5)) 0), a1.length = a1.length, ∀ i, i < a1.length → ∀ j, j < 1 → E3.cf (a1.getD i E3.z) j = E3.cf (a1.getD i E3.z) j]) (hb' := []) (by kernel_rfl) (keep_CoresAlone_1_ok _ _ _ e10 (al := false)) (by kernel_rfl) ⟨rfl, rfl, fun _ _ _ _ => rfl, trivial⟩ (fun hx => by cases hx) (by simp) rfl (by kernel_rfl) ?_
        refine segs [] tabOk mixed 4000 (S := .br (!r9) (.and (0 ≤ (x4 : Int) ∧ x4 < ((l6.length : Nat) : Int)) (.leaf 0)) (.leaf 1)) (by kernel_rfl) ?_
        refine br_ h ?_ ?_ <;> clear h <;> intro c11 h
        · refine gd_ h ?_; clear h; intro g12 h
          refine sk_leaf ?_
          refine st_ok (id := 0) (i := (0 + (Int.toNat x4))) (j := 0) (e := 3) (vs := [.pv (.raw (.int .i64 (l6.getD (0 + (Int.toNat x5)) 0)))]) E3 (xs := l6) (l6.getD (0 + (Int.toNat x5)) 0) (by kernel_rfl) (by kernel_rfl) (by first | omega | (simp at * <;> omega) | (simp_all <;> omega)) (by exact Nat.le_of_ble_eq_true rfl) rfl ?_
          refine segs [] tabOk mixed 4000 (S := .leaf 0) (by kernel_rfl) ?_
          refine sk_leaf ?_
          refine back_ok (p := p1) (by kernel_rfl) (hp1 (n1, (IntKind.i64.wrap (x4 + 1)), (IntKind.i64.wrap (x5 + 1)), (l6.set (0 + (Int.toNat x4)) (l6.getD (0 + (Int.toNat x5)) 0))) _ h (Nat.lt_succ_self n1) ?_)
          exact sub_ok (ρ := [(0, some 0)]) (l := [0 = 0, l6.length = ((l6.set (0 + (Int.toNat x4)) (l6.getD (0 + (Int.toNat x5)) 0)).length), a1.length = a1.length, ∀ i, i < a1.length → ∀ j, j < 1 → E3.cf (a1.getD i E3.z) j = E3.cf (a1.getD i E3.z) j, ((IntKind.i64.wrap (x4 + 1)) : Int) = (IntKind.i64.wrap (x4 + 1)), ((IntKind.i64.wrap (x5 + 1)) : Int) = (IntKind.i64.wrap (x5 + 1)), E3.cR (l6.set (0 + (Int.toNat x4)) (l6.getD (0 + (Int.toNat x5)) 0)) = E3.cR (l6.set (0 + (Int.toNat x4)) (l6.getD (0 + (Int.toNat x5)) 0)), AllPv (E3.cR (l6.set (0 + (Int.toNat x4)) (l6.getD (0 + (Int.toNat x5)) 0)))]) (by kernel_rfl) ⟨rfl, (by first | rfl | (simp; done) | omega | (simp <;> omega)), rfl, fun _ _ _ _ => rfl, rfl, rfl, rfl, (Elem.cR_pv _ _), trivial⟩
        · refine sk_leaf ?_
          refine back_ok (p := p1) (by kernel_rfl) (hp1 (n1, x4, (IntKind.i64.wrap (x5 + 1)), l6) _ h (Nat.lt_succ_self n1) ?_)
          exact sub_ok (ρ := [(0, some 0)]) (l := [0 = 0, l6.length = l6.length, a1.length = a1.length, ∀ i, i < a1.length → ∀ j, j < 1 → E3.cf (a1.getD i E3.z) j = E3.cf (a1.getD i E3.z) j, (x4 : Int) = x4, ((IntKind.i64.wrap (x5 + 1)) : Int) = (IntKind.i64.wrap (x5 + 1)), E3.cR l6 = E3.cR l6, AllPv (E3.cR l6)]) (by kernel_rfl) ⟨rfl, rfl, rfl, fun _ _ _ _ => rfl, rfl, rfl, rfl, (Elem.cR_pv _ _), trivial⟩
      · refine gd_ h ?_; clear h; intro g13 h
        refine gd_ h ?_; clear h; intro g14 h
        refine sk_leaf ?_
        obtain ⟨g15, h⟩ := if_ h
        refine cl_ok (s := 1) (id := 0) (e := 3) (off := (0 + (Int.toNat x4))) (len := (l6.length - (Int.toNat x4))) E3 (xs := l6) (by kernel_rfl) rfl rfl (by kernel_rfl) g15 ?_
        refine segs [] tabOk mixed 4000 (S := .and (0 ≤ (x4 : Int)) (.and ((Int.toNat x4) ≤ l6.length) (.leaf 0))) (by kernel_rfl) ?_
        refine gd_ h ?_; clear h; intro g16 h
        refine gd_ h ?_; clear h; intro g17 h
        refine sk_leaf ?_
        obtain rfl := some_ h
        exact endR_ok E3 (xs := (cpL l6 (0 + (Int.toNat x4)) (l6.length - (Int.toNat x4)) (List.replicate (l6.length - (Int.toNat x4)) (0 : Int)))) 0 (0 + 0) 19072 ((Int.toNat x4) - 0) 3 1 rfl (by kernel_rfl) (by first | omega | (simp at * <;> omega) | (simp_all <;> omega)) (by kernel_rfl) [(0, some 19072)] Try.results11 (ps := [0 = 0, ((Int.toNat x4) - 0) = (((cpL l6 (0 + (Int.toNat x4)) (l6.length - (Int.toNat x4)) (List.replicate (l6.length - (Int.toNat x4)) (0 : Int))).drop (0 + 0)).take ((Int.toNat x4) - 0)).length, E3.cR (((cpL l6 (0 + (Int.toNat x4)) (l6.length - (Int.toNat x4)) (List.replicate (l6.length - (Int.toNat x4)) (0 : Int))).drop (0 + 0)).take ((Int.toNat x4) - 0)) = E3.cR (((cpL l6 (0 + (Int.toNat x4)) (l6.length - (Int.toNat x4)) (List.replicate (l6.length - (Int.toNat x4)) (0 : Int))).drop (0 + 0)).take ((Int.toNat x4) - 0)), AllPv (E3.cR (((cpL l6 (0 + (Int.toNat x4)) (l6.length - (Int.toNat x4)) (List.replicate (l6.length - (Int.toNat x4)) (0 : Int))).drop (0 + 0)).take ((Int.toNat x4) - 0)))]) (by kernel_rfl) ⟨rfl, (by first | omega | (simp; done) | (simp <;> omega) | (simp at * <;> omega)), rfl, (Elem.cR_pv _ _), trivial⟩ (fun _ => ⟨rfl, by simp only [List.mem_cons, List.not_mem_nil, or_false, forall_eq_or_imp, forall_eq]; exact Elem.cR_bald E3_raw _⟩)

set_option maxHeartbeats 40000000 in
set_option maxRecDepth 100000 in
theorem keep_CoresAlone_ok (a0 : Int) (a1 : Int) (a2 : (List Api_Thread)) (a3 : Int) (a4 : Int) (r : Bool) (h : keep_CoresAlone a0 a1 a2 a3 a4 = some r) {al : Bool} : PCalls Try.prog 5 [.pv (.raw (.int .i64 a0)), .pv (.raw (.int .i64 a1)), .pv ((E25.ro a2)), .pv (.raw (.int .i64 a3)), .pv (.raw (.int .i64 a4))] al (.pv (.raw (.bool r))) [] := by
  unfold keep_CoresAlone at h
  refine fnZ_ok tabOk [11] Try.func5 (by kernel_rfl) (by kernel_rfl) Try.ntmps5 (by simp) ?_
  refine segs [] tabOk mixed 4000 (S := .leaf 0) (by kernel_rfl) ?_
  refine sk_leaf ?_
  obtain ⟨r1, e2, h⟩ := bd_ h
  refine call_ok (d := some 23) (fn := 7) (ax := []) (args := []) (ps := []) (hb' := []) (by kernel_rfl) (keep_alive14_ok  _ e2 (al := true)) (by kernel_rfl) trivial (fun _ => (by kernel_rfl)) (by simp) rfl (by kernel_rfl) ?_
  refine segs [] tabOk mixed 4000 (S := .br (!r1) (.leaf 0) (.leaf 1)) (by kernel_rfl) ?_
  refine br_ h ?_ ?_ <;> clear h <;> intro c3 h
  · refine sk_leaf ?_
    obtain rfl := some_ h
    exact end_ok [] Try.results5 (ps := [false = false]) (by kernel_rfl) ⟨rfl, trivial⟩ (fun _ => ⟨rfl, by simp⟩)
  · refine sk_leaf ?_
    refine len_ro (by kernel_rfl) 2 (s := 3) (n := a2.length) (c := fun i j => E25.cf (a2.getD i E25.z) j) (by kernel_rfl) ?_; intro hl1_0
    refine len_ro (by kernel_rfl) 25 (s := 3) (n := a2.length) (c := fun i j => E25.cf (a2.getD i E25.z) j) (by kernel_rfl) ?_; intro hl1_1
    replace h : (fun (x : Nat × List Api_Thread × Nat × List Int) => keep_CoresAlone_l1 a0 a1 a2 a3 a4 x.1 x.2.1 x.2.2.1 x.2.2.2 = some r) (FUEL, ([] : List Api_Thread), 0, ([] : List Int)) := h
    refine loop_ok (by kernel_rfl) (X := Nat × List Api_Thread × Nat × List Int) (fun x => keep_CoresAlone_l1 a0 a1 a2 a3 a4 x.1 x.2.1 x.2.2.1 x.2.2.2 = some r) (fun x => x.1) (fun x => mk 117 [(0, .pv (.raw (.int .i64 a0))), (1, .pv (.raw (.int .i64 a1))), (2, .pv ((E25.ro a2))), (3, .pv (.raw (.int .i64 a3))), (4, .pv (.raw (.int .i64 a4))), (10, .pv (.raw (.bool false))), (11, .row 1 3 0 x.2.1.length), (12, .ptr 0 0), (25, .pv ((E25.ro a2))), (26, .pv (.raw (.int .i64 ((a2.length : Nat) : Int)))), (27, .pv (.raw (.int .i64 ((x.2.2.1 : Nat) : Int))))] [(0, .box [.row 2 1 0 x.2.2.2.length]), (1, .row 25 3 (E25.cR x.2.1)), (2, .row 3 1 (E3.cR x.2.2.2))] [11]) (FUEL, ([] : List Api_Thread), 0, ([] : List Int)) h ?_ ?_
    · exact sub_ok (ρ := [(0, some 17152), (1, none), (2, none)]) (l := [(a0 : Int) = a0, (a1 : Int) = a1, a2.length = a2.length, ∀ i, i < a2.length → ∀ j, j < 3 → E25.cf (a2.getD i E25.z) j = E25.cf (a2.getD i E25.z) j, (a3 : Int) = a3, (a4 : Int) = a4, false = false, 0 = 0, (([] : List Api_Thread).length) = 0, 0 = 0, a2.length = a2.length, ∀ i, i < a2.length → ∀ j, j < 3 → E25.cf (a2.getD i E25.z) j = E25.cf (a2.getD i E25.z) j, (((a2.length : Nat) : Int) : Int) = ((a2.length : Nat) : Int), (0 : Int) = ((0 : Nat) : Int), 0 = 0, (([] : List Int).length) = 0, E25.cR ([] : List Api_Thread) = [], E3.cR ([] : List Int) = []]) (by kernel_rfl) ⟨rfl, rfl, rfl, fun _ _ _ _ => rfl, rfl, rfl, rfl, rfl, (by first | rfl | simp), rfl, rfl, fun _ _ _ _ => rfl, rfl, (by first | rfl | simp), rfl, (by first | rfl | simp), rfl, rfl, trivial⟩
    · clear h; rintro ⟨n1, l4, k5, l6⟩ h p1 hp1
      obtain _ | n1 := n1
      · cases (show (none : Option (Bool)) = some r from h)
      have h : keep_CoresAlone_l1 a0 a1 a2 a3 a4 (n1 + 1) l4 k5 l6 = some r := h
      unfold keep_CoresAlone_l1 at h
      refine segs [] tabOk mixed 4000 (S := .br (decide ((((k5 : Nat) : Int) : Int) < ((a2.length : Nat) : Int))) (.and (0 ≤ (((k5 : Nat) : Int) : Int) ∧ ((k5 : Nat) : Int) < ((a2.length : Nat) : Int)) (.br (decide (((a2.getD k5 (⟨0, 0, 0⟩ : Api_Thread)).Level : Int) ≥ a4)) (.leaf 0) (.leaf 1))) (.leaf 2)) (by kernel_rfl) ?_
      refine br_ h ?_ ?_ <;> clear h <;> intro c7 h
      · refine sk_and ⟨Int.natCast_nonneg _, of_decide_eq_true c7⟩ ?_
        refine br_ h ?_ ?_ <;> clear h <;> intro c9 h
        · refine sk_leaf ?_
          refine bs_ok (d := 38) (e := 25) (s := 3) (n := 1) (cs := [.pv (.raw (.int .i64 ((a2.getD k5 (⟨0, 0, 0⟩ : Api_Thread)).Come))), .pv (.raw (.int .i64 ((a2.getD k5 (⟨0, 0, 0⟩ : Api_Thread)).Level))), .pv (.raw (.int .i64 ((a2.getD k5 (⟨0, 0, 0⟩ : Api_Thread)).Work)))]) (cs' := E25.cR [(a2.getD k5 (⟨0, 0, 0⟩ : Api_Thread))]) (by kernel_rfl) rfl (by kernel_rfl) ?_
          refine segs [] tabOk mixed 4000 (S := .leaf 0) (by kernel_rfl) ?_
          refine sk_leaf ?_
          obtain ⟨g10, h⟩ := if_ h
          refine app_ok (d := 39) (e := 25) (s := 3) (b := 24) (x := .row 1 3 0 l4.length) (y := .row 18816 3 0 1) E25 (xs := l4) (ys := [(a2.getD k5 (⟨0, 0, 0⟩ : Api_Thread))]) (by kernel_rfl) rfl (.row 1 l4 l4.length rfl (by kernel_rfl)) (.all 18816 25 [(a2.getD k5 (⟨0, 0, 0⟩ : Api_Thread))] 1 rfl (by kernel_rfl)) g10 (by kernel_rfl) ?_
          refine segs [] tabOk mixed 4000 (S := .leaf 0) (by kernel_rfl) ?_
          refine sk_leaf ?_
          refine bs_ok (d := 42) (e := 3) (s := 1) (n := 1) (cs := [.pv (.raw (.int .i64 ((k5 : Nat) : Int)))]) (cs' := E3.cR [((k5 : Nat) : Int)]) (by kernel_rfl) rfl (by kernel_rfl) ?_
          refine segs [] tabOk mixed 4000 (S := .leaf 0) (by kernel_rfl) ?_
          refine sk_leaf ?_
          obtain ⟨g11, h⟩ := if_ h
          refine app_ok (d := 43) (e := 3) (s := 1) (b := 8) (x := .row 2 1 0 l6.length) (y := .row 19072 1 0 1) E3 (xs := l6) (ys := [((k5 : Nat) : Int)]) (by kernel_rfl) rfl (.row 2 l6 l6.length rfl (by kernel_rfl)) (.all 19072 3 [((k5 : Nat) : Int)] 1 rfl (by kernel_rfl)) g11 (by kernel_rfl) ?_
          refine segs [] tabOk mixed 4000 (S := .leaf 0) (by kernel_rfl) ?_
          refine sk_leaf ?_
          refine back_ok (p := p1) (by kernel_rfl) (hp1 (n1, (l4 ++ [(a2.getD k5 (⟨0, 0, 0⟩ : Api_Thread))]), k5 + 1, (l6 ++ [((k5 : Nat) : Int)])) _ h (Nat.lt_succ_self n1) ?_)
          exact sub_ok (ρ := [(0, some 0), (1, some 18880), (2, some 19136)]) (l := [(a0 : Int) = a0, (a1 : Int) = a1, a2.length = a2.length, ∀ i, i < a2.length → ∀ j, j < 3 → E25.cf (a2.getD i E25.z) j = E25.cf (a2.getD i E25.z) j, (a3 : Int) = a3, (a4 : Int) = a4, false = false, 0 = 0, ((l4 ++ [(a2.getD k5 (⟨0, 0, 0⟩ : Api_Thread))]).length) = ((l4 ++ [(a2.getD k5 (⟨0, 0, 0⟩ : Api_Thread))]).length), 0 = 0, a2.length = a2.length, ∀ i, i < a2.length → ∀ j, j < 3 → E25.cf (a2.getD i E25.z) j = E25.cf (a2.getD i E25.z) j, (((a2.length : Nat) : Int) : Int) = ((a2.length : Nat) : Int), ((IntKind.i64.wrap (((k5 : Nat) : Int) + 1)) : Int) = (((k5 + 1) : Nat) : Int), 0 = 0, ((l6 ++ [((k5 : Nat) : Int)]).length) = ((l6 ++ [((k5 : Nat) : Int)]).length), E25.cR (l4 ++ [(a2.getD k5 (⟨0, 0, 0⟩ : Api_Thread))]) = E25.cR (l4 ++ [(a2.getD k5 (⟨0, 0, 0⟩ : Api_Thread))]), AllPv (E25.cR (l4 ++ [(a2.getD k5 (⟨0, 0, 0⟩ : Api_Thread))])), E3.cR (l6 ++ [((k5 : Nat) : Int)]) = E3.cR (l6 ++ [((k5 : Nat) : Int)]), AllPv (E3.cR (l6 ++ [((k5 : Nat) : Int)]))]) (by kernel_rfl) ⟨rfl, rfl, rfl, fun _ _ _ _ => rfl, rfl, rfl, rfl, rfl, rfl, rfl, rfl, fun _ _ _ _ => rfl, rfl, (wrap_nat (Int.ofNat_lt.1 (of_decide_eq_true c7)) (by omega)), rfl, rfl, rfl, (Elem.cR_pv _ _), rfl, (Elem.cR_pv _ _), trivial⟩
        · refine sk_leaf ?_
          refine back_ok (p := p1) (by kernel_rfl) (hp1 (n1, l4, k5 + 1, l6) _ h (Nat.lt_succ_self n1) ?_)
          exact sub_ok (ρ := (rI 0 0 3)) (l := [(a0 : Int) = a0, (a1 : Int) = a1, a2.length = a2.length, ∀ i, i < a2.length → ∀ j, j < 3 → E25.cf (a2.getD i E25.z) j = E25.cf (a2.getD i E25.z) j, (a3 : Int) = a3, (a4 : Int) = a4, false = false, 0 = 0, l4.length = l4.length, 0 = 0, a2.length = a2.length, ∀ i, i < a2.length → ∀ j, j < 3 → E25.cf (a2.getD i E25.z) j = E25.cf (a2.getD i E25.z) j, (((a2.length : Nat) : Int) : Int) = ((a2.length : Nat) : Int), ((IntKind.i64.wrap (((k5 : Nat) : Int) + 1)) : Int) = (((k5 + 1) : Nat) : Int), 0 = 0, l6.length = l6.length, E25.cR l4 = E25.cR l4, AllPv (E25.cR l4), E3.cR l6 = E3.cR l6, AllPv (E3.cR l6)]) (by kernel_rfl) ⟨rfl, rfl, rfl, fun _ _ _ _ => rfl, rfl, rfl, rfl, rfl, rfl, rfl, rfl, fun _ _ _ _ => rfl, rfl, (wrap_nat (Int.ofNat_lt.1 (of_decide_eq_true c7)) (by omega)), rfl, rfl, rfl, (Elem.cR_pv _ _), rfl, (Elem.cR_pv _ _), trivial⟩
      · refine sk_leaf ?_
        obtain ⟨r12, e13, h⟩ := bd_ h
        refine call_ok (d := some 50) (fn := 8) (ax := [.pv (.raw (.int .i64 a0)), .pv (.raw (.int .i64 a1)), .pv ((E25.ro a2)), .pv (.raw (.int .i64 a3))]) (args := [.pv (.raw (.int .i64 a0)), .pv (.raw (.int .i64 a1)), .pv ((E25.ro a2)), .pv (.raw (.int .i64 a3))]) (ps := [(a0 : Int) = a0, (a1 : Int) = a1, a2.length = a2.length, ∀ i, i < a2.length → ∀ j, j < 3 → E25.cf (a2.getD i E25.z) j = E25.cf (a2.getD i E25.z) j, (a3 : Int) = a3]) (hb' := [.row 30 1 (E30.cR r12.1)]) (by kernel_rfl) (cores_Run_ok _ _ _ _ _ e13 (al := true)) (by kernel_rfl) ⟨rfl, rfl, rfl, fun _ _ _ _ => rfl, rfl, trivial⟩ (fun _ => (by kernel_rfl)) (by simp) (by simp only [List.map_cons, List.map_nil, Elem.row_up, up_map] <;> rfl) (by kernel_rfl) ?_
        refine segs [] tabOk mixed 4000 (S := .leaf 0) (by kernel_rfl) ?_
        refine sk_leaf ?_
        obtain ⟨r14, e15, h⟩ := bd_ h
        refine call_ok (d := some 58) (fn := 8) (ax := [.pv (.raw (.int .i64 a0)), .pv (.raw (.int .i64 a1)), .row 1 3 0 l4.length, .pv (.raw (.int .i64 a3))]) (args := [.pv (.raw (.int .i64 a0)), .pv (.raw (.int .i64 a1)), .pv ((E25.ro l4)), .pv (.raw (.int .i64 a3))]) (ps := [(a0 : Int) = a0, (a1 : Int) = a1, l4.length = l4.length, rowQ (E25.cR l4) 3 0 l4.length (fun i j => E25.cf (l4.getD i E25.z) j), (a3 : Int) = a3]) (hb' := [.row 30 1 (E30.cR r14.1)]) (by kernel_rfl) (cores_Run_ok _ _ _ _ _ e15 (al := false)) (by kernel_rfl) ⟨rfl, rfl, (by first | rfl | exact Elem.sub_len _ (by omega) | omega | simp | (simp <;> omega)), E25.rowQ_all l4 rfl, rfl, trivial⟩ (fun hx => by cases hx) (by simp) (by simp only [List.map_cons, List.map_nil, Elem.row_up, up_map] <;> rfl) (by kernel_rfl) ?_
        refine segs [] tabOk mixed 4000 (S := .and (((!((r12.2 : Int) != 0)) = true → ((!((r12.2 : Int) != 0)) = true))) (.and (((r12.2 : Int) != 0) = false → (!((r12.2 : Int) != 0)) = true) (.and (((!(((r12.2 : Int) != 0) || ((r14.2 : Int) != 0))) = true → ((!(((r12.2 : Int) != 0) || ((r14.2 : Int) != 0))) = true))) (.and (((!(((r12.2 : Int) != 0) || ((r14.2 : Int) != 0))) = true → ((!(((r12.2 : Int) != 0) || ((r14.2 : Int) != 0))) = true))) (.and (((!(((r12.2 : Int) != 0) || ((r14.2 : Int) != 0))) = true → ((!(((r12.2 : Int) != 0) || ((r14.2 : Int) != 0))) = true))) (.and (((!(((r12.2 : Int) != 0) || ((r14.2 : Int) != 0))) = true → ((!(((r12.2 : Int) != 0) || ((r14.2 : Int) != 0))) = true))) (.and ((((r12.2 : Int) != 0) || ((r14.2 : Int) != 0)) = false → (!(((r12.2 : Int) != 0) || ((r14.2 : Int) != 0))) = true) (.br ((((r12.2 : Int) != 0) || ((r14.2 : Int) != 0)) || ((((r12.1.length : Nat) : Int) : Int) != ((r14.1.length : Nat) : Int))) (.leaf 0) (.leaf 1))))))))) (by kernel_rfl) ?_
        refine sk_and (fun h => h) ?_
        refine sk_and ((by decide : ∀ y0 : Bool, ((y0 = false) → ((!y0) = true))) ((r12.2 : Int) != 0)) ?_
        refine sk_and (fun h => h) ?_
        refine sk_and (fun h => h) ?_
        refine sk_and (fun h => h) ?_
        refine sk_and (fun h => h) ?_
        refine sk_and ((by decide : ∀ y0 : Bool, ((y0 = false) → ((!y0) = true))) (((r12.2 : Int) != 0) || ((r14.2 : Int) != 0))) ?_
        refine br_ h ?_ ?_ <;> clear h <;> intro c23 h
        · refine sk_leaf ?_
          obtain rfl := some_ h
          exact end_ok [] Try.results5 (ps := [((r12.2 : Int) != 0) = ((r12.2 : Int) != 0)]) (by kernel_rfl) ⟨rfl, trivial⟩ (fun _ => ⟨rfl, by simp⟩)
        · refine sk_leaf ?_
          refine len_row (by kernel_rfl) 1 (e := 25) (s := 3) (n := l4.length) (cs := E25.cR l4) (by kernel_rfl) (Elem.cR_length _ _) ?_; intro hl2_0
          refine len_row (by kernel_rfl) 2 (e := 3) (s := 1) (n := l6.length) (cs := E3.cR l6) (by kernel_rfl) (Elem.cR_length _ _) ?_; intro hl2_1
          refine len_row (by kernel_rfl) 19584 (e := 30) (s := 1) (n := r12.1.length) (cs := E30.cR r12.1) (by kernel_rfl) (Elem.cR_length _ _) ?_; intro hl2_2
          refine len_row (by kernel_rfl) 20096 (e := 30) (s := 1) (n := r14.1.length) (cs := E30.cR r14.1) (by kernel_rfl) (Elem.cR_length _ _) ?_; intro hl2_3
          replace h : (fun (x : Nat × Nat) => keep_CoresAlone_l2 l6 r12 r14 x.1 x.2 = some r) (FUEL, 0) := h
          refine loop_ok (by kernel_rfl) (X := Nat × Nat) (fun x => keep_CoresAlone_l2 l6 r12 r14 x.1 x.2 = some r) (fun x => x.1) (fun x => mk 117 [(10, .pv (.raw (.bool false))), (12, .ptr 0 0), (15, .row 2 1 0 r12.1.length), (17, .row 3 1 0 r14.1.length), (77, .pv (.raw (.int .i64 ((r12.1.length : Nat) : Int)))), (78, .pv (.raw (.int .i64 ((x.2 : Nat) : Int))))] [(0, .box [.row 1 1 0 l6.length]), (1, .row 3 1 (E3.cR l6)), (2, .row 30 1 (E30.cR r12.1)), (3, .row 30 1 (E30.cR r14.1))] [11]) (FUEL, 0) h ?_ ?_
          · exact sub_ok (ρ := [(0, some 0), (1, some 2), (2, some 19584), (3, some 20096)]) (l := [false = false, 0 = 0, 0 = 0, r12.1.length = r12.1.length, 0 = 0, r14.1.length = r14.1.length, (((r12.1.length : Nat) : Int) : Int) = ((r12.1.length : Nat) : Int), (0 : Int) = ((0 : Nat) : Int), 0 = 0, l6.length = l6.length, E3.cR l6 = E3.cR l6, AllPv (E3.cR l6), E30.cR r12.1 = E30.cR r12.1, AllPv (E30.cR r12.1), E30.cR r14.1 = E30.cR r14.1, AllPv (E30.cR r14.1)]) (by kernel_rfl) ⟨rfl, rfl, rfl, rfl, rfl, rfl, rfl, (by first | rfl | simp), rfl, rfl, rfl, (Elem.cR_pv _ _), rfl, (Elem.cR_pv _ _), rfl, (Elem.cR_pv _ _), trivial⟩
          · clear h; rintro ⟨n2, k24⟩ h p2 hp2
            obtain _ | n2 := n2
            · cases (show (none : Option (Bool)) = some r from h)
            have h : keep_CoresAlone_l2 l6 r12 r14 (n2 + 1) k24 = some r := h
            unfold keep_CoresAlone_l2 at h
            refine segs [] tabOk mixed 4000 (S := .br (decide ((((k24 : Nat) : Int) : Int) < ((r12.1.length : Nat) : Int))) (.and (0 ≤ (((k24 : Nat) : Int) : Int) ∧ ((k24 : Nat) : Int) < ((r14.1.length : Nat) : Int)) (.leaf 0)) (.leaf 1)) (by kernel_rfl) ?_
            refine br_ h ?_ ?_ <;> clear h <;> intro c25 h
            · refine gd_ h ?_; clear h; intro g26 h
              refine sk_leaf ?_
              refine ld_ok (d := 84) (id := 3) (i := (0 + k24)) (j := 0) (e := 30) (n := 1) E30 (xs := r14.1) (by kernel_rfl) (by kernel_rfl) (by first | omega | (simp at * <;> omega) | (simp_all <;> omega)) (by exact Nat.le_of_ble_eq_true rfl) ?_
              refine segs [] tabOk mixed 4000 (S := .leaf 0) (by kernel_rfl) ?_
              refine sk_leaf ?_
              refine len_ro (by kernel_rfl) 84 (s := 1) (n := (r14.1.getD (0 + k24) []).length) (c := fun i j => E3.cf ((r14.1.getD (0 + k24) []).getD i E3.z) j) (by kernel_rfl) ?_; intro hl3_0
              refine len_row (by kernel_rfl) 1 (e := 3) (s := 1) (n := l6.length) (cs := E3.cR l6) (by kernel_rfl) (Elem.cR_length _ _) ?_; intro hl3_1
              refine len_row (by kernel_rfl) 2 (e := 30) (s := 1) (n := r12.1.length) (cs := E30.cR r12.1) (by kernel_rfl) (Elem.cR_length _ _) ?_; intro hl3_2
              refine len_row (by kernel_rfl) 3 (e := 30) (s := 1) (n := r14.1.length) (cs := E30.cR r14.1) (by kernel_rfl) (Elem.cR_length _ _) ?_; intro hl3_3
              obtain ⟨K3_0, hK3_0, h⟩ : ∃ (K3_0 : (List Int) → Nat → Option (Bool)), K3_0 = (fun (l27 : List Int) (k28 : Nat) => (slices_Clone_int (r12.1.getD (0 + k24) [])).bind fun r39 => (slices_DeleteFunc_int_keep_CoresAlone_1_h0 r39 l6).bind fun r41 => (slices_Equal_int r41 l27).bind fun r43 => bif (!r43) then some false else keep_CoresAlone_l2 l6 r12 r14 n2 (k24 + 1) ) ∧ keep_CoresAlone_l3 l6 r14 k24 K3_0 FUEL ([] : List Int) 0 = some r := ⟨_, rfl, h⟩
              replace h : (fun (x : Nat × List Int × Nat) => keep_CoresAlone_l3 l6 r14 k24 K3_0 x.1 x.2.1 x.2.2 = some r) (FUEL, ([] : List Int), 0) := h
              refine loop_ok (by kernel_rfl) (X := Nat × List Int × Nat) (fun x => keep_CoresAlone_l3 l6 r14 k24 K3_0 x.1 x.2.1 x.2.2 = some r) (fun x => x.1) (fun x => mk 117 [(10, .pv (.raw (.bool false))), (12, .ptr 0 0), (15, .row 2 1 0 r12.1.length), (17, .row 3 1 0 r14.1.length), (19, .pv (.raw (.int .i64 ((k24 : Nat) : Int)))), (20, .row 4 1 0 x.2.1.length), (77, .pv (.raw (.int .i64 ((r12.1.length : Nat) : Int)))), (78, .pv (.raw (.int .i64 ((k24 : Nat) : Int)))), (84, .pv ((E3.ro (r14.1.getD (0 + k24) [])))), (85, .pv (.raw (.int .i64 (((r14.1.getD (0 + k24) []).length : Nat) : Int)))), (86, .pv (.raw (.int .i64 ((x.2.2 : Nat) : Int))))] [(0, .box [.row 1 1 0 l6.length]), (1, .row 3 1 (E3.cR l6)), (2, .row 30 1 (E30.cR r12.1)), (3, .row 30 1 (E30.cR r14.1)), (4, .row 3 1 (E3.cR x.2.1))] [11]) (FUEL, ([] : List Int), 0) h ?_ ?_
              · exact sub_ok (ρ := (rI 0 0 4 ++ ([(4, none)]))) (l := [false = false, 0 = 0, 0 = 0, r12.1.length = r12.1.length, 0 = 0, r14.1.length = r14.1.length, (((k24 : Nat) : Int) : Int) = ((k24 : Nat) : Int), 0 = 0, (([] : List Int).length) = 0, (((r12.1.length : Nat) : Int) : Int) = ((r12.1.length : Nat) : Int), (((k24 : Nat) : Int) : Int) = ((k24 : Nat) : Int), (r14.1.getD (0 + k24) []).length = (r14.1.getD (0 + k24) []).length, ∀ i, i < (r14.1.getD (0 + k24) []).length → ∀ j, j < 1 → E3.cf ((r14.1.getD (0 + k24) []).getD i E3.z) j = E3.cf ((r14.1.getD (0 + k24) []).getD i E3.z) j, ((((r14.1.getD (0 + k24) []).length : Nat) : Int) : Int) = (((r14.1.getD (0 + k24) []).length : Nat) : Int), (0 : Int) = ((0 : Nat) : Int), 0 = 0, l6.length = l6.length, E3.cR l6 = E3.cR l6, AllPv (E3.cR l6), E30.cR r12.1 = E30.cR r12.1, AllPv (E30.cR r12.1), E30.cR r14.1 = E30.cR r14.1, AllPv (E30.cR r14.1), E3.cR ([] : List Int) = []]) (by kernel_rfl) ⟨rfl, rfl, rfl, rfl, rfl, rfl, rfl, rfl, (by first | rfl | simp), rfl, rfl, rfl, fun _ _ _ _ => rfl, rfl, (by first | rfl | simp), rfl, rfl, rfl, (Elem.cR_pv _ _), rfl, (Elem.cR_pv _ _), rfl, (Elem.cR_pv _ _), rfl, trivial⟩
              · clear h; rintro ⟨n3, l27, k28⟩ h p3 hp3
                obtain _ | n3 := n3
                · cases (show (none : Option (Bool)) = some r from h)
                have h : keep_CoresAlone_l3 l6 r14 k24 K3_0 (n3 + 1) l27 k28 = some r := h
                unfold keep_CoresAlone_l3 at h
                refine segs [] tabOk mixed 4000 (S := .br (decide ((((k28 : Nat) : Int) : Int) < (((r14.1.getD (0 + k24) []).length : Nat) : Int))) (.and (0 ≤ (((k28 : Nat) : Int) : Int) ∧ ((k28 : Nat) : Int) < (((r14.1.getD (0 + k24) []).length : Nat) : Int)) (.and (((!(decide ((((r14.1.getD (0 + k24) []).getD k28 0) : Int) < 0))) = true → ((!(decide ((((r14.1.getD (0 + k24) []).getD k28 0) : Int) < 0))) = true))) (.and (((!(decide ((((r14.1.getD (0 + k24) []).getD k28 0) : Int) < 0))) = true → ((!(decide ((((r14.1.getD (0 + k24) []).getD k28 0) : Int) < 0))) = true))) (.and (((!(decide ((((r14.1.getD (0 + k24) []).getD k28 0) : Int) < 0))) = true → ((!(decide ((((r14.1.getD (0 + k24) []).getD k28 0) : Int) < 0))) = true))) (.and ((decide ((((r14.1.getD (0 + k24) []).getD k28 0) : Int) < 0)) = false → (!(decide ((((r14.1.getD (0 + k24) []).getD k28 0) : Int) < 0))) = true) (.br ((decide ((((r14.1.getD (0 + k24) []).getD k28 0) : Int) < 0)) || (decide ((((r14.1.getD (0 + k24) []).getD k28 0) : Int) ≥ ((l6.length : Nat) : Int)))) (.leaf 0) (.and (0 ≤ (((r14.1.getD (0 + k24) []).getD k28 0) : Int) ∧ ((r14.1.getD (0 + k24) []).getD k28 0) < ((l6.length : Nat) : Int)) (.leaf 1)))))))) (.and (0 ≤ (((k24 : Nat) : Int) : Int) ∧ ((k24 : Nat) : Int) < ((r12.1.length : Nat) : Int)) (.leaf 2))) (by kernel_rfl) ?_
                refine br_ h ?_ ?_ <;> clear h <;> intro c29 h
                · refine sk_and ⟨Int.natCast_nonneg _, of_decide_eq_true c29⟩ ?_
                  refine sk_and (fun h => h) ?_
                  refine sk_and (fun h => h) ?_
                  refine sk_and (fun h => h) ?_
                  refine sk_and ((by decide : ∀ y0 : Bool, ((y0 = false) → ((!y0) = true))) (decide ((((r14.1.getD (0 + k24) []).getD k28 0) : Int) < 0))) ?_
                  refine br_ h ?_ ?_ <;> clear h <;> intro c35 h
                  · refine sk_leaf ?_
                    obtain rfl := some_ h
                    exact end_ok [] Try.results5 (ps := [false = false]) (by kernel_rfl) ⟨rfl, trivial⟩ (fun _ => ⟨rfl, by simp⟩)
                  · refine gd_ h ?_; clear h; intro g36 h
                    refine sk_leaf ?_
                    refine ld_ok (d := 102) (id := 1) (i := (0 + (Int.toNat ((r14.1.getD (0 + k24) []).getD k28 0)))) (j := 0) (e := 3) (n := 1) E3 (xs := l6) (by kernel_rfl) (by kernel_rfl) (by first | omega | (simp at * <;> omega) | (simp_all <;> omega)) (by exact Nat.le_of_ble_eq_true rfl) ?_
                    refine segs [] tabOk mixed 4000 (S := .leaf 0) (by kernel_rfl) ?_
                    refine sk_leaf ?_
                    refine bs_ok (d := 103) (e := 3) (s := 1) (n := 1) (cs := [.pv (.raw (.int .i64 (l6.getD (0 + (Int.toNat ((r14.1.getD (0 + k24) []).getD k28 0))) 0)))]) (cs' := E3.cR [(l6.getD (0 + (Int.toNat ((r14.1.getD (0 + k24) []).getD k28 0))) 0)]) (by kernel_rfl) rfl (by kernel_rfl) ?_
                    refine segs [] tabOk mixed 4000 (S := .leaf 0) (by kernel_rfl) ?_
                    refine sk_leaf ?_
                    obtain ⟨g37, h⟩ := if_ h
                    refine app_ok (d := 104) (e := 3) (s := 1) (b := 8) (x := .row 4 1 0 l27.length) (y := .row 22976 1 0 1) E3 (xs := l27) (ys := [(l6.getD (0 + (Int.toNat ((r14.1.getD (0 + k24) []).getD k28 0))) 0)]) (by kernel_rfl) rfl (.row 4 l27 l27.length rfl (by kernel_rfl)) (.all 22976 3 [(l6.getD (0 + (Int.toNat ((r14.1.getD (0 + k24) []).getD k28 0))) 0)] 1 rfl (by kernel_rfl)) g37 (by kernel_rfl) ?_
                    refine segs [] tabOk mixed 4000 (S := .leaf 0) (by kernel_rfl) ?_
                    refine sk_leaf ?_
                    refine back_ok (p := p3) (by kernel_rfl) (hp3 (n3, (l27 ++ [(l6.getD (0 + (Int.toNat ((r14.1.getD (0 + k24) []).getD k28 0))) 0)]), k28 + 1) _ h (Nat.lt_succ_self n3) ?_)
                    exact sub_ok (ρ := (rI 0 0 4 ++ ([(4, some 23040)]))) (l := [false = false, 0 = 0, 0 = 0, r12.1.length = r12.1.length, 0 = 0, r14.1.length = r14.1.length, (((k24 : Nat) : Int) : Int) = ((k24 : Nat) : Int), 0 = 0, ((l27 ++ [(l6.getD (0 + (Int.toNat ((r14.1.getD (0 + k24) []).getD k28 0))) 0)]).length) = ((l27 ++ [(l6.getD (0 + (Int.toNat ((r14.1.getD (0 + k24) []).getD k28 0))) 0)]).length), (((r12.1.length : Nat) : Int) : Int) = ((r12.1.length : Nat) : Int), (((k24 : Nat) : Int) : Int) = ((k24 : Nat) : Int), (r14.1.getD (0 + k24) []).length = (r14.1.getD (0 + k24) []).length, ∀ i, i < (r14.1.getD (0 + k24) []).length → ∀ j, j < 1 → E3.cf ((r14.1.getD (0 + k24) []).getD i E3.z) j = E3.cf ((r14.1.getD (0 + k24) []).getD i E3.z) j, ((((r14.1.getD (0 + k24) []).length : Nat) : Int) : Int) = (((r14.1.getD (0 + k24) []).length : Nat) : Int), ((IntKind.i64.wrap (((k28 : Nat) : Int) + 1)) : Int) = (((k28 + 1) : Nat) : Int), 0 = 0, l6.length = l6.length, E3.cR l6 = E3.cR l6, AllPv (E3.cR l6), E30.cR r12.1 = E30.cR r12.1, AllPv (E30.cR r12.1), E30.cR r14.1 = E30.cR r14.1, AllPv (E30.cR r14.1), E3.cR (l27 ++ [(l6.getD (0 + (Int.toNat ((r14.1.getD (0 + k24) []).getD k28 0))) 0)]) = E3.cR (l27 ++ [(l6.getD (0 + (Int.toNat ((r14.1.getD (0 + k24) []).getD k28 0))) 0)]), AllPv (E3.cR (l27 ++ [(l6.getD (0 + (Int.toNat ((r14.1.getD (0 + k24) []).getD k28 0))) 0)]))]) (by kernel_rfl) ⟨rfl, rfl, rfl, rfl, rfl, rfl, rfl, rfl, rfl, rfl, rfl, rfl, fun _ _ _ _ => rfl, rfl, (wrap_nat (Int.ofNat_lt.1 (of_decide_eq_true c29)) (by omega)), rfl, rfl, rfl, (Elem.cR_pv _ _), rfl, (Elem.cR_pv _ _), rfl, (Elem.cR_pv _ _), rfl, (Elem.cR_pv _ _), trivial⟩
                · replace h := (congrFun (congrFun hK3_0 l27) k28).symm.trans h
                  refine sk_and ⟨Int.natCast_nonneg _, of_decide_eq_true c25⟩ ?_
                  refine sk_leaf ?_
                  refine ld_ok (d := 109) (id := 2) (i := (0 + k24)) (j := 0) (e := 30) (n := 1) E30 (xs := r12.1) (by kernel_rfl) (by kernel_rfl) (by first | omega | (simp at * <;> omega) | (simp_all <;> omega)) (by exact Nat.le_of_ble_eq_true rfl) ?_
                  refine segs [] tabOk mixed 4000 (S := .leaf 0) (by kernel_rfl) ?_
                  refine sk_leaf ?_
                  obtain ⟨r39, e40, h⟩ := bd_ h
                  refine call_ok (d := some 110) (fn := 12) (ax := [.pv ((E3.ro (r12.1.getD (0 + k24) [])))]) (args := [.pv ((E3.ro (r12.1.getD (0 + k24) [])))]) (ps := [(r12.1.getD (0 + k24) []).length = (r12.1.getD (0 + k24) []).length, ∀ i, i < (r12.1.getD (0 + k24) []).length → ∀ j, j < 1 → E3.cf ((r12.1.getD (0 + k24) []).getD i E3.z) j = E3.cf ((r12.1.getD (0 + k24) []).getD i E3.z) j]) (hb' := [.row 3 1 (E3.cR r39)]) (by kernel_rfl) (slices_Clone_int_ok _ _ e40 (al := true)) (by kernel_rfl) ⟨rfl, fun _ _ _ _ => rfl, trivial⟩ (fun _ => (by kernel_rfl)) (by simp) (by simp only [List.map_cons, List.map_nil, Elem.row_up, up_map] <;> rfl) (by kernel_rfl) ?_
                  refine segs [] tabOk mixed 4000 (S := .leaf 0) (by kernel_rfl) ?_
                  refine sk_leaf ?_
                  obtain ⟨r41, e42, h⟩ := bd_ h
                  refine mcall_ok (d := some 112) (fn := 11) (ax := [.row 23424 1 0 r39.length, .fn 13 [.ptr 0 0]]) (hs := [(23552, .row 3 1 (E3.cR r41))]) (del := [23424]) (ps := [0 = 0, r39.length = r39.length, l6.length = l6.length, rowQ (E3.cR l6) 1 0 l6.length (fun i j => E3.cf (l6.getD i E3.z) j), E3.cR r39 = E3.cR r39, AllPv (E3.cR r39)]) [(0, some 23424)] (by kernel_rfl) (slices_DeleteFunc_int_keep_CoresAlone_1_h0_ok _ _ _ e42 (al := false)) (by kernel_rfl) ⟨rfl, rfl, (by first | rfl | exact Elem.sub_len _ (by omega) | omega | simp | (simp <;> omega)), E3.rowQ_all l6 rfl, rfl, (Elem.cR_pv _ _), trivial⟩ (by kernel_rfl) (by simp only [List.cons_append, List.nil_append, List.append_nil, rB, rA, fl, mset_row, mset_box, mset_nil, mset_map, List.set_set]; kernel_rfl) (by kernel_rfl) ?_
                  refine segs [] tabOk mixed 4000 (S := .leaf 0) (by kernel_rfl) ?_
                  refine sk_leaf ?_
                  obtain ⟨r43, e44, h⟩ := bd_ h
                  refine call_ok (d := some 114) (fn := 10) (ax := [.row 23552 1 0 r41.length, .row 4 1 0 l27.length]) (args := [.pv ((E3.ro r41)), .pv ((E3.ro l27))]) (ps := [r41.length = r41.length, rowQ (E3.cR r41) 1 0 r41.length (fun i j => E3.cf (r41.getD i E3.z) j), l27.length = l27.length, rowQ (E3.cR l27) 1 0 l27.length (fun i j => E3.cf (l27.getD i E3.z) j)]) (hb' := []) (by kernel_rfl) (slices_Equal_int_ok _ _ _ e44 (al := false)) (by kernel_rfl) ⟨(by first | rfl | exact Elem.sub_len _ (by omega) | omega | simp | (simp <;> omega)), E3.rowQ_all r41 rfl, (by first | rfl | exact Elem.sub_len _ (by omega) | omega | simp | (simp <;> omega)), E3.rowQ_all l27 rfl, trivial⟩ (fun hx => by cases hx) (by simp) rfl (by kernel_rfl) ?_
                  refine segs [] tabOk mixed 4000 (S := .br (!r43) (.leaf 0) (.leaf 1)) (by kernel_rfl) ?_
                  refine br_ h ?_ ?_ <;> clear h <;> intro c45 h
                  · refine sk_leaf ?_
                    obtain rfl := some_ h
                    exact end_ok [] Try.results5 (ps := [false = false]) (by kernel_rfl) ⟨rfl, trivial⟩ (fun _ => ⟨rfl, by simp⟩)
                  · refine sk_leaf ?_
                    refine back_ok (p := p2) (by kernel_rfl) (hp2 (n2, k24 + 1) _ h (Nat.lt_succ_self n2) ?_)
                    exact sub_ok (ρ := (rI 0 0 4)) (l := [false = false, 0 = 0, 0 = 0, r12.1.length = r12.1.length, 0 = 0, r14.1.length = r14.1.length, (((r12.1.length : Nat) : Int) : Int) = ((r12.1.length : Nat) : Int), ((IntKind.i64.wrap (((k24 : Nat) : Int) + 1)) : Int) = (((k24 + 1) : Nat) : Int), 0 = 0, l6.length = l6.length, E3.cR l6 = E3.cR l6, AllPv (E3.cR l6), E30.cR r12.1 = E30.cR r12.1, AllPv (E30.cR r12.1), E30.cR r14.1 = E30.cR r14.1, AllPv (E30.cR r14.1)]) (by kernel_rfl) ⟨rfl, rfl, rfl, rfl, rfl, rfl, rfl, (wrap_nat (Int.ofNat_lt.1 (of_decide_eq_true c25)) (by omega)), rfl, rfl, rfl, (Elem.cR_pv _ _), rfl, (Elem.cR_pv _ _), rfl, (Elem.cR_pv _ _), trivial⟩
            · refine sk_leaf ?_
              obtain rfl := some_ h
              exact end_ok [] Try.results5 (ps := [true = true]) (by kernel_rfl) ⟨rfl, trivial⟩ (fun _ => ⟨rfl, by simp⟩)

set_option maxHeartbeats 40000000 in
set_option maxRecDepth 100000 in
theorem math_bits_Mul32_ok (a0 : Int) (a1 : Int) (r : Int × Int) (h : math_bits_Mul32 a0 a1 = some r) {al : Bool} : PCalls Try.prog 32 [.pv (.raw (.int .u32 a0)), .pv (.raw (.int .u32 a1))] al (.tup [.pv (.raw (.int .u32 r.1)), .pv (.raw (.int .u32 r.2))]) [] := by
  unfold math_bits_Mul32 at h
  refine fn_ok tabOk Try.func32 (by kernel_rfl) (by kernel_rfl) Try.ntmps32 (by simp) ?_
  refine segs [] tabOk mixed 4000 (S := .and (0 ≤ (32 : Int)) (.leaf 0)) (by kernel_rfl) ?_
  refine sk_and (by decide) ?_
  refine sk_leaf ?_
  obtain rfl := some_ h
  exact end_ok [] Try.results32 (ps := [((IntKind.u32.wrap (Int.fdiv (IntKind.u64.wrap ((IntKind.u64.wrap a0) * (IntKind.u64.wrap a1))) (2 ^ (min (Int.toNat 32) IntKind.u64.bits)))) : Int) = (IntKind.u32.wrap (Int.fdiv (IntKind.u64.wrap ((IntKind.u64.wrap a0) * (IntKind.u64.wrap a1))) (2 ^ (min (Int.toNat 32) IntKind.u64.bits)))), ((IntKind.u32.wrap (IntKind.u64.wrap ((IntKind.u64.wrap a0) * (IntKind.u64.wrap a1)))) : Int) = (IntKind.u32.wrap (IntKind.u64.wrap ((IntKind.u64.wrap a0) * (IntKind.u64.wrap a1))))]) (by kernel_rfl) ⟨rfl, rfl, trivial⟩ (fun _ => ⟨rfl, by simp⟩)

set_option maxHeartbeats 40000000 in
set_option maxRecDepth 100000 in
theorem math_bits_Mul64_ok (a0 : Int) (a1 : Int) (r : Int × Int) (h : math_bits_Mul64 a0 a1 = some r) {al : Bool} : PCalls Try.prog 33 [.pv (.raw (.int .u64 a0)), .pv (.raw (.int .u64 a1))] al (.tup [.pv (.raw (.int .u64 r.1)), .pv (.raw (.int .u64 r.2))]) [] := by
  unfold math_bits_Mul64 at h
  refine fn_ok tabOk Try.func33 (by kernel_rfl) (by kernel_rfl) Try.ntmps33 (by simp) ?_
  refine segs [] tabOk mixed 4000 (S := .and (0 ≤ (32 : Int)) (.and (0 ≤ (32 : Int)) (.and (0 ≤ (32 : Int)) (.and (0 ≤ (32 : Int)) (.and (0 ≤ (32 : Int)) (.leaf 0)))))) (by kernel_rfl) ?_
  refine sk_and (by decide) ?_
  refine sk_and (by decide) ?_
  refine sk_and (by decide) ?_
  refine sk_and (by decide) ?_
  refine sk_and (by decide) ?_
  refine sk_leaf ?_
  obtain rfl := some_ h
  exact end_ok [] Try.results33 (ps := [((IntKind.u64.wrap ((IntKind.u64.wrap ((IntKind.u64.wrap ((Int.fdiv a0 (2 ^ (min (Int.toNat 32) IntKind.u64.bits))) * (Int.fdiv a1 (2 ^ (min (Int.toNat 32) IntKind.u64.bits))))) + (Int.fdiv (IntKind.u64.wrap ((IntKind.u64.wrap ((Int.fdiv a0 (2 ^ (min (Int.toNat 32) IntKind.u64.bits))) * (bitsOf .and .u64 a1 4294967295))) + (Int.fdiv (IntKind.u64.wrap ((bitsOf .and .u64 a0 4294967295) * (bitsOf .and .u64 a1 4294967295))) (2 ^ (min (Int.toNat 32) IntKind.u64.bits))))) (2 ^ (min (Int.toNat 32) IntKind.u64.bits))))) + (Int.fdiv (IntKind.u64.wrap ((bitsOf .and .u64 (IntKind.u64.wrap ((IntKind.u64.wrap ((Int.fdiv a0 (2 ^ (min (Int.toNat 32) IntKind.u64.bits))) * (bitsOf .and .u64 a1 4294967295))) + (Int.fdiv (IntKind.u64.wrap ((bitsOf .and .u64 a0 4294967295) * (bitsOf .and .u64 a1 4294967295))) (2 ^ (min (Int.toNat 32) IntKind.u64.bits))))) 4294967295) + (IntKind.u64.wrap ((bitsOf .and .u64 a0 4294967295) * (Int.fdiv a1 (2 ^ (min (Int.toNat 32) IntKind.u64.bits))))))) (2 ^ (min (Int.toNat 32) IntKind.u64.bits))))) : Int) = (IntKind.u64.wrap ((IntKind.u64.wrap ((IntKind.u64.wrap ((Int.fdiv a0 (2 ^ (min (Int.toNat 32) IntKind.u64.bits))) * (Int.fdiv a1 (2 ^ (min (Int.toNat 32) IntKind.u64.bits))))) + (Int.fdiv (IntKind.u64.wrap ((IntKind.u64.wrap ((Int.fdiv a0 (2 ^ (min (Int.toNat 32) IntKind.u64.bits))) * (bitsOf .and .u64 a1 4294967295))) + (Int.fdiv (IntKind.u64.wrap ((bitsOf .and .u64 a0 4294967295) * (bitsOf .and .u64 a1 4294967295))) (2 ^ (min (Int.toNat 32) IntKind.u64.bits))))) (2 ^ (min (Int.toNat 32) IntKind.u64.bits))))) + (Int.fdiv (IntKind.u64.wrap ((bitsOf .and .u64 (IntKind.u64.wrap ((IntKind.u64.wrap ((Int.fdiv a0 (2 ^ (min (Int.toNat 32) IntKind.u64.bits))) * (bitsOf .and .u64 a1 4294967295))) + (Int.fdiv (IntKind.u64.wrap ((bitsOf .and .u64 a0 4294967295) * (bitsOf .and .u64 a1 4294967295))) (2 ^ (min (Int.toNat 32) IntKind.u64.bits))))) 4294967295) + (IntKind.u64.wrap ((bitsOf .and .u64 a0 4294967295) * (Int.fdiv a1 (2 ^ (min (Int.toNat 32) IntKind.u64.bits))))))) (2 ^ (min (Int.toNat 32) IntKind.u64.bits))))), ((IntKind.u64.wrap (a0 * a1)) : Int) = (IntKind.u64.wrap (a0 * a1))]) (by kernel_rfl) ⟨rfl, rfl, trivial⟩ (fun _ => ⟨rfl, by simp⟩)

set_option maxHeartbeats 40000000 in
set_option maxRecDepth 100000 in
theorem math_bits_Mul_ok (a0 : Int) (a1 : Int) (r : Int × Int) (h : math_bits_Mul a0 a1 = some r) {al : Bool} : PCalls Try.prog 27 [.pv (.raw (.int .u64 a0)), .pv (.raw (.int .u64 a1))] al (.tup [.pv (.raw (.int .u64 r.1)), .pv (.raw (.int .u64 r.2))]) [] := by
  unfold math_bits_Mul at h
  refine fn_ok tabOk Try.func27 (by kernel_rfl) (by kernel_rfl) Try.ntmps27 (by simp) ?_
  refine segs [] tabOk mixed 4000 (S := .br false (.leaf 0) (.leaf 1)) (by kernel_rfl) ?_
  refine br_ h ?_ ?_ <;> clear h <;> intro c1 h
  · refine sk_leaf ?_
    obtain ⟨r2, e3, h⟩ := bd_ h
    refine call_ok (d := some 15) (fn := 32) (ax := [.pv (.raw (.int .u32 (IntKind.u32.wrap a0))), .pv (.raw (.int .u32 (IntKind.u32.wrap a1)))]) (args := [.pv (.raw (.int .u32 (IntKind.u32.wrap a0))), .pv (.raw (.int .u32 (IntKind.u32.wrap a1)))]) (ps := [((IntKind.u32.wrap a0) : Int) = (IntKind.u32.wrap a0), ((IntKind.u32.wrap a1) : Int) = (IntKind.u32.wrap a1)]) (hb' := []) (by kernel_rfl) (math_bits_Mul32_ok _ _ _ e3 (al := true)) (by kernel_rfl) ⟨rfl, rfl, trivial⟩ (fun _ => (by kernel_rfl)) (by simp) rfl (by kernel_rfl) ?_
    refine segs [] tabOk mixed 4000 (S := .leaf 0) (by kernel_rfl) ?_
    refine sk_leaf ?_
    obtain rfl := some_ h
    exact end_ok [] Try.results27 (ps := [((IntKind.u64.wrap r2.1) : Int) = (IntKind.u64.wrap r2.1), ((IntKind.u64.wrap r2.2) : Int) = (IntKind.u64.wrap r2.2)]) (by kernel_rfl) ⟨rfl, rfl, trivial⟩ (fun _ => ⟨rfl, by simp⟩)
  · refine sk_leaf ?_
    obtain ⟨r4, e5, h⟩ := bd_ h
    refine call_ok (d := some 25) (fn := 33) (ax := [.pv (.raw (.int .u64 a0)), .pv (.raw (.int .u64 a1))]) (args := [.pv (.raw (.int .u64 a0)), .pv (.raw (.int .u64 a1))]) (ps := [(a0 : Int) = a0, (a1 : Int) = a1]) (hb' := []) (by kernel_rfl) (math_bits_Mul64_ok _ _ _ e5 (al := true)) (by kernel_rfl) ⟨rfl, rfl, trivial⟩ (fun _ => (by kernel_rfl)) (by simp) rfl (by kernel_rfl) ?_
    refine segs [] tabOk mixed 4000 (S := .leaf 0) (by kernel_rfl) ?_
    refine sk_leaf ?_
    obtain rfl := some_ h
    exact end_ok [] Try.results27 (ps := [(r4.1 : Int) = r4.1, (r4.2 : Int) = r4.2]) (by kernel_rfl) ⟨rfl, rfl, trivial⟩ (fun _ => ⟨rfl, by simp⟩)

set_option maxHeartbeats 40000000 in
set_option maxRecDepth 100000 in
theorem slices_Repeat_api_Thread_ok (a0 : (List Api_Thread)) (a1 : Int) (r : (List Api_Thread)) (h : slices_Repeat_api_Thread a0 a1 = some r) {al : Bool} : PCalls Try.prog 14 [.pv ((E25.ro a0)), .pv (.raw (.int .i64 a1))] al (.row 0 3 0 r.length) [.row 25 3 (E25.cR r)] := by
  unfold slices_Repeat_api_Thread at h
  refine fn_ok tabOk Try.func14 (by kernel_rfl) (by kernel_rfl) Try.ntmps14 (by simp) ?_
  refine segs [] tabOk mixed 4000 (S := .br (decide ((a1 : Int) < 0)) (.bad) (.leaf 0)) (by kernel_rfl) ?_
  refine br_ h ?_ ?_ <;> clear h <;> intro c1 h
  · cases h
  · refine sk_leaf ?_
    obtain ⟨r2, e3, h⟩ := bd_ h
    refine call_ok (d := some 18) (fn := 27) (ax := [.pv (.raw (.int .u64 (IntKind.u64.wrap ((a0.length : Nat) : Int)))), .pv (.raw (.int .u64 (IntKind.u64.wrap a1)))]) (args := [.pv (.raw (.int .u64 (IntKind.u64.wrap ((a0.length : Nat) : Int)))), .pv (.raw (.int .u64 (IntKind.u64.wrap a1)))]) (ps := [((IntKind.u64.wrap ((a0.length : Nat) : Int)) : Int) = (IntKind.u64.wrap ((a0.length : Nat) : Int)), ((IntKind.u64.wrap a1) : Int) = (IntKind.u64.wrap a1)]) (hb' := []) (by kernel_rfl) (math_bits_Mul_ok _ _ _ e3 (al := true)) (by kernel_rfl) ⟨rfl, rfl, trivial⟩ (fun _ => (by kernel_rfl)) (by simp) rfl (by kernel_rfl) ?_
    refine segs [] tabOk mixed 4000 (S := .and (((!(decide ((r2.1 : Int) > 0))) = true → ((!(decide ((r2.1 : Int) > 0))) = true))) (.and ((decide ((r2.1 : Int) > 0)) = false → (!(decide ((r2.1 : Int) > 0))) = true) (.br ((decide ((r2.1 : Int) > 0)) || (decide ((r2.2 : Int) > 9223372036854775807))) (.bad) (.leaf 0)))) (by kernel_rfl) ?_
    refine sk_and (fun h => h) ?_
    refine sk_and ((by decide : ∀ y0 : Bool, ((y0 = false) → ((!y0) = true))) (decide ((r2.1 : Int) > 0))) ?_
    refine br_ h ?_ ?_ <;> clear h <;> intro c6 h
    · cases h
    · refine sk_leaf ?_
      obtain ⟨g7, h⟩ := if_ h
      refine mks_ok (d := 30) (e := 25) (s := 3) (b := 24) (n := (IntKind.i64.wrap r2.2)) (zs := [.pv (.raw (.int .i64 0)), .pv (.raw (.int .i64 0)), .pv (.raw (.int .i64 0))]) E25 (by kernel_rfl) (by kernel_rfl) rfl (by kernel_rfl) g7 (by kernel_rfl) ?_
      refine segs [] tabOk mixed 4000 (S := .leaf 0) (by kernel_rfl) ?_
      refine sk_leaf ?_
      obtain ⟨g8, h⟩ := if_ h
      refine cp_ok (d := 33) (s := 3) (id := 18304) (e := 25) (off := 0) (len := (Int.toNat (IntKind.i64.wrap r2.2))) (y := .pv ((E25.ro a0))) E25 (xs := (List.replicate (Int.toNat (IntKind.i64.wrap r2.2)) (⟨0, 0, 0⟩ : Api_Thread))) (ys := a0) (by kernel_rfl) rfl (by kernel_rfl) (.ro a0) g8 ?_
      refine segs [] tabOk mixed 4000 (S := .leaf 0) (by kernel_rfl) ?_
      refine sk_leaf ?_
      refine len_row (by kernel_rfl) 18304 (e := 25) (s := 3) (n := (cpL (List.replicate (Int.toNat (IntKind.i64.wrap r2.2)) (⟨0, 0, 0⟩ : Api_Thread)) 0 (min a0.length (Int.toNat (IntKind.i64.wrap r2.2))) a0).length) (cs := E25.cR (cpL (List.replicate (Int.toNat (IntKind.i64.wrap r2.2)) (⟨0, 0, 0⟩ : Api_Thread)) 0 (min a0.length (Int.toNat (IntKind.i64.wrap r2.2))) a0)) (by kernel_rfl) (Elem.cR_length _ _) ?_; intro hl1_0
      replace h : (fun (x : Nat × Int × List Api_Thread) => slices_Repeat_api_Thread_l1 a0 r2 x.1 x.2.1 x.2.2 = some r) (FUEL, (((min a0.length (Int.toNat (IntKind.i64.wrap r2.2))) : Nat) : Int), (cpL (List.replicate (Int.toNat (IntKind.i64.wrap r2.2)) (⟨0, 0, 0⟩ : Api_Thread)) 0 (min a0.length (Int.toNat (IntKind.i64.wrap r2.2))) a0)) := h
      refine loop_ok (by kernel_rfl) (X := Nat × Int × List Api_Thread) (fun x => slices_Repeat_api_Thread_l1 a0 r2 x.1 x.2.1 x.2.2 = some r) (fun x => x.1) (fun x => mk 48 [(4, .pv (.raw (.slice none 0 0))), (7, .row 0 3 0 x.2.2.length), (8, .pv (.raw (.int .i64 x.2.1)))] [(0, .row 25 3 (E25.cR x.2.2))]) (FUEL, (((min a0.length (Int.toNat (IntKind.i64.wrap r2.2))) : Nat) : Int), (cpL (List.replicate (Int.toNat (IntKind.i64.wrap r2.2)) (⟨0, 0, 0⟩ : Api_Thread)) 0 (min a0.length (Int.toNat (IntKind.i64.wrap r2.2))) a0)) h ?_ ?_
      · exact sub_ok (ρ := [(0, some 18304)]) (l := [0 = 0, (Int.toNat (IntKind.i64.wrap r2.2)) = ((cpL (List.replicate (Int.toNat (IntKind.i64.wrap r2.2)) (⟨0, 0, 0⟩ : Api_Thread)) 0 (min a0.length (Int.toNat (IntKind.i64.wrap r2.2))) a0).length), ((((min a0.length (Int.toNat (IntKind.i64.wrap r2.2))) : Nat) : Int) : Int) = (((min a0.length (Int.toNat (IntKind.i64.wrap r2.2))) : Nat) : Int), E25.cR (cpL (List.replicate (Int.toNat (IntKind.i64.wrap r2.2)) (⟨0, 0, 0⟩ : Api_Thread)) 0 (min a0.length (Int.toNat (IntKind.i64.wrap r2.2))) a0) = E25.cR (cpL (List.replicate (Int.toNat (IntKind.i64.wrap r2.2)) (⟨0, 0, 0⟩ : Api_Thread)) 0 (min a0.length (Int.toNat (IntKind.i64.wrap r2.2))) a0), AllPv (E25.cR (cpL (List.replicate (Int.toNat (IntKind.i64.wrap r2.2)) (⟨0, 0, 0⟩ : Api_Thread)) 0 (min a0.length (Int.toNat (IntKind.i64.wrap r2.2))) a0))]) (by kernel_rfl) ⟨rfl, (by first | rfl | (simp; done) | omega | (simp <;> omega)), rfl, rfl, (Elem.cR_pv _ _), trivial⟩
      · clear h; rintro ⟨n1, x9, l10⟩ h p1 hp1
        obtain _ | n1 := n1
        · cases (show (none : Option ((List Api_Thread))) = some r from h)
        have h : slices_Repeat_api_Thread_l1 a0 r2 (n1 + 1) x9 l10 = some r := h
        unfold slices_Repeat_api_Thread_l1 at h
        refine segs [] tabOk mixed 4000 (S := .br (decide ((x9 : Int) < ((l10.length : Nat) : Int))) (.and (0 ≤ (x9 : Int)) (.and ((Int.toNat x9) ≤ l10.length) (.and (0 ≤ (x9 : Int)) (.and ((Int.toNat x9) ≤ l10.length) (.leaf 0))))) (.leaf 1)) (by kernel_rfl) ?_
        refine br_ h ?_ ?_ <;> clear h <;> intro c11 h
        · refine gd_ h ?_; clear h; intro g12 h
          refine gd_ h ?_; clear h; intro g13 h
          refine gd_ h ?_; clear h; intro g14 h
          refine gd_ h ?_; clear h; intro g15 h
          refine sk_leaf ?_
          obtain ⟨g16, h⟩ := if_ h
          refine cp_ok (d := 45) (s := 3) (id := 0) (e := 25) (off := (0 + (Int.toNat x9))) (len := (l10.length - (Int.toNat x9))) (y := .row 0 3 (0 + 0) ((Int.toNat x9) - 0)) E25 (xs := l10) (ys := ((l10.drop (0 + 0)).take ((Int.toNat x9) - 0))) (by kernel_rfl) rfl (by kernel_rfl) (.row 0 25 (0 + 0) ((Int.toNat x9) - 0) l10 (by kernel_rfl) g16.2) g16.1 ?_
          refine segs [] tabOk mixed 4000 (S := .leaf 0) (by kernel_rfl) ?_
          refine sk_leaf ?_
          refine back_ok (p := p1) (by kernel_rfl) (hp1 (n1, (IntKind.i64.wrap (x9 + (((min ((l10.drop (0 + 0)).take ((Int.toNat x9) - 0)).length (l10.length - (Int.toNat x9))) : Nat) : Int))), (cpL l10 (0 + (Int.toNat x9)) (min ((l10.drop (0 + 0)).take ((Int.toNat x9) - 0)).length (l10.length - (Int.toNat x9))) ((l10.drop (0 + 0)).take ((Int.toNat x9) - 0)))) _ h (Nat.lt_succ_self n1) ?_)
          exact sub_ok (ρ := [(0, some 0)]) (l := [0 = 0, l10.length = ((cpL l10 (0 + (Int.toNat x9)) (min ((l10.drop (0 + 0)).take ((Int.toNat x9) - 0)).length (l10.length - (Int.toNat x9))) ((l10.drop (0 + 0)).take ((Int.toNat x9) - 0))).length), ((IntKind.i64.wrap (x9 + (((min ((l10.drop (0 + 0)).take ((Int.toNat x9) - 0)).length (l10.length - (Int.toNat x9))) : Nat) : Int))) : Int) = (IntKind.i64.wrap (x9 + (((min ((l10.drop (0 + 0)).take ((Int.toNat x9) - 0)).length (l10.length - (Int.toNat x9))) : Nat) : Int))), E25.cR (cpL l10 (0 + (Int.toNat x9)) (min ((l10.drop (0 + 0)).take ((Int.toNat x9) - 0)).length (l10.length - (Int.toNat x9))) ((l10.drop (0 + 0)).take ((Int.toNat x9) - 0))) = E25.cR (cpL l10 (0 + (Int.toNat x9)) (min ((l10.drop (0 + 0)).take ((Int.toNat x9) - 0)).length (l10.length - (Int.toNat x9))) ((l10.drop (0 + 0)).take ((Int.toNat x9) - 0))), AllPv (E25.cR (cpL l10 (0 + (Int.toNat x9)) (min ((l10.drop (0 + 0)).take ((Int.toNat x9) - 0)).length (l10.length - (Int.toNat x9))) ((l10.drop (0 + 0)).take ((Int.toNat x9) - 0))))]) (by kernel_rfl) ⟨rfl, (by first | rfl | (simp; done) | omega | (simp <;> omega)), rfl, rfl, (Elem.cR_pv _ _), trivial⟩
        · refine sk_leaf ?_
          obtain rfl := some_ h
          exact end_ok [(0, some 0)] Try.results14 (ps := [0 = 0, l10.length = l10.length, E25.cR l10 = E25.cR l10, AllPv (E25.cR l10)]) (by kernel_rfl) ⟨rfl, rfl, rfl, (Elem.cR_pv _ _), trivial⟩ (fun _ => ⟨rfl, by simp only [List.mem_cons, List.not_mem_nil, or_false, forall_eq_or_imp, forall_eq]; exact Elem.cR_bald E25_raw _⟩)

set_option maxHeartbeats 40000000 in
set_option maxRecDepth 100000 in
theorem slices_Max_int_ok (a0 : (List Int)) (r : Int) (h : slices_Max_int a0 = some r) {al : Bool} : PCalls Try.prog 15 [.pv ((E3.ro a0))] al (.pv (.raw (.int .i64 r))) [] := by
  unfold slices_Max_int at h
  refine fn_ok tabOk Try.func15 (by kernel_rfl) (by kernel_rfl) Try.ntmps15 (by simp) ?_
  refine segs [] tabOk mixed 4000 (S := .br (decide ((((a0.length : Nat) : Int) : Int) < 1)) (.bad) (.and (0 ≤ (0 : Int) ∧ 0 < ((a0.length : Nat) : Int)) (.leaf 0))) (by kernel_rfl) ?_
  refine br_ h ?_ ?_ <;> clear h <;> intro c1 h
  · cases h
  · refine gd_ h ?_; clear h; intro g2 h
    refine sk_leaf ?_
    refine len_ro (by kernel_rfl) 0 (s := 1) (n := a0.length) (c := fun i j => E3.cf (a0.getD i E3.z) j) (by kernel_rfl) ?_; intro hl1_0
    replace h : (fun (x : Nat × Int × Int) => slices_Max_int_l1 a0 x.1 x.2.1 x.2.2 = some r) (FUEL, (a0.getD 0 0), 1) := h
    refine loop_ok (by kernel_rfl) (X := Nat × Int × Int) (fun x => slices_Max_int_l1 a0 x.1 x.2.1 x.2.2 = some r) (fun x => x.1) (fun x => mk 25 [(0, .pv ((E3.ro a0))), (2, .pv (.raw (.int .i64 0))), (3, .pv (.raw (.int .i64 x.2.1))), (4, .pv (.raw (.int .i64 x.2.2)))] []) (FUEL, (a0.getD 0 0), 1) h ?_ ?_
    · exact sub_ok (ρ := []) (l := [a0.length = a0.length, ∀ i, i < a0.length → ∀ j, j < 1 → E3.cf (a0.getD i E3.z) j = E3.cf (a0.getD i E3.z) j, (0 : Int) = 0, ((a0.getD 0 0) : Int) = (a0.getD 0 0), (1 : Int) = 1]) (by kernel_rfl) ⟨rfl, fun _ _ _ _ => rfl, rfl, rfl, rfl, trivial⟩
    · clear h; rintro ⟨n1, x3, x4⟩ h p1 hp1
      obtain _ | n1 := n1
      · cases (show (none : Option (Int)) = some r from h)
      have h : slices_Max_int_l1 a0 (n1 + 1) x3 x4 = some r := h
      unfold slices_Max_int_l1 at h
      refine segs [] tabOk mixed 4000 (S := .br (decide ((x4 : Int) < ((a0.length : Nat) : Int))) (.and (0 ≤ (x4 : Int) ∧ x4 < ((a0.length : Nat) : Int)) (.leaf 0)) (.leaf 1)) (by kernel_rfl) ?_
      refine br_ h ?_ ?_ <;> clear h <;> intro c5 h
      · refine gd_ h ?_; clear h; intro g6 h
        refine sk_leaf ?_
        refine back_ok (p := p1) (by kernel_rfl) (hp1 (n1, (if ((a0.getD (Int.toNat x4) 0) : Int) > x3 then (a0.getD (Int.toNat x4) 0) else x3), (IntKind.i64.wrap (x4 + 1))) _ h (Nat.lt_succ_self n1) ?_)
        exact sub_ok (ρ := []) (l := [a0.length = a0.length, ∀ i, i < a0.length → ∀ j, j < 1 → E3.cf (a0.getD i E3.z) j = E3.cf (a0.getD i E3.z) j, (0 : Int) = 0, ((if ((a0.getD (Int.toNat x4) 0) : Int) > x3 then (a0.getD (Int.toNat x4) 0) else x3) : Int) = (if ((a0.getD (Int.toNat x4) 0) : Int) > x3 then (a0.getD (Int.toNat x4) 0) else x3), ((IntKind.i64.wrap (x4 + 1)) : Int) = (IntKind.i64.wrap (x4 + 1))]) (by kernel_rfl) ⟨rfl, fun _ _ _ _ => rfl, rfl, rfl, rfl, trivial⟩
      · refine sk_leaf ?_
        obtain rfl := some_ h
        exact end_ok [] Try.results15 (ps := [(x3 : Int) = x3]) (by kernel_rfl) ⟨rfl, trivial⟩ (fun _ => ⟨rfl, by simp⟩)

set_option maxHeartbeats 40000000 in
set_option maxRecDepth 100000 in
theorem slices_Min_int_ok (a0 : (List Int)) (r : Int) (h : slices_Min_int a0 = some r) {al : Bool} : PCalls Try.prog 16 [.pv ((E3.ro a0))] al (.pv (.raw (.int .i64 r))) [] := by
  unfold slices_Min_int at h
  refine fn_ok tabOk Try.func16 (by kernel_rfl) (by kernel_rfl) Try.ntmps16 (by simp) ?_
  refine segs [] tabOk mixed 4000 (S := .br (decide ((((a0.length : Nat) : Int) : Int) < 1)) (.bad) (.and (0 ≤ (0 : Int) ∧ 0 < ((a0.length : Nat) : Int)) (.leaf 0))) (by kernel_rfl) ?_
  refine br_ h ?_ ?_ <;> clear h <;> intro c1 h
  · cases h
  · refine gd_ h ?_; clear h; intro g2 h
    refine sk_leaf ?_
    refine len_ro (by kernel_rfl) 0 (s := 1) (n := a0.length) (c := fun i j => E3.cf (a0.getD i E3.z) j) (by kernel_rfl) ?_; intro hl1_0
    replace h : (fun (x : Nat × Int × Int) => slices_Min_int_l1 a0 x.1 x.2.1 x.2.2 = some r) (FUEL, (a0.getD 0 0), 1) := h
    refine loop_ok (by kernel_rfl) (X := Nat × Int × Int) (fun x => slices_Min_int_l1 a0 x.1 x.2.1 x.2.2 = some r) (fun x => x.1) (fun x => mk 25 [(0, .pv ((E3.ro a0))), (2, .pv (.raw (.int .i64 0))), (3, .pv (.raw (.int .i64 x.2.1))), (4, .pv (.raw (.int .i64 x.2.2)))] []) (FUEL, (a0.getD 0 0), 1) h ?_ ?_
    · exact sub_ok (ρ := []) (l := [a0.length = a0.length, ∀ i, i < a0.length → ∀ j, j < 1 → E3.cf (a0.getD i E3.z) j = E3.cf (a0.getD i E3.z) j, (0 : Int) = 0, ((a0.getD 0 0) : Int) = (a0.getD 0 0), (1 : Int) = 1]) (by kernel_rfl) ⟨rfl, fun _ _ _ _ => rfl, rfl, rfl, rfl, trivial⟩
    · clear h; rintro ⟨n1, x3, x4⟩ h p1 hp1
      obtain _ | n1 := n1
      · cases (show (none : Option (Int)) = some r from h)
      have h : slices_Min_int_l1 a0 (n1 + 1) x3 x4 = some r := h
      unfold slices_Min_int_l1 at h
      refine segs [] tabOk mixed 4000 (S := .br (decide ((x4 : Int) < ((a0.length : Nat) : Int))) (.and (0 ≤ (x4 : Int) ∧ x4 < ((a0.length : Nat) : Int)) (.leaf 0)) (.leaf 1)) (by kernel_rfl) ?_
      refine br_ h ?_ ?_ <;> clear h <;> intro c5 h
      · refine gd_ h ?_; clear h; intro g6 h
        refine sk_leaf ?_
        refine back_ok (p := p1) (by kernel_rfl) (hp1 (n1, (if ((a0.getD (Int.toNat x4) 0) : Int) < x3 then (a0.getD (Int.toNat x4) 0) else x3), (IntKind.i64.wrap (x4 + 1))) _ h (Nat.lt_succ_self n1) ?_)
        exact sub_ok (ρ := []) (l := [a0.length = a0.length, ∀ i, i < a0.length → ∀ j, j < 1 → E3.cf (a0.getD i E3.z) j = E3.cf (a0.getD i E3.z) j, (0 : Int) = 0, ((if ((a0.getD (Int.toNat x4) 0) : Int) < x3 then (a0.getD (Int.toNat x4) 0) else x3) : Int) = (if ((a0.getD (Int.toNat x4) 0) : Int) < x3 then (a0.getD (Int.toNat x4) 0) else x3), ((IntKind.i64.wrap (x4 + 1)) : Int) = (IntKind.i64.wrap (x4 + 1))]) (by kernel_rfl) ⟨rfl, fun _ _ _ _ => rfl, rfl, rfl, rfl, trivial⟩
      · refine sk_leaf ?_
        obtain rfl := some_ h
        exact end_ok [] Try.results16 (ps := [(x3 : Int) = x3]) (by kernel_rfl) ⟨rfl, trivial⟩ (fun _ => ⟨rfl, by simp⟩)

set_option maxHeartbeats 40000000 in
set_option maxRecDepth 100000 in
theorem keep_CoresFair_ok (a0 : Int) (a1 : Int) (a2 : Int) (a3 : Int) (r : Bool) (h : keep_CoresFair a0 a1 a2 a3 = some r) {al : Bool} : PCalls Try.prog 6 [.pv (.raw (.int .i64 a0)), .pv (.raw (.int .i64 a1)), .pv (.raw (.int .i64 a2)), .pv (.raw (.int .i64 a3))] al (.pv (.raw (.bool r))) [] := by
  unfold keep_CoresFair at h
  refine fn_ok tabOk Try.func6 (by kernel_rfl) (by kernel_rfl) Try.ntmps6 (by simp) ?_
  refine segs [] tabOk mixed 4000 (S := .leaf 0) (by kernel_rfl) ?_
  refine sk_leaf ?_
  obtain ⟨r1, e2, h⟩ := bd_ h
  refine call_ok (d := some 16) (fn := 7) (ax := []) (args := []) (ps := []) (hb' := []) (by kernel_rfl) (keep_alive14_ok  _ e2 (al := true)) (by kernel_rfl) trivial (fun _ => (by kernel_rfl)) (by simp) rfl (by kernel_rfl) ?_
  refine segs [] tabOk mixed 4000 (S := .br (!r1) (.leaf 0) (.and (((!(decide ((a2 : Int) < 1))) = true → ((!(decide ((a2 : Int) < 1))) = true))) (.and ((decide ((a2 : Int) < 1)) = false → (!(decide ((a2 : Int) < 1))) = true) (.and (((!((decide ((a2 : Int) < 1)) || (decide ((a2 : Int) > 64)))) = true → ((!((decide ((a2 : Int) < 1)) || (decide ((a2 : Int) > 64)))) = true))) (.and (((decide ((a2 : Int) < 1)) || (decide ((a2 : Int) > 64))) = false → (!((decide ((a2 : Int) < 1)) || (decide ((a2 : Int) > 64)))) = true) (.and (((!(((decide ((a2 : Int) < 1)) || (decide ((a2 : Int) > 64))) || (decide ((a3 : Int) < 0)))) = true → ((!(((decide ((a2 : Int) < 1)) || (decide ((a2 : Int) > 64))) || (decide ((a3 : Int) < 0)))) = true))) (.and ((((decide ((a2 : Int) < 1)) || (decide ((a2 : Int) > 64))) || (decide ((a3 : Int) < 0))) = false → (!(((decide ((a2 : Int) < 1)) || (decide ((a2 : Int) > 64))) || (decide ((a3 : Int) < 0)))) = true) (.br ((((decide ((a2 : Int) < 1)) || (decide ((a2 : Int) > 64))) || (decide ((a3 : Int) < 0))) || (decide ((a3 : Int) > 2000))) (.leaf 1) (.leaf 2))))))))) (by kernel_rfl) ?_
  refine br_ h ?_ ?_ <;> clear h <;> intro c3 h
  · refine sk_leaf ?_
    obtain rfl := some_ h
    exact end_ok [] Try.results6 (ps := [false = false]) (by kernel_rfl) ⟨rfl, trivial⟩ (fun _ => ⟨rfl, by simp⟩)
  · refine sk_and (fun h => h) ?_
    refine sk_and ((by decide : ∀ y0 : Bool, ((y0 = false) → ((!y0) = true))) (decide ((a2 : Int) < 1))) ?_
    refine sk_and (fun h => h) ?_
    refine sk_and ((by decide : ∀ y0 : Bool, ((y0 = false) → ((!y0) = true))) ((decide ((a2 : Int) < 1)) || (decide ((a2 : Int) > 64)))) ?_
    refine sk_and (fun h => h) ?_
    refine sk_and ((by decide : ∀ y0 : Bool, ((y0 = false) → ((!y0) = true))) (((decide ((a2 : Int) < 1)) || (decide ((a2 : Int) > 64))) || (decide ((a3 : Int) < 0)))) ?_
    refine br_ h ?_ ?_ <;> clear h <;> intro c10 h
    · refine sk_leaf ?_
      obtain rfl := some_ h
      exact end_ok [] Try.results6 (ps := [true = true]) (by kernel_rfl) ⟨rfl, trivial⟩ (fun _ => ⟨rfl, by simp⟩)
    · refine sk_leaf ?_
      refine bs_ok (d := 36) (e := 25) (s := 3) (n := 1) (cs := [.pv (.raw (.int .i64 0)), .pv (.raw (.int .i64 0)), .pv (.raw (.int .i64 10000))]) (cs' := E25.cR [(⟨0, 0, 10000⟩ : Api_Thread)]) (by kernel_rfl) rfl (by kernel_rfl) ?_
      refine segs [] tabOk mixed 4000 (S := .leaf 0) (by kernel_rfl) ?_
      refine sk_leaf ?_
      obtain ⟨r11, e12, h⟩ := bd_ h
      refine call_ok (d := some 38) (fn := 14) (ax := [.row 18688 3 0 1, .pv (.raw (.int .i64 a2))]) (args := [.pv ((E25.ro [(⟨0, 0, 10000⟩ : Api_Thread)])), .pv (.raw (.int .i64 a2))]) (ps := [1 = [(⟨0, 0, 10000⟩ : Api_Thread)].length, rowQ (E25.cR [(⟨0, 0, 10000⟩ : Api_Thread)]) 3 0 1 (fun i j => E25.cf ([(⟨0, 0, 10000⟩ : Api_Thread)].getD i E25.z) j), (a2 : Int) = a2]) (hb' := [.row 25 3 (E25.cR r11)]) (by kernel_rfl) (slices_Repeat_api_Thread_ok _ _ _ e12 (al := false)) (by kernel_rfl) ⟨(by first | rfl | exact Elem.sub_len _ (by omega) | omega | simp | (simp <;> omega)), E25.rowQ_all [(⟨0, 0, 10000⟩ : Api_Thread)] rfl, rfl, trivial⟩ (fun hx => by cases hx) (by simp) (by simp only [List.map_cons, List.map_nil, Elem.row_up, up_map] <;> rfl) (by kernel_rfl) ?_
      refine segs [] tabOk mixed 4000 (S := .leaf 0) (by kernel_rfl) ?_
      refine sk_leaf ?_
      obtain ⟨r13, e14, h⟩ := bd_ h
      refine call_ok (d := some 40) (fn := 8) (ax := [.pv (.raw (.int .i64 a0)), .pv (.raw (.int .i64 a1)), .row 18816 3 0 r11.length, .pv (.raw (.int .i64 a3))]) (args := [.pv (.raw (.int .i64 a0)), .pv (.raw (.int .i64 a1)), .pv ((E25.ro r11)), .pv (.raw (.int .i64 a3))]) (ps := [(a0 : Int) = a0, (a1 : Int) = a1, r11.length = r11.length, rowQ (E25.cR r11) 3 0 r11.length (fun i j => E25.cf (r11.getD i E25.z) j), (a3 : Int) = a3]) (hb' := [.row 30 1 (E30.cR r13.1)]) (by kernel_rfl) (cores_Run_ok _ _ _ _ _ e14 (al := false)) (by kernel_rfl) ⟨rfl, rfl, (by first | rfl | exact Elem.sub_len _ (by omega) | omega | simp | (simp <;> omega)), E25.rowQ_all r11 rfl, rfl, trivial⟩ (fun hx => by cases hx) (by simp) (by simp only [List.map_cons, List.map_nil, Elem.row_up, up_map] <;> rfl) (by kernel_rfl) ?_
      refine segs [] tabOk mixed 4000 (S := .br ((r13.2 : Int) != 0) (.leaf 0) (.leaf 1)) (by kernel_rfl) ?_
      refine br_ h ?_ ?_ <;> clear h <;> intro c15 h
      · refine sk_leaf ?_
        obtain rfl := some_ h
        exact end_ok [] Try.results6 (ps := [true = true]) (by kernel_rfl) ⟨rfl, trivial⟩ (fun _ => ⟨rfl, by simp⟩)
      · refine sk_leaf ?_
        obtain ⟨g16, h⟩ := if_ h
        refine mks_ok (d := 46) (e := 3) (s := 1) (b := 8) (n := a2) (zs := [.pv (.raw (.int .i64 0))]) E3 (by kernel_rfl) (by kernel_rfl) rfl (by kernel_rfl) g16 (by kernel_rfl) ?_
        refine segs [] tabOk mixed 4000 (S := .leaf 0) (by kernel_rfl) ?_
        refine sk_leaf ?_
        refine len_row (by kernel_rfl) 18688 (e := 25) (s := 3) (n := [(⟨0, 0, 10000⟩ : Api_Thread)].length) (cs := E25.cR [(⟨0, 0, 10000⟩ : Api_Thread)]) (by kernel_rfl) (Elem.cR_length _ _) ?_; intro hl1_0
        refine len_row (by kernel_rfl) 18816 (e := 25) (s := 3) (n := r11.length) (cs := E25.cR r11) (by kernel_rfl) (Elem.cR_length _ _) ?_; intro hl1_1
        refine len_row (by kernel_rfl) 18944 (e := 30) (s := 1) (n := r13.1.length) (cs := E30.cR r13.1) (by kernel_rfl) (Elem.cR_length _ _) ?_; intro hl1_2
        refine len_row (by kernel_rfl) 19328 (e := 3) (s := 1) (n := (List.replicate (Int.toNat a2) (0 : Int)).length) (cs := E3.cR (List.replicate (Int.toNat a2) (0 : Int))) (by kernel_rfl) (Elem.cR_length _ _) ?_; intro hl1_3
        replace h : (fun (x : Nat × Nat × List Int) => keep_CoresFair_l1 a1 a2 r13 x.1 x.2.1 x.2.2 = some r) (FUEL, 0, (List.replicate (Int.toNat a2) (0 : Int))) := h
        refine loop_ok (by kernel_rfl) (X := Nat × Nat × List Int) (fun x => keep_CoresFair_l1 a1 a2 r13 x.1 x.2.1 x.2.2 = some r) (fun x => x.1) (fun x => mk 81 [(1, .pv (.raw (.int .i64 a1))), (2, .pv (.raw (.int .i64 a2))), (8, .pv (.raw (.bool false))), (11, .row 0 1 0 x.2.2.length), (47, .row 1 1 0 r13.1.length), (48, .pv (.raw (.int .i64 ((r13.1.length : Nat) : Int)))), (49, .pv (.raw (.int .i64 ((x.2.1 : Nat) : Int))))] [(0, .row 3 1 (E3.cR x.2.2)), (1, .row 30 1 (E30.cR r13.1))]) (FUEL, 0, (List.replicate (Int.toNat a2) (0 : Int))) h ?_ ?_
        · exact sub_ok (ρ := [(0, some 19328), (1, some 18944)]) (l := [(a1 : Int) = a1, (a2 : Int) = a2, false = false, 0 = 0, (Int.toNat a2) = ((List.replicate (Int.toNat a2) (0 : Int)).length), 0 = 0, r13.1.length = r13.1.length, (((r13.1.length : Nat) : Int) : Int) = ((r13.1.length : Nat) : Int), (0 : Int) = ((0 : Nat) : Int), E3.cR (List.replicate (Int.toNat a2) (0 : Int)) = E3.cR (List.replicate (Int.toNat a2) (0 : Int)), AllPv (E3.cR (List.replicate (Int.toNat a2) (0 : Int))), E30.cR r13.1 = E30.cR r13.1, AllPv (E30.cR r13.1)]) (by kernel_rfl) ⟨rfl, rfl, rfl, rfl, (by first | rfl | (simp; done) | omega | (simp <;> omega)), rfl, rfl, rfl, (by first | rfl | simp), rfl, (Elem.cR_pv _ _), rfl, (Elem.cR_pv _ _), trivial⟩
        · clear h; rintro ⟨n1, k17, l18⟩ h p1 hp1
          obtain _ | n1 := n1
          · cases (show (none : Option (Bool)) = some r from h)
          have h : keep_CoresFair_l1 a1 a2 r13 (n1 + 1) k17 l18 = some r := h
          unfold keep_CoresFair_l1 at h
          refine segs [] tabOk mixed 4000 (S := .br (decide ((((k17 : Nat) : Int) : Int) < ((r13.1.length : Nat) : Int))) (.and (0 ≤ (((k17 : Nat) : Int) : Int) ∧ ((k17 : Nat) : Int) < ((r13.1.length : Nat) : Int)) (.leaf 0)) (.leaf 1)) (by kernel_rfl) ?_
          refine br_ h ?_ ?_ <;> clear h <;> intro c19 h
          · refine sk_and ⟨Int.natCast_nonneg _, of_decide_eq_true c19⟩ ?_
            refine sk_leaf ?_
            refine ld_ok (d := 52) (id := 1) (i := (0 + k17)) (j := 0) (e := 30) (n := 1) E30 (xs := r13.1) (by kernel_rfl) (by kernel_rfl) (by first | omega | (simp at * <;> omega) | (simp_all <;> omega)) (by exact Nat.le_of_ble_eq_true rfl) ?_
            refine segs [] tabOk mixed 4000 (S := .leaf 0) (by kernel_rfl) ?_
            refine sk_leaf ?_
            refine len_ro (by kernel_rfl) 53 (s := 1) (n := (r13.1.getD (0 + k17) []).length) (c := fun i j => E3.cf ((r13.1.getD (0 + k17) []).getD i E3.z) j) (by kernel_rfl) ?_; intro hl2_0
            refine len_row (by kernel_rfl) 0 (e := 3) (s := 1) (n := l18.length) (cs := E3.cR l18) (by kernel_rfl) (Elem.cR_length _ _) ?_; intro hl2_1
            refine len_row (by kernel_rfl) 1 (e := 30) (s := 1) (n := r13.1.length) (cs := E30.cR r13.1) (by kernel_rfl) (Elem.cR_length _ _) ?_; intro hl2_2
            obtain ⟨K2_0, hK2_0, h⟩ : ∃ (K2_0 : Nat → (List Int) → Option (Bool)), K2_0 = (fun (k21 : Nat) (l22 : List Int) => keep_CoresFair_l1 a1 a2 r13 n1 (k17 + 1) l22 ) ∧ keep_CoresFair_l2 a2 r13 k17 l18 K2_0 FUEL 0 l18 = some r := ⟨_, rfl, h⟩
            replace h : (fun (x : Nat × Nat × List Int) => keep_CoresFair_l2 a2 r13 k17 l18 K2_0 x.1 x.2.1 x.2.2 = some r) (FUEL, 0, l18) := h
            refine loop_ok (by kernel_rfl) (X := Nat × Nat × List Int) (fun x => keep_CoresFair_l2 a2 r13 k17 l18 K2_0 x.1 x.2.1 x.2.2 = some r) (fun x => x.1) (fun x => mk 81 [(1, .pv (.raw (.int .i64 a1))), (2, .pv (.raw (.int .i64 a2))), (8, .pv (.raw (.bool false))), (11, .row 0 1 0 x.2.2.length), (47, .row 1 1 0 r13.1.length), (48, .pv (.raw (.int .i64 ((r13.1.length : Nat) : Int)))), (49, .pv (.raw (.int .i64 ((k17 : Nat) : Int)))), (53, .pv ((E3.ro (r13.1.getD (0 + k17) [])))), (54, .pv (.raw (.int .i64 (((r13.1.getD (0 + k17) []).length : Nat) : Int)))), (55, .pv (.raw (.int .i64 ((x.2.1 : Nat) : Int))))] [(0, .row 3 1 (E3.cR x.2.2)), (1, .row 30 1 (E30.cR r13.1))]) (FUEL, 0, l18) h ?_ ?_
            · exact sub_ok (ρ := [(0, some 0), (1, some 1)]) (l := [(a1 : Int) = a1, (a2 : Int) = a2, false = false, 0 = 0, l18.length = l18.length, 0 = 0, r13.1.length = r13.1.length, (((r13.1.length : Nat) : Int) : Int) = ((r13.1.length : Nat) : Int), (((k17 : Nat) : Int) : Int) = ((k17 : Nat) : Int), (r13.1.getD (0 + k17) []).length = (r13.1.getD (0 + k17) []).length, ∀ i, i < (r13.1.getD (0 + k17) []).length → ∀ j, j < 1 → E3.cf ((r13.1.getD (0 + k17) []).getD i E3.z) j = E3.cf ((r13.1.getD (0 + k17) []).getD i E3.z) j, ((((r13.1.getD (0 + k17) []).length : Nat) : Int) : Int) = (((r13.1.getD (0 + k17) []).length : Nat) : Int), (0 : Int) = ((0 : Nat) : Int), E3.cR l18 = E3.cR l18, AllPv (E3.cR l18), E30.cR r13.1 = E30.cR r13.1, AllPv (E30.cR r13.1)]) (by kernel_rfl) ⟨rfl, rfl, rfl, rfl, rfl, rfl, rfl, rfl, rfl, rfl, fun _ _ _ _ => rfl, rfl, (by first | rfl | simp), rfl, (Elem.cR_pv _ _), rfl, (Elem.cR_pv _ _), trivial⟩
            · clear h; rintro ⟨n2, k21, l22⟩ h p2 hp2
              obtain _ | n2 := n2
              · cases (show (none : Option (Bool)) = some r from h)
              have h : keep_CoresFair_l2 a2 r13 k17 l18 K2_0 (n2 + 1) k21 l22 = some r := h
              unfold keep_CoresFair_l2 at h
              refine segs [] tabOk mixed 4000 (S := .br (decide ((((k21 : Nat) : Int) : Int) < (((r13.1.getD (0 + k17) []).length : Nat) : Int))) (.and (0 ≤ (((k21 : Nat) : Int) : Int) ∧ ((k21 : Nat) : Int) < (((r13.1.getD (0 + k17) []).length : Nat) : Int)) (.and (((!(decide ((((r13.1.getD (0 + k17) []).getD k21 0) : Int) < 0))) = true → ((!(decide ((((r13.1.getD (0 + k17) []).getD k21 0) : Int) < 0))) = true))) (.and (((!(decide ((((r13.1.getD (0 + k17) []).getD k21 0) : Int) < 0))) = true → ((!(decide ((((r13.1.getD (0 + k17) []).getD k21 0) : Int) < 0))) = true))) (.and ((decide ((((r13.1.getD (0 + k17) []).getD k21 0) : Int) < 0)) = false → (!(decide ((((r13.1.getD (0 + k17) []).getD k21 0) : Int) < 0))) = true) (.br ((decide ((((r13.1.getD (0 + k17) []).getD k21 0) : Int) < 0)) || (decide ((((r13.1.getD (0 + k17) []).getD k21 0) : Int) ≥ a2))) (.leaf 0) (.and (0 ≤ (((r13.1.getD (0 + k17) []).getD k21 0) : Int) ∧ ((r13.1.getD (0 + k17) []).getD k21 0) < ((l22.length : Nat) : Int)) (.leaf 1))))))) (.leaf 2)) (by kernel_rfl) ?_
              refine br_ h ?_ ?_ <;> clear h <;> intro c23 h
              · refine sk_and ⟨Int.natCast_nonneg _, of_decide_eq_true c23⟩ ?_
                refine sk_and (fun h => h) ?_
                refine sk_and (fun h => h) ?_
                refine sk_and ((by decide : ∀ y0 : Bool, ((y0 = false) → ((!y0) = true))) (decide ((((r13.1.getD (0 + k17) []).getD k21 0) : Int) < 0))) ?_
                refine br_ h ?_ ?_ <;> clear h <;> intro c28 h
                · refine sk_leaf ?_
                  obtain rfl := some_ h
                  exact end_ok [] Try.results6 (ps := [false = false]) (by kernel_rfl) ⟨rfl, trivial⟩ (fun _ => ⟨rfl, by simp⟩)
                · refine gd_ h ?_; clear h; intro g29 h
                  refine sk_leaf ?_
                  refine ld_ok (d := 69) (id := 0) (i := (0 + (Int.toNat ((r13.1.getD (0 + k17) []).getD k21 0)))) (j := 0) (e := 3) (n := 1) E3 (xs := l22) (by kernel_rfl) (by kernel_rfl) (by first | omega | (simp at * <;> omega) | (simp_all <;> omega)) (by exact Nat.le_of_ble_eq_true rfl) ?_
                  refine segs [] tabOk mixed 4000 (S := .and (0 ≤ (((r13.1.getD (0 + k17) []).getD k21 0) : Int) ∧ ((r13.1.getD (0 + k17) []).getD k21 0) < ((l22.length : Nat) : Int)) (.leaf 0)) (by kernel_rfl) ?_
                  refine gd_ h ?_; clear h; intro g30 h
                  refine sk_leaf ?_
                  refine st_ok (id := 0) (i := (0 + (Int.toNat ((r13.1.getD (0 + k17) []).getD k21 0)))) (j := 0) (e := 3) (vs := [.pv (.raw (.int .i64 (IntKind.i64.wrap ((l22.getD (0 + (Int.toNat ((r13.1.getD (0 + k17) []).getD k21 0))) 0) + 1))))]) E3 (xs := l22) (IntKind.i64.wrap ((l22.getD (0 + (Int.toNat ((r13.1.getD (0 + k17) []).getD k21 0))) 0) + 1)) (by kernel_rfl) (by kernel_rfl) (by first | omega | (simp at * <;> omega) | (simp_all <;> omega)) (by exact Nat.le_of_ble_eq_true rfl) rfl ?_
                  refine segs [] tabOk mixed 4000 (S := .leaf 0) (by kernel_rfl) ?_
                  refine sk_leaf ?_
                  refine back_ok (p := p2) (by kernel_rfl) (hp2 (n2, k21 + 1, (l22.set (0 + (Int.toNat ((r13.1.getD (0 + k17) []).getD k21 0))) (IntKind.i64.wrap ((l22.getD (0 + (Int.toNat ((r13.1.getD (0 + k17) []).getD k21 0))) 0) + 1)))) _ h (Nat.lt_succ_self n2) ?_)
                  exact sub_ok (ρ := [(0, some 0), (1, some 1)]) (l := [(a1 : Int) = a1, (a2 : Int) = a2, false = false, 0 = 0, l22.length = ((l22.set (0 + (Int.toNat ((r13.1.getD (0 + k17) []).getD k21 0))) (IntKind.i64.wrap ((l22.getD (0 + (Int.toNat ((r13.1.getD (0 + k17) []).getD k21 0))) 0) + 1))).length), 0 = 0, r13.1.length = r13.1.length, (((r13.1.length : Nat) : Int) : Int) = ((r13.1.length : Nat) : Int), (((k17 : Nat) : Int) : Int) = ((k17 : Nat) : Int), (r13.1.getD (0 + k17) []).length = (r13.1.getD (0 + k17) []).length, ∀ i, i < (r13.1.getD (0 + k17) []).length → ∀ j, j < 1 → E3.cf ((r13.1.getD (0 + k17) []).getD i E3.z) j = E3.cf ((r13.1.getD (0 + k17) []).getD i E3.z) j, ((((r13.1.getD (0 + k17) []).length : Nat) : Int) : Int) = (((r13.1.getD (0 + k17) []).length : Nat) : Int), ((IntKind.i64.wrap (((k21 : Nat) : Int) + 1)) : Int) = (((k21 + 1) : Nat) : Int), E3.cR (l22.set (0 + (Int.toNat ((r13.1.getD (0 + k17) []).getD k21 0))) (IntKind.i64.wrap ((l22.getD (0 + (Int.toNat ((r13.1.getD (0 + k17) []).getD k21 0))) 0) + 1))) = E3.cR (l22.set (0 + (Int.toNat ((r13.1.getD (0 + k17) []).getD k21 0))) (IntKind.i64.wrap ((l22.getD (0 + (Int.toNat ((r13.1.getD (0 + k17) []).getD k21 0))) 0) + 1))), AllPv (E3.cR (l22.set (0 + (Int.toNat ((r13.1.getD (0 + k17) []).getD k21 0))) (IntKind.i64.wrap ((l22.getD (0 + (Int.toNat ((r13.1.getD (0 + k17) []).getD k21 0))) 0) + 1)))), E30.cR r13.1 = E30.cR r13.1, AllPv (E30.cR r13.1)]) (by kernel_rfl) ⟨rfl, rfl, rfl, rfl, (by first | rfl | (simp; done) | omega | (simp <;> omega)), rfl, rfl, rfl, rfl, rfl, fun _ _ _ _ => rfl, rfl, (wrap_nat (Int.ofNat_lt.1 (of_decide_eq_true c23)) (by omega)), rfl, (Elem.cR_pv _ _), rfl, (Elem.cR_pv _ _), trivial⟩
              · replace h := (congrFun (congrFun hK2_0 k21) l22).symm.trans h
                refine sk_leaf ?_
                refine back_ok (p := p1) (by kernel_rfl) (hp1 (n1, k17 + 1, l22) _ h (Nat.lt_succ_self n1) ?_)
                exact sub_ok (ρ := [(0, some 0), (1, some 1)]) (l := [(a1 : Int) = a1, (a2 : Int) = a2, false = false, 0 = 0, l22.length = l22.length, 0 = 0, r13.1.length = r13.1.length, (((r13.1.length : Nat) : Int) : Int) = ((r13.1.length : Nat) : Int), ((IntKind.i64.wrap (((k17 : Nat) : Int) + 1)) : Int) = (((k17 + 1) : Nat) : Int), E3.cR l22 = E3.cR l22, AllPv (E3.cR l22), E30.cR r13.1 = E30.cR r13.1, AllPv (E30.cR r13.1)]) (by kernel_rfl) ⟨rfl, rfl, rfl, rfl, rfl, rfl, rfl, rfl, (wrap_nat (Int.ofNat_lt.1 (of_decide_eq_true c19)) (by omega)), rfl, (Elem.cR_pv _ _), rfl, (Elem.cR_pv _ _), trivial⟩
          · refine sk_leaf ?_
            obtain ⟨r31, e32, h⟩ := bd_ h
            refine call_ok (d := some 75) (fn := 15) (ax := [.row 0 1 0 l18.length]) (args := [.pv ((E3.ro l18))]) (ps := [l18.length = l18.length, rowQ (E3.cR l18) 1 0 l18.length (fun i j => E3.cf (l18.getD i E3.z) j)]) (hb' := []) (by kernel_rfl) (slices_Max_int_ok _ _ e32 (al := false)) (by kernel_rfl) ⟨(by first | rfl | exact Elem.sub_len _ (by omega) | omega | simp | (simp <;> omega)), E3.rowQ_all l18 rfl, trivial⟩ (fun hx => by cases hx) (by simp) rfl (by kernel_rfl) ?_
            refine segs [] tabOk mixed 4000 (S := .leaf 0) (by kernel_rfl) ?_
            refine sk_leaf ?_
            obtain ⟨r33, e34, h⟩ := bd_ h
            refine call_ok (d := some 77) (fn := 16) (ax := [.row 0 1 0 l18.length]) (args := [.pv ((E3.ro l18))]) (ps := [l18.length = l18.length, rowQ (E3.cR l18) 1 0 l18.length (fun i j => E3.cf (l18.getD i E3.z) j)]) (hb' := []) (by kernel_rfl) (slices_Min_int_ok _ _ e34 (al := false)) (by kernel_rfl) ⟨(by first | rfl | exact Elem.sub_len _ (by omega) | omega | simp | (simp <;> omega)), E3.rowQ_all l18 rfl, trivial⟩ (fun hx => by cases hx) (by simp) rfl (by kernel_rfl) ?_
            refine segs [] tabOk mixed 4000 (S := .leaf 0) (by kernel_rfl) ?_
            refine sk_leaf ?_
            obtain rfl := some_ h
            exact end_ok [] Try.results6 (ps := [(decide (((IntKind.i64.wrap (r31 - r33)) : Int) ≤ a1)) = (decide (((IntKind.i64.wrap (r31 - r33)) : Int) ≤ a1))]) (by kernel_rfl) ⟨rfl, trivial⟩ (fun _ => ⟨rfl, by simp⟩)

end Go.Proofs.Ytdijmangjgepaaa
