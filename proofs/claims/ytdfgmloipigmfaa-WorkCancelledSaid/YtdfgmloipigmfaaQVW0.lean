/- The functions do as their models: printed by program. -/
import Derived.Test.YtdfgmloipigmfaaQVT
import Derived.Test.YtdfgmloipigmfaaQVM
import Derived.Test.YtdfgmloipigmfaaAbYh
import Derived.Test.YtdfgmloipigmfaaQVS
set_option linter.unusedSimpArgs false
set_option linter.unusedVariables false
namespace Go.Proofs.Ytdfgmloipigmfaa
open Go Go.Ab
theorem mixed : Try.prog.follows .mixedOrders = true := by kernel_rfl
def E3 : Elem Int := { s := 1, cf := fun x j => match j with | _ => .raw (.int .i64 x), z := 0 }
theorem E3_raw : E3.Raw := by
  intro x j
  exact ⟨_, rfl⟩
def E31 : Elem Int := { s := 1, cf := fun x j => match j with | _ => .raw (.int .i64 x), z := 0 }
theorem E31_raw : E31.Raw := by
  intro x j
  exact ⟨_, rfl⟩
def E40 : Elem Api_WorkOp := { s := 2, cf := fun x j => match j with | 0 => .raw (.int .i64 x.Kind) | _ => .raw (.int .i64 x.Item), z := (⟨0, 0⟩ : Api_WorkOp) }
theorem E40_raw : E40.Raw := by
  intro x j
  match j with
  | 0 => exact ⟨_, rfl⟩
  | n + 1 => exact ⟨_, rfl⟩
def E56 : Elem Api_Handler := { s := 2, cf := fun x j => match j with | 0 => .raw (.int .i64 x.Says) | _ => .raw (.int .i64 x.Left), z := (⟨0, 0⟩ : Api_Handler) }
theorem E56_raw : E56.Raw := by
  intro x j
  match j with
  | 0 => exact ⟨_, rfl⟩
  | n + 1 => exact ⟨_, rfl⟩
def E94 : Elem Work_queue := { s := 3, cf := fun x j => match j with | 0 => (E3.ro x.waits_) | 1 => .raw (.int .i64 x.begun_) | _ => (E3.ro x.done_), z := (⟨[], 0, []⟩ : Work_queue) }
attribute [local irreducible] V VS runS Sk.Holds

set_option maxHeartbeats 40000000 in
set_option maxRecDepth 100000 in
theorem chain_Right_1_ok (a0 : Api_Handler) (r : Bool) (h : chain_Right_1 a0 = some r) {al : Bool} : PCalls Try.prog 70 [.agg [.pv (.raw (.int .i64 a0.Says)), .pv (.raw (.int .i64 a0.Left))]] al (.pv (.raw (.bool r))) [] := by
  unfold chain_Right_1 at h
  refine fn_ok tabOk Try.func70 (by as_aux_lemma => kernel_rfl) (by as_aux_lemma => kernel_rfl) Try.ntmps70 (by simp) ?_
  refine segs [] tabOk mixed 4000 (S := .and (((!(decide ((a0.Says : Int) < 1))) = true → ((!(decide ((a0.Says : Int) < 1))) = true))) (.and (((!(decide ((a0.Says : Int) < 1))) = true → ((!(decide ((a0.Says : Int) < 1))) = true))) (.and ((decide ((a0.Says : Int) < 1)) = false → (!(decide ((a0.Says : Int) < 1))) = true) (.and (((!((decide ((a0.Says : Int) < 1)) || (decide ((a0.Says : Int) > 2)))) = true → ((!((decide ((a0.Says : Int) < 1)) || (decide ((a0.Says : Int) > 2)))) = true))) (.and (((!((decide ((a0.Says : Int) < 1)) || (decide ((a0.Says : Int) > 2)))) = true → ((!((decide ((a0.Says : Int) < 1)) || (decide ((a0.Says : Int) > 2)))) = true))) (.and (((decide ((a0.Says : Int) < 1)) || (decide ((a0.Says : Int) > 2))) = false → (!((decide ((a0.Says : Int) < 1)) || (decide ((a0.Says : Int) > 2)))) = true) (.and (((!(((decide ((a0.Says : Int) < 1)) || (decide ((a0.Says : Int) > 2))) || (decide ((a0.Left : Int) < 0)))) = true → ((!(((decide ((a0.Says : Int) < 1)) || (decide ((a0.Says : Int) > 2))) || (decide ((a0.Left : Int) < 0)))) = true))) (.and (((!(((decide ((a0.Says : Int) < 1)) || (decide ((a0.Says : Int) > 2))) || (decide ((a0.Left : Int) < 0)))) = true → ((!(((decide ((a0.Says : Int) < 1)) || (decide ((a0.Says : Int) > 2))) || (decide ((a0.Left : Int) < 0)))) = true))) (.and ((((decide ((a0.Says : Int) < 1)) || (decide ((a0.Says : Int) > 2))) || (decide ((a0.Left : Int) < 0))) = false → (!(((decide ((a0.Says : Int) < 1)) || (decide ((a0.Says : Int) > 2))) || (decide ((a0.Left : Int) < 0)))) = true) (.leaf 0)))))))))) (by as_aux_lemma => kernel_rfl) ?_
  refine sk_and ((by decide : ∀ y0 : Bool, ((y0 = true) → (y0 = true))) (!(decide ((a0.Says : Int) < 1)))) ?_
  refine sk_and ((by decide : ∀ y0 : Bool, ((y0 = true) → (y0 = true))) (!(decide ((a0.Says : Int) < 1)))) ?_
  refine sk_and ((by decide : ∀ y0 : Bool, ((y0 = false) → ((!y0) = true))) (decide ((a0.Says : Int) < 1))) ?_
  refine sk_and ((by decide : ∀ y0 : Bool, ((y0 = true) → (y0 = true))) (!((decide ((a0.Says : Int) < 1)) || (decide ((a0.Says : Int) > 2))))) ?_
  refine sk_and ((by decide : ∀ y0 : Bool, ((y0 = true) → (y0 = true))) (!((decide ((a0.Says : Int) < 1)) || (decide ((a0.Says : Int) > 2))))) ?_
  refine sk_and ((by decide : ∀ y0 : Bool, ((y0 = false) → ((!y0) = true))) ((decide ((a0.Says : Int) < 1)) || (decide ((a0.Says : Int) > 2)))) ?_
  refine sk_and ((by decide : ∀ y0 : Bool, ((y0 = true) → (y0 = true))) (!(((decide ((a0.Says : Int) < 1)) || (decide ((a0.Says : Int) > 2))) || (decide ((a0.Left : Int) < 0))))) ?_
  refine sk_and ((by decide : ∀ y0 : Bool, ((y0 = true) → (y0 = true))) (!(((decide ((a0.Says : Int) < 1)) || (decide ((a0.Says : Int) > 2))) || (decide ((a0.Left : Int) < 0))))) ?_
  refine sk_and ((by decide : ∀ y0 : Bool, ((y0 = false) → ((!y0) = true))) (((decide ((a0.Says : Int) < 1)) || (decide ((a0.Says : Int) > 2))) || (decide ((a0.Left : Int) < 0)))) ?_
  refine sk_leaf ?_
  obtain rfl := some_ h
  exact end_ok [] Try.results70 (ps := [((((decide ((a0.Says : Int) < 1)) || (decide ((a0.Says : Int) > 2))) || (decide ((a0.Left : Int) < 0))) || (decide ((a0.Left : Int) > 1099511627776))) = ((((decide ((a0.Says : Int) < 1)) || (decide ((a0.Says : Int) > 2))) || (decide ((a0.Left : Int) < 0))) || (decide ((a0.Left : Int) > 1099511627776)))]) (by as_aux_lemma => kernel_rfl) ⟨rfl, trivial⟩ (fun _ => ⟨rfl, by simp⟩)

set_option maxHeartbeats 40000000 in
set_option maxRecDepth 100000 in
theorem slices_IndexFunc_api_Handler_chain_Right_1_ok (a0 : (List Api_Handler)) (r : Int) (h : slices_IndexFunc_api_Handler_chain_Right_1 a0 = some r) {al : Bool} : PCalls Try.prog 88 [.pv ((E56.ro a0)), .fn 70 []] al (.pv (.raw (.int .i64 r))) [] := by
  unfold slices_IndexFunc_api_Handler_chain_Right_1 at h
  refine fn_ok tabOk Try.func88 (by as_aux_lemma => kernel_rfl) (by as_aux_lemma => kernel_rfl) Try.ntmps88 (by simp) ?_
  refine segs [] tabOk mixed 4000 (S := .leaf 0) (by as_aux_lemma => kernel_rfl) ?_
  refine sk_leaf ?_
  refine len_ro (by as_aux_lemma => kernel_rfl) 0 (s := 2) (n := a0.length) (c := fun i j => E56.cf (a0.getD i E56.z) j) (by as_aux_lemma => kernel_rfl) ?_; intro hl1_0
  replace h : (fun (x : Nat × Nat) => slices_IndexFunc_api_Handler_chain_Right_1_l1 a0 x.1 x.2 = some r) (FUEL, 0) := h
  refine loop_ok (by as_aux_lemma => kernel_rfl) (X := Nat × Nat) (fun x => slices_IndexFunc_api_Handler_chain_Right_1_l1 a0 x.1 x.2 = some r) (fun x => x.1) (fun x => mk 19 [(0, .pv ((E56.ro a0))), (1, .fn 70 []), (4, .pv (.raw (.int .i64 0))), (7, .pv (.raw (.int .i64 ((a0.length : Nat) : Int)))), (8, .pv (.raw (.int .i64 ((x.2 : Nat) : Int))))] []) (FUEL, 0) h ?_ ?_
  · exact sub_ok (ρ := []) (l := [a0.length = a0.length, ∀ i, i < a0.length → ∀ j, j < 2 → E56.cf (a0.getD i E56.z) j = E56.cf (a0.getD i E56.z) j, (0 : Int) = 0, (((a0.length : Nat) : Int) : Int) = ((a0.length : Nat) : Int), (0 : Int) = ((0 : Nat) : Int)]) (by as_aux_lemma => kernel_rfl) ⟨rfl, fun _ _ _ _ => rfl, rfl, rfl, (by first | rfl | simp), trivial⟩
  · clear h; rintro ⟨n1, k1⟩ h p1 hp1
    obtain _ | n1 := n1
    · cases (show (none : Option (Int)) = some r from h)
    have h : slices_IndexFunc_api_Handler_chain_Right_1_l1 a0 (n1 + 1) k1 = some r := h
    unfold slices_IndexFunc_api_Handler_chain_Right_1_l1 at h
    refine segs [] tabOk mixed 4000 (S := .br (decide ((((k1 : Nat) : Int) : Int) < ((a0.length : Nat) : Int))) (.and (0 ≤ (((k1 : Nat) : Int) : Int) ∧ ((k1 : Nat) : Int) < ((a0.length : Nat) : Int)) (.leaf 0)) (.leaf 1)) (by as_aux_lemma => kernel_rfl) ?_
    refine br_ h ?_ ?_ <;> clear h <;> intro c2 h
    · refine sk_and ⟨Int.natCast_nonneg _, of_decide_eq_true c2⟩ ?_
      refine sk_leaf ?_
      obtain ⟨r4, e5, h⟩ := bd_ h
      refine call_ok (d := some 16) (fn := 70) (ax := [.agg [.pv (.raw (.int .i64 ((a0.getD k1 (⟨0, 0⟩ : Api_Handler)).Says))), .pv (.raw (.int .i64 ((a0.getD k1 (⟨0, 0⟩ : Api_Handler)).Left)))]]) (args := [.agg [.pv (.raw (.int .i64 ((a0.getD k1 (⟨0, 0⟩ : Api_Handler)).Says))), .pv (.raw (.int .i64 ((a0.getD k1 (⟨0, 0⟩ : Api_Handler)).Left)))]]) (ps := [((a0.getD k1 (⟨0, 0⟩ : Api_Handler)).Says : Int) = ((a0.getD k1 (⟨0, 0⟩ : Api_Handler)).Says), ((a0.getD k1 (⟨0, 0⟩ : Api_Handler)).Left : Int) = ((a0.getD k1 (⟨0, 0⟩ : Api_Handler)).Left)]) (hb' := []) (by as_aux_lemma => kernel_rfl) (chain_Right_1_ok _ _ e5 (al := true)) (by as_aux_lemma => kernel_rfl) ⟨rfl, rfl, trivial⟩ (fun _ => (by as_aux_lemma => kernel_rfl)) (by simp) rfl (by as_aux_lemma => kernel_rfl) ?_
      refine segs [] tabOk mixed 4000 (S := .br r4 (.leaf 0) (.leaf 1)) (by as_aux_lemma => kernel_rfl) ?_
      refine br_ h ?_ ?_ <;> clear h <;> intro c6 h
      · refine sk_leaf ?_
        obtain rfl := some_ h
        exact end_ok [] Try.results88 (ps := [(((k1 : Nat) : Int) : Int) = ((k1 : Nat) : Int)]) (by as_aux_lemma => kernel_rfl) ⟨rfl, trivial⟩ (fun _ => ⟨rfl, by simp⟩)
      · refine sk_leaf ?_
        refine back_ok (p := p1) (by as_aux_lemma => kernel_rfl) (hp1 (n1, k1 + 1) _ h (Nat.lt_succ_self n1) ?_)
        exact sub_ok (ρ := []) (l := [a0.length = a0.length, ∀ i, i < a0.length → ∀ j, j < 2 → E56.cf (a0.getD i E56.z) j = E56.cf (a0.getD i E56.z) j, (0 : Int) = 0, (((a0.length : Nat) : Int) : Int) = ((a0.length : Nat) : Int), ((IntKind.i64.wrap (((k1 : Nat) : Int) + 1)) : Int) = (((k1 + 1) : Nat) : Int)]) (by as_aux_lemma => kernel_rfl) ⟨rfl, fun _ _ _ _ => rfl, rfl, rfl, (wrap_nat (Int.ofNat_lt.1 (of_decide_eq_true c2)) (by omega)), trivial⟩
    · refine sk_leaf ?_
      obtain rfl := some_ h
      exact end_ok [] Try.results88 (ps := [((-1) : Int) = (-1)]) (by as_aux_lemma => kernel_rfl) ⟨rfl, trivial⟩ (fun _ => ⟨rfl, by simp⟩)

set_option maxHeartbeats 40000000 in
set_option maxRecDepth 100000 in
theorem slices_ContainsFunc_api_Handler_chain_Right_1_ok (a0 : (List Api_Handler)) (r : Bool) (h : slices_ContainsFunc_api_Handler_chain_Right_1 a0 = some r) {al : Bool} : PCalls Try.prog 69 [.pv ((E56.ro a0)), .fn 70 []] al (.pv (.raw (.bool r))) [] := by
  unfold slices_ContainsFunc_api_Handler_chain_Right_1 at h
  refine fn_ok tabOk Try.func69 (by as_aux_lemma => kernel_rfl) (by as_aux_lemma => kernel_rfl) Try.ntmps69 (by simp) ?_
  refine segs [] tabOk mixed 4000 (S := .leaf 0) (by as_aux_lemma => kernel_rfl) ?_
  refine sk_leaf ?_
  obtain ⟨r1, e2, h⟩ := bd_ h
  refine call_ok (d := some 7) (fn := 88) (ax := [.pv ((E56.ro a0)), .fn 70 []]) (args := [.pv ((E56.ro a0)), .fn 70 []]) (ps := [a0.length = a0.length, ∀ i, i < a0.length → ∀ j, j < 2 → E56.cf (a0.getD i E56.z) j = E56.cf (a0.getD i E56.z) j]) (hb' := []) (by as_aux_lemma => kernel_rfl) (slices_IndexFunc_api_Handler_chain_Right_1_ok _ _ e2 (al := false)) (by as_aux_lemma => kernel_rfl) ⟨rfl, fun _ _ _ _ => rfl, trivial⟩ (fun hx => by cases hx) (by simp) rfl (by as_aux_lemma => kernel_rfl) ?_
  refine segs [] tabOk mixed 4000 (S := .leaf 0) (by as_aux_lemma => kernel_rfl) ?_
  refine sk_leaf ?_
  obtain rfl := some_ h
  exact end_ok [] Try.results69 (ps := [(decide ((r1 : Int) ≥ 0)) = (decide ((r1 : Int) ≥ 0))]) (by as_aux_lemma => kernel_rfl) ⟨rfl, trivial⟩ (fun _ => ⟨rfl, by simp⟩)

set_option maxHeartbeats 40000000 in
set_option maxRecDepth 100000 in
theorem chain_Right_ok (a0 : (List Api_Handler)) (r : Bool) (h : chain_Right a0 = some r) {al : Bool} : PCalls Try.prog 50 [.pv ((E56.ro a0))] al (.pv (.raw (.bool r))) [] := by
  unfold chain_Right at h
  refine fn_ok tabOk Try.func50 (by as_aux_lemma => kernel_rfl) (by as_aux_lemma => kernel_rfl) Try.ntmps50 (by simp) ?_
  refine segs [] tabOk mixed 4000 (S := .leaf 0) (by as_aux_lemma => kernel_rfl) ?_
  refine sk_leaf ?_
  obtain ⟨r1, e2, h⟩ := bd_ h
  refine callG_ok (d := some 8) (fn := 69) (ax := [.pv ((E56.ro a0)), .fn 70 []]) (args := [.pv ((E56.ro a0)), .fn 70 []]) (g := (decide ((((a0.length : Nat) : Int) : Int) ≤ 16))) (ws := [(decide ((((a0.length : Nat) : Int) : Int) ≤ 16)) = true]) (ps := [a0.length = a0.length, ∀ i, i < a0.length → ∀ j, j < 2 → E56.cf (a0.getD i E56.z) j = E56.cf (a0.getD i E56.z) j]) (by as_aux_lemma => kernel_rfl) (fun hg => ⟨((by decide : ∀ y0 : Bool, ((y0 = true) → (y0 = true))) (decide ((((a0.length : Nat) : Int) : Int) ≤ 16))) hg, trivial⟩) (fun hg => slices_ContainsFunc_api_Handler_chain_Right_1_ok _ _ (by rw [hg] at e2; exact e2) (al := false)) (by as_aux_lemma => kernel_rfl) (fun hg => ⟨rfl, fun _ _ _ _ => rfl, trivial⟩) (fun hx => by cases hx) ?_
  refine segs [] tabOk mixed 4000 (S := .and (((decide ((((a0.length : Nat) : Int) : Int) ≤ 16)) = true → ((decide ((((a0.length : Nat) : Int) : Int) ≤ 16)) = true))) (.and ((decide ((((a0.length : Nat) : Int) : Int) ≤ 16)) = true → (decide ((((a0.length : Nat) : Int) : Int) ≤ 16)) = true) (.leaf 0))) (by as_aux_lemma => kernel_rfl) ?_
  refine sk_and ((by decide : ∀ y0 : Bool, ((y0 = true) → (y0 = true))) (decide ((((a0.length : Nat) : Int) : Int) ≤ 16))) ?_
  refine sk_and ((by decide : ∀ y0 : Bool, ((y0 = true) → (y0 = true))) (decide ((((a0.length : Nat) : Int) : Int) ≤ 16))) ?_
  refine sk_leaf ?_
  obtain rfl := some_ h
  exact end_ok [] Try.results50 (ps := [((decide ((((a0.length : Nat) : Int) : Int) ≤ 16)) && (!r1)) = ((decide ((((a0.length : Nat) : Int) : Int) ≤ 16)) && (!r1))]) (by as_aux_lemma => kernel_rfl) ⟨rfl, trivial⟩ (fun _ => ⟨rfl, by simp⟩)

set_option maxRecDepth 100000 in
theorem slices_Clone_api_Handler_ok (a0 r : List Api_Handler) (h : slices_Clone_api_Handler a0 = some r) {al : Bool} : PCalls Try.prog 26 [.pv (E56.ro a0)] al (.row 0 2 0 r.length) [.row 56 2 (E56.cR r)] := by
  unfold slices_Clone_api_Handler at h
  obtain ⟨g, h⟩ := if_ h
  obtain rfl := some_ h
  refine fn_ok tabOk Try.func26 (by as_aux_lemma => kernel_rfl) (by as_aux_lemma => kernel_rfl) Try.ntmps26 (by simp) ?_
  refine segs [1] tabOk mixed 4000 (S := .leaf 0) (by as_aux_lemma => kernel_rfl) ?_
  refine sk_leaf ?_
  refine nil_ok (d1 := 3) (d2 := 4) (s := 2) (n := a0.length) (c := fun i j => E56.cf (a0.getD i E56.z) j) tabOk (by as_aux_lemma => kernel_rfl) ?_
  intro b hb
  refine segs [] tabOk mixed 4000 (S := .br b (.leaf 0) (.leaf 1)) (by as_aux_lemma => kernel_rfl) ?_
  refine sk_br ?_ ?_ <;> intro hc <;> refine sk_leaf ?_
  · obtain rfl : a0 = [] := List.eq_nil_of_length_eq_zero (hb hc)
    exact end_ok [(0, none)] Try.results26 (ps := [0 = 0, 0 = 0, E56.cR [] = []]) (by as_aux_lemma => kernel_rfl) ⟨rfl, rfl, rfl, trivial⟩ (fun _ => ⟨rfl, by simp only [List.mem_cons, List.not_mem_nil, or_false, forall_eq]; exact Elem.cR_bald E56_raw _⟩)
  · refine bs_ok (d := 5) (e := 56) (s := 2) (n := 0) (cs := []) (cs' := E56.cR []) (by as_aux_lemma => kernel_rfl) rfl (by as_aux_lemma => kernel_rfl) ?_
    refine segs [] tabOk mixed 4000 (S := .leaf 0) (by as_aux_lemma => kernel_rfl) ?_
    refine sk_leaf ?_
    refine app_ok (d := 7) (e := 56) (s := 2) (b := 16) (x := .row 16464 2 0 0) (y := .pv (E56.ro a0)) E56 (xs := []) (ys := a0) (by as_aux_lemma => kernel_rfl) rfl (.row 16464 [] 0 rfl (by as_aux_lemma => kernel_rfl)) (.ro a0) ⟨by simpa using g, by simp; omega⟩ (by as_aux_lemma => kernel_rfl) ?_
    refine segs [] tabOk mixed 4000 (S := .leaf 0) (by as_aux_lemma => kernel_rfl) ?_
    refine sk_leaf ?_
    exact end_ok [(0, some 16496)] Try.results26 (ps := [0 = 0, a0.length = a0.length, E56.cR a0 = E56.cR a0, AllPv (E56.cR a0)]) (by as_aux_lemma => kernel_rfl) ⟨rfl, rfl, rfl, Elem.cR_pv _ _, trivial⟩ (fun _ => ⟨rfl, by simp only [List.mem_cons, List.not_mem_nil, or_false, forall_eq]; exact Elem.cR_bald E56_raw _⟩)

set_option maxHeartbeats 40000000 in
set_option maxRecDepth 100000 in
theorem chain_Serve_1_ok (a0 : Int) (r : (List Api_Handler) × (List Int) × Api_Tally × Int) (h : chain_Serve_1 a0 = some r) {al : Bool} : PCalls Try.prog 71 [.pv (.raw (.int .i64 a0))] al (.tup [.row 0 2 0 r.1.length, .row 1 1 0 r.2.1.length, .agg [.pv (.raw (.int .i64 r.2.2.1.Came)), .pv (.raw (.int .i64 r.2.2.1.Nobody)), .pv (.raw (.bool r.2.2.1.Off))], .pv (.raw (.int .i64 r.2.2.2))]) [.row 56 2 (E56.cR r.1), .row 3 1 (E3.cR r.2.1)] := by
  unfold chain_Serve_1 at h
  refine fn_ok tabOk Try.func71 (by as_aux_lemma => kernel_rfl) (by as_aux_lemma => kernel_rfl) Try.ntmps71 (by simp) ?_
  refine segs [] tabOk mixed 4000 (S := .leaf 0) (by as_aux_lemma => kernel_rfl) ?_
  refine sk_leaf ?_
  obtain rfl := some_ h
  exact end_ok [(0, none), (1, none)] Try.results71 (ps := [0 = 0, ([] : List Api_Handler).length = 0, 0 = 0, ([] : List Int).length = 0, (0 : Int) = 0, (0 : Int) = 0, false = false, (a0 : Int) = a0, E56.cR [] = [], E3.cR [] = []]) (by as_aux_lemma => kernel_rfl) ⟨rfl, rfl, rfl, rfl, rfl, rfl, rfl, rfl, rfl, rfl, trivial⟩ (fun _ => ⟨rfl, by simp only [List.mem_cons, List.not_mem_nil, or_false, forall_eq_or_imp, forall_eq]; exact ⟨Elem.cR_bald E56_raw _, Elem.cR_bald E3_raw _⟩⟩)

set_option maxHeartbeats 40000000 in
set_option maxRecDepth 100000 in
theorem chain_says_ok (l_a0 : List Api_Handler) (i_a0 : Nat) (hi_a0 : i_a0 < l_a0.length) (a0 : Api_Handler) (hx_a0 : l_a0.getD i_a0 (⟨0, 0⟩ : Api_Handler) = a0) (r : Int × Api_Handler) (h : chain_says a0 = some r) {al : Bool} : MCalls Try.prog 72 [.ptr 0 (i_a0 * 2)] [.row 56 2 (E56.cR l_a0)] 1 al (.pv (.raw (.int .i64 r.1))) [.row 56 2 (E56.cR (l_a0.set i_a0 r.2))] := by
  unfold chain_says at h
  refine fnM_ok tabOk (fz := []) Try.func72 (by as_aux_lemma => kernel_rfl) (by as_aux_lemma => kernel_rfl) Try.ntmps72 (by simp) (by simp) ?_
  refine segs [] tabOk mixed 4000 (S := .leaf 0) (by as_aux_lemma => kernel_rfl) ?_
  refine sk_leaf ?_
  refine ldx_ok (d := 6) (id := 0) (i := i_a0) (j := 1) (e := 56) (n := 1) (off := i_a0 * 2 + 1) E56 (xs := l_a0) (.raw (.int .i64 a0.Left)) (by as_aux_lemma => kernel_rfl) (by show i_a0 * 2 + 1 = i_a0 * 2 + 1; omega) (by as_aux_lemma => kernel_rfl) (by first | omega | (simp <;> omega)) (by exact Nat.le_of_ble_eq_true rfl) (show E56.cf _ 1 = E56.cf a0 1 from congrArg (fun x => E56.cf x 1) hx_a0) ?_
  refine segs [] tabOk mixed 4000 (S := .br ((a0.Left : Int) == 0) (.leaf 0) (.leaf 1)) (by as_aux_lemma => kernel_rfl) ?_
  refine br_ h ?_ ?_ <;> clear h <;> intro c1 h
  · refine sk_leaf ?_
    obtain rfl := some_ h
    exact endM_ok [(0, some 0)] Try.results72 (ps := [(0 : Int) = 0, E56.cR l_a0 = E56.cR (l_a0.set i_a0 a0), AllPv (E56.cR (l_a0.set i_a0 a0))]) (by as_aux_lemma => kernel_rfl) ⟨rfl, (congrArg E56.cR (focus_same hi_a0 hx_a0).symm), (Elem.cR_pv _ _), trivial⟩ (fun _ => ⟨rfl, by simp only [List.mem_cons, List.not_mem_nil, or_false, forall_eq_or_imp, forall_eq]; exact Elem.cR_bald E56_raw _⟩)
  · refine sk_leaf ?_
    refine ldx_ok (d := 11) (id := 0) (i := i_a0) (j := 1) (e := 56) (n := 1) (off := i_a0 * 2 + 1) E56 (xs := l_a0) (.raw (.int .i64 a0.Left)) (by as_aux_lemma => kernel_rfl) (by show i_a0 * 2 + 1 = i_a0 * 2 + 1; omega) (by as_aux_lemma => kernel_rfl) (by first | omega | (simp <;> omega)) (by exact Nat.le_of_ble_eq_true rfl) (show E56.cf _ 1 = E56.cf a0 1 from congrArg (fun x => E56.cf x 1) hx_a0) ?_
    refine segs [] tabOk mixed 4000 (S := .leaf 0) (by as_aux_lemma => kernel_rfl) ?_
    refine sk_leaf ?_
    refine stl_ok (id := 0) (i := i_a0) (j := 1) (e := 56) (off := i_a0 * 2 + 1) (vs := [.pv (.raw (.int .i64 (IntKind.i64.wrap (a0.Left - 1))))]) E56 (xs := l_a0) (⟨a0.Says, (IntKind.i64.wrap (a0.Left - 1))⟩ : Api_Handler) (l_a0.set i_a0 (⟨a0.Says, (IntKind.i64.wrap (a0.Left - 1))⟩ : Api_Handler)) (by first | rfl | simp only [List.set_set]) (by as_aux_lemma => kernel_rfl) (by show i_a0 * 2 + 1 = i_a0 * 2 + 1; omega) (by as_aux_lemma => kernel_rfl) (by first | omega | (simp <;> omega)) (by exact Nat.le_of_ble_eq_true rfl) ((show E56.cs (⟨a0.Says, (IntKind.i64.wrap (a0.Left - 1))⟩ : Api_Handler) = setCells (E56.cs a0) 1 [.pv (.raw (.int .i64 (IntKind.i64.wrap (a0.Left - 1))))] from rfl).trans (congrArg (fun x => setCells (E56.cs x) 1 [.pv (.raw (.int .i64 (IntKind.i64.wrap (a0.Left - 1))))]) hx_a0).symm) ?_
    refine segs [] tabOk mixed 4000 (S := .leaf 0) (by as_aux_lemma => kernel_rfl) ?_
    refine sk_leaf ?_
    refine ldx_ok (d := 18) (id := 0) (i := i_a0) (j := 0) (e := 56) (n := 1) (off := i_a0 * 2) E56 (xs := (l_a0.set i_a0 (⟨a0.Says, (IntKind.i64.wrap (a0.Left - 1))⟩ : Api_Handler))) (.raw (.int .i64 a0.Says)) (by as_aux_lemma => kernel_rfl) (by show i_a0 * 2 = i_a0 * 2 + 0; omega) (by as_aux_lemma => kernel_rfl) (by first | omega | (simp <;> omega)) (by exact Nat.le_of_ble_eq_true rfl) (show E56.cf _ 0 = E56.cf (⟨a0.Says, (IntKind.i64.wrap (a0.Left - 1))⟩ : Api_Handler) 0 from congrArg (fun x => E56.cf x 0) (focus_get (y := (⟨a0.Says, (IntKind.i64.wrap (a0.Left - 1))⟩ : Api_Handler)) (by first | omega | simpa using hi_a0))) ?_
    refine segs [] tabOk mixed 4000 (S := .leaf 0) (by as_aux_lemma => kernel_rfl) ?_
    refine sk_leaf ?_
    obtain rfl := some_ h
    exact endM_ok [(0, some 0)] Try.results72 (ps := [(a0.Says : Int) = a0.Says, E56.cR (l_a0.set i_a0 (⟨a0.Says, (IntKind.i64.wrap (a0.Left - 1))⟩ : Api_Handler)) = E56.cR (l_a0.set i_a0 (⟨a0.Says, (IntKind.i64.wrap (a0.Left - 1))⟩ : Api_Handler)), AllPv (E56.cR (l_a0.set i_a0 (⟨a0.Says, (IntKind.i64.wrap (a0.Left - 1))⟩ : Api_Handler)))]) (by as_aux_lemma => kernel_rfl) ⟨rfl, rfl, (Elem.cR_pv _ _), trivial⟩ (fun _ => ⟨rfl, by simp only [List.mem_cons, List.not_mem_nil, or_false, forall_eq_or_imp, forall_eq]; exact Elem.cR_bald E56_raw _⟩)

set_option maxHeartbeats 40000000 in
set_option maxRecDepth 100000 in
theorem chain_Serve_ok (a0 : (List Api_Handler)) (a1 : Api_Tally) (r : (List Api_Handler) × (List Int) × Api_Tally × Int) (h : chain_Serve a0 a1 = some r) {al : Bool} : PCalls Try.prog 51 [.pv ((E56.ro a0)), .agg [.pv (.raw (.int .i64 a1.Came)), .pv (.raw (.int .i64 a1.Nobody)), .pv (.raw (.bool a1.Off))]] al (.tup [.row 0 2 0 r.1.length, .row 1 1 0 r.2.1.length, .agg [.pv (.raw (.int .i64 r.2.2.1.Came)), .pv (.raw (.int .i64 r.2.2.1.Nobody)), .pv (.raw (.bool r.2.2.1.Off))], .pv (.raw (.int .i64 r.2.2.2))]) [.row 56 2 (E56.cR r.1), .row 3 1 (E3.cR r.2.1)] := by
  unfold chain_Serve at h
  refine fnZ_ok tabOk [72] Try.func51 (by as_aux_lemma => kernel_rfl) (by as_aux_lemma => kernel_rfl) Try.ntmps51 (by simp) ?_
  refine segs [] tabOk mixed 4000 (S := .leaf 0) (by as_aux_lemma => kernel_rfl) ?_
  refine sk_leaf ?_
  obtain ⟨r1, e2, h⟩ := bd_ h
  refine call_ok (d := some 16) (fn := 50) (ax := [.pv ((E56.ro a0))]) (args := [.pv ((E56.ro a0))]) (ps := [a0.length = a0.length, ∀ i, i < a0.length → ∀ j, j < 2 → E56.cf (a0.getD i E56.z) j = E56.cf (a0.getD i E56.z) j]) (hb' := []) (by as_aux_lemma => kernel_rfl) (chain_Right_ok _ _ e2 (al := true)) (by as_aux_lemma => kernel_rfl) ⟨rfl, fun _ _ _ _ => rfl, trivial⟩ (fun _ => (by as_aux_lemma => kernel_rfl)) (by simp) rfl (by as_aux_lemma => kernel_rfl) ?_
  refine segs [] tabOk mixed 4000 (S := .and (((!(!r1)) = true → ((!(!r1)) = true))) (.and (((!(!r1)) = true → ((!(!r1)) = true))) (.and ((!r1) = false → (!(!r1)) = true) (.and (((!((!r1) || (decide ((a1.Came : Int) < 0)))) = true → ((!((!r1) || (decide ((a1.Came : Int) < 0)))) = true))) (.and (((!((!r1) || (decide ((a1.Came : Int) < 0)))) = true → ((!((!r1) || (decide ((a1.Came : Int) < 0)))) = true))) (.and (((!r1) || (decide ((a1.Came : Int) < 0))) = false → (!((!r1) || (decide ((a1.Came : Int) < 0)))) = true) (.and (((!(((!r1) || (decide ((a1.Came : Int) < 0))) || (decide ((a1.Came : Int) > 1099511627776)))) = true → ((!(((!r1) || (decide ((a1.Came : Int) < 0))) || (decide ((a1.Came : Int) > 1099511627776)))) = true))) (.and (((!(((!r1) || (decide ((a1.Came : Int) < 0))) || (decide ((a1.Came : Int) > 1099511627776)))) = true → ((!(((!r1) || (decide ((a1.Came : Int) < 0))) || (decide ((a1.Came : Int) > 1099511627776)))) = true))) (.and ((((!r1) || (decide ((a1.Came : Int) < 0))) || (decide ((a1.Came : Int) > 1099511627776))) = false → (!(((!r1) || (decide ((a1.Came : Int) < 0))) || (decide ((a1.Came : Int) > 1099511627776)))) = true) (.and (((!((((!r1) || (decide ((a1.Came : Int) < 0))) || (decide ((a1.Came : Int) > 1099511627776))) || (decide ((a1.Nobody : Int) < 0)))) = true → ((!((((!r1) || (decide ((a1.Came : Int) < 0))) || (decide ((a1.Came : Int) > 1099511627776))) || (decide ((a1.Nobody : Int) < 0)))) = true))) (.and (((!((((!r1) || (decide ((a1.Came : Int) < 0))) || (decide ((a1.Came : Int) > 1099511627776))) || (decide ((a1.Nobody : Int) < 0)))) = true → ((!((((!r1) || (decide ((a1.Came : Int) < 0))) || (decide ((a1.Came : Int) > 1099511627776))) || (decide ((a1.Nobody : Int) < 0)))) = true))) (.and (((((!r1) || (decide ((a1.Came : Int) < 0))) || (decide ((a1.Came : Int) > 1099511627776))) || (decide ((a1.Nobody : Int) < 0))) = false → (!((((!r1) || (decide ((a1.Came : Int) < 0))) || (decide ((a1.Came : Int) > 1099511627776))) || (decide ((a1.Nobody : Int) < 0)))) = true) (.and (((!(((((!r1) || (decide ((a1.Came : Int) < 0))) || (decide ((a1.Came : Int) > 1099511627776))) || (decide ((a1.Nobody : Int) < 0))) || (decide ((a1.Nobody : Int) > 5)))) = true → ((!(((((!r1) || (decide ((a1.Came : Int) < 0))) || (decide ((a1.Came : Int) > 1099511627776))) || (decide ((a1.Nobody : Int) < 0))) || (decide ((a1.Nobody : Int) > 5)))) = true))) (.and (((!(((((!r1) || (decide ((a1.Came : Int) < 0))) || (decide ((a1.Came : Int) > 1099511627776))) || (decide ((a1.Nobody : Int) < 0))) || (decide ((a1.Nobody : Int) > 5)))) = true → ((!(((((!r1) || (decide ((a1.Came : Int) < 0))) || (decide ((a1.Came : Int) > 1099511627776))) || (decide ((a1.Nobody : Int) < 0))) || (decide ((a1.Nobody : Int) > 5)))) = true))) (.and (((!(((((!r1) || (decide ((a1.Came : Int) < 0))) || (decide ((a1.Came : Int) > 1099511627776))) || (decide ((a1.Nobody : Int) < 0))) || (decide ((a1.Nobody : Int) > 5)))) = true → ((!(((((!r1) || (decide ((a1.Came : Int) < 0))) || (decide ((a1.Came : Int) > 1099511627776))) || (decide ((a1.Nobody : Int) < 0))) || (decide ((a1.Nobody : Int) > 5)))) = true))) (.and (((!(((((!r1) || (decide ((a1.Came : Int) < 0))) || (decide ((a1.Came : Int) > 1099511627776))) || (decide ((a1.Nobody : Int) < 0))) || (decide ((a1.Nobody : Int) > 5)))) = true → ((!(((((!r1) || (decide ((a1.Came : Int) < 0))) || (decide ((a1.Came : Int) > 1099511627776))) || (decide ((a1.Nobody : Int) < 0))) || (decide ((a1.Nobody : Int) > 5)))) = true))) (.and (((!(((((!r1) || (decide ((a1.Came : Int) < 0))) || (decide ((a1.Came : Int) > 1099511627776))) || (decide ((a1.Nobody : Int) < 0))) || (decide ((a1.Nobody : Int) > 5)))) = true → ((!(((((!r1) || (decide ((a1.Came : Int) < 0))) || (decide ((a1.Came : Int) > 1099511627776))) || (decide ((a1.Nobody : Int) < 0))) || (decide ((a1.Nobody : Int) > 5)))) = true))) (.and ((((((!r1) || (decide ((a1.Came : Int) < 0))) || (decide ((a1.Came : Int) > 1099511627776))) || (decide ((a1.Nobody : Int) < 0))) || (decide ((a1.Nobody : Int) > 5))) = false → (!(((((!r1) || (decide ((a1.Came : Int) < 0))) || (decide ((a1.Came : Int) > 1099511627776))) || (decide ((a1.Nobody : Int) < 0))) || (decide ((a1.Nobody : Int) > 5)))) = true) (.br ((((((!r1) || (decide ((a1.Came : Int) < 0))) || (decide ((a1.Came : Int) > 1099511627776))) || (decide ((a1.Nobody : Int) < 0))) || (decide ((a1.Nobody : Int) > 5))) || (a1.Off != ((a1.Nobody : Int) == 5))) (.leaf 0) (.br a1.Off (.leaf 1) (.br ((a1.Came : Int) == 1099511627776) (.leaf 2) (.leaf 3)))))))))))))))))))))) (by as_aux_lemma => kernel_rfl) ?_
  refine sk_and ((by decide : ∀ y0 : Bool, ((y0 = true) → (y0 = true))) (!(!r1))) ?_
  refine sk_and ((by decide : ∀ y0 : Bool, ((y0 = true) → (y0 = true))) (!(!r1))) ?_
  refine sk_and ((by decide : ∀ y0 : Bool, ((y0 = false) → ((!y0) = true))) (!r1)) ?_
  refine sk_and ((by decide : ∀ y0 : Bool, ((y0 = true) → (y0 = true))) (!((!r1) || (decide ((a1.Came : Int) < 0))))) ?_
  refine sk_and ((by decide : ∀ y0 : Bool, ((y0 = true) → (y0 = true))) (!((!r1) || (decide ((a1.Came : Int) < 0))))) ?_
  refine sk_and ((by decide : ∀ y0 : Bool, ((y0 = false) → ((!y0) = true))) ((!r1) || (decide ((a1.Came : Int) < 0)))) ?_
  refine sk_and ((by decide : ∀ y0 : Bool, ((y0 = true) → (y0 = true))) (!(((!r1) || (decide ((a1.Came : Int) < 0))) || (decide ((a1.Came : Int) > 1099511627776))))) ?_
  refine sk_and ((by decide : ∀ y0 : Bool, ((y0 = true) → (y0 = true))) (!(((!r1) || (decide ((a1.Came : Int) < 0))) || (decide ((a1.Came : Int) > 1099511627776))))) ?_
  refine sk_and ((by decide : ∀ y0 : Bool, ((y0 = false) → ((!y0) = true))) (((!r1) || (decide ((a1.Came : Int) < 0))) || (decide ((a1.Came : Int) > 1099511627776)))) ?_
  refine sk_and ((by decide : ∀ y0 : Bool, ((y0 = true) → (y0 = true))) (!((((!r1) || (decide ((a1.Came : Int) < 0))) || (decide ((a1.Came : Int) > 1099511627776))) || (decide ((a1.Nobody : Int) < 0))))) ?_
  refine sk_and ((by decide : ∀ y0 : Bool, ((y0 = true) → (y0 = true))) (!((((!r1) || (decide ((a1.Came : Int) < 0))) || (decide ((a1.Came : Int) > 1099511627776))) || (decide ((a1.Nobody : Int) < 0))))) ?_
  refine sk_and ((by decide : ∀ y0 : Bool, ((y0 = false) → ((!y0) = true))) ((((!r1) || (decide ((a1.Came : Int) < 0))) || (decide ((a1.Came : Int) > 1099511627776))) || (decide ((a1.Nobody : Int) < 0)))) ?_
  refine sk_and ((by decide : ∀ y0 : Bool, ((y0 = true) → (y0 = true))) (!(((((!r1) || (decide ((a1.Came : Int) < 0))) || (decide ((a1.Came : Int) > 1099511627776))) || (decide ((a1.Nobody : Int) < 0))) || (decide ((a1.Nobody : Int) > 5))))) ?_
  refine sk_and ((by decide : ∀ y0 : Bool, ((y0 = true) → (y0 = true))) (!(((((!r1) || (decide ((a1.Came : Int) < 0))) || (decide ((a1.Came : Int) > 1099511627776))) || (decide ((a1.Nobody : Int) < 0))) || (decide ((a1.Nobody : Int) > 5))))) ?_
  refine sk_and ((by decide : ∀ y0 : Bool, ((y0 = true) → (y0 = true))) (!(((((!r1) || (decide ((a1.Came : Int) < 0))) || (decide ((a1.Came : Int) > 1099511627776))) || (decide ((a1.Nobody : Int) < 0))) || (decide ((a1.Nobody : Int) > 5))))) ?_
  refine sk_and ((by decide : ∀ y0 : Bool, ((y0 = true) → (y0 = true))) (!(((((!r1) || (decide ((a1.Came : Int) < 0))) || (decide ((a1.Came : Int) > 1099511627776))) || (decide ((a1.Nobody : Int) < 0))) || (decide ((a1.Nobody : Int) > 5))))) ?_
  refine sk_and ((by decide : ∀ y0 : Bool, ((y0 = true) → (y0 = true))) (!(((((!r1) || (decide ((a1.Came : Int) < 0))) || (decide ((a1.Came : Int) > 1099511627776))) || (decide ((a1.Nobody : Int) < 0))) || (decide ((a1.Nobody : Int) > 5))))) ?_
  refine sk_and ((by decide : ∀ y0 : Bool, ((y0 = false) → ((!y0) = true))) (((((!r1) || (decide ((a1.Came : Int) < 0))) || (decide ((a1.Came : Int) > 1099511627776))) || (decide ((a1.Nobody : Int) < 0))) || (decide ((a1.Nobody : Int) > 5)))) ?_
  refine br_ h ?_ ?_ <;> clear h <;> intro c21 h
  · refine sk_leaf ?_
    obtain ⟨r22, e23, h⟩ := bd_ h
    refine call_ok (d := some 47) (fn := 71) (ax := [.pv (.raw (.int .i64 1))]) (args := [.pv (.raw (.int .i64 1))]) (ps := [(1 : Int) = 1]) (hb' := [.row 56 2 (E56.cR r22.1), .row 3 1 (E3.cR r22.2.1)]) (by as_aux_lemma => kernel_rfl) (chain_Serve_1_ok _ _ e23 (al := true)) (by as_aux_lemma => kernel_rfl) ⟨rfl, trivial⟩ (fun _ => (by as_aux_lemma => kernel_rfl)) (by simp) (by simp only [List.map_cons, List.map_nil, Elem.row_up, up_map]) (by as_aux_lemma => kernel_rfl) ?_
    refine segs [] tabOk mixed 4000 (S := .leaf 0) (by as_aux_lemma => kernel_rfl) ?_
    refine sk_leaf ?_
    obtain rfl := some_ h
    exact end_ok [(0, some 17136), (1, some 17137)] Try.results51 (ps := [0 = 0, r22.1.length = r22.1.length, 0 = 0, r22.2.1.length = r22.2.1.length, (r22.2.2.1.Came : Int) = r22.2.2.1.Came, (r22.2.2.1.Nobody : Int) = r22.2.2.1.Nobody, r22.2.2.1.Off = r22.2.2.1.Off, (r22.2.2.2 : Int) = r22.2.2.2, E56.cR r22.1 = E56.cR r22.1, AllPv (E56.cR r22.1), E3.cR r22.2.1 = E3.cR r22.2.1, AllPv (E3.cR r22.2.1)]) (by as_aux_lemma => kernel_rfl) ⟨rfl, (by first | rfl | simp), rfl, (by first | rfl | simp), rfl, rfl, rfl, rfl, rfl, (Elem.cR_pv _ _), rfl, (Elem.cR_pv _ _), trivial⟩ (fun _ => ⟨rfl, by simp only [List.mem_cons, List.not_mem_nil, or_false, forall_eq_or_imp, forall_eq]; exact ⟨Elem.cR_bald E56_raw _, Elem.cR_bald E3_raw _⟩⟩)
  · refine br_ h ?_ ?_ <;> clear h <;> intro c24 h
    · refine sk_leaf ?_
      obtain ⟨r25, e26, h⟩ := bd_ h
      refine call_ok (d := some 56) (fn := 71) (ax := [.pv (.raw (.int .i64 7))]) (args := [.pv (.raw (.int .i64 7))]) (ps := [(7 : Int) = 7]) (hb' := [.row 56 2 (E56.cR r25.1), .row 3 1 (E3.cR r25.2.1)]) (by as_aux_lemma => kernel_rfl) (chain_Serve_1_ok _ _ e26 (al := true)) (by as_aux_lemma => kernel_rfl) ⟨rfl, trivial⟩ (fun _ => (by as_aux_lemma => kernel_rfl)) (by simp) (by simp only [List.map_cons, List.map_nil, Elem.row_up, up_map]) (by as_aux_lemma => kernel_rfl) ?_
      refine segs [] tabOk mixed 4000 (S := .leaf 0) (by as_aux_lemma => kernel_rfl) ?_
      refine sk_leaf ?_
      obtain rfl := some_ h
      exact end_ok [(0, some 17280), (1, some 17281)] Try.results51 (ps := [0 = 0, r25.1.length = r25.1.length, 0 = 0, r25.2.1.length = r25.2.1.length, (r25.2.2.1.Came : Int) = r25.2.2.1.Came, (r25.2.2.1.Nobody : Int) = r25.2.2.1.Nobody, r25.2.2.1.Off = r25.2.2.1.Off, (r25.2.2.2 : Int) = r25.2.2.2, E56.cR r25.1 = E56.cR r25.1, AllPv (E56.cR r25.1), E3.cR r25.2.1 = E3.cR r25.2.1, AllPv (E3.cR r25.2.1)]) (by as_aux_lemma => kernel_rfl) ⟨rfl, (by first | rfl | simp), rfl, (by first | rfl | simp), rfl, rfl, rfl, rfl, rfl, (Elem.cR_pv _ _), rfl, (Elem.cR_pv _ _), trivial⟩ (fun _ => ⟨rfl, by simp only [List.mem_cons, List.not_mem_nil, or_false, forall_eq_or_imp, forall_eq]; exact ⟨Elem.cR_bald E56_raw _, Elem.cR_bald E3_raw _⟩⟩)
    · refine br_ h ?_ ?_ <;> clear h <;> intro c27 h
      · refine sk_leaf ?_
        obtain ⟨r28, e29, h⟩ := bd_ h
        refine call_ok (d := some 66) (fn := 71) (ax := [.pv (.raw (.int .i64 4))]) (args := [.pv (.raw (.int .i64 4))]) (ps := [(4 : Int) = 4]) (hb' := [.row 56 2 (E56.cR r28.1), .row 3 1 (E3.cR r28.2.1)]) (by as_aux_lemma => kernel_rfl) (chain_Serve_1_ok _ _ e29 (al := true)) (by as_aux_lemma => kernel_rfl) ⟨rfl, trivial⟩ (fun _ => (by as_aux_lemma => kernel_rfl)) (by simp) (by simp only [List.map_cons, List.map_nil, Elem.row_up, up_map]) (by as_aux_lemma => kernel_rfl) ?_
        refine segs [] tabOk mixed 4000 (S := .leaf 0) (by as_aux_lemma => kernel_rfl) ?_
        refine sk_leaf ?_
        obtain rfl := some_ h
        exact end_ok [(0, some 17440), (1, some 17441)] Try.results51 (ps := [0 = 0, r28.1.length = r28.1.length, 0 = 0, r28.2.1.length = r28.2.1.length, (r28.2.2.1.Came : Int) = r28.2.2.1.Came, (r28.2.2.1.Nobody : Int) = r28.2.2.1.Nobody, r28.2.2.1.Off = r28.2.2.1.Off, (r28.2.2.2 : Int) = r28.2.2.2, E56.cR r28.1 = E56.cR r28.1, AllPv (E56.cR r28.1), E3.cR r28.2.1 = E3.cR r28.2.1, AllPv (E3.cR r28.2.1)]) (by as_aux_lemma => kernel_rfl) ⟨rfl, (by first | rfl | simp), rfl, (by first | rfl | simp), rfl, rfl, rfl, rfl, rfl, (Elem.cR_pv _ _), rfl, (Elem.cR_pv _ _), trivial⟩ (fun _ => ⟨rfl, by simp only [List.mem_cons, List.not_mem_nil, or_false, forall_eq_or_imp, forall_eq]; exact ⟨Elem.cR_bald E56_raw _, Elem.cR_bald E3_raw _⟩⟩)
      · refine sk_leaf ?_
        obtain ⟨r30, e31, h⟩ := bd_ h
        refine call_ok (d := some 72) (fn := 26) (ax := [.pv ((E56.ro a0))]) (args := [.pv ((E56.ro a0))]) (ps := [a0.length = a0.length, ∀ i, i < a0.length → ∀ j, j < 2 → E56.cf (a0.getD i E56.z) j = E56.cf (a0.getD i E56.z) j]) (hb' := [.row 56 2 (E56.cR r30)]) (by as_aux_lemma => kernel_rfl) (slices_Clone_api_Handler_ok _ _ e31 (al := true)) (by as_aux_lemma => kernel_rfl) ⟨rfl, fun _ _ _ _ => rfl, trivial⟩ (fun _ => (by as_aux_lemma => kernel_rfl)) (by simp) (by simp only [List.map_cons, List.map_nil, Elem.row_up, up_map]) (by as_aux_lemma => kernel_rfl) ?_
        refine segs [] tabOk mixed 4000 (S := .leaf 0) (by as_aux_lemma => kernel_rfl) ?_
        refine sk_leaf ?_
        refine len_row (by as_aux_lemma => kernel_rfl) 17536 (e := 56) (s := 2) (n := r30.length) (cs := E56.cR r30) (by as_aux_lemma => kernel_rfl) (Elem.cR_length _ _) ?_; intro hl1_0
        replace h : (fun (x : Nat × List Int × Bool × Nat × List Api_Handler) => chain_Serve_l1 a1 r30 x.1 x.2.1 x.2.2.1 x.2.2.2.1 x.2.2.2.2 = some r) (FUEL, ([] : List Int), false, 0, r30) := h
        refine loop_ok (by as_aux_lemma => kernel_rfl) (X := Nat × List Int × Bool × Nat × List Api_Handler) (fun x => chain_Serve_l1 a1 r30 x.1 x.2.1 x.2.2.1 x.2.2.2.1 x.2.2.2.2 = some r) (fun x => x.1) (fun x => mk 111 [(3, .ptr 0 0), (4, .pv (.raw (.slice none 0 0))), (5, .pv (.raw (.slice none 0 0))), (6, .ptr 1 0), (7, .pv (.raw (.int .i64 0))), (9, .row 2 2 0 x.2.2.2.2.length), (10, .row 3 1 0 x.2.1.length), (11, .pv (.raw (.bool x.2.2.1))), (74, .pv (.raw (.int .i64 ((r30.length : Nat) : Int)))), (75, .pv (.raw (.int .i64 ((x.2.2.2.1 : Nat) : Int))))] [(0, .box [.pv (.raw (.int .i64 a1.Came)), .pv (.raw (.int .i64 a1.Nobody)), .pv (.raw (.bool a1.Off))]), (1, .box [.pv (.raw (.int .i64 0)), .pv (.raw (.int .i64 0)), .pv (.raw (.bool false))]), (2, .row 56 2 (E56.cR x.2.2.2.2)), (3, .row 3 1 (E3.cR x.2.1))] [72]) (FUEL, ([] : List Int), false, 0, r30) h ?_ ?_
        · exact sub_ok (ρ := [(0, some 16432), (1, some 16480), (2, some 17536), (3, none)]) (l := [0 = 0, 0 = 0, (0 : Int) = 0, 0 = 0, r30.length = r30.length, 0 = 0, (([] : List Int).length) = 0, false = false, (((r30.length : Nat) : Int) : Int) = ((r30.length : Nat) : Int), (0 : Int) = ((0 : Nat) : Int), (a1.Came : Int) = a1.Came, (a1.Nobody : Int) = a1.Nobody, a1.Off = a1.Off, (0 : Int) = 0, (0 : Int) = 0, false = false, E56.cR r30 = E56.cR r30, AllPv (E56.cR r30), E3.cR ([] : List Int) = []]) (by as_aux_lemma => kernel_rfl) ⟨rfl, rfl, rfl, rfl, rfl, rfl, (by first | rfl | simp), rfl, rfl, (by first | rfl | simp), rfl, rfl, rfl, rfl, rfl, rfl, rfl, (Elem.cR_pv _ _), rfl, trivial⟩
        · clear h; rintro ⟨n1, l32, b33, k34, l35⟩ h p1 hp1
          obtain _ | n1 := n1
          · cases (show (none : Option ((List Api_Handler) × (List Int) × Api_Tally × Int)) = some r from h)
          have h : chain_Serve_l1 a1 r30 (n1 + 1) l32 b33 k34 l35 = some r := h
          unfold chain_Serve_l1 at h
          refine segs [] tabOk mixed 4000 (S := .br (decide ((((k34 : Nat) : Int) : Int) < ((r30.length : Nat) : Int))) (.and (0 ≤ (((k34 : Nat) : Int) : Int) ∧ ((k34 : Nat) : Int) < ((l35.length : Nat) : Int)) (.leaf 0)) (.br b33 (.leaf 1) (.leaf 2))) (by as_aux_lemma => kernel_rfl) ?_
          refine br_ h ?_ ?_ <;> clear h <;> intro c36 h
          · refine gd_ h ?_; clear h; intro g37 h
            refine sk_leaf ?_
            obtain ⟨r38, e39, h⟩ := bd_ h
            refine mcall_ok (d := some 81) (fn := 72) (ax := [.ptr 2 ((0 + k34) * 2)]) (hs := [(2, .row 56 2 (E56.cR (l35.set (0 + k34) r38.2)))]) (del := []) (ps := [((0 + k34) * 2) = ((0 + k34) * 2), E56.cR l35 = E56.cR l35, AllPv (E56.cR l35)]) [(0, some 2)] (by as_aux_lemma => kernel_rfl) (chain_says_ok l35 (0 + k34) (by first | omega | (simp at * <;> omega) | (simp_all <;> omega)) (l35.getD (0 + k34) (⟨0, 0⟩ : Api_Handler)) rfl _ e39 (al := true)) (by as_aux_lemma => kernel_rfl) ⟨rfl, rfl, (Elem.cR_pv _ _), trivial⟩ (by as_aux_lemma => kernel_rfl) (by simp only [mset_row, mset_box, mset_nil, mset_map, List.set_set]; kernel_rfl) (by as_aux_lemma => kernel_rfl) ?_
            refine segs [] tabOk mixed 4000 (S := .and (((!b33) = true → ((!b33) = true))) (.and (b33 = false → (!b33) = true) (.br ((r38.1 : Int) == 2) (.leaf 0) (.leaf 1)))) (by as_aux_lemma => kernel_rfl) ?_
            refine sk_and ((by decide : ∀ y0 : Bool, ((y0 = true) → (y0 = true))) (!b33)) ?_
            refine sk_and ((by decide : ∀ y0 : Bool, ((y0 = false) → ((!y0) = true))) b33) ?_
            refine br_ h ?_ ?_ <;> clear h <;> intro c42 h
            · refine sk_leaf ?_
              refine bs_ok (d := 91) (e := 3) (s := 1) (n := 1) (cs := [.pv (.raw (.int .i64 ((k34 : Nat) : Int)))]) (cs' := E3.cR [((k34 : Nat) : Int)]) (by as_aux_lemma => kernel_rfl) rfl (by as_aux_lemma => kernel_rfl) ?_
              refine segs [] tabOk mixed 4000 (S := .leaf 0) (by as_aux_lemma => kernel_rfl) ?_
              refine sk_leaf ?_
              obtain ⟨g43, h⟩ := if_ h
              refine app_ok (d := 92) (e := 3) (s := 1) (b := 8) (x := .row 3 1 0 l32.length) (y := .row 17840 1 0 1) E3 (xs := l32) (ys := [((k34 : Nat) : Int)]) (by as_aux_lemma => kernel_rfl) rfl (.row 3 l32 l32.length rfl (by as_aux_lemma => kernel_rfl)) (.all 17840 3 [((k34 : Nat) : Int)] 1 rfl (by as_aux_lemma => kernel_rfl)) g43 (by as_aux_lemma => kernel_rfl) ?_
              refine segs [] tabOk mixed 4000 (S := .leaf 0) (by as_aux_lemma => kernel_rfl) ?_
              refine sk_leaf ?_
              refine back_ok (p := p1) (by as_aux_lemma => kernel_rfl) (hp1 (n1, (l32 ++ [((k34 : Nat) : Int)]), (b33 || ((r38.1 : Int) != 0)), k34 + 1, (l35.set (0 + k34) r38.2)) _ h (Nat.lt_succ_self n1) ?_)
              exact sub_ok (ρ := [(0, some 0), (1, some 1), (2, some 2), (3, some 17856)]) (l := [0 = 0, 0 = 0, (0 : Int) = 0, 0 = 0, l35.length = ((l35.set (0 + k34) r38.2).length), 0 = 0, ((l32 ++ [((k34 : Nat) : Int)]).length) = ((l32 ++ [((k34 : Nat) : Int)]).length), (b33 || ((r38.1 : Int) != 0)) = (b33 || ((r38.1 : Int) != 0)), (((r30.length : Nat) : Int) : Int) = ((r30.length : Nat) : Int), ((IntKind.i64.wrap (((k34 : Nat) : Int) + 1)) : Int) = (((k34 + 1) : Nat) : Int), (a1.Came : Int) = a1.Came, (a1.Nobody : Int) = a1.Nobody, a1.Off = a1.Off, (0 : Int) = 0, (0 : Int) = 0, false = false, E56.cR (l35.set (0 + k34) r38.2) = E56.cR (l35.set (0 + k34) r38.2), AllPv (E56.cR (l35.set (0 + k34) r38.2)), E3.cR (l32 ++ [((k34 : Nat) : Int)]) = E3.cR (l32 ++ [((k34 : Nat) : Int)]), AllPv (E3.cR (l32 ++ [((k34 : Nat) : Int)]))]) (by as_aux_lemma => kernel_rfl) ⟨rfl, rfl, rfl, rfl, (by first | rfl | (simp; done) | omega | (simp <;> omega)), rfl, rfl, rfl, rfl, (wrap_nat (Int.ofNat_lt.1 (of_decide_eq_true c36)) (by omega)), rfl, rfl, rfl, rfl, rfl, rfl, rfl, (Elem.cR_pv _ _), rfl, (Elem.cR_pv _ _), trivial⟩
            · refine sk_leaf ?_
              refine back_ok (p := p1) (by as_aux_lemma => kernel_rfl) (hp1 (n1, l32, (b33 || ((r38.1 : Int) != 0)), k34 + 1, (l35.set (0 + k34) r38.2)) _ h (Nat.lt_succ_self n1) ?_)
              exact sub_ok (ρ := [(0, some 0), (1, some 1), (2, some 2), (3, some 3)]) (l := [0 = 0, 0 = 0, (0 : Int) = 0, 0 = 0, l35.length = ((l35.set (0 + k34) r38.2).length), 0 = 0, l32.length = l32.length, (b33 || ((r38.1 : Int) != 0)) = (b33 || ((r38.1 : Int) != 0)), (((r30.length : Nat) : Int) : Int) = ((r30.length : Nat) : Int), ((IntKind.i64.wrap (((k34 : Nat) : Int) + 1)) : Int) = (((k34 + 1) : Nat) : Int), (a1.Came : Int) = a1.Came, (a1.Nobody : Int) = a1.Nobody, a1.Off = a1.Off, (0 : Int) = 0, (0 : Int) = 0, false = false, E56.cR (l35.set (0 + k34) r38.2) = E56.cR (l35.set (0 + k34) r38.2), AllPv (E56.cR (l35.set (0 + k34) r38.2)), E3.cR l32 = E3.cR l32, AllPv (E3.cR l32)]) (by as_aux_lemma => kernel_rfl) ⟨rfl, rfl, rfl, rfl, (by first | rfl | (simp; done) | omega | (simp <;> omega)), rfl, rfl, rfl, rfl, (wrap_nat (Int.ofNat_lt.1 (of_decide_eq_true c36)) (by omega)), rfl, rfl, rfl, rfl, rfl, rfl, rfl, (Elem.cR_pv _ _), rfl, (Elem.cR_pv _ _), trivial⟩
          · refine br_ h ?_ ?_ <;> clear h <;> intro c44 h
            · refine sk_leaf ?_
              obtain rfl := some_ h
              exact end_ok [(0, some 2), (1, some 3)] Try.results51 (ps := [0 = 0, l35.length = l35.length, 0 = 0, l32.length = l32.length, ((IntKind.i64.wrap (a1.Came + 1)) : Int) = (IntKind.i64.wrap (a1.Came + 1)), (0 : Int) = 0, ((0 : Int) == 5) = ((0 : Int) == 5), (0 : Int) = 0, E56.cR l35 = E56.cR l35, AllPv (E56.cR l35), E3.cR l32 = E3.cR l32, AllPv (E3.cR l32)]) (by as_aux_lemma => kernel_rfl) ⟨rfl, (by first | rfl | simp), rfl, (by first | rfl | simp), rfl, rfl, rfl, rfl, rfl, (Elem.cR_pv _ _), rfl, (Elem.cR_pv _ _), trivial⟩ (fun _ => ⟨rfl, by simp only [List.mem_cons, List.not_mem_nil, or_false, forall_eq_or_imp, forall_eq]; exact ⟨Elem.cR_bald E56_raw _, Elem.cR_bald E3_raw _⟩⟩)
            · refine sk_leaf ?_
              obtain rfl := some_ h
              exact end_ok [(0, some 2), (1, some 3)] Try.results51 (ps := [0 = 0, l35.length = l35.length, 0 = 0, l32.length = l32.length, ((IntKind.i64.wrap (a1.Came + 1)) : Int) = (IntKind.i64.wrap (a1.Came + 1)), ((IntKind.i64.wrap (a1.Nobody + 1)) : Int) = (IntKind.i64.wrap (a1.Nobody + 1)), (((IntKind.i64.wrap (a1.Nobody + 1)) : Int) == 5) = (((IntKind.i64.wrap (a1.Nobody + 1)) : Int) == 5), (0 : Int) = 0, E56.cR l35 = E56.cR l35, AllPv (E56.cR l35), E3.cR l32 = E3.cR l32, AllPv (E3.cR l32)]) (by as_aux_lemma => kernel_rfl) ⟨rfl, (by first | rfl | simp), rfl, (by first | rfl | simp), rfl, rfl, rfl, rfl, rfl, (Elem.cR_pv _ _), rfl, (Elem.cR_pv _ _), trivial⟩ (fun _ => ⟨rfl, by simp only [List.mem_cons, List.not_mem_nil, or_false, forall_eq_or_imp, forall_eq]; exact ⟨Elem.cR_bald E56_raw _, Elem.cR_bald E3_raw _⟩⟩)

set_option maxHeartbeats 40000000 in
set_option maxRecDepth 100000 in
theorem chain_Play_ok (a0 : (List Api_Handler)) (a1 : Int) (r : (List Api_Handler) × (List Int) × Api_Tally × Int) (h : chain_Play a0 a1 = some r) {al : Bool} : PCalls Try.prog 28 [.pv ((E56.ro a0)), .pv (.raw (.int .i64 a1))] al (.tup [.row 0 2 0 r.1.length, .row 1 1 0 r.2.1.length, .agg [.pv (.raw (.int .i64 r.2.2.1.Came)), .pv (.raw (.int .i64 r.2.2.1.Nobody)), .pv (.raw (.bool r.2.2.1.Off))], .pv (.raw (.int .i64 r.2.2.2))]) [.row 56 2 (E56.cR r.1), .row 3 1 (E3.cR r.2.1)] := by
  unfold chain_Play at h
  refine fn_ok tabOk Try.func28 (by as_aux_lemma => kernel_rfl) (by as_aux_lemma => kernel_rfl) Try.ntmps28 (by simp) ?_
  refine segs [] tabOk mixed 4000 (S := .leaf 0) (by as_aux_lemma => kernel_rfl) ?_
  refine sk_leaf ?_
  obtain ⟨r1, e2, h⟩ := bd_ h
  refine call_ok (d := some 15) (fn := 50) (ax := [.pv ((E56.ro a0))]) (args := [.pv ((E56.ro a0))]) (ps := [a0.length = a0.length, ∀ i, i < a0.length → ∀ j, j < 2 → E56.cf (a0.getD i E56.z) j = E56.cf (a0.getD i E56.z) j]) (hb' := []) (by as_aux_lemma => kernel_rfl) (chain_Right_ok _ _ e2 (al := true)) (by as_aux_lemma => kernel_rfl) ⟨rfl, fun _ _ _ _ => rfl, trivial⟩ (fun _ => (by as_aux_lemma => kernel_rfl)) (by simp) rfl (by as_aux_lemma => kernel_rfl) ?_
  refine segs [] tabOk mixed 4000 (S := .br (!r1) (.leaf 0) (.and (((!(decide ((a1 : Int) < 0))) = true → ((!(decide ((a1 : Int) < 0))) = true))) (.and ((decide ((a1 : Int) < 0)) = false → (!(decide ((a1 : Int) < 0))) = true) (.br ((decide ((a1 : Int) < 0)) || (decide ((a1 : Int) > 400))) (.leaf 1) (.leaf 2))))) (by as_aux_lemma => kernel_rfl) ?_
  refine br_ h ?_ ?_ <;> clear h <;> intro c3 h
  · refine sk_leaf ?_
    obtain rfl := some_ h
    exact end_ok [(0, none), (1, none)] Try.results28 (ps := [0 = 0, ([] : List Api_Handler).length = 0, 0 = 0, ([] : List Int).length = 0, (0 : Int) = 0, (0 : Int) = 0, false = false, (1 : Int) = 1, E56.cR [] = [], E3.cR [] = []]) (by as_aux_lemma => kernel_rfl) ⟨rfl, rfl, rfl, rfl, rfl, rfl, rfl, rfl, rfl, rfl, trivial⟩ (fun _ => ⟨rfl, by simp only [List.mem_cons, List.not_mem_nil, or_false, forall_eq_or_imp, forall_eq]; exact ⟨Elem.cR_bald E56_raw _, Elem.cR_bald E3_raw _⟩⟩)
  · refine sk_and ((by decide : ∀ y0 : Bool, ((y0 = true) → (y0 = true))) (!(decide ((a1 : Int) < 0)))) ?_
    refine sk_and ((by decide : ∀ y0 : Bool, ((y0 = false) → ((!y0) = true))) (decide ((a1 : Int) < 0))) ?_
    refine br_ h ?_ ?_ <;> clear h <;> intro c6 h
    · refine sk_leaf ?_
      obtain rfl := some_ h
      exact end_ok [(0, none), (1, none)] Try.results28 (ps := [0 = 0, ([] : List Api_Handler).length = 0, 0 = 0, ([] : List Int).length = 0, (0 : Int) = 0, (0 : Int) = 0, false = false, (2 : Int) = 2, E56.cR [] = [], E3.cR [] = []]) (by as_aux_lemma => kernel_rfl) ⟨rfl, rfl, rfl, rfl, rfl, rfl, rfl, rfl, rfl, rfl, trivial⟩ (fun _ => ⟨rfl, by simp only [List.mem_cons, List.not_mem_nil, or_false, forall_eq_or_imp, forall_eq]; exact ⟨Elem.cR_bald E56_raw _, Elem.cR_bald E3_raw _⟩⟩)
    · refine sk_leaf ?_
      obtain ⟨r7, e8, h⟩ := bd_ h
      refine call_ok (d := some 26) (fn := 26) (ax := [.pv ((E56.ro a0))]) (args := [.pv ((E56.ro a0))]) (ps := [a0.length = a0.length, ∀ i, i < a0.length → ∀ j, j < 2 → E56.cf (a0.getD i E56.z) j = E56.cf (a0.getD i E56.z) j]) (hb' := [.row 56 2 (E56.cR r7)]) (by as_aux_lemma => kernel_rfl) (slices_Clone_api_Handler_ok _ _ e8 (al := true)) (by as_aux_lemma => kernel_rfl) ⟨rfl, fun _ _ _ _ => rfl, trivial⟩ (fun _ => (by as_aux_lemma => kernel_rfl)) (by simp) (by simp only [List.map_cons, List.map_nil, Elem.row_up, up_map]) (by as_aux_lemma => kernel_rfl) ?_
      refine segs [] tabOk mixed 4000 (S := .leaf 0) (by as_aux_lemma => kernel_rfl) ?_
      refine sk_leaf ?_
      refine len_row (by as_aux_lemma => kernel_rfl) 16800 (e := 56) (s := 2) (n := r7.length) (cs := E56.cR r7) (by as_aux_lemma => kernel_rfl) (Elem.cR_length _ _) ?_; intro hl1_0
      replace h : (fun (x : Nat × List Api_Handler × List Int × Int × Int × Int × Bool) => chain_Play_l1 a1 r7 x.1 x.2.1 x.2.2.1 x.2.2.2.1 x.2.2.2.2.1 x.2.2.2.2.2.1 x.2.2.2.2.2.2 = some r) (FUEL, r7, ([] : List Int), 0, 0, 0, false) := h
      refine loop_ok (by as_aux_lemma => kernel_rfl) (X := Nat × List Api_Handler × List Int × Int × Int × Int × Bool) (fun x => chain_Play_l1 a1 r7 x.1 x.2.1 x.2.2.1 x.2.2.2.1 x.2.2.2.2.1 x.2.2.2.2.2.1 x.2.2.2.2.2.2 = some r) (fun x => x.1) (fun x => mk 49 [(0, .row 0 2 0 x.2.1.length), (4, .pv (.raw (.slice none 0 0))), (5, .pv (.raw (.slice none 0 0))), (6, .ptr 1 0), (7, .pv (.raw (.int .i64 0))), (8, .row 3 1 0 x.2.2.1.length), (9, .ptr 2 0), (27, .pv (.raw (.int .i64 a1))), (28, .pv (.raw (.int .i64 x.2.2.2.1)))] [(0, .row 56 2 (E56.cR x.2.1)), (1, .box [.pv (.raw (.int .i64 0)), .pv (.raw (.int .i64 0)), .pv (.raw (.bool false))]), (2, .box [.pv (.raw (.int .i64 x.2.2.2.2.1)), .pv (.raw (.int .i64 x.2.2.2.2.2.1)), .pv (.raw (.bool x.2.2.2.2.2.2))]), (3, .row 3 1 (E3.cR x.2.2.1))]) (FUEL, r7, ([] : List Int), 0, 0, 0, false) h ?_ ?_
      · exact sub_ok (ρ := [(0, some 16800), (1, some 16480), (2, some 16528), (3, none)]) (l := [0 = 0, r7.length = r7.length, 0 = 0, (0 : Int) = 0, 0 = 0, (([] : List Int).length) = 0, 0 = 0, (a1 : Int) = a1, (0 : Int) = 0, E56.cR r7 = E56.cR r7, AllPv (E56.cR r7), (0 : Int) = 0, (0 : Int) = 0, false = false, (0 : Int) = 0, (0 : Int) = 0, false = false, E3.cR ([] : List Int) = []]) (by as_aux_lemma => kernel_rfl) ⟨rfl, rfl, rfl, rfl, rfl, (by first | rfl | simp), rfl, rfl, rfl, rfl, (Elem.cR_pv _ _), rfl, rfl, rfl, rfl, rfl, rfl, rfl, trivial⟩
      · clear h; rintro ⟨n1, l9, l10, x11, x12, x13, b14⟩ h p1 hp1
        obtain _ | n1 := n1
        · cases (show (none : Option ((List Api_Handler) × (List Int) × Api_Tally × Int)) = some r from h)
        have h : chain_Play_l1 a1 r7 (n1 + 1) l9 l10 x11 x12 x13 b14 = some r := h
        unfold chain_Play_l1 at h
        refine segs [] tabOk mixed 4000 (S := .br (decide ((x11 : Int) < a1)) (.leaf 0) (.leaf 1)) (by as_aux_lemma => kernel_rfl) ?_
        refine br_ h ?_ ?_ <;> clear h <;> intro c15 h
        · refine sk_leaf ?_
          obtain ⟨r16, e17, h⟩ := bd_ h
          refine call_ok (d := some 33) (fn := 51) (ax := [.row 0 2 0 l9.length, .agg [.pv (.raw (.int .i64 x12)), .pv (.raw (.int .i64 x13)), .pv (.raw (.bool b14))]]) (args := [.pv ((E56.ro l9)), .agg [.pv (.raw (.int .i64 x12)), .pv (.raw (.int .i64 x13)), .pv (.raw (.bool b14))]]) (ps := [l9.length = l9.length, rowQ (E56.cR l9) 2 0 l9.length (fun i j => E56.cf (l9.getD i E56.z) j), (x12 : Int) = x12, (x13 : Int) = x13, b14 = b14]) (hb' := [.row 56 2 (E56.cR r16.1), .row 3 1 (E3.cR r16.2.1)]) (by as_aux_lemma => kernel_rfl) (chain_Serve_ok _ _ _ e17 (al := false)) (by as_aux_lemma => kernel_rfl) ⟨(by first | rfl | exact Elem.sub_len _ (by omega) | omega | simp | (simp <;> omega)), E56.rowQ_all l9 rfl, rfl, rfl, rfl, trivial⟩ (fun hx => by cases hx) (by simp) (by simp only [List.map_cons, List.map_nil, Elem.row_up, up_map]) (by as_aux_lemma => kernel_rfl) ?_
          refine segs [] tabOk mixed 4000 (S := .br ((r16.2.2.2 : Int) != 0) (.leaf 0) (.leaf 1)) (by as_aux_lemma => kernel_rfl) ?_
          refine br_ h ?_ ?_ <;> clear h <;> intro c18 h
          · refine sk_leaf ?_
            obtain rfl := some_ h
            exact end_ok [(0, some 0), (1, some 3)] Try.results28 (ps := [0 = 0, l9.length = l9.length, 0 = 0, l10.length = l10.length, (x12 : Int) = x12, (x13 : Int) = x13, b14 = b14, (0 : Int) = 0, E56.cR l9 = E56.cR l9, AllPv (E56.cR l9), E3.cR l10 = E3.cR l10, AllPv (E3.cR l10)]) (by as_aux_lemma => kernel_rfl) ⟨rfl, (by first | rfl | simp), rfl, (by first | rfl | simp), rfl, rfl, rfl, rfl, rfl, (Elem.cR_pv _ _), rfl, (Elem.cR_pv _ _), trivial⟩ (fun _ => ⟨rfl, by simp only [List.mem_cons, List.not_mem_nil, or_false, forall_eq_or_imp, forall_eq]; exact ⟨Elem.cR_bald E56_raw _, Elem.cR_bald E3_raw _⟩⟩)
          · refine sk_leaf ?_
            obtain ⟨g19, h⟩ := if_ h
            refine app_ok (d := 44) (e := 3) (s := 1) (b := 8) (x := .row 3 1 0 l10.length) (y := .row 16913 1 0 r16.2.1.length) E3 (xs := l10) (ys := r16.2.1) (by as_aux_lemma => kernel_rfl) rfl (.row 3 l10 l10.length rfl (by as_aux_lemma => kernel_rfl)) (.all 16913 3 r16.2.1 r16.2.1.length rfl (by as_aux_lemma => kernel_rfl)) g19 (by as_aux_lemma => kernel_rfl) ?_
            refine segs [] tabOk mixed 4000 (S := .leaf 0) (by as_aux_lemma => kernel_rfl) ?_
            refine sk_leaf ?_
            refine back_ok (p := p1) (by as_aux_lemma => kernel_rfl) (hp1 (n1, r16.1, (l10 ++ r16.2.1), (IntKind.i64.wrap (x11 + 1)), r16.2.2.1.Came, r16.2.2.1.Nobody, r16.2.2.1.Off) _ h (Nat.lt_succ_self n1) ?_)
            exact sub_ok (ρ := [(0, some 16912), (1, some 1), (2, some 2), (3, some 17088)]) (l := [0 = 0, r16.1.length = r16.1.length, 0 = 0, (0 : Int) = 0, 0 = 0, ((l10 ++ r16.2.1).length) = ((l10 ++ r16.2.1).length), 0 = 0, (a1 : Int) = a1, ((IntKind.i64.wrap (x11 + 1)) : Int) = (IntKind.i64.wrap (x11 + 1)), E56.cR r16.1 = E56.cR r16.1, AllPv (E56.cR r16.1), (0 : Int) = 0, (0 : Int) = 0, false = false, (r16.2.2.1.Came : Int) = r16.2.2.1.Came, (r16.2.2.1.Nobody : Int) = r16.2.2.1.Nobody, r16.2.2.1.Off = r16.2.2.1.Off, E3.cR (l10 ++ r16.2.1) = E3.cR (l10 ++ r16.2.1), AllPv (E3.cR (l10 ++ r16.2.1))]) (by as_aux_lemma => kernel_rfl) ⟨rfl, rfl, rfl, rfl, rfl, rfl, rfl, rfl, rfl, rfl, (Elem.cR_pv _ _), rfl, rfl, rfl, rfl, rfl, rfl, rfl, (Elem.cR_pv _ _), trivial⟩
        · refine sk_leaf ?_
          obtain rfl := some_ h
          exact end_ok [(0, some 0), (1, some 3)] Try.results28 (ps := [0 = 0, l9.length = l9.length, 0 = 0, l10.length = l10.length, (x12 : Int) = x12, (x13 : Int) = x13, b14 = b14, (0 : Int) = 0, E56.cR l9 = E56.cR l9, AllPv (E56.cR l9), E3.cR l10 = E3.cR l10, AllPv (E3.cR l10)]) (by as_aux_lemma => kernel_rfl) ⟨rfl, (by first | rfl | simp), rfl, (by first | rfl | simp), rfl, rfl, rfl, rfl, rfl, (Elem.cR_pv _ _), rfl, (Elem.cR_pv _ _), trivial⟩ (fun _ => ⟨rfl, by simp only [List.mem_cons, List.not_mem_nil, or_false, forall_eq_or_imp, forall_eq]; exact ⟨Elem.cR_bald E56_raw _, Elem.cR_bald E3_raw _⟩⟩)

set_option maxHeartbeats 40000000 in
set_option maxRecDepth 100000 in
theorem slices_Equal_int_ok (a0 : (List Int)) (a1 : (List Int)) (r : Bool) (h : slices_Equal_int a0 a1 = some r) {al : Bool} : PCalls Try.prog 18 [.pv ((E3.ro a0)), .pv ((E3.ro a1))] al (.pv (.raw (.bool r))) [] := by
  unfold slices_Equal_int at h
  refine fn_ok tabOk Try.func18 (by as_aux_lemma => kernel_rfl) (by as_aux_lemma => kernel_rfl) Try.ntmps18 (by simp) ?_
  refine segs [] tabOk mixed 4000 (S := .br ((((a0.length : Nat) : Int) : Int) != ((a1.length : Nat) : Int)) (.leaf 0) (.leaf 1)) (by as_aux_lemma => kernel_rfl) ?_
  refine br_ h ?_ ?_ <;> clear h <;> intro c1 h
  · refine sk_leaf ?_
    obtain rfl := some_ h
    exact end_ok [] Try.results18 (ps := [false = false]) (by as_aux_lemma => kernel_rfl) ⟨rfl, trivial⟩ (fun _ => ⟨rfl, by simp⟩)
  · refine sk_leaf ?_
    refine len_ro (by as_aux_lemma => kernel_rfl) 0 (s := 1) (n := a0.length) (c := fun i j => E3.cf (a0.getD i E3.z) j) (by as_aux_lemma => kernel_rfl) ?_; intro hl1_0
    refine len_ro (by as_aux_lemma => kernel_rfl) 1 (s := 1) (n := a1.length) (c := fun i j => E3.cf (a1.getD i E3.z) j) (by as_aux_lemma => kernel_rfl) ?_; intro hl1_1
    replace h : (fun (x : Nat × Nat) => slices_Equal_int_l1 a0 a1 x.1 x.2 = some r) (FUEL, 0) := h
    refine loop_ok (by as_aux_lemma => kernel_rfl) (X := Nat × Nat) (fun x => slices_Equal_int_l1 a0 a1 x.1 x.2 = some r) (fun x => x.1) (fun x => mk 26 [(0, .pv ((E3.ro a0))), (1, .pv ((E3.ro a1))), (4, .pv (.raw (.bool false))), (12, .pv (.raw (.int .i64 ((a0.length : Nat) : Int)))), (13, .pv (.raw (.int .i64 ((x.2 : Nat) : Int))))] []) (FUEL, 0) h ?_ ?_
    · exact sub_ok (ρ := []) (l := [a0.length = a0.length, ∀ i, i < a0.length → ∀ j, j < 1 → E3.cf (a0.getD i E3.z) j = E3.cf (a0.getD i E3.z) j, a1.length = a1.length, ∀ i, i < a1.length → ∀ j, j < 1 → E3.cf (a1.getD i E3.z) j = E3.cf (a1.getD i E3.z) j, false = false, (((a0.length : Nat) : Int) : Int) = ((a0.length : Nat) : Int), (0 : Int) = ((0 : Nat) : Int)]) (by as_aux_lemma => kernel_rfl) ⟨rfl, fun _ _ _ _ => rfl, rfl, fun _ _ _ _ => rfl, rfl, rfl, (by first | rfl | simp), trivial⟩
    · clear h; rintro ⟨n1, k2⟩ h p1 hp1
      obtain _ | n1 := n1
      · cases (show (none : Option (Bool)) = some r from h)
      have h : slices_Equal_int_l1 a0 a1 (n1 + 1) k2 = some r := h
      unfold slices_Equal_int_l1 at h
      refine segs [] tabOk mixed 4000 (S := .br (decide ((((k2 : Nat) : Int) : Int) < ((a0.length : Nat) : Int))) (.and (0 ≤ (((k2 : Nat) : Int) : Int) ∧ ((k2 : Nat) : Int) < ((a0.length : Nat) : Int)) (.and (0 ≤ (((k2 : Nat) : Int) : Int) ∧ ((k2 : Nat) : Int) < ((a1.length : Nat) : Int)) (.br (((a0.getD k2 0) : Int) != (a1.getD k2 0)) (.leaf 0) (.leaf 1)))) (.leaf 2)) (by as_aux_lemma => kernel_rfl) ?_
      refine br_ h ?_ ?_ <;> clear h <;> intro c3 h
      · refine sk_and ⟨Int.natCast_nonneg _, of_decide_eq_true c3⟩ ?_
        refine gd_ h ?_; clear h; intro g5 h
        refine br_ h ?_ ?_ <;> clear h <;> intro c6 h
        · refine sk_leaf ?_
          obtain rfl := some_ h
          exact end_ok [] Try.results18 (ps := [false = false]) (by as_aux_lemma => kernel_rfl) ⟨rfl, trivial⟩ (fun _ => ⟨rfl, by simp⟩)
        · refine sk_leaf ?_
          refine back_ok (p := p1) (by as_aux_lemma => kernel_rfl) (hp1 (n1, k2 + 1) _ h (Nat.lt_succ_self n1) ?_)
          exact sub_ok (ρ := []) (l := [a0.length = a0.length, ∀ i, i < a0.length → ∀ j, j < 1 → E3.cf (a0.getD i E3.z) j = E3.cf (a0.getD i E3.z) j, a1.length = a1.length, ∀ i, i < a1.length → ∀ j, j < 1 → E3.cf (a1.getD i E3.z) j = E3.cf (a1.getD i E3.z) j, false = false, (((a0.length : Nat) : Int) : Int) = ((a0.length : Nat) : Int), ((IntKind.i64.wrap (((k2 : Nat) : Int) + 1)) : Int) = (((k2 + 1) : Nat) : Int)]) (by as_aux_lemma => kernel_rfl) ⟨rfl, fun _ _ _ _ => rfl, rfl, fun _ _ _ _ => rfl, rfl, rfl, (wrap_nat (Int.ofNat_lt.1 (of_decide_eq_true c3)) (by omega)), trivial⟩
      · refine sk_leaf ?_
        obtain rfl := some_ h
        exact end_ok [] Try.results18 (ps := [true = true]) (by as_aux_lemma => kernel_rfl) ⟨rfl, trivial⟩ (fun _ => ⟨rfl, by simp⟩)

set_option maxHeartbeats 40000000 in
set_option maxRecDepth 100000 in
theorem keep_alive9_ok (r : Bool) (h : keep_alive9 = some r) {al : Bool} : PCalls Try.prog 25 [] al (.pv (.raw (.bool r))) [] := by
  unfold keep_alive9 at h
  refine fn_ok tabOk Try.func25 (by as_aux_lemma => kernel_rfl) (by as_aux_lemma => kernel_rfl) Try.ntmps25 (by simp) ?_
  refine segs [] tabOk mixed 4000 (S := .leaf 0) (by as_aux_lemma => kernel_rfl) ?_
  refine sk_leaf ?_
  refine bs_ok (d := 8) (e := 56) (s := 2) (n := 2) (cs := [.pv (.raw (.int .i64 1)), .pv (.raw (.int .i64 1)), .pv (.raw (.int .i64 2)), .pv (.raw (.int .i64 2))]) (cs' := E56.cR [(⟨1, 1⟩ : Api_Handler), (⟨2, 2⟩ : Api_Handler)]) (by as_aux_lemma => kernel_rfl) rfl (by as_aux_lemma => kernel_rfl) ?_
  refine segs [] tabOk mixed 4000 (S := .leaf 0) (by as_aux_lemma => kernel_rfl) ?_
  refine sk_leaf ?_
  obtain ⟨r1, e2, h⟩ := bd_ h
  refine call_ok (d := some 9) (fn := 28) (ax := [.row 16512 2 0 2, .pv (.raw (.int .i64 9))]) (args := [.pv ((E56.ro [(⟨1, 1⟩ : Api_Handler), (⟨2, 2⟩ : Api_Handler)])), .pv (.raw (.int .i64 9))]) (ps := [2 = [(⟨1, 1⟩ : Api_Handler), (⟨2, 2⟩ : Api_Handler)].length, rowQ (E56.cR [(⟨1, 1⟩ : Api_Handler), (⟨2, 2⟩ : Api_Handler)]) 2 0 2 (fun i j => E56.cf ([(⟨1, 1⟩ : Api_Handler), (⟨2, 2⟩ : Api_Handler)].getD i E56.z) j), (9 : Int) = 9]) (hb' := [.row 56 2 (E56.cR r1.1), .row 3 1 (E3.cR r1.2.1)]) (by as_aux_lemma => kernel_rfl) (chain_Play_ok _ _ _ e2 (al := false)) (by as_aux_lemma => kernel_rfl) ⟨(by first | rfl | exact Elem.sub_len _ (by omega) | omega | simp | (simp <;> omega)), E56.rowQ_all [(⟨1, 1⟩ : Api_Handler), (⟨2, 2⟩ : Api_Handler)] rfl, rfl, trivial⟩ (fun hx => by cases hx) (by simp) (by simp only [List.map_cons, List.map_nil, Elem.row_up, up_map]) (by as_aux_lemma => kernel_rfl) ?_
  refine segs [] tabOk mixed 4000 (S := .and ((((r1.2.2.2 : Int) == 0) = true → (((r1.2.2.2 : Int) == 0) = true))) (.and ((((r1.2.2.2 : Int) == 0) = true → (((r1.2.2.2 : Int) == 0) = true))) (.and (((r1.2.2.2 : Int) == 0) = true → ((r1.2.2.2 : Int) == 0) = true) (.leaf 0)))) (by as_aux_lemma => kernel_rfl) ?_
  refine sk_and ((by decide : ∀ y0 : Bool, ((y0 = true) → (y0 = true))) ((r1.2.2.2 : Int) == 0)) ?_
  refine sk_and ((by decide : ∀ y0 : Bool, ((y0 = true) → (y0 = true))) ((r1.2.2.2 : Int) == 0)) ?_
  refine sk_and ((by decide : ∀ y0 : Bool, ((y0 = true) → (y0 = true))) ((r1.2.2.2 : Int) == 0)) ?_
  refine sk_leaf ?_
  refine bsG_ok (d := 23) (e := 3) (s := 1) (n := 2) (g := (((r1.2.2.2 : Int) == 0) && ((((r1.1.length : Nat) : Int) : Int) == 2))) (ws := []) (cs := [.pv (.raw (.int .i64 1)), .pv (.raw (.int .i64 1))]) E3 [1, 1] (by as_aux_lemma => kernel_rfl) (fun _ => trivial) rfl rfl rfl (by as_aux_lemma => kernel_rfl) ?_
  refine segs [] tabOk mixed 4000 (S := .leaf 0) (by as_aux_lemma => kernel_rfl) ?_
  refine sk_leaf ?_
  obtain ⟨r6, e7, h⟩ := bd_ h
  refine callG_ok (d := some 24) (fn := 18) (ax := [.row 16529 1 0 r1.2.1.length, .pv ((E3.ro [1, 1]))]) (args := [.pv ((E3.ro r1.2.1)), .pv ((E3.ro [1, 1]))]) (g := (((r1.2.2.2 : Int) == 0) && ((((r1.1.length : Nat) : Int) : Int) == 2))) (ws := [(((r1.2.2.2 : Int) == 0) && ((((r1.1.length : Nat) : Int) : Int) == 2)) = true, (((r1.2.2.2 : Int) == 0) && ((((r1.1.length : Nat) : Int) : Int) == 2)) = true]) (ps := [r1.2.1.length = r1.2.1.length, rowQ (E3.cR r1.2.1) 1 0 r1.2.1.length (fun i j => E3.cf (r1.2.1.getD i E3.z) j), [1, 1].length = [1, 1].length, ∀ i, i < [1, 1].length → ∀ j, j < 1 → E3.cf ([1, 1].getD i E3.z) j = E3.cf ([1, 1].getD i E3.z) j]) (by as_aux_lemma => kernel_rfl) (fun hg => ⟨((by decide : ∀ y0 : Bool, ((y0 = true) → (y0 = true))) (((r1.2.2.2 : Int) == 0) && ((((r1.1.length : Nat) : Int) : Int) == 2))) hg, ((by decide : ∀ y0 : Bool, ((y0 = true) → (y0 = true))) (((r1.2.2.2 : Int) == 0) && ((((r1.1.length : Nat) : Int) : Int) == 2))) hg, trivial⟩) (fun hg => slices_Equal_int_ok _ _ _ (by rw [hg] at e7; exact e7) (al := false)) (by as_aux_lemma => kernel_rfl) (fun hg => ⟨(by first | rfl | exact Elem.sub_len _ (by omega) | omega | simp | (simp <;> omega)), E3.rowQ_all r1.2.1 rfl, rfl, fun _ _ _ _ => rfl, trivial⟩) (fun hx => by cases hx) ?_
  refine segs [] tabOk mixed 4000 (S := .and ((((r1.2.2.2 : Int) == 0) && ((((r1.1.length : Nat) : Int) : Int) == 2)) = true → (((r1.2.2.2 : Int) == 0) && ((((r1.1.length : Nat) : Int) : Int) == 2)) = true) (.and ((((((r1.2.2.2 : Int) == 0) && ((((r1.1.length : Nat) : Int) : Int) == 2)) && r6) = true → (((((r1.2.2.2 : Int) == 0) && ((((r1.1.length : Nat) : Int) : Int) == 2)) && r6) = true))) (.and ((((((r1.2.2.2 : Int) == 0) && ((((r1.1.length : Nat) : Int) : Int) == 2)) && r6) = true → (((((r1.2.2.2 : Int) == 0) && ((((r1.1.length : Nat) : Int) : Int) == 2)) && r6) = true))) (.and (((((r1.2.2.2 : Int) == 0) && ((((r1.1.length : Nat) : Int) : Int) == 2)) && r6) = true → ((((r1.2.2.2 : Int) == 0) && ((((r1.1.length : Nat) : Int) : Int) == 2)) && r6) = true) (.leaf 0))))) (by as_aux_lemma => kernel_rfl) ?_
  refine sk_and ((by decide : ∀ y0 : Bool, ((y0 = true) → (y0 = true))) (((r1.2.2.2 : Int) == 0) && ((((r1.1.length : Nat) : Int) : Int) == 2))) ?_
  refine sk_and ((by decide : ∀ y0 : Bool, ((y0 = true) → (y0 = true))) ((((r1.2.2.2 : Int) == 0) && ((((r1.1.length : Nat) : Int) : Int) == 2)) && r6)) ?_
  refine sk_and ((by decide : ∀ y0 : Bool, ((y0 = true) → (y0 = true))) ((((r1.2.2.2 : Int) == 0) && ((((r1.1.length : Nat) : Int) : Int) == 2)) && r6)) ?_
  refine sk_and ((by decide : ∀ y0 : Bool, ((y0 = true) → (y0 = true))) ((((r1.2.2.2 : Int) == 0) && ((((r1.1.length : Nat) : Int) : Int) == 2)) && r6)) ?_
  refine sk_leaf ?_
  obtain rfl := some_ h
  exact end_ok [] Try.results25 (ps := [(((((r1.2.2.2 : Int) == 0) && ((((r1.1.length : Nat) : Int) : Int) == 2)) && r6) && (((r1.2.2.1.Came : Int) == 7) && (((r1.2.2.1.Nobody : Int) == 5) && ((r1.2.2.1.Off == true) && true)))) = (((((r1.2.2.2 : Int) == 0) && ((((r1.1.length : Nat) : Int) : Int) == 2)) && r6) && (((r1.2.2.1.Came : Int) == 7) && (((r1.2.2.1.Nobody : Int) == 5) && ((r1.2.2.1.Off == true) && true))))]) (by as_aux_lemma => kernel_rfl) ⟨rfl, trivial⟩ (fun _ => ⟨rfl, by simp⟩)

set_option maxHeartbeats 40000000 in
set_option maxRecDepth 100000 in
theorem slices_Reverse_api_Handler_h0_ok (a0 : (List Api_Handler)) (r : (List Api_Handler)) (h : slices_Reverse_api_Handler_h0 a0 = some r) {al : Bool} : MCalls Try.prog 27 [.row 0 2 0 a0.length] [.row 56 2 (E56.cR a0)] 1 al (.tup []) [.row 56 2 (E56.cR r)] := by
  unfold slices_Reverse_api_Handler_h0 at h
  refine fnM_ok tabOk (fz := []) Try.func27 (by as_aux_lemma => kernel_rfl) (by as_aux_lemma => kernel_rfl) Try.ntmps27 (by simp) (by simp) ?_
  refine segs [] tabOk mixed 4000 (S := .leaf 0) (by as_aux_lemma => kernel_rfl) ?_
  refine sk_leaf ?_
  refine len_row (by as_aux_lemma => kernel_rfl) 0 (e := 56) (s := 2) (n := a0.length) (cs := E56.cR a0) (by as_aux_lemma => kernel_rfl) (Elem.cR_length _ _) ?_; intro hl1_0
  replace h : (fun (x : Nat × Int × Int × List Api_Handler) => slices_Reverse_api_Handler_h0_l1 a0 x.1 x.2.1 x.2.2.1 x.2.2.2 = some r) (FUEL, 0, (IntKind.i64.wrap (((a0.length : Nat) : Int) - 1)), a0) := h
  refine loop_ok (by as_aux_lemma => kernel_rfl) (X := Nat × Int × Int × List Api_Handler) (fun x => slices_Reverse_api_Handler_h0_l1 a0 x.1 x.2.1 x.2.2.1 x.2.2.2 = some r) (fun x => x.1) (fun x => mk 28 [(0, .row 0 2 0 x.2.2.2.length), (2, .pv (.raw (.int .i64 x.2.1))), (3, .pv (.raw (.int .i64 x.2.2.1)))] [(0, .row 56 2 (E56.cR x.2.2.2))] [] 1) (FUEL, 0, (IntKind.i64.wrap (((a0.length : Nat) : Int) - 1)), a0) h ?_ ?_
  · exact sub_ok (ρ := [(0, some 0)]) (l := [0 = 0, a0.length = a0.length, (0 : Int) = 0, ((IntKind.i64.wrap (((a0.length : Nat) : Int) - 1)) : Int) = (IntKind.i64.wrap (((a0.length : Nat) : Int) - 1)), E56.cR a0 = E56.cR a0, AllPv (E56.cR a0)]) (by as_aux_lemma => kernel_rfl) ⟨rfl, rfl, rfl, rfl, rfl, (Elem.cR_pv _ _), trivial⟩
  · clear h; rintro ⟨n1, x1, x2, l3⟩ h p1 hp1
    obtain _ | n1 := n1
    · cases (show (none : Option ((List Api_Handler))) = some r from h)
    have h : slices_Reverse_api_Handler_h0_l1 a0 (n1 + 1) x1 x2 l3 = some r := h
    unfold slices_Reverse_api_Handler_h0_l1 at h
    refine segs [] tabOk mixed 4000 (S := .br (decide ((x1 : Int) < x2)) (.and (0 ≤ (x2 : Int) ∧ x2 < ((l3.length : Nat) : Int)) (.leaf 0)) (.leaf 1)) (by as_aux_lemma => kernel_rfl) ?_
    refine br_ h ?_ ?_ <;> clear h <;> intro c4 h
    · refine gd_ h ?_; clear h; intro g5 h
      refine sk_leaf ?_
      refine lda_ok (d := 21) (id := 0) (i := (0 + (Int.toNat x2))) (e := 56) (n := 2) E56 (xs := l3) (by as_aux_lemma => kernel_rfl) (by as_aux_lemma => kernel_rfl) (by first | omega | (simp at * <;> omega) | (simp_all <;> omega)) rfl ?_
      refine segs [] tabOk mixed 4000 (S := .and (0 ≤ (x1 : Int) ∧ x1 < ((l3.length : Nat) : Int)) (.leaf 0)) (by as_aux_lemma => kernel_rfl) ?_
      refine gd_ h ?_; clear h; intro g6 h
      refine sk_leaf ?_
      refine lda_ok (d := 25) (id := 0) (i := (0 + (Int.toNat x1))) (e := 56) (n := 2) E56 (xs := l3) (by as_aux_lemma => kernel_rfl) (by as_aux_lemma => kernel_rfl) (by first | omega | (simp at * <;> omega) | (simp_all <;> omega)) rfl ?_
      refine segs [] tabOk mixed 4000 (S := .and (0 ≤ (x1 : Int) ∧ x1 < ((l3.length : Nat) : Int)) (.leaf 0)) (by as_aux_lemma => kernel_rfl) ?_
      refine gd_ h ?_; clear h; intro g7 h
      refine sk_leaf ?_
      refine st_ok (id := 0) (i := (0 + (Int.toNat x1))) (j := 0) (e := 56) (vs := [.pv (.raw (.int .i64 ((l3.getD (0 + (Int.toNat x2)) (⟨0, 0⟩ : Api_Handler)).Says))), .pv (.raw (.int .i64 ((l3.getD (0 + (Int.toNat x2)) (⟨0, 0⟩ : Api_Handler)).Left)))]) E56 (xs := l3) (l3.getD (0 + (Int.toNat x2)) (⟨0, 0⟩ : Api_Handler)) (by as_aux_lemma => kernel_rfl) (by as_aux_lemma => kernel_rfl) (by first | omega | (simp at * <;> omega) | (simp_all <;> omega)) (by exact Nat.le_of_ble_eq_true rfl) rfl ?_
      refine segs [] tabOk mixed 4000 (S := .and (0 ≤ (x2 : Int) ∧ x2 < ((l3.length : Nat) : Int)) (.leaf 0)) (by as_aux_lemma => kernel_rfl) ?_
      refine gd_ h ?_; clear h; intro g8 h
      refine sk_leaf ?_
      refine st_ok (id := 0) (i := (0 + (Int.toNat x2))) (j := 0) (e := 56) (vs := [.pv (.raw (.int .i64 ((l3.getD (0 + (Int.toNat x1)) (⟨0, 0⟩ : Api_Handler)).Says))), .pv (.raw (.int .i64 ((l3.getD (0 + (Int.toNat x1)) (⟨0, 0⟩ : Api_Handler)).Left)))]) E56 (xs := (l3.set (0 + (Int.toNat x1)) (l3.getD (0 + (Int.toNat x2)) (⟨0, 0⟩ : Api_Handler)))) (l3.getD (0 + (Int.toNat x1)) (⟨0, 0⟩ : Api_Handler)) (by as_aux_lemma => kernel_rfl) (by as_aux_lemma => kernel_rfl) (by first | omega | (simp at * <;> omega) | (simp_all <;> omega)) (by exact Nat.le_of_ble_eq_true rfl) rfl ?_
      refine segs [] tabOk mixed 4000 (S := .leaf 0) (by as_aux_lemma => kernel_rfl) ?_
      refine sk_leaf ?_
      refine back_ok (p := p1) (by as_aux_lemma => kernel_rfl) (hp1 (n1, (IntKind.i64.wrap (x1 + 1)), (IntKind.i64.wrap (x2 - 1)), ((l3.set (0 + (Int.toNat x1)) (l3.getD (0 + (Int.toNat x2)) (⟨0, 0⟩ : Api_Handler))).set (0 + (Int.toNat x2)) (l3.getD (0 + (Int.toNat x1)) (⟨0, 0⟩ : Api_Handler)))) _ h (Nat.lt_succ_self n1) ?_)
      exact sub_ok (ρ := [(0, some 0)]) (l := [0 = 0, l3.length = (((l3.set (0 + (Int.toNat x1)) (l3.getD (0 + (Int.toNat x2)) (⟨0, 0⟩ : Api_Handler))).set (0 + (Int.toNat x2)) (l3.getD (0 + (Int.toNat x1)) (⟨0, 0⟩ : Api_Handler))).length), ((IntKind.i64.wrap (x1 + 1)) : Int) = (IntKind.i64.wrap (x1 + 1)), ((IntKind.i64.wrap (x2 - 1)) : Int) = (IntKind.i64.wrap (x2 - 1)), E56.cR ((l3.set (0 + (Int.toNat x1)) (l3.getD (0 + (Int.toNat x2)) (⟨0, 0⟩ : Api_Handler))).set (0 + (Int.toNat x2)) (l3.getD (0 + (Int.toNat x1)) (⟨0, 0⟩ : Api_Handler))) = E56.cR ((l3.set (0 + (Int.toNat x1)) (l3.getD (0 + (Int.toNat x2)) (⟨0, 0⟩ : Api_Handler))).set (0 + (Int.toNat x2)) (l3.getD (0 + (Int.toNat x1)) (⟨0, 0⟩ : Api_Handler))), AllPv (E56.cR ((l3.set (0 + (Int.toNat x1)) (l3.getD (0 + (Int.toNat x2)) (⟨0, 0⟩ : Api_Handler))).set (0 + (Int.toNat x2)) (l3.getD (0 + (Int.toNat x1)) (⟨0, 0⟩ : Api_Handler))))]) (by as_aux_lemma => kernel_rfl) ⟨rfl, (by first | rfl | (simp; done) | omega | (simp <;> omega)), rfl, rfl, rfl, (Elem.cR_pv _ _), trivial⟩
    · refine sk_leaf ?_
      obtain rfl := some_ h
      exact endM_ok [(0, some 0)] Try.results27 (ps := [E56.cR l3 = E56.cR l3, AllPv (E56.cR l3)]) (by as_aux_lemma => kernel_rfl) ⟨rfl, (Elem.cR_pv _ _), trivial⟩ (fun _ => ⟨rfl, by simp only [List.mem_cons, List.not_mem_nil, or_false, forall_eq_or_imp, forall_eq]; exact Elem.cR_bald E56_raw _⟩)

set_option maxHeartbeats 40000000 in
set_option maxRecDepth 100000 in
theorem slices_Equal_api_Handler_ok (a0 : (List Api_Handler)) (a1 : (List Api_Handler)) (r : Bool) (h : slices_Equal_api_Handler a0 a1 = some r) {al : Bool} : PCalls Try.prog 29 [.pv ((E56.ro a0)), .pv ((E56.ro a1))] al (.pv (.raw (.bool r))) [] := by
  unfold slices_Equal_api_Handler at h
  refine fn_ok tabOk Try.func29 (by as_aux_lemma => kernel_rfl) (by as_aux_lemma => kernel_rfl) Try.ntmps29 (by simp) ?_
  refine segs [] tabOk mixed 4000 (S := .br ((((a0.length : Nat) : Int) : Int) != ((a1.length : Nat) : Int)) (.leaf 0) (.leaf 1)) (by as_aux_lemma => kernel_rfl) ?_
  refine br_ h ?_ ?_ <;> clear h <;> intro c1 h
  · refine sk_leaf ?_
    obtain rfl := some_ h
    exact end_ok [] Try.results29 (ps := [false = false]) (by as_aux_lemma => kernel_rfl) ⟨rfl, trivial⟩ (fun _ => ⟨rfl, by simp⟩)
  · refine sk_leaf ?_
    refine len_ro (by as_aux_lemma => kernel_rfl) 0 (s := 2) (n := a0.length) (c := fun i j => E56.cf (a0.getD i E56.z) j) (by as_aux_lemma => kernel_rfl) ?_; intro hl1_0
    refine len_ro (by as_aux_lemma => kernel_rfl) 1 (s := 2) (n := a1.length) (c := fun i j => E56.cf (a1.getD i E56.z) j) (by as_aux_lemma => kernel_rfl) ?_; intro hl1_1
    replace h : (fun (x : Nat × Nat) => slices_Equal_api_Handler_l1 a0 a1 x.1 x.2 = some r) (FUEL, 0) := h
    refine loop_ok (by as_aux_lemma => kernel_rfl) (X := Nat × Nat) (fun x => slices_Equal_api_Handler_l1 a0 a1 x.1 x.2 = some r) (fun x => x.1) (fun x => mk 26 [(0, .pv ((E56.ro a0))), (1, .pv ((E56.ro a1))), (4, .pv (.raw (.bool false))), (12, .pv (.raw (.int .i64 ((a0.length : Nat) : Int)))), (13, .pv (.raw (.int .i64 ((x.2 : Nat) : Int))))] []) (FUEL, 0) h ?_ ?_
    · exact sub_ok (ρ := []) (l := [a0.length = a0.length, ∀ i, i < a0.length → ∀ j, j < 2 → E56.cf (a0.getD i E56.z) j = E56.cf (a0.getD i E56.z) j, a1.length = a1.length, ∀ i, i < a1.length → ∀ j, j < 2 → E56.cf (a1.getD i E56.z) j = E56.cf (a1.getD i E56.z) j, false = false, (((a0.length : Nat) : Int) : Int) = ((a0.length : Nat) : Int), (0 : Int) = ((0 : Nat) : Int)]) (by as_aux_lemma => kernel_rfl) ⟨rfl, fun _ _ _ _ => rfl, rfl, fun _ _ _ _ => rfl, rfl, rfl, (by first | rfl | simp), trivial⟩
    · clear h; rintro ⟨n1, k2⟩ h p1 hp1
      obtain _ | n1 := n1
      · cases (show (none : Option (Bool)) = some r from h)
      have h : slices_Equal_api_Handler_l1 a0 a1 (n1 + 1) k2 = some r := h
      unfold slices_Equal_api_Handler_l1 at h
      refine segs [] tabOk mixed 4000 (S := .br (decide ((((k2 : Nat) : Int) : Int) < ((a0.length : Nat) : Int))) (.and (0 ≤ (((k2 : Nat) : Int) : Int) ∧ ((k2 : Nat) : Int) < ((a0.length : Nat) : Int)) (.and (0 ≤ (((k2 : Nat) : Int) : Int) ∧ ((k2 : Nat) : Int) < ((a1.length : Nat) : Int)) (.br (!((((a0.getD k2 (⟨0, 0⟩ : Api_Handler)).Says : Int) == ((a1.getD k2 (⟨0, 0⟩ : Api_Handler)).Says)) && ((((a0.getD k2 (⟨0, 0⟩ : Api_Handler)).Left : Int) == ((a1.getD k2 (⟨0, 0⟩ : Api_Handler)).Left)) && true))) (.leaf 0) (.leaf 1)))) (.leaf 2)) (by as_aux_lemma => kernel_rfl) ?_
      refine br_ h ?_ ?_ <;> clear h <;> intro c3 h
      · refine sk_and ⟨Int.natCast_nonneg _, of_decide_eq_true c3⟩ ?_
        refine gd_ h ?_; clear h; intro g5 h
        refine br_ h ?_ ?_ <;> clear h <;> intro c6 h
        · refine sk_leaf ?_
          obtain rfl := some_ h
          exact end_ok [] Try.results29 (ps := [false = false]) (by as_aux_lemma => kernel_rfl) ⟨rfl, trivial⟩ (fun _ => ⟨rfl, by simp⟩)
        · refine sk_leaf ?_
          refine back_ok (p := p1) (by as_aux_lemma => kernel_rfl) (hp1 (n1, k2 + 1) _ h (Nat.lt_succ_self n1) ?_)
          exact sub_ok (ρ := []) (l := [a0.length = a0.length, ∀ i, i < a0.length → ∀ j, j < 2 → E56.cf (a0.getD i E56.z) j = E56.cf (a0.getD i E56.z) j, a1.length = a1.length, ∀ i, i < a1.length → ∀ j, j < 2 → E56.cf (a1.getD i E56.z) j = E56.cf (a1.getD i E56.z) j, false = false, (((a0.length : Nat) : Int) : Int) = ((a0.length : Nat) : Int), ((IntKind.i64.wrap (((k2 : Nat) : Int) + 1)) : Int) = (((k2 + 1) : Nat) : Int)]) (by as_aux_lemma => kernel_rfl) ⟨rfl, fun _ _ _ _ => rfl, rfl, fun _ _ _ _ => rfl, rfl, rfl, (wrap_nat (Int.ofNat_lt.1 (of_decide_eq_true c3)) (by omega)), trivial⟩
      · refine sk_leaf ?_
        obtain rfl := some_ h
        exact end_ok [] Try.results29 (ps := [true = true]) (by as_aux_lemma => kernel_rfl) ⟨rfl, trivial⟩ (fun _ => ⟨rfl, by simp⟩)

set_option maxHeartbeats 40000000 in
set_option maxRecDepth 100000 in
theorem keep_ChainOrder_ok (a0 : (List Api_Handler)) (a1 : Int) (r : Bool) (h : keep_ChainOrder a0 a1 = some r) {al : Bool} : PCalls Try.prog 7 [.pv ((E56.ro a0)), .pv (.raw (.int .i64 a1))] al (.pv (.raw (.bool r))) [] := by
  unfold keep_ChainOrder at h
  refine fnZ_ok tabOk [27] Try.func7 (by as_aux_lemma => kernel_rfl) (by as_aux_lemma => kernel_rfl) Try.ntmps7 (by simp) ?_
  refine segs [] tabOk mixed 4000 (S := .leaf 0) (by as_aux_lemma => kernel_rfl) ?_
  refine sk_leaf ?_
  obtain ⟨r1, e2, h⟩ := bd_ h
  refine call_ok (d := some 15) (fn := 25) (ax := []) (args := []) (ps := []) (hb' := []) (by as_aux_lemma => kernel_rfl) (keep_alive9_ok  _ e2 (al := true)) (by as_aux_lemma => kernel_rfl) trivial (fun _ => (by as_aux_lemma => kernel_rfl)) (by simp) rfl (by as_aux_lemma => kernel_rfl) ?_
  refine segs [] tabOk mixed 4000 (S := .br (!r1) (.leaf 0) (.leaf 1)) (by as_aux_lemma => kernel_rfl) ?_
  refine br_ h ?_ ?_ <;> clear h <;> intro c3 h
  · refine sk_leaf ?_
    obtain rfl := some_ h
    exact end_ok [] Try.results7 (ps := [false = false]) (by as_aux_lemma => kernel_rfl) ⟨rfl, trivial⟩ (fun _ => ⟨rfl, by simp⟩)
  · refine sk_leaf ?_
    obtain ⟨r4, e5, h⟩ := bd_ h
    refine call_ok (d := some 18) (fn := 26) (ax := [.pv ((E56.ro a0))]) (args := [.pv ((E56.ro a0))]) (ps := [a0.length = a0.length, ∀ i, i < a0.length → ∀ j, j < 2 → E56.cf (a0.getD i E56.z) j = E56.cf (a0.getD i E56.z) j]) (hb' := [.row 56 2 (E56.cR r4)]) (by as_aux_lemma => kernel_rfl) (slices_Clone_api_Handler_ok _ _ e5 (al := true)) (by as_aux_lemma => kernel_rfl) ⟨rfl, fun _ _ _ _ => rfl, trivial⟩ (fun _ => (by as_aux_lemma => kernel_rfl)) (by simp) (by simp only [List.map_cons, List.map_nil, Elem.row_up, up_map]) (by as_aux_lemma => kernel_rfl) ?_
    refine segs [] tabOk mixed 4000 (S := .leaf 0) (by as_aux_lemma => kernel_rfl) ?_
    refine sk_leaf ?_
    obtain ⟨r6, e7, h⟩ := bd_ h
    obtain ⟨g8, h⟩ := if_ h
    refine mcall_ok (d := some 20) (fn := 27) (ax := [.row 16672 2 0 r4.length]) (hs := [(16672, .row 56 2 (E56.cR r6))]) (del := []) (ps := [0 = 0, r4.length = r4.length, E56.cR r4 = E56.cR r4, AllPv (E56.cR r4)]) [(0, some 16672)] (by as_aux_lemma => kernel_rfl) (slices_Reverse_api_Handler_h0_ok _ _ e7 (al := true)) (by as_aux_lemma => kernel_rfl) ⟨rfl, rfl, rfl, (Elem.cR_pv _ _), trivial⟩ (by as_aux_lemma => kernel_rfl) (by simp only [mset_row, mset_box, mset_nil, mset_map, List.set_set]; kernel_rfl) (by as_aux_lemma => kernel_rfl) ?_
    refine segs [] tabOk mixed 4000 (S := .leaf 0) (by as_aux_lemma => kernel_rfl) ?_
    refine sk_leaf ?_
    obtain ⟨r9, e10, h⟩ := bd_ h
    refine call_ok (d := some 24) (fn := 28) (ax := [.pv ((E56.ro a0)), .pv (.raw (.int .i64 a1))]) (args := [.pv ((E56.ro a0)), .pv (.raw (.int .i64 a1))]) (ps := [a0.length = a0.length, ∀ i, i < a0.length → ∀ j, j < 2 → E56.cf (a0.getD i E56.z) j = E56.cf (a0.getD i E56.z) j, (a1 : Int) = a1]) (hb' := [.row 56 2 (E56.cR r9.1), .row 3 1 (E3.cR r9.2.1)]) (by as_aux_lemma => kernel_rfl) (chain_Play_ok _ _ _ e10 (al := true)) (by as_aux_lemma => kernel_rfl) ⟨rfl, fun _ _ _ _ => rfl, rfl, trivial⟩ (fun _ => (by as_aux_lemma => kernel_rfl)) (by simp) (by simp only [List.map_cons, List.map_nil, Elem.row_up, up_map]) (by as_aux_lemma => kernel_rfl) ?_
    refine segs [] tabOk mixed 4000 (S := .leaf 0) (by as_aux_lemma => kernel_rfl) ?_
    refine sk_leaf ?_
    obtain ⟨r11, e12, h⟩ := bd_ h
    refine call_ok (d := some 32) (fn := 28) (ax := [.row 16672 2 0 r4.length, .pv (.raw (.int .i64 a1))]) (args := [.pv ((E56.ro r6)), .pv (.raw (.int .i64 a1))]) (ps := [r4.length = r6.length, rowQ (E56.cR r6) 2 0 r4.length (fun i j => E56.cf (r6.getD i E56.z) j), (a1 : Int) = a1]) (hb' := [.row 56 2 (E56.cR r11.1), .row 3 1 (E3.cR r11.2.1)]) (by as_aux_lemma => kernel_rfl) (chain_Play_ok _ _ _ e12 (al := false)) (by as_aux_lemma => kernel_rfl) ⟨(by first | rfl | exact Elem.sub_len _ (by omega) | omega | simp | (simp <;> omega)), E56.rowQ_all r6 (by first | omega | simp | (simp <;> omega) | (simp at * <;> omega)), rfl, trivial⟩ (fun hx => by cases hx) (by simp) (by simp only [List.map_cons, List.map_nil, Elem.row_up, up_map]) (by as_aux_lemma => kernel_rfl) ?_
    refine segs [] tabOk mixed 4000 (S := .leaf 0) (by as_aux_lemma => kernel_rfl) ?_
    refine sk_leaf ?_
    obtain ⟨r13, e14, h⟩ := bd_ h
    refine call_ok (d := some 38) (fn := 26) (ax := [.row 16896 2 0 r11.1.length]) (args := [.pv ((E56.ro r11.1))]) (ps := [r11.1.length = r11.1.length, rowQ (E56.cR r11.1) 2 0 r11.1.length (fun i j => E56.cf (r11.1.getD i E56.z) j)]) (hb' := [.row 56 2 (E56.cR r13)]) (by as_aux_lemma => kernel_rfl) (slices_Clone_api_Handler_ok _ _ e14 (al := false)) (by as_aux_lemma => kernel_rfl) ⟨(by first | rfl | exact Elem.sub_len _ (by omega) | omega | simp | (simp <;> omega)), E56.rowQ_all r11.1 rfl, trivial⟩ (fun hx => by cases hx) (by simp) (by simp only [List.map_cons, List.map_nil, Elem.row_up, up_map]) (by as_aux_lemma => kernel_rfl) ?_
    refine segs [] tabOk mixed 4000 (S := .leaf 0) (by as_aux_lemma => kernel_rfl) ?_
    refine sk_leaf ?_
    obtain ⟨r15, e16, h⟩ := bd_ h
    obtain ⟨g17, h⟩ := if_ h
    refine mcall_ok (d := some 40) (fn := 27) (ax := [.row 16992 2 0 r13.length]) (hs := [(16992, .row 56 2 (E56.cR r15))]) (del := []) (ps := [0 = 0, r13.length = r13.length, E56.cR r13 = E56.cR r13, AllPv (E56.cR r13)]) [(0, some 16992)] (by as_aux_lemma => kernel_rfl) (slices_Reverse_api_Handler_h0_ok _ _ e16 (al := true)) (by as_aux_lemma => kernel_rfl) ⟨rfl, rfl, rfl, (Elem.cR_pv _ _), trivial⟩ (by as_aux_lemma => kernel_rfl) (by simp only [mset_row, mset_box, mset_nil, mset_map, List.set_set]; kernel_rfl) (by as_aux_lemma => kernel_rfl) ?_
    refine segs [] tabOk mixed 4000 (S := .and ((((r9.2.2.2 : Int) == r11.2.2.2) = true → (((r9.2.2.2 : Int) == r11.2.2.2) = true))) (.and ((((r9.2.2.2 : Int) == r11.2.2.2) = true → (((r9.2.2.2 : Int) == r11.2.2.2) = true))) (.and (((r9.2.2.2 : Int) == r11.2.2.2) = true → ((r9.2.2.2 : Int) == r11.2.2.2) = true) (.leaf 0)))) (by as_aux_lemma => kernel_rfl) ?_
    refine sk_and ((by decide : ∀ y0 : Bool, ((y0 = true) → (y0 = true))) ((r9.2.2.2 : Int) == r11.2.2.2)) ?_
    refine sk_and ((by decide : ∀ y0 : Bool, ((y0 = true) → (y0 = true))) ((r9.2.2.2 : Int) == r11.2.2.2)) ?_
    refine sk_and ((by decide : ∀ y0 : Bool, ((y0 = true) → (y0 = true))) ((r9.2.2.2 : Int) == r11.2.2.2)) ?_
    refine sk_leaf ?_
    obtain ⟨r21, e22, h⟩ := bd_ h
    refine callG_ok (d := some 52) (fn := 29) (ax := [.row 16768 2 0 r9.1.length, .row 16992 2 0 r13.length]) (args := [.pv ((E56.ro r9.1)), .pv ((E56.ro r15))]) (g := (((r9.2.2.2 : Int) == r11.2.2.2) && (((r9.2.2.1.Came : Int) == r11.2.2.1.Came) && (((r9.2.2.1.Nobody : Int) == r11.2.2.1.Nobody) && ((r9.2.2.1.Off == r11.2.2.1.Off) && true))))) (ws := [(((r9.2.2.2 : Int) == r11.2.2.2) && (((r9.2.2.1.Came : Int) == r11.2.2.1.Came) && (((r9.2.2.1.Nobody : Int) == r11.2.2.1.Nobody) && ((r9.2.2.1.Off == r11.2.2.1.Off) && true)))) = true, (((r9.2.2.2 : Int) == r11.2.2.2) && (((r9.2.2.1.Came : Int) == r11.2.2.1.Came) && (((r9.2.2.1.Nobody : Int) == r11.2.2.1.Nobody) && ((r9.2.2.1.Off == r11.2.2.1.Off) && true)))) = true]) (ps := [r9.1.length = r9.1.length, rowQ (E56.cR r9.1) 2 0 r9.1.length (fun i j => E56.cf (r9.1.getD i E56.z) j), r13.length = r15.length, rowQ (E56.cR r15) 2 0 r13.length (fun i j => E56.cf (r15.getD i E56.z) j)]) (by as_aux_lemma => kernel_rfl) (fun hg => ⟨((by decide : ∀ y0 : Bool, ((y0 = true) → (y0 = true))) (((r9.2.2.2 : Int) == r11.2.2.2) && (((r9.2.2.1.Came : Int) == r11.2.2.1.Came) && (((r9.2.2.1.Nobody : Int) == r11.2.2.1.Nobody) && ((r9.2.2.1.Off == r11.2.2.1.Off) && true))))) hg, ((by decide : ∀ y0 : Bool, ((y0 = true) → (y0 = true))) (((r9.2.2.2 : Int) == r11.2.2.2) && (((r9.2.2.1.Came : Int) == r11.2.2.1.Came) && (((r9.2.2.1.Nobody : Int) == r11.2.2.1.Nobody) && ((r9.2.2.1.Off == r11.2.2.1.Off) && true))))) hg, trivial⟩) (fun hg => slices_Equal_api_Handler_ok _ _ _ (by rw [hg] at e22; exact e22) (al := false)) (by as_aux_lemma => kernel_rfl) (fun hg => ⟨(by first | rfl | exact Elem.sub_len _ (by omega) | omega | simp | (simp <;> omega)), E56.rowQ_all r9.1 rfl, (by first | rfl | exact Elem.sub_len _ (by omega) | omega | simp | (simp <;> omega)), E56.rowQ_all r15 (by first | omega | simp | (simp <;> omega) | (simp at * <;> omega)), trivial⟩) (fun hx => by cases hx) ?_
    refine segs [] tabOk mixed 4000 (S := .and ((((r9.2.2.2 : Int) == r11.2.2.2) && (((r9.2.2.1.Came : Int) == r11.2.2.1.Came) && (((r9.2.2.1.Nobody : Int) == r11.2.2.1.Nobody) && ((r9.2.2.1.Off == r11.2.2.1.Off) && true)))) = true → (((r9.2.2.2 : Int) == r11.2.2.2) && (((r9.2.2.1.Came : Int) == r11.2.2.1.Came) && (((r9.2.2.1.Nobody : Int) == r11.2.2.1.Nobody) && ((r9.2.2.1.Off == r11.2.2.1.Off) && true)))) = true) (.and ((((((r9.2.2.2 : Int) == r11.2.2.2) && (((r9.2.2.1.Came : Int) == r11.2.2.1.Came) && (((r9.2.2.1.Nobody : Int) == r11.2.2.1.Nobody) && ((r9.2.2.1.Off == r11.2.2.1.Off) && true)))) && r21) = true → (((((r9.2.2.2 : Int) == r11.2.2.2) && (((r9.2.2.1.Came : Int) == r11.2.2.1.Came) && (((r9.2.2.1.Nobody : Int) == r11.2.2.1.Nobody) && ((r9.2.2.1.Off == r11.2.2.1.Off) && true)))) && r21) = true))) (.and ((((((r9.2.2.2 : Int) == r11.2.2.2) && (((r9.2.2.1.Came : Int) == r11.2.2.1.Came) && (((r9.2.2.1.Nobody : Int) == r11.2.2.1.Nobody) && ((r9.2.2.1.Off == r11.2.2.1.Off) && true)))) && r21) = true → (((((r9.2.2.2 : Int) == r11.2.2.2) && (((r9.2.2.1.Came : Int) == r11.2.2.1.Came) && (((r9.2.2.1.Nobody : Int) == r11.2.2.1.Nobody) && ((r9.2.2.1.Off == r11.2.2.1.Off) && true)))) && r21) = true))) (.and ((((((r9.2.2.2 : Int) == r11.2.2.2) && (((r9.2.2.1.Came : Int) == r11.2.2.1.Came) && (((r9.2.2.1.Nobody : Int) == r11.2.2.1.Nobody) && ((r9.2.2.1.Off == r11.2.2.1.Off) && true)))) && r21) = true → (((((r9.2.2.2 : Int) == r11.2.2.2) && (((r9.2.2.1.Came : Int) == r11.2.2.1.Came) && (((r9.2.2.1.Nobody : Int) == r11.2.2.1.Nobody) && ((r9.2.2.1.Off == r11.2.2.1.Off) && true)))) && r21) = true))) (.and ((((((r9.2.2.2 : Int) == r11.2.2.2) && (((r9.2.2.1.Came : Int) == r11.2.2.1.Came) && (((r9.2.2.1.Nobody : Int) == r11.2.2.1.Nobody) && ((r9.2.2.1.Off == r11.2.2.1.Off) && true)))) && r21) = true → (((((r9.2.2.2 : Int) == r11.2.2.2) && (((r9.2.2.1.Came : Int) == r11.2.2.1.Came) && (((r9.2.2.1.Nobody : Int) == r11.2.2.1.Nobody) && ((r9.2.2.1.Off == r11.2.2.1.Off) && true)))) && r21) = true))) (.and (((((r9.2.2.2 : Int) == r11.2.2.2) && (((r9.2.2.1.Came : Int) == r11.2.2.1.Came) && (((r9.2.2.1.Nobody : Int) == r11.2.2.1.Nobody) && ((r9.2.2.1.Off == r11.2.2.1.Off) && true)))) && r21) = true → ((((r9.2.2.2 : Int) == r11.2.2.2) && (((r9.2.2.1.Came : Int) == r11.2.2.1.Came) && (((r9.2.2.1.Nobody : Int) == r11.2.2.1.Nobody) && ((r9.2.2.1.Off == r11.2.2.1.Off) && true)))) && r21) = true) (.leaf 0))))))) (by as_aux_lemma => kernel_rfl) ?_
    refine sk_and ((by decide : ∀ y0 : Bool, ((y0 = true) → (y0 = true))) (((r9.2.2.2 : Int) == r11.2.2.2) && (((r9.2.2.1.Came : Int) == r11.2.2.1.Came) && (((r9.2.2.1.Nobody : Int) == r11.2.2.1.Nobody) && ((r9.2.2.1.Off == r11.2.2.1.Off) && true))))) ?_
    refine sk_and ((by decide : ∀ y0 : Bool, ((y0 = true) → (y0 = true))) ((((r9.2.2.2 : Int) == r11.2.2.2) && (((r9.2.2.1.Came : Int) == r11.2.2.1.Came) && (((r9.2.2.1.Nobody : Int) == r11.2.2.1.Nobody) && ((r9.2.2.1.Off == r11.2.2.1.Off) && true)))) && r21)) ?_
    refine sk_and ((by decide : ∀ y0 : Bool, ((y0 = true) → (y0 = true))) ((((r9.2.2.2 : Int) == r11.2.2.2) && (((r9.2.2.1.Came : Int) == r11.2.2.1.Came) && (((r9.2.2.1.Nobody : Int) == r11.2.2.1.Nobody) && ((r9.2.2.1.Off == r11.2.2.1.Off) && true)))) && r21)) ?_
    refine sk_and ((by decide : ∀ y0 : Bool, ((y0 = true) → (y0 = true))) ((((r9.2.2.2 : Int) == r11.2.2.2) && (((r9.2.2.1.Came : Int) == r11.2.2.1.Came) && (((r9.2.2.1.Nobody : Int) == r11.2.2.1.Nobody) && ((r9.2.2.1.Off == r11.2.2.1.Off) && true)))) && r21)) ?_
    refine sk_and ((by decide : ∀ y0 : Bool, ((y0 = true) → (y0 = true))) ((((r9.2.2.2 : Int) == r11.2.2.2) && (((r9.2.2.1.Came : Int) == r11.2.2.1.Came) && (((r9.2.2.1.Nobody : Int) == r11.2.2.1.Nobody) && ((r9.2.2.1.Off == r11.2.2.1.Off) && true)))) && r21)) ?_
    refine sk_and ((by decide : ∀ y0 : Bool, ((y0 = true) → (y0 = true))) ((((r9.2.2.2 : Int) == r11.2.2.2) && (((r9.2.2.1.Came : Int) == r11.2.2.1.Came) && (((r9.2.2.1.Nobody : Int) == r11.2.2.1.Nobody) && ((r9.2.2.1.Off == r11.2.2.1.Off) && true)))) && r21)) ?_
    refine sk_leaf ?_
    obtain rfl := some_ h
    exact end_ok [] Try.results7 (ps := [(((((r9.2.2.2 : Int) == r11.2.2.2) && (((r9.2.2.1.Came : Int) == r11.2.2.1.Came) && (((r9.2.2.1.Nobody : Int) == r11.2.2.1.Nobody) && ((r9.2.2.1.Off == r11.2.2.1.Off) && true)))) && r21) && ((((r9.2.1.length : Nat) : Int) : Int) == ((r11.2.1.length : Nat) : Int))) = (((((r9.2.2.2 : Int) == r11.2.2.2) && (((r9.2.2.1.Came : Int) == r11.2.2.1.Came) && (((r9.2.2.1.Nobody : Int) == r11.2.2.1.Nobody) && ((r9.2.2.1.Off == r11.2.2.1.Off) && true)))) && r21) && ((((r9.2.1.length : Nat) : Int) : Int) == ((r11.2.1.length : Nat) : Int)))]) (by as_aux_lemma => kernel_rfl) ⟨rfl, trivial⟩ (fun _ => ⟨rfl, by simp⟩)

set_option maxHeartbeats 40000000 in
set_option maxRecDepth 100000 in
theorem slices_Index_int_ok (a0 : (List Int)) (a1 : Int) (r : Int) (h : slices_Index_int a0 a1 = some r) {al : Bool} : PCalls Try.prog 42 [.pv ((E3.ro a0)), .pv (.raw (.int .i64 a1))] al (.pv (.raw (.int .i64 r))) [] := by
  unfold slices_Index_int at h
  refine fn_ok tabOk Try.func42 (by as_aux_lemma => kernel_rfl) (by as_aux_lemma => kernel_rfl) Try.ntmps42 (by simp) ?_
  refine segs [] tabOk mixed 4000 (S := .leaf 0) (by as_aux_lemma => kernel_rfl) ?_
  refine sk_leaf ?_
  refine len_ro (by as_aux_lemma => kernel_rfl) 0 (s := 1) (n := a0.length) (c := fun i j => E3.cf (a0.getD i E3.z) j) (by as_aux_lemma => kernel_rfl) ?_; intro hl1_0
  replace h : (fun (x : Nat × Nat) => slices_Index_int_l1 a0 a1 x.1 x.2 = some r) (FUEL, 0) := h
  refine loop_ok (by as_aux_lemma => kernel_rfl) (X := Nat × Nat) (fun x => slices_Index_int_l1 a0 a1 x.1 x.2 = some r) (fun x => x.1) (fun x => mk 19 [(0, .pv ((E3.ro a0))), (1, .pv (.raw (.int .i64 a1))), (4, .pv (.raw (.int .i64 0))), (7, .pv (.raw (.int .i64 ((a0.length : Nat) : Int)))), (8, .pv (.raw (.int .i64 ((x.2 : Nat) : Int))))] []) (FUEL, 0) h ?_ ?_
  · exact sub_ok (ρ := []) (l := [a0.length = a0.length, ∀ i, i < a0.length → ∀ j, j < 1 → E3.cf (a0.getD i E3.z) j = E3.cf (a0.getD i E3.z) j, (a1 : Int) = a1, (0 : Int) = 0, (((a0.length : Nat) : Int) : Int) = ((a0.length : Nat) : Int), (0 : Int) = ((0 : Nat) : Int)]) (by as_aux_lemma => kernel_rfl) ⟨rfl, fun _ _ _ _ => rfl, rfl, rfl, rfl, (by first | rfl | simp), trivial⟩
  · clear h; rintro ⟨n1, k1⟩ h p1 hp1
    obtain _ | n1 := n1
    · cases (show (none : Option (Int)) = some r from h)
    have h : slices_Index_int_l1 a0 a1 (n1 + 1) k1 = some r := h
    unfold slices_Index_int_l1 at h
    refine segs [] tabOk mixed 4000 (S := .br (decide ((((k1 : Nat) : Int) : Int) < ((a0.length : Nat) : Int))) (.and (0 ≤ (((k1 : Nat) : Int) : Int) ∧ ((k1 : Nat) : Int) < ((a0.length : Nat) : Int)) (.br ((a1 : Int) == (a0.getD k1 0)) (.leaf 0) (.leaf 1))) (.leaf 2)) (by as_aux_lemma => kernel_rfl) ?_
    refine br_ h ?_ ?_ <;> clear h <;> intro c2 h
    · refine sk_and ⟨Int.natCast_nonneg _, of_decide_eq_true c2⟩ ?_
      refine br_ h ?_ ?_ <;> clear h <;> intro c4 h
      · refine sk_leaf ?_
        obtain rfl := some_ h
        exact end_ok [] Try.results42 (ps := [(((k1 : Nat) : Int) : Int) = ((k1 : Nat) : Int)]) (by as_aux_lemma => kernel_rfl) ⟨rfl, trivial⟩ (fun _ => ⟨rfl, by simp⟩)
      · refine sk_leaf ?_
        refine back_ok (p := p1) (by as_aux_lemma => kernel_rfl) (hp1 (n1, k1 + 1) _ h (Nat.lt_succ_self n1) ?_)
        exact sub_ok (ρ := []) (l := [a0.length = a0.length, ∀ i, i < a0.length → ∀ j, j < 1 → E3.cf (a0.getD i E3.z) j = E3.cf (a0.getD i E3.z) j, (a1 : Int) = a1, (0 : Int) = 0, (((a0.length : Nat) : Int) : Int) = ((a0.length : Nat) : Int), ((IntKind.i64.wrap (((k1 : Nat) : Int) + 1)) : Int) = (((k1 + 1) : Nat) : Int)]) (by as_aux_lemma => kernel_rfl) ⟨rfl, fun _ _ _ _ => rfl, rfl, rfl, rfl, (wrap_nat (Int.ofNat_lt.1 (of_decide_eq_true c2)) (by omega)), trivial⟩
    · refine sk_leaf ?_
      obtain rfl := some_ h
      exact end_ok [] Try.results42 (ps := [((-1) : Int) = (-1)]) (by as_aux_lemma => kernel_rfl) ⟨rfl, trivial⟩ (fun _ => ⟨rfl, by simp⟩)

set_option maxHeartbeats 40000000 in
set_option maxRecDepth 100000 in
theorem slices_Contains_int_ok (a0 : (List Int)) (a1 : Int) (r : Bool) (h : slices_Contains_int a0 a1 = some r) {al : Bool} : PCalls Try.prog 19 [.pv ((E3.ro a0)), .pv (.raw (.int .i64 a1))] al (.pv (.raw (.bool r))) [] := by
  unfold slices_Contains_int at h
  refine fn_ok tabOk Try.func19 (by as_aux_lemma => kernel_rfl) (by as_aux_lemma => kernel_rfl) Try.ntmps19 (by simp) ?_
  refine segs [] tabOk mixed 4000 (S := .leaf 0) (by as_aux_lemma => kernel_rfl) ?_
  refine sk_leaf ?_
  obtain ⟨r1, e2, h⟩ := bd_ h
  refine call_ok (d := some 7) (fn := 42) (ax := [.pv ((E3.ro a0)), .pv (.raw (.int .i64 a1))]) (args := [.pv ((E3.ro a0)), .pv (.raw (.int .i64 a1))]) (ps := [a0.length = a0.length, ∀ i, i < a0.length → ∀ j, j < 1 → E3.cf (a0.getD i E3.z) j = E3.cf (a0.getD i E3.z) j, (a1 : Int) = a1]) (hb' := []) (by as_aux_lemma => kernel_rfl) (slices_Index_int_ok _ _ _ e2 (al := true)) (by as_aux_lemma => kernel_rfl) ⟨rfl, fun _ _ _ _ => rfl, rfl, trivial⟩ (fun _ => (by as_aux_lemma => kernel_rfl)) (by simp) rfl (by as_aux_lemma => kernel_rfl) ?_
  refine segs [] tabOk mixed 4000 (S := .leaf 0) (by as_aux_lemma => kernel_rfl) ?_
  refine sk_leaf ?_
  obtain rfl := some_ h
  exact end_ok [] Try.results19 (ps := [(decide ((r1 : Int) ≥ 0)) = (decide ((r1 : Int) ≥ 0))]) (by as_aux_lemma => kernel_rfl) ⟨rfl, trivial⟩ (fun _ => ⟨rfl, by simp⟩)

set_option maxHeartbeats 40000000 in
set_option maxRecDepth 100000 in
theorem work_queue_begin_ok (a0 : Work_queue) (r : Int × Work_queue) (h : work_queue_begin a0 = some r) {al : Bool} : MCalls Try.prog 60 [.ptr 0 0] [.box [.row 1 1 0 a0.waits_.length, .pv (.raw (.int .i64 a0.begun_)), .row 2 1 0 a0.done_.length], .row 3 1 (E3.cR a0.waits_), .row 3 1 (E3.cR a0.done_)] 1 al (.pv (.raw (.int .i64 r.1))) [.box [.row 1 1 0 r.2.waits_.length, .pv (.raw (.int .i64 r.2.begun_)), .row 2 1 0 r.2.done_.length], .row 3 1 (E3.cR r.2.waits_), .row 3 1 (E3.cR r.2.done_)] := by
  unfold work_queue_begin at h
  refine fnM_ok tabOk (fz := []) Try.func60 (by as_aux_lemma => kernel_rfl) (by as_aux_lemma => kernel_rfl) Try.ntmps60 (by simp) (by simp) ?_
  refine segs [] tabOk mixed 4000 (S := .br (decide ((a0.begun_ : Int) ≥ 0)) (.leaf 0) (.br ((((a0.waits_.length : Nat) : Int) : Int) == 0) (.leaf 1) (.and (0 ≤ (0 : Int) ∧ 0 < ((a0.waits_.length : Nat) : Int)) (.leaf 2)))) (by as_aux_lemma => kernel_rfl) ?_
  refine br_ h ?_ ?_ <;> clear h <;> intro c1 h
  · refine sk_leaf ?_
    obtain rfl := some_ h
    exact endM_ok [(0, some 0), (1, some 1), (2, some 2)] Try.results60 (ps := [(6 : Int) = 6, 0 = 0, a0.waits_.length = a0.waits_.length, (a0.begun_ : Int) = a0.begun_, 0 = 0, a0.done_.length = a0.done_.length, E3.cR a0.waits_ = E3.cR a0.waits_, AllPv (E3.cR a0.waits_), E3.cR a0.done_ = E3.cR a0.done_, AllPv (E3.cR a0.done_)]) (by as_aux_lemma => kernel_rfl) ⟨rfl, rfl, (by first | rfl | simp), rfl, rfl, (by first | rfl | simp), rfl, (Elem.cR_pv _ _), rfl, (Elem.cR_pv _ _), trivial⟩ (fun _ => ⟨rfl, by simp only [List.mem_cons, List.not_mem_nil, or_false, forall_eq_or_imp, forall_eq]; exact ⟨rfl, Elem.cR_bald E3_raw _, Elem.cR_bald E3_raw _⟩⟩)
  · refine br_ h ?_ ?_ <;> clear h <;> intro c2 h
    · refine sk_leaf ?_
      obtain rfl := some_ h
      exact endM_ok [(0, some 0), (1, some 1), (2, some 2)] Try.results60 (ps := [(3 : Int) = 3, 0 = 0, a0.waits_.length = a0.waits_.length, (a0.begun_ : Int) = a0.begun_, 0 = 0, a0.done_.length = a0.done_.length, E3.cR a0.waits_ = E3.cR a0.waits_, AllPv (E3.cR a0.waits_), E3.cR a0.done_ = E3.cR a0.done_, AllPv (E3.cR a0.done_)]) (by as_aux_lemma => kernel_rfl) ⟨rfl, rfl, (by first | rfl | simp), rfl, rfl, (by first | rfl | simp), rfl, (Elem.cR_pv _ _), rfl, (Elem.cR_pv _ _), trivial⟩ (fun _ => ⟨rfl, by simp only [List.mem_cons, List.not_mem_nil, or_false, forall_eq_or_imp, forall_eq]; exact ⟨rfl, Elem.cR_bald E3_raw _, Elem.cR_bald E3_raw _⟩⟩)
    · refine gd_ h ?_; clear h; intro g3 h
      refine sk_leaf ?_
      refine ld_ok (d := 23) (id := 1) (i := (0 + 0)) (j := 0) (e := 3) (n := 1) E3 (xs := a0.waits_) (by as_aux_lemma => kernel_rfl) (by as_aux_lemma => kernel_rfl) (by first | omega | (simp at * <;> omega) | (simp_all <;> omega)) (by exact Nat.le_of_ble_eq_true rfl) ?_
      refine segs [] tabOk mixed 4000 (S := .and (0 ≤ (1 : Int)) (.and (1 ≤ a0.waits_.length) (.leaf 0))) (by as_aux_lemma => kernel_rfl) ?_
      refine sk_and (by decide) ?_
      refine gd_ h ?_; clear h; intro g5 h
      refine sk_leaf ?_
      obtain rfl := some_ h
      exact endR_ok E3 (xs := a0.waits_) 1 (0 + 1) 16912 (a0.waits_.length - 1) 3 1 rfl (by as_aux_lemma => kernel_rfl) (by first | omega | (simp at * <;> omega) | (simp_all <;> omega)) (by as_aux_lemma => kernel_rfl) [(0, some 0), (1, some 16912), (2, some 2)] Try.results60 (ps := [(0 : Int) = 0, 0 = 0, (a0.waits_.length - 1) = ((a0.waits_.drop (0 + 1)).take (a0.waits_.length - 1)).length, ((a0.waits_.getD (0 + 0) 0) : Int) = (a0.waits_.getD (0 + 0) 0), 0 = 0, a0.done_.length = a0.done_.length, E3.cR ((a0.waits_.drop (0 + 1)).take (a0.waits_.length - 1)) = E3.cR ((a0.waits_.drop (0 + 1)).take (a0.waits_.length - 1)), AllPv (E3.cR ((a0.waits_.drop (0 + 1)).take (a0.waits_.length - 1))), E3.cR a0.done_ = E3.cR a0.done_, AllPv (E3.cR a0.done_)]) (by as_aux_lemma => kernel_rfl) ⟨rfl, rfl, (by first | omega | (simp; done) | (simp <;> omega) | (simp at * <;> omega)), rfl, rfl, (by first | rfl | simp), rfl, (Elem.cR_pv _ _), rfl, (Elem.cR_pv _ _), trivial⟩ (fun _ => ⟨rfl, by simp only [List.mem_cons, List.not_mem_nil, or_false, forall_eq_or_imp, forall_eq]; exact ⟨rfl, Elem.cR_bald E3_raw _, Elem.cR_bald E3_raw _⟩⟩)

set_option maxHeartbeats 40000000 in
set_option maxRecDepth 100000 in
theorem work_queue_end_ok (a0 : Work_queue) (r : Int × Work_queue) (h : work_queue_end a0 = some r) {al : Bool} : MCalls Try.prog 61 [.ptr 0 0] [.box [.row 1 1 0 a0.waits_.length, .pv (.raw (.int .i64 a0.begun_)), .row 2 1 0 a0.done_.length], .row 3 1 (E3.cR a0.waits_), .row 3 1 (E3.cR a0.done_)] 1 al (.pv (.raw (.int .i64 r.1))) [.box [.row 1 1 0 r.2.waits_.length, .pv (.raw (.int .i64 r.2.begun_)), .row 2 1 0 r.2.done_.length], .row 3 1 (E3.cR r.2.waits_), .row 3 1 (E3.cR r.2.done_)] := by
  unfold work_queue_end at h
  refine fnM_ok tabOk (fz := []) Try.func61 (by as_aux_lemma => kernel_rfl) (by as_aux_lemma => kernel_rfl) Try.ntmps61 (by simp) (by simp) ?_
  refine segs [] tabOk mixed 4000 (S := .br (decide ((a0.begun_ : Int) < 0)) (.leaf 0) (.leaf 1)) (by as_aux_lemma => kernel_rfl) ?_
  refine br_ h ?_ ?_ <;> clear h <;> intro c1 h
  · refine sk_leaf ?_
    obtain rfl := some_ h
    exact endM_ok [(0, some 0), (1, some 1), (2, some 2)] Try.results61 (ps := [(3 : Int) = 3, 0 = 0, a0.waits_.length = a0.waits_.length, (a0.begun_ : Int) = a0.begun_, 0 = 0, a0.done_.length = a0.done_.length, E3.cR a0.waits_ = E3.cR a0.waits_, AllPv (E3.cR a0.waits_), E3.cR a0.done_ = E3.cR a0.done_, AllPv (E3.cR a0.done_)]) (by as_aux_lemma => kernel_rfl) ⟨rfl, rfl, (by first | rfl | simp), rfl, rfl, (by first | rfl | simp), rfl, (Elem.cR_pv _ _), rfl, (Elem.cR_pv _ _), trivial⟩ (fun _ => ⟨rfl, by simp only [List.mem_cons, List.not_mem_nil, or_false, forall_eq_or_imp, forall_eq]; exact ⟨rfl, Elem.cR_bald E3_raw _, Elem.cR_bald E3_raw _⟩⟩)
  · refine sk_leaf ?_
    refine bs_ok (d := 17) (e := 3) (s := 1) (n := 1) (cs := [.pv (.raw (.int .i64 a0.begun_))]) (cs' := E3.cR [a0.begun_]) (by as_aux_lemma => kernel_rfl) rfl (by as_aux_lemma => kernel_rfl) ?_
    refine segs [] tabOk mixed 4000 (S := .leaf 0) (by as_aux_lemma => kernel_rfl) ?_
    refine sk_leaf ?_
    obtain ⟨g2, h⟩ := if_ h
    refine app_ok (d := 18) (e := 3) (s := 1) (b := 8) (x := .row 2 1 0 a0.done_.length) (y := .row 16656 1 0 1) E3 (xs := a0.done_) (ys := [a0.begun_]) (by as_aux_lemma => kernel_rfl) rfl (.row 2 a0.done_ a0.done_.length rfl (by as_aux_lemma => kernel_rfl)) (.all 16656 3 [a0.begun_] 1 rfl (by as_aux_lemma => kernel_rfl)) g2 (by as_aux_lemma => kernel_rfl) ?_
    refine segs [] tabOk mixed 4000 (S := .leaf 0) (by as_aux_lemma => kernel_rfl) ?_
    refine sk_leaf ?_
    obtain rfl := some_ h
    exact endM_ok [(0, some 0), (1, some 1), (2, some 16672)] Try.results61 (ps := [(0 : Int) = 0, 0 = 0, a0.waits_.length = a0.waits_.length, ((-1) : Int) = (-1), 0 = 0, ((a0.done_ ++ [a0.begun_]).length) = (a0.done_ ++ [a0.begun_]).length, E3.cR a0.waits_ = E3.cR a0.waits_, AllPv (E3.cR a0.waits_), E3.cR (a0.done_ ++ [a0.begun_]) = E3.cR (a0.done_ ++ [a0.begun_]), AllPv (E3.cR (a0.done_ ++ [a0.begun_]))]) (by as_aux_lemma => kernel_rfl) ⟨rfl, rfl, (by first | rfl | simp), rfl, rfl, (by first | rfl | simp), rfl, (Elem.cR_pv _ _), rfl, (Elem.cR_pv _ _), trivial⟩ (fun _ => ⟨rfl, by simp only [List.mem_cons, List.not_mem_nil, or_false, forall_eq_or_imp, forall_eq]; exact ⟨rfl, Elem.cR_bald E3_raw _, Elem.cR_bald E3_raw _⟩⟩)

set_option maxRecDepth 100000 in
theorem slices_Clone_int_ok (a0 r : List Int) (h : slices_Clone_int a0 = some r) {al : Bool} : PCalls Try.prog 16 [.pv (E3.ro a0)] al (.row 0 1 0 r.length) [.row 3 1 (E3.cR r)] := by
  unfold slices_Clone_int at h
  obtain ⟨g, h⟩ := if_ h
  obtain rfl := some_ h
  refine fn_ok tabOk Try.func16 (by as_aux_lemma => kernel_rfl) (by as_aux_lemma => kernel_rfl) Try.ntmps16 (by simp) ?_
  refine segs [1] tabOk mixed 4000 (S := .leaf 0) (by as_aux_lemma => kernel_rfl) ?_
  refine sk_leaf ?_
  refine nil_ok (d1 := 3) (d2 := 4) (s := 1) (n := a0.length) (c := fun i j => E3.cf (a0.getD i E3.z) j) tabOk (by as_aux_lemma => kernel_rfl) ?_
  intro b hb
  refine segs [] tabOk mixed 4000 (S := .br b (.leaf 0) (.leaf 1)) (by as_aux_lemma => kernel_rfl) ?_
  refine sk_br ?_ ?_ <;> intro hc <;> refine sk_leaf ?_
  · obtain rfl : a0 = [] := List.eq_nil_of_length_eq_zero (hb hc)
    exact end_ok [(0, none)] Try.results16 (ps := [0 = 0, 0 = 0, E3.cR [] = []]) (by as_aux_lemma => kernel_rfl) ⟨rfl, rfl, rfl, trivial⟩ (fun _ => ⟨rfl, by simp only [List.mem_cons, List.not_mem_nil, or_false, forall_eq]; exact Elem.cR_bald E3_raw _⟩)
  · refine bs_ok (d := 5) (e := 3) (s := 1) (n := 0) (cs := []) (cs' := E3.cR []) (by as_aux_lemma => kernel_rfl) rfl (by as_aux_lemma => kernel_rfl) ?_
    refine segs [] tabOk mixed 4000 (S := .leaf 0) (by as_aux_lemma => kernel_rfl) ?_
    refine sk_leaf ?_
    refine app_ok (d := 7) (e := 3) (s := 1) (b := 8) (x := .row 16464 1 0 0) (y := .pv (E3.ro a0)) E3 (xs := []) (ys := a0) (by as_aux_lemma => kernel_rfl) rfl (.row 16464 [] 0 rfl (by as_aux_lemma => kernel_rfl)) (.ro a0) ⟨by simpa using g, by simp; omega⟩ (by as_aux_lemma => kernel_rfl) ?_
    refine segs [] tabOk mixed 4000 (S := .leaf 0) (by as_aux_lemma => kernel_rfl) ?_
    refine sk_leaf ?_
    exact end_ok [(0, some 16496)] Try.results16 (ps := [0 = 0, a0.length = a0.length, E3.cR a0 = E3.cR a0, AllPv (E3.cR a0)]) (by as_aux_lemma => kernel_rfl) ⟨rfl, rfl, rfl, Elem.cR_pv _ _, trivial⟩ (fun _ => ⟨rfl, by simp only [List.mem_cons, List.not_mem_nil, or_false, forall_eq]; exact Elem.cR_bald E3_raw _⟩)

theorem slices_Delete_int_ok (a0 : List Int) (a1 a2 : Int) (r : List Int) (h : slices_Delete_int a0 a1 a2 = some r) {al : Bool} : MCalls Try.prog 62 [.row 0 1 0 a0.length, .pv (.raw (.int .i64 a1)), .pv (.raw (.int .i64 a2))] [.row 3 1 (E3.cR a0)] 0 al (.row 0 1 0 r.length) [.row 3 1 (E3.cR r)] := by
  unfold slices_Delete_int at h
  obtain ⟨g, h⟩ := if_ h
  obtain rfl := some_ h
  obtain ⟨i, rfl⟩ : ∃ i : Nat, a1 = i := ⟨a1.toNat, by omega⟩
  obtain ⟨j, rfl⟩ : ∃ j : Nat, a2 = j := ⟨a2.toNat, by omega⟩
  simp only [Int.toNat_natCast]
  refine inplace_mcalls (rest := [.int .i64 i, .int .i64 j]) (pad := List.replicate (j - i) 0) ⟨_, Try.func62, by kernel_rfl, by kernel_rfl⟩ rfl (fun _ => rfl) (by simp; omega) (fun hx a c w => ?_) (fun g0 o0 c w hx hc hm h1 h2 => ?_)
  · subst hx
    simp only [List.length_nil] at g
    obtain rfl : i = 0 := by omega
    obtain rfl : j = 0 := by omega
    exact Try.slices_Delete_int_empty a c w
  · have := Try.slices_Delete_int_cells g0 o0 a0.length c i j a0 w (Nat.le_refl _) hc hm (by omega) (by omega) h1 h2
    have e1 : a0.length - (j - i) = (a0.take i ++ a0.drop j).length := by simp; omega
    rw [List.take_length, e1] at this
    exact this

set_option maxHeartbeats 40000000 in
set_option maxRecDepth 100000 in
theorem work_queue_busy_ok (a0 : Work_queue) (a1 : Int) (r : Bool) (h : work_queue_busy a0 a1 = some r) {al : Bool} : PCalls Try.prog 63 [.roat 3 (fun j => E94.cf a0 j), .pv (.raw (.int .i64 a1))] al (.pv (.raw (.bool r))) [] := by
  unfold work_queue_busy at h
  refine fn_ok tabOk Try.func63 (by as_aux_lemma => kernel_rfl) (by as_aux_lemma => kernel_rfl) Try.ntmps63 (by simp) ?_
  refine segs [] tabOk mixed 4000 (S := .and (((!((a0.begun_ : Int) == a1)) = true → ((!((a0.begun_ : Int) == a1)) = true))) (.and (((!((a0.begun_ : Int) == a1)) = true → ((!((a0.begun_ : Int) == a1)) = true))) (.and (((!((a0.begun_ : Int) == a1)) = true → ((!((a0.begun_ : Int) == a1)) = true))) (.leaf 0)))) (by as_aux_lemma => kernel_rfl) ?_
  refine sk_and ((by decide : ∀ y0 : Bool, ((y0 = true) → (y0 = true))) (!((a0.begun_ : Int) == a1))) ?_
  refine sk_and ((by decide : ∀ y0 : Bool, ((y0 = true) → (y0 = true))) (!((a0.begun_ : Int) == a1))) ?_
  refine sk_and ((by decide : ∀ y0 : Bool, ((y0 = true) → (y0 = true))) (!((a0.begun_ : Int) == a1))) ?_
  refine sk_leaf ?_
  obtain ⟨r4, e5, h⟩ := bd_ h
  refine callG_ok (d := some 17) (fn := 19) (ax := [.pv ((E3.ro a0.waits_)), .pv (.raw (.int .i64 a1))]) (args := [.pv ((E3.ro a0.waits_)), .pv (.raw (.int .i64 a1))]) (g := (!((a0.begun_ : Int) == a1))) (ws := [(!((a0.begun_ : Int) == a1)) = true, (!((a0.begun_ : Int) == a1)) = true]) (ps := [a0.waits_.length = a0.waits_.length, ∀ i, i < a0.waits_.length → ∀ j, j < 1 → E3.cf (a0.waits_.getD i E3.z) j = E3.cf (a0.waits_.getD i E3.z) j, (a1 : Int) = a1]) (by as_aux_lemma => kernel_rfl) (fun hg => ⟨((by decide : ∀ y0 : Bool, ((y0 = true) → (y0 = true))) (!((a0.begun_ : Int) == a1))) hg, ((by decide : ∀ y0 : Bool, ((y0 = true) → (y0 = true))) (!((a0.begun_ : Int) == a1))) hg, trivial⟩) (fun hg => slices_Contains_int_ok _ _ _ (by rw [hg] at e5; exact e5) (al := true)) (by as_aux_lemma => kernel_rfl) (fun hg => ⟨rfl, fun _ _ _ _ => rfl, rfl, trivial⟩) (fun _ => (by as_aux_lemma => kernel_rfl)) ?_
  refine segs [] tabOk mixed 4000 (S := .and (((a0.begun_ : Int) == a1) = false → (!((a0.begun_ : Int) == a1)) = true) (.leaf 0)) (by as_aux_lemma => kernel_rfl) ?_
  refine sk_and ((by decide : ∀ y0 : Bool, ((y0 = false) → ((!y0) = true))) ((a0.begun_ : Int) == a1)) ?_
  refine sk_leaf ?_
  obtain rfl := some_ h
  exact end_ok [] Try.results63 (ps := [(((a0.begun_ : Int) == a1) || r4) = (((a0.begun_ : Int) == a1) || r4)]) (by as_aux_lemma => kernel_rfl) ⟨rfl, trivial⟩ (fun _ => ⟨rfl, by simp⟩)

set_option maxHeartbeats 40000000 in
set_option maxRecDepth 100000 in
theorem work_queue_do_ok (a0 : Work_queue) (a1 : Api_WorkOp) (r : Int × Work_queue) (h : work_queue_do a0 a1 = some r) {al : Bool} : MCalls Try.prog 40 [.ptr 0 0, .agg [.pv (.raw (.int .i64 a1.Kind)), .pv (.raw (.int .i64 a1.Item))]] [.box [.row 1 1 0 a0.waits_.length, .pv (.raw (.int .i64 a0.begun_)), .row 2 1 0 a0.done_.length], .row 3 1 (E3.cR a0.waits_), .row 3 1 (E3.cR a0.done_)] 1 al (.pv (.raw (.int .i64 r.1))) [.box [.row 1 1 0 r.2.waits_.length, .pv (.raw (.int .i64 r.2.begun_)), .row 2 1 0 r.2.done_.length], .row 3 1 (E3.cR r.2.waits_), .row 3 1 (E3.cR r.2.done_)] := by
  unfold work_queue_do at h
  refine fnM_ok tabOk (fz := [60, 61, 62]) Try.func40 (by as_aux_lemma => kernel_rfl) (by as_aux_lemma => kernel_rfl) Try.ntmps40 (by simp) (by simp) ?_
  refine segs [] tabOk mixed 4000 (S := .and (((!(decide ((a1.Kind : Int) < 1))) = true → ((!(decide ((a1.Kind : Int) < 1))) = true))) (.and (((!(decide ((a1.Kind : Int) < 1))) = true → ((!(decide ((a1.Kind : Int) < 1))) = true))) (.and ((decide ((a1.Kind : Int) < 1)) = false → (!(decide ((a1.Kind : Int) < 1))) = true) (.br ((decide ((a1.Kind : Int) < 1)) || (decide ((a1.Kind : Int) > 5))) (.leaf 0) (.and ((((a1.Kind : Int) != 2) = true → (((a1.Kind : Int) != 2) = true))) (.and ((((a1.Kind : Int) != 2) = true → (((a1.Kind : Int) != 2) = true))) (.and (((a1.Kind : Int) != 2) = true → ((a1.Kind : Int) != 2) = true) (.and (((((a1.Kind : Int) != 2) && ((a1.Kind : Int) != 3)) = true → ((((a1.Kind : Int) != 2) && ((a1.Kind : Int) != 3)) = true))) (.and (((((a1.Kind : Int) != 2) && ((a1.Kind : Int) != 3)) = true → ((((a1.Kind : Int) != 2) && ((a1.Kind : Int) != 3)) = true))) (.and (((((a1.Kind : Int) != 2) && ((a1.Kind : Int) != 3)) = true → ((((a1.Kind : Int) != 2) && ((a1.Kind : Int) != 3)) = true))) (.and ((((((a1.Kind : Int) != 2) && ((a1.Kind : Int) != 3)) && !(decide ((a1.Item : Int) < 0))) = true → (((((a1.Kind : Int) != 2) && ((a1.Kind : Int) != 3)) && !(decide ((a1.Item : Int) < 0))) = true))) (.and ((((((a1.Kind : Int) != 2) && ((a1.Kind : Int) != 3)) && !(decide ((a1.Item : Int) < 0))) = true → (((((a1.Kind : Int) != 2) && ((a1.Kind : Int) != 3)) && !(decide ((a1.Item : Int) < 0))) = true))) (.and (((((a1.Kind : Int) != 2) && ((a1.Kind : Int) != 3)) = true → ((((a1.Kind : Int) != 2) && ((a1.Kind : Int) != 3)) = true))) (.and (((((a1.Kind : Int) != 2) && ((a1.Kind : Int) != 3)) = true → ((decide ((a1.Item : Int) < 0)) = false → ((((a1.Kind : Int) != 2) && ((a1.Kind : Int) != 3)) && !(decide ((a1.Item : Int) < 0))) = true))) (.and ((((a1.Kind : Int) != 2) && ((a1.Kind : Int) != 3)) = true → (((a1.Kind : Int) != 2) && ((a1.Kind : Int) != 3)) = true) (.br ((((a1.Kind : Int) != 2) && ((a1.Kind : Int) != 3)) && ((decide ((a1.Item : Int) < 0)) || (decide ((a1.Item : Int) > 99)))) (.leaf 1) (.br ((a1.Kind : Int) == 1) (.leaf 2) (.br ((a1.Kind : Int) == 2) (.leaf 3) (.br ((a1.Kind : Int) == 3) (.leaf 4) (.br ((a1.Kind : Int) == 4) (.leaf 5) (.br ((a1.Kind : Int) == 5) (.leaf 6) (.leaf 7)))))))))))))))))))))) (by as_aux_lemma => kernel_rfl) ?_
  refine sk_and ((by decide : ∀ y0 : Bool, ((y0 = true) → (y0 = true))) (!(decide ((a1.Kind : Int) < 1)))) ?_
  refine sk_and ((by decide : ∀ y0 : Bool, ((y0 = true) → (y0 = true))) (!(decide ((a1.Kind : Int) < 1)))) ?_
  refine sk_and ((by decide : ∀ y0 : Bool, ((y0 = false) → ((!y0) = true))) (decide ((a1.Kind : Int) < 1))) ?_
  refine br_ h ?_ ?_ <;> clear h <;> intro c4 h
  · refine sk_leaf ?_
    obtain rfl := some_ h
    exact endM_ok [(0, some 0), (1, some 1), (2, some 2)] Try.results40 (ps := [(5 : Int) = 5, 0 = 0, a0.waits_.length = a0.waits_.length, (a0.begun_ : Int) = a0.begun_, 0 = 0, a0.done_.length = a0.done_.length, E3.cR a0.waits_ = E3.cR a0.waits_, AllPv (E3.cR a0.waits_), E3.cR a0.done_ = E3.cR a0.done_, AllPv (E3.cR a0.done_)]) (by as_aux_lemma => kernel_rfl) ⟨rfl, rfl, (by first | rfl | simp), rfl, rfl, (by first | rfl | simp), rfl, (Elem.cR_pv _ _), rfl, (Elem.cR_pv _ _), trivial⟩ (fun _ => ⟨rfl, by simp only [List.mem_cons, List.not_mem_nil, or_false, forall_eq_or_imp, forall_eq]; exact ⟨rfl, Elem.cR_bald E3_raw _, Elem.cR_bald E3_raw _⟩⟩)
  · refine sk_and ((by decide : ∀ y0 : Bool, ((y0 = true) → (y0 = true))) ((a1.Kind : Int) != 2)) ?_
    refine sk_and ((by decide : ∀ y0 : Bool, ((y0 = true) → (y0 = true))) ((a1.Kind : Int) != 2)) ?_
    refine sk_and ((by decide : ∀ y0 : Bool, ((y0 = true) → (y0 = true))) ((a1.Kind : Int) != 2)) ?_
    refine sk_and ((by decide : ∀ y0 : Bool, ((y0 = true) → (y0 = true))) (((a1.Kind : Int) != 2) && ((a1.Kind : Int) != 3))) ?_
    refine sk_and ((by decide : ∀ y0 : Bool, ((y0 = true) → (y0 = true))) (((a1.Kind : Int) != 2) && ((a1.Kind : Int) != 3))) ?_
    refine sk_and ((by decide : ∀ y0 : Bool, ((y0 = true) → (y0 = true))) (((a1.Kind : Int) != 2) && ((a1.Kind : Int) != 3))) ?_
    refine sk_and ((by decide : ∀ y0 : Bool, ((y0 = true) → (y0 = true))) ((((a1.Kind : Int) != 2) && ((a1.Kind : Int) != 3)) && !(decide ((a1.Item : Int) < 0)))) ?_
    refine sk_and ((by decide : ∀ y0 : Bool, ((y0 = true) → (y0 = true))) ((((a1.Kind : Int) != 2) && ((a1.Kind : Int) != 3)) && !(decide ((a1.Item : Int) < 0)))) ?_
    refine sk_and ((by decide : ∀ y0 : Bool, ((y0 = true) → (y0 = true))) (((a1.Kind : Int) != 2) && ((a1.Kind : Int) != 3))) ?_
    refine sk_and ((by decide : ∀ y0 y1 : Bool, ((y0 = true) → ((y1 = false) → ((y0 && (!y1)) = true)))) (((a1.Kind : Int) != 2) && ((a1.Kind : Int) != 3)) (decide ((a1.Item : Int) < 0))) ?_
    refine sk_and ((by decide : ∀ y0 : Bool, ((y0 = true) → (y0 = true))) (((a1.Kind : Int) != 2) && ((a1.Kind : Int) != 3))) ?_
    refine br_ h ?_ ?_ <;> clear h <;> intro c16 h
    · refine sk_leaf ?_
      obtain rfl := some_ h
      exact endM_ok [(0, some 0), (1, some 1), (2, some 2)] Try.results40 (ps := [(2 : Int) = 2, 0 = 0, a0.waits_.length = a0.waits_.length, (a0.begun_ : Int) = a0.begun_, 0 = 0, a0.done_.length = a0.done_.length, E3.cR a0.waits_ = E3.cR a0.waits_, AllPv (E3.cR a0.waits_), E3.cR a0.done_ = E3.cR a0.done_, AllPv (E3.cR a0.done_)]) (by as_aux_lemma => kernel_rfl) ⟨rfl, rfl, (by first | rfl | simp), rfl, rfl, (by first | rfl | simp), rfl, (Elem.cR_pv _ _), rfl, (Elem.cR_pv _ _), trivial⟩ (fun _ => ⟨rfl, by simp only [List.mem_cons, List.not_mem_nil, or_false, forall_eq_or_imp, forall_eq]; exact ⟨rfl, Elem.cR_bald E3_raw _, Elem.cR_bald E3_raw _⟩⟩)
    · refine br_ h ?_ ?_ <;> clear h <;> intro c17 h
      · refine sk_leaf ?_
        obtain ⟨r18, e19, h⟩ := bd_ h
        refine call_ok (d := some 44) (fn := 19) (ax := [.row 1 1 0 a0.waits_.length, .pv (.raw (.int .i64 a1.Item))]) (args := [.pv ((E3.ro a0.waits_)), .pv (.raw (.int .i64 a1.Item))]) (ps := [a0.waits_.length = a0.waits_.length, rowQ (E3.cR a0.waits_) 1 0 a0.waits_.length (fun i j => E3.cf (a0.waits_.getD i E3.z) j), (a1.Item : Int) = a1.Item]) (hb' := []) (by as_aux_lemma => kernel_rfl) (slices_Contains_int_ok _ _ _ e19 (al := false)) (by as_aux_lemma => kernel_rfl) ⟨(by first | rfl | exact Elem.sub_len _ (by omega) | omega | simp | (simp <;> omega)), E3.rowQ_all a0.waits_ rfl, rfl, trivial⟩ (fun hx => by cases hx) (by simp) rfl (by as_aux_lemma => kernel_rfl) ?_
        refine segs [] tabOk mixed 4000 (S := .br r18 (.leaf 0) (.leaf 1)) (by as_aux_lemma => kernel_rfl) ?_
        refine br_ h ?_ ?_ <;> clear h <;> intro c20 h
        · refine sk_leaf ?_
          obtain rfl := some_ h
          exact endM_ok [(0, some 0), (1, some 1), (2, some 2)] Try.results40 (ps := [(6 : Int) = 6, 0 = 0, a0.waits_.length = a0.waits_.length, (a0.begun_ : Int) = a0.begun_, 0 = 0, a0.done_.length = a0.done_.length, E3.cR a0.waits_ = E3.cR a0.waits_, AllPv (E3.cR a0.waits_), E3.cR a0.done_ = E3.cR a0.done_, AllPv (E3.cR a0.done_)]) (by as_aux_lemma => kernel_rfl) ⟨rfl, rfl, (by first | rfl | simp), rfl, rfl, (by first | rfl | simp), rfl, (Elem.cR_pv _ _), rfl, (Elem.cR_pv _ _), trivial⟩ (fun _ => ⟨rfl, by simp only [List.mem_cons, List.not_mem_nil, or_false, forall_eq_or_imp, forall_eq]; exact ⟨rfl, Elem.cR_bald E3_raw _, Elem.cR_bald E3_raw _⟩⟩)
        · refine sk_leaf ?_
          refine bs_ok (d := 52) (e := 3) (s := 1) (n := 1) (cs := [.pv (.raw (.int .i64 a1.Item))]) (cs' := E3.cR [a1.Item]) (by as_aux_lemma => kernel_rfl) rfl (by as_aux_lemma => kernel_rfl) ?_
          refine segs [] tabOk mixed 4000 (S := .leaf 0) (by as_aux_lemma => kernel_rfl) ?_
          refine sk_leaf ?_
          obtain ⟨g21, h⟩ := if_ h
          refine app_ok (d := 53) (e := 3) (s := 1) (b := 8) (x := .row 1 1 0 a0.waits_.length) (y := .row 17216 1 0 1) E3 (xs := a0.waits_) (ys := [a1.Item]) (by as_aux_lemma => kernel_rfl) rfl (.row 1 a0.waits_ a0.waits_.length rfl (by as_aux_lemma => kernel_rfl)) (.all 17216 3 [a1.Item] 1 rfl (by as_aux_lemma => kernel_rfl)) g21 (by as_aux_lemma => kernel_rfl) ?_
          refine segs [] tabOk mixed 4000 (S := .leaf 0) (by as_aux_lemma => kernel_rfl) ?_
          refine sk_leaf ?_
          obtain rfl := some_ h
          exact endM_ok [(0, some 0), (1, some 17232), (2, some 2)] Try.results40 (ps := [(0 : Int) = 0, 0 = 0, ((a0.waits_ ++ [a1.Item]).length) = (a0.waits_ ++ [a1.Item]).length, (a0.begun_ : Int) = a0.begun_, 0 = 0, a0.done_.length = a0.done_.length, E3.cR (a0.waits_ ++ [a1.Item]) = E3.cR (a0.waits_ ++ [a1.Item]), AllPv (E3.cR (a0.waits_ ++ [a1.Item])), E3.cR a0.done_ = E3.cR a0.done_, AllPv (E3.cR a0.done_)]) (by as_aux_lemma => kernel_rfl) ⟨rfl, rfl, (by first | rfl | simp), rfl, rfl, (by first | rfl | simp), rfl, (Elem.cR_pv _ _), rfl, (Elem.cR_pv _ _), trivial⟩ (fun _ => ⟨rfl, by simp only [List.mem_cons, List.not_mem_nil, or_false, forall_eq_or_imp, forall_eq]; exact ⟨rfl, Elem.cR_bald E3_raw _, Elem.cR_bald E3_raw _⟩⟩)
      · refine br_ h ?_ ?_ <;> clear h <;> intro c22 h
        · refine sk_leaf ?_
          obtain ⟨r23, e24, h⟩ := bd_ h
          refine mcall_ok (d := some 59) (fn := 60) (ax := [.ptr 0 0]) (hs := [(0, .box [.row 17329 1 0 r23.2.waits_.length, .pv (.raw (.int .i64 r23.2.begun_)), .row 17330 1 0 r23.2.done_.length]), (17329, .row 3 1 (E3.cR r23.2.waits_)), (17330, .row 3 1 (E3.cR r23.2.done_))]) (del := [1, 2]) (ps := [0 = 0, 0 = 0, a0.waits_.length = a0.waits_.length, (a0.begun_ : Int) = a0.begun_, 0 = 0, a0.done_.length = a0.done_.length, E3.cR a0.waits_ = E3.cR a0.waits_, AllPv (E3.cR a0.waits_), E3.cR a0.done_ = E3.cR a0.done_, AllPv (E3.cR a0.done_)]) [(0, some 0), (1, some 1), (2, some 2)] (by as_aux_lemma => kernel_rfl) (work_queue_begin_ok _ _ e24 (al := true)) (by as_aux_lemma => kernel_rfl) ⟨rfl, rfl, rfl, rfl, rfl, rfl, rfl, (Elem.cR_pv _ _), rfl, (Elem.cR_pv _ _), trivial⟩ (by as_aux_lemma => kernel_rfl) (by simp only [mset_row, mset_box, mset_nil, mset_map, List.set_set]; kernel_rfl) (by as_aux_lemma => kernel_rfl) ?_
          refine segs [] tabOk mixed 4000 (S := .leaf 0) (by as_aux_lemma => kernel_rfl) ?_
          refine sk_leaf ?_
          obtain rfl := some_ h
          exact endM_ok [(0, some 0), (1, some 17329), (2, some 17330)] Try.results40 (ps := [(r23.1 : Int) = r23.1, 0 = 0, r23.2.waits_.length = r23.2.waits_.length, (r23.2.begun_ : Int) = r23.2.begun_, 0 = 0, r23.2.done_.length = r23.2.done_.length, E3.cR r23.2.waits_ = E3.cR r23.2.waits_, AllPv (E3.cR r23.2.waits_), E3.cR r23.2.done_ = E3.cR r23.2.done_, AllPv (E3.cR r23.2.done_)]) (by as_aux_lemma => kernel_rfl) ⟨rfl, rfl, (by first | rfl | simp), rfl, rfl, (by first | rfl | simp), rfl, (Elem.cR_pv _ _), rfl, (Elem.cR_pv _ _), trivial⟩ (fun _ => ⟨rfl, by simp only [List.mem_cons, List.not_mem_nil, or_false, forall_eq_or_imp, forall_eq]; exact ⟨rfl, Elem.cR_bald E3_raw _, Elem.cR_bald E3_raw _⟩⟩)
        · refine br_ h ?_ ?_ <;> clear h <;> intro c25 h
          · refine sk_leaf ?_
            obtain ⟨r26, e27, h⟩ := bd_ h
            refine mcall_ok (d := some 63) (fn := 61) (ax := [.ptr 0 0]) (hs := [(0, .box [.row 17393 1 0 r26.2.waits_.length, .pv (.raw (.int .i64 r26.2.begun_)), .row 17394 1 0 r26.2.done_.length]), (17393, .row 3 1 (E3.cR r26.2.waits_)), (17394, .row 3 1 (E3.cR r26.2.done_))]) (del := [1, 2]) (ps := [0 = 0, 0 = 0, a0.waits_.length = a0.waits_.length, (a0.begun_ : Int) = a0.begun_, 0 = 0, a0.done_.length = a0.done_.length, E3.cR a0.waits_ = E3.cR a0.waits_, AllPv (E3.cR a0.waits_), E3.cR a0.done_ = E3.cR a0.done_, AllPv (E3.cR a0.done_)]) [(0, some 0), (1, some 1), (2, some 2)] (by as_aux_lemma => kernel_rfl) (work_queue_end_ok _ _ e27 (al := true)) (by as_aux_lemma => kernel_rfl) ⟨rfl, rfl, rfl, rfl, rfl, rfl, rfl, (Elem.cR_pv _ _), rfl, (Elem.cR_pv _ _), trivial⟩ (by as_aux_lemma => kernel_rfl) (by simp only [mset_row, mset_box, mset_nil, mset_map, List.set_set]; kernel_rfl) (by as_aux_lemma => kernel_rfl) ?_
            refine segs [] tabOk mixed 4000 (S := .leaf 0) (by as_aux_lemma => kernel_rfl) ?_
            refine sk_leaf ?_
            obtain rfl := some_ h
            exact endM_ok [(0, some 0), (1, some 17393), (2, some 17394)] Try.results40 (ps := [(r26.1 : Int) = r26.1, 0 = 0, r26.2.waits_.length = r26.2.waits_.length, (r26.2.begun_ : Int) = r26.2.begun_, 0 = 0, r26.2.done_.length = r26.2.done_.length, E3.cR r26.2.waits_ = E3.cR r26.2.waits_, AllPv (E3.cR r26.2.waits_), E3.cR r26.2.done_ = E3.cR r26.2.done_, AllPv (E3.cR r26.2.done_)]) (by as_aux_lemma => kernel_rfl) ⟨rfl, rfl, (by first | rfl | simp), rfl, rfl, (by first | rfl | simp), rfl, (Elem.cR_pv _ _), rfl, (Elem.cR_pv _ _), trivial⟩ (fun _ => ⟨rfl, by simp only [List.mem_cons, List.not_mem_nil, or_false, forall_eq_or_imp, forall_eq]; exact ⟨rfl, Elem.cR_bald E3_raw _, Elem.cR_bald E3_raw _⟩⟩)
          · refine br_ h ?_ ?_ <;> clear h <;> intro c28 h
            · refine sk_leaf ?_
              obtain ⟨r29, e30, h⟩ := bd_ h
              refine call_ok (d := some 72) (fn := 42) (ax := [.row 1 1 0 a0.waits_.length, .pv (.raw (.int .i64 a1.Item))]) (args := [.pv ((E3.ro a0.waits_)), .pv (.raw (.int .i64 a1.Item))]) (ps := [a0.waits_.length = a0.waits_.length, rowQ (E3.cR a0.waits_) 1 0 a0.waits_.length (fun i j => E3.cf (a0.waits_.getD i E3.z) j), (a1.Item : Int) = a1.Item]) (hb' := []) (by as_aux_lemma => kernel_rfl) (slices_Index_int_ok _ _ _ e30 (al := false)) (by as_aux_lemma => kernel_rfl) ⟨(by first | rfl | exact Elem.sub_len _ (by omega) | omega | simp | (simp <;> omega)), E3.rowQ_all a0.waits_ rfl, rfl, trivial⟩ (fun hx => by cases hx) (by simp) rfl (by as_aux_lemma => kernel_rfl) ?_
              refine segs [] tabOk mixed 4000 (S := .br (decide ((r29 : Int) < 0)) (.leaf 0) (.leaf 1)) (by as_aux_lemma => kernel_rfl) ?_
              refine br_ h ?_ ?_ <;> clear h <;> intro c31 h
              · refine sk_leaf ?_
                obtain rfl := some_ h
                exact endM_ok [(0, some 0), (1, some 1), (2, some 2)] Try.results40 (ps := [(3 : Int) = 3, 0 = 0, a0.waits_.length = a0.waits_.length, (a0.begun_ : Int) = a0.begun_, 0 = 0, a0.done_.length = a0.done_.length, E3.cR a0.waits_ = E3.cR a0.waits_, AllPv (E3.cR a0.waits_), E3.cR a0.done_ = E3.cR a0.done_, AllPv (E3.cR a0.done_)]) (by as_aux_lemma => kernel_rfl) ⟨rfl, rfl, (by first | rfl | simp), rfl, rfl, (by first | rfl | simp), rfl, (Elem.cR_pv _ _), rfl, (Elem.cR_pv _ _), trivial⟩ (fun _ => ⟨rfl, by simp only [List.mem_cons, List.not_mem_nil, or_false, forall_eq_or_imp, forall_eq]; exact ⟨rfl, Elem.cR_bald E3_raw _, Elem.cR_bald E3_raw _⟩⟩)
              · refine sk_leaf ?_
                obtain ⟨r32, e33, h⟩ := bd_ h
                refine call_ok (d := some 80) (fn := 16) (ax := [.row 1 1 0 a0.waits_.length]) (args := [.pv ((E3.ro a0.waits_))]) (ps := [a0.waits_.length = a0.waits_.length, rowQ (E3.cR a0.waits_) 1 0 a0.waits_.length (fun i j => E3.cf (a0.waits_.getD i E3.z) j)]) (hb' := [.row 3 1 (E3.cR r32)]) (by as_aux_lemma => kernel_rfl) (slices_Clone_int_ok _ _ e33 (al := false)) (by as_aux_lemma => kernel_rfl) ⟨(by first | rfl | exact Elem.sub_len _ (by omega) | omega | simp | (simp <;> omega)), E3.rowQ_all a0.waits_ rfl, trivial⟩ (fun hx => by cases hx) (by simp) (by simp only [List.map_cons, List.map_nil, Elem.row_up, up_map]) (by as_aux_lemma => kernel_rfl) ?_
                refine segs [] tabOk mixed 4000 (S := .leaf 0) (by as_aux_lemma => kernel_rfl) ?_
                refine sk_leaf ?_
                obtain ⟨r34, e35, h⟩ := bd_ h
                refine mcall_ok (d := some 84) (fn := 62) (ax := [.row 17664 1 0 r32.length, .pv (.raw (.int .i64 r29)), .pv (.raw (.int .i64 (IntKind.i64.wrap (r29 + 1))))]) (hs := [(17728, .row 3 1 (E3.cR r34))]) (del := [17664]) (ps := [0 = 0, r32.length = r32.length, (r29 : Int) = r29, ((IntKind.i64.wrap (r29 + 1)) : Int) = (IntKind.i64.wrap (r29 + 1)), E3.cR r32 = E3.cR r32, AllPv (E3.cR r32)]) [(0, some 17664)] (by as_aux_lemma => kernel_rfl) (slices_Delete_int_ok _ _ _ _ e35 (al := false)) (by as_aux_lemma => kernel_rfl) ⟨rfl, rfl, rfl, rfl, rfl, (Elem.cR_pv _ _), trivial⟩ (by as_aux_lemma => kernel_rfl) (by simp only [mset_row, mset_box, mset_nil, mset_map, List.set_set]; kernel_rfl) (by as_aux_lemma => kernel_rfl) ?_
                refine segs [] tabOk mixed 4000 (S := .leaf 0) (by as_aux_lemma => kernel_rfl) ?_
                refine sk_leaf ?_
                obtain rfl := some_ h
                exact endM_ok [(0, some 0), (1, some 17728), (2, some 2)] Try.results40 (ps := [(0 : Int) = 0, 0 = 0, r34.length = r34.length, (a0.begun_ : Int) = a0.begun_, 0 = 0, a0.done_.length = a0.done_.length, E3.cR r34 = E3.cR r34, AllPv (E3.cR r34), E3.cR a0.done_ = E3.cR a0.done_, AllPv (E3.cR a0.done_)]) (by as_aux_lemma => kernel_rfl) ⟨rfl, rfl, (by first | rfl | simp), rfl, rfl, (by first | rfl | simp), rfl, (Elem.cR_pv _ _), rfl, (Elem.cR_pv _ _), trivial⟩ (fun _ => ⟨rfl, by simp only [List.mem_cons, List.not_mem_nil, or_false, forall_eq_or_imp, forall_eq]; exact ⟨rfl, Elem.cR_bald E3_raw _, Elem.cR_bald E3_raw _⟩⟩)
            · refine br_ h ?_ ?_ <;> clear h <;> intro c36 h
              · refine sk_leaf ?_
                refine len_row (by as_aux_lemma => kernel_rfl) 1 (e := 3) (s := 1) (n := a0.waits_.length) (cs := E3.cR a0.waits_) (by as_aux_lemma => kernel_rfl) (Elem.cR_length _ _) ?_; intro hl1_0
                refine len_row (by as_aux_lemma => kernel_rfl) 2 (e := 3) (s := 1) (n := a0.done_.length) (cs := E3.cR a0.done_) (by as_aux_lemma => kernel_rfl) (Elem.cR_length _ _) ?_; intro hl1_1
                replace h : (fun (x : Nat × List Int × Int × List Int) => work_queue_do_l1 a0 a1 x.1 x.2.1 x.2.2.1 x.2.2.2 = some r) (FUEL, a0.waits_, a0.begun_, a0.done_) := h
                refine loop_ok (by as_aux_lemma => kernel_rfl) (X := Nat × List Int × Int × List Int) (fun x => work_queue_do_l1 a0 a1 x.1 x.2.1 x.2.2.1 x.2.2.2 = some r) (fun x => x.1) (fun x => mk 98 [(0, .ptr 0 0), (3, .ptr 3 0), (4, .pv (.raw (.int .i64 0)))] [(0, .box [.row 1 1 0 x.2.1.length, .pv (.raw (.int .i64 x.2.2.1)), .row 2 1 0 x.2.2.2.length]), (1, .row 3 1 (E3.cR x.2.1)), (2, .row 3 1 (E3.cR x.2.2.2)), (3, .box [.pv (.raw (.int .i64 a1.Kind)), .pv (.raw (.int .i64 a1.Item))])] [60, 61, 62] 1) (FUEL, a0.waits_, a0.begun_, a0.done_) h ?_ ?_
                · exact sub_ok (ρ := [(0, some 0), (1, some 1), (2, some 2), (3, some 16432)]) (l := [0 = 0, 0 = 0, (0 : Int) = 0, 0 = 0, a0.waits_.length = a0.waits_.length, (a0.begun_ : Int) = a0.begun_, 0 = 0, a0.done_.length = a0.done_.length, E3.cR a0.waits_ = E3.cR a0.waits_, AllPv (E3.cR a0.waits_), E3.cR a0.done_ = E3.cR a0.done_, AllPv (E3.cR a0.done_), (a1.Kind : Int) = a1.Kind, (a1.Item : Int) = a1.Item]) (by as_aux_lemma => kernel_rfl) ⟨rfl, rfl, rfl, rfl, rfl, rfl, rfl, rfl, rfl, (Elem.cR_pv _ _), rfl, (Elem.cR_pv _ _), rfl, rfl, trivial⟩
                · clear h; rintro ⟨n1, l37, x38, l39⟩ h p1 hp1
                  obtain _ | n1 := n1
                  · cases (show (none : Option (Int × Work_queue)) = some r from h)
                  have h : work_queue_do_l1 a0 a1 (n1 + 1) l37 x38 l39 = some r := h
                  unfold work_queue_do_l1 at h
                  refine segs [] tabOk mixed 4000 (S := .leaf 0) (by as_aux_lemma => kernel_rfl) ?_
                  refine sk_leaf ?_
                  obtain ⟨r40, e41, h⟩ := bd_ h
                  refine call_ok (d := some 92) (fn := 63) (ax := [.ptr 0 0, .pv (.raw (.int .i64 a1.Item))]) (args := [.roat 3 (fun j => E94.cf (⟨l37, x38, l39⟩ : Work_queue) j), .pv (.raw (.int .i64 a1.Item))]) (ps := [l37.length = l37.length, rowQ (E3.cR l37) 1 0 l37.length (fun i j => E3.cf (l37.getD i E3.z) j), (x38 : Int) = x38, l39.length = l39.length, rowQ (E3.cR l39) 1 0 l39.length (fun i j => E3.cf (l39.getD i E3.z) j), (a1.Item : Int) = a1.Item]) (hb' := []) (by as_aux_lemma => kernel_rfl) (work_queue_busy_ok _ _ _ e41 (al := false)) (by as_aux_lemma => kernel_rfl) ⟨(by first | rfl | exact Elem.sub_len _ (by omega) | omega | simp | (simp <;> omega)), E3.rowQ_all l37 rfl, rfl, (by first | rfl | exact Elem.sub_len _ (by omega) | omega | simp | (simp <;> omega)), E3.rowQ_all l39 rfl, rfl, trivial⟩ (fun hx => by cases hx) (by simp) rfl (by as_aux_lemma => kernel_rfl) ?_
                  refine segs [] tabOk mixed 4000 (S := .br r40 (.leaf 0) (.leaf 1)) (by as_aux_lemma => kernel_rfl) ?_
                  refine br_ h ?_ ?_ <;> clear h <;> intro c42 h
                  · refine sk_leaf ?_
                    obtain ⟨r43, e44, h⟩ := bd_ h
                    refine mcall_ok (d := some 94) (fn := 60) (ax := [.ptr 0 0]) (hs := [(0, .box [.row 17889 1 0 r43.2.waits_.length, .pv (.raw (.int .i64 r43.2.begun_)), .row 17890 1 0 r43.2.done_.length]), (17889, .row 3 1 (E3.cR r43.2.waits_)), (17890, .row 3 1 (E3.cR r43.2.done_))]) (del := [1, 2]) (ps := [0 = 0, 0 = 0, l37.length = l37.length, (x38 : Int) = x38, 0 = 0, l39.length = l39.length, E3.cR l37 = E3.cR l37, AllPv (E3.cR l37), E3.cR l39 = E3.cR l39, AllPv (E3.cR l39)]) [(0, some 0), (1, some 1), (2, some 2)] (by as_aux_lemma => kernel_rfl) (work_queue_begin_ok _ _ e44 (al := true)) (by as_aux_lemma => kernel_rfl) ⟨rfl, rfl, rfl, rfl, rfl, rfl, rfl, (Elem.cR_pv _ _), rfl, (Elem.cR_pv _ _), trivial⟩ (by as_aux_lemma => kernel_rfl) (by simp only [mset_row, mset_box, mset_nil, mset_map, List.set_set]; kernel_rfl) (by as_aux_lemma => kernel_rfl) ?_
                    refine segs [] tabOk mixed 4000 (S := .br ((r43.1 : Int) == 6) (.leaf 0) (.leaf 1)) (by as_aux_lemma => kernel_rfl) ?_
                    refine br_ h ?_ ?_ <;> clear h <;> intro c45 h
                    · refine sk_leaf ?_
                      obtain ⟨r46, e47, h⟩ := bd_ h
                      refine mcall_ok (d := some 97) (fn := 61) (ax := [.ptr 0 0]) (hs := [(0, .box [.row 17937 1 0 r46.2.waits_.length, .pv (.raw (.int .i64 r46.2.begun_)), .row 17938 1 0 r46.2.done_.length]), (17937, .row 3 1 (E3.cR r46.2.waits_)), (17938, .row 3 1 (E3.cR r46.2.done_))]) (del := [17889, 17890]) (ps := [0 = 0, 0 = 0, r43.2.waits_.length = r43.2.waits_.length, (r43.2.begun_ : Int) = r43.2.begun_, 0 = 0, r43.2.done_.length = r43.2.done_.length, E3.cR r43.2.waits_ = E3.cR r43.2.waits_, AllPv (E3.cR r43.2.waits_), E3.cR r43.2.done_ = E3.cR r43.2.done_, AllPv (E3.cR r43.2.done_)]) [(0, some 0), (1, some 17889), (2, some 17890)] (by as_aux_lemma => kernel_rfl) (work_queue_end_ok _ _ e47 (al := true)) (by as_aux_lemma => kernel_rfl) ⟨rfl, rfl, rfl, rfl, rfl, rfl, rfl, (Elem.cR_pv _ _), rfl, (Elem.cR_pv _ _), trivial⟩ (by as_aux_lemma => kernel_rfl) (by simp only [mset_row, mset_box, mset_nil, mset_map, List.set_set]; kernel_rfl) (by as_aux_lemma => kernel_rfl) ?_
                      refine segs [] tabOk mixed 4000 (S := .leaf 0) (by as_aux_lemma => kernel_rfl) ?_
                      refine sk_leaf ?_
                      refine back_ok (p := p1) (by as_aux_lemma => kernel_rfl) (hp1 (n1, r46.2.waits_, r46.2.begun_, r46.2.done_) _ h (Nat.lt_succ_self n1) ?_)
                      exact sub_ok (ρ := [(0, some 0), (1, some 17937), (2, some 17938), (3, some 3)]) (l := [0 = 0, 0 = 0, (0 : Int) = 0, 0 = 0, r46.2.waits_.length = r46.2.waits_.length, (r46.2.begun_ : Int) = r46.2.begun_, 0 = 0, r46.2.done_.length = r46.2.done_.length, E3.cR r46.2.waits_ = E3.cR r46.2.waits_, AllPv (E3.cR r46.2.waits_), E3.cR r46.2.done_ = E3.cR r46.2.done_, AllPv (E3.cR r46.2.done_), (a1.Kind : Int) = a1.Kind, (a1.Item : Int) = a1.Item]) (by as_aux_lemma => kernel_rfl) ⟨rfl, rfl, rfl, rfl, rfl, rfl, rfl, rfl, rfl, (Elem.cR_pv _ _), rfl, (Elem.cR_pv _ _), rfl, rfl, trivial⟩
                    · refine sk_leaf ?_
                      refine back_ok (p := p1) (by as_aux_lemma => kernel_rfl) (hp1 (n1, r43.2.waits_, r43.2.begun_, r43.2.done_) _ h (Nat.lt_succ_self n1) ?_)
                      exact sub_ok (ρ := [(0, some 0), (1, some 17889), (2, some 17890), (3, some 3)]) (l := [0 = 0, 0 = 0, (0 : Int) = 0, 0 = 0, r43.2.waits_.length = r43.2.waits_.length, (r43.2.begun_ : Int) = r43.2.begun_, 0 = 0, r43.2.done_.length = r43.2.done_.length, E3.cR r43.2.waits_ = E3.cR r43.2.waits_, AllPv (E3.cR r43.2.waits_), E3.cR r43.2.done_ = E3.cR r43.2.done_, AllPv (E3.cR r43.2.done_), (a1.Kind : Int) = a1.Kind, (a1.Item : Int) = a1.Item]) (by as_aux_lemma => kernel_rfl) ⟨rfl, rfl, rfl, rfl, rfl, rfl, rfl, rfl, rfl, (Elem.cR_pv _ _), rfl, (Elem.cR_pv _ _), rfl, rfl, trivial⟩
                  · refine sk_leaf ?_
                    obtain rfl := some_ h
                    exact endM_ok [(0, some 0), (1, some 1), (2, some 2)] Try.results40 (ps := [(0 : Int) = 0, 0 = 0, l37.length = l37.length, (x38 : Int) = x38, 0 = 0, l39.length = l39.length, E3.cR l37 = E3.cR l37, AllPv (E3.cR l37), E3.cR l39 = E3.cR l39, AllPv (E3.cR l39)]) (by as_aux_lemma => kernel_rfl) ⟨rfl, rfl, (by first | rfl | simp), rfl, rfl, (by first | rfl | simp), rfl, (Elem.cR_pv _ _), rfl, (Elem.cR_pv _ _), trivial⟩ (fun _ => ⟨rfl, by simp only [List.mem_cons, List.not_mem_nil, or_false, forall_eq_or_imp, forall_eq]; exact ⟨rfl, Elem.cR_bald E3_raw _, Elem.cR_bald E3_raw _⟩⟩)
              · refine sk_leaf ?_
                obtain rfl := some_ h
                exact endM_ok [(0, some 0), (1, some 1), (2, some 2)] Try.results40 (ps := [(0 : Int) = 0, 0 = 0, a0.waits_.length = a0.waits_.length, (a0.begun_ : Int) = a0.begun_, 0 = 0, a0.done_.length = a0.done_.length, E3.cR a0.waits_ = E3.cR a0.waits_, AllPv (E3.cR a0.waits_), E3.cR a0.done_ = E3.cR a0.done_, AllPv (E3.cR a0.done_)]) (by as_aux_lemma => kernel_rfl) ⟨rfl, rfl, (by first | rfl | simp), rfl, rfl, (by first | rfl | simp), rfl, (Elem.cR_pv _ _), rfl, (Elem.cR_pv _ _), trivial⟩ (fun _ => ⟨rfl, by simp only [List.mem_cons, List.not_mem_nil, or_false, forall_eq_or_imp, forall_eq]; exact ⟨rfl, Elem.cR_bald E3_raw _, Elem.cR_bald E3_raw _⟩⟩)

set_option maxHeartbeats 40000000 in
set_option maxRecDepth 100000 in
theorem work_Play_ok (a0 : (List Api_WorkOp)) (r : (List Int) × (List Int) × (List Int) × Int × Int) (h : work_Play a0 = some r) {al : Bool} : PCalls Try.prog 13 [.pv ((E40.ro a0))] al (.tup [.row 0 1 0 r.1.length, .row 1 1 0 r.2.1.length, .row 2 1 0 r.2.2.1.length, .pv (.raw (.int .i64 r.2.2.2.1)), .pv (.raw (.int .i64 r.2.2.2.2))]) [.row 31 1 (E31.cR r.1), .row 3 1 (E3.cR r.2.1), .row 3 1 (E3.cR r.2.2.1)] := by
  unfold work_Play at h
  refine fnZ_ok tabOk [40] Try.func13 (by as_aux_lemma => kernel_rfl) (by as_aux_lemma => kernel_rfl) Try.ntmps13 (by simp) ?_
  refine segs [] tabOk mixed 4000 (S := .br (decide ((((a0.length : Nat) : Int) : Int) > 400)) (.leaf 0) (.leaf 1)) (by as_aux_lemma => kernel_rfl) ?_
  refine br_ h ?_ ?_ <;> clear h <;> intro c1 h
  · refine sk_leaf ?_
    obtain rfl := some_ h
    exact end_ok [(0, none), (1, none), (2, none)] Try.results13 (ps := [0 = 0, ([] : List Int).length = 0, 0 = 0, ([] : List Int).length = 0, 0 = 0, ([] : List Int).length = 0, (0 : Int) = 0, (2 : Int) = 2, E31.cR [] = [], E3.cR [] = [], E3.cR [] = []]) (by as_aux_lemma => kernel_rfl) ⟨rfl, rfl, rfl, rfl, rfl, rfl, rfl, rfl, rfl, rfl, rfl, trivial⟩ (fun _ => ⟨rfl, by simp only [List.mem_cons, List.not_mem_nil, or_false, forall_eq_or_imp, forall_eq]; exact ⟨Elem.cR_bald E31_raw _, Elem.cR_bald E3_raw _, Elem.cR_bald E3_raw _⟩⟩)
  · refine sk_leaf ?_
    refine len_ro (by as_aux_lemma => kernel_rfl) 16 (s := 2) (n := a0.length) (c := fun i j => E40.cf (a0.getD i E40.z) j) (by as_aux_lemma => kernel_rfl) ?_; intro hl1_0
    replace h : (fun (x : Nat × List Int × Nat × List Int × Int × List Int) => work_Play_l1 a0 x.1 x.2.1 x.2.2.1 x.2.2.2.1 x.2.2.2.2.1 x.2.2.2.2.2 = some r) (FUEL, ([] : List Int), 0, ([] : List Int), (-1), ([] : List Int)) := h
    refine loop_ok (by as_aux_lemma => kernel_rfl) (X := Nat × List Int × Nat × List Int × Int × List Int) (fun x => work_Play_l1 a0 x.1 x.2.1 x.2.2.1 x.2.2.2.1 x.2.2.2.2.1 x.2.2.2.2.2 = some r) (fun x => x.1) (fun x => mk 43 [(2, .pv (.raw (.slice none 0 0))), (3, .pv (.raw (.slice none 0 0))), (4, .pv (.raw (.slice none 0 0))), (5, .pv (.raw (.int .i64 0))), (6, .pv (.raw (.int .i64 0))), (7, .ptr 0 0), (8, .row 1 1 0 x.2.1.length), (16, .pv ((E40.ro a0))), (17, .pv (.raw (.int .i64 ((a0.length : Nat) : Int)))), (18, .pv (.raw (.int .i64 ((x.2.2.1 : Nat) : Int))))] [(0, .box [.row 2 1 0 x.2.2.2.1.length, .pv (.raw (.int .i64 x.2.2.2.2.1)), .row 3 1 0 x.2.2.2.2.2.length]), (1, .row 31 1 (E31.cR x.2.1)), (2, .row 3 1 (E3.cR x.2.2.2.1)), (3, .row 3 1 (E3.cR x.2.2.2.2.2))] [40]) (FUEL, ([] : List Int), 0, ([] : List Int), (-1), ([] : List Int)) h ?_ ?_
    · exact sub_ok (ρ := [(0, some 16624), (1, none), (2, none), (3, none)]) (l := [(0 : Int) = 0, (0 : Int) = 0, 0 = 0, 0 = 0, (([] : List Int).length) = 0, a0.length = a0.length, ∀ i, i < a0.length → ∀ j, j < 2 → E40.cf (a0.getD i E40.z) j = E40.cf (a0.getD i E40.z) j, (((a0.length : Nat) : Int) : Int) = ((a0.length : Nat) : Int), (0 : Int) = ((0 : Nat) : Int), 0 = 0, (([] : List Int).length) = 0, ((-1) : Int) = (-1), 0 = 0, (([] : List Int).length) = 0, E31.cR ([] : List Int) = [], E3.cR ([] : List Int) = [], E3.cR ([] : List Int) = []]) (by as_aux_lemma => kernel_rfl) ⟨rfl, rfl, rfl, rfl, (by first | rfl | simp), rfl, fun _ _ _ _ => rfl, rfl, (by first | rfl | simp), rfl, (by first | rfl | simp), rfl, rfl, (by first | rfl | simp), rfl, rfl, rfl, trivial⟩
    · clear h; rintro ⟨n1, l2, k3, l4, x5, l6⟩ h p1 hp1
      obtain _ | n1 := n1
      · cases (show (none : Option ((List Int) × (List Int) × (List Int) × Int × Int)) = some r from h)
      have h : work_Play_l1 a0 (n1 + 1) l2 k3 l4 x5 l6 = some r := h
      unfold work_Play_l1 at h
      refine segs [] tabOk mixed 4000 (S := .br (decide ((((k3 : Nat) : Int) : Int) < ((a0.length : Nat) : Int))) (.and (0 ≤ (((k3 : Nat) : Int) : Int) ∧ ((k3 : Nat) : Int) < ((a0.length : Nat) : Int)) (.leaf 0)) (.leaf 1)) (by as_aux_lemma => kernel_rfl) ?_
      refine br_ h ?_ ?_ <;> clear h <;> intro c7 h
      · refine sk_and ⟨Int.natCast_nonneg _, of_decide_eq_true c7⟩ ?_
        refine sk_leaf ?_
        obtain ⟨r9, e10, h⟩ := bd_ h
        refine mcall_ok (d := some 25) (fn := 40) (ax := [.ptr 0 0, .agg [.pv (.raw (.int .i64 ((a0.getD k3 (⟨0, 0⟩ : Api_WorkOp)).Kind))), .pv (.raw (.int .i64 ((a0.getD k3 (⟨0, 0⟩ : Api_WorkOp)).Item)))]]) (hs := [(0, .box [.row 16785 1 0 r9.2.waits_.length, .pv (.raw (.int .i64 r9.2.begun_)), .row 16786 1 0 r9.2.done_.length]), (16785, .row 3 1 (E3.cR r9.2.waits_)), (16786, .row 3 1 (E3.cR r9.2.done_))]) (del := [2, 3]) (ps := [0 = 0, ((a0.getD k3 (⟨0, 0⟩ : Api_WorkOp)).Kind : Int) = ((a0.getD k3 (⟨0, 0⟩ : Api_WorkOp)).Kind), ((a0.getD k3 (⟨0, 0⟩ : Api_WorkOp)).Item : Int) = ((a0.getD k3 (⟨0, 0⟩ : Api_WorkOp)).Item), 0 = 0, l4.length = l4.length, (x5 : Int) = x5, 0 = 0, l6.length = l6.length, E3.cR l4 = E3.cR l4, AllPv (E3.cR l4), E3.cR l6 = E3.cR l6, AllPv (E3.cR l6)]) [(0, some 0), (1, some 2), (2, some 3)] (by as_aux_lemma => kernel_rfl) (work_queue_do_ok _ _ _ e10 (al := true)) (by as_aux_lemma => kernel_rfl) ⟨rfl, rfl, rfl, rfl, rfl, rfl, rfl, rfl, rfl, (Elem.cR_pv _ _), rfl, (Elem.cR_pv _ _), trivial⟩ (by as_aux_lemma => kernel_rfl) (by simp only [mset_row, mset_box, mset_nil, mset_map, List.set_set]; kernel_rfl) (by as_aux_lemma => kernel_rfl) ?_
        refine segs [] tabOk mixed 4000 (S := .leaf 0) (by as_aux_lemma => kernel_rfl) ?_
        refine sk_leaf ?_
        refine bs_ok (d := 26) (e := 31) (s := 1) (n := 1) (cs := [.pv (.raw (.int .i64 r9.1))]) (cs' := E31.cR [r9.1]) (by as_aux_lemma => kernel_rfl) rfl (by as_aux_lemma => kernel_rfl) ?_
        refine segs [] tabOk mixed 4000 (S := .leaf 0) (by as_aux_lemma => kernel_rfl) ?_
        refine sk_leaf ?_
        obtain ⟨g11, h⟩ := if_ h
        refine app_ok (d := 27) (e := 31) (s := 1) (b := 8) (x := .row 1 1 0 l2.length) (y := .row 16800 1 0 1) E31 (xs := l2) (ys := [r9.1]) (by as_aux_lemma => kernel_rfl) rfl (.row 1 l2 l2.length rfl (by as_aux_lemma => kernel_rfl)) (.all 16800 31 [r9.1] 1 rfl (by as_aux_lemma => kernel_rfl)) g11 (by as_aux_lemma => kernel_rfl) ?_
        refine segs [] tabOk mixed 4000 (S := .leaf 0) (by as_aux_lemma => kernel_rfl) ?_
        refine sk_leaf ?_
        refine back_ok (p := p1) (by as_aux_lemma => kernel_rfl) (hp1 (n1, (l2 ++ [r9.1]), k3 + 1, r9.2.waits_, r9.2.begun_, r9.2.done_) _ h (Nat.lt_succ_self n1) ?_)
        exact sub_ok (ρ := [(0, some 0), (1, some 16816), (2, some 16785), (3, some 16786)]) (l := [(0 : Int) = 0, (0 : Int) = 0, 0 = 0, 0 = 0, ((l2 ++ [r9.1]).length) = ((l2 ++ [r9.1]).length), a0.length = a0.length, ∀ i, i < a0.length → ∀ j, j < 2 → E40.cf (a0.getD i E40.z) j = E40.cf (a0.getD i E40.z) j, (((a0.length : Nat) : Int) : Int) = ((a0.length : Nat) : Int), ((IntKind.i64.wrap (((k3 : Nat) : Int) + 1)) : Int) = (((k3 + 1) : Nat) : Int), 0 = 0, r9.2.waits_.length = r9.2.waits_.length, (r9.2.begun_ : Int) = r9.2.begun_, 0 = 0, r9.2.done_.length = r9.2.done_.length, E31.cR (l2 ++ [r9.1]) = E31.cR (l2 ++ [r9.1]), AllPv (E31.cR (l2 ++ [r9.1])), E3.cR r9.2.waits_ = E3.cR r9.2.waits_, AllPv (E3.cR r9.2.waits_), E3.cR r9.2.done_ = E3.cR r9.2.done_, AllPv (E3.cR r9.2.done_)]) (by as_aux_lemma => kernel_rfl) ⟨rfl, rfl, rfl, rfl, rfl, rfl, fun _ _ _ _ => rfl, rfl, (wrap_nat (Int.ofNat_lt.1 (of_decide_eq_true c7)) (by omega)), rfl, rfl, rfl, rfl, rfl, rfl, (Elem.cR_pv _ _), rfl, (Elem.cR_pv _ _), rfl, (Elem.cR_pv _ _), trivial⟩
      · refine sk_leaf ?_
        obtain ⟨r12, e13, h⟩ := bd_ h
        refine call_ok (d := some 38) (fn := 16) (ax := [.row 2 1 0 l4.length]) (args := [.pv ((E3.ro l4))]) (ps := [l4.length = l4.length, rowQ (E3.cR l4) 1 0 l4.length (fun i j => E3.cf (l4.getD i E3.z) j)]) (hb' := [.row 3 1 (E3.cR r12)]) (by as_aux_lemma => kernel_rfl) (slices_Clone_int_ok _ _ e13 (al := false)) (by as_aux_lemma => kernel_rfl) ⟨(by first | rfl | exact Elem.sub_len _ (by omega) | omega | simp | (simp <;> omega)), E3.rowQ_all l4 rfl, trivial⟩ (fun hx => by cases hx) (by simp) (by simp only [List.map_cons, List.map_nil, Elem.row_up, up_map]) (by as_aux_lemma => kernel_rfl) ?_
        refine segs [] tabOk mixed 4000 (S := .leaf 0) (by as_aux_lemma => kernel_rfl) ?_
        refine sk_leaf ?_
        obtain rfl := some_ h
        exact end_ok [(0, some 1), (1, some 3), (2, some 16992)] Try.results13 (ps := [0 = 0, l2.length = l2.length, 0 = 0, l6.length = l6.length, 0 = 0, r12.length = r12.length, (x5 : Int) = x5, (0 : Int) = 0, E31.cR l2 = E31.cR l2, AllPv (E31.cR l2), E3.cR l6 = E3.cR l6, AllPv (E3.cR l6), E3.cR r12 = E3.cR r12, AllPv (E3.cR r12)]) (by as_aux_lemma => kernel_rfl) ⟨rfl, (by first | rfl | simp), rfl, (by first | rfl | simp), rfl, (by first | rfl | simp), rfl, rfl, rfl, (Elem.cR_pv _ _), rfl, (Elem.cR_pv _ _), rfl, (Elem.cR_pv _ _), trivial⟩ (fun _ => ⟨rfl, by simp only [List.mem_cons, List.not_mem_nil, or_false, forall_eq_or_imp, forall_eq]; exact ⟨Elem.cR_bald E31_raw _, Elem.cR_bald E3_raw _, Elem.cR_bald E3_raw _⟩⟩)

set_option maxHeartbeats 40000000 in
set_option maxRecDepth 100000 in
theorem slices_Equal_api_Errno_ok (a0 : (List Int)) (a1 : (List Int)) (r : Bool) (h : slices_Equal_api_Errno a0 a1 = some r) {al : Bool} : PCalls Try.prog 37 [.pv ((E31.ro a0)), .pv ((E31.ro a1))] al (.pv (.raw (.bool r))) [] := by
  unfold slices_Equal_api_Errno at h
  refine fn_ok tabOk Try.func37 (by as_aux_lemma => kernel_rfl) (by as_aux_lemma => kernel_rfl) Try.ntmps37 (by simp) ?_
  refine segs [] tabOk mixed 4000 (S := .br ((((a0.length : Nat) : Int) : Int) != ((a1.length : Nat) : Int)) (.leaf 0) (.leaf 1)) (by as_aux_lemma => kernel_rfl) ?_
  refine br_ h ?_ ?_ <;> clear h <;> intro c1 h
  · refine sk_leaf ?_
    obtain rfl := some_ h
    exact end_ok [] Try.results37 (ps := [false = false]) (by as_aux_lemma => kernel_rfl) ⟨rfl, trivial⟩ (fun _ => ⟨rfl, by simp⟩)
  · refine sk_leaf ?_
    refine len_ro (by as_aux_lemma => kernel_rfl) 0 (s := 1) (n := a0.length) (c := fun i j => E31.cf (a0.getD i E31.z) j) (by as_aux_lemma => kernel_rfl) ?_; intro hl1_0
    refine len_ro (by as_aux_lemma => kernel_rfl) 1 (s := 1) (n := a1.length) (c := fun i j => E31.cf (a1.getD i E31.z) j) (by as_aux_lemma => kernel_rfl) ?_; intro hl1_1
    replace h : (fun (x : Nat × Nat) => slices_Equal_api_Errno_l1 a0 a1 x.1 x.2 = some r) (FUEL, 0) := h
    refine loop_ok (by as_aux_lemma => kernel_rfl) (X := Nat × Nat) (fun x => slices_Equal_api_Errno_l1 a0 a1 x.1 x.2 = some r) (fun x => x.1) (fun x => mk 26 [(0, .pv ((E31.ro a0))), (1, .pv ((E31.ro a1))), (4, .pv (.raw (.bool false))), (12, .pv (.raw (.int .i64 ((a0.length : Nat) : Int)))), (13, .pv (.raw (.int .i64 ((x.2 : Nat) : Int))))] []) (FUEL, 0) h ?_ ?_
    · exact sub_ok (ρ := []) (l := [a0.length = a0.length, ∀ i, i < a0.length → ∀ j, j < 1 → E31.cf (a0.getD i E31.z) j = E31.cf (a0.getD i E31.z) j, a1.length = a1.length, ∀ i, i < a1.length → ∀ j, j < 1 → E31.cf (a1.getD i E31.z) j = E31.cf (a1.getD i E31.z) j, false = false, (((a0.length : Nat) : Int) : Int) = ((a0.length : Nat) : Int), (0 : Int) = ((0 : Nat) : Int)]) (by as_aux_lemma => kernel_rfl) ⟨rfl, fun _ _ _ _ => rfl, rfl, fun _ _ _ _ => rfl, rfl, rfl, (by first | rfl | simp), trivial⟩
    · clear h; rintro ⟨n1, k2⟩ h p1 hp1
      obtain _ | n1 := n1
      · cases (show (none : Option (Bool)) = some r from h)
      have h : slices_Equal_api_Errno_l1 a0 a1 (n1 + 1) k2 = some r := h
      unfold slices_Equal_api_Errno_l1 at h
      refine segs [] tabOk mixed 4000 (S := .br (decide ((((k2 : Nat) : Int) : Int) < ((a0.length : Nat) : Int))) (.and (0 ≤ (((k2 : Nat) : Int) : Int) ∧ ((k2 : Nat) : Int) < ((a0.length : Nat) : Int)) (.and (0 ≤ (((k2 : Nat) : Int) : Int) ∧ ((k2 : Nat) : Int) < ((a1.length : Nat) : Int)) (.br (((a0.getD k2 0) : Int) != (a1.getD k2 0)) (.leaf 0) (.leaf 1)))) (.leaf 2)) (by as_aux_lemma => kernel_rfl) ?_
      refine br_ h ?_ ?_ <;> clear h <;> intro c3 h
      · refine sk_and ⟨Int.natCast_nonneg _, of_decide_eq_true c3⟩ ?_
        refine gd_ h ?_; clear h; intro g5 h
        refine br_ h ?_ ?_ <;> clear h <;> intro c6 h
        · refine sk_leaf ?_
          obtain rfl := some_ h
          exact end_ok [] Try.results37 (ps := [false = false]) (by as_aux_lemma => kernel_rfl) ⟨rfl, trivial⟩ (fun _ => ⟨rfl, by simp⟩)
        · refine sk_leaf ?_
          refine back_ok (p := p1) (by as_aux_lemma => kernel_rfl) (hp1 (n1, k2 + 1) _ h (Nat.lt_succ_self n1) ?_)
          exact sub_ok (ρ := []) (l := [a0.length = a0.length, ∀ i, i < a0.length → ∀ j, j < 1 → E31.cf (a0.getD i E31.z) j = E31.cf (a0.getD i E31.z) j, a1.length = a1.length, ∀ i, i < a1.length → ∀ j, j < 1 → E31.cf (a1.getD i E31.z) j = E31.cf (a1.getD i E31.z) j, false = false, (((a0.length : Nat) : Int) : Int) = ((a0.length : Nat) : Int), ((IntKind.i64.wrap (((k2 : Nat) : Int) + 1)) : Int) = (((k2 + 1) : Nat) : Int)]) (by as_aux_lemma => kernel_rfl) ⟨rfl, fun _ _ _ _ => rfl, rfl, fun _ _ _ _ => rfl, rfl, rfl, (wrap_nat (Int.ofNat_lt.1 (of_decide_eq_true c3)) (by omega)), trivial⟩
      · refine sk_leaf ?_
        obtain rfl := some_ h
        exact end_ok [] Try.results37 (ps := [true = true]) (by as_aux_lemma => kernel_rfl) ⟨rfl, trivial⟩ (fun _ => ⟨rfl, by simp⟩)

set_option maxHeartbeats 40000000 in
set_option maxRecDepth 100000 in
theorem keep_alive12_ok (r : Bool) (h : keep_alive12 = some r) {al : Bool} : PCalls Try.prog 12 [] al (.pv (.raw (.bool r))) [] := by
  unfold keep_alive12 at h
  refine fn_ok tabOk Try.func12 (by as_aux_lemma => kernel_rfl) (by as_aux_lemma => kernel_rfl) Try.ntmps12 (by simp) ?_
  refine segs [] tabOk mixed 4000 (S := .leaf 0) (by as_aux_lemma => kernel_rfl) ?_
  refine sk_leaf ?_
  refine bs_ok (d := 14) (e := 40) (s := 2) (n := 7) (cs := [.pv (.raw (.int .i64 1)), .pv (.raw (.int .i64 4)), .pv (.raw (.int .i64 1)), .pv (.raw (.int .i64 4)), .pv (.raw (.int .i64 2)), .pv (.raw (.int .i64 0)), .pv (.raw (.int .i64 1)), .pv (.raw (.int .i64 4)), .pv (.raw (.int .i64 1)), .pv (.raw (.int .i64 6)), .pv (.raw (.int .i64 3)), .pv (.raw (.int .i64 0)), .pv (.raw (.int .i64 2)), .pv (.raw (.int .i64 0))]) (cs' := E40.cR [(⟨1, 4⟩ : Api_WorkOp), (⟨1, 4⟩ : Api_WorkOp), (⟨2, 0⟩ : Api_WorkOp), (⟨1, 4⟩ : Api_WorkOp), (⟨1, 6⟩ : Api_WorkOp), (⟨3, 0⟩ : Api_WorkOp), (⟨2, 0⟩ : Api_WorkOp)]) (by as_aux_lemma => kernel_rfl) rfl (by as_aux_lemma => kernel_rfl) ?_
  refine segs [] tabOk mixed 4000 (S := .leaf 0) (by as_aux_lemma => kernel_rfl) ?_
  refine sk_leaf ?_
  obtain ⟨r1, e2, h⟩ := bd_ h
  refine call_ok (d := some 15) (fn := 13) (ax := [.row 16608 2 0 7]) (args := [.pv ((E40.ro [(⟨1, 4⟩ : Api_WorkOp), (⟨1, 4⟩ : Api_WorkOp), (⟨2, 0⟩ : Api_WorkOp), (⟨1, 4⟩ : Api_WorkOp), (⟨1, 6⟩ : Api_WorkOp), (⟨3, 0⟩ : Api_WorkOp), (⟨2, 0⟩ : Api_WorkOp)]))]) (ps := [7 = [(⟨1, 4⟩ : Api_WorkOp), (⟨1, 4⟩ : Api_WorkOp), (⟨2, 0⟩ : Api_WorkOp), (⟨1, 4⟩ : Api_WorkOp), (⟨1, 6⟩ : Api_WorkOp), (⟨3, 0⟩ : Api_WorkOp), (⟨2, 0⟩ : Api_WorkOp)].length, rowQ (E40.cR [(⟨1, 4⟩ : Api_WorkOp), (⟨1, 4⟩ : Api_WorkOp), (⟨2, 0⟩ : Api_WorkOp), (⟨1, 4⟩ : Api_WorkOp), (⟨1, 6⟩ : Api_WorkOp), (⟨3, 0⟩ : Api_WorkOp), (⟨2, 0⟩ : Api_WorkOp)]) 2 0 7 (fun i j => E40.cf ([(⟨1, 4⟩ : Api_WorkOp), (⟨1, 4⟩ : Api_WorkOp), (⟨2, 0⟩ : Api_WorkOp), (⟨1, 4⟩ : Api_WorkOp), (⟨1, 6⟩ : Api_WorkOp), (⟨3, 0⟩ : Api_WorkOp), (⟨2, 0⟩ : Api_WorkOp)].getD i E40.z) j)]) (hb' := [.row 31 1 (E31.cR r1.1), .row 3 1 (E3.cR r1.2.1), .row 3 1 (E3.cR r1.2.2.1)]) (by as_aux_lemma => kernel_rfl) (work_Play_ok _ _ e2 (al := false)) (by as_aux_lemma => kernel_rfl) ⟨(by first | rfl | exact Elem.sub_len _ (by omega) | omega | simp | (simp <;> omega)), E40.rowQ_all [(⟨1, 4⟩ : Api_WorkOp), (⟨1, 4⟩ : Api_WorkOp), (⟨2, 0⟩ : Api_WorkOp), (⟨1, 4⟩ : Api_WorkOp), (⟨1, 6⟩ : Api_WorkOp), (⟨3, 0⟩ : Api_WorkOp), (⟨2, 0⟩ : Api_WorkOp)] rfl, trivial⟩ (fun hx => by cases hx) (by simp) (by simp only [List.map_cons, List.map_nil, Elem.row_up, up_map]) (by as_aux_lemma => kernel_rfl) ?_
  refine segs [] tabOk mixed 4000 (S := .leaf 0) (by as_aux_lemma => kernel_rfl) ?_
  refine sk_leaf ?_
  refine bsG_ok (d := 25) (e := 31) (s := 1) (n := 7) (g := ((r1.2.2.2.2 : Int) == 0)) (ws := []) (cs := [.pv (.raw (.int .i64 0)), .pv (.raw (.int .i64 6)), .pv (.raw (.int .i64 0)), .pv (.raw (.int .i64 0)), .pv (.raw (.int .i64 0)), .pv (.raw (.int .i64 0)), .pv (.raw (.int .i64 0))]) E31 [0, 6, 0, 0, 0, 0, 0] (by as_aux_lemma => kernel_rfl) (fun _ => trivial) rfl rfl rfl (by as_aux_lemma => kernel_rfl) ?_
  refine segs [] tabOk mixed 4000 (S := .leaf 0) (by as_aux_lemma => kernel_rfl) ?_
  refine sk_leaf ?_
  obtain ⟨r3, e4, h⟩ := bd_ h
  refine callG_ok (d := some 26) (fn := 37) (ax := [.row 16624 1 0 r1.1.length, .pv ((E31.ro [0, 6, 0, 0, 0, 0, 0]))]) (args := [.pv ((E31.ro r1.1)), .pv ((E31.ro [0, 6, 0, 0, 0, 0, 0]))]) (g := ((r1.2.2.2.2 : Int) == 0)) (ws := [((r1.2.2.2.2 : Int) == 0) = true, ((r1.2.2.2.2 : Int) == 0) = true]) (ps := [r1.1.length = r1.1.length, rowQ (E31.cR r1.1) 1 0 r1.1.length (fun i j => E31.cf (r1.1.getD i E31.z) j), [0, 6, 0, 0, 0, 0, 0].length = [0, 6, 0, 0, 0, 0, 0].length, ∀ i, i < [0, 6, 0, 0, 0, 0, 0].length → ∀ j, j < 1 → E31.cf ([0, 6, 0, 0, 0, 0, 0].getD i E31.z) j = E31.cf ([0, 6, 0, 0, 0, 0, 0].getD i E31.z) j]) (by as_aux_lemma => kernel_rfl) (fun hg => ⟨((by decide : ∀ y0 : Bool, ((y0 = true) → (y0 = true))) ((r1.2.2.2.2 : Int) == 0)) hg, ((by decide : ∀ y0 : Bool, ((y0 = true) → (y0 = true))) ((r1.2.2.2.2 : Int) == 0)) hg, trivial⟩) (fun hg => slices_Equal_api_Errno_ok _ _ _ (by rw [hg] at e4; exact e4) (al := false)) (by as_aux_lemma => kernel_rfl) (fun hg => ⟨(by first | rfl | exact Elem.sub_len _ (by omega) | omega | simp | (simp <;> omega)), E31.rowQ_all r1.1 rfl, rfl, fun _ _ _ _ => rfl, trivial⟩) (fun hx => by cases hx) ?_
  refine segs [] tabOk mixed 4000 (S := .and (((r1.2.2.2.2 : Int) == 0) = true → ((r1.2.2.2.2 : Int) == 0) = true) (.leaf 0)) (by as_aux_lemma => kernel_rfl) ?_
  refine sk_and ((by decide : ∀ y0 : Bool, ((y0 = true) → (y0 = true))) ((r1.2.2.2.2 : Int) == 0)) ?_
  refine sk_leaf ?_
  refine bsG_ok (d := 30) (e := 3) (s := 1) (n := 1) (g := (((r1.2.2.2.2 : Int) == 0) && r3)) (ws := []) (cs := [.pv (.raw (.int .i64 4))]) E3 [4] (by as_aux_lemma => kernel_rfl) (fun _ => trivial) rfl rfl rfl (by as_aux_lemma => kernel_rfl) ?_
  refine segs [] tabOk mixed 4000 (S := .leaf 0) (by as_aux_lemma => kernel_rfl) ?_
  refine sk_leaf ?_
  obtain ⟨r6, e7, h⟩ := bd_ h
  refine callG_ok (d := some 31) (fn := 18) (ax := [.row 16625 1 0 r1.2.1.length, .pv ((E3.ro [4]))]) (args := [.pv ((E3.ro r1.2.1)), .pv ((E3.ro [4]))]) (g := (((r1.2.2.2.2 : Int) == 0) && r3)) (ws := [(((r1.2.2.2.2 : Int) == 0) && r3) = true, (((r1.2.2.2.2 : Int) == 0) && r3) = true]) (ps := [r1.2.1.length = r1.2.1.length, rowQ (E3.cR r1.2.1) 1 0 r1.2.1.length (fun i j => E3.cf (r1.2.1.getD i E3.z) j), [4].length = [4].length, ∀ i, i < [4].length → ∀ j, j < 1 → E3.cf ([4].getD i E3.z) j = E3.cf ([4].getD i E3.z) j]) (by as_aux_lemma => kernel_rfl) (fun hg => ⟨((by decide : ∀ y0 : Bool, ((y0 = true) → (y0 = true))) (((r1.2.2.2.2 : Int) == 0) && r3)) hg, ((by decide : ∀ y0 : Bool, ((y0 = true) → (y0 = true))) (((r1.2.2.2.2 : Int) == 0) && r3)) hg, trivial⟩) (fun hg => slices_Equal_int_ok _ _ _ (by rw [hg] at e7; exact e7) (al := false)) (by as_aux_lemma => kernel_rfl) (fun hg => ⟨(by first | rfl | exact Elem.sub_len _ (by omega) | omega | simp | (simp <;> omega)), E3.rowQ_all r1.2.1 rfl, rfl, fun _ _ _ _ => rfl, trivial⟩) (fun hx => by cases hx) ?_
  refine segs [] tabOk mixed 4000 (S := .and ((((r1.2.2.2.2 : Int) == 0) && r3) = true → (((r1.2.2.2.2 : Int) == 0) && r3) = true) (.leaf 0)) (by as_aux_lemma => kernel_rfl) ?_
  refine sk_and ((by decide : ∀ y0 : Bool, ((y0 = true) → (y0 = true))) (((r1.2.2.2.2 : Int) == 0) && r3)) ?_
  refine sk_leaf ?_
  refine bsG_ok (d := 35) (e := 3) (s := 1) (n := 1) (g := ((((r1.2.2.2.2 : Int) == 0) && r3) && r6)) (ws := []) (cs := [.pv (.raw (.int .i64 6))]) E3 [6] (by as_aux_lemma => kernel_rfl) (fun _ => trivial) rfl rfl rfl (by as_aux_lemma => kernel_rfl) ?_
  refine segs [] tabOk mixed 4000 (S := .leaf 0) (by as_aux_lemma => kernel_rfl) ?_
  refine sk_leaf ?_
  obtain ⟨r9, e10, h⟩ := bd_ h
  refine callG_ok (d := some 36) (fn := 18) (ax := [.row 16626 1 0 r1.2.2.1.length, .pv ((E3.ro [6]))]) (args := [.pv ((E3.ro r1.2.2.1)), .pv ((E3.ro [6]))]) (g := ((((r1.2.2.2.2 : Int) == 0) && r3) && r6)) (ws := [((((r1.2.2.2.2 : Int) == 0) && r3) && r6) = true, ((((r1.2.2.2.2 : Int) == 0) && r3) && r6) = true]) (ps := [r1.2.2.1.length = r1.2.2.1.length, rowQ (E3.cR r1.2.2.1) 1 0 r1.2.2.1.length (fun i j => E3.cf (r1.2.2.1.getD i E3.z) j), [6].length = [6].length, ∀ i, i < [6].length → ∀ j, j < 1 → E3.cf ([6].getD i E3.z) j = E3.cf ([6].getD i E3.z) j]) (by as_aux_lemma => kernel_rfl) (fun hg => ⟨((by decide : ∀ y0 : Bool, ((y0 = true) → (y0 = true))) ((((r1.2.2.2.2 : Int) == 0) && r3) && r6)) hg, ((by decide : ∀ y0 : Bool, ((y0 = true) → (y0 = true))) ((((r1.2.2.2.2 : Int) == 0) && r3) && r6)) hg, trivial⟩) (fun hg => slices_Equal_int_ok _ _ _ (by rw [hg] at e10; exact e10) (al := false)) (by as_aux_lemma => kernel_rfl) (fun hg => ⟨(by first | rfl | exact Elem.sub_len _ (by omega) | omega | simp | (simp <;> omega)), E3.rowQ_all r1.2.2.1 rfl, rfl, fun _ _ _ _ => rfl, trivial⟩) (fun hx => by cases hx) ?_
  refine segs [] tabOk mixed 4000 (S := .and (((((r1.2.2.2.2 : Int) == 0) && r3) && r6) = true → ((((r1.2.2.2.2 : Int) == 0) && r3) && r6) = true) (.and (((((((r1.2.2.2.2 : Int) == 0) && r3) && r6) && r9) = true → ((((((r1.2.2.2.2 : Int) == 0) && r3) && r6) && r9) = true))) (.and ((((((r1.2.2.2.2 : Int) == 0) && r3) && r6) && r9) = true → (((((r1.2.2.2.2 : Int) == 0) && r3) && r6) && r9) = true) (.leaf 0)))) (by as_aux_lemma => kernel_rfl) ?_
  refine sk_and ((by decide : ∀ y0 : Bool, ((y0 = true) → (y0 = true))) ((((r1.2.2.2.2 : Int) == 0) && r3) && r6)) ?_
  refine sk_and ((by decide : ∀ y0 : Bool, ((y0 = true) → (y0 = true))) (((((r1.2.2.2.2 : Int) == 0) && r3) && r6) && r9)) ?_
  refine sk_and ((by decide : ∀ y0 : Bool, ((y0 = true) → (y0 = true))) (((((r1.2.2.2.2 : Int) == 0) && r3) && r6) && r9)) ?_
  refine sk_leaf ?_
  obtain rfl := some_ h
  exact end_ok [] Try.results12 (ps := [((((((r1.2.2.2.2 : Int) == 0) && r3) && r6) && r9) && ((r1.2.2.2.1 : Int) == 4)) = ((((((r1.2.2.2.2 : Int) == 0) && r3) && r6) && r9) && ((r1.2.2.2.1 : Int) == 4))]) (by as_aux_lemma => kernel_rfl) ⟨rfl, trivial⟩ (fun _ => ⟨rfl, by simp⟩)

set_option maxRecDepth 100000 in
theorem slices_Clone_api_WorkOp_ok (a0 r : List Api_WorkOp) (h : slices_Clone_api_WorkOp a0 = some r) {al : Bool} : PCalls Try.prog 14 [.pv (E40.ro a0)] al (.row 0 2 0 r.length) [.row 40 2 (E40.cR r)] := by
  unfold slices_Clone_api_WorkOp at h
  obtain ⟨g, h⟩ := if_ h
  obtain rfl := some_ h
  refine fn_ok tabOk Try.func14 (by as_aux_lemma => kernel_rfl) (by as_aux_lemma => kernel_rfl) Try.ntmps14 (by simp) ?_
  refine segs [1] tabOk mixed 4000 (S := .leaf 0) (by as_aux_lemma => kernel_rfl) ?_
  refine sk_leaf ?_
  refine nil_ok (d1 := 3) (d2 := 4) (s := 2) (n := a0.length) (c := fun i j => E40.cf (a0.getD i E40.z) j) tabOk (by as_aux_lemma => kernel_rfl) ?_
  intro b hb
  refine segs [] tabOk mixed 4000 (S := .br b (.leaf 0) (.leaf 1)) (by as_aux_lemma => kernel_rfl) ?_
  refine sk_br ?_ ?_ <;> intro hc <;> refine sk_leaf ?_
  · obtain rfl : a0 = [] := List.eq_nil_of_length_eq_zero (hb hc)
    exact end_ok [(0, none)] Try.results14 (ps := [0 = 0, 0 = 0, E40.cR [] = []]) (by as_aux_lemma => kernel_rfl) ⟨rfl, rfl, rfl, trivial⟩ (fun _ => ⟨rfl, by simp only [List.mem_cons, List.not_mem_nil, or_false, forall_eq]; exact Elem.cR_bald E40_raw _⟩)
  · refine bs_ok (d := 5) (e := 40) (s := 2) (n := 0) (cs := []) (cs' := E40.cR []) (by as_aux_lemma => kernel_rfl) rfl (by as_aux_lemma => kernel_rfl) ?_
    refine segs [] tabOk mixed 4000 (S := .leaf 0) (by as_aux_lemma => kernel_rfl) ?_
    refine sk_leaf ?_
    refine app_ok (d := 7) (e := 40) (s := 2) (b := 16) (x := .row 16464 2 0 0) (y := .pv (E40.ro a0)) E40 (xs := []) (ys := a0) (by as_aux_lemma => kernel_rfl) rfl (.row 16464 [] 0 rfl (by as_aux_lemma => kernel_rfl)) (.ro a0) ⟨by simpa using g, by simp; omega⟩ (by as_aux_lemma => kernel_rfl) ?_
    refine segs [] tabOk mixed 4000 (S := .leaf 0) (by as_aux_lemma => kernel_rfl) ?_
    refine sk_leaf ?_
    exact end_ok [(0, some 16496)] Try.results14 (ps := [0 = 0, a0.length = a0.length, E40.cR a0 = E40.cR a0, AllPv (E40.cR a0)]) (by as_aux_lemma => kernel_rfl) ⟨rfl, rfl, rfl, Elem.cR_pv _ _, trivial⟩ (fun _ => ⟨rfl, by simp only [List.mem_cons, List.not_mem_nil, or_false, forall_eq]; exact Elem.cR_bald E40_raw _⟩)

set_option maxHeartbeats 40000000 in
set_option maxRecDepth 100000 in
theorem keep_WorkCancelled_1_ok (a0 : Int) (a1 : Int) (r : Bool) (h : keep_WorkCancelled_1 a0 a1 = some r) {al : Bool} : PCalls Try.prog 17 [.pv (.raw (.int .i64 a0)), .roat 1 (fun j => E3.cf a1 j)] al (.pv (.raw (.bool r))) [] := by
  unfold keep_WorkCancelled_1 at h
  refine fn_ok tabOk Try.func17 (by as_aux_lemma => kernel_rfl) (by as_aux_lemma => kernel_rfl) Try.ntmps17 (by simp) ?_
  refine segs [] tabOk mixed 4000 (S := .leaf 0) (by as_aux_lemma => kernel_rfl) ?_
  refine sk_leaf ?_
  obtain rfl := some_ h
  exact end_ok [] Try.results17 (ps := [((a0 : Int) == a1) = ((a0 : Int) == a1)]) (by as_aux_lemma => kernel_rfl) ⟨rfl, trivial⟩ (fun _ => ⟨rfl, by simp⟩)

set_option maxHeartbeats 40000000 in
set_option maxRecDepth 100000 in
theorem slices_IndexFunc_int_keep_WorkCancelled_1_ok (a0 : (List Int)) (a1 : Int) (r : Int) (h : slices_IndexFunc_int_keep_WorkCancelled_1 a0 a1 = some r) {al : Bool} : PCalls Try.prog 41 [.pv ((E3.ro a0)), .fn 17 [.roat 1 (fun j => E3.cf a1 j)]] al (.pv (.raw (.int .i64 r))) [] := by
  unfold slices_IndexFunc_int_keep_WorkCancelled_1 at h
  refine fn_ok tabOk Try.func41 (by as_aux_lemma => kernel_rfl) (by as_aux_lemma => kernel_rfl) Try.ntmps41 (by simp) ?_
  refine segs [] tabOk mixed 4000 (S := .leaf 0) (by as_aux_lemma => kernel_rfl) ?_
  refine sk_leaf ?_
  refine len_ro (by as_aux_lemma => kernel_rfl) 0 (s := 1) (n := a0.length) (c := fun i j => E3.cf (a0.getD i E3.z) j) (by as_aux_lemma => kernel_rfl) ?_; intro hl1_0
  replace h : (fun (x : Nat × Nat) => slices_IndexFunc_int_keep_WorkCancelled_1_l1 a0 a1 x.1 x.2 = some r) (FUEL, 0) := h
  refine loop_ok (by as_aux_lemma => kernel_rfl) (X := Nat × Nat) (fun x => slices_IndexFunc_int_keep_WorkCancelled_1_l1 a0 a1 x.1 x.2 = some r) (fun x => x.1) (fun x => mk 19 [(0, .pv ((E3.ro a0))), (1, .fn 17 [.roat 1 (fun j => E3.cf a1 j)]), (4, .pv (.raw (.int .i64 0))), (7, .pv (.raw (.int .i64 ((a0.length : Nat) : Int)))), (8, .pv (.raw (.int .i64 ((x.2 : Nat) : Int))))] []) (FUEL, 0) h ?_ ?_
  · exact sub_ok (ρ := []) (l := [a0.length = a0.length, ∀ i, i < a0.length → ∀ j, j < 1 → E3.cf (a0.getD i E3.z) j = E3.cf (a0.getD i E3.z) j, (a1 : Int) = a1, (0 : Int) = 0, (((a0.length : Nat) : Int) : Int) = ((a0.length : Nat) : Int), (0 : Int) = ((0 : Nat) : Int)]) (by as_aux_lemma => kernel_rfl) ⟨rfl, fun _ _ _ _ => rfl, rfl, rfl, rfl, (by first | rfl | simp), trivial⟩
  · clear h; rintro ⟨n1, k1⟩ h p1 hp1
    obtain _ | n1 := n1
    · cases (show (none : Option (Int)) = some r from h)
    have h : slices_IndexFunc_int_keep_WorkCancelled_1_l1 a0 a1 (n1 + 1) k1 = some r := h
    unfold slices_IndexFunc_int_keep_WorkCancelled_1_l1 at h
    refine segs [] tabOk mixed 4000 (S := .br (decide ((((k1 : Nat) : Int) : Int) < ((a0.length : Nat) : Int))) (.and (0 ≤ (((k1 : Nat) : Int) : Int) ∧ ((k1 : Nat) : Int) < ((a0.length : Nat) : Int)) (.leaf 0)) (.leaf 1)) (by as_aux_lemma => kernel_rfl) ?_
    refine br_ h ?_ ?_ <;> clear h <;> intro c2 h
    · refine sk_and ⟨Int.natCast_nonneg _, of_decide_eq_true c2⟩ ?_
      refine sk_leaf ?_
      obtain ⟨r4, e5, h⟩ := bd_ h
      refine call_ok (d := some 16) (fn := 17) (ax := [.pv (.raw (.int .i64 (a0.getD k1 0))), .roat 1 (fun j => E3.cf a1 j)]) (args := [.pv (.raw (.int .i64 (a0.getD k1 0))), .roat 1 (fun j => E3.cf a1 j)]) (ps := [((a0.getD k1 0) : Int) = (a0.getD k1 0), (a1 : Int) = a1]) (hb' := []) (by as_aux_lemma => kernel_rfl) (keep_WorkCancelled_1_ok _ _ _ e5 (al := false)) (by as_aux_lemma => kernel_rfl) ⟨rfl, rfl, trivial⟩ (fun hx => by cases hx) (by simp) rfl (by as_aux_lemma => kernel_rfl) ?_
      refine segs [] tabOk mixed 4000 (S := .br r4 (.leaf 0) (.leaf 1)) (by as_aux_lemma => kernel_rfl) ?_
      refine br_ h ?_ ?_ <;> clear h <;> intro c6 h
      · refine sk_leaf ?_
        obtain rfl := some_ h
        exact end_ok [] Try.results41 (ps := [(((k1 : Nat) : Int) : Int) = ((k1 : Nat) : Int)]) (by as_aux_lemma => kernel_rfl) ⟨rfl, trivial⟩ (fun _ => ⟨rfl, by simp⟩)
      · refine sk_leaf ?_
        refine back_ok (p := p1) (by as_aux_lemma => kernel_rfl) (hp1 (n1, k1 + 1) _ h (Nat.lt_succ_self n1) ?_)
        exact sub_ok (ρ := []) (l := [a0.length = a0.length, ∀ i, i < a0.length → ∀ j, j < 1 → E3.cf (a0.getD i E3.z) j = E3.cf (a0.getD i E3.z) j, (a1 : Int) = a1, (0 : Int) = 0, (((a0.length : Nat) : Int) : Int) = ((a0.length : Nat) : Int), ((IntKind.i64.wrap (((k1 : Nat) : Int) + 1)) : Int) = (((k1 + 1) : Nat) : Int)]) (by as_aux_lemma => kernel_rfl) ⟨rfl, fun _ _ _ _ => rfl, rfl, rfl, rfl, (wrap_nat (Int.ofNat_lt.1 (of_decide_eq_true c2)) (by omega)), trivial⟩
    · refine sk_leaf ?_
      obtain rfl := some_ h
      exact end_ok [] Try.results41 (ps := [((-1) : Int) = (-1)]) (by as_aux_lemma => kernel_rfl) ⟨rfl, trivial⟩ (fun _ => ⟨rfl, by simp⟩)

set_option maxHeartbeats 40000000 in
set_option maxRecDepth 100000 in
theorem slices_DeleteFunc_int_keep_WorkCancelled_1_h0_ok (a0 : (List Int)) (a1 : Int) (r : (List Int)) (h : slices_DeleteFunc_int_keep_WorkCancelled_1_h0 a0 a1 = some r) {al : Bool} : MCalls Try.prog 15 [.row 0 1 0 a0.length, .fn 17 [.roat 1 (fun j => E3.cf a1 j)]] [.row 3 1 (E3.cR a0)] 0 al (.row 0 1 0 r.length) [.row 3 1 (E3.cR r)] := by
  unfold slices_DeleteFunc_int_keep_WorkCancelled_1_h0 at h
  refine fnM_ok tabOk (fz := []) Try.func15 (by as_aux_lemma => kernel_rfl) (by as_aux_lemma => kernel_rfl) Try.ntmps15 (by simp) (by simp) ?_
  refine segs [] tabOk mixed 4000 (S := .leaf 0) (by as_aux_lemma => kernel_rfl) ?_
  refine sk_leaf ?_
  obtain ⟨r1, e2, h⟩ := bd_ h
  refine call_ok (d := some 10) (fn := 41) (ax := [.row 0 1 0 a0.length, .fn 17 [.roat 1 (fun j => E3.cf a1 j)]]) (args := [.pv ((E3.ro a0)), .fn 17 [.roat 1 (fun j => E3.cf a1 j)]]) (ps := [a0.length = a0.length, rowQ (E3.cR a0) 1 0 a0.length (fun i j => E3.cf (a0.getD i E3.z) j), (a1 : Int) = a1]) (hb' := []) (by as_aux_lemma => kernel_rfl) (slices_IndexFunc_int_keep_WorkCancelled_1_ok _ _ _ e2 (al := false)) (by as_aux_lemma => kernel_rfl) ⟨(by first | rfl | exact Elem.sub_len _ (by omega) | omega | simp | (simp <;> omega)), E3.rowQ_all a0 rfl, rfl, trivial⟩ (fun hx => by cases hx) (by simp) rfl (by as_aux_lemma => kernel_rfl) ?_
  refine segs [] tabOk mixed 4000 (S := .br ((r1 : Int) == (-1)) (.leaf 0) (.leaf 1)) (by as_aux_lemma => kernel_rfl) ?_
  refine br_ h ?_ ?_ <;> clear h <;> intro c3 h
  · refine sk_leaf ?_
    obtain rfl := some_ h
    exact endM_ok [(0, some 0)] Try.results15 (ps := [0 = 0, a0.length = a0.length, E3.cR a0 = E3.cR a0, AllPv (E3.cR a0)]) (by as_aux_lemma => kernel_rfl) ⟨rfl, (by first | rfl | simp), rfl, (Elem.cR_pv _ _), trivial⟩ (fun _ => ⟨rfl, by simp only [List.mem_cons, List.not_mem_nil, or_false, forall_eq_or_imp, forall_eq]; exact Elem.cR_bald E3_raw _⟩)
  · refine sk_leaf ?_
    refine len_row (by as_aux_lemma => kernel_rfl) 0 (e := 3) (s := 1) (n := a0.length) (cs := E3.cR a0) (by as_aux_lemma => kernel_rfl) (Elem.cR_length _ _) ?_; intro hl1_0
    replace h : (fun (x : Nat × Int × Int × List Int) => slices_DeleteFunc_int_keep_WorkCancelled_1_h0_l1 a0 a1 r1 x.1 x.2.1 x.2.2.1 x.2.2.2 = some r) (FUEL, r1, (IntKind.i64.wrap (r1 + 1)), a0) := h
    refine loop_ok (by as_aux_lemma => kernel_rfl) (X := Nat × Int × Int × List Int) (fun x => slices_DeleteFunc_int_keep_WorkCancelled_1_h0_l1 a0 a1 r1 x.1 x.2.1 x.2.2.1 x.2.2.2 = some r) (fun x => x.1) (fun x => mk 42 [(0, .row 0 1 0 x.2.2.2.length), (1, .fn 17 [.roat 1 (fun j => E3.cf a1 j)]), (4, .pv (.raw (.slice none 0 0))), (5, .pv (.raw (.int .i64 x.2.1))), (6, .pv (.raw (.int .i64 x.2.2.1)))] [(0, .row 3 1 (E3.cR x.2.2.2))]) (FUEL, r1, (IntKind.i64.wrap (r1 + 1)), a0) h ?_ ?_
    · exact sub_ok (ρ := [(0, some 0)]) (l := [0 = 0, a0.length = a0.length, (a1 : Int) = a1, (r1 : Int) = r1, ((IntKind.i64.wrap (r1 + 1)) : Int) = (IntKind.i64.wrap (r1 + 1)), E3.cR a0 = E3.cR a0, AllPv (E3.cR a0)]) (by as_aux_lemma => kernel_rfl) ⟨rfl, rfl, rfl, rfl, rfl, rfl, (Elem.cR_pv _ _), trivial⟩
    · clear h; rintro ⟨n1, x4, x5, l6⟩ h p1 hp1
      obtain _ | n1 := n1
      · cases (show (none : Option ((List Int))) = some r from h)
      have h : slices_DeleteFunc_int_keep_WorkCancelled_1_h0_l1 a0 a1 r1 (n1 + 1) x4 x5 l6 = some r := h
      unfold slices_DeleteFunc_int_keep_WorkCancelled_1_h0_l1 at h
      refine segs [] tabOk mixed 4000 (S := .br (decide ((x5 : Int) < ((l6.length : Nat) : Int))) (.and (0 ≤ (x5 : Int) ∧ x5 < ((l6.length : Nat) : Int)) (.leaf 0)) (.and (0 ≤ (x4 : Int)) (.and ((Int.toNat x4) ≤ l6.length) (.leaf 1)))) (by as_aux_lemma => kernel_rfl) ?_
      refine br_ h ?_ ?_ <;> clear h <;> intro c7 h
      · refine gd_ h ?_; clear h; intro g8 h
        refine sk_leaf ?_
        refine ld_ok (d := 25) (id := 0) (i := (0 + (Int.toNat x5))) (j := 0) (e := 3) (n := 1) E3 (xs := l6) (by as_aux_lemma => kernel_rfl) (by as_aux_lemma => kernel_rfl) (by first | omega | (simp at * <;> omega) | (simp_all <;> omega)) (by exact Nat.le_of_ble_eq_true rfl) ?_
        refine segs [] tabOk mixed 4000 (S := .leaf 0) (by as_aux_lemma => kernel_rfl) ?_
        refine sk_leaf ?_
        obtain ⟨r9, e10, h⟩ := bd_ h
        refine call_ok (d := some 28) (fn := 17) (ax := [.pv (.raw (.int .i64 (l6.getD (0 + (Int.toNat x5)) 0))), .roat 1 (fun j => E3.cf a1 j)]) (args := [.pv (.raw (.int .i64 (l6.getD (0 + (Int.toNat x5)) 0))), .roat 1 (fun j => E3.cf a1 j)]) (ps := [((l6.getD (0 + (Int.toNat x5)) 0) : Int) = (l6.getD (0 + (Int.toNat x5)) 0), (a1 : Int) = a1]) (hb' := []) (by as_aux_lemma => kernel_rfl) (keep_WorkCancelled_1_ok _ _ _ e10 (al := false)) (by as_aux_lemma => kernel_rfl) ⟨rfl, rfl, trivial⟩ (fun hx => by cases hx) (by simp) rfl (by as_aux_lemma => kernel_rfl) ?_
        refine segs [] tabOk mixed 4000 (S := .br (!r9) (.and (0 ≤ (x4 : Int) ∧ x4 < ((l6.length : Nat) : Int)) (.leaf 0)) (.leaf 1)) (by as_aux_lemma => kernel_rfl) ?_
        refine br_ h ?_ ?_ <;> clear h <;> intro c11 h
        · refine gd_ h ?_; clear h; intro g12 h
          refine sk_leaf ?_
          refine st_ok (id := 0) (i := (0 + (Int.toNat x4))) (j := 0) (e := 3) (vs := [.pv (.raw (.int .i64 (l6.getD (0 + (Int.toNat x5)) 0)))]) E3 (xs := l6) (l6.getD (0 + (Int.toNat x5)) 0) (by as_aux_lemma => kernel_rfl) (by as_aux_lemma => kernel_rfl) (by first | omega | (simp at * <;> omega) | (simp_all <;> omega)) (by exact Nat.le_of_ble_eq_true rfl) rfl ?_
          refine segs [] tabOk mixed 4000 (S := .leaf 0) (by as_aux_lemma => kernel_rfl) ?_
          refine sk_leaf ?_
          refine back_ok (p := p1) (by as_aux_lemma => kernel_rfl) (hp1 (n1, (IntKind.i64.wrap (x4 + 1)), (IntKind.i64.wrap (x5 + 1)), (l6.set (0 + (Int.toNat x4)) (l6.getD (0 + (Int.toNat x5)) 0))) _ h (Nat.lt_succ_self n1) ?_)
          exact sub_ok (ρ := [(0, some 0)]) (l := [0 = 0, l6.length = ((l6.set (0 + (Int.toNat x4)) (l6.getD (0 + (Int.toNat x5)) 0)).length), (a1 : Int) = a1, ((IntKind.i64.wrap (x4 + 1)) : Int) = (IntKind.i64.wrap (x4 + 1)), ((IntKind.i64.wrap (x5 + 1)) : Int) = (IntKind.i64.wrap (x5 + 1)), E3.cR (l6.set (0 + (Int.toNat x4)) (l6.getD (0 + (Int.toNat x5)) 0)) = E3.cR (l6.set (0 + (Int.toNat x4)) (l6.getD (0 + (Int.toNat x5)) 0)), AllPv (E3.cR (l6.set (0 + (Int.toNat x4)) (l6.getD (0 + (Int.toNat x5)) 0)))]) (by as_aux_lemma => kernel_rfl) ⟨rfl, (by first | rfl | (simp; done) | omega | (simp <;> omega)), rfl, rfl, rfl, rfl, (Elem.cR_pv _ _), trivial⟩
        · refine sk_leaf ?_
          refine back_ok (p := p1) (by as_aux_lemma => kernel_rfl) (hp1 (n1, x4, (IntKind.i64.wrap (x5 + 1)), l6) _ h (Nat.lt_succ_self n1) ?_)
          exact sub_ok (ρ := [(0, some 0)]) (l := [0 = 0, l6.length = l6.length, (a1 : Int) = a1, (x4 : Int) = x4, ((IntKind.i64.wrap (x5 + 1)) : Int) = (IntKind.i64.wrap (x5 + 1)), E3.cR l6 = E3.cR l6, AllPv (E3.cR l6)]) (by as_aux_lemma => kernel_rfl) ⟨rfl, rfl, rfl, rfl, rfl, rfl, (Elem.cR_pv _ _), trivial⟩
      · refine gd_ h ?_; clear h; intro g13 h
        refine gd_ h ?_; clear h; intro g14 h
        refine sk_leaf ?_
        obtain ⟨g15, h⟩ := if_ h
        refine cl_ok (s := 1) (id := 0) (e := 3) (off := (0 + (Int.toNat x4))) (len := (l6.length - (Int.toNat x4))) E3 (xs := l6) (by as_aux_lemma => kernel_rfl) rfl rfl (by as_aux_lemma => kernel_rfl) g15 ?_
        refine segs [] tabOk mixed 4000 (S := .and (0 ≤ (x4 : Int)) (.and ((Int.toNat x4) ≤ l6.length) (.leaf 0))) (by as_aux_lemma => kernel_rfl) ?_
        refine gd_ h ?_; clear h; intro g16 h
        refine gd_ h ?_; clear h; intro g17 h
        refine sk_leaf ?_
        obtain rfl := some_ h
        exact endR_ok E3 (xs := (cpL l6 (0 + (Int.toNat x4)) (l6.length - (Int.toNat x4)) (List.replicate (l6.length - (Int.toNat x4)) (0 : Int)))) 0 (0 + 0) 17056 ((Int.toNat x4) - 0) 3 1 rfl (by as_aux_lemma => kernel_rfl) (by first | omega | (simp at * <;> omega) | (simp_all <;> omega)) (by as_aux_lemma => kernel_rfl) [(0, some 17056)] Try.results15 (ps := [0 = 0, ((Int.toNat x4) - 0) = (((cpL l6 (0 + (Int.toNat x4)) (l6.length - (Int.toNat x4)) (List.replicate (l6.length - (Int.toNat x4)) (0 : Int))).drop (0 + 0)).take ((Int.toNat x4) - 0)).length, E3.cR (((cpL l6 (0 + (Int.toNat x4)) (l6.length - (Int.toNat x4)) (List.replicate (l6.length - (Int.toNat x4)) (0 : Int))).drop (0 + 0)).take ((Int.toNat x4) - 0)) = E3.cR (((cpL l6 (0 + (Int.toNat x4)) (l6.length - (Int.toNat x4)) (List.replicate (l6.length - (Int.toNat x4)) (0 : Int))).drop (0 + 0)).take ((Int.toNat x4) - 0)), AllPv (E3.cR (((cpL l6 (0 + (Int.toNat x4)) (l6.length - (Int.toNat x4)) (List.replicate (l6.length - (Int.toNat x4)) (0 : Int))).drop (0 + 0)).take ((Int.toNat x4) - 0)))]) (by as_aux_lemma => kernel_rfl) ⟨rfl, (by first | omega | (simp; done) | (simp <;> omega) | (simp at * <;> omega)), rfl, (Elem.cR_pv _ _), trivial⟩ (fun _ => ⟨rfl, by simp only [List.mem_cons, List.not_mem_nil, or_false, forall_eq_or_imp, forall_eq]; exact Elem.cR_bald E3_raw _⟩)

set_option maxHeartbeats 40000000 in
set_option maxRecDepth 100000 in
theorem keep_WorkCancelled_ok (a0 : (List Api_WorkOp)) (a1 : Int) (r : Bool) (h : keep_WorkCancelled a0 a1 = some r) {al : Bool} : PCalls Try.prog 5 [.pv ((E40.ro a0)), .pv (.raw (.int .i64 a1))] al (.pv (.raw (.bool r))) [] := by
  unfold keep_WorkCancelled at h
  refine fnZ_ok tabOk [15] Try.func5 (by as_aux_lemma => kernel_rfl) (by as_aux_lemma => kernel_rfl) Try.ntmps5 (by simp) ?_
  refine segs [] tabOk mixed 4000 (S := .leaf 0) (by as_aux_lemma => kernel_rfl) ?_
  refine sk_leaf ?_
  obtain ⟨r1, e2, h⟩ := bd_ h
  refine call_ok (d := some 16) (fn := 12) (ax := []) (args := []) (ps := []) (hb' := []) (by as_aux_lemma => kernel_rfl) (keep_alive12_ok  _ e2 (al := true)) (by as_aux_lemma => kernel_rfl) trivial (fun _ => (by as_aux_lemma => kernel_rfl)) (by simp) rfl (by as_aux_lemma => kernel_rfl) ?_
  refine segs [] tabOk mixed 4000 (S := .br (!r1) (.leaf 0) (.leaf 1)) (by as_aux_lemma => kernel_rfl) ?_
  refine br_ h ?_ ?_ <;> clear h <;> intro c3 h
  · refine sk_leaf ?_
    obtain rfl := some_ h
    exact end_ok [] Try.results5 (ps := [false = false]) (by as_aux_lemma => kernel_rfl) ⟨rfl, trivial⟩ (fun _ => ⟨rfl, by simp⟩)
  · refine sk_leaf ?_
    obtain ⟨r4, e5, h⟩ := bd_ h
    refine call_ok (d := some 20) (fn := 13) (ax := [.pv ((E40.ro a0))]) (args := [.pv ((E40.ro a0))]) (ps := [a0.length = a0.length, ∀ i, i < a0.length → ∀ j, j < 2 → E40.cf (a0.getD i E40.z) j = E40.cf (a0.getD i E40.z) j]) (hb' := [.row 31 1 (E31.cR r4.1), .row 3 1 (E3.cR r4.2.1), .row 3 1 (E3.cR r4.2.2.1)]) (by as_aux_lemma => kernel_rfl) (work_Play_ok _ _ e5 (al := true)) (by as_aux_lemma => kernel_rfl) ⟨rfl, fun _ _ _ _ => rfl, trivial⟩ (fun _ => (by as_aux_lemma => kernel_rfl)) (by simp) (by simp only [List.map_cons, List.map_nil, Elem.row_up, up_map]) (by as_aux_lemma => kernel_rfl) ?_
    refine segs [] tabOk mixed 4000 (S := .leaf 0) (by as_aux_lemma => kernel_rfl) ?_
    refine sk_leaf ?_
    obtain ⟨r6, e7, h⟩ := bd_ h
    refine call_ok (d := some 28) (fn := 14) (ax := [.pv ((E40.ro a0))]) (args := [.pv ((E40.ro a0))]) (ps := [a0.length = a0.length, ∀ i, i < a0.length → ∀ j, j < 2 → E40.cf (a0.getD i E40.z) j = E40.cf (a0.getD i E40.z) j]) (hb' := [.row 40 2 (E40.cR r6)]) (by as_aux_lemma => kernel_rfl) (slices_Clone_api_WorkOp_ok _ _ e7 (al := true)) (by as_aux_lemma => kernel_rfl) ⟨rfl, fun _ _ _ _ => rfl, trivial⟩ (fun _ => (by as_aux_lemma => kernel_rfl)) (by simp) (by simp only [List.map_cons, List.map_nil, Elem.row_up, up_map]) (by as_aux_lemma => kernel_rfl) ?_
    refine segs [] tabOk mixed 4000 (S := .leaf 0) (by as_aux_lemma => kernel_rfl) ?_
    refine sk_leaf ?_
    refine bs_ok (d := 31) (e := 40) (s := 2) (n := 1) (cs := [.pv (.raw (.int .i64 4)), .pv (.raw (.int .i64 a1))]) (cs' := E40.cR [(⟨4, a1⟩ : Api_WorkOp)]) (by as_aux_lemma => kernel_rfl) rfl (by as_aux_lemma => kernel_rfl) ?_
    refine segs [] tabOk mixed 4000 (S := .leaf 0) (by as_aux_lemma => kernel_rfl) ?_
    refine sk_leaf ?_
    obtain ⟨g8, h⟩ := if_ h
    refine app_ok (d := 32) (e := 40) (s := 2) (b := 16) (x := .row 16832 2 0 r6.length) (y := .row 16880 2 0 1) E40 (xs := r6) (ys := [(⟨4, a1⟩ : Api_WorkOp)]) (by as_aux_lemma => kernel_rfl) rfl (.row 16832 r6 r6.length rfl (by as_aux_lemma => kernel_rfl)) (.all 16880 40 [(⟨4, a1⟩ : Api_WorkOp)] 1 rfl (by as_aux_lemma => kernel_rfl)) g8 (by as_aux_lemma => kernel_rfl) ?_
    refine segs [] tabOk mixed 4000 (S := .leaf 0) (by as_aux_lemma => kernel_rfl) ?_
    refine sk_leaf ?_
    obtain ⟨r9, e10, h⟩ := bd_ h
    refine call_ok (d := some 33) (fn := 13) (ax := [.row 16896 2 0 ((r6 ++ [(⟨4, a1⟩ : Api_WorkOp)]).length)]) (args := [.pv ((E40.ro (r6 ++ [(⟨4, a1⟩ : Api_WorkOp)])))]) (ps := [((r6 ++ [(⟨4, a1⟩ : Api_WorkOp)]).length) = (r6 ++ [(⟨4, a1⟩ : Api_WorkOp)]).length, rowQ (E40.cR (r6 ++ [(⟨4, a1⟩ : Api_WorkOp)])) 2 0 ((r6 ++ [(⟨4, a1⟩ : Api_WorkOp)]).length) (fun i j => E40.cf ((r6 ++ [(⟨4, a1⟩ : Api_WorkOp)]).getD i E40.z) j)]) (hb' := [.row 31 1 (E31.cR r9.1), .row 3 1 (E3.cR r9.2.1), .row 3 1 (E3.cR r9.2.2.1)]) (by as_aux_lemma => kernel_rfl) (work_Play_ok _ _ e10 (al := false)) (by as_aux_lemma => kernel_rfl) ⟨(by first | rfl | exact Elem.sub_len _ (by omega) | omega | simp | (simp <;> omega)), E40.rowQ_all (r6 ++ [(⟨4, a1⟩ : Api_WorkOp)]) rfl, trivial⟩ (fun hx => by cases hx) (by simp) (by simp only [List.map_cons, List.map_nil, Elem.row_up, up_map]) (by as_aux_lemma => kernel_rfl) ?_
    refine segs [] tabOk mixed 4000 (S := .and (((!((r4.2.2.2.2 : Int) != 0)) = true → ((!((r4.2.2.2.2 : Int) != 0)) = true))) (.and (((r4.2.2.2.2 : Int) != 0) = false → (!((r4.2.2.2.2 : Int) != 0)) = true) (.and (((!(((r4.2.2.2.2 : Int) != 0) || ((r9.2.2.2.2 : Int) != 0))) = true → ((!(((r4.2.2.2.2 : Int) != 0) || ((r9.2.2.2.2 : Int) != 0))) = true))) (.and (((!(((r4.2.2.2.2 : Int) != 0) || ((r9.2.2.2.2 : Int) != 0))) = true → ((!(((r4.2.2.2.2 : Int) != 0) || ((r9.2.2.2.2 : Int) != 0))) = true))) (.and (((!(((r4.2.2.2.2 : Int) != 0) || ((r9.2.2.2.2 : Int) != 0))) = true → ((!(((r4.2.2.2.2 : Int) != 0) || ((r9.2.2.2.2 : Int) != 0))) = true))) (.and (((!(((r4.2.2.2.2 : Int) != 0) || ((r9.2.2.2.2 : Int) != 0))) = true → ((!(((r4.2.2.2.2 : Int) != 0) || ((r9.2.2.2.2 : Int) != 0))) = true))) (.and (((!(((r4.2.2.2.2 : Int) != 0) || ((r9.2.2.2.2 : Int) != 0))) = true → ((!(((r4.2.2.2.2 : Int) != 0) || ((r9.2.2.2.2 : Int) != 0))) = true))) (.and ((((r4.2.2.2.2 : Int) != 0) || ((r9.2.2.2.2 : Int) != 0)) = false → (!(((r4.2.2.2.2 : Int) != 0) || ((r9.2.2.2.2 : Int) != 0))) = true) (.br ((((r4.2.2.2.2 : Int) != 0) || ((r9.2.2.2.2 : Int) != 0)) || ((((r9.1.length : Nat) : Int) : Int) != (IntKind.i64.wrap (((a0.length : Nat) : Int) + 1)))) (.and (((!((r4.2.2.2.2 : Int) != 0)) = true → ((!((r4.2.2.2.2 : Int) != 0)) = true))) (.and (((r4.2.2.2.2 : Int) != 0) = false → (!((r4.2.2.2.2 : Int) != 0)) = true) (.leaf 0))) (.leaf 1)))))))))) (by as_aux_lemma => kernel_rfl) ?_
    refine sk_and ((by decide : ∀ y0 : Bool, ((y0 = true) → (y0 = true))) (!((r4.2.2.2.2 : Int) != 0))) ?_
    refine sk_and ((by decide : ∀ y0 : Bool, ((y0 = false) → ((!y0) = true))) ((r4.2.2.2.2 : Int) != 0)) ?_
    refine sk_and ((by decide : ∀ y0 : Bool, ((y0 = true) → (y0 = true))) (!(((r4.2.2.2.2 : Int) != 0) || ((r9.2.2.2.2 : Int) != 0)))) ?_
    refine sk_and ((by decide : ∀ y0 : Bool, ((y0 = true) → (y0 = true))) (!(((r4.2.2.2.2 : Int) != 0) || ((r9.2.2.2.2 : Int) != 0)))) ?_
    refine sk_and ((by decide : ∀ y0 : Bool, ((y0 = true) → (y0 = true))) (!(((r4.2.2.2.2 : Int) != 0) || ((r9.2.2.2.2 : Int) != 0)))) ?_
    refine sk_and ((by decide : ∀ y0 : Bool, ((y0 = true) → (y0 = true))) (!(((r4.2.2.2.2 : Int) != 0) || ((r9.2.2.2.2 : Int) != 0)))) ?_
    refine sk_and ((by decide : ∀ y0 : Bool, ((y0 = true) → (y0 = true))) (!(((r4.2.2.2.2 : Int) != 0) || ((r9.2.2.2.2 : Int) != 0)))) ?_
    refine sk_and ((by decide : ∀ y0 : Bool, ((y0 = false) → ((!y0) = true))) (((r4.2.2.2.2 : Int) != 0) || ((r9.2.2.2.2 : Int) != 0))) ?_
    refine br_ h ?_ ?_ <;> clear h <;> intro c19 h
    · refine sk_and ((by decide : ∀ y0 : Bool, ((y0 = true) → (y0 = true))) (!((r4.2.2.2.2 : Int) != 0))) ?_
      refine sk_and ((by decide : ∀ y0 : Bool, ((y0 = false) → ((!y0) = true))) ((r4.2.2.2.2 : Int) != 0)) ?_
      refine sk_leaf ?_
      obtain rfl := some_ h
      exact end_ok [] Try.results5 (ps := [(((r4.2.2.2.2 : Int) != 0) || ((r9.2.2.2.2 : Int) != 0)) = (((r4.2.2.2.2 : Int) != 0) || ((r9.2.2.2.2 : Int) != 0))]) (by as_aux_lemma => kernel_rfl) ⟨rfl, trivial⟩ (fun _ => ⟨rfl, by simp⟩)
    · refine sk_leaf ?_
      obtain ⟨r22, e23, h⟩ := bd_ h
      refine call_ok (d := some 60) (fn := 16) (ax := [.row 16706 1 0 r4.2.2.1.length]) (args := [.pv ((E3.ro r4.2.2.1))]) (ps := [r4.2.2.1.length = r4.2.2.1.length, rowQ (E3.cR r4.2.2.1) 1 0 r4.2.2.1.length (fun i j => E3.cf (r4.2.2.1.getD i E3.z) j)]) (hb' := [.row 3 1 (E3.cR r22)]) (by as_aux_lemma => kernel_rfl) (slices_Clone_int_ok _ _ e23 (al := false)) (by as_aux_lemma => kernel_rfl) ⟨(by first | rfl | exact Elem.sub_len _ (by omega) | omega | simp | (simp <;> omega)), E3.rowQ_all r4.2.2.1 rfl, trivial⟩ (fun hx => by cases hx) (by simp) (by simp only [List.map_cons, List.map_nil, Elem.row_up, up_map]) (by as_aux_lemma => kernel_rfl) ?_
      refine segs [] tabOk mixed 4000 (S := .leaf 0) (by as_aux_lemma => kernel_rfl) ?_
      refine sk_leaf ?_
      obtain ⟨r24, e25, h⟩ := bd_ h
      refine mcall_ok (d := some 62) (fn := 15) (ax := [.row 17344 1 0 r22.length, .fn 17 [.ptr 16432 0]]) (hs := [(17376, .row 3 1 (E3.cR r24))]) (del := [17344]) (ps := [0 = 0, r22.length = r22.length, (a1 : Int) = a1, E3.cR r22 = E3.cR r22, AllPv (E3.cR r22)]) [(0, some 17344)] (by as_aux_lemma => kernel_rfl) (slices_DeleteFunc_int_keep_WorkCancelled_1_h0_ok _ _ _ e25 (al := false)) (by as_aux_lemma => kernel_rfl) ⟨rfl, rfl, rfl, rfl, (Elem.cR_pv _ _), trivial⟩ (by as_aux_lemma => kernel_rfl) (by simp only [mset_row, mset_box, mset_nil, mset_map, List.set_set]; kernel_rfl) (by as_aux_lemma => kernel_rfl) ?_
      refine segs [] tabOk mixed 4000 (S := .leaf 0) (by as_aux_lemma => kernel_rfl) ?_
      refine sk_leaf ?_
      obtain ⟨r26, e27, h⟩ := bd_ h
      refine call_ok (d := some 65) (fn := 18) (ax := [.row 16913 1 0 r9.2.1.length, .row 16705 1 0 r4.2.1.length]) (args := [.pv ((E3.ro r9.2.1)), .pv ((E3.ro r4.2.1))]) (ps := [r9.2.1.length = r9.2.1.length, rowQ (E3.cR r9.2.1) 1 0 r9.2.1.length (fun i j => E3.cf (r9.2.1.getD i E3.z) j), r4.2.1.length = r4.2.1.length, rowQ (E3.cR r4.2.1) 1 0 r4.2.1.length (fun i j => E3.cf (r4.2.1.getD i E3.z) j)]) (hb' := []) (by as_aux_lemma => kernel_rfl) (slices_Equal_int_ok _ _ _ e27 (al := false)) (by as_aux_lemma => kernel_rfl) ⟨(by first | rfl | exact Elem.sub_len _ (by omega) | omega | simp | (simp <;> omega)), E3.rowQ_all r9.2.1 rfl, (by first | rfl | exact Elem.sub_len _ (by omega) | omega | simp | (simp <;> omega)), E3.rowQ_all r4.2.1 rfl, trivial⟩ (fun hx => by cases hx) (by simp) rfl (by as_aux_lemma => kernel_rfl) ?_
      refine segs [] tabOk mixed 4000 (S := .and ((r26 = true → (r26 = true))) (.and ((r26 = true → (r26 = true))) (.and (r26 = true → r26 = true) (.leaf 0)))) (by as_aux_lemma => kernel_rfl) ?_
      refine sk_and ((by decide : ∀ y0 : Bool, ((y0 = true) → (y0 = true))) r26) ?_
      refine sk_and ((by decide : ∀ y0 : Bool, ((y0 = true) → (y0 = true))) r26) ?_
      refine sk_and ((by decide : ∀ y0 : Bool, ((y0 = true) → (y0 = true))) r26) ?_
      refine sk_leaf ?_
      obtain ⟨r31, e32, h⟩ := bd_ h
      refine callG_ok (d := some 74) (fn := 18) (ax := [.row 16914 1 0 r9.2.2.1.length, .row 17376 1 0 r24.length]) (args := [.pv ((E3.ro r9.2.2.1)), .pv ((E3.ro r24))]) (g := (r26 && ((r9.2.2.2.1 : Int) == r4.2.2.2.1))) (ws := [(r26 && ((r9.2.2.2.1 : Int) == r4.2.2.2.1)) = true, (r26 && ((r9.2.2.2.1 : Int) == r4.2.2.2.1)) = true]) (ps := [r9.2.2.1.length = r9.2.2.1.length, rowQ (E3.cR r9.2.2.1) 1 0 r9.2.2.1.length (fun i j => E3.cf (r9.2.2.1.getD i E3.z) j), r24.length = r24.length, rowQ (E3.cR r24) 1 0 r24.length (fun i j => E3.cf (r24.getD i E3.z) j)]) (by as_aux_lemma => kernel_rfl) (fun hg => ⟨((by decide : ∀ y0 : Bool, ((y0 = true) → (y0 = true))) (r26 && ((r9.2.2.2.1 : Int) == r4.2.2.2.1))) hg, ((by decide : ∀ y0 : Bool, ((y0 = true) → (y0 = true))) (r26 && ((r9.2.2.2.1 : Int) == r4.2.2.2.1))) hg, trivial⟩) (fun hg => slices_Equal_int_ok _ _ _ (by rw [hg] at e32; exact e32) (al := false)) (by as_aux_lemma => kernel_rfl) (fun hg => ⟨(by first | rfl | exact Elem.sub_len _ (by omega) | omega | simp | (simp <;> omega)), E3.rowQ_all r9.2.2.1 rfl, (by first | rfl | exact Elem.sub_len _ (by omega) | omega | simp | (simp <;> omega)), E3.rowQ_all r24 rfl, trivial⟩) (fun hx => by cases hx) ?_
      refine segs [] tabOk mixed 4000 (S := .and ((r26 && ((r9.2.2.2.1 : Int) == r4.2.2.2.1)) = true → (r26 && ((r9.2.2.2.1 : Int) == r4.2.2.2.1)) = true) (.and ((((r26 && ((r9.2.2.2.1 : Int) == r4.2.2.2.1)) && r31) = true → (((r26 && ((r9.2.2.2.1 : Int) == r4.2.2.2.1)) && r31) = true))) (.and ((((r26 && ((r9.2.2.2.1 : Int) == r4.2.2.2.1)) && r31) = true → (((r26 && ((r9.2.2.2.1 : Int) == r4.2.2.2.1)) && r31) = true))) (.and ((((r26 && ((r9.2.2.2.1 : Int) == r4.2.2.2.1)) && r31) = true → (((r26 && ((r9.2.2.2.1 : Int) == r4.2.2.2.1)) && r31) = true))) (.and ((((r26 && ((r9.2.2.2.1 : Int) == r4.2.2.2.1)) && r31) = true → (0 ≤ (((a0.length : Nat) : Int) : Int) ∧ ((a0.length : Nat) : Int) < ((r9.1.length : Nat) : Int)))) (.leaf 0)))))) (by as_aux_lemma => kernel_rfl) ?_
      refine sk_and ((by decide : ∀ y0 : Bool, ((y0 = true) → (y0 = true))) (r26 && ((r9.2.2.2.1 : Int) == r4.2.2.2.1))) ?_
      refine sk_and ((by decide : ∀ y0 : Bool, ((y0 = true) → (y0 = true))) ((r26 && ((r9.2.2.2.1 : Int) == r4.2.2.2.1)) && r31)) ?_
      refine sk_and ((by decide : ∀ y0 : Bool, ((y0 = true) → (y0 = true))) ((r26 && ((r9.2.2.2.1 : Int) == r4.2.2.2.1)) && r31)) ?_
      refine sk_and ((by decide : ∀ y0 : Bool, ((y0 = true) → (y0 = true))) ((r26 && ((r9.2.2.2.1 : Int) == r4.2.2.2.1)) && r31)) ?_
      refine gd_ h ?_; clear h; intro g37 h
      refine sk_leaf ?_
      refine ldG_ok (d := 81) (id := 16912) (i := (0 + a0.length)) (j := 0) (e := 31) (n := 1) (g := ((r26 && ((r9.2.2.2.1 : Int) == r4.2.2.2.1)) && r31)) (ws := [((r26 && ((r9.2.2.2.1 : Int) == r4.2.2.2.1)) && r31) = true]) E31 (xs := r9.1) (by as_aux_lemma => kernel_rfl) (fun hg => ⟨((by decide : ∀ y0 : Bool, ((y0 = true) → (y0 = true))) ((r26 && ((r9.2.2.2.1 : Int) == r4.2.2.2.1)) && r31)) hg, trivial⟩) (by as_aux_lemma => kernel_rfl) (fun hg => (by first | omega | (simp at * <;> omega) | (simp_all <;> omega))) (by exact Nat.le_of_ble_eq_true rfl) ?_
      refine segs [] tabOk mixed 4000 (S := .and ((((r26 && ((r9.2.2.2.1 : Int) == r4.2.2.2.1)) && r31) = true → (((r26 && ((r9.2.2.2.1 : Int) == r4.2.2.2.1)) && r31) = true))) (.leaf 0)) (by as_aux_lemma => kernel_rfl) ?_
      refine sk_and ((by decide : ∀ y0 : Bool, ((y0 = true) → (y0 = true))) ((r26 && ((r9.2.2.2.1 : Int) == r4.2.2.2.1)) && r31)) ?_
      refine sk_leaf ?_
      obtain ⟨r39, e40, h⟩ := bd_ h
      refine callG_ok (d := some 85) (fn := 19) (ax := [.row 16706 1 0 r4.2.2.1.length, .pv (.raw (.int .i64 a1))]) (args := [.pv ((E3.ro r4.2.2.1)), .pv (.raw (.int .i64 a1))]) (g := ((r26 && ((r9.2.2.2.1 : Int) == r4.2.2.2.1)) && r31)) (ws := [((r26 && ((r9.2.2.2.1 : Int) == r4.2.2.2.1)) && r31) = true, ((r26 && ((r9.2.2.2.1 : Int) == r4.2.2.2.1)) && r31) = true]) (ps := [r4.2.2.1.length = r4.2.2.1.length, rowQ (E3.cR r4.2.2.1) 1 0 r4.2.2.1.length (fun i j => E3.cf (r4.2.2.1.getD i E3.z) j), (a1 : Int) = a1]) (by as_aux_lemma => kernel_rfl) (fun hg => ⟨((by decide : ∀ y0 : Bool, ((y0 = true) → (y0 = true))) ((r26 && ((r9.2.2.2.1 : Int) == r4.2.2.2.1)) && r31)) hg, ((by decide : ∀ y0 : Bool, ((y0 = true) → (y0 = true))) ((r26 && ((r9.2.2.2.1 : Int) == r4.2.2.2.1)) && r31)) hg, trivial⟩) (fun hg => slices_Contains_int_ok _ _ _ (by rw [hg] at e40; exact e40) (al := false)) (by as_aux_lemma => kernel_rfl) (fun hg => (by have q0 := g37 hg; exact ⟨(by first | rfl | exact Elem.sub_len _ (by omega) | omega | simp | (simp <;> omega)), E3.rowQ_all r4.2.2.1 rfl, rfl, trivial⟩)) (fun hx => by cases hx) ?_
      refine segs [] tabOk mixed 4000 (S := .and ((((r26 && ((r9.2.2.2.1 : Int) == r4.2.2.2.1)) && r31) = true → (((r26 && ((r9.2.2.2.1 : Int) == r4.2.2.2.1)) && r31) = true))) (.and ((((r26 && ((r9.2.2.2.1 : Int) == r4.2.2.2.1)) && r31) = true → (((r26 && ((r9.2.2.2.1 : Int) == r4.2.2.2.1)) && r31) = true))) (.and (((r26 && ((r9.2.2.2.1 : Int) == r4.2.2.2.1)) && r31) = true → ((r26 && ((r9.2.2.2.1 : Int) == r4.2.2.2.1)) && r31) = true) (.leaf 0)))) (by as_aux_lemma => kernel_rfl) ?_
      refine sk_and ((by decide : ∀ y0 : Bool, ((y0 = true) → (y0 = true))) ((r26 && ((r9.2.2.2.1 : Int) == r4.2.2.2.1)) && r31)) ?_
      refine sk_and ((by decide : ∀ y0 : Bool, ((y0 = true) → (y0 = true))) ((r26 && ((r9.2.2.2.1 : Int) == r4.2.2.2.1)) && r31)) ?_
      refine sk_and ((by decide : ∀ y0 : Bool, ((y0 = true) → (y0 = true))) ((r26 && ((r9.2.2.2.1 : Int) == r4.2.2.2.1)) && r31)) ?_
      refine sk_leaf ?_
      obtain rfl := some_ h
      exact end_ok [] Try.results5 (ps := [(((r26 && ((r9.2.2.2.1 : Int) == r4.2.2.2.1)) && r31) && ((((r9.1.getD (0 + a0.length) 0) : Int) == 0) == r39)) = (((r26 && ((r9.2.2.2.1 : Int) == r4.2.2.2.1)) && r31) && ((((r9.1.getD (0 + a0.length) 0) : Int) == 0) == r39))]) (by as_aux_lemma => kernel_rfl) ⟨rfl, trivial⟩ (fun _ => ⟨rfl, by simp⟩)

end Go.Proofs.Ytdfgmloipigmfaa
