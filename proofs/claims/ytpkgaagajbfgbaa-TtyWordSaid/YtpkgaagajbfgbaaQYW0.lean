/- The functions do as their models: printed by program. -/
import Derived.Test.YtpkgaagajbfgbaaQYT
import Derived.Test.YtpkgaagajbfgbaaQYM
import Derived.Test.YtpkgaagajbfgbaaAbYh
set_option linter.unusedSimpArgs false
set_option linter.unusedVariables false
namespace Go.Proofs.Ytpkgaagajbfgbaa
open Go Go.Ab
theorem mixed : Try.prog.follows .mixedOrders = true := by kernel_rfl
def E5 : Elem Int := { s := 1, cf := fun x j => match j with | _ => .raw (.int .u8 x), z := 0 }
theorem E5_raw : E5.Raw := by
  intro x j
  exact ⟨_, rfl⟩
def E24 : Elem (List Int) := { s := 1, cf := fun x j => match j with | _ => (E5.ro x), z := [] }
def E28 : Elem Api_Tty := { s := 2, cf := fun x j => match j with | 0 => (E24.ro x.Lines) | _ => (E5.ro x.Edit), z := (⟨[], []⟩ : Api_Tty) }
attribute [local irreducible] V VS runS Sk.Holds

set_option maxHeartbeats 40000000 in
set_option maxRecDepth 100000 in
theorem tty_Right_1_ok (a0 : (List Int)) (r : Bool) (h : tty_Right_1 a0 = some r) {al : Bool} : PCalls Try.prog 28 [.pv ((E5.ro a0))] al (.pv (.raw (.bool r))) [] := by
  unfold tty_Right_1 at h
  refine fn_ok tabOk Try.func28 (by as_aux_lemma => kernel_rfl) (by as_aux_lemma => kernel_rfl) Try.ntmps28 (by simp) ?_
  refine segs [] tabOk mixed 4000 (S := .leaf 0) (by as_aux_lemma => kernel_rfl) ?_
  refine sk_leaf ?_
  obtain rfl := some_ h
  exact end_ok [] Try.results28 (ps := [(decide ((((a0.length : Nat) : Int) : Int) > 65)) = (decide ((((a0.length : Nat) : Int) : Int) > 65))]) (by as_aux_lemma => kernel_rfl) ⟨rfl, trivial⟩ (fun _ => ⟨rfl, by simp⟩)

set_option maxHeartbeats 40000000 in
set_option maxRecDepth 100000 in
theorem slices_IndexFunc_slbyte_tty_Right_1_ok (a0 : (List (List Int))) (r : Int) (h : slices_IndexFunc_slbyte_tty_Right_1 a0 = some r) {al : Bool} : PCalls Try.prog 33 [.pv ((E24.ro a0)), .fn 28 []] al (.pv (.raw (.int .i64 r))) [] := by
  unfold slices_IndexFunc_slbyte_tty_Right_1 at h
  refine fn_ok tabOk Try.func33 (by as_aux_lemma => kernel_rfl) (by as_aux_lemma => kernel_rfl) Try.ntmps33 (by simp) ?_
  refine segs [] tabOk mixed 4000 (S := .leaf 0) (by as_aux_lemma => kernel_rfl) ?_
  refine sk_leaf ?_
  refine len_ro (by as_aux_lemma => kernel_rfl) 0 (s := 1) (n := a0.length) (c := fun i j => E24.cf (a0.getD i E24.z) j) (by as_aux_lemma => kernel_rfl) ?_; intro hl1_0
  replace h : (fun (x : Nat × Nat) => slices_IndexFunc_slbyte_tty_Right_1_l1 a0 x.1 x.2 = some r) (FUEL, 0) := h
  refine loop_ok (by as_aux_lemma => kernel_rfl) (X := Nat × Nat) (fun x => slices_IndexFunc_slbyte_tty_Right_1_l1 a0 x.1 x.2 = some r) (fun x => x.1) (fun x => mk 19 [(0, .pv ((E24.ro a0))), (1, .fn 28 []), (4, .pv (.raw (.int .i64 0))), (7, .pv (.raw (.int .i64 ((a0.length : Nat) : Int)))), (8, .pv (.raw (.int .i64 ((x.2 : Nat) : Int))))] []) (FUEL, 0) h ?_ ?_
  · exact sub_ok (ρ := []) (l := [a0.length = a0.length, ∀ i, i < a0.length → ∀ j, j < 1 → E24.cf (a0.getD i E24.z) j = E24.cf (a0.getD i E24.z) j, (0 : Int) = 0, (((a0.length : Nat) : Int) : Int) = ((a0.length : Nat) : Int), (0 : Int) = ((0 : Nat) : Int)]) (by as_aux_lemma => kernel_rfl) ⟨rfl, fun _ _ _ _ => rfl, rfl, rfl, (by first | rfl | simp), trivial⟩
  · clear h; rintro ⟨n1, k1⟩ h p1 hp1
    obtain _ | n1 := n1
    · cases (show (none : Option (Int)) = some r from h)
    have h : slices_IndexFunc_slbyte_tty_Right_1_l1 a0 (n1 + 1) k1 = some r := h
    unfold slices_IndexFunc_slbyte_tty_Right_1_l1 at h
    refine segs [] tabOk mixed 4000 (S := .br (decide ((((k1 : Nat) : Int) : Int) < ((a0.length : Nat) : Int))) (.and (0 ≤ (((k1 : Nat) : Int) : Int) ∧ ((k1 : Nat) : Int) < ((a0.length : Nat) : Int)) (.leaf 0)) (.leaf 1)) (by as_aux_lemma => kernel_rfl) ?_
    refine br_ h ?_ ?_ <;> clear h <;> intro c2 h
    · refine sk_and ⟨Int.natCast_nonneg _, of_decide_eq_true c2⟩ ?_
      refine sk_leaf ?_
      obtain ⟨r4, e5, h⟩ := bd_ h
      refine call_ok (d := some 16) (fn := 28) (ax := [.pv ((E5.ro (a0.getD k1 [])))]) (args := [.pv ((E5.ro (a0.getD k1 [])))]) (ps := [(a0.getD k1 []).length = (a0.getD k1 []).length, ∀ i, i < (a0.getD k1 []).length → ∀ j, j < 1 → E5.cf ((a0.getD k1 []).getD i E5.z) j = E5.cf ((a0.getD k1 []).getD i E5.z) j]) (hb' := []) (by as_aux_lemma => kernel_rfl) (tty_Right_1_ok _ _ e5 (al := true)) (by as_aux_lemma => kernel_rfl) ⟨rfl, fun _ _ _ _ => rfl, trivial⟩ (fun _ => (by as_aux_lemma => kernel_rfl)) (by simp) rfl (by as_aux_lemma => kernel_rfl) ?_
      refine segs [] tabOk mixed 4000 (S := .br r4 (.leaf 0) (.leaf 1)) (by as_aux_lemma => kernel_rfl) ?_
      refine br_ h ?_ ?_ <;> clear h <;> intro c6 h
      · refine sk_leaf ?_
        obtain rfl := some_ h
        exact end_ok [] Try.results33 (ps := [(((k1 : Nat) : Int) : Int) = ((k1 : Nat) : Int)]) (by as_aux_lemma => kernel_rfl) ⟨rfl, trivial⟩ (fun _ => ⟨rfl, by simp⟩)
      · refine sk_leaf ?_
        refine back_ok (p := p1) (by as_aux_lemma => kernel_rfl) (hp1 (n1, k1 + 1) _ h (Nat.lt_succ_self n1) ?_)
        exact sub_ok (ρ := []) (l := [a0.length = a0.length, ∀ i, i < a0.length → ∀ j, j < 1 → E24.cf (a0.getD i E24.z) j = E24.cf (a0.getD i E24.z) j, (0 : Int) = 0, (((a0.length : Nat) : Int) : Int) = ((a0.length : Nat) : Int), ((IntKind.i64.wrap (((k1 : Nat) : Int) + 1)) : Int) = (((k1 + 1) : Nat) : Int)]) (by as_aux_lemma => kernel_rfl) ⟨rfl, fun _ _ _ _ => rfl, rfl, rfl, (wrap_nat (Int.ofNat_lt.1 (of_decide_eq_true c2)) (by omega)), trivial⟩
    · refine sk_leaf ?_
      obtain rfl := some_ h
      exact end_ok [] Try.results33 (ps := [((-1) : Int) = (-1)]) (by as_aux_lemma => kernel_rfl) ⟨rfl, trivial⟩ (fun _ => ⟨rfl, by simp⟩)

set_option maxHeartbeats 40000000 in
set_option maxRecDepth 100000 in
theorem slices_ContainsFunc_slbyte_tty_Right_1_ok (a0 : (List (List Int))) (r : Bool) (h : slices_ContainsFunc_slbyte_tty_Right_1 a0 = some r) {al : Bool} : PCalls Try.prog 27 [.pv ((E24.ro a0)), .fn 28 []] al (.pv (.raw (.bool r))) [] := by
  unfold slices_ContainsFunc_slbyte_tty_Right_1 at h
  refine fn_ok tabOk Try.func27 (by as_aux_lemma => kernel_rfl) (by as_aux_lemma => kernel_rfl) Try.ntmps27 (by simp) ?_
  refine segs [] tabOk mixed 4000 (S := .leaf 0) (by as_aux_lemma => kernel_rfl) ?_
  refine sk_leaf ?_
  obtain ⟨r1, e2, h⟩ := bd_ h
  refine call_ok (d := some 7) (fn := 33) (ax := [.pv ((E24.ro a0)), .fn 28 []]) (args := [.pv ((E24.ro a0)), .fn 28 []]) (ps := [a0.length = a0.length, ∀ i, i < a0.length → ∀ j, j < 1 → E24.cf (a0.getD i E24.z) j = E24.cf (a0.getD i E24.z) j]) (hb' := []) (by as_aux_lemma => kernel_rfl) (slices_IndexFunc_slbyte_tty_Right_1_ok _ _ e2 (al := false)) (by as_aux_lemma => kernel_rfl) ⟨rfl, fun _ _ _ _ => rfl, trivial⟩ (fun hx => by cases hx) (by simp) rfl (by as_aux_lemma => kernel_rfl) ?_
  refine segs [] tabOk mixed 4000 (S := .leaf 0) (by as_aux_lemma => kernel_rfl) ?_
  refine sk_leaf ?_
  obtain rfl := some_ h
  exact end_ok [] Try.results27 (ps := [(decide ((r1 : Int) ≥ 0)) = (decide ((r1 : Int) ≥ 0))]) (by as_aux_lemma => kernel_rfl) ⟨rfl, trivial⟩ (fun _ => ⟨rfl, by simp⟩)

set_option maxHeartbeats 40000000 in
set_option maxRecDepth 100000 in
theorem tty_Right_ok (a0 : Api_Tty) (r : Bool) (h : tty_Right a0 = some r) {al : Bool} : PCalls Try.prog 20 [.agg [.pv ((E24.ro a0.Lines)), .pv ((E5.ro a0.Edit))]] al (.pv (.raw (.bool r))) [] := by
  unfold tty_Right at h
  refine fn_ok tabOk Try.func20 (by as_aux_lemma => kernel_rfl) (by as_aux_lemma => kernel_rfl) Try.ntmps20 (by simp) ?_
  refine segs [] tabOk mixed 4000 (S := .and (((decide ((((a0.Edit.length : Nat) : Int) : Int) ≤ 64)) = true → ((decide ((((a0.Edit.length : Nat) : Int) : Int) ≤ 64)) = true))) (.and (((decide ((((a0.Edit.length : Nat) : Int) : Int) ≤ 64)) = true → ((decide ((((a0.Edit.length : Nat) : Int) : Int) ≤ 64)) = true))) (.and (((decide ((((a0.Edit.length : Nat) : Int) : Int) ≤ 64)) = true → ((decide ((((a0.Edit.length : Nat) : Int) : Int) ≤ 64)) = true))) (.and ((decide ((((a0.Edit.length : Nat) : Int) : Int) ≤ 64)) = true → (decide ((((a0.Edit.length : Nat) : Int) : Int) ≤ 64)) = true) (.and ((((decide ((((a0.Edit.length : Nat) : Int) : Int) ≤ 64)) && (decide ((((a0.Lines.length : Nat) : Int) : Int) ≤ 400))) = true → (((decide ((((a0.Edit.length : Nat) : Int) : Int) ≤ 64)) && (decide ((((a0.Lines.length : Nat) : Int) : Int) ≤ 400))) = true))) (.leaf 0)))))) (by as_aux_lemma => kernel_rfl) ?_
  refine sk_and ((by decide : ∀ y0 : Bool, ((y0 = true) → (y0 = true))) (decide ((((a0.Edit.length : Nat) : Int) : Int) ≤ 64))) ?_
  refine sk_and ((by decide : ∀ y0 : Bool, ((y0 = true) → (y0 = true))) (decide ((((a0.Edit.length : Nat) : Int) : Int) ≤ 64))) ?_
  refine sk_and ((by decide : ∀ y0 : Bool, ((y0 = true) → (y0 = true))) (decide ((((a0.Edit.length : Nat) : Int) : Int) ≤ 64))) ?_
  refine sk_and ((by decide : ∀ y0 : Bool, ((y0 = true) → (y0 = true))) (decide ((((a0.Edit.length : Nat) : Int) : Int) ≤ 64))) ?_
  refine sk_and ((by decide : ∀ y0 : Bool, ((y0 = true) → (y0 = true))) ((decide ((((a0.Edit.length : Nat) : Int) : Int) ≤ 64)) && (decide ((((a0.Lines.length : Nat) : Int) : Int) ≤ 400)))) ?_
  refine sk_leaf ?_
  obtain ⟨r6, e7, h⟩ := bd_ h
  refine callG_ok (d := some 16) (fn := 27) (ax := [.pv ((E24.ro a0.Lines)), .fn 28 []]) (args := [.pv ((E24.ro a0.Lines)), .fn 28 []]) (g := ((decide ((((a0.Edit.length : Nat) : Int) : Int) ≤ 64)) && (decide ((((a0.Lines.length : Nat) : Int) : Int) ≤ 400)))) (ws := [((decide ((((a0.Edit.length : Nat) : Int) : Int) ≤ 64)) && (decide ((((a0.Lines.length : Nat) : Int) : Int) ≤ 400))) = true]) (ps := [a0.Lines.length = a0.Lines.length, ∀ i, i < a0.Lines.length → ∀ j, j < 1 → E24.cf (a0.Lines.getD i E24.z) j = E24.cf (a0.Lines.getD i E24.z) j]) (by as_aux_lemma => kernel_rfl) (fun hg => ⟨((by decide : ∀ y0 : Bool, ((y0 = true) → (y0 = true))) ((decide ((((a0.Edit.length : Nat) : Int) : Int) ≤ 64)) && (decide ((((a0.Lines.length : Nat) : Int) : Int) ≤ 400)))) hg, trivial⟩) (fun hg => slices_ContainsFunc_slbyte_tty_Right_1_ok _ _ (by rw [hg] at e7; exact e7) (al := false)) (by as_aux_lemma => kernel_rfl) (fun hg => ⟨rfl, fun _ _ _ _ => rfl, trivial⟩) (fun hx => by cases hx) ?_
  refine segs [] tabOk mixed 4000 (S := .and ((((decide ((((a0.Edit.length : Nat) : Int) : Int) ≤ 64)) && (decide ((((a0.Lines.length : Nat) : Int) : Int) ≤ 400))) = true → (((decide ((((a0.Edit.length : Nat) : Int) : Int) ≤ 64)) && (decide ((((a0.Lines.length : Nat) : Int) : Int) ≤ 400))) = true))) (.and (((decide ((((a0.Edit.length : Nat) : Int) : Int) ≤ 64)) && (decide ((((a0.Lines.length : Nat) : Int) : Int) ≤ 400))) = true → ((decide ((((a0.Edit.length : Nat) : Int) : Int) ≤ 64)) && (decide ((((a0.Lines.length : Nat) : Int) : Int) ≤ 400))) = true) (.leaf 0))) (by as_aux_lemma => kernel_rfl) ?_
  refine sk_and ((by decide : ∀ y0 : Bool, ((y0 = true) → (y0 = true))) ((decide ((((a0.Edit.length : Nat) : Int) : Int) ≤ 64)) && (decide ((((a0.Lines.length : Nat) : Int) : Int) ≤ 400)))) ?_
  refine sk_and ((by decide : ∀ y0 : Bool, ((y0 = true) → (y0 = true))) ((decide ((((a0.Edit.length : Nat) : Int) : Int) ≤ 64)) && (decide ((((a0.Lines.length : Nat) : Int) : Int) ≤ 400)))) ?_
  refine sk_leaf ?_
  obtain rfl := some_ h
  exact end_ok [] Try.results20 (ps := [(((decide ((((a0.Edit.length : Nat) : Int) : Int) ≤ 64)) && (decide ((((a0.Lines.length : Nat) : Int) : Int) ≤ 400))) && (!r6)) = (((decide ((((a0.Edit.length : Nat) : Int) : Int) ≤ 64)) && (decide ((((a0.Lines.length : Nat) : Int) : Int) ≤ 400))) && (!r6))]) (by as_aux_lemma => kernel_rfl) ⟨rfl, trivial⟩ (fun _ => ⟨rfl, by simp⟩)

set_option maxRecDepth 100000 in
theorem slices_Clone_slbyte_ok (a0 r : List (List Int)) (h : slices_Clone_slbyte a0 = some r) : PCalls Try.prog 31 [.pv (E24.ro a0)] true (.row 0 1 0 r.length) [.row 24 1 (E24.cR r)] := by
  unfold slices_Clone_slbyte at h
  obtain ⟨g, h⟩ := if_ h
  obtain rfl := some_ h
  refine fn_ok tabOk Try.func31 (by as_aux_lemma => kernel_rfl) (by as_aux_lemma => kernel_rfl) Try.ntmps31 (by simp) ?_
  refine segs [1] tabOk mixed 4000 (S := .leaf 0) (by as_aux_lemma => kernel_rfl) ?_
  refine sk_leaf ?_
  refine nil_ok (d1 := 3) (d2 := 4) (s := 1) (n := a0.length) (c := fun i j => E24.cf (a0.getD i E24.z) j) tabOk (by as_aux_lemma => kernel_rfl) ?_
  intro b hb
  refine segs [] tabOk mixed 4000 (S := .br b (.leaf 0) (.leaf 1)) (by as_aux_lemma => kernel_rfl) ?_
  refine sk_br ?_ ?_ <;> intro hc <;> refine sk_leaf ?_
  · obtain rfl : a0 = [] := List.eq_nil_of_length_eq_zero (hb hc)
    exact end_ok [(0, none)] Try.results31 (ps := [0 = 0, 0 = 0, E24.cR [] = []]) (by as_aux_lemma => kernel_rfl) ⟨rfl, rfl, rfl, trivial⟩ (fun hx => by cases hx)
  · refine bs_ok (d := 5) (e := 24) (s := 1) (n := 0) (cs := []) (cs' := E24.cR []) (by as_aux_lemma => kernel_rfl) rfl (by as_aux_lemma => kernel_rfl) ?_
    refine segs [] tabOk mixed 4000 (S := .leaf 0) (by as_aux_lemma => kernel_rfl) ?_
    refine sk_leaf ?_
    refine app_ok (d := 7) (e := 24) (s := 1) (b := 24) (x := .row 16464 1 0 0) (y := .pv (E24.ro a0)) E24 (xs := []) (ys := a0) (by as_aux_lemma => kernel_rfl) rfl (.row 16464 [] 0 rfl (by as_aux_lemma => kernel_rfl)) (.ro a0) ⟨by simpa using g, by simp; omega⟩ (by as_aux_lemma => kernel_rfl) ?_
    refine segs [] tabOk mixed 4000 (S := .leaf 0) (by as_aux_lemma => kernel_rfl) ?_
    refine sk_leaf ?_
    exact end_ok [(0, some 16496)] Try.results31 (ps := [0 = 0, a0.length = a0.length, E24.cR a0 = E24.cR a0, AllPv (E24.cR a0)]) (by as_aux_lemma => kernel_rfl) ⟨rfl, rfl, rfl, Elem.cR_pv _ _, trivial⟩ (fun hx => by cases hx)

set_option maxRecDepth 100000 in
theorem slices_Clone_byte_ok (a0 r : List Int) (h : slices_Clone_byte a0 = some r) {al : Bool} : PCalls Try.prog 32 [.pv (E5.ro a0)] al (.row 0 1 0 r.length) [.row 5 1 (E5.cR r)] := by
  unfold slices_Clone_byte at h
  obtain ⟨g, h⟩ := if_ h
  obtain rfl := some_ h
  refine fn_ok tabOk Try.func32 (by as_aux_lemma => kernel_rfl) (by as_aux_lemma => kernel_rfl) Try.ntmps32 (by simp) ?_
  refine segs [1] tabOk mixed 4000 (S := .leaf 0) (by as_aux_lemma => kernel_rfl) ?_
  refine sk_leaf ?_
  refine nil_ok (d1 := 3) (d2 := 4) (s := 1) (n := a0.length) (c := fun i j => E5.cf (a0.getD i E5.z) j) tabOk (by as_aux_lemma => kernel_rfl) ?_
  intro b hb
  refine segs [] tabOk mixed 4000 (S := .br b (.leaf 0) (.leaf 1)) (by as_aux_lemma => kernel_rfl) ?_
  refine sk_br ?_ ?_ <;> intro hc <;> refine sk_leaf ?_
  · obtain rfl : a0 = [] := List.eq_nil_of_length_eq_zero (hb hc)
    exact end_ok [(0, none)] Try.results32 (ps := [0 = 0, 0 = 0, E5.cR [] = []]) (by as_aux_lemma => kernel_rfl) ⟨rfl, rfl, rfl, trivial⟩ (fun _ => ⟨rfl, by simp only [List.mem_cons, List.not_mem_nil, or_false, forall_eq]; exact Elem.cR_bald E5_raw _⟩)
  · refine bs_ok (d := 5) (e := 5) (s := 1) (n := 0) (cs := []) (cs' := E5.cR []) (by as_aux_lemma => kernel_rfl) rfl (by as_aux_lemma => kernel_rfl) ?_
    refine segs [] tabOk mixed 4000 (S := .leaf 0) (by as_aux_lemma => kernel_rfl) ?_
    refine sk_leaf ?_
    refine app_ok (d := 7) (e := 5) (s := 1) (b := 1) (x := .row 16464 1 0 0) (y := .pv (E5.ro a0)) E5 (xs := []) (ys := a0) (by as_aux_lemma => kernel_rfl) rfl (.row 16464 [] 0 rfl (by as_aux_lemma => kernel_rfl)) (.ro a0) ⟨by simpa using g, by simp; omega⟩ (by as_aux_lemma => kernel_rfl) ?_
    refine segs [] tabOk mixed 4000 (S := .leaf 0) (by as_aux_lemma => kernel_rfl) ?_
    refine sk_leaf ?_
    exact end_ok [(0, some 16496)] Try.results32 (ps := [0 = 0, a0.length = a0.length, E5.cR a0 = E5.cR a0, AllPv (E5.cR a0)]) (by as_aux_lemma => kernel_rfl) ⟨rfl, rfl, rfl, Elem.cR_pv _ _, trivial⟩ (fun _ => ⟨rfl, by simp only [List.mem_cons, List.not_mem_nil, or_false, forall_eq]; exact Elem.cR_bald E5_raw _⟩)

set_option maxHeartbeats 40000000 in
set_option maxRecDepth 100000 in
theorem tty_told_roro_ok (a0 : Api_Tty) (a1 : (List Int)) (r : Api_Tty) (h : tty_told_roro a0 a1 = some r) : MCalls Try.prog 25 [.ptr 0 0, .pv ((E5.ro a1))] [.box [.pv ((E24.ro a0.Lines)), .pv ((E5.ro a0.Edit))]] 1 true (.tup []) [.box [.row 1 1 0 r.Lines.length, .row 2 1 0 r.Edit.length], .row 24 1 (E24.cR r.Lines), .row 5 1 (E5.cR r.Edit)] := by
  unfold tty_told_roro at h
  refine fnM_ok tabOk (fz := []) Try.func25 (by as_aux_lemma => kernel_rfl) (by as_aux_lemma => kernel_rfl) Try.ntmps25 (by simp) (by simp) ?_
  refine segs [] tabOk mixed 4000 (S := .leaf 0) (by as_aux_lemma => kernel_rfl) ?_
  refine sk_leaf ?_
  obtain ⟨r1, e2, h⟩ := bd_ h
  refine call_ok (d := some 9) (fn := 31) (ax := [.pv ((E24.ro a0.Lines))]) (args := [.pv ((E24.ro a0.Lines))]) (ps := [a0.Lines.length = a0.Lines.length, ∀ i, i < a0.Lines.length → ∀ j, j < 1 → E24.cf (a0.Lines.getD i E24.z) j = E24.cf (a0.Lines.getD i E24.z) j]) (hb' := [.row 24 1 (E24.cR r1)]) (by as_aux_lemma => kernel_rfl) (slices_Clone_slbyte_ok _ _ e2) (by as_aux_lemma => kernel_rfl) ⟨rfl, fun _ _ _ _ => rfl, trivial⟩ (fun _ => (by as_aux_lemma => kernel_rfl)) (by simp) (by simp only [List.map_cons, List.map_nil, Elem.row_up]) (by as_aux_lemma => kernel_rfl) ?_
  refine segs [] tabOk mixed 4000 (S := .leaf 0) (by as_aux_lemma => kernel_rfl) ?_
  refine sk_leaf ?_
  obtain ⟨r3, e4, h⟩ := bd_ h
  refine call_ok (d := some 14) (fn := 32) (ax := [.pv ((E5.ro a0.Edit))]) (args := [.pv ((E5.ro a0.Edit))]) (ps := [a0.Edit.length = a0.Edit.length, ∀ i, i < a0.Edit.length → ∀ j, j < 1 → E5.cf (a0.Edit.getD i E5.z) j = E5.cf (a0.Edit.getD i E5.z) j]) (hb' := [.row 5 1 (E5.cR r3)]) (by as_aux_lemma => kernel_rfl) (slices_Clone_byte_ok _ _ e4 (al := true)) (by as_aux_lemma => kernel_rfl) ⟨rfl, fun _ _ _ _ => rfl, trivial⟩ (fun _ => (by as_aux_lemma => kernel_rfl)) (by simp) (by simp only [List.map_cons, List.map_nil, Elem.row_up]) (by as_aux_lemma => kernel_rfl) ?_
  refine segs [] tabOk mixed 4000 (S := .leaf 0) (by as_aux_lemma => kernel_rfl) ?_
  refine sk_leaf ?_
  obtain ⟨g5, h⟩ := if_ h
  refine appF_ok (d := 16) (e := 5) (s := 1) (b := 1) (x := .row 16608 1 0 r3.length) (y := .pv ((E5.ro a1))) E5 (xs := r3) (ys := a1) (by as_aux_lemma => kernel_rfl) rfl (.row 16608 r3 r3.length rfl (by as_aux_lemma => kernel_rfl)) (.ro a1) g5 (by as_aux_lemma => kernel_rfl) ?_
  refine segs [] tabOk mixed 4000 (S := .leaf 0) (by as_aux_lemma => kernel_rfl) ?_
  refine sk_leaf ?_
  refine bs_ok (d := 17) (e := 24) (s := 1) (n := 1) (cs := [.pv ((E5.ro (r3 ++ a1)))]) (cs' := E24.cR [(r3 ++ a1)]) (by as_aux_lemma => kernel_rfl) rfl (by as_aux_lemma => kernel_rfl) ?_
  refine segs [] tabOk mixed 4000 (S := .leaf 0) (by as_aux_lemma => kernel_rfl) ?_
  refine sk_leaf ?_
  obtain ⟨g6, h⟩ := if_ h
  refine app_ok (d := 18) (e := 24) (s := 1) (b := 24) (x := .row 16528 1 0 r1.length) (y := .row 16656 1 0 1) E24 (xs := r1) (ys := [(r3 ++ a1)]) (by as_aux_lemma => kernel_rfl) rfl (.row 16528 r1 r1.length rfl (by as_aux_lemma => kernel_rfl)) (.all 16656 24 [(r3 ++ a1)] 1 rfl (by as_aux_lemma => kernel_rfl)) g6 (by as_aux_lemma => kernel_rfl) ?_
  refine segs [] tabOk mixed 4000 (S := .leaf 0) (by as_aux_lemma => kernel_rfl) ?_
  refine sk_leaf ?_
  obtain rfl := some_ h
  exact endM_ok [(0, some 0), (1, some 16672), (2, none)] Try.results25 (ps := [0 = 0, ((r1 ++ [(r3 ++ a1)]).length) = (r1 ++ [(r3 ++ a1)]).length, 0 = 0, ([] : List Int).length = 0, E24.cR (r1 ++ [(r3 ++ a1)]) = E24.cR (r1 ++ [(r3 ++ a1)]), AllPv (E24.cR (r1 ++ [(r3 ++ a1)])), E5.cR [] = []]) (by as_aux_lemma => kernel_rfl) ⟨rfl, (by first | rfl | simp), rfl, rfl, rfl, (Elem.cR_pv _ _), rfl, trivial⟩ (fun hx => by cases hx)

set_option maxRecDepth 100000 in
theorem bytes_Clone_ok (a0 r : List Int) (h : bytes_Clone a0 = some r) {al : Bool} : PCalls Try.prog 22 [.pv (E5.ro a0)] al (.row 0 1 0 r.length) [.row 5 1 (E5.cR r)] := by
  unfold bytes_Clone at h
  obtain ⟨g, h⟩ := if_ h
  obtain rfl := some_ h
  refine fn_ok tabOk Try.func22 (by as_aux_lemma => kernel_rfl) (by as_aux_lemma => kernel_rfl) Try.ntmps22 (by simp) ?_
  refine segs [1] tabOk mixed 4000 (S := .leaf 0) (by as_aux_lemma => kernel_rfl) ?_
  refine sk_leaf ?_
  refine nil_ok (d1 := 3) (d2 := 4) (s := 1) (n := a0.length) (c := fun i j => E5.cf (a0.getD i E5.z) j) tabOk (by as_aux_lemma => kernel_rfl) ?_
  intro b hb
  refine segs [] tabOk mixed 4000 (S := .br b (.leaf 0) (.leaf 1)) (by as_aux_lemma => kernel_rfl) ?_
  refine sk_br ?_ ?_ <;> intro hc <;> refine sk_leaf ?_
  · obtain rfl : a0 = [] := List.eq_nil_of_length_eq_zero (hb hc)
    exact end_ok [(0, none)] Try.results22 (ps := [0 = 0, 0 = 0, E5.cR [] = []]) (by as_aux_lemma => kernel_rfl) ⟨rfl, rfl, rfl, trivial⟩ (fun _ => ⟨rfl, by simp only [List.mem_cons, List.not_mem_nil, or_false, forall_eq]; exact Elem.cR_bald E5_raw _⟩)
  · refine bs_ok (d := 5) (e := 5) (s := 1) (n := 0) (cs := []) (cs' := E5.cR []) (by as_aux_lemma => kernel_rfl) rfl (by as_aux_lemma => kernel_rfl) ?_
    refine segs [] tabOk mixed 4000 (S := .leaf 0) (by as_aux_lemma => kernel_rfl) ?_
    refine sk_leaf ?_
    refine app_ok (d := 7) (e := 5) (s := 1) (b := 1) (x := .row 16464 1 0 0) (y := .pv (E5.ro a0)) E5 (xs := []) (ys := a0) (by as_aux_lemma => kernel_rfl) rfl (.row 16464 [] 0 rfl (by as_aux_lemma => kernel_rfl)) (.ro a0) ⟨by simpa using g, by simp; omega⟩ (by as_aux_lemma => kernel_rfl) ?_
    refine segs [] tabOk mixed 4000 (S := .leaf 0) (by as_aux_lemma => kernel_rfl) ?_
    refine sk_leaf ?_
    exact end_ok [(0, some 16496)] Try.results22 (ps := [0 = 0, a0.length = a0.length, E5.cR a0 = E5.cR a0, AllPv (E5.cR a0)]) (by as_aux_lemma => kernel_rfl) ⟨rfl, rfl, rfl, Elem.cR_pv _ _, trivial⟩ (fun _ => ⟨rfl, by simp only [List.mem_cons, List.not_mem_nil, or_false, forall_eq]; exact Elem.cR_bald E5_raw _⟩)

set_option maxHeartbeats 40000000 in
set_option maxRecDepth 100000 in
theorem tty_own_ok (a0 : Api_Tty) (r : Api_Tty) (h : tty_own a0 = some r) : PCalls Try.prog 21 [.agg [.pv ((E24.ro a0.Lines)), .pv ((E5.ro a0.Edit))]] true (.agg [.row 0 1 0 r.Lines.length, .row 1 1 0 r.Edit.length]) [.row 24 1 (E24.cR r.Lines), .row 5 1 (E5.cR r.Edit)] := by
  unfold tty_own at h
  refine fn_ok tabOk Try.func21 (by as_aux_lemma => kernel_rfl) (by as_aux_lemma => kernel_rfl) Try.ntmps21 (by simp) ?_
  refine segs [] tabOk mixed 4000 (S := .leaf 0) (by as_aux_lemma => kernel_rfl) ?_
  refine sk_leaf ?_
  obtain ⟨r1, e2, h⟩ := bd_ h
  refine call_ok (d := some 8) (fn := 22) (ax := [.pv ((E5.ro a0.Edit))]) (args := [.pv ((E5.ro a0.Edit))]) (ps := [a0.Edit.length = a0.Edit.length, ∀ i, i < a0.Edit.length → ∀ j, j < 1 → E5.cf (a0.Edit.getD i E5.z) j = E5.cf (a0.Edit.getD i E5.z) j]) (hb' := [.row 5 1 (E5.cR r1)]) (by as_aux_lemma => kernel_rfl) (bytes_Clone_ok _ _ e2 (al := true)) (by as_aux_lemma => kernel_rfl) ⟨rfl, fun _ _ _ _ => rfl, trivial⟩ (fun _ => (by as_aux_lemma => kernel_rfl)) (by simp) (by simp only [List.map_cons, List.map_nil, Elem.row_up]) (by as_aux_lemma => kernel_rfl) ?_
  refine segs [] tabOk mixed 4000 (S := .leaf 0) (by as_aux_lemma => kernel_rfl) ?_
  refine sk_leaf ?_
  refine len_ro (by as_aux_lemma => kernel_rfl) 11 (s := 1) (n := a0.Lines.length) (c := fun i j => E24.cf (a0.Lines.getD i E24.z) j) (by as_aux_lemma => kernel_rfl) ?_; intro hl1_0
  refine len_box (by as_aux_lemma => kernel_rfl) 16400 1 (cs := [.pv ((E24.ro a0.Lines)), .pv ((E5.ro a0.Edit))]) (by as_aux_lemma => kernel_rfl) (s := 1) (n := a0.Edit.length) (c := fun i j => E5.cf (a0.Edit.getD i E5.z) j) rfl ?_; intro hl1_1
  refine len_row (by as_aux_lemma => kernel_rfl) 16512 (e := 5) (s := 1) (n := r1.length) (cs := E5.cR r1) (by as_aux_lemma => kernel_rfl) (Elem.cR_length _ _) ?_; intro hl1_2
  replace h : (fun (x : Nat × Nat × List (List Int)) => tty_own_l1 a0 r1 x.1 x.2.1 x.2.2 = some r) (FUEL, 0, ([] : List (List Int))) := h
  refine loop_ok (by as_aux_lemma => kernel_rfl) (X := Nat × Nat × List (List Int)) (fun x => tty_own_l1 a0 r1 x.1 x.2.1 x.2.2 = some r) (fun x => x.1) (fun x => mk 26 [(2, .ptr 0 0), (3, .ptr 1 0), (11, .pv ((E24.ro a0.Lines))), (12, .pv (.raw (.int .i64 ((a0.Lines.length : Nat) : Int)))), (13, .pv (.raw (.int .i64 ((x.2.1 : Nat) : Int))))] [(0, .box [.pv (.raw (.slice none 0 0)), .pv (.raw (.slice none 0 0))]), (1, .box [.row 3 1 0 x.2.2.length, .row 2 1 0 r1.length]), (2, .row 5 1 (E5.cR r1)), (3, .row 24 1 (E24.cR x.2.2))]) (FUEL, 0, ([] : List (List Int))) h ?_ ?_
  · exact sub_ok (ρ := [(0, some 16416), (1, some 16432), (2, some 16512), (3, none)]) (l := [0 = 0, 0 = 0, a0.Lines.length = a0.Lines.length, ∀ i, i < a0.Lines.length → ∀ j, j < 1 → E24.cf (a0.Lines.getD i E24.z) j = E24.cf (a0.Lines.getD i E24.z) j, (((a0.Lines.length : Nat) : Int) : Int) = ((a0.Lines.length : Nat) : Int), (0 : Int) = ((0 : Nat) : Int), 0 = 0, (([] : List (List Int)).length) = 0, 0 = 0, r1.length = r1.length, E5.cR r1 = E5.cR r1, AllPv (E5.cR r1), E24.cR ([] : List (List Int)) = []]) (by as_aux_lemma => kernel_rfl) ⟨rfl, rfl, rfl, fun _ _ _ _ => rfl, rfl, (by first | rfl | simp), rfl, (by first | rfl | simp), rfl, rfl, rfl, (Elem.cR_pv _ _), rfl, trivial⟩
  · clear h; rintro ⟨n1, k3, l4⟩ h p1 hp1
    obtain _ | n1 := n1
    · cases (show (none : Option (Api_Tty)) = some r from h)
    have h : tty_own_l1 a0 r1 (n1 + 1) k3 l4 = some r := h
    unfold tty_own_l1 at h
    refine segs [] tabOk mixed 4000 (S := .br (decide ((((k3 : Nat) : Int) : Int) < ((a0.Lines.length : Nat) : Int))) (.and (0 ≤ (((k3 : Nat) : Int) : Int) ∧ ((k3 : Nat) : Int) < ((a0.Lines.length : Nat) : Int)) (.leaf 0)) (.leaf 1)) (by as_aux_lemma => kernel_rfl) ?_
    refine br_ h ?_ ?_ <;> clear h <;> intro c5 h
    · refine sk_and ⟨Int.natCast_nonneg _, of_decide_eq_true c5⟩ ?_
      refine sk_leaf ?_
      obtain ⟨r7, e8, h⟩ := bd_ h
      refine callF_ok (d := some 20) (fn := 22) (ax := [.pv ((E5.ro (a0.Lines.getD k3 [])))]) (args := [.pv ((E5.ro (a0.Lines.getD k3 [])))]) (ps := [(a0.Lines.getD k3 []).length = (a0.Lines.getD k3 []).length, ∀ i, i < (a0.Lines.getD k3 []).length → ∀ j, j < 1 → E5.cf ((a0.Lines.getD k3 []).getD i E5.z) j = E5.cf ((a0.Lines.getD k3 []).getD i E5.z) j]) (hb' := [.row 5 1 (E5.cR r7)]) (ps2 := [r7.length = r7.length, rowQ (E5.cR r7) 1 0 r7.length (fun i j => E5.cf (r7.getD i E5.z) j)]) (.pv ((E5.ro r7))) (by as_aux_lemma => kernel_rfl) (bytes_Clone_ok _ _ e8 (al := true)) (by as_aux_lemma => kernel_rfl) ⟨rfl, fun _ _ _ _ => rfl, trivial⟩ (fun _ => (by as_aux_lemma => kernel_rfl)) (by simp) (by simp only [List.map_cons, List.map_nil, Elem.row_up]) (by as_aux_lemma => kernel_rfl) (by as_aux_lemma => kernel_rfl) ⟨(by first | rfl | exact Elem.sub_len _ (by omega) | simp | (simp <;> omega)), E5.rowQ_all r7 rfl, trivial⟩ ?_
      refine segs [] tabOk mixed 4000 (S := .leaf 0) (by as_aux_lemma => kernel_rfl) ?_
      refine sk_leaf ?_
      refine bs_ok (d := 21) (e := 24) (s := 1) (n := 1) (cs := [.pv ((E5.ro r7))]) (cs' := E24.cR [r7]) (by as_aux_lemma => kernel_rfl) rfl (by as_aux_lemma => kernel_rfl) ?_
      refine segs [] tabOk mixed 4000 (S := .leaf 0) (by as_aux_lemma => kernel_rfl) ?_
      refine sk_leaf ?_
      obtain ⟨g9, h⟩ := if_ h
      refine app_ok (d := 22) (e := 24) (s := 1) (b := 24) (x := .row 3 1 0 l4.length) (y := .row 16720 1 0 1) E24 (xs := l4) (ys := [r7]) (by as_aux_lemma => kernel_rfl) rfl (.row 3 l4 l4.length rfl (by as_aux_lemma => kernel_rfl)) (.all 16720 24 [r7] 1 rfl (by as_aux_lemma => kernel_rfl)) g9 (by as_aux_lemma => kernel_rfl) ?_
      refine segs [] tabOk mixed 4000 (S := .leaf 0) (by as_aux_lemma => kernel_rfl) ?_
      refine sk_leaf ?_
      refine back_ok (p := p1) (by as_aux_lemma => kernel_rfl) (hp1 (n1, k3 + 1, (l4 ++ [r7])) _ h (Nat.lt_succ_self n1) ?_)
      exact sub_ok (ρ := [(0, some 0), (1, some 1), (2, some 2), (3, some 16736)]) (l := [0 = 0, 0 = 0, a0.Lines.length = a0.Lines.length, ∀ i, i < a0.Lines.length → ∀ j, j < 1 → E24.cf (a0.Lines.getD i E24.z) j = E24.cf (a0.Lines.getD i E24.z) j, (((a0.Lines.length : Nat) : Int) : Int) = ((a0.Lines.length : Nat) : Int), ((IntKind.i64.wrap (((k3 : Nat) : Int) + 1)) : Int) = (((k3 + 1) : Nat) : Int), 0 = 0, ((l4 ++ [r7]).length) = ((l4 ++ [r7]).length), 0 = 0, r1.length = r1.length, E5.cR r1 = E5.cR r1, AllPv (E5.cR r1), E24.cR (l4 ++ [r7]) = E24.cR (l4 ++ [r7]), AllPv (E24.cR (l4 ++ [r7]))]) (by as_aux_lemma => kernel_rfl) ⟨rfl, rfl, rfl, fun _ _ _ _ => rfl, rfl, (wrap_nat (Int.ofNat_lt.1 (of_decide_eq_true c5)) (by omega)), rfl, rfl, rfl, rfl, rfl, (Elem.cR_pv _ _), rfl, (Elem.cR_pv _ _), trivial⟩
    · refine sk_leaf ?_
      obtain rfl := some_ h
      exact end_ok [(0, some 3), (1, some 2)] Try.results21 (ps := [0 = 0, l4.length = l4.length, 0 = 0, r1.length = r1.length, E24.cR l4 = E24.cR l4, AllPv (E24.cR l4), E5.cR r1 = E5.cR r1, AllPv (E5.cR r1)]) (by as_aux_lemma => kernel_rfl) ⟨rfl, (by first | rfl | simp), rfl, (by first | rfl | simp), rfl, (Elem.cR_pv _ _), rfl, (Elem.cR_pv _ _), trivial⟩ (fun hx => by cases hx)

set_option maxHeartbeats 40000000 in
set_option maxRecDepth 100000 in
theorem tty_word_ok (a0 : (List Int)) (r : Int) (h : tty_word a0 = some r) {al : Bool} : PCalls Try.prog 26 [.pv ((E5.ro a0))] al (.pv (.raw (.int .i64 r))) [] := by
  unfold tty_word at h
  refine fn_ok tabOk Try.func26 (by as_aux_lemma => kernel_rfl) (by as_aux_lemma => kernel_rfl) Try.ntmps26 (by simp) ?_
  refine segs [] tabOk mixed 4000 (S := .leaf 0) (by as_aux_lemma => kernel_rfl) ?_
  refine sk_leaf ?_
  refine len_ro (by as_aux_lemma => kernel_rfl) 0 (s := 1) (n := a0.length) (c := fun i j => E5.cf (a0.getD i E5.z) j) (by as_aux_lemma => kernel_rfl) ?_; intro hl1_0
  replace h : (fun (x : Nat × Int) => tty_word_l1 a0 x.1 x.2 = some r) (FUEL, ((a0.length : Nat) : Int)) := h
  refine loop_ok (by as_aux_lemma => kernel_rfl) (X := Nat × Int) (fun x => tty_word_l1 a0 x.1 x.2 = some r) (fun x => x.1) (fun x => mk 31 [(0, .pv ((E5.ro a0))), (2, .pv (.raw (.int .i64 0))), (3, .pv (.raw (.int .i64 x.2)))] []) (FUEL, ((a0.length : Nat) : Int)) h ?_ ?_
  · exact sub_ok (ρ := []) (l := [a0.length = a0.length, ∀ i, i < a0.length → ∀ j, j < 1 → E5.cf (a0.getD i E5.z) j = E5.cf (a0.getD i E5.z) j, (0 : Int) = 0, (((a0.length : Nat) : Int) : Int) = ((a0.length : Nat) : Int)]) (by as_aux_lemma => kernel_rfl) ⟨rfl, fun _ _ _ _ => rfl, rfl, rfl, trivial⟩
  · clear h; rintro ⟨n1, x1⟩ h p1 hp1
    obtain _ | n1 := n1
    · cases (show (none : Option (Int)) = some r from h)
    have h : tty_word_l1 a0 (n1 + 1) x1 = some r := h
    unfold tty_word_l1 at h
    refine segs [] tabOk mixed 4000 (S := .and (((decide ((x1 : Int) > 0)) = true → ((decide ((x1 : Int) > 0)) = true))) (.and (((decide ((x1 : Int) > 0)) = true → ((decide ((x1 : Int) > 0)) = true))) (.and (((decide ((x1 : Int) > 0)) = true → ((decide ((x1 : Int) > 0)) = true))) (.and (((decide ((x1 : Int) > 0)) = true → (0 ≤ ((IntKind.i64.wrap (x1 - 1)) : Int) ∧ (IntKind.i64.wrap (x1 - 1)) < ((a0.length : Nat) : Int)))) (.and (((decide ((x1 : Int) > 0)) = true → ((decide ((x1 : Int) > 0)) = true))) (.and (((decide ((x1 : Int) > 0)) = true → ((decide ((x1 : Int) > 0)) = true))) (.and ((decide ((x1 : Int) > 0)) = true → (decide ((x1 : Int) > 0)) = true) (.br ((decide ((x1 : Int) > 0)) && (((a0.getD (Int.toNat (IntKind.i64.wrap (x1 - 1))) 0) : Int) == 32)) (.leaf 0) (.leaf 1))))))))) (by as_aux_lemma => kernel_rfl) ?_
    refine sk_and ((by decide : ∀ y0 : Bool, ((y0 = true) → (y0 = true))) (decide ((x1 : Int) > 0))) ?_
    refine sk_and ((by decide : ∀ y0 : Bool, ((y0 = true) → (y0 = true))) (decide ((x1 : Int) > 0))) ?_
    refine sk_and ((by decide : ∀ y0 : Bool, ((y0 = true) → (y0 = true))) (decide ((x1 : Int) > 0))) ?_
    refine gd_ h ?_; clear h; intro g5 h
    refine sk_and ((by decide : ∀ y0 : Bool, ((y0 = true) → (y0 = true))) (decide ((x1 : Int) > 0))) ?_
    refine sk_and ((by decide : ∀ y0 : Bool, ((y0 = true) → (y0 = true))) (decide ((x1 : Int) > 0))) ?_
    refine sk_and ((by decide : ∀ y0 : Bool, ((y0 = true) → (y0 = true))) (decide ((x1 : Int) > 0))) ?_
    refine br_ h ?_ ?_ <;> clear h <;> intro c9 h
    · refine sk_leaf ?_
      refine back_ok (p := p1) (by as_aux_lemma => kernel_rfl) (hp1 (n1, (IntKind.i64.wrap (x1 - 1))) _ h (Nat.lt_succ_self n1) ?_)
      exact sub_ok (ρ := []) (l := [a0.length = a0.length, ∀ i, i < a0.length → ∀ j, j < 1 → E5.cf (a0.getD i E5.z) j = E5.cf (a0.getD i E5.z) j, (0 : Int) = 0, ((IntKind.i64.wrap (x1 - 1)) : Int) = (IntKind.i64.wrap (x1 - 1))]) (by as_aux_lemma => kernel_rfl) ⟨rfl, fun _ _ _ _ => rfl, rfl, rfl, trivial⟩
    · refine sk_leaf ?_
      refine len_ro (by as_aux_lemma => kernel_rfl) 0 (s := 1) (n := a0.length) (c := fun i j => E5.cf (a0.getD i E5.z) j) (by as_aux_lemma => kernel_rfl) ?_; intro hl2_0
      replace h : (fun (x : Nat × Int) => tty_word_l2 a0 x1 x.1 x.2 = some r) (FUEL, x1) := h
      refine loop_ok (by as_aux_lemma => kernel_rfl) (X := Nat × Int) (fun x => tty_word_l2 a0 x1 x.1 x.2 = some r) (fun x => x.1) (fun x => mk 31 [(0, .pv ((E5.ro a0))), (2, .pv (.raw (.int .i64 0))), (3, .pv (.raw (.int .i64 x.2)))] []) (FUEL, x1) h ?_ ?_
      · exact sub_ok (ρ := []) (l := [a0.length = a0.length, ∀ i, i < a0.length → ∀ j, j < 1 → E5.cf (a0.getD i E5.z) j = E5.cf (a0.getD i E5.z) j, (0 : Int) = 0, (x1 : Int) = x1]) (by as_aux_lemma => kernel_rfl) ⟨rfl, fun _ _ _ _ => rfl, rfl, rfl, trivial⟩
      · clear h; rintro ⟨n2, x10⟩ h p2 hp2
        obtain _ | n2 := n2
        · cases (show (none : Option (Int)) = some r from h)
        have h : tty_word_l2 a0 x1 (n2 + 1) x10 = some r := h
        unfold tty_word_l2 at h
        refine segs [] tabOk mixed 4000 (S := .and (((decide ((x10 : Int) > 0)) = true → ((decide ((x10 : Int) > 0)) = true))) (.and (((decide ((x10 : Int) > 0)) = true → ((decide ((x10 : Int) > 0)) = true))) (.and (((decide ((x10 : Int) > 0)) = true → ((decide ((x10 : Int) > 0)) = true))) (.and (((decide ((x10 : Int) > 0)) = true → (0 ≤ ((IntKind.i64.wrap (x10 - 1)) : Int) ∧ (IntKind.i64.wrap (x10 - 1)) < ((a0.length : Nat) : Int)))) (.and (((decide ((x10 : Int) > 0)) = true → ((decide ((x10 : Int) > 0)) = true))) (.and (((decide ((x10 : Int) > 0)) = true → ((decide ((x10 : Int) > 0)) = true))) (.and ((decide ((x10 : Int) > 0)) = true → (decide ((x10 : Int) > 0)) = true) (.br ((decide ((x10 : Int) > 0)) && (((a0.getD (Int.toNat (IntKind.i64.wrap (x10 - 1))) 0) : Int) != 32)) (.leaf 0) (.leaf 1))))))))) (by as_aux_lemma => kernel_rfl) ?_
        refine sk_and ((by decide : ∀ y0 : Bool, ((y0 = true) → (y0 = true))) (decide ((x10 : Int) > 0))) ?_
        refine sk_and ((by decide : ∀ y0 : Bool, ((y0 = true) → (y0 = true))) (decide ((x10 : Int) > 0))) ?_
        refine sk_and ((by decide : ∀ y0 : Bool, ((y0 = true) → (y0 = true))) (decide ((x10 : Int) > 0))) ?_
        refine gd_ h ?_; clear h; intro g14 h
        refine sk_and ((by decide : ∀ y0 : Bool, ((y0 = true) → (y0 = true))) (decide ((x10 : Int) > 0))) ?_
        refine sk_and ((by decide : ∀ y0 : Bool, ((y0 = true) → (y0 = true))) (decide ((x10 : Int) > 0))) ?_
        refine sk_and ((by decide : ∀ y0 : Bool, ((y0 = true) → (y0 = true))) (decide ((x10 : Int) > 0))) ?_
        refine br_ h ?_ ?_ <;> clear h <;> intro c18 h
        · refine sk_leaf ?_
          refine back_ok (p := p2) (by as_aux_lemma => kernel_rfl) (hp2 (n2, (IntKind.i64.wrap (x10 - 1))) _ h (Nat.lt_succ_self n2) ?_)
          exact sub_ok (ρ := []) (l := [a0.length = a0.length, ∀ i, i < a0.length → ∀ j, j < 1 → E5.cf (a0.getD i E5.z) j = E5.cf (a0.getD i E5.z) j, (0 : Int) = 0, ((IntKind.i64.wrap (x10 - 1)) : Int) = (IntKind.i64.wrap (x10 - 1))]) (by as_aux_lemma => kernel_rfl) ⟨rfl, fun _ _ _ _ => rfl, rfl, rfl, trivial⟩
        · refine sk_leaf ?_
          obtain rfl := some_ h
          exact end_ok [] Try.results26 (ps := [(x10 : Int) = x10]) (by as_aux_lemma => kernel_rfl) ⟨rfl, trivial⟩ (fun _ => ⟨rfl, by simp⟩)

set_option maxHeartbeats 40000000 in
set_option maxRecDepth 100000 in
theorem tty_Key_ok (a0 : Api_Tty) (a1 : Int) (r : Api_Tty × Int) (h : tty_Key a0 a1 = some r) : PCalls Try.prog 19 [.agg [.pv ((E24.ro a0.Lines)), .pv ((E5.ro a0.Edit))], .pv (.raw (.int .u8 a1))] true (.tup [.agg [.row 0 1 0 r.1.Lines.length, .row 1 1 0 r.1.Edit.length], .pv (.raw (.int .i64 r.2))]) [.row 24 1 (E24.cR r.1.Lines), .row 5 1 (E5.cR r.1.Edit)] := by
  unfold tty_Key at h
  refine fnZ_ok tabOk [25] Try.func19 (by as_aux_lemma => kernel_rfl) (by as_aux_lemma => kernel_rfl) Try.ntmps19 (by simp) ?_
  refine segs [20] tabOk mixed 4000 (S := .leaf 0) (by as_aux_lemma => kernel_rfl) ?_
  refine sk_leaf ?_
  obtain ⟨r1, e2, h⟩ := bd_ h
  refine call_ok (d := some 9) (fn := 20) (ax := [.agg [.pv ((E24.ro a0.Lines)), .pv ((E5.ro a0.Edit))]]) (args := [.agg [.pv ((E24.ro a0.Lines)), .pv ((E5.ro a0.Edit))]]) (ps := [a0.Lines.length = a0.Lines.length, ∀ i, i < a0.Lines.length → ∀ j, j < 1 → E24.cf (a0.Lines.getD i E24.z) j = E24.cf (a0.Lines.getD i E24.z) j, a0.Edit.length = a0.Edit.length, ∀ i, i < a0.Edit.length → ∀ j, j < 1 → E5.cf (a0.Edit.getD i E5.z) j = E5.cf (a0.Edit.getD i E5.z) j]) (hb' := []) (by as_aux_lemma => kernel_rfl) (tty_Right_ok _ _ e2 (al := true)) (by as_aux_lemma => kernel_rfl) ⟨rfl, fun _ _ _ _ => rfl, rfl, fun _ _ _ _ => rfl, trivial⟩ (fun _ => (by as_aux_lemma => kernel_rfl)) (by simp) rfl (by as_aux_lemma => kernel_rfl) ?_
  refine segs [20] tabOk mixed 4000 (S := .br (!r1) (.leaf 0) (.and (((!((a1 : Int) == 10)) = true → ((!((a1 : Int) == 10)) = true))) (.and (((a1 : Int) == 10) = false → (!((a1 : Int) == 10)) = true) (.and (((((a1 : Int) == 10) || ((a1 : Int) == 4)) = true → ((((a1 : Int) == 10) || ((a1 : Int) == 4)) = true))) (.and (((((a1 : Int) == 10) || ((a1 : Int) == 4)) = true → ((((a1 : Int) == 10) || ((a1 : Int) == 4)) = true))) (.and (((((a1 : Int) == 10) || ((a1 : Int) == 4)) = true → ((((a1 : Int) == 10) || ((a1 : Int) == 4)) = true))) (.and ((((a1 : Int) == 10) || ((a1 : Int) == 4)) = true → (((a1 : Int) == 10) || ((a1 : Int) == 4)) = true) (.br ((((a1 : Int) == 10) || ((a1 : Int) == 4)) && ((((a0.Lines.length : Nat) : Int) : Int) == 400)) (.leaf 1) (.br ((a1 : Int) == 10) (.leaf 2) (.br ((a1 : Int) == 4) (.leaf 3) (.br ((a1 : Int) == 8) (.and (0 ≤ ((if (0 : Int) > (IntKind.i64.wrap (((a0.Edit.length : Nat) : Int) - 1)) then 0 else (IntKind.i64.wrap (((a0.Edit.length : Nat) : Int) - 1))) : Int)) (.and ((Int.toNat (if (0 : Int) > (IntKind.i64.wrap (((a0.Edit.length : Nat) : Int) - 1)) then 0 else (IntKind.i64.wrap (((a0.Edit.length : Nat) : Int) - 1)))) ≤ a0.Edit.length) (.leaf 4))) (.br ((a1 : Int) == 21) (.leaf 5) (.br ((a1 : Int) == 23) (.leaf 6) (.br ((((a0.Edit.length : Nat) : Int) : Int) == 64) (.leaf 7) (.leaf 8))))))))))))))) (by as_aux_lemma => kernel_rfl) ?_
  refine br_ h ?_ ?_ <;> clear h <;> intro c3 h
  · refine sk_leaf ?_
    obtain rfl := some_ h
    exact end_ok [(0, none), (1, none)] Try.results19 (ps := [0 = 0, ([] : List (List Int)).length = 0, 0 = 0, ([] : List Int).length = 0, (1 : Int) = 1, E24.cR [] = [], E5.cR [] = []]) (by as_aux_lemma => kernel_rfl) ⟨rfl, rfl, rfl, rfl, rfl, rfl, rfl, trivial⟩ (fun hx => by cases hx)
  · refine sk_and ((by decide : ∀ y0 : Bool, ((y0 = true) → (y0 = true))) (!((a1 : Int) == 10))) ?_
    refine sk_and ((by decide : ∀ y0 : Bool, ((y0 = false) → ((!y0) = true))) ((a1 : Int) == 10)) ?_
    refine sk_and ((by decide : ∀ y0 : Bool, ((y0 = true) → (y0 = true))) (((a1 : Int) == 10) || ((a1 : Int) == 4))) ?_
    refine sk_and ((by decide : ∀ y0 : Bool, ((y0 = true) → (y0 = true))) (((a1 : Int) == 10) || ((a1 : Int) == 4))) ?_
    refine sk_and ((by decide : ∀ y0 : Bool, ((y0 = true) → (y0 = true))) (((a1 : Int) == 10) || ((a1 : Int) == 4))) ?_
    refine sk_and ((by decide : ∀ y0 : Bool, ((y0 = true) → (y0 = true))) (((a1 : Int) == 10) || ((a1 : Int) == 4))) ?_
    refine br_ h ?_ ?_ <;> clear h <;> intro c10 h
    · refine sk_leaf ?_
      obtain rfl := some_ h
      exact end_ok [(0, none), (1, none)] Try.results19 (ps := [0 = 0, ([] : List (List Int)).length = 0, 0 = 0, ([] : List Int).length = 0, (4 : Int) = 4, E24.cR [] = [], E5.cR [] = []]) (by as_aux_lemma => kernel_rfl) ⟨rfl, rfl, rfl, rfl, rfl, rfl, rfl, trivial⟩ (fun hx => by cases hx)
    · refine br_ h ?_ ?_ <;> clear h <;> intro c11 h
      · refine sk_leaf ?_
        refine bsF_ok (d := 43) (e := 5) (s := 1) (n := 1) (cs := [.pv (.raw (.int .u8 a1))]) E5 [a1] (by as_aux_lemma => kernel_rfl) rfl rfl rfl (by as_aux_lemma => kernel_rfl) ?_
        refine segs [20] tabOk mixed 4000 (S := .leaf 0) (by as_aux_lemma => kernel_rfl) ?_
        refine sk_leaf ?_
        obtain ⟨r12, e13, h⟩ := bd_ h
        refine mcall_ok (d := some 44) (fn := 25) (ax := [.ptr 16416 0, .pv ((E5.ro [a1]))]) (hs := [(16416, .box [.row 17089 1 0 r12.Lines.length, .row 17090 1 0 r12.Edit.length]), (17089, .row 24 1 (E24.cR r12.Lines)), (17090, .row 5 1 (E5.cR r12.Edit))]) (del := []) (ps := [0 = 0, [a1].length = [a1].length, ∀ i, i < [a1].length → ∀ j, j < 1 → E5.cf ([a1].getD i E5.z) j = E5.cf ([a1].getD i E5.z) j, a0.Lines.length = a0.Lines.length, ∀ i, i < a0.Lines.length → ∀ j, j < 1 → E24.cf (a0.Lines.getD i E24.z) j = E24.cf (a0.Lines.getD i E24.z) j, a0.Edit.length = a0.Edit.length, ∀ i, i < a0.Edit.length → ∀ j, j < 1 → E5.cf (a0.Edit.getD i E5.z) j = E5.cf (a0.Edit.getD i E5.z) j]) [(0, some 16416)] (by as_aux_lemma => kernel_rfl) (tty_told_roro_ok _ _ _ e13) (by as_aux_lemma => kernel_rfl) ⟨rfl, rfl, fun _ _ _ _ => rfl, rfl, fun _ _ _ _ => rfl, rfl, fun _ _ _ _ => rfl, trivial⟩ (by as_aux_lemma => kernel_rfl) (by simp only [mset_row, mset_box, mset_nil, List.set_set]; kernel_rfl) (by as_aux_lemma => kernel_rfl) ?_
        refine segs [20] tabOk mixed 4000 (S := .leaf 0) (by as_aux_lemma => kernel_rfl) ?_
        refine sk_leaf ?_
        refine cut_ok (by as_aux_lemma => kernel_rfl) (τ := mk 71 [(2, .ptr 0 0), (4, .ptr 1 0), (5, .pv (.raw (.int .i64 0)))] [(0, .box [.pv ((E24.ro r12.Lines)), .pv ((E5.ro r12.Edit))]), (1, .box [.pv (.raw (.slice none 0 0)), .pv (.raw (.slice none 0 0))])] [25]) (sub_ok (ρ := [(0, some 16416), (1, some 16448)]) (l := [0 = 0, 0 = 0, (0 : Int) = 0, r12.Lines.length = r12.Lines.length, rowQ (E24.cR r12.Lines) 1 0 r12.Lines.length (fun i j => E24.cf (r12.Lines.getD i E24.z) j), r12.Edit.length = r12.Edit.length, rowQ (E5.cR r12.Edit) 1 0 r12.Edit.length (fun i j => E5.cf (r12.Edit.getD i E5.z) j)]) (by as_aux_lemma => kernel_rfl) ⟨rfl, rfl, rfl, (by first | rfl | exact Elem.sub_len _ (by omega) | simp | (simp <;> omega)), E24.rowQ_all r12.Lines rfl, (by first | rfl | exact Elem.sub_len _ (by omega) | simp | (simp <;> omega)), E5.rowQ_all r12.Edit rfl, trivial⟩) ?_
        refine segs [] tabOk mixed 4000 (S := .leaf 0) (by as_aux_lemma => kernel_rfl) ?_
        refine sk_leaf ?_
        obtain ⟨r14, e15, h⟩ := bd_ h
        refine call_ok (d := some 70) (fn := 21) (ax := [.agg [.pv ((E24.ro r12.Lines)), .pv ((E5.ro r12.Edit))]]) (args := [.agg [.pv ((E24.ro r12.Lines)), .pv ((E5.ro r12.Edit))]]) (ps := [r12.Lines.length = r12.Lines.length, ∀ i, i < r12.Lines.length → ∀ j, j < 1 → E24.cf (r12.Lines.getD i E24.z) j = E24.cf (r12.Lines.getD i E24.z) j, r12.Edit.length = r12.Edit.length, ∀ i, i < r12.Edit.length → ∀ j, j < 1 → E5.cf (r12.Edit.getD i E5.z) j = E5.cf (r12.Edit.getD i E5.z) j]) (hb' := [.row 24 1 (E24.cR r14.Lines), .row 5 1 (E5.cR r14.Edit)]) (by as_aux_lemma => kernel_rfl) (tty_own_ok _ _ e15) (by as_aux_lemma => kernel_rfl) ⟨rfl, fun _ _ _ _ => rfl, rfl, fun _ _ _ _ => rfl, trivial⟩ (fun _ => (by as_aux_lemma => kernel_rfl)) (by simp) (by simp only [List.map_cons, List.map_nil, Elem.row_up]) (by as_aux_lemma => kernel_rfl) ?_
        refine segs [20] tabOk mixed 4000 (S := .leaf 0) (by as_aux_lemma => kernel_rfl) ?_
        refine sk_leaf ?_
        obtain rfl := some_ h
        exact end_ok [(0, some 17504), (1, some 17505)] Try.results19 (ps := [0 = 0, r14.Lines.length = r14.Lines.length, 0 = 0, r14.Edit.length = r14.Edit.length, (0 : Int) = 0, E24.cR r14.Lines = E24.cR r14.Lines, AllPv (E24.cR r14.Lines), E5.cR r14.Edit = E5.cR r14.Edit, AllPv (E5.cR r14.Edit)]) (by as_aux_lemma => kernel_rfl) ⟨rfl, (by first | rfl | simp), rfl, (by first | rfl | simp), rfl, rfl, (Elem.cR_pv _ _), rfl, (Elem.cR_pv _ _), trivial⟩ (fun hx => by cases hx)
      · refine br_ h ?_ ?_ <;> clear h <;> intro c16 h
        · refine sk_leaf ?_
          obtain ⟨r17, e18, h⟩ := bd_ h
          refine mcall_ok (d := some 47) (fn := 25) (ax := [.ptr 16416 0, .pv (.raw (.slice none 0 0))]) (hs := [(16416, .box [.row 17137 1 0 r17.Lines.length, .row 17138 1 0 r17.Edit.length]), (17137, .row 24 1 (E24.cR r17.Lines)), (17138, .row 5 1 (E5.cR r17.Edit))]) (del := []) (ps := [0 = 0, ([] : List Int).length = 0, a0.Lines.length = a0.Lines.length, ∀ i, i < a0.Lines.length → ∀ j, j < 1 → E24.cf (a0.Lines.getD i E24.z) j = E24.cf (a0.Lines.getD i E24.z) j, a0.Edit.length = a0.Edit.length, ∀ i, i < a0.Edit.length → ∀ j, j < 1 → E5.cf (a0.Edit.getD i E5.z) j = E5.cf (a0.Edit.getD i E5.z) j]) [(0, some 16416)] (by as_aux_lemma => kernel_rfl) (tty_told_roro_ok _ _ _ e18) (by as_aux_lemma => kernel_rfl) ⟨rfl, rfl, rfl, fun _ _ _ _ => rfl, rfl, fun _ _ _ _ => rfl, trivial⟩ (by as_aux_lemma => kernel_rfl) (by simp only [mset_row, mset_box, mset_nil, List.set_set]; kernel_rfl) (by as_aux_lemma => kernel_rfl) ?_
          refine segs [20] tabOk mixed 4000 (S := .leaf 0) (by as_aux_lemma => kernel_rfl) ?_
          refine sk_leaf ?_
          refine cut_ok (by as_aux_lemma => kernel_rfl) (τ := mk 71 [(2, .ptr 0 0), (4, .ptr 1 0), (5, .pv (.raw (.int .i64 0)))] [(0, .box [.pv ((E24.ro r17.Lines)), .pv ((E5.ro r17.Edit))]), (1, .box [.pv (.raw (.slice none 0 0)), .pv (.raw (.slice none 0 0))])] [25]) (sub_ok (ρ := [(0, some 16416), (1, some 16448)]) (l := [0 = 0, 0 = 0, (0 : Int) = 0, r17.Lines.length = r17.Lines.length, rowQ (E24.cR r17.Lines) 1 0 r17.Lines.length (fun i j => E24.cf (r17.Lines.getD i E24.z) j), r17.Edit.length = r17.Edit.length, rowQ (E5.cR r17.Edit) 1 0 r17.Edit.length (fun i j => E5.cf (r17.Edit.getD i E5.z) j)]) (by as_aux_lemma => kernel_rfl) ⟨rfl, rfl, rfl, (by first | rfl | exact Elem.sub_len _ (by omega) | simp | (simp <;> omega)), E24.rowQ_all r17.Lines rfl, (by first | rfl | exact Elem.sub_len _ (by omega) | simp | (simp <;> omega)), E5.rowQ_all r17.Edit rfl, trivial⟩) ?_
          refine segs [] tabOk mixed 4000 (S := .leaf 0) (by as_aux_lemma => kernel_rfl) ?_
          refine sk_leaf ?_
          obtain ⟨r19, e20, h⟩ := bd_ h
          refine call_ok (d := some 70) (fn := 21) (ax := [.agg [.pv ((E24.ro r17.Lines)), .pv ((E5.ro r17.Edit))]]) (args := [.agg [.pv ((E24.ro r17.Lines)), .pv ((E5.ro r17.Edit))]]) (ps := [r17.Lines.length = r17.Lines.length, ∀ i, i < r17.Lines.length → ∀ j, j < 1 → E24.cf (r17.Lines.getD i E24.z) j = E24.cf (r17.Lines.getD i E24.z) j, r17.Edit.length = r17.Edit.length, ∀ i, i < r17.Edit.length → ∀ j, j < 1 → E5.cf (r17.Edit.getD i E5.z) j = E5.cf (r17.Edit.getD i E5.z) j]) (hb' := [.row 24 1 (E24.cR r19.Lines), .row 5 1 (E5.cR r19.Edit)]) (by as_aux_lemma => kernel_rfl) (tty_own_ok _ _ e20) (by as_aux_lemma => kernel_rfl) ⟨rfl, fun _ _ _ _ => rfl, rfl, fun _ _ _ _ => rfl, trivial⟩ (fun _ => (by as_aux_lemma => kernel_rfl)) (by simp) (by simp only [List.map_cons, List.map_nil, Elem.row_up]) (by as_aux_lemma => kernel_rfl) ?_
          refine segs [20] tabOk mixed 4000 (S := .leaf 0) (by as_aux_lemma => kernel_rfl) ?_
          refine sk_leaf ?_
          obtain rfl := some_ h
          exact end_ok [(0, some 17504), (1, some 17505)] Try.results19 (ps := [0 = 0, r19.Lines.length = r19.Lines.length, 0 = 0, r19.Edit.length = r19.Edit.length, (0 : Int) = 0, E24.cR r19.Lines = E24.cR r19.Lines, AllPv (E24.cR r19.Lines), E5.cR r19.Edit = E5.cR r19.Edit, AllPv (E5.cR r19.Edit)]) (by as_aux_lemma => kernel_rfl) ⟨rfl, (by first | rfl | simp), rfl, (by first | rfl | simp), rfl, rfl, (Elem.cR_pv _ _), rfl, (Elem.cR_pv _ _), trivial⟩ (fun hx => by cases hx)
        · refine br_ h ?_ ?_ <;> clear h <;> intro c21 h
          · refine gd_ h ?_; clear h; intro g22 h
            refine gd_ h ?_; clear h; intro g23 h
            refine sk_leaf ?_
            refine cut_ok (by as_aux_lemma => kernel_rfl) (τ := mk 71 [(2, .ptr 0 0), (4, .ptr 1 0), (5, .pv (.raw (.int .i64 0)))] [(0, .box [.pv ((E24.ro a0.Lines)), .pv ((E5.ro ((a0.Edit.drop 0).take ((Int.toNat (if (0 : Int) > (IntKind.i64.wrap (((a0.Edit.length : Nat) : Int) - 1)) then 0 else (IntKind.i64.wrap (((a0.Edit.length : Nat) : Int) - 1)))) - 0))))]), (1, .box [.pv (.raw (.slice none 0 0)), .pv (.raw (.slice none 0 0))])] [25]) (sub_ok (ρ := [(0, some 16416), (1, some 16448)]) (l := [0 = 0, 0 = 0, (0 : Int) = 0, a0.Lines.length = a0.Lines.length, ∀ i, i < a0.Lines.length → ∀ j, j < 1 → E24.cf (a0.Lines.getD i E24.z) j = E24.cf (a0.Lines.getD i E24.z) j, ((Int.toNat (if (0 : Int) > (IntKind.i64.wrap (((a0.Edit.length : Nat) : Int) - 1)) then 0 else (IntKind.i64.wrap (((a0.Edit.length : Nat) : Int) - 1)))) - 0) = ((a0.Edit.drop 0).take ((Int.toNat (if (0 : Int) > (IntKind.i64.wrap (((a0.Edit.length : Nat) : Int) - 1)) then 0 else (IntKind.i64.wrap (((a0.Edit.length : Nat) : Int) - 1)))) - 0)).length, ∀ i, i < ((Int.toNat (if (0 : Int) > (IntKind.i64.wrap (((a0.Edit.length : Nat) : Int) - 1)) then 0 else (IntKind.i64.wrap (((a0.Edit.length : Nat) : Int) - 1)))) - 0) → ∀ j, j < 1 → E5.cf (a0.Edit.getD (0 + i) E5.z) j = E5.cf (((a0.Edit.drop 0).take ((Int.toNat (if (0 : Int) > (IntKind.i64.wrap (((a0.Edit.length : Nat) : Int) - 1)) then 0 else (IntKind.i64.wrap (((a0.Edit.length : Nat) : Int) - 1)))) - 0)).getD i E5.z) j]) (by as_aux_lemma => kernel_rfl) ⟨rfl, rfl, rfl, rfl, fun _ _ _ _ => rfl, (Elem.sub_len _ (by omega)), (Elem.sub_cf _ _ (by omega)), trivial⟩) ?_
            refine segs [] tabOk mixed 4000 (S := .leaf 0) (by as_aux_lemma => kernel_rfl) ?_
            refine sk_leaf ?_
            obtain ⟨r24, e25, h⟩ := bd_ h
            refine call_ok (d := some 70) (fn := 21) (ax := [.agg [.pv ((E24.ro a0.Lines)), .pv ((E5.ro ((a0.Edit.drop 0).take ((Int.toNat (if (0 : Int) > (IntKind.i64.wrap (((a0.Edit.length : Nat) : Int) - 1)) then 0 else (IntKind.i64.wrap (((a0.Edit.length : Nat) : Int) - 1)))) - 0))))]]) (args := [.agg [.pv ((E24.ro a0.Lines)), .pv ((E5.ro ((a0.Edit.drop 0).take ((Int.toNat (if (0 : Int) > (IntKind.i64.wrap (((a0.Edit.length : Nat) : Int) - 1)) then 0 else (IntKind.i64.wrap (((a0.Edit.length : Nat) : Int) - 1)))) - 0))))]]) (ps := [a0.Lines.length = a0.Lines.length, ∀ i, i < a0.Lines.length → ∀ j, j < 1 → E24.cf (a0.Lines.getD i E24.z) j = E24.cf (a0.Lines.getD i E24.z) j, ((a0.Edit.drop 0).take ((Int.toNat (if (0 : Int) > (IntKind.i64.wrap (((a0.Edit.length : Nat) : Int) - 1)) then 0 else (IntKind.i64.wrap (((a0.Edit.length : Nat) : Int) - 1)))) - 0)).length = ((a0.Edit.drop 0).take ((Int.toNat (if (0 : Int) > (IntKind.i64.wrap (((a0.Edit.length : Nat) : Int) - 1)) then 0 else (IntKind.i64.wrap (((a0.Edit.length : Nat) : Int) - 1)))) - 0)).length, ∀ i, i < ((a0.Edit.drop 0).take ((Int.toNat (if (0 : Int) > (IntKind.i64.wrap (((a0.Edit.length : Nat) : Int) - 1)) then 0 else (IntKind.i64.wrap (((a0.Edit.length : Nat) : Int) - 1)))) - 0)).length → ∀ j, j < 1 → E5.cf (((a0.Edit.drop 0).take ((Int.toNat (if (0 : Int) > (IntKind.i64.wrap (((a0.Edit.length : Nat) : Int) - 1)) then 0 else (IntKind.i64.wrap (((a0.Edit.length : Nat) : Int) - 1)))) - 0)).getD i E5.z) j = E5.cf (((a0.Edit.drop 0).take ((Int.toNat (if (0 : Int) > (IntKind.i64.wrap (((a0.Edit.length : Nat) : Int) - 1)) then 0 else (IntKind.i64.wrap (((a0.Edit.length : Nat) : Int) - 1)))) - 0)).getD i E5.z) j]) (hb' := [.row 24 1 (E24.cR r24.Lines), .row 5 1 (E5.cR r24.Edit)]) (by as_aux_lemma => kernel_rfl) (tty_own_ok _ _ e25) (by as_aux_lemma => kernel_rfl) ⟨rfl, fun _ _ _ _ => rfl, rfl, fun _ _ _ _ => rfl, trivial⟩ (fun _ => (by as_aux_lemma => kernel_rfl)) (by simp) (by simp only [List.map_cons, List.map_nil, Elem.row_up]) (by as_aux_lemma => kernel_rfl) ?_
            refine segs [20] tabOk mixed 4000 (S := .leaf 0) (by as_aux_lemma => kernel_rfl) ?_
            refine sk_leaf ?_
            obtain rfl := some_ h
            exact end_ok [(0, some 17504), (1, some 17505)] Try.results19 (ps := [0 = 0, r24.Lines.length = r24.Lines.length, 0 = 0, r24.Edit.length = r24.Edit.length, (0 : Int) = 0, E24.cR r24.Lines = E24.cR r24.Lines, AllPv (E24.cR r24.Lines), E5.cR r24.Edit = E5.cR r24.Edit, AllPv (E5.cR r24.Edit)]) (by as_aux_lemma => kernel_rfl) ⟨rfl, (by first | rfl | simp), rfl, (by first | rfl | simp), rfl, rfl, (Elem.cR_pv _ _), rfl, (Elem.cR_pv _ _), trivial⟩ (fun hx => by cases hx)
          · refine br_ h ?_ ?_ <;> clear h <;> intro c26 h
            · refine sk_leaf ?_
              refine cut_ok (by as_aux_lemma => kernel_rfl) (τ := mk 71 [(2, .ptr 0 0), (4, .ptr 1 0), (5, .pv (.raw (.int .i64 0)))] [(0, .box [.pv ((E24.ro a0.Lines)), .pv (.raw (.slice none 0 0))]), (1, .box [.pv (.raw (.slice none 0 0)), .pv (.raw (.slice none 0 0))])] [25]) (sub_ok (ρ := [(0, some 16416), (1, some 16448)]) (l := [0 = 0, 0 = 0, (0 : Int) = 0, a0.Lines.length = a0.Lines.length, ∀ i, i < a0.Lines.length → ∀ j, j < 1 → E24.cf (a0.Lines.getD i E24.z) j = E24.cf (a0.Lines.getD i E24.z) j]) (by as_aux_lemma => kernel_rfl) ⟨rfl, rfl, rfl, rfl, fun _ _ _ _ => rfl, trivial⟩) ?_
              refine segs [] tabOk mixed 4000 (S := .leaf 0) (by as_aux_lemma => kernel_rfl) ?_
              refine sk_leaf ?_
              obtain ⟨r27, e28, h⟩ := bd_ h
              refine call_ok (d := some 70) (fn := 21) (ax := [.agg [.pv ((E24.ro a0.Lines)), .pv (.raw (.slice none 0 0))]]) (args := [.agg [.pv ((E24.ro a0.Lines)), .pv ((E5.ro ([] : List Int)))]]) (ps := [a0.Lines.length = a0.Lines.length, ∀ i, i < a0.Lines.length → ∀ j, j < 1 → E24.cf (a0.Lines.getD i E24.z) j = E24.cf (a0.Lines.getD i E24.z) j, ([] : List Int).length = 0]) (hb' := [.row 24 1 (E24.cR r27.Lines), .row 5 1 (E5.cR r27.Edit)]) (by as_aux_lemma => kernel_rfl) (tty_own_ok _ _ e28) (by as_aux_lemma => kernel_rfl) ⟨rfl, fun _ _ _ _ => rfl, rfl, trivial⟩ (fun _ => (by as_aux_lemma => kernel_rfl)) (by simp) (by simp only [List.map_cons, List.map_nil, Elem.row_up]) (by as_aux_lemma => kernel_rfl) ?_
              refine segs [20] tabOk mixed 4000 (S := .leaf 0) (by as_aux_lemma => kernel_rfl) ?_
              refine sk_leaf ?_
              obtain rfl := some_ h
              exact end_ok [(0, some 17504), (1, some 17505)] Try.results19 (ps := [0 = 0, r27.Lines.length = r27.Lines.length, 0 = 0, r27.Edit.length = r27.Edit.length, (0 : Int) = 0, E24.cR r27.Lines = E24.cR r27.Lines, AllPv (E24.cR r27.Lines), E5.cR r27.Edit = E5.cR r27.Edit, AllPv (E5.cR r27.Edit)]) (by as_aux_lemma => kernel_rfl) ⟨rfl, (by first | rfl | simp), rfl, (by first | rfl | simp), rfl, rfl, (Elem.cR_pv _ _), rfl, (Elem.cR_pv _ _), trivial⟩ (fun hx => by cases hx)
            · refine br_ h ?_ ?_ <;> clear h <;> intro c29 h
              · refine sk_leaf ?_
                obtain ⟨r30, e31, h⟩ := bd_ h
                refine call_ok (d := some 66) (fn := 26) (ax := [.pv ((E5.ro a0.Edit))]) (args := [.pv ((E5.ro a0.Edit))]) (ps := [a0.Edit.length = a0.Edit.length, ∀ i, i < a0.Edit.length → ∀ j, j < 1 → E5.cf (a0.Edit.getD i E5.z) j = E5.cf (a0.Edit.getD i E5.z) j]) (hb' := []) (by as_aux_lemma => kernel_rfl) (tty_word_ok _ _ e31 (al := true)) (by as_aux_lemma => kernel_rfl) ⟨rfl, fun _ _ _ _ => rfl, trivial⟩ (fun _ => (by as_aux_lemma => kernel_rfl)) (by simp) rfl (by as_aux_lemma => kernel_rfl) ?_
                refine segs [20] tabOk mixed 4000 (S := .and (0 ≤ (r30 : Int)) (.and ((Int.toNat r30) ≤ a0.Edit.length) (.leaf 0))) (by as_aux_lemma => kernel_rfl) ?_
                refine gd_ h ?_; clear h; intro g32 h
                refine gd_ h ?_; clear h; intro g33 h
                refine sk_leaf ?_
                refine cut_ok (by as_aux_lemma => kernel_rfl) (τ := mk 71 [(2, .ptr 0 0), (4, .ptr 1 0), (5, .pv (.raw (.int .i64 0)))] [(0, .box [.pv ((E24.ro a0.Lines)), .pv ((E5.ro ((a0.Edit.drop 0).take ((Int.toNat r30) - 0))))]), (1, .box [.pv (.raw (.slice none 0 0)), .pv (.raw (.slice none 0 0))])] [25]) (sub_ok (ρ := [(0, some 16416), (1, some 16448)]) (l := [0 = 0, 0 = 0, (0 : Int) = 0, a0.Lines.length = a0.Lines.length, ∀ i, i < a0.Lines.length → ∀ j, j < 1 → E24.cf (a0.Lines.getD i E24.z) j = E24.cf (a0.Lines.getD i E24.z) j, ((Int.toNat r30) - 0) = ((a0.Edit.drop 0).take ((Int.toNat r30) - 0)).length, ∀ i, i < ((Int.toNat r30) - 0) → ∀ j, j < 1 → E5.cf (a0.Edit.getD (0 + i) E5.z) j = E5.cf (((a0.Edit.drop 0).take ((Int.toNat r30) - 0)).getD i E5.z) j]) (by as_aux_lemma => kernel_rfl) ⟨rfl, rfl, rfl, rfl, fun _ _ _ _ => rfl, (Elem.sub_len _ (by omega)), (Elem.sub_cf _ _ (by omega)), trivial⟩) ?_
                refine segs [] tabOk mixed 4000 (S := .leaf 0) (by as_aux_lemma => kernel_rfl) ?_
                refine sk_leaf ?_
                obtain ⟨r34, e35, h⟩ := bd_ h
                refine call_ok (d := some 70) (fn := 21) (ax := [.agg [.pv ((E24.ro a0.Lines)), .pv ((E5.ro ((a0.Edit.drop 0).take ((Int.toNat r30) - 0))))]]) (args := [.agg [.pv ((E24.ro a0.Lines)), .pv ((E5.ro ((a0.Edit.drop 0).take ((Int.toNat r30) - 0))))]]) (ps := [a0.Lines.length = a0.Lines.length, ∀ i, i < a0.Lines.length → ∀ j, j < 1 → E24.cf (a0.Lines.getD i E24.z) j = E24.cf (a0.Lines.getD i E24.z) j, ((a0.Edit.drop 0).take ((Int.toNat r30) - 0)).length = ((a0.Edit.drop 0).take ((Int.toNat r30) - 0)).length, ∀ i, i < ((a0.Edit.drop 0).take ((Int.toNat r30) - 0)).length → ∀ j, j < 1 → E5.cf (((a0.Edit.drop 0).take ((Int.toNat r30) - 0)).getD i E5.z) j = E5.cf (((a0.Edit.drop 0).take ((Int.toNat r30) - 0)).getD i E5.z) j]) (hb' := [.row 24 1 (E24.cR r34.Lines), .row 5 1 (E5.cR r34.Edit)]) (by as_aux_lemma => kernel_rfl) (tty_own_ok _ _ e35) (by as_aux_lemma => kernel_rfl) ⟨rfl, fun _ _ _ _ => rfl, rfl, fun _ _ _ _ => rfl, trivial⟩ (fun _ => (by as_aux_lemma => kernel_rfl)) (by simp) (by simp only [List.map_cons, List.map_nil, Elem.row_up]) (by as_aux_lemma => kernel_rfl) ?_
                refine segs [20] tabOk mixed 4000 (S := .leaf 0) (by as_aux_lemma => kernel_rfl) ?_
                refine sk_leaf ?_
                obtain rfl := some_ h
                exact end_ok [(0, some 17504), (1, some 17505)] Try.results19 (ps := [0 = 0, r34.Lines.length = r34.Lines.length, 0 = 0, r34.Edit.length = r34.Edit.length, (0 : Int) = 0, E24.cR r34.Lines = E24.cR r34.Lines, AllPv (E24.cR r34.Lines), E5.cR r34.Edit = E5.cR r34.Edit, AllPv (E5.cR r34.Edit)]) (by as_aux_lemma => kernel_rfl) ⟨rfl, (by first | rfl | simp), rfl, (by first | rfl | simp), rfl, rfl, (Elem.cR_pv _ _), rfl, (Elem.cR_pv _ _), trivial⟩ (fun hx => by cases hx)
              · refine br_ h ?_ ?_ <;> clear h <;> intro c36 h
                · refine sk_leaf ?_
                  obtain rfl := some_ h
                  exact end_ok [(0, none), (1, none)] Try.results19 (ps := [0 = 0, ([] : List (List Int)).length = 0, 0 = 0, ([] : List Int).length = 0, (4 : Int) = 4, E24.cR [] = [], E5.cR [] = []]) (by as_aux_lemma => kernel_rfl) ⟨rfl, rfl, rfl, rfl, rfl, rfl, rfl, trivial⟩ (fun hx => by cases hx)
                · refine sk_leaf ?_
                  obtain ⟨r37, e38, h⟩ := bd_ h
                  refine call_ok (d := some 35) (fn := 22) (ax := [.pv ((E5.ro a0.Edit))]) (args := [.pv ((E5.ro a0.Edit))]) (ps := [a0.Edit.length = a0.Edit.length, ∀ i, i < a0.Edit.length → ∀ j, j < 1 → E5.cf (a0.Edit.getD i E5.z) j = E5.cf (a0.Edit.getD i E5.z) j]) (hb' := [.row 5 1 (E5.cR r37)]) (by as_aux_lemma => kernel_rfl) (bytes_Clone_ok _ _ e38 (al := true)) (by as_aux_lemma => kernel_rfl) ⟨rfl, fun _ _ _ _ => rfl, trivial⟩ (fun _ => (by as_aux_lemma => kernel_rfl)) (by simp) (by simp only [List.map_cons, List.map_nil, Elem.row_up]) (by as_aux_lemma => kernel_rfl) ?_
                  refine segs [20] tabOk mixed 4000 (S := .leaf 0) (by as_aux_lemma => kernel_rfl) ?_
                  refine sk_leaf ?_
                  refine bs_ok (d := 37) (e := 5) (s := 1) (n := 1) (cs := [.pv (.raw (.int .u8 a1))]) (cs' := E5.cR [a1]) (by as_aux_lemma => kernel_rfl) rfl (by as_aux_lemma => kernel_rfl) ?_
                  refine segs [20] tabOk mixed 4000 (S := .leaf 0) (by as_aux_lemma => kernel_rfl) ?_
                  refine sk_leaf ?_
                  obtain ⟨g39, h⟩ := if_ h
                  refine app_ok (d := 38) (e := 5) (s := 1) (b := 1) (x := .row 16944 1 0 r37.length) (y := .row 16976 1 0 1) E5 (xs := r37) (ys := [a1]) (by as_aux_lemma => kernel_rfl) rfl (.row 16944 r37 r37.length rfl (by as_aux_lemma => kernel_rfl)) (.all 16976 5 [a1] 1 rfl (by as_aux_lemma => kernel_rfl)) g39 (by as_aux_lemma => kernel_rfl) ?_
                  refine segs [20] tabOk mixed 4000 (S := .leaf 0) (by as_aux_lemma => kernel_rfl) ?_
                  refine sk_leaf ?_
                  refine cut_ok (by as_aux_lemma => kernel_rfl) (τ := mk 71 [(2, .ptr 0 0), (4, .ptr 1 0), (5, .pv (.raw (.int .i64 0)))] [(0, .box [.pv ((E24.ro a0.Lines)), .pv ((E5.ro (r37 ++ [a1])))]), (1, .box [.pv (.raw (.slice none 0 0)), .pv (.raw (.slice none 0 0))])] [25]) (sub_ok (ρ := [(0, some 16416), (1, some 16448)]) (l := [0 = 0, 0 = 0, (0 : Int) = 0, a0.Lines.length = a0.Lines.length, ∀ i, i < a0.Lines.length → ∀ j, j < 1 → E24.cf (a0.Lines.getD i E24.z) j = E24.cf (a0.Lines.getD i E24.z) j, ((r37 ++ [a1]).length) = (r37 ++ [a1]).length, rowQ (E5.cR (r37 ++ [a1])) 1 0 ((r37 ++ [a1]).length) (fun i j => E5.cf ((r37 ++ [a1]).getD i E5.z) j)]) (by as_aux_lemma => kernel_rfl) ⟨rfl, rfl, rfl, rfl, fun _ _ _ _ => rfl, (by first | rfl | exact Elem.sub_len _ (by omega) | simp | (simp <;> omega)), E5.rowQ_all (r37 ++ [a1]) rfl, trivial⟩) ?_
                  refine segs [] tabOk mixed 4000 (S := .leaf 0) (by as_aux_lemma => kernel_rfl) ?_
                  refine sk_leaf ?_
                  obtain ⟨r40, e41, h⟩ := bd_ h
                  refine call_ok (d := some 70) (fn := 21) (ax := [.agg [.pv ((E24.ro a0.Lines)), .pv ((E5.ro (r37 ++ [a1])))]]) (args := [.agg [.pv ((E24.ro a0.Lines)), .pv ((E5.ro (r37 ++ [a1])))]]) (ps := [a0.Lines.length = a0.Lines.length, ∀ i, i < a0.Lines.length → ∀ j, j < 1 → E24.cf (a0.Lines.getD i E24.z) j = E24.cf (a0.Lines.getD i E24.z) j, (r37 ++ [a1]).length = (r37 ++ [a1]).length, ∀ i, i < (r37 ++ [a1]).length → ∀ j, j < 1 → E5.cf ((r37 ++ [a1]).getD i E5.z) j = E5.cf ((r37 ++ [a1]).getD i E5.z) j]) (hb' := [.row 24 1 (E24.cR r40.Lines), .row 5 1 (E5.cR r40.Edit)]) (by as_aux_lemma => kernel_rfl) (tty_own_ok _ _ e41) (by as_aux_lemma => kernel_rfl) ⟨rfl, fun _ _ _ _ => rfl, rfl, fun _ _ _ _ => rfl, trivial⟩ (fun _ => (by as_aux_lemma => kernel_rfl)) (by simp) (by simp only [List.map_cons, List.map_nil, Elem.row_up]) (by as_aux_lemma => kernel_rfl) ?_
                  refine segs [20] tabOk mixed 4000 (S := .leaf 0) (by as_aux_lemma => kernel_rfl) ?_
                  refine sk_leaf ?_
                  obtain rfl := some_ h
                  exact end_ok [(0, some 17504), (1, some 17505)] Try.results19 (ps := [0 = 0, r40.Lines.length = r40.Lines.length, 0 = 0, r40.Edit.length = r40.Edit.length, (0 : Int) = 0, E24.cR r40.Lines = E24.cR r40.Lines, AllPv (E24.cR r40.Lines), E5.cR r40.Edit = E5.cR r40.Edit, AllPv (E5.cR r40.Edit)]) (by as_aux_lemma => kernel_rfl) ⟨rfl, (by first | rfl | simp), rfl, (by first | rfl | simp), rfl, rfl, (Elem.cR_pv _ _), rfl, (Elem.cR_pv _ _), trivial⟩ (fun hx => by cases hx)

set_option maxHeartbeats 40000000 in
set_option maxRecDepth 100000 in
theorem tty_Type_ok (a0 : (List Int)) (r : Api_Tty) (h : tty_Type a0 = some r) : PCalls Try.prog 11 [.pv ((E5.ro a0))] true (.agg [.pv ((E24.ro r.Lines)), .pv ((E5.ro r.Edit))]) [] := by
  unfold tty_Type at h
  refine fn_ok tabOk Try.func11 (by as_aux_lemma => kernel_rfl) (by as_aux_lemma => kernel_rfl) Try.ntmps11 (by simp) ?_
  refine segs [5] tabOk mixed 4000 (S := .leaf 0) (by as_aux_lemma => kernel_rfl) ?_
  refine sk_leaf ?_
  refine len_ro (by as_aux_lemma => kernel_rfl) 8 (s := 1) (n := a0.length) (c := fun i j => E5.cf (a0.getD i E5.z) j) (by as_aux_lemma => kernel_rfl) ?_; intro hl1_0
  replace h : (fun (x : Nat × Nat × List (List Int) × List Int) => tty_Type_l1 a0 x.1 x.2.1 x.2.2.1 x.2.2.2 = some r) (FUEL, 0, ([] : List (List Int)), ([] : List Int)) := h
  refine loop_ok (by as_aux_lemma => kernel_rfl) (X := Nat × Nat × List (List Int) × List Int) (fun x => tty_Type_l1 a0 x.1 x.2.1 x.2.2.1 x.2.2.2 = some r) (fun x => x.1) (fun x => mk 25 [(2, .ptr 0 0), (3, .ptr 1 0), (8, .pv ((E5.ro a0))), (9, .pv (.raw (.int .i64 ((a0.length : Nat) : Int)))), (10, .pv (.raw (.int .i64 ((x.2.1 : Nat) : Int))))] [(0, .box [.pv (.raw (.slice none 0 0)), .pv (.raw (.slice none 0 0))]), (1, .box [.pv ((E24.ro x.2.2.1)), .pv ((E5.ro x.2.2.2))])]) (FUEL, 0, ([] : List (List Int)), ([] : List Int)) h ?_ ?_
  · exact sub_ok (ρ := [(0, some 16416), (1, some 16432)]) (l := [0 = 0, 0 = 0, a0.length = a0.length, ∀ i, i < a0.length → ∀ j, j < 1 → E5.cf (a0.getD i E5.z) j = E5.cf (a0.getD i E5.z) j, (((a0.length : Nat) : Int) : Int) = ((a0.length : Nat) : Int), (0 : Int) = ((0 : Nat) : Int), ([] : List (List Int)).length = 0, ([] : List Int).length = 0]) (by as_aux_lemma => kernel_rfl) ⟨rfl, rfl, rfl, fun _ _ _ _ => rfl, rfl, (by first | rfl | simp), rfl, rfl, trivial⟩
  · clear h; rintro ⟨n1, k1, l2, l3⟩ h p1 hp1
    obtain _ | n1 := n1
    · cases (show (none : Option (Api_Tty)) = some r from h)
    have h : tty_Type_l1 a0 (n1 + 1) k1 l2 l3 = some r := h
    unfold tty_Type_l1 at h
    refine segs [5] tabOk mixed 4000 (S := .br (decide ((((k1 : Nat) : Int) : Int) < ((a0.length : Nat) : Int))) (.and (0 ≤ (((k1 : Nat) : Int) : Int) ∧ ((k1 : Nat) : Int) < ((a0.length : Nat) : Int)) (.leaf 0)) (.leaf 1)) (by as_aux_lemma => kernel_rfl) ?_
    refine br_ h ?_ ?_ <;> clear h <;> intro c4 h
    · refine sk_and ⟨Int.natCast_nonneg _, of_decide_eq_true c4⟩ ?_
      refine sk_leaf ?_
      refine cut_ok (by as_aux_lemma => kernel_rfl) (τ := mk 25 [(2, .ptr 0 0), (3, .ptr 1 0), (5, .pv (.raw (.int .u8 (a0.getD k1 0)))), (8, .pv ((E5.ro a0))), (9, .pv (.raw (.int .i64 ((a0.length : Nat) : Int)))), (10, .pv (.raw (.int .i64 ((k1 : Nat) : Int))))] [(0, .box [.pv (.raw (.slice none 0 0)), .pv (.raw (.slice none 0 0))]), (1, .box [.pv ((E24.ro l2)), .pv ((E5.ro l3))])]) (sub_ok (ρ := [(0, some 0), (1, some 1)]) (l := [0 = 0, 0 = 0, ((a0.getD k1 0) : Int) = (a0.getD k1 0), a0.length = a0.length, ∀ i, i < a0.length → ∀ j, j < 1 → E5.cf (a0.getD i E5.z) j = E5.cf (a0.getD i E5.z) j, (((a0.length : Nat) : Int) : Int) = ((a0.length : Nat) : Int), (((k1 : Nat) : Int) : Int) = ((k1 : Nat) : Int), l2.length = l2.length, ∀ i, i < l2.length → ∀ j, j < 1 → E24.cf (l2.getD i E24.z) j = E24.cf (l2.getD i E24.z) j, l3.length = l3.length, ∀ i, i < l3.length → ∀ j, j < 1 → E5.cf (l3.getD i E5.z) j = E5.cf (l3.getD i E5.z) j]) (by as_aux_lemma => kernel_rfl) ⟨rfl, rfl, rfl, rfl, fun _ _ _ _ => rfl, rfl, rfl, rfl, fun _ _ _ _ => rfl, rfl, fun _ _ _ _ => rfl, trivial⟩) ?_
      refine segs [] tabOk mixed 4000 (S := .leaf 0) (by as_aux_lemma => kernel_rfl) ?_
      refine sk_leaf ?_
      obtain ⟨r6, e7, h⟩ := bd_ h
      refine call_ok (d := some 17) (fn := 19) (ax := [.agg [.pv ((E24.ro l2)), .pv ((E5.ro l3))], .pv (.raw (.int .u8 (a0.getD k1 0)))]) (args := [.agg [.pv ((E24.ro l2)), .pv ((E5.ro l3))], .pv (.raw (.int .u8 (a0.getD k1 0)))]) (ps := [l2.length = l2.length, ∀ i, i < l2.length → ∀ j, j < 1 → E24.cf (l2.getD i E24.z) j = E24.cf (l2.getD i E24.z) j, l3.length = l3.length, ∀ i, i < l3.length → ∀ j, j < 1 → E5.cf (l3.getD i E5.z) j = E5.cf (l3.getD i E5.z) j, ((a0.getD k1 0) : Int) = (a0.getD k1 0)]) (hb' := [.row 24 1 (E24.cR r6.1.Lines), .row 5 1 (E5.cR r6.1.Edit)]) (by as_aux_lemma => kernel_rfl) (tty_Key_ok _ _ _ e7) (by as_aux_lemma => kernel_rfl) ⟨rfl, fun _ _ _ _ => rfl, rfl, fun _ _ _ _ => rfl, rfl, trivial⟩ (fun _ => (by as_aux_lemma => kernel_rfl)) (by simp) (by simp only [List.map_cons, List.map_nil, Elem.row_up]) (by as_aux_lemma => kernel_rfl) ?_
      refine segs [5] tabOk mixed 4000 (S := .br ((r6.2 : Int) == 0) (.leaf 0) (.leaf 1)) (by as_aux_lemma => kernel_rfl) ?_
      refine br_ h ?_ ?_ <;> clear h <;> intro c8 h
      · refine sk_leaf ?_
        refine back_ok (p := p1) (by as_aux_lemma => kernel_rfl) (hp1 (n1, k1 + 1, r6.1.Lines, r6.1.Edit) _ h (Nat.lt_succ_self n1) ?_)
        exact sub_ok (ρ := [(0, some 0), (1, some 1)]) (l := [0 = 0, 0 = 0, a0.length = a0.length, ∀ i, i < a0.length → ∀ j, j < 1 → E5.cf (a0.getD i E5.z) j = E5.cf (a0.getD i E5.z) j, (((a0.length : Nat) : Int) : Int) = ((a0.length : Nat) : Int), ((IntKind.i64.wrap (((k1 : Nat) : Int) + 1)) : Int) = (((k1 + 1) : Nat) : Int), r6.1.Lines.length = r6.1.Lines.length, rowQ (E24.cR r6.1.Lines) 1 0 r6.1.Lines.length (fun i j => E24.cf (r6.1.Lines.getD i E24.z) j), r6.1.Edit.length = r6.1.Edit.length, rowQ (E5.cR r6.1.Edit) 1 0 r6.1.Edit.length (fun i j => E5.cf (r6.1.Edit.getD i E5.z) j)]) (by as_aux_lemma => kernel_rfl) ⟨rfl, rfl, rfl, fun _ _ _ _ => rfl, rfl, (wrap_nat (Int.ofNat_lt.1 (of_decide_eq_true c4)) (by omega)), (by first | rfl | exact Elem.sub_len _ (by omega) | simp | (simp <;> omega)), E24.rowQ_all r6.1.Lines rfl, (by first | rfl | exact Elem.sub_len _ (by omega) | simp | (simp <;> omega)), E5.rowQ_all r6.1.Edit rfl, trivial⟩
      · refine sk_leaf ?_
        refine back_ok (p := p1) (by as_aux_lemma => kernel_rfl) (hp1 (n1, k1 + 1, l2, l3) _ h (Nat.lt_succ_self n1) ?_)
        exact sub_ok (ρ := [(0, some 0), (1, some 1)]) (l := [0 = 0, 0 = 0, a0.length = a0.length, ∀ i, i < a0.length → ∀ j, j < 1 → E5.cf (a0.getD i E5.z) j = E5.cf (a0.getD i E5.z) j, (((a0.length : Nat) : Int) : Int) = ((a0.length : Nat) : Int), ((IntKind.i64.wrap (((k1 : Nat) : Int) + 1)) : Int) = (((k1 + 1) : Nat) : Int), l2.length = l2.length, ∀ i, i < l2.length → ∀ j, j < 1 → E24.cf (l2.getD i E24.z) j = E24.cf (l2.getD i E24.z) j, l3.length = l3.length, ∀ i, i < l3.length → ∀ j, j < 1 → E5.cf (l3.getD i E5.z) j = E5.cf (l3.getD i E5.z) j]) (by as_aux_lemma => kernel_rfl) ⟨rfl, rfl, rfl, fun _ _ _ _ => rfl, rfl, (wrap_nat (Int.ofNat_lt.1 (of_decide_eq_true c4)) (by omega)), rfl, fun _ _ _ _ => rfl, rfl, fun _ _ _ _ => rfl, trivial⟩
    · refine sk_leaf ?_
      obtain rfl := some_ h
      exact end_ok [] Try.results11 (ps := [l2.length = l2.length, ∀ i, i < l2.length → ∀ j, j < 1 → E24.cf (l2.getD i E24.z) j = E24.cf (l2.getD i E24.z) j, l3.length = l3.length, ∀ i, i < l3.length → ∀ j, j < 1 → E5.cf (l3.getD i E5.z) j = E5.cf (l3.getD i E5.z) j]) (by as_aux_lemma => kernel_rfl) ⟨rfl, fun _ _ _ _ => rfl, rfl, fun _ _ _ _ => rfl, trivial⟩ (fun hx => by cases hx)

set_option maxHeartbeats 40000000 in
set_option maxRecDepth 100000 in
theorem tty_Read_ok (a0 : Api_Tty) (a1 : Int) (r : Api_Tty × (List Int) × Int) (h : tty_Read a0 a1 = some r) : PCalls Try.prog 12 [.agg [.pv ((E24.ro a0.Lines)), .pv ((E5.ro a0.Edit))], .pv (.raw (.int .i64 a1))] true (.tup [.agg [.pv ((E24.ro r.1.Lines)), .row 0 1 0 r.1.Edit.length], .row 1 1 0 r.2.1.length, .pv (.raw (.int .i64 r.2.2))]) [.row 5 1 (E5.cR r.1.Edit), .row 5 1 (E5.cR r.2.1)] := by
  unfold tty_Read at h
  refine fn_ok tabOk Try.func12 (by as_aux_lemma => kernel_rfl) (by as_aux_lemma => kernel_rfl) Try.ntmps12 (by simp) ?_
  refine segs [] tabOk mixed 4000 (S := .leaf 0) (by as_aux_lemma => kernel_rfl) ?_
  refine sk_leaf ?_
  obtain ⟨r1, e2, h⟩ := bd_ h
  refine call_ok (d := some 13) (fn := 20) (ax := [.agg [.pv ((E24.ro a0.Lines)), .pv ((E5.ro a0.Edit))]]) (args := [.agg [.pv ((E24.ro a0.Lines)), .pv ((E5.ro a0.Edit))]]) (ps := [a0.Lines.length = a0.Lines.length, ∀ i, i < a0.Lines.length → ∀ j, j < 1 → E24.cf (a0.Lines.getD i E24.z) j = E24.cf (a0.Lines.getD i E24.z) j, a0.Edit.length = a0.Edit.length, ∀ i, i < a0.Edit.length → ∀ j, j < 1 → E5.cf (a0.Edit.getD i E5.z) j = E5.cf (a0.Edit.getD i E5.z) j]) (hb' := []) (by as_aux_lemma => kernel_rfl) (tty_Right_ok _ _ e2 (al := true)) (by as_aux_lemma => kernel_rfl) ⟨rfl, fun _ _ _ _ => rfl, rfl, fun _ _ _ _ => rfl, trivial⟩ (fun _ => (by as_aux_lemma => kernel_rfl)) (by simp) rfl (by as_aux_lemma => kernel_rfl) ?_
  refine segs [] tabOk mixed 4000 (S := .br (!r1) (.leaf 0) (.br (decide ((a1 : Int) < 1)) (.leaf 1) (.br ((((a0.Lines.length : Nat) : Int) : Int) == 0) (.leaf 2) (.leaf 3)))) (by as_aux_lemma => kernel_rfl) ?_
  refine br_ h ?_ ?_ <;> clear h <;> intro c3 h
  · refine sk_leaf ?_
    obtain rfl := some_ h
    exact end_ok [(0, none), (1, none)] Try.results12 (ps := [([] : List (List Int)).length = 0, 0 = 0, ([] : List Int).length = 0, 0 = 0, ([] : List Int).length = 0, (1 : Int) = 1, E5.cR [] = [], E5.cR [] = []]) (by as_aux_lemma => kernel_rfl) ⟨rfl, rfl, rfl, rfl, rfl, rfl, rfl, rfl, trivial⟩ (fun hx => by cases hx)
  · refine br_ h ?_ ?_ <;> clear h <;> intro c4 h
    · refine sk_leaf ?_
      obtain rfl := some_ h
      exact end_ok [(0, none), (1, none)] Try.results12 (ps := [([] : List (List Int)).length = 0, 0 = 0, ([] : List Int).length = 0, 0 = 0, ([] : List Int).length = 0, (2 : Int) = 2, E5.cR [] = [], E5.cR [] = []]) (by as_aux_lemma => kernel_rfl) ⟨rfl, rfl, rfl, rfl, rfl, rfl, rfl, rfl, trivial⟩ (fun hx => by cases hx)
    · refine br_ h ?_ ?_ <;> clear h <;> intro c5 h
      · refine sk_leaf ?_
        obtain rfl := some_ h
        exact end_ok [(0, none), (1, none)] Try.results12 (ps := [([] : List (List Int)).length = 0, 0 = 0, ([] : List Int).length = 0, 0 = 0, ([] : List Int).length = 0, (7 : Int) = 7, E5.cR [] = [], E5.cR [] = []]) (by as_aux_lemma => kernel_rfl) ⟨rfl, rfl, rfl, rfl, rfl, rfl, rfl, rfl, trivial⟩ (fun hx => by cases hx)
      · refine sk_leaf ?_
        obtain ⟨r6, e7, h⟩ := bd_ h
        refine call_ok (d := some 27) (fn := 21) (ax := [.agg [.pv ((E24.ro a0.Lines)), .pv ((E5.ro a0.Edit))]]) (args := [.agg [.pv ((E24.ro a0.Lines)), .pv ((E5.ro a0.Edit))]]) (ps := [a0.Lines.length = a0.Lines.length, ∀ i, i < a0.Lines.length → ∀ j, j < 1 → E24.cf (a0.Lines.getD i E24.z) j = E24.cf (a0.Lines.getD i E24.z) j, a0.Edit.length = a0.Edit.length, ∀ i, i < a0.Edit.length → ∀ j, j < 1 → E5.cf (a0.Edit.getD i E5.z) j = E5.cf (a0.Edit.getD i E5.z) j]) (hb' := [.row 24 1 (E24.cR r6.Lines), .row 5 1 (E5.cR r6.Edit)]) (by as_aux_lemma => kernel_rfl) (tty_own_ok _ _ e7) (by as_aux_lemma => kernel_rfl) ⟨rfl, fun _ _ _ _ => rfl, rfl, fun _ _ _ _ => rfl, trivial⟩ (fun _ => (by as_aux_lemma => kernel_rfl)) (by simp) (by simp only [List.map_cons, List.map_nil, Elem.row_up]) (by as_aux_lemma => kernel_rfl) ?_
        refine segs [] tabOk mixed 4000 (S := .and (0 ≤ (0 : Int) ∧ 0 < ((r6.Lines.length : Nat) : Int)) (.leaf 0)) (by as_aux_lemma => kernel_rfl) ?_
        refine gd_ h ?_; clear h; intro g8 h
        refine sk_leaf ?_
        refine ld_ok (d := 31) (id := 16816) (i := (0 + 0)) (j := 0) (e := 24) (n := 1) E24 (xs := r6.Lines) (by as_aux_lemma => kernel_rfl) (by as_aux_lemma => kernel_rfl) (by first | omega | (simp at * <;> omega) | (simp_all <;> omega)) (by exact Nat.le_of_ble_eq_true rfl) ?_
        refine segs [] tabOk mixed 4000 (S := .and (0 ≤ ((if ((((r6.Lines.getD (0 + 0) []).length : Nat) : Int) : Int) < a1 then (((r6.Lines.getD (0 + 0) []).length : Nat) : Int) else a1) : Int)) (.and ((Int.toNat (if ((((r6.Lines.getD (0 + 0) []).length : Nat) : Int) : Int) < a1 then (((r6.Lines.getD (0 + 0) []).length : Nat) : Int) else a1)) ≤ ((r6.Lines.getD (0 + 0) []).length)) (.leaf 0))) (by as_aux_lemma => kernel_rfl) ?_
        refine gd_ h ?_; clear h; intro g9 h
        refine gd_ h ?_; clear h; intro g10 h
        refine sk_leaf ?_
        obtain ⟨r11, e12, h⟩ := bd_ h
        refine call_ok (d := some 39) (fn := 22) (ax := [.pv (.ro E5.s ((Int.toNat (if ((((r6.Lines.getD (0 + 0) []).length : Nat) : Int) : Int) < a1 then (((r6.Lines.getD (0 + 0) []).length : Nat) : Int) else a1)) - 0) (fun i j => E5.cf ((r6.Lines.getD (0 + 0) []).getD (0 + i) E5.z) j))]) (args := [.pv ((E5.ro (((r6.Lines.getD (0 + 0) []).drop 0).take ((Int.toNat (if ((((r6.Lines.getD (0 + 0) []).length : Nat) : Int) : Int) < a1 then (((r6.Lines.getD (0 + 0) []).length : Nat) : Int) else a1)) - 0))))]) (ps := [((Int.toNat (if ((((r6.Lines.getD (0 + 0) []).length : Nat) : Int) : Int) < a1 then (((r6.Lines.getD (0 + 0) []).length : Nat) : Int) else a1)) - 0) = (((r6.Lines.getD (0 + 0) []).drop 0).take ((Int.toNat (if ((((r6.Lines.getD (0 + 0) []).length : Nat) : Int) : Int) < a1 then (((r6.Lines.getD (0 + 0) []).length : Nat) : Int) else a1)) - 0)).length, ∀ i, i < ((Int.toNat (if ((((r6.Lines.getD (0 + 0) []).length : Nat) : Int) : Int) < a1 then (((r6.Lines.getD (0 + 0) []).length : Nat) : Int) else a1)) - 0) → ∀ j, j < 1 → E5.cf ((r6.Lines.getD (0 + 0) []).getD (0 + i) E5.z) j = E5.cf ((((r6.Lines.getD (0 + 0) []).drop 0).take ((Int.toNat (if ((((r6.Lines.getD (0 + 0) []).length : Nat) : Int) : Int) < a1 then (((r6.Lines.getD (0 + 0) []).length : Nat) : Int) else a1)) - 0)).getD i E5.z) j]) (hb' := [.row 5 1 (E5.cR r11)]) (by as_aux_lemma => kernel_rfl) (bytes_Clone_ok _ _ e12 (al := true)) (by as_aux_lemma => kernel_rfl) ⟨(Elem.sub_len _ (by omega)), (Elem.sub_cf _ _ (by omega)), trivial⟩ (fun _ => (by as_aux_lemma => kernel_rfl)) (by simp) (by simp only [List.map_cons, List.map_nil, Elem.row_up]) (by as_aux_lemma => kernel_rfl) ?_
        refine segs [] tabOk mixed 4000 (S := .br (((if ((((r6.Lines.getD (0 + 0) []).length : Nat) : Int) : Int) < a1 then (((r6.Lines.getD (0 + 0) []).length : Nat) : Int) else a1) : Int) == (((r6.Lines.getD (0 + 0) []).length : Nat) : Int)) (.and (0 ≤ (1 : Int)) (.and (1 ≤ r6.Lines.length) (.leaf 0))) (.and (0 ≤ ((if ((((r6.Lines.getD (0 + 0) []).length : Nat) : Int) : Int) < a1 then (((r6.Lines.getD (0 + 0) []).length : Nat) : Int) else a1) : Int)) (.and ((Int.toNat (if ((((r6.Lines.getD (0 + 0) []).length : Nat) : Int) : Int) < a1 then (((r6.Lines.getD (0 + 0) []).length : Nat) : Int) else a1)) ≤ ((r6.Lines.getD (0 + 0) []).length)) (.leaf 1)))) (by as_aux_lemma => kernel_rfl) ?_
        refine br_ h ?_ ?_ <;> clear h <;> intro c13 h
        · refine sk_and (by decide) ?_
          refine gd_ h ?_; clear h; intro g15 h
          refine sk_leaf ?_
          obtain rfl := some_ h
          exact end_ok [(0, some 16817), (1, some 17008)] Try.results12 (ps := [(r6.Lines.length - 1) = ((r6.Lines.drop (0 + 1)).take (r6.Lines.length - 1)).length, rowQ (E24.cR r6.Lines) 1 (0 + 1) (r6.Lines.length - 1) (fun i j => E24.cf (((r6.Lines.drop (0 + 1)).take (r6.Lines.length - 1)).getD i E24.z) j), 0 = 0, r6.Edit.length = r6.Edit.length, 0 = 0, r11.length = r11.length, (0 : Int) = 0, E5.cR r6.Edit = E5.cR r6.Edit, AllPv (E5.cR r6.Edit), E5.cR r11 = E5.cR r11, AllPv (E5.cR r11)]) (by as_aux_lemma => kernel_rfl) ⟨(by first | rfl | exact Elem.sub_len _ (by omega) | simp | (simp <;> omega)), E24.rowQ_part r6.Lines (0 + 1) (r6.Lines.length - 1) (by first | omega | (simp at * <;> omega) | (simp_all <;> omega)), rfl, (by first | rfl | simp), rfl, (by first | rfl | simp), rfl, rfl, (Elem.cR_pv _ _), rfl, (Elem.cR_pv _ _), trivial⟩ (fun hx => by cases hx)
        · refine gd_ h ?_; clear h; intro g16 h
          refine gd_ h ?_; clear h; intro g17 h
          refine sk_leaf ?_
          obtain ⟨r18, e19, h⟩ := bd_ h
          refine callF_ok (d := some 53) (fn := 22) (ax := [.pv (.ro E5.s (((r6.Lines.getD (0 + 0) []).length) - (Int.toNat (if ((((r6.Lines.getD (0 + 0) []).length : Nat) : Int) : Int) < a1 then (((r6.Lines.getD (0 + 0) []).length : Nat) : Int) else a1))) (fun i j => E5.cf ((r6.Lines.getD (0 + 0) []).getD ((Int.toNat (if ((((r6.Lines.getD (0 + 0) []).length : Nat) : Int) : Int) < a1 then (((r6.Lines.getD (0 + 0) []).length : Nat) : Int) else a1)) + i) E5.z) j))]) (args := [.pv ((E5.ro (((r6.Lines.getD (0 + 0) []).drop (Int.toNat (if ((((r6.Lines.getD (0 + 0) []).length : Nat) : Int) : Int) < a1 then (((r6.Lines.getD (0 + 0) []).length : Nat) : Int) else a1))).take (((r6.Lines.getD (0 + 0) []).length) - (Int.toNat (if ((((r6.Lines.getD (0 + 0) []).length : Nat) : Int) : Int) < a1 then (((r6.Lines.getD (0 + 0) []).length : Nat) : Int) else a1))))))]) (ps := [(((r6.Lines.getD (0 + 0) []).length) - (Int.toNat (if ((((r6.Lines.getD (0 + 0) []).length : Nat) : Int) : Int) < a1 then (((r6.Lines.getD (0 + 0) []).length : Nat) : Int) else a1))) = (((r6.Lines.getD (0 + 0) []).drop (Int.toNat (if ((((r6.Lines.getD (0 + 0) []).length : Nat) : Int) : Int) < a1 then (((r6.Lines.getD (0 + 0) []).length : Nat) : Int) else a1))).take (((r6.Lines.getD (0 + 0) []).length) - (Int.toNat (if ((((r6.Lines.getD (0 + 0) []).length : Nat) : Int) : Int) < a1 then (((r6.Lines.getD (0 + 0) []).length : Nat) : Int) else a1)))).length, ∀ i, i < (((r6.Lines.getD (0 + 0) []).length) - (Int.toNat (if ((((r6.Lines.getD (0 + 0) []).length : Nat) : Int) : Int) < a1 then (((r6.Lines.getD (0 + 0) []).length : Nat) : Int) else a1))) → ∀ j, j < 1 → E5.cf ((r6.Lines.getD (0 + 0) []).getD ((Int.toNat (if ((((r6.Lines.getD (0 + 0) []).length : Nat) : Int) : Int) < a1 then (((r6.Lines.getD (0 + 0) []).length : Nat) : Int) else a1)) + i) E5.z) j = E5.cf ((((r6.Lines.getD (0 + 0) []).drop (Int.toNat (if ((((r6.Lines.getD (0 + 0) []).length : Nat) : Int) : Int) < a1 then (((r6.Lines.getD (0 + 0) []).length : Nat) : Int) else a1))).take (((r6.Lines.getD (0 + 0) []).length) - (Int.toNat (if ((((r6.Lines.getD (0 + 0) []).length : Nat) : Int) : Int) < a1 then (((r6.Lines.getD (0 + 0) []).length : Nat) : Int) else a1)))).getD i E5.z) j]) (hb' := [.row 5 1 (E5.cR r18)]) (ps2 := [r18.length = r18.length, rowQ (E5.cR r18) 1 0 r18.length (fun i j => E5.cf (r18.getD i E5.z) j)]) (.pv ((E5.ro r18))) (by as_aux_lemma => kernel_rfl) (bytes_Clone_ok _ _ e19 (al := true)) (by as_aux_lemma => kernel_rfl) ⟨(Elem.sub_len _ (by omega)), (Elem.sub_cf _ _ (by omega)), trivial⟩ (fun _ => (by as_aux_lemma => kernel_rfl)) (by simp) (by simp only [List.map_cons, List.map_nil, Elem.row_up]) (by as_aux_lemma => kernel_rfl) (by as_aux_lemma => kernel_rfl) ⟨(by first | rfl | exact Elem.sub_len _ (by omega) | simp | (simp <;> omega)), E5.rowQ_all r18 rfl, trivial⟩ ?_
          refine segs [] tabOk mixed 4000 (S := .and (0 ≤ (0 : Int) ∧ 0 < ((r6.Lines.length : Nat) : Int)) (.leaf 0)) (by as_aux_lemma => kernel_rfl) ?_
          refine gd_ h ?_; clear h; intro g20 h
          refine sk_leaf ?_
          refine st_ok (id := 16816) (i := (0 + 0)) (j := 0) (e := 24) (vs := [.pv ((E5.ro r18))]) E24 (xs := r6.Lines) r18 (by as_aux_lemma => kernel_rfl) (by as_aux_lemma => kernel_rfl) (by first | omega | (simp at * <;> omega) | (simp_all <;> omega)) (by exact Nat.le_of_ble_eq_true rfl) rfl ?_
          refine segs [] tabOk mixed 4000 (S := .leaf 0) (by as_aux_lemma => kernel_rfl) ?_
          refine sk_leaf ?_
          obtain rfl := some_ h
          exact end_ok [(0, some 16817), (1, some 17008)] Try.results12 (ps := [r6.Lines.length = (r6.Lines.set (0 + 0) r18).length, rowQ (E24.cR (r6.Lines.set (0 + 0) r18)) 1 0 r6.Lines.length (fun i j => E24.cf ((r6.Lines.set (0 + 0) r18).getD i E24.z) j), 0 = 0, r6.Edit.length = r6.Edit.length, 0 = 0, r11.length = r11.length, (0 : Int) = 0, E5.cR r6.Edit = E5.cR r6.Edit, AllPv (E5.cR r6.Edit), E5.cR r11 = E5.cR r11, AllPv (E5.cR r11)]) (by as_aux_lemma => kernel_rfl) ⟨(by first | rfl | exact Elem.sub_len _ (by omega) | simp | (simp <;> omega)), E24.rowQ_all (r6.Lines.set (0 + 0) r18) (by simp), rfl, (by first | rfl | simp), rfl, (by first | rfl | simp), rfl, rfl, (Elem.cR_pv _ _), rfl, (Elem.cR_pv _ _), trivial⟩ (fun hx => by cases hx)

set_option maxHeartbeats 40000000 in
set_option maxRecDepth 100000 in
theorem keep_alive17_ok (r : Bool) (h : keep_alive17 = some r) {al : Bool} : PCalls Try.prog 7 [] al (.pv (.raw (.bool r))) [] := by
  unfold keep_alive17 at h
  refine fn_ok tabOk Try.func7 (by as_aux_lemma => kernel_rfl) (by as_aux_lemma => kernel_rfl) Try.ntmps7 (by simp) ?_
  refine segs [3] tabOk mixed 4000 (S := .leaf 0) (by as_aux_lemma => kernel_rfl) ?_
  refine sk_leaf ?_
  refine bs_ok (d := 5) (e := 5) (s := 1) (n := 13) (cs := [.pv (.raw (.int .u8 97)), .pv (.raw (.int .u8 98)), .pv (.raw (.int .u8 32)), .pv (.raw (.int .u8 8)), .pv (.raw (.int .u8 99)), .pv (.raw (.int .u8 23)), .pv (.raw (.int .u8 100)), .pv (.raw (.int .u8 101)), .pv (.raw (.int .u8 10)), .pv (.raw (.int .u8 120)), .pv (.raw (.int .u8 4)), .pv (.raw (.int .u8 121)), .pv (.raw (.int .u8 122))]) (cs' := E5.cR [97, 98, 32, 8, 99, 23, 100, 101, 10, 120, 4, 121, 122]) (by as_aux_lemma => kernel_rfl) rfl (by as_aux_lemma => kernel_rfl) ?_
  refine segs [3] tabOk mixed 4000 (S := .leaf 0) (by as_aux_lemma => kernel_rfl) ?_
  refine sk_leaf ?_
  refine cm_ok (d := 6) (id := 16464) (e := 5) (n := 13) E5 (xs := [97, 98, 32, 8, 99, 23, 100, 101, 10, 120, 4, 121, 122]) rfl (by as_aux_lemma => kernel_rfl) (by as_aux_lemma => kernel_rfl) rfl (by simp) ?_
  refine segs [3] tabOk mixed 4000 (S := .leaf 0) (by as_aux_lemma => kernel_rfl) ?_
  refine sk_leaf ?_
  obtain ⟨r1, e2, h⟩ := bd_ h
  refine call_ok (d := some 7) (fn := 11) (ax := [.pv ((E5.ro [97, 98, 32, 8, 99, 23, 100, 101, 10, 120, 4, 121, 122]))]) (args := [.pv ((E5.ro [97, 98, 32, 8, 99, 23, 100, 101, 10, 120, 4, 121, 122]))]) (ps := [[97, 98, 32, 8, 99, 23, 100, 101, 10, 120, 4, 121, 122].length = [97, 98, 32, 8, 99, 23, 100, 101, 10, 120, 4, 121, 122].length, ∀ i, i < [97, 98, 32, 8, 99, 23, 100, 101, 10, 120, 4, 121, 122].length → ∀ j, j < 1 → E5.cf ([97, 98, 32, 8, 99, 23, 100, 101, 10, 120, 4, 121, 122].getD i E5.z) j = E5.cf ([97, 98, 32, 8, 99, 23, 100, 101, 10, 120, 4, 121, 122].getD i E5.z) j]) (hb' := []) (by as_aux_lemma => kernel_rfl) (tty_Type_ok _ _ e2) (by as_aux_lemma => kernel_rfl) ⟨rfl, fun _ _ _ _ => rfl, trivial⟩ (fun _ => (by as_aux_lemma => kernel_rfl)) (by simp) rfl (by as_aux_lemma => kernel_rfl) ?_
  refine segs [3] tabOk mixed 4000 (S := .leaf 0) (by as_aux_lemma => kernel_rfl) ?_
  refine sk_leaf ?_
  obtain ⟨r3, e4, h⟩ := bd_ h
  refine call_ok (d := some 10) (fn := 12) (ax := [.agg [.pv ((E24.ro r1.Lines)), .pv ((E5.ro r1.Edit))], .pv (.raw (.int .i64 2))]) (args := [.agg [.pv ((E24.ro r1.Lines)), .pv ((E5.ro r1.Edit))], .pv (.raw (.int .i64 2))]) (ps := [r1.Lines.length = r1.Lines.length, ∀ i, i < r1.Lines.length → ∀ j, j < 1 → E24.cf (r1.Lines.getD i E24.z) j = E24.cf (r1.Lines.getD i E24.z) j, r1.Edit.length = r1.Edit.length, ∀ i, i < r1.Edit.length → ∀ j, j < 1 → E5.cf (r1.Edit.getD i E5.z) j = E5.cf (r1.Edit.getD i E5.z) j, (2 : Int) = 2]) (hb' := [.row 5 1 (E5.cR r3.1.Edit), .row 5 1 (E5.cR r3.2.1)]) (by as_aux_lemma => kernel_rfl) (tty_Read_ok _ _ _ e4) (by as_aux_lemma => kernel_rfl) ⟨rfl, fun _ _ _ _ => rfl, rfl, fun _ _ _ _ => rfl, rfl, trivial⟩ (fun _ => (by as_aux_lemma => kernel_rfl)) (by simp) (by simp only [List.map_cons, List.map_nil, Elem.row_up]) (by as_aux_lemma => kernel_rfl) ?_
  refine segs [3] tabOk mixed 4000 (S := .leaf 0) (by as_aux_lemma => kernel_rfl) ?_
  refine sk_leaf ?_
  refine cut_ok (by as_aux_lemma => kernel_rfl) (τ := mk 63 [(0, .pv (.raw (.bool false))), (1, .ptr 0 0), (2, .ptr 1 0), (3, .pv ((E5.ro r3.2.1))), (4, .pv (.raw (.int .i64 r3.2.2)))] [(0, .box [.pv ((E24.ro r1.Lines)), .pv ((E5.ro r1.Edit))]), (1, .box [.pv ((E24.ro r3.1.Lines)), .pv ((E5.ro r3.1.Edit))])]) (sub_ok (ρ := [(0, some 16400), (1, some 16416)]) (l := [false = false, 0 = 0, 0 = 0, r3.2.1.length = r3.2.1.length, rowQ (E5.cR r3.2.1) 1 0 r3.2.1.length (fun i j => E5.cf (r3.2.1.getD i E5.z) j), (r3.2.2 : Int) = r3.2.2, r1.Lines.length = r1.Lines.length, ∀ i, i < r1.Lines.length → ∀ j, j < 1 → E24.cf (r1.Lines.getD i E24.z) j = E24.cf (r1.Lines.getD i E24.z) j, r1.Edit.length = r1.Edit.length, ∀ i, i < r1.Edit.length → ∀ j, j < 1 → E5.cf (r1.Edit.getD i E5.z) j = E5.cf (r1.Edit.getD i E5.z) j, r3.1.Lines.length = r3.1.Lines.length, ∀ i, i < r3.1.Lines.length → ∀ j, j < 1 → E24.cf (r3.1.Lines.getD i E24.z) j = E24.cf (r3.1.Lines.getD i E24.z) j, r3.1.Edit.length = r3.1.Edit.length, rowQ (E5.cR r3.1.Edit) 1 0 r3.1.Edit.length (fun i j => E5.cf (r3.1.Edit.getD i E5.z) j)]) (by as_aux_lemma => kernel_rfl) ⟨rfl, rfl, rfl, (by first | rfl | exact Elem.sub_len _ (by omega) | simp | (simp <;> omega)), E5.rowQ_all r3.2.1 rfl, rfl, rfl, fun _ _ _ _ => rfl, rfl, fun _ _ _ _ => rfl, rfl, fun _ _ _ _ => rfl, (by first | rfl | exact Elem.sub_len _ (by omega) | simp | (simp <;> omega)), E5.rowQ_all r3.1.Edit rfl, trivial⟩) ?_
  refine segs [] tabOk mixed 4000 (S := .and ((((r3.2.2 : Int) == 0) = true → (((r3.2.2 : Int) == 0) = true))) (.and ((((r3.2.2 : Int) == 0) = true → (((r3.2.2 : Int) == 0) = true))) (.and ((((r3.2.2 : Int) == 0) = true → (((r3.2.2 : Int) == 0) = true))) (.and (((r3.2.2 : Int) == 0) = true → ((r3.2.2 : Int) == 0) = true) (.and (((((r3.2.2 : Int) == 0) && ((((r1.Lines.length : Nat) : Int) : Int) == 2)) = true → ((((r3.2.2 : Int) == 0) && ((((r1.Lines.length : Nat) : Int) : Int) == 2)) = true))) (.and (((((r3.2.2 : Int) == 0) && ((((r1.Lines.length : Nat) : Int) : Int) == 2)) = true → ((((r3.2.2 : Int) == 0) && ((((r1.Lines.length : Nat) : Int) : Int) == 2)) = true))) (.and (((((r3.2.2 : Int) == 0) && ((((r1.Lines.length : Nat) : Int) : Int) == 2)) = true → (0 ≤ (0 : Int) ∧ 0 < ((r1.Lines.length : Nat) : Int)))) (.and (((((r3.2.2 : Int) == 0) && ((((r1.Lines.length : Nat) : Int) : Int) == 2)) = true → ((((r3.2.2 : Int) == 0) && ((((r1.Lines.length : Nat) : Int) : Int) == 2)) = true))) (.leaf 0))))))))) (by as_aux_lemma => kernel_rfl) ?_
  refine sk_and ((by decide : ∀ y0 : Bool, ((y0 = true) → (y0 = true))) ((r3.2.2 : Int) == 0)) ?_
  refine sk_and ((by decide : ∀ y0 : Bool, ((y0 = true) → (y0 = true))) ((r3.2.2 : Int) == 0)) ?_
  refine sk_and ((by decide : ∀ y0 : Bool, ((y0 = true) → (y0 = true))) ((r3.2.2 : Int) == 0)) ?_
  refine sk_and ((by decide : ∀ y0 : Bool, ((y0 = true) → (y0 = true))) ((r3.2.2 : Int) == 0)) ?_
  refine sk_and ((by decide : ∀ y0 : Bool, ((y0 = true) → (y0 = true))) (((r3.2.2 : Int) == 0) && ((((r1.Lines.length : Nat) : Int) : Int) == 2))) ?_
  refine sk_and ((by decide : ∀ y0 : Bool, ((y0 = true) → (y0 = true))) (((r3.2.2 : Int) == 0) && ((((r1.Lines.length : Nat) : Int) : Int) == 2))) ?_
  refine gd_ h ?_; clear h; intro g11 h
  refine sk_and ((by decide : ∀ y0 : Bool, ((y0 = true) → (y0 = true))) (((r3.2.2 : Int) == 0) && ((((r1.Lines.length : Nat) : Int) : Int) == 2))) ?_
  refine sk_leaf ?_
  refine cvG_ok (d := 27) (g := (((r3.2.2 : Int) == 0) && ((((r1.Lines.length : Nat) : Int) : Int) == 2))) (ws := [(((r3.2.2 : Int) == 0) && ((((r1.Lines.length : Nat) : Int) : Int) == 2)) = true]) E5 (xs := (r1.Lines.getD 0 [])) rfl (fun _ => rfl) (by as_aux_lemma => kernel_rfl) (fun hg => ⟨((by decide : ∀ y0 : Bool, ((y0 = true) → (y0 = true))) (((r3.2.2 : Int) == 0) && ((((r1.Lines.length : Nat) : Int) : Int) == 2))) hg, trivial⟩) ?_
  refine segs [3] tabOk mixed 4000 (S := .and (((((r3.2.2 : Int) == 0) && ((((r1.Lines.length : Nat) : Int) : Int) == 2)) = true → ((((r3.2.2 : Int) == 0) && ((((r1.Lines.length : Nat) : Int) : Int) == 2)) = true))) (.and ((((r3.2.2 : Int) == 0) && ((((r1.Lines.length : Nat) : Int) : Int) == 2)) = true → (((r3.2.2 : Int) == 0) && ((((r1.Lines.length : Nat) : Int) : Int) == 2)) = true) (.and ((((((r3.2.2 : Int) == 0) && ((((r1.Lines.length : Nat) : Int) : Int) == 2)) && ((bytesOf (r1.Lines.getD 0 [])).toList == (bytesOf [100, 101, 10]).toList)) = true → (((((r3.2.2 : Int) == 0) && ((((r1.Lines.length : Nat) : Int) : Int) == 2)) && ((bytesOf (r1.Lines.getD 0 [])).toList == (bytesOf [100, 101, 10]).toList)) = true))) (.and ((((((r3.2.2 : Int) == 0) && ((((r1.Lines.length : Nat) : Int) : Int) == 2)) && ((bytesOf (r1.Lines.getD 0 [])).toList == (bytesOf [100, 101, 10]).toList)) = true → (((((r3.2.2 : Int) == 0) && ((((r1.Lines.length : Nat) : Int) : Int) == 2)) && ((bytesOf (r1.Lines.getD 0 [])).toList == (bytesOf [100, 101, 10]).toList)) = true))) (.and ((((((r3.2.2 : Int) == 0) && ((((r1.Lines.length : Nat) : Int) : Int) == 2)) && ((bytesOf (r1.Lines.getD 0 [])).toList == (bytesOf [100, 101, 10]).toList)) = true → (0 ≤ (1 : Int) ∧ 1 < ((r1.Lines.length : Nat) : Int)))) (.and ((((((r3.2.2 : Int) == 0) && ((((r1.Lines.length : Nat) : Int) : Int) == 2)) && ((bytesOf (r1.Lines.getD 0 [])).toList == (bytesOf [100, 101, 10]).toList)) = true → (((((r3.2.2 : Int) == 0) && ((((r1.Lines.length : Nat) : Int) : Int) == 2)) && ((bytesOf (r1.Lines.getD 0 [])).toList == (bytesOf [100, 101, 10]).toList)) = true))) (.leaf 0))))))) (by as_aux_lemma => kernel_rfl) ?_
  refine sk_and ((by decide : ∀ y0 : Bool, ((y0 = true) → (y0 = true))) (((r3.2.2 : Int) == 0) && ((((r1.Lines.length : Nat) : Int) : Int) == 2))) ?_
  refine sk_and ((by decide : ∀ y0 : Bool, ((y0 = true) → (y0 = true))) (((r3.2.2 : Int) == 0) && ((((r1.Lines.length : Nat) : Int) : Int) == 2))) ?_
  refine sk_and ((by decide : ∀ y0 : Bool, ((y0 = true) → (y0 = true))) ((((r3.2.2 : Int) == 0) && ((((r1.Lines.length : Nat) : Int) : Int) == 2)) && ((bytesOf (r1.Lines.getD 0 [])).toList == (bytesOf [100, 101, 10]).toList))) ?_
  refine sk_and ((by decide : ∀ y0 : Bool, ((y0 = true) → (y0 = true))) ((((r3.2.2 : Int) == 0) && ((((r1.Lines.length : Nat) : Int) : Int) == 2)) && ((bytesOf (r1.Lines.getD 0 [])).toList == (bytesOf [100, 101, 10]).toList))) ?_
  refine gd_ h ?_; clear h; intro g17 h
  refine sk_and ((by decide : ∀ y0 : Bool, ((y0 = true) → (y0 = true))) ((((r3.2.2 : Int) == 0) && ((((r1.Lines.length : Nat) : Int) : Int) == 2)) && ((bytesOf (r1.Lines.getD 0 [])).toList == (bytesOf [100, 101, 10]).toList))) ?_
  refine sk_leaf ?_
  refine cvG_ok (d := 35) (g := ((((r3.2.2 : Int) == 0) && ((((r1.Lines.length : Nat) : Int) : Int) == 2)) && ((bytesOf (r1.Lines.getD 0 [])).toList == (bytesOf [100, 101, 10]).toList))) (ws := [((((r3.2.2 : Int) == 0) && ((((r1.Lines.length : Nat) : Int) : Int) == 2)) && ((bytesOf (r1.Lines.getD 0 [])).toList == (bytesOf [100, 101, 10]).toList)) = true]) E5 (xs := (r1.Lines.getD 1 [])) rfl (fun _ => rfl) (by as_aux_lemma => kernel_rfl) (fun hg => ⟨((by decide : ∀ y0 : Bool, ((y0 = true) → (y0 = true))) ((((r3.2.2 : Int) == 0) && ((((r1.Lines.length : Nat) : Int) : Int) == 2)) && ((bytesOf (r1.Lines.getD 0 [])).toList == (bytesOf [100, 101, 10]).toList))) hg, trivial⟩) ?_
  refine segs [3] tabOk mixed 4000 (S := .and ((((((r3.2.2 : Int) == 0) && ((((r1.Lines.length : Nat) : Int) : Int) == 2)) && ((bytesOf (r1.Lines.getD 0 [])).toList == (bytesOf [100, 101, 10]).toList)) = true → (((((r3.2.2 : Int) == 0) && ((((r1.Lines.length : Nat) : Int) : Int) == 2)) && ((bytesOf (r1.Lines.getD 0 [])).toList == (bytesOf [100, 101, 10]).toList)) = true))) (.and (((((r3.2.2 : Int) == 0) && ((((r1.Lines.length : Nat) : Int) : Int) == 2)) && ((bytesOf (r1.Lines.getD 0 [])).toList == (bytesOf [100, 101, 10]).toList)) = true → ((((r3.2.2 : Int) == 0) && ((((r1.Lines.length : Nat) : Int) : Int) == 2)) && ((bytesOf (r1.Lines.getD 0 [])).toList == (bytesOf [100, 101, 10]).toList)) = true) (.and (((((((r3.2.2 : Int) == 0) && ((((r1.Lines.length : Nat) : Int) : Int) == 2)) && ((bytesOf (r1.Lines.getD 0 [])).toList == (bytesOf [100, 101, 10]).toList)) && ((bytesOf (r1.Lines.getD 1 [])).toList == (bytesOf [120]).toList)) = true → ((((((r3.2.2 : Int) == 0) && ((((r1.Lines.length : Nat) : Int) : Int) == 2)) && ((bytesOf (r1.Lines.getD 0 [])).toList == (bytesOf [100, 101, 10]).toList)) && ((bytesOf (r1.Lines.getD 1 [])).toList == (bytesOf [120]).toList)) = true))) (.leaf 0)))) (by as_aux_lemma => kernel_rfl) ?_
  refine sk_and ((by decide : ∀ y0 : Bool, ((y0 = true) → (y0 = true))) ((((r3.2.2 : Int) == 0) && ((((r1.Lines.length : Nat) : Int) : Int) == 2)) && ((bytesOf (r1.Lines.getD 0 [])).toList == (bytesOf [100, 101, 10]).toList))) ?_
  refine sk_and ((by decide : ∀ y0 : Bool, ((y0 = true) → (y0 = true))) ((((r3.2.2 : Int) == 0) && ((((r1.Lines.length : Nat) : Int) : Int) == 2)) && ((bytesOf (r1.Lines.getD 0 [])).toList == (bytesOf [100, 101, 10]).toList))) ?_
  refine sk_and ((by decide : ∀ y0 : Bool, ((y0 = true) → (y0 = true))) (((((r3.2.2 : Int) == 0) && ((((r1.Lines.length : Nat) : Int) : Int) == 2)) && ((bytesOf (r1.Lines.getD 0 [])).toList == (bytesOf [100, 101, 10]).toList)) && ((bytesOf (r1.Lines.getD 1 [])).toList == (bytesOf [120]).toList))) ?_
  refine sk_leaf ?_
  refine cvG_ok (d := 41) (g := (((((r3.2.2 : Int) == 0) && ((((r1.Lines.length : Nat) : Int) : Int) == 2)) && ((bytesOf (r1.Lines.getD 0 [])).toList == (bytesOf [100, 101, 10]).toList)) && ((bytesOf (r1.Lines.getD 1 [])).toList == (bytesOf [120]).toList))) (ws := [(((((r3.2.2 : Int) == 0) && ((((r1.Lines.length : Nat) : Int) : Int) == 2)) && ((bytesOf (r1.Lines.getD 0 [])).toList == (bytesOf [100, 101, 10]).toList)) && ((bytesOf (r1.Lines.getD 1 [])).toList == (bytesOf [120]).toList)) = true]) E5 (xs := r1.Edit) rfl (fun _ => rfl) (by as_aux_lemma => kernel_rfl) (fun hg => ⟨((by decide : ∀ y0 : Bool, ((y0 = true) → (y0 = true))) (((((r3.2.2 : Int) == 0) && ((((r1.Lines.length : Nat) : Int) : Int) == 2)) && ((bytesOf (r1.Lines.getD 0 [])).toList == (bytesOf [100, 101, 10]).toList)) && ((bytesOf (r1.Lines.getD 1 [])).toList == (bytesOf [120]).toList))) hg, trivial⟩) ?_
  refine segs [3] tabOk mixed 4000 (S := .and (((((((r3.2.2 : Int) == 0) && ((((r1.Lines.length : Nat) : Int) : Int) == 2)) && ((bytesOf (r1.Lines.getD 0 [])).toList == (bytesOf [100, 101, 10]).toList)) && ((bytesOf (r1.Lines.getD 1 [])).toList == (bytesOf [120]).toList)) = true → ((((((r3.2.2 : Int) == 0) && ((((r1.Lines.length : Nat) : Int) : Int) == 2)) && ((bytesOf (r1.Lines.getD 0 [])).toList == (bytesOf [100, 101, 10]).toList)) && ((bytesOf (r1.Lines.getD 1 [])).toList == (bytesOf [120]).toList)) = true))) (.and ((((((r3.2.2 : Int) == 0) && ((((r1.Lines.length : Nat) : Int) : Int) == 2)) && ((bytesOf (r1.Lines.getD 0 [])).toList == (bytesOf [100, 101, 10]).toList)) && ((bytesOf (r1.Lines.getD 1 [])).toList == (bytesOf [120]).toList)) = true → (((((r3.2.2 : Int) == 0) && ((((r1.Lines.length : Nat) : Int) : Int) == 2)) && ((bytesOf (r1.Lines.getD 0 [])).toList == (bytesOf [100, 101, 10]).toList)) && ((bytesOf (r1.Lines.getD 1 [])).toList == (bytesOf [120]).toList)) = true) (.leaf 0))) (by as_aux_lemma => kernel_rfl) ?_
  refine sk_and ((by decide : ∀ y0 : Bool, ((y0 = true) → (y0 = true))) (((((r3.2.2 : Int) == 0) && ((((r1.Lines.length : Nat) : Int) : Int) == 2)) && ((bytesOf (r1.Lines.getD 0 [])).toList == (bytesOf [100, 101, 10]).toList)) && ((bytesOf (r1.Lines.getD 1 [])).toList == (bytesOf [120]).toList))) ?_
  refine sk_and ((by decide : ∀ y0 : Bool, ((y0 = true) → (y0 = true))) (((((r3.2.2 : Int) == 0) && ((((r1.Lines.length : Nat) : Int) : Int) == 2)) && ((bytesOf (r1.Lines.getD 0 [])).toList == (bytesOf [100, 101, 10]).toList)) && ((bytesOf (r1.Lines.getD 1 [])).toList == (bytesOf [120]).toList))) ?_
  refine sk_leaf ?_
  refine cvG_ok (d := 46) (g := ((((((r3.2.2 : Int) == 0) && ((((r1.Lines.length : Nat) : Int) : Int) == 2)) && ((bytesOf (r1.Lines.getD 0 [])).toList == (bytesOf [100, 101, 10]).toList)) && ((bytesOf (r1.Lines.getD 1 [])).toList == (bytesOf [120]).toList)) && ((bytesOf r1.Edit).toList == (bytesOf [121, 122]).toList))) (ws := [((((((r3.2.2 : Int) == 0) && ((((r1.Lines.length : Nat) : Int) : Int) == 2)) && ((bytesOf (r1.Lines.getD 0 [])).toList == (bytesOf [100, 101, 10]).toList)) && ((bytesOf (r1.Lines.getD 1 [])).toList == (bytesOf [120]).toList)) && ((bytesOf r1.Edit).toList == (bytesOf [121, 122]).toList)) = true]) E5 (xs := r3.2.1) rfl (fun _ => rfl) (by as_aux_lemma => kernel_rfl) (fun hg => ⟨((by decide : ∀ y0 : Bool, ((y0 = true) → (y0 = true))) ((((((r3.2.2 : Int) == 0) && ((((r1.Lines.length : Nat) : Int) : Int) == 2)) && ((bytesOf (r1.Lines.getD 0 [])).toList == (bytesOf [100, 101, 10]).toList)) && ((bytesOf (r1.Lines.getD 1 [])).toList == (bytesOf [120]).toList)) && ((bytesOf r1.Edit).toList == (bytesOf [121, 122]).toList))) hg, trivial⟩) ?_
  refine segs [3] tabOk mixed 4000 (S := .and ((((((((r3.2.2 : Int) == 0) && ((((r1.Lines.length : Nat) : Int) : Int) == 2)) && ((bytesOf (r1.Lines.getD 0 [])).toList == (bytesOf [100, 101, 10]).toList)) && ((bytesOf (r1.Lines.getD 1 [])).toList == (bytesOf [120]).toList)) && ((bytesOf r1.Edit).toList == (bytesOf [121, 122]).toList)) = true → (((((((r3.2.2 : Int) == 0) && ((((r1.Lines.length : Nat) : Int) : Int) == 2)) && ((bytesOf (r1.Lines.getD 0 [])).toList == (bytesOf [100, 101, 10]).toList)) && ((bytesOf (r1.Lines.getD 1 [])).toList == (bytesOf [120]).toList)) && ((bytesOf r1.Edit).toList == (bytesOf [121, 122]).toList)) = true))) (.and (((((((r3.2.2 : Int) == 0) && ((((r1.Lines.length : Nat) : Int) : Int) == 2)) && ((bytesOf (r1.Lines.getD 0 [])).toList == (bytesOf [100, 101, 10]).toList)) && ((bytesOf (r1.Lines.getD 1 [])).toList == (bytesOf [120]).toList)) && ((bytesOf r1.Edit).toList == (bytesOf [121, 122]).toList)) = true → ((((((r3.2.2 : Int) == 0) && ((((r1.Lines.length : Nat) : Int) : Int) == 2)) && ((bytesOf (r1.Lines.getD 0 [])).toList == (bytesOf [100, 101, 10]).toList)) && ((bytesOf (r1.Lines.getD 1 [])).toList == (bytesOf [120]).toList)) && ((bytesOf r1.Edit).toList == (bytesOf [121, 122]).toList)) = true) (.and (((((((((r3.2.2 : Int) == 0) && ((((r1.Lines.length : Nat) : Int) : Int) == 2)) && ((bytesOf (r1.Lines.getD 0 [])).toList == (bytesOf [100, 101, 10]).toList)) && ((bytesOf (r1.Lines.getD 1 [])).toList == (bytesOf [120]).toList)) && ((bytesOf r1.Edit).toList == (bytesOf [121, 122]).toList)) && ((bytesOf r3.2.1).toList == (bytesOf [100, 101]).toList)) = true → ((((((((r3.2.2 : Int) == 0) && ((((r1.Lines.length : Nat) : Int) : Int) == 2)) && ((bytesOf (r1.Lines.getD 0 [])).toList == (bytesOf [100, 101, 10]).toList)) && ((bytesOf (r1.Lines.getD 1 [])).toList == (bytesOf [120]).toList)) && ((bytesOf r1.Edit).toList == (bytesOf [121, 122]).toList)) && ((bytesOf r3.2.1).toList == (bytesOf [100, 101]).toList)) = true))) (.and (((((((((r3.2.2 : Int) == 0) && ((((r1.Lines.length : Nat) : Int) : Int) == 2)) && ((bytesOf (r1.Lines.getD 0 [])).toList == (bytesOf [100, 101, 10]).toList)) && ((bytesOf (r1.Lines.getD 1 [])).toList == (bytesOf [120]).toList)) && ((bytesOf r1.Edit).toList == (bytesOf [121, 122]).toList)) && ((bytesOf r3.2.1).toList == (bytesOf [100, 101]).toList)) = true → ((((((((r3.2.2 : Int) == 0) && ((((r1.Lines.length : Nat) : Int) : Int) == 2)) && ((bytesOf (r1.Lines.getD 0 [])).toList == (bytesOf [100, 101, 10]).toList)) && ((bytesOf (r1.Lines.getD 1 [])).toList == (bytesOf [120]).toList)) && ((bytesOf r1.Edit).toList == (bytesOf [121, 122]).toList)) && ((bytesOf r3.2.1).toList == (bytesOf [100, 101]).toList)) = true))) (.and (((((((((r3.2.2 : Int) == 0) && ((((r1.Lines.length : Nat) : Int) : Int) == 2)) && ((bytesOf (r1.Lines.getD 0 [])).toList == (bytesOf [100, 101, 10]).toList)) && ((bytesOf (r1.Lines.getD 1 [])).toList == (bytesOf [120]).toList)) && ((bytesOf r1.Edit).toList == (bytesOf [121, 122]).toList)) && ((bytesOf r3.2.1).toList == (bytesOf [100, 101]).toList)) = true → ((((((((r3.2.2 : Int) == 0) && ((((r1.Lines.length : Nat) : Int) : Int) == 2)) && ((bytesOf (r1.Lines.getD 0 [])).toList == (bytesOf [100, 101, 10]).toList)) && ((bytesOf (r1.Lines.getD 1 [])).toList == (bytesOf [120]).toList)) && ((bytesOf r1.Edit).toList == (bytesOf [121, 122]).toList)) && ((bytesOf r3.2.1).toList == (bytesOf [100, 101]).toList)) = true))) (.and ((((((((r3.2.2 : Int) == 0) && ((((r1.Lines.length : Nat) : Int) : Int) == 2)) && ((bytesOf (r1.Lines.getD 0 [])).toList == (bytesOf [100, 101, 10]).toList)) && ((bytesOf (r1.Lines.getD 1 [])).toList == (bytesOf [120]).toList)) && ((bytesOf r1.Edit).toList == (bytesOf [121, 122]).toList)) && ((bytesOf r3.2.1).toList == (bytesOf [100, 101]).toList)) = true → (((((((r3.2.2 : Int) == 0) && ((((r1.Lines.length : Nat) : Int) : Int) == 2)) && ((bytesOf (r1.Lines.getD 0 [])).toList == (bytesOf [100, 101, 10]).toList)) && ((bytesOf (r1.Lines.getD 1 [])).toList == (bytesOf [120]).toList)) && ((bytesOf r1.Edit).toList == (bytesOf [121, 122]).toList)) && ((bytesOf r3.2.1).toList == (bytesOf [100, 101]).toList)) = true) (.and ((((((((((r3.2.2 : Int) == 0) && ((((r1.Lines.length : Nat) : Int) : Int) == 2)) && ((bytesOf (r1.Lines.getD 0 [])).toList == (bytesOf [100, 101, 10]).toList)) && ((bytesOf (r1.Lines.getD 1 [])).toList == (bytesOf [120]).toList)) && ((bytesOf r1.Edit).toList == (bytesOf [121, 122]).toList)) && ((bytesOf r3.2.1).toList == (bytesOf [100, 101]).toList)) && ((((r3.1.Lines.length : Nat) : Int) : Int) == 2)) = true → (((((((((r3.2.2 : Int) == 0) && ((((r1.Lines.length : Nat) : Int) : Int) == 2)) && ((bytesOf (r1.Lines.getD 0 [])).toList == (bytesOf [100, 101, 10]).toList)) && ((bytesOf (r1.Lines.getD 1 [])).toList == (bytesOf [120]).toList)) && ((bytesOf r1.Edit).toList == (bytesOf [121, 122]).toList)) && ((bytesOf r3.2.1).toList == (bytesOf [100, 101]).toList)) && ((((r3.1.Lines.length : Nat) : Int) : Int) == 2)) = true))) (.and ((((((((((r3.2.2 : Int) == 0) && ((((r1.Lines.length : Nat) : Int) : Int) == 2)) && ((bytesOf (r1.Lines.getD 0 [])).toList == (bytesOf [100, 101, 10]).toList)) && ((bytesOf (r1.Lines.getD 1 [])).toList == (bytesOf [120]).toList)) && ((bytesOf r1.Edit).toList == (bytesOf [121, 122]).toList)) && ((bytesOf r3.2.1).toList == (bytesOf [100, 101]).toList)) && ((((r3.1.Lines.length : Nat) : Int) : Int) == 2)) = true → (((((((((r3.2.2 : Int) == 0) && ((((r1.Lines.length : Nat) : Int) : Int) == 2)) && ((bytesOf (r1.Lines.getD 0 [])).toList == (bytesOf [100, 101, 10]).toList)) && ((bytesOf (r1.Lines.getD 1 [])).toList == (bytesOf [120]).toList)) && ((bytesOf r1.Edit).toList == (bytesOf [121, 122]).toList)) && ((bytesOf r3.2.1).toList == (bytesOf [100, 101]).toList)) && ((((r3.1.Lines.length : Nat) : Int) : Int) == 2)) = true))) (.and ((((((((((r3.2.2 : Int) == 0) && ((((r1.Lines.length : Nat) : Int) : Int) == 2)) && ((bytesOf (r1.Lines.getD 0 [])).toList == (bytesOf [100, 101, 10]).toList)) && ((bytesOf (r1.Lines.getD 1 [])).toList == (bytesOf [120]).toList)) && ((bytesOf r1.Edit).toList == (bytesOf [121, 122]).toList)) && ((bytesOf r3.2.1).toList == (bytesOf [100, 101]).toList)) && ((((r3.1.Lines.length : Nat) : Int) : Int) == 2)) = true → (0 ≤ (0 : Int) ∧ 0 < ((r3.1.Lines.length : Nat) : Int)))) (.and ((((((((((r3.2.2 : Int) == 0) && ((((r1.Lines.length : Nat) : Int) : Int) == 2)) && ((bytesOf (r1.Lines.getD 0 [])).toList == (bytesOf [100, 101, 10]).toList)) && ((bytesOf (r1.Lines.getD 1 [])).toList == (bytesOf [120]).toList)) && ((bytesOf r1.Edit).toList == (bytesOf [121, 122]).toList)) && ((bytesOf r3.2.1).toList == (bytesOf [100, 101]).toList)) && ((((r3.1.Lines.length : Nat) : Int) : Int) == 2)) = true → (((((((((r3.2.2 : Int) == 0) && ((((r1.Lines.length : Nat) : Int) : Int) == 2)) && ((bytesOf (r1.Lines.getD 0 [])).toList == (bytesOf [100, 101, 10]).toList)) && ((bytesOf (r1.Lines.getD 1 [])).toList == (bytesOf [120]).toList)) && ((bytesOf r1.Edit).toList == (bytesOf [121, 122]).toList)) && ((bytesOf r3.2.1).toList == (bytesOf [100, 101]).toList)) && ((((r3.1.Lines.length : Nat) : Int) : Int) == 2)) = true))) (.leaf 0))))))))))) (by as_aux_lemma => kernel_rfl) ?_
  refine sk_and ((by decide : ∀ y0 : Bool, ((y0 = true) → (y0 = true))) ((((((r3.2.2 : Int) == 0) && ((((r1.Lines.length : Nat) : Int) : Int) == 2)) && ((bytesOf (r1.Lines.getD 0 [])).toList == (bytesOf [100, 101, 10]).toList)) && ((bytesOf (r1.Lines.getD 1 [])).toList == (bytesOf [120]).toList)) && ((bytesOf r1.Edit).toList == (bytesOf [121, 122]).toList))) ?_
  refine sk_and ((by decide : ∀ y0 : Bool, ((y0 = true) → (y0 = true))) ((((((r3.2.2 : Int) == 0) && ((((r1.Lines.length : Nat) : Int) : Int) == 2)) && ((bytesOf (r1.Lines.getD 0 [])).toList == (bytesOf [100, 101, 10]).toList)) && ((bytesOf (r1.Lines.getD 1 [])).toList == (bytesOf [120]).toList)) && ((bytesOf r1.Edit).toList == (bytesOf [121, 122]).toList))) ?_
  refine sk_and ((by decide : ∀ y0 : Bool, ((y0 = true) → (y0 = true))) (((((((r3.2.2 : Int) == 0) && ((((r1.Lines.length : Nat) : Int) : Int) == 2)) && ((bytesOf (r1.Lines.getD 0 [])).toList == (bytesOf [100, 101, 10]).toList)) && ((bytesOf (r1.Lines.getD 1 [])).toList == (bytesOf [120]).toList)) && ((bytesOf r1.Edit).toList == (bytesOf [121, 122]).toList)) && ((bytesOf r3.2.1).toList == (bytesOf [100, 101]).toList))) ?_
  refine sk_and ((by decide : ∀ y0 : Bool, ((y0 = true) → (y0 = true))) (((((((r3.2.2 : Int) == 0) && ((((r1.Lines.length : Nat) : Int) : Int) == 2)) && ((bytesOf (r1.Lines.getD 0 [])).toList == (bytesOf [100, 101, 10]).toList)) && ((bytesOf (r1.Lines.getD 1 [])).toList == (bytesOf [120]).toList)) && ((bytesOf r1.Edit).toList == (bytesOf [121, 122]).toList)) && ((bytesOf r3.2.1).toList == (bytesOf [100, 101]).toList))) ?_
  refine sk_and ((by decide : ∀ y0 : Bool, ((y0 = true) → (y0 = true))) (((((((r3.2.2 : Int) == 0) && ((((r1.Lines.length : Nat) : Int) : Int) == 2)) && ((bytesOf (r1.Lines.getD 0 [])).toList == (bytesOf [100, 101, 10]).toList)) && ((bytesOf (r1.Lines.getD 1 [])).toList == (bytesOf [120]).toList)) && ((bytesOf r1.Edit).toList == (bytesOf [121, 122]).toList)) && ((bytesOf r3.2.1).toList == (bytesOf [100, 101]).toList))) ?_
  refine sk_and ((by decide : ∀ y0 : Bool, ((y0 = true) → (y0 = true))) (((((((r3.2.2 : Int) == 0) && ((((r1.Lines.length : Nat) : Int) : Int) == 2)) && ((bytesOf (r1.Lines.getD 0 [])).toList == (bytesOf [100, 101, 10]).toList)) && ((bytesOf (r1.Lines.getD 1 [])).toList == (bytesOf [120]).toList)) && ((bytesOf r1.Edit).toList == (bytesOf [121, 122]).toList)) && ((bytesOf r3.2.1).toList == (bytesOf [100, 101]).toList))) ?_
  refine sk_and ((by decide : ∀ y0 : Bool, ((y0 = true) → (y0 = true))) ((((((((r3.2.2 : Int) == 0) && ((((r1.Lines.length : Nat) : Int) : Int) == 2)) && ((bytesOf (r1.Lines.getD 0 [])).toList == (bytesOf [100, 101, 10]).toList)) && ((bytesOf (r1.Lines.getD 1 [])).toList == (bytesOf [120]).toList)) && ((bytesOf r1.Edit).toList == (bytesOf [121, 122]).toList)) && ((bytesOf r3.2.1).toList == (bytesOf [100, 101]).toList)) && ((((r3.1.Lines.length : Nat) : Int) : Int) == 2))) ?_
  refine sk_and ((by decide : ∀ y0 : Bool, ((y0 = true) → (y0 = true))) ((((((((r3.2.2 : Int) == 0) && ((((r1.Lines.length : Nat) : Int) : Int) == 2)) && ((bytesOf (r1.Lines.getD 0 [])).toList == (bytesOf [100, 101, 10]).toList)) && ((bytesOf (r1.Lines.getD 1 [])).toList == (bytesOf [120]).toList)) && ((bytesOf r1.Edit).toList == (bytesOf [121, 122]).toList)) && ((bytesOf r3.2.1).toList == (bytesOf [100, 101]).toList)) && ((((r3.1.Lines.length : Nat) : Int) : Int) == 2))) ?_
  refine gd_ h ?_; clear h; intro g32 h
  refine sk_and ((by decide : ∀ y0 : Bool, ((y0 = true) → (y0 = true))) ((((((((r3.2.2 : Int) == 0) && ((((r1.Lines.length : Nat) : Int) : Int) == 2)) && ((bytesOf (r1.Lines.getD 0 [])).toList == (bytesOf [100, 101, 10]).toList)) && ((bytesOf (r1.Lines.getD 1 [])).toList == (bytesOf [120]).toList)) && ((bytesOf r1.Edit).toList == (bytesOf [121, 122]).toList)) && ((bytesOf r3.2.1).toList == (bytesOf [100, 101]).toList)) && ((((r3.1.Lines.length : Nat) : Int) : Int) == 2))) ?_
  refine sk_leaf ?_
  refine cvG_ok (d := 60) (g := ((((((((r3.2.2 : Int) == 0) && ((((r1.Lines.length : Nat) : Int) : Int) == 2)) && ((bytesOf (r1.Lines.getD 0 [])).toList == (bytesOf [100, 101, 10]).toList)) && ((bytesOf (r1.Lines.getD 1 [])).toList == (bytesOf [120]).toList)) && ((bytesOf r1.Edit).toList == (bytesOf [121, 122]).toList)) && ((bytesOf r3.2.1).toList == (bytesOf [100, 101]).toList)) && ((((r3.1.Lines.length : Nat) : Int) : Int) == 2))) (ws := [((((((((r3.2.2 : Int) == 0) && ((((r1.Lines.length : Nat) : Int) : Int) == 2)) && ((bytesOf (r1.Lines.getD 0 [])).toList == (bytesOf [100, 101, 10]).toList)) && ((bytesOf (r1.Lines.getD 1 [])).toList == (bytesOf [120]).toList)) && ((bytesOf r1.Edit).toList == (bytesOf [121, 122]).toList)) && ((bytesOf r3.2.1).toList == (bytesOf [100, 101]).toList)) && ((((r3.1.Lines.length : Nat) : Int) : Int) == 2)) = true]) E5 (xs := (r3.1.Lines.getD 0 [])) rfl (fun _ => rfl) (by as_aux_lemma => kernel_rfl) (fun hg => ⟨((by decide : ∀ y0 : Bool, ((y0 = true) → (y0 = true))) ((((((((r3.2.2 : Int) == 0) && ((((r1.Lines.length : Nat) : Int) : Int) == 2)) && ((bytesOf (r1.Lines.getD 0 [])).toList == (bytesOf [100, 101, 10]).toList)) && ((bytesOf (r1.Lines.getD 1 [])).toList == (bytesOf [120]).toList)) && ((bytesOf r1.Edit).toList == (bytesOf [121, 122]).toList)) && ((bytesOf r3.2.1).toList == (bytesOf [100, 101]).toList)) && ((((r3.1.Lines.length : Nat) : Int) : Int) == 2))) hg, trivial⟩) ?_
  refine segs [3] tabOk mixed 4000 (S := .and ((((((((((r3.2.2 : Int) == 0) && ((((r1.Lines.length : Nat) : Int) : Int) == 2)) && ((bytesOf (r1.Lines.getD 0 [])).toList == (bytesOf [100, 101, 10]).toList)) && ((bytesOf (r1.Lines.getD 1 [])).toList == (bytesOf [120]).toList)) && ((bytesOf r1.Edit).toList == (bytesOf [121, 122]).toList)) && ((bytesOf r3.2.1).toList == (bytesOf [100, 101]).toList)) && ((((r3.1.Lines.length : Nat) : Int) : Int) == 2)) = true → (((((((((r3.2.2 : Int) == 0) && ((((r1.Lines.length : Nat) : Int) : Int) == 2)) && ((bytesOf (r1.Lines.getD 0 [])).toList == (bytesOf [100, 101, 10]).toList)) && ((bytesOf (r1.Lines.getD 1 [])).toList == (bytesOf [120]).toList)) && ((bytesOf r1.Edit).toList == (bytesOf [121, 122]).toList)) && ((bytesOf r3.2.1).toList == (bytesOf [100, 101]).toList)) && ((((r3.1.Lines.length : Nat) : Int) : Int) == 2)) = true))) (.and (((((((((r3.2.2 : Int) == 0) && ((((r1.Lines.length : Nat) : Int) : Int) == 2)) && ((bytesOf (r1.Lines.getD 0 [])).toList == (bytesOf [100, 101, 10]).toList)) && ((bytesOf (r1.Lines.getD 1 [])).toList == (bytesOf [120]).toList)) && ((bytesOf r1.Edit).toList == (bytesOf [121, 122]).toList)) && ((bytesOf r3.2.1).toList == (bytesOf [100, 101]).toList)) && ((((r3.1.Lines.length : Nat) : Int) : Int) == 2)) = true → ((((((((r3.2.2 : Int) == 0) && ((((r1.Lines.length : Nat) : Int) : Int) == 2)) && ((bytesOf (r1.Lines.getD 0 [])).toList == (bytesOf [100, 101, 10]).toList)) && ((bytesOf (r1.Lines.getD 1 [])).toList == (bytesOf [120]).toList)) && ((bytesOf r1.Edit).toList == (bytesOf [121, 122]).toList)) && ((bytesOf r3.2.1).toList == (bytesOf [100, 101]).toList)) && ((((r3.1.Lines.length : Nat) : Int) : Int) == 2)) = true) (.leaf 0))) (by as_aux_lemma => kernel_rfl) ?_
  refine sk_and ((by decide : ∀ y0 : Bool, ((y0 = true) → (y0 = true))) ((((((((r3.2.2 : Int) == 0) && ((((r1.Lines.length : Nat) : Int) : Int) == 2)) && ((bytesOf (r1.Lines.getD 0 [])).toList == (bytesOf [100, 101, 10]).toList)) && ((bytesOf (r1.Lines.getD 1 [])).toList == (bytesOf [120]).toList)) && ((bytesOf r1.Edit).toList == (bytesOf [121, 122]).toList)) && ((bytesOf r3.2.1).toList == (bytesOf [100, 101]).toList)) && ((((r3.1.Lines.length : Nat) : Int) : Int) == 2))) ?_
  refine sk_and ((by decide : ∀ y0 : Bool, ((y0 = true) → (y0 = true))) ((((((((r3.2.2 : Int) == 0) && ((((r1.Lines.length : Nat) : Int) : Int) == 2)) && ((bytesOf (r1.Lines.getD 0 [])).toList == (bytesOf [100, 101, 10]).toList)) && ((bytesOf (r1.Lines.getD 1 [])).toList == (bytesOf [120]).toList)) && ((bytesOf r1.Edit).toList == (bytesOf [121, 122]).toList)) && ((bytesOf r3.2.1).toList == (bytesOf [100, 101]).toList)) && ((((r3.1.Lines.length : Nat) : Int) : Int) == 2))) ?_
  refine sk_leaf ?_
  obtain rfl := some_ h
  exact end_ok [] Try.results7 (ps := [(((((((((r3.2.2 : Int) == 0) && ((((r1.Lines.length : Nat) : Int) : Int) == 2)) && ((bytesOf (r1.Lines.getD 0 [])).toList == (bytesOf [100, 101, 10]).toList)) && ((bytesOf (r1.Lines.getD 1 [])).toList == (bytesOf [120]).toList)) && ((bytesOf r1.Edit).toList == (bytesOf [121, 122]).toList)) && ((bytesOf r3.2.1).toList == (bytesOf [100, 101]).toList)) && ((((r3.1.Lines.length : Nat) : Int) : Int) == 2)) && ((bytesOf (r3.1.Lines.getD 0 [])).toList == (bytesOf [10]).toList)) = (((((((((r3.2.2 : Int) == 0) && ((((r1.Lines.length : Nat) : Int) : Int) == 2)) && ((bytesOf (r1.Lines.getD 0 [])).toList == (bytesOf [100, 101, 10]).toList)) && ((bytesOf (r1.Lines.getD 1 [])).toList == (bytesOf [120]).toList)) && ((bytesOf r1.Edit).toList == (bytesOf [121, 122]).toList)) && ((bytesOf r3.2.1).toList == (bytesOf [100, 101]).toList)) && ((((r3.1.Lines.length : Nat) : Int) : Int) == 2)) && ((bytesOf (r3.1.Lines.getD 0 [])).toList == (bytesOf [10]).toList))]) (by as_aux_lemma => kernel_rfl) ⟨rfl, trivial⟩ (fun _ => ⟨rfl, by simp⟩)

set_option maxHeartbeats 40000000 in
set_option maxRecDepth 100000 in
theorem keep_plain_ok (a0 : Int) (r : Bool) (h : keep_plain a0 = some r) {al : Bool} : PCalls Try.prog 10 [.pv (.raw (.int .u8 a0))] al (.pv (.raw (.bool r))) [] := by
  unfold keep_plain at h
  refine fn_ok tabOk Try.func10 (by as_aux_lemma => kernel_rfl) (by as_aux_lemma => kernel_rfl) Try.ntmps10 (by simp) ?_
  refine segs [] tabOk mixed 4000 (S := .and ((((a0 : Int) != 8) = true → (((a0 : Int) != 8) = true))) (.and (((a0 : Int) != 8) = true → ((a0 : Int) != 8) = true) (.and (((((a0 : Int) != 8) && ((a0 : Int) != 21)) = true → ((((a0 : Int) != 8) && ((a0 : Int) != 21)) = true))) (.and ((((a0 : Int) != 8) && ((a0 : Int) != 21)) = true → (((a0 : Int) != 8) && ((a0 : Int) != 21)) = true) (.and ((((((a0 : Int) != 8) && ((a0 : Int) != 21)) && ((a0 : Int) != 4)) = true → (((((a0 : Int) != 8) && ((a0 : Int) != 21)) && ((a0 : Int) != 4)) = true))) (.and (((((a0 : Int) != 8) && ((a0 : Int) != 21)) && ((a0 : Int) != 4)) = true → ((((a0 : Int) != 8) && ((a0 : Int) != 21)) && ((a0 : Int) != 4)) = true) (.and (((((((a0 : Int) != 8) && ((a0 : Int) != 21)) && ((a0 : Int) != 4)) && ((a0 : Int) != 10)) = true → ((((((a0 : Int) != 8) && ((a0 : Int) != 21)) && ((a0 : Int) != 4)) && ((a0 : Int) != 10)) = true))) (.and ((((((a0 : Int) != 8) && ((a0 : Int) != 21)) && ((a0 : Int) != 4)) && ((a0 : Int) != 10)) = true → (((((a0 : Int) != 8) && ((a0 : Int) != 21)) && ((a0 : Int) != 4)) && ((a0 : Int) != 10)) = true) (.leaf 0))))))))) (by as_aux_lemma => kernel_rfl) ?_
  refine sk_and ((by decide : ∀ y0 : Bool, ((y0 = true) → (y0 = true))) ((a0 : Int) != 8)) ?_
  refine sk_and ((by decide : ∀ y0 : Bool, ((y0 = true) → (y0 = true))) ((a0 : Int) != 8)) ?_
  refine sk_and ((by decide : ∀ y0 : Bool, ((y0 = true) → (y0 = true))) (((a0 : Int) != 8) && ((a0 : Int) != 21))) ?_
  refine sk_and ((by decide : ∀ y0 : Bool, ((y0 = true) → (y0 = true))) (((a0 : Int) != 8) && ((a0 : Int) != 21))) ?_
  refine sk_and ((by decide : ∀ y0 : Bool, ((y0 = true) → (y0 = true))) ((((a0 : Int) != 8) && ((a0 : Int) != 21)) && ((a0 : Int) != 4))) ?_
  refine sk_and ((by decide : ∀ y0 : Bool, ((y0 = true) → (y0 = true))) ((((a0 : Int) != 8) && ((a0 : Int) != 21)) && ((a0 : Int) != 4))) ?_
  refine sk_and ((by decide : ∀ y0 : Bool, ((y0 = true) → (y0 = true))) (((((a0 : Int) != 8) && ((a0 : Int) != 21)) && ((a0 : Int) != 4)) && ((a0 : Int) != 10))) ?_
  refine sk_and ((by decide : ∀ y0 : Bool, ((y0 = true) → (y0 = true))) (((((a0 : Int) != 8) && ((a0 : Int) != 21)) && ((a0 : Int) != 4)) && ((a0 : Int) != 10))) ?_
  refine sk_leaf ?_
  obtain rfl := some_ h
  exact end_ok [] Try.results10 (ps := [((((((a0 : Int) != 8) && ((a0 : Int) != 21)) && ((a0 : Int) != 4)) && ((a0 : Int) != 10)) && ((a0 : Int) != 23)) = ((((((a0 : Int) != 8) && ((a0 : Int) != 21)) && ((a0 : Int) != 4)) && ((a0 : Int) != 10)) && ((a0 : Int) != 23))]) (by as_aux_lemma => kernel_rfl) ⟨rfl, trivial⟩ (fun _ => ⟨rfl, by simp⟩)

set_option maxHeartbeats 40000000 in
set_option maxRecDepth 100000 in
theorem keep_TtyPlain_1_ok (a0 : Int) (r : Bool) (h : keep_TtyPlain_1 a0 = some r) {al : Bool} : PCalls Try.prog 9 [.pv (.raw (.int .u8 a0))] al (.pv (.raw (.bool r))) [] := by
  unfold keep_TtyPlain_1 at h
  refine fn_ok tabOk Try.func9 (by as_aux_lemma => kernel_rfl) (by as_aux_lemma => kernel_rfl) Try.ntmps9 (by simp) ?_
  refine segs [] tabOk mixed 4000 (S := .leaf 0) (by as_aux_lemma => kernel_rfl) ?_
  refine sk_leaf ?_
  obtain ⟨r1, e2, h⟩ := bd_ h
  refine call_ok (d := some 4) (fn := 10) (ax := [.pv (.raw (.int .u8 a0))]) (args := [.pv (.raw (.int .u8 a0))]) (ps := [(a0 : Int) = a0]) (hb' := []) (by as_aux_lemma => kernel_rfl) (keep_plain_ok _ _ e2 (al := true)) (by as_aux_lemma => kernel_rfl) ⟨rfl, trivial⟩ (fun _ => (by as_aux_lemma => kernel_rfl)) (by simp) rfl (by as_aux_lemma => kernel_rfl) ?_
  refine segs [] tabOk mixed 4000 (S := .leaf 0) (by as_aux_lemma => kernel_rfl) ?_
  refine sk_leaf ?_
  obtain rfl := some_ h
  exact end_ok [] Try.results9 (ps := [(!r1) = (!r1)]) (by as_aux_lemma => kernel_rfl) ⟨rfl, trivial⟩ (fun _ => ⟨rfl, by simp⟩)

set_option maxHeartbeats 40000000 in
set_option maxRecDepth 100000 in
theorem slices_IndexFunc_byte_keep_TtyPlain_1_ok (a0 : (List Int)) (r : Int) (h : slices_IndexFunc_byte_keep_TtyPlain_1 a0 = some r) {al : Bool} : PCalls Try.prog 18 [.pv ((E5.ro a0)), .fn 9 []] al (.pv (.raw (.int .i64 r))) [] := by
  unfold slices_IndexFunc_byte_keep_TtyPlain_1 at h
  refine fn_ok tabOk Try.func18 (by as_aux_lemma => kernel_rfl) (by as_aux_lemma => kernel_rfl) Try.ntmps18 (by simp) ?_
  refine segs [] tabOk mixed 4000 (S := .leaf 0) (by as_aux_lemma => kernel_rfl) ?_
  refine sk_leaf ?_
  refine len_ro (by as_aux_lemma => kernel_rfl) 0 (s := 1) (n := a0.length) (c := fun i j => E5.cf (a0.getD i E5.z) j) (by as_aux_lemma => kernel_rfl) ?_; intro hl1_0
  replace h : (fun (x : Nat × Nat) => slices_IndexFunc_byte_keep_TtyPlain_1_l1 a0 x.1 x.2 = some r) (FUEL, 0) := h
  refine loop_ok (by as_aux_lemma => kernel_rfl) (X := Nat × Nat) (fun x => slices_IndexFunc_byte_keep_TtyPlain_1_l1 a0 x.1 x.2 = some r) (fun x => x.1) (fun x => mk 19 [(0, .pv ((E5.ro a0))), (1, .fn 9 []), (4, .pv (.raw (.int .i64 0))), (7, .pv (.raw (.int .i64 ((a0.length : Nat) : Int)))), (8, .pv (.raw (.int .i64 ((x.2 : Nat) : Int))))] []) (FUEL, 0) h ?_ ?_
  · exact sub_ok (ρ := []) (l := [a0.length = a0.length, ∀ i, i < a0.length → ∀ j, j < 1 → E5.cf (a0.getD i E5.z) j = E5.cf (a0.getD i E5.z) j, (0 : Int) = 0, (((a0.length : Nat) : Int) : Int) = ((a0.length : Nat) : Int), (0 : Int) = ((0 : Nat) : Int)]) (by as_aux_lemma => kernel_rfl) ⟨rfl, fun _ _ _ _ => rfl, rfl, rfl, (by first | rfl | simp), trivial⟩
  · clear h; rintro ⟨n1, k1⟩ h p1 hp1
    obtain _ | n1 := n1
    · cases (show (none : Option (Int)) = some r from h)
    have h : slices_IndexFunc_byte_keep_TtyPlain_1_l1 a0 (n1 + 1) k1 = some r := h
    unfold slices_IndexFunc_byte_keep_TtyPlain_1_l1 at h
    refine segs [] tabOk mixed 4000 (S := .br (decide ((((k1 : Nat) : Int) : Int) < ((a0.length : Nat) : Int))) (.and (0 ≤ (((k1 : Nat) : Int) : Int) ∧ ((k1 : Nat) : Int) < ((a0.length : Nat) : Int)) (.leaf 0)) (.leaf 1)) (by as_aux_lemma => kernel_rfl) ?_
    refine br_ h ?_ ?_ <;> clear h <;> intro c2 h
    · refine sk_and ⟨Int.natCast_nonneg _, of_decide_eq_true c2⟩ ?_
      refine sk_leaf ?_
      obtain ⟨r4, e5, h⟩ := bd_ h
      refine call_ok (d := some 16) (fn := 9) (ax := [.pv (.raw (.int .u8 (a0.getD k1 0)))]) (args := [.pv (.raw (.int .u8 (a0.getD k1 0)))]) (ps := [((a0.getD k1 0) : Int) = (a0.getD k1 0)]) (hb' := []) (by as_aux_lemma => kernel_rfl) (keep_TtyPlain_1_ok _ _ e5 (al := true)) (by as_aux_lemma => kernel_rfl) ⟨rfl, trivial⟩ (fun _ => (by as_aux_lemma => kernel_rfl)) (by simp) rfl (by as_aux_lemma => kernel_rfl) ?_
      refine segs [] tabOk mixed 4000 (S := .br r4 (.leaf 0) (.leaf 1)) (by as_aux_lemma => kernel_rfl) ?_
      refine br_ h ?_ ?_ <;> clear h <;> intro c6 h
      · refine sk_leaf ?_
        obtain rfl := some_ h
        exact end_ok [] Try.results18 (ps := [(((k1 : Nat) : Int) : Int) = ((k1 : Nat) : Int)]) (by as_aux_lemma => kernel_rfl) ⟨rfl, trivial⟩ (fun _ => ⟨rfl, by simp⟩)
      · refine sk_leaf ?_
        refine back_ok (p := p1) (by as_aux_lemma => kernel_rfl) (hp1 (n1, k1 + 1) _ h (Nat.lt_succ_self n1) ?_)
        exact sub_ok (ρ := []) (l := [a0.length = a0.length, ∀ i, i < a0.length → ∀ j, j < 1 → E5.cf (a0.getD i E5.z) j = E5.cf (a0.getD i E5.z) j, (0 : Int) = 0, (((a0.length : Nat) : Int) : Int) = ((a0.length : Nat) : Int), ((IntKind.i64.wrap (((k1 : Nat) : Int) + 1)) : Int) = (((k1 + 1) : Nat) : Int)]) (by as_aux_lemma => kernel_rfl) ⟨rfl, fun _ _ _ _ => rfl, rfl, rfl, (wrap_nat (Int.ofNat_lt.1 (of_decide_eq_true c2)) (by omega)), trivial⟩
    · refine sk_leaf ?_
      obtain rfl := some_ h
      exact end_ok [] Try.results18 (ps := [((-1) : Int) = (-1)]) (by as_aux_lemma => kernel_rfl) ⟨rfl, trivial⟩ (fun _ => ⟨rfl, by simp⟩)

set_option maxHeartbeats 40000000 in
set_option maxRecDepth 100000 in
theorem slices_ContainsFunc_byte_keep_TtyPlain_1_ok (a0 : (List Int)) (r : Bool) (h : slices_ContainsFunc_byte_keep_TtyPlain_1 a0 = some r) {al : Bool} : PCalls Try.prog 8 [.pv ((E5.ro a0)), .fn 9 []] al (.pv (.raw (.bool r))) [] := by
  unfold slices_ContainsFunc_byte_keep_TtyPlain_1 at h
  refine fn_ok tabOk Try.func8 (by as_aux_lemma => kernel_rfl) (by as_aux_lemma => kernel_rfl) Try.ntmps8 (by simp) ?_
  refine segs [] tabOk mixed 4000 (S := .leaf 0) (by as_aux_lemma => kernel_rfl) ?_
  refine sk_leaf ?_
  obtain ⟨r1, e2, h⟩ := bd_ h
  refine call_ok (d := some 7) (fn := 18) (ax := [.pv ((E5.ro a0)), .fn 9 []]) (args := [.pv ((E5.ro a0)), .fn 9 []]) (ps := [a0.length = a0.length, ∀ i, i < a0.length → ∀ j, j < 1 → E5.cf (a0.getD i E5.z) j = E5.cf (a0.getD i E5.z) j]) (hb' := []) (by as_aux_lemma => kernel_rfl) (slices_IndexFunc_byte_keep_TtyPlain_1_ok _ _ e2 (al := false)) (by as_aux_lemma => kernel_rfl) ⟨rfl, fun _ _ _ _ => rfl, trivial⟩ (fun hx => by cases hx) (by simp) rfl (by as_aux_lemma => kernel_rfl) ?_
  refine segs [] tabOk mixed 4000 (S := .leaf 0) (by as_aux_lemma => kernel_rfl) ?_
  refine sk_leaf ?_
  obtain rfl := some_ h
  exact end_ok [] Try.results8 (ps := [(decide ((r1 : Int) ≥ 0)) = (decide ((r1 : Int) ≥ 0))]) (by as_aux_lemma => kernel_rfl) ⟨rfl, trivial⟩ (fun _ => ⟨rfl, by simp⟩)

set_option maxHeartbeats 40000000 in
set_option maxRecDepth 100000 in
theorem ref_SameTty_ok (a0 : Api_Tty) (a1 : Api_Tty) (r : Bool) (h : ref_SameTty a0 a1 = some r) {al : Bool} : PCalls Try.prog 13 [.agg [.pv ((E24.ro a0.Lines)), .pv ((E5.ro a0.Edit))], .agg [.pv ((E24.ro a1.Lines)), .pv ((E5.ro a1.Edit))]] al (.pv (.raw (.bool r))) [] := by
  unfold ref_SameTty at h
  refine fn_ok tabOk Try.func13 (by as_aux_lemma => kernel_rfl) (by as_aux_lemma => kernel_rfl) Try.ntmps13 (by simp) ?_
  refine segs [1, 6] tabOk mixed 4000 (S := .leaf 0) (by as_aux_lemma => kernel_rfl) ?_
  refine sk_leaf ?_
  refine cut_ok (by as_aux_lemma => kernel_rfl) (τ := mk 42 [(2, .ptr 0 0), (3, .ptr 1 0), (4, .pv (.raw (.bool false)))] [(0, .box [.pv ((E24.ro a0.Lines)), .pv ((E5.ro a0.Edit))]), (1, .box [.pv ((E24.ro a1.Lines)), .pv ((E5.ro a1.Edit))])]) (sub_ok (ρ := [(0, some 16416), (1, some 16432)]) (l := [0 = 0, 0 = 0, false = false, a0.Lines.length = a0.Lines.length, ∀ i, i < a0.Lines.length → ∀ j, j < 1 → E24.cf (a0.Lines.getD i E24.z) j = E24.cf (a0.Lines.getD i E24.z) j, a0.Edit.length = a0.Edit.length, ∀ i, i < a0.Edit.length → ∀ j, j < 1 → E5.cf (a0.Edit.getD i E5.z) j = E5.cf (a0.Edit.getD i E5.z) j, a1.Lines.length = a1.Lines.length, ∀ i, i < a1.Lines.length → ∀ j, j < 1 → E24.cf (a1.Lines.getD i E24.z) j = E24.cf (a1.Lines.getD i E24.z) j, a1.Edit.length = a1.Edit.length, ∀ i, i < a1.Edit.length → ∀ j, j < 1 → E5.cf (a1.Edit.getD i E5.z) j = E5.cf (a1.Edit.getD i E5.z) j]) (by as_aux_lemma => kernel_rfl) ⟨rfl, rfl, rfl, rfl, fun _ _ _ _ => rfl, rfl, fun _ _ _ _ => rfl, rfl, fun _ _ _ _ => rfl, rfl, fun _ _ _ _ => rfl, trivial⟩) ?_
  refine segs [6] tabOk mixed 4000 (S := .leaf 0) (by as_aux_lemma => kernel_rfl) ?_
  refine sk_leaf ?_
  refine cv_ok (d := 8) E5 (xs := a0.Edit) rfl (fun _ => rfl) (by as_aux_lemma => kernel_rfl) ?_
  refine segs [1, 6] tabOk mixed 4000 (S := .leaf 0) (by as_aux_lemma => kernel_rfl) ?_
  refine sk_leaf ?_
  refine cv_ok (d := 11) E5 (xs := a1.Edit) rfl (fun _ => rfl) (by as_aux_lemma => kernel_rfl) ?_
  refine segs [1, 6] tabOk mixed 4000 (S := .and (((!(!((bytesOf a0.Edit).toList == (bytesOf a1.Edit).toList))) = true → ((!(!((bytesOf a0.Edit).toList == (bytesOf a1.Edit).toList))) = true))) (.and (((!(!((bytesOf a0.Edit).toList == (bytesOf a1.Edit).toList))) = true → ((!(!((bytesOf a0.Edit).toList == (bytesOf a1.Edit).toList))) = true))) (.and (((!(!((bytesOf a0.Edit).toList == (bytesOf a1.Edit).toList))) = true → ((!(!((bytesOf a0.Edit).toList == (bytesOf a1.Edit).toList))) = true))) (.and (((!(!((bytesOf a0.Edit).toList == (bytesOf a1.Edit).toList))) = true → ((!(!((bytesOf a0.Edit).toList == (bytesOf a1.Edit).toList))) = true))) (.and (((!(!((bytesOf a0.Edit).toList == (bytesOf a1.Edit).toList))) = true → ((!(!((bytesOf a0.Edit).toList == (bytesOf a1.Edit).toList))) = true))) (.and (((!(!((bytesOf a0.Edit).toList == (bytesOf a1.Edit).toList))) = true → ((!(!((bytesOf a0.Edit).toList == (bytesOf a1.Edit).toList))) = true))) (.and ((!((bytesOf a0.Edit).toList == (bytesOf a1.Edit).toList)) = false → (!(!((bytesOf a0.Edit).toList == (bytesOf a1.Edit).toList))) = true) (.br ((!((bytesOf a0.Edit).toList == (bytesOf a1.Edit).toList)) || ((((a0.Lines.length : Nat) : Int) : Int) != ((a1.Lines.length : Nat) : Int))) (.leaf 0) (.leaf 1))))))))) (by as_aux_lemma => kernel_rfl) ?_
  refine sk_and ((by decide : ∀ y0 : Bool, ((y0 = true) → (y0 = true))) (!(!((bytesOf a0.Edit).toList == (bytesOf a1.Edit).toList)))) ?_
  refine sk_and ((by decide : ∀ y0 : Bool, ((y0 = true) → (y0 = true))) (!(!((bytesOf a0.Edit).toList == (bytesOf a1.Edit).toList)))) ?_
  refine sk_and ((by decide : ∀ y0 : Bool, ((y0 = true) → (y0 = true))) (!(!((bytesOf a0.Edit).toList == (bytesOf a1.Edit).toList)))) ?_
  refine sk_and ((by decide : ∀ y0 : Bool, ((y0 = true) → (y0 = true))) (!(!((bytesOf a0.Edit).toList == (bytesOf a1.Edit).toList)))) ?_
  refine sk_and ((by decide : ∀ y0 : Bool, ((y0 = true) → (y0 = true))) (!(!((bytesOf a0.Edit).toList == (bytesOf a1.Edit).toList)))) ?_
  refine sk_and ((by decide : ∀ y0 : Bool, ((y0 = true) → (y0 = true))) (!(!((bytesOf a0.Edit).toList == (bytesOf a1.Edit).toList)))) ?_
  refine sk_and ((by decide : ∀ y0 : Bool, ((y0 = false) → ((!y0) = true))) (!((bytesOf a0.Edit).toList == (bytesOf a1.Edit).toList))) ?_
  refine br_ h ?_ ?_ <;> clear h <;> intro c8 h
  · refine sk_leaf ?_
    obtain rfl := some_ h
    exact end_ok [] Try.results13 (ps := [false = false]) (by as_aux_lemma => kernel_rfl) ⟨rfl, trivial⟩ (fun _ => ⟨rfl, by simp⟩)
  · refine sk_leaf ?_
    refine len_box (by as_aux_lemma => kernel_rfl) 0 0 (cs := [.pv ((E24.ro a0.Lines)), .pv ((E5.ro a0.Edit))]) (by as_aux_lemma => kernel_rfl) (s := 1) (n := a0.Lines.length) (c := fun i j => E24.cf (a0.Lines.getD i E24.z) j) rfl ?_; intro hl1_0
    refine len_box (by as_aux_lemma => kernel_rfl) 0 1 (cs := [.pv ((E24.ro a0.Lines)), .pv ((E5.ro a0.Edit))]) (by as_aux_lemma => kernel_rfl) (s := 1) (n := a0.Edit.length) (c := fun i j => E5.cf (a0.Edit.getD i E5.z) j) rfl ?_; intro hl1_1
    refine len_box (by as_aux_lemma => kernel_rfl) 1 0 (cs := [.pv ((E24.ro a1.Lines)), .pv ((E5.ro a1.Edit))]) (by as_aux_lemma => kernel_rfl) (s := 1) (n := a1.Lines.length) (c := fun i j => E24.cf (a1.Lines.getD i E24.z) j) rfl ?_; intro hl1_2
    refine len_box (by as_aux_lemma => kernel_rfl) 1 1 (cs := [.pv ((E24.ro a1.Lines)), .pv ((E5.ro a1.Edit))]) (by as_aux_lemma => kernel_rfl) (s := 1) (n := a1.Edit.length) (c := fun i j => E5.cf (a1.Edit.getD i E5.z) j) rfl ?_; intro hl1_3
    replace h : (fun (x : Nat × Nat) => ref_SameTty_l1 a0 a1 x.1 x.2 = some r) (FUEL, 0) := h
    refine loop_ok (by as_aux_lemma => kernel_rfl) (X := Nat × Nat) (fun x => ref_SameTty_l1 a0 a1 x.1 x.2 = some r) (fun x => x.1) (fun x => mk 42 [(2, .ptr 0 0), (3, .ptr 1 0), (4, .pv (.raw (.bool false))), (24, .pv (.raw (.int .i64 ((a0.Lines.length : Nat) : Int)))), (25, .pv (.raw (.int .i64 ((x.2 : Nat) : Int))))] [(0, .box [.pv ((E24.ro a0.Lines)), .pv ((E5.ro a0.Edit))]), (1, .box [.pv ((E24.ro a1.Lines)), .pv ((E5.ro a1.Edit))])]) (FUEL, 0) h ?_ ?_
    · exact sub_ok (ρ := [(0, some 0), (1, some 1)]) (l := [0 = 0, 0 = 0, false = false, (((a0.Lines.length : Nat) : Int) : Int) = ((a0.Lines.length : Nat) : Int), (0 : Int) = ((0 : Nat) : Int), a0.Lines.length = a0.Lines.length, ∀ i, i < a0.Lines.length → ∀ j, j < 1 → E24.cf (a0.Lines.getD i E24.z) j = E24.cf (a0.Lines.getD i E24.z) j, a0.Edit.length = a0.Edit.length, ∀ i, i < a0.Edit.length → ∀ j, j < 1 → E5.cf (a0.Edit.getD i E5.z) j = E5.cf (a0.Edit.getD i E5.z) j, a1.Lines.length = a1.Lines.length, ∀ i, i < a1.Lines.length → ∀ j, j < 1 → E24.cf (a1.Lines.getD i E24.z) j = E24.cf (a1.Lines.getD i E24.z) j, a1.Edit.length = a1.Edit.length, ∀ i, i < a1.Edit.length → ∀ j, j < 1 → E5.cf (a1.Edit.getD i E5.z) j = E5.cf (a1.Edit.getD i E5.z) j]) (by as_aux_lemma => kernel_rfl) ⟨rfl, rfl, rfl, rfl, (by first | rfl | simp), rfl, fun _ _ _ _ => rfl, rfl, fun _ _ _ _ => rfl, rfl, fun _ _ _ _ => rfl, rfl, fun _ _ _ _ => rfl, trivial⟩
    · clear h; rintro ⟨n1, k9⟩ h p1 hp1
      obtain _ | n1 := n1
      · cases (show (none : Option (Bool)) = some r from h)
      have h : ref_SameTty_l1 a0 a1 (n1 + 1) k9 = some r := h
      unfold ref_SameTty_l1 at h
      refine segs [1, 6] tabOk mixed 4000 (S := .br (decide ((((k9 : Nat) : Int) : Int) < ((a0.Lines.length : Nat) : Int))) (.leaf 0) (.leaf 1)) (by as_aux_lemma => kernel_rfl) ?_
      refine br_ h ?_ ?_ <;> clear h <;> intro c10 h
      · refine sk_leaf ?_
        refine cut_ok (by as_aux_lemma => kernel_rfl) (τ := mk 42 [(2, .ptr 0 0), (3, .ptr 1 0), (4, .pv (.raw (.bool false))), (5, .pv (.raw (.int .i64 ((k9 : Nat) : Int)))), (24, .pv (.raw (.int .i64 ((a0.Lines.length : Nat) : Int)))), (25, .pv (.raw (.int .i64 ((k9 : Nat) : Int))))] [(0, .box [.pv ((E24.ro a0.Lines)), .pv ((E5.ro a0.Edit))]), (1, .box [.pv ((E24.ro a1.Lines)), .pv ((E5.ro a1.Edit))])]) (sub_ok (ρ := [(0, some 0), (1, some 1)]) (l := [0 = 0, 0 = 0, false = false, (((k9 : Nat) : Int) : Int) = ((k9 : Nat) : Int), (((a0.Lines.length : Nat) : Int) : Int) = ((a0.Lines.length : Nat) : Int), (((k9 : Nat) : Int) : Int) = ((k9 : Nat) : Int), a0.Lines.length = a0.Lines.length, ∀ i, i < a0.Lines.length → ∀ j, j < 1 → E24.cf (a0.Lines.getD i E24.z) j = E24.cf (a0.Lines.getD i E24.z) j, a0.Edit.length = a0.Edit.length, ∀ i, i < a0.Edit.length → ∀ j, j < 1 → E5.cf (a0.Edit.getD i E5.z) j = E5.cf (a0.Edit.getD i E5.z) j, a1.Lines.length = a1.Lines.length, ∀ i, i < a1.Lines.length → ∀ j, j < 1 → E24.cf (a1.Lines.getD i E24.z) j = E24.cf (a1.Lines.getD i E24.z) j, a1.Edit.length = a1.Edit.length, ∀ i, i < a1.Edit.length → ∀ j, j < 1 → E5.cf (a1.Edit.getD i E5.z) j = E5.cf (a1.Edit.getD i E5.z) j]) (by as_aux_lemma => kernel_rfl) ⟨rfl, rfl, rfl, rfl, rfl, rfl, rfl, fun _ _ _ _ => rfl, rfl, fun _ _ _ _ => rfl, rfl, fun _ _ _ _ => rfl, rfl, fun _ _ _ _ => rfl, trivial⟩) ?_
        refine segs [1] tabOk mixed 4000 (S := .and (0 ≤ (((k9 : Nat) : Int) : Int) ∧ ((k9 : Nat) : Int) < ((a0.Lines.length : Nat) : Int)) (.leaf 0)) (by as_aux_lemma => kernel_rfl) ?_
        refine sk_and ⟨Int.natCast_nonneg _, of_decide_eq_true c10⟩ ?_
        refine sk_leaf ?_
        refine cv_ok (d := 33) E5 (xs := (a0.Lines.getD k9 [])) rfl (fun _ => rfl) (by as_aux_lemma => kernel_rfl) ?_
        refine segs [1, 6] tabOk mixed 4000 (S := .and (0 ≤ (((k9 : Nat) : Int) : Int) ∧ ((k9 : Nat) : Int) < ((a1.Lines.length : Nat) : Int)) (.leaf 0)) (by as_aux_lemma => kernel_rfl) ?_
        refine gd_ h ?_; clear h; intro g12 h
        refine sk_leaf ?_
        refine cv_ok (d := 39) E5 (xs := (a1.Lines.getD k9 [])) rfl (fun _ => rfl) (by as_aux_lemma => kernel_rfl) ?_
        refine segs [1, 6] tabOk mixed 4000 (S := .br (!((bytesOf (a0.Lines.getD k9 [])).toList == (bytesOf (a1.Lines.getD k9 [])).toList)) (.leaf 0) (.leaf 1)) (by as_aux_lemma => kernel_rfl) ?_
        refine br_ h ?_ ?_ <;> clear h <;> intro c13 h
        · refine sk_leaf ?_
          obtain rfl := some_ h
          exact end_ok [] Try.results13 (ps := [false = false]) (by as_aux_lemma => kernel_rfl) ⟨rfl, trivial⟩ (fun _ => ⟨rfl, by simp⟩)
        · refine sk_leaf ?_
          refine back_ok (p := p1) (by as_aux_lemma => kernel_rfl) (hp1 (n1, k9 + 1) _ h (Nat.lt_succ_self n1) ?_)
          exact sub_ok (ρ := [(0, some 0), (1, some 1)]) (l := [0 = 0, 0 = 0, false = false, (((a0.Lines.length : Nat) : Int) : Int) = ((a0.Lines.length : Nat) : Int), ((IntKind.i64.wrap (((k9 : Nat) : Int) + 1)) : Int) = (((k9 + 1) : Nat) : Int), a0.Lines.length = a0.Lines.length, ∀ i, i < a0.Lines.length → ∀ j, j < 1 → E24.cf (a0.Lines.getD i E24.z) j = E24.cf (a0.Lines.getD i E24.z) j, a0.Edit.length = a0.Edit.length, ∀ i, i < a0.Edit.length → ∀ j, j < 1 → E5.cf (a0.Edit.getD i E5.z) j = E5.cf (a0.Edit.getD i E5.z) j, a1.Lines.length = a1.Lines.length, ∀ i, i < a1.Lines.length → ∀ j, j < 1 → E24.cf (a1.Lines.getD i E24.z) j = E24.cf (a1.Lines.getD i E24.z) j, a1.Edit.length = a1.Edit.length, ∀ i, i < a1.Edit.length → ∀ j, j < 1 → E5.cf (a1.Edit.getD i E5.z) j = E5.cf (a1.Edit.getD i E5.z) j]) (by as_aux_lemma => kernel_rfl) ⟨rfl, rfl, rfl, rfl, (wrap_nat (Int.ofNat_lt.1 (of_decide_eq_true c10)) (by omega)), rfl, fun _ _ _ _ => rfl, rfl, fun _ _ _ _ => rfl, rfl, fun _ _ _ _ => rfl, rfl, fun _ _ _ _ => rfl, trivial⟩
      · refine sk_leaf ?_
        obtain rfl := some_ h
        exact end_ok [] Try.results13 (ps := [true = true]) (by as_aux_lemma => kernel_rfl) ⟨rfl, trivial⟩ (fun _ => ⟨rfl, by simp⟩)

set_option maxHeartbeats 40000000 in
set_option maxRecDepth 100000 in
theorem keep_TtyPlain_ok (a0 : (List (List Int))) (a1 : Int) (r : Bool) (h : keep_TtyPlain a0 a1 = some r) {al : Bool} : PCalls Try.prog 3 [.pv ((E24.ro a0)), .pv (.raw (.int .i64 a1))] al (.pv (.raw (.bool r))) [] := by
  unfold keep_TtyPlain at h
  refine fn_ok tabOk Try.func3 (by as_aux_lemma => kernel_rfl) (by as_aux_lemma => kernel_rfl) Try.ntmps3 (by simp) ?_
  refine segs [23, 13] tabOk mixed 4000 (S := .leaf 0) (by as_aux_lemma => kernel_rfl) ?_
  refine sk_leaf ?_
  obtain ⟨r1, e2, h⟩ := bd_ h
  refine call_ok (d := some 13) (fn := 7) (ax := []) (args := []) (ps := []) (hb' := []) (by as_aux_lemma => kernel_rfl) (keep_alive17_ok  _ e2 (al := true)) (by as_aux_lemma => kernel_rfl) trivial (fun _ => (by as_aux_lemma => kernel_rfl)) (by simp) rfl (by as_aux_lemma => kernel_rfl) ?_
  refine segs [23, 13] tabOk mixed 4000 (S := .br (!r1) (.leaf 0) (.and (((!(decide ((a1 : Int) < 1))) = true → ((!(decide ((a1 : Int) < 1))) = true))) (.and (((!(decide ((a1 : Int) < 1))) = true → ((!(decide ((a1 : Int) < 1))) = true))) (.and ((decide ((a1 : Int) < 1)) = false → (!(decide ((a1 : Int) < 1))) = true) (.br ((decide ((a1 : Int) < 1)) || (decide ((((a0.length : Nat) : Int) : Int) > 50))) (.leaf 1) (.leaf 2)))))) (by as_aux_lemma => kernel_rfl) ?_
  refine br_ h ?_ ?_ <;> clear h <;> intro c3 h
  · refine sk_leaf ?_
    obtain rfl := some_ h
    exact end_ok [] Try.results3 (ps := [false = false]) (by as_aux_lemma => kernel_rfl) ⟨rfl, trivial⟩ (fun _ => ⟨rfl, by simp⟩)
  · refine sk_and ((by decide : ∀ y0 : Bool, ((y0 = true) → (y0 = true))) (!(decide ((a1 : Int) < 1)))) ?_
    refine sk_and ((by decide : ∀ y0 : Bool, ((y0 = true) → (y0 = true))) (!(decide ((a1 : Int) < 1)))) ?_
    refine sk_and ((by decide : ∀ y0 : Bool, ((y0 = false) → ((!y0) = true))) (decide ((a1 : Int) < 1))) ?_
    refine br_ h ?_ ?_ <;> clear h <;> intro c7 h
    · refine sk_leaf ?_
      obtain rfl := some_ h
      exact end_ok [] Try.results3 (ps := [true = true]) (by as_aux_lemma => kernel_rfl) ⟨rfl, trivial⟩ (fun _ => ⟨rfl, by simp⟩)
    · refine sk_leaf ?_
      refine len_ro (by as_aux_lemma => kernel_rfl) 22 (s := 1) (n := a0.length) (c := fun i j => E24.cf (a0.getD i E24.z) j) (by as_aux_lemma => kernel_rfl) ?_; intro hl1_0
      replace h : (fun (x : Nat × List Int × Nat) => keep_TtyPlain_l1 a0 a1 x.1 x.2.1 x.2.2 = some r) (FUEL, ([] : List Int), 0) := h
      refine loop_ok (by as_aux_lemma => kernel_rfl) (X := Nat × List Int × Nat) (fun x => keep_TtyPlain_l1 a0 a1 x.1 x.2.1 x.2.2 = some r) (fun x => x.1) (fun x => mk 80 [(1, .pv (.raw (.int .i64 a1))), (4, .pv (.raw (.bool false))), (5, .row 0 1 0 x.2.1.length), (22, .pv ((E24.ro a0))), (23, .pv (.raw (.int .i64 ((a0.length : Nat) : Int)))), (24, .pv (.raw (.int .i64 ((x.2.2 : Nat) : Int))))] [(0, .row 5 1 (E5.cR x.2.1))]) (FUEL, ([] : List Int), 0) h ?_ ?_
      · exact sub_ok (ρ := [(0, none)]) (l := [(a1 : Int) = a1, false = false, 0 = 0, (([] : List Int).length) = 0, a0.length = a0.length, ∀ i, i < a0.length → ∀ j, j < 1 → E24.cf (a0.getD i E24.z) j = E24.cf (a0.getD i E24.z) j, (((a0.length : Nat) : Int) : Int) = ((a0.length : Nat) : Int), (0 : Int) = ((0 : Nat) : Int), E5.cR ([] : List Int) = []]) (by as_aux_lemma => kernel_rfl) ⟨rfl, rfl, rfl, (by first | rfl | simp), rfl, fun _ _ _ _ => rfl, rfl, (by first | rfl | simp), rfl, trivial⟩
      · clear h; rintro ⟨n1, l8, k9⟩ h p1 hp1
        obtain _ | n1 := n1
        · cases (show (none : Option (Bool)) = some r from h)
        have h : keep_TtyPlain_l1 a0 a1 (n1 + 1) l8 k9 = some r := h
        unfold keep_TtyPlain_l1 at h
        refine segs [23, 13] tabOk mixed 4000 (S := .br (decide ((((k9 : Nat) : Int) : Int) < ((a0.length : Nat) : Int))) (.and (0 ≤ (((k9 : Nat) : Int) : Int) ∧ ((k9 : Nat) : Int) < ((a0.length : Nat) : Int)) (.leaf 0)) (.leaf 1)) (by as_aux_lemma => kernel_rfl) ?_
        refine br_ h ?_ ?_ <;> clear h <;> intro c10 h
        · refine sk_and ⟨Int.natCast_nonneg _, of_decide_eq_true c10⟩ ?_
          refine sk_leaf ?_
          obtain ⟨r12, e13, h⟩ := bd_ h
          refine callG_ok (d := some 33) (fn := 8) (ax := [.pv ((E5.ro (a0.getD k9 []))), .fn 9 []]) (args := [.pv ((E5.ro (a0.getD k9 []))), .fn 9 []]) (g := (!(decide (((((a0.getD k9 []).length : Nat) : Int) : Int) > 64)))) (ws := [(!(decide (((((a0.getD k9 []).length : Nat) : Int) : Int) > 64))) = true]) (ps := [(a0.getD k9 []).length = (a0.getD k9 []).length, ∀ i, i < (a0.getD k9 []).length → ∀ j, j < 1 → E5.cf ((a0.getD k9 []).getD i E5.z) j = E5.cf ((a0.getD k9 []).getD i E5.z) j]) (by as_aux_lemma => kernel_rfl) (fun hg => ⟨((by decide : ∀ y0 : Bool, ((y0 = true) → (y0 = true))) (!(decide (((((a0.getD k9 []).length : Nat) : Int) : Int) > 64)))) hg, trivial⟩) (fun hg => slices_ContainsFunc_byte_keep_TtyPlain_1_ok _ _ (by rw [hg] at e13; exact e13) (al := false)) (by as_aux_lemma => kernel_rfl) (fun hg => ⟨rfl, fun _ _ _ _ => rfl, trivial⟩) (fun hx => by cases hx) ?_
          refine segs [23, 13] tabOk mixed 4000 (S := .and ((decide (((((a0.getD k9 []).length : Nat) : Int) : Int) > 64)) = false → (!(decide (((((a0.getD k9 []).length : Nat) : Int) : Int) > 64))) = true) (.br ((decide (((((a0.getD k9 []).length : Nat) : Int) : Int) > 64)) || r12) (.leaf 0) (.leaf 1))) (by as_aux_lemma => kernel_rfl) ?_
          refine sk_and ((by decide : ∀ y0 : Bool, ((y0 = false) → ((!y0) = true))) (decide (((((a0.getD k9 []).length : Nat) : Int) : Int) > 64))) ?_
          refine br_ h ?_ ?_ <;> clear h <;> intro c15 h
          · refine sk_leaf ?_
            obtain rfl := some_ h
            exact end_ok [] Try.results3 (ps := [true = true]) (by as_aux_lemma => kernel_rfl) ⟨rfl, trivial⟩ (fun _ => ⟨rfl, by simp⟩)
          · refine sk_leaf ?_
            obtain ⟨g16, h⟩ := if_ h
            refine app_ok (d := 37) (e := 5) (s := 1) (b := 1) (x := .row 0 1 0 l8.length) (y := .pv ((E5.ro (a0.getD k9 [])))) E5 (xs := l8) (ys := (a0.getD k9 [])) (by as_aux_lemma => kernel_rfl) rfl (.row 0 l8 l8.length rfl (by as_aux_lemma => kernel_rfl)) (.ro (a0.getD k9 [])) g16 (by as_aux_lemma => kernel_rfl) ?_
            refine segs [23, 13] tabOk mixed 4000 (S := .leaf 0) (by as_aux_lemma => kernel_rfl) ?_
            refine sk_leaf ?_
            refine bs_ok (d := 38) (e := 5) (s := 1) (n := 1) (cs := [.pv (.raw (.int .u8 10))]) (cs' := E5.cR [10]) (by as_aux_lemma => kernel_rfl) rfl (by as_aux_lemma => kernel_rfl) ?_
            refine segs [23, 13] tabOk mixed 4000 (S := .leaf 0) (by as_aux_lemma => kernel_rfl) ?_
            refine sk_leaf ?_
            obtain ⟨g17, h⟩ := if_ h
            refine app_ok (d := 39) (e := 5) (s := 1) (b := 1) (x := .row 16976 1 0 ((l8 ++ (a0.getD k9 [])).length)) (y := .row 16992 1 0 1) E5 (xs := (l8 ++ (a0.getD k9 []))) (ys := [10]) (by as_aux_lemma => kernel_rfl) rfl (.row 16976 (l8 ++ (a0.getD k9 [])) ((l8 ++ (a0.getD k9 [])).length) rfl (by as_aux_lemma => kernel_rfl)) (.all 16992 5 [10] 1 rfl (by as_aux_lemma => kernel_rfl)) g17 (by as_aux_lemma => kernel_rfl) ?_
            refine segs [23, 13] tabOk mixed 4000 (S := .leaf 0) (by as_aux_lemma => kernel_rfl) ?_
            refine sk_leaf ?_
            refine back_ok (p := p1) (by as_aux_lemma => kernel_rfl) (hp1 (n1, ((l8 ++ (a0.getD k9 [])) ++ [10]), k9 + 1) _ h (Nat.lt_succ_self n1) ?_)
            exact sub_ok (ρ := [(0, some 17008)]) (l := [(a1 : Int) = a1, false = false, 0 = 0, (((l8 ++ (a0.getD k9 [])) ++ [10]).length) = (((l8 ++ (a0.getD k9 [])) ++ [10]).length), a0.length = a0.length, ∀ i, i < a0.length → ∀ j, j < 1 → E24.cf (a0.getD i E24.z) j = E24.cf (a0.getD i E24.z) j, (((a0.length : Nat) : Int) : Int) = ((a0.length : Nat) : Int), ((IntKind.i64.wrap (((k9 : Nat) : Int) + 1)) : Int) = (((k9 + 1) : Nat) : Int), E5.cR ((l8 ++ (a0.getD k9 [])) ++ [10]) = E5.cR ((l8 ++ (a0.getD k9 [])) ++ [10]), AllPv (E5.cR ((l8 ++ (a0.getD k9 [])) ++ [10]))]) (by as_aux_lemma => kernel_rfl) ⟨rfl, rfl, rfl, rfl, rfl, fun _ _ _ _ => rfl, rfl, (wrap_nat (Int.ofNat_lt.1 (of_decide_eq_true c10)) (by omega)), rfl, (Elem.cR_pv _ _), trivial⟩
        · refine sk_leaf ?_
          refine cut_ok (by as_aux_lemma => kernel_rfl) (τ := mk 80 [(1, .pv (.raw (.int .i64 a1))), (4, .pv (.raw (.bool false))), (5, .pv ((E5.ro l8)))] []) (sub_ok (ρ := []) (l := [(a1 : Int) = a1, false = false, l8.length = l8.length, rowQ (E5.cR l8) 1 0 l8.length (fun i j => E5.cf (l8.getD i E5.z) j)]) (by as_aux_lemma => kernel_rfl) ⟨rfl, rfl, (by first | rfl | exact Elem.sub_len _ (by omega) | simp | (simp <;> omega)), E5.rowQ_all l8 rfl, trivial⟩) ?_
          refine segs [23] tabOk mixed 4000 (S := .leaf 0) (by as_aux_lemma => kernel_rfl) ?_
          refine sk_leaf ?_
          obtain ⟨r18, e19, h⟩ := bd_ h
          refine call_ok (d := some 42) (fn := 11) (ax := [.pv ((E5.ro l8))]) (args := [.pv ((E5.ro l8))]) (ps := [l8.length = l8.length, ∀ i, i < l8.length → ∀ j, j < 1 → E5.cf (l8.getD i E5.z) j = E5.cf (l8.getD i E5.z) j]) (hb' := []) (by as_aux_lemma => kernel_rfl) (tty_Type_ok _ _ e19) (by as_aux_lemma => kernel_rfl) ⟨rfl, fun _ _ _ _ => rfl, trivial⟩ (fun _ => (by as_aux_lemma => kernel_rfl)) (by simp) rfl (by as_aux_lemma => kernel_rfl) ?_
          refine segs [23, 13] tabOk mixed 4000 (S := .leaf 0) (by as_aux_lemma => kernel_rfl) ?_
          refine sk_leaf ?_
          refine len_ro (by as_aux_lemma => kernel_rfl) 5 (s := 1) (n := l8.length) (c := fun i j => E5.cf (l8.getD i E5.z) j) (by as_aux_lemma => kernel_rfl) ?_; intro hl2_0
          refine len_box (by as_aux_lemma => kernel_rfl) 16512 0 (cs := [.pv ((E24.ro r18.Lines)), .pv ((E5.ro r18.Edit))]) (by as_aux_lemma => kernel_rfl) (s := 1) (n := r18.Lines.length) (c := fun i j => E24.cf (r18.Lines.getD i E24.z) j) rfl ?_; intro hl2_1
          refine len_box (by as_aux_lemma => kernel_rfl) 16512 1 (cs := [.pv ((E24.ro r18.Lines)), .pv ((E5.ro r18.Edit))]) (by as_aux_lemma => kernel_rfl) (s := 1) (n := r18.Edit.length) (c := fun i j => E5.cf (r18.Edit.getD i E5.z) j) rfl ?_; intro hl2_2
          replace h : (fun (x : Nat × List Int × Int × List (List Int) × List Int) => keep_TtyPlain_l2 a1 l8 r18 x.1 x.2.1 x.2.2.1 x.2.2.2.1 x.2.2.2.2 = some r) (FUEL, ([] : List Int), 0, r18.Lines, r18.Edit) := h
          refine loop_ok (by as_aux_lemma => kernel_rfl) (X := Nat × List Int × Int × List (List Int) × List Int) (fun x => keep_TtyPlain_l2 a1 l8 r18 x.1 x.2.1 x.2.2.1 x.2.2.2.1 x.2.2.2.2 = some r) (fun x => x.1) (fun x => mk 80 [(1, .pv (.raw (.int .i64 a1))), (4, .pv (.raw (.bool false))), (5, .pv ((E5.ro l8))), (8, .ptr 0 0), (9, .row 1 1 0 x.2.1.length), (45, .pv (.raw (.int .i64 (IntKind.i64.wrap (((l8.length : Nat) : Int) + 1))))), (46, .pv (.raw (.int .i64 x.2.2.1)))] [(0, .box [.pv ((E24.ro x.2.2.2.1)), .pv ((E5.ro x.2.2.2.2))]), (1, .row 5 1 (E5.cR x.2.1))]) (FUEL, ([] : List Int), 0, r18.Lines, r18.Edit) h ?_ ?_
          · exact sub_ok (ρ := [(0, some 16512), (1, none)]) (l := [(a1 : Int) = a1, false = false, l8.length = l8.length, ∀ i, i < l8.length → ∀ j, j < 1 → E5.cf (l8.getD i E5.z) j = E5.cf (l8.getD i E5.z) j, 0 = 0, 0 = 0, (([] : List Int).length) = 0, ((IntKind.i64.wrap (((l8.length : Nat) : Int) + 1)) : Int) = (IntKind.i64.wrap (((l8.length : Nat) : Int) + 1)), (0 : Int) = 0, r18.Lines.length = r18.Lines.length, ∀ i, i < r18.Lines.length → ∀ j, j < 1 → E24.cf (r18.Lines.getD i E24.z) j = E24.cf (r18.Lines.getD i E24.z) j, r18.Edit.length = r18.Edit.length, ∀ i, i < r18.Edit.length → ∀ j, j < 1 → E5.cf (r18.Edit.getD i E5.z) j = E5.cf (r18.Edit.getD i E5.z) j, E5.cR ([] : List Int) = []]) (by as_aux_lemma => kernel_rfl) ⟨rfl, rfl, rfl, fun _ _ _ _ => rfl, rfl, rfl, (by first | rfl | simp), rfl, rfl, rfl, fun _ _ _ _ => rfl, rfl, fun _ _ _ _ => rfl, rfl, trivial⟩
          · clear h; rintro ⟨n2, l20, x21, l22, l23⟩ h p2 hp2
            obtain _ | n2 := n2
            · cases (show (none : Option (Bool)) = some r from h)
            have h : keep_TtyPlain_l2 a1 l8 r18 (n2 + 1) l20 x21 l22 l23 = some r := h
            unfold keep_TtyPlain_l2 at h
            refine segs [23, 13] tabOk mixed 4000 (S := .br (decide ((x21 : Int) < (IntKind.i64.wrap (((l8.length : Nat) : Int) + 1)))) (.leaf 0) (.leaf 1)) (by as_aux_lemma => kernel_rfl) ?_
            refine br_ h ?_ ?_ <;> clear h <;> intro c24 h
            · refine sk_leaf ?_
              obtain ⟨r25, e26, h⟩ := bd_ h
              refine call_ok (d := some 51) (fn := 12) (ax := [.agg [.pv ((E24.ro l22)), .pv ((E5.ro l23))], .pv (.raw (.int .i64 a1))]) (args := [.agg [.pv ((E24.ro l22)), .pv ((E5.ro l23))], .pv (.raw (.int .i64 a1))]) (ps := [l22.length = l22.length, ∀ i, i < l22.length → ∀ j, j < 1 → E24.cf (l22.getD i E24.z) j = E24.cf (l22.getD i E24.z) j, l23.length = l23.length, ∀ i, i < l23.length → ∀ j, j < 1 → E5.cf (l23.getD i E5.z) j = E5.cf (l23.getD i E5.z) j, (a1 : Int) = a1]) (hb' := [.row 5 1 (E5.cR r25.1.Edit), .row 5 1 (E5.cR r25.2.1)]) (by as_aux_lemma => kernel_rfl) (tty_Read_ok _ _ _ e26) (by as_aux_lemma => kernel_rfl) ⟨rfl, fun _ _ _ _ => rfl, rfl, fun _ _ _ _ => rfl, rfl, trivial⟩ (fun _ => (by as_aux_lemma => kernel_rfl)) (by simp) (by simp only [List.map_cons, List.map_nil, Elem.row_up]) (by as_aux_lemma => kernel_rfl) ?_
              refine segs [23, 13] tabOk mixed 4000 (S := .br ((r25.2.2 : Int) == 7) (.leaf 0) (.and (((!((r25.2.2 : Int) != 0)) = true → ((!((r25.2.2 : Int) != 0)) = true))) (.and (((!((r25.2.2 : Int) != 0)) = true → ((!((r25.2.2 : Int) != 0)) = true))) (.and (((!((r25.2.2 : Int) != 0)) = true → ((!((r25.2.2 : Int) != 0)) = true))) (.and (((r25.2.2 : Int) != 0) = false → (!((r25.2.2 : Int) != 0)) = true) (.br (((r25.2.2 : Int) != 0) || (decide ((((r25.2.1.length : Nat) : Int) : Int) > a1))) (.leaf 1) (.leaf 2))))))) (by as_aux_lemma => kernel_rfl) ?_
              refine br_ h ?_ ?_ <;> clear h <;> intro c27 h
              · refine sk_leaf ?_
                refine cut_ok (by as_aux_lemma => kernel_rfl) (τ := mk 80 [(4, .pv (.raw (.bool false))), (5, .pv ((E5.ro l8))), (8, .ptr 0 0), (9, .pv ((E5.ro l20)))] [(0, .box [.pv ((E24.ro l22)), .pv ((E5.ro l23))])]) (sub_ok (ρ := [(0, some 0)]) (l := [false = false, l8.length = l8.length, ∀ i, i < l8.length → ∀ j, j < 1 → E5.cf (l8.getD i E5.z) j = E5.cf (l8.getD i E5.z) j, 0 = 0, l20.length = l20.length, rowQ (E5.cR l20) 1 0 l20.length (fun i j => E5.cf (l20.getD i E5.z) j), l22.length = l22.length, ∀ i, i < l22.length → ∀ j, j < 1 → E24.cf (l22.getD i E24.z) j = E24.cf (l22.getD i E24.z) j, l23.length = l23.length, ∀ i, i < l23.length → ∀ j, j < 1 → E5.cf (l23.getD i E5.z) j = E5.cf (l23.getD i E5.z) j]) (by as_aux_lemma => kernel_rfl) ⟨rfl, rfl, fun _ _ _ _ => rfl, rfl, (by first | rfl | exact Elem.sub_len _ (by omega) | simp | (simp <;> omega)), E5.rowQ_all l20 rfl, rfl, fun _ _ _ _ => rfl, rfl, fun _ _ _ _ => rfl, trivial⟩) ?_
                refine segs [13] tabOk mixed 4000 (S := .leaf 0) (by as_aux_lemma => kernel_rfl) ?_
                refine sk_leaf ?_
                refine cv_ok (d := 71) E5 (xs := l20) rfl (fun _ => rfl) (by as_aux_lemma => kernel_rfl) ?_
                refine segs [23, 13] tabOk mixed 4000 (S := .leaf 0) (by as_aux_lemma => kernel_rfl) ?_
                refine sk_leaf ?_
                refine cv_ok (d := 73) E5 (xs := l8) rfl (fun _ => rfl) (by as_aux_lemma => kernel_rfl) ?_
                refine segs [23, 13] tabOk mixed 4000 (S := .leaf 0) (by as_aux_lemma => kernel_rfl) ?_
                refine sk_leaf ?_
                obtain ⟨r28, e29, h⟩ := bd_ h
                refine callG_ok (d := some 78) (fn := 13) (ax := [.agg [.pv ((E24.ro l22)), .pv ((E5.ro l23))], .agg [.pv (.raw (.slice none 0 0)), .pv (.raw (.slice none 0 0))]]) (args := [.agg [.pv ((E24.ro l22)), .pv ((E5.ro l23))], .agg [.pv ((E24.ro ([] : List (List Int)))), .pv ((E5.ro ([] : List Int)))]]) (g := ((bytesOf l20).toList == (bytesOf l8).toList)) (ws := [((bytesOf l20).toList == (bytesOf l8).toList) = true, ((bytesOf l20).toList == (bytesOf l8).toList) = true]) (ps := [l22.length = l22.length, ∀ i, i < l22.length → ∀ j, j < 1 → E24.cf (l22.getD i E24.z) j = E24.cf (l22.getD i E24.z) j, l23.length = l23.length, ∀ i, i < l23.length → ∀ j, j < 1 → E5.cf (l23.getD i E5.z) j = E5.cf (l23.getD i E5.z) j, ([] : List (List Int)).length = 0, ([] : List Int).length = 0]) (by as_aux_lemma => kernel_rfl) (fun hg => ⟨((by decide : ∀ y0 : Bool, ((y0 = true) → (y0 = true))) ((bytesOf l20).toList == (bytesOf l8).toList)) hg, ((by decide : ∀ y0 : Bool, ((y0 = true) → (y0 = true))) ((bytesOf l20).toList == (bytesOf l8).toList)) hg, trivial⟩) (fun hg => ref_SameTty_ok _ _ _ (by rw [hg] at e29; exact e29) (al := true)) (by as_aux_lemma => kernel_rfl) (fun hg => ⟨rfl, fun _ _ _ _ => rfl, rfl, fun _ _ _ _ => rfl, rfl, rfl, trivial⟩) (fun _ => (by as_aux_lemma => kernel_rfl)) ?_
                refine segs [23, 13] tabOk mixed 4000 (S := .and (((bytesOf l20).toList == (bytesOf l8).toList) = true → ((bytesOf l20).toList == (bytesOf l8).toList) = true) (.leaf 0)) (by as_aux_lemma => kernel_rfl) ?_
                refine sk_and ((by decide : ∀ y0 : Bool, ((y0 = true) → (y0 = true))) ((bytesOf l20).toList == (bytesOf l8).toList)) ?_
                refine sk_leaf ?_
                obtain rfl := some_ h
                exact end_ok [] Try.results3 (ps := [(((bytesOf l20).toList == (bytesOf l8).toList) && r28) = (((bytesOf l20).toList == (bytesOf l8).toList) && r28)]) (by as_aux_lemma => kernel_rfl) ⟨rfl, trivial⟩ (fun _ => ⟨rfl, by simp⟩)
              · refine sk_and ((by decide : ∀ y0 : Bool, ((y0 = true) → (y0 = true))) (!((r25.2.2 : Int) != 0))) ?_
                refine sk_and ((by decide : ∀ y0 : Bool, ((y0 = true) → (y0 = true))) (!((r25.2.2 : Int) != 0))) ?_
                refine sk_and ((by decide : ∀ y0 : Bool, ((y0 = true) → (y0 = true))) (!((r25.2.2 : Int) != 0))) ?_
                refine sk_and ((by decide : ∀ y0 : Bool, ((y0 = false) → ((!y0) = true))) ((r25.2.2 : Int) != 0)) ?_
                refine br_ h ?_ ?_ <;> clear h <;> intro c35 h
                · refine sk_leaf ?_
                  obtain rfl := some_ h
                  exact end_ok [] Try.results3 (ps := [false = false]) (by as_aux_lemma => kernel_rfl) ⟨rfl, trivial⟩ (fun _ => ⟨rfl, by simp⟩)
                · refine sk_leaf ?_
                  obtain ⟨g36, h⟩ := if_ h
                  refine app_ok (d := 68) (e := 5) (s := 1) (b := 1) (x := .row 1 1 0 l20.length) (y := .row 17201 1 0 r25.2.1.length) E5 (xs := l20) (ys := r25.2.1) (by as_aux_lemma => kernel_rfl) rfl (.row 1 l20 l20.length rfl (by as_aux_lemma => kernel_rfl)) (.all 17201 5 r25.2.1 r25.2.1.length rfl (by as_aux_lemma => kernel_rfl)) g36 (by as_aux_lemma => kernel_rfl) ?_
                  refine segs [23, 13] tabOk mixed 4000 (S := .leaf 0) (by as_aux_lemma => kernel_rfl) ?_
                  refine sk_leaf ?_
                  refine back_ok (p := p2) (by as_aux_lemma => kernel_rfl) (hp2 (n2, (l20 ++ r25.2.1), (IntKind.i64.wrap (x21 + 1)), r25.1.Lines, r25.1.Edit) _ h (Nat.lt_succ_self n2) ?_)
                  exact sub_ok (ρ := [(0, some 0), (1, some 17472)]) (l := [(a1 : Int) = a1, false = false, l8.length = l8.length, ∀ i, i < l8.length → ∀ j, j < 1 → E5.cf (l8.getD i E5.z) j = E5.cf (l8.getD i E5.z) j, 0 = 0, 0 = 0, ((l20 ++ r25.2.1).length) = ((l20 ++ r25.2.1).length), ((IntKind.i64.wrap (((l8.length : Nat) : Int) + 1)) : Int) = (IntKind.i64.wrap (((l8.length : Nat) : Int) + 1)), ((IntKind.i64.wrap (x21 + 1)) : Int) = (IntKind.i64.wrap (x21 + 1)), r25.1.Lines.length = r25.1.Lines.length, ∀ i, i < r25.1.Lines.length → ∀ j, j < 1 → E24.cf (r25.1.Lines.getD i E24.z) j = E24.cf (r25.1.Lines.getD i E24.z) j, r25.1.Edit.length = r25.1.Edit.length, rowQ (E5.cR r25.1.Edit) 1 0 r25.1.Edit.length (fun i j => E5.cf (r25.1.Edit.getD i E5.z) j), E5.cR (l20 ++ r25.2.1) = E5.cR (l20 ++ r25.2.1), AllPv (E5.cR (l20 ++ r25.2.1))]) (by as_aux_lemma => kernel_rfl) ⟨rfl, rfl, rfl, fun _ _ _ _ => rfl, rfl, rfl, rfl, rfl, rfl, rfl, fun _ _ _ _ => rfl, (by first | rfl | exact Elem.sub_len _ (by omega) | simp | (simp <;> omega)), E5.rowQ_all r25.1.Edit rfl, rfl, (Elem.cR_pv _ _), trivial⟩
            · refine sk_leaf ?_
              refine cut_ok (by as_aux_lemma => kernel_rfl) (τ := mk 80 [(4, .pv (.raw (.bool false))), (5, .pv ((E5.ro l8))), (8, .ptr 0 0), (9, .pv ((E5.ro l20)))] [(0, .box [.pv ((E24.ro l22)), .pv ((E5.ro l23))])]) (sub_ok (ρ := [(0, some 0)]) (l := [false = false, l8.length = l8.length, ∀ i, i < l8.length → ∀ j, j < 1 → E5.cf (l8.getD i E5.z) j = E5.cf (l8.getD i E5.z) j, 0 = 0, l20.length = l20.length, rowQ (E5.cR l20) 1 0 l20.length (fun i j => E5.cf (l20.getD i E5.z) j), l22.length = l22.length, ∀ i, i < l22.length → ∀ j, j < 1 → E24.cf (l22.getD i E24.z) j = E24.cf (l22.getD i E24.z) j, l23.length = l23.length, ∀ i, i < l23.length → ∀ j, j < 1 → E5.cf (l23.getD i E5.z) j = E5.cf (l23.getD i E5.z) j]) (by as_aux_lemma => kernel_rfl) ⟨rfl, rfl, fun _ _ _ _ => rfl, rfl, (by first | rfl | exact Elem.sub_len _ (by omega) | simp | (simp <;> omega)), E5.rowQ_all l20 rfl, rfl, fun _ _ _ _ => rfl, rfl, fun _ _ _ _ => rfl, trivial⟩) ?_
              refine segs [13] tabOk mixed 4000 (S := .leaf 0) (by as_aux_lemma => kernel_rfl) ?_
              refine sk_leaf ?_
              refine cv_ok (d := 71) E5 (xs := l20) rfl (fun _ => rfl) (by as_aux_lemma => kernel_rfl) ?_
              refine segs [23, 13] tabOk mixed 4000 (S := .leaf 0) (by as_aux_lemma => kernel_rfl) ?_
              refine sk_leaf ?_
              refine cv_ok (d := 73) E5 (xs := l8) rfl (fun _ => rfl) (by as_aux_lemma => kernel_rfl) ?_
              refine segs [23, 13] tabOk mixed 4000 (S := .leaf 0) (by as_aux_lemma => kernel_rfl) ?_
              refine sk_leaf ?_
              obtain ⟨r37, e38, h⟩ := bd_ h
              refine callG_ok (d := some 78) (fn := 13) (ax := [.agg [.pv ((E24.ro l22)), .pv ((E5.ro l23))], .agg [.pv (.raw (.slice none 0 0)), .pv (.raw (.slice none 0 0))]]) (args := [.agg [.pv ((E24.ro l22)), .pv ((E5.ro l23))], .agg [.pv ((E24.ro ([] : List (List Int)))), .pv ((E5.ro ([] : List Int)))]]) (g := ((bytesOf l20).toList == (bytesOf l8).toList)) (ws := [((bytesOf l20).toList == (bytesOf l8).toList) = true, ((bytesOf l20).toList == (bytesOf l8).toList) = true]) (ps := [l22.length = l22.length, ∀ i, i < l22.length → ∀ j, j < 1 → E24.cf (l22.getD i E24.z) j = E24.cf (l22.getD i E24.z) j, l23.length = l23.length, ∀ i, i < l23.length → ∀ j, j < 1 → E5.cf (l23.getD i E5.z) j = E5.cf (l23.getD i E5.z) j, ([] : List (List Int)).length = 0, ([] : List Int).length = 0]) (by as_aux_lemma => kernel_rfl) (fun hg => ⟨((by decide : ∀ y0 : Bool, ((y0 = true) → (y0 = true))) ((bytesOf l20).toList == (bytesOf l8).toList)) hg, ((by decide : ∀ y0 : Bool, ((y0 = true) → (y0 = true))) ((bytesOf l20).toList == (bytesOf l8).toList)) hg, trivial⟩) (fun hg => ref_SameTty_ok _ _ _ (by rw [hg] at e38; exact e38) (al := true)) (by as_aux_lemma => kernel_rfl) (fun hg => ⟨rfl, fun _ _ _ _ => rfl, rfl, fun _ _ _ _ => rfl, rfl, rfl, trivial⟩) (fun _ => (by as_aux_lemma => kernel_rfl)) ?_
              refine segs [23, 13] tabOk mixed 4000 (S := .and (((bytesOf l20).toList == (bytesOf l8).toList) = true → ((bytesOf l20).toList == (bytesOf l8).toList) = true) (.leaf 0)) (by as_aux_lemma => kernel_rfl) ?_
              refine sk_and ((by decide : ∀ y0 : Bool, ((y0 = true) → (y0 = true))) ((bytesOf l20).toList == (bytesOf l8).toList)) ?_
              refine sk_leaf ?_
              obtain rfl := some_ h
              exact end_ok [] Try.results3 (ps := [(((bytesOf l20).toList == (bytesOf l8).toList) && r37) = (((bytesOf l20).toList == (bytesOf l8).toList) && r37)]) (by as_aux_lemma => kernel_rfl) ⟨rfl, trivial⟩ (fun _ => ⟨rfl, by simp⟩)

set_option maxRecDepth 100000 in
set_option maxHeartbeats 2000000 in
theorem slices_Grow_byte_nil_calls (n : Nat) (hb : n * 1 ≤ 140737488355328) (hb2 : n ≤ 140737488355328) (w : World) : Calls Try.prog 23 #[.slice none 0 0, .int .i64 n] w fun ex w' => GrowPost 5 1 w ex w' := by
  obtain ⟨_, info, hi, hi1, hi2, hz, _⟩ := tabOk 5 _ tab_5
  have hi1 : info.size = 1 := hi1
  have hi2 : info.bytes = 1 := hi2
  obtain ⟨z, hz, hzs⟩ : ∃ z, info.zero = some z ∧ z.cells.size = 1 := ⟨_, hz, by kernel_rfl⟩
  have h1 : ¬ ((n : Int) < 0) := by omega
  have h2 : Go.RowKit.wrap64 (0 - 0 : Int) = 0 := by unfold Go.RowKit.wrap64; omega
  have h3 : Go.RowKit.wrap64 ((n : Int) - 0) = (n : Int) := by unfold Go.RowKit.wrap64; omega
  by_cases h0 : n = 0
  · subst h0
    go_enter Try.func23, Try.ntmps23
    go_wp2
    all_goals first | (go_ret; exact .inl ⟨rfl, rfl⟩) | skip
  · have hn : 0 < n := by omega
    have h4 : ((n : Int) > 0) := by omega
    have hrun := fun ty => Go.Lib.run_append_nil_zeros (P := Try.prog) w 24 3 ty 5 info z .i64 .i64 Try.underlying24 Try.underlying3 hi hz n hn (by rw [hi1]; decide) (by omega) (by rw [hi2]; omega)
    have hGn : n ≤ grownCap w n 0 5 := grownCap_ge w _ _ _
    have hG63 := grownCap_le_maxLen w n 0 5 (by unfold maxLen; omega)
    obtain ⟨G, hG⟩ : ∃ G, G = grownCap w n 0 5 := ⟨_, rfl⟩
    rw [← hG] at hrun hGn hG63
    obtain ⟨cur, hcur⟩ : ∃ cur, cur = Builtin.zeroCells z.cells n ++ Builtin.zeroCells z.cells (G - n) := ⟨_, rfl⟩
    rw [← hcur] at hrun
    have hsz : cur.size = G * 1 := by rw [hcur, Array.size_append, size_zeroCells, size_zeroCells, hzs, ← Nat.add_mul]; congr 1; omega
    clear hcur hG hi hz
    go_enter Try.func23, Try.ntmps23
    go_wp2_with (at_builtin; refine Go.Lib.wpList_append_run _ rfl _ _ _ _ rfl _ _ rfl rfl _ _ (hrun _) ?_)
    all_goals (go_ret; exact .inr ⟨G, cur, rfl, rfl, hsz, hG63⟩)
theorem slices_Grow_byte_nil_ok (a0 : Int) (r : List Int) (h : slices_Grow_byte_nil a0 = some r) {al : Bool} : PCalls Try.prog 23 [.pv (.raw (.slice none 0 0)), .pv (.raw (.int .i64 a0))] al (.row 0 1 0 r.length) [.row 5 1 (E5.cR r)] := by
  unfold slices_Grow_byte_nil at h
  obtain ⟨g, h⟩ := if_ h
  obtain rfl := some_ h
  obtain ⟨n, rfl⟩ : ∃ n : Nat, a0 = n := ⟨a0.toNat, by omega⟩
  exact grow_pcalls ⟨_, Try.func23, by kernel_rfl, by kernel_rfl⟩ (E := E5) (by decide) (slices_Grow_byte_nil_calls n (by omega) (by omega))

set_option maxHeartbeats 40000000 in
set_option maxRecDepth 100000 in
theorem slices_Concat_byte_ok (a0 : (List (List Int))) (r : (List Int)) (h : slices_Concat_byte a0 = some r) {al : Bool} : PCalls Try.prog 14 [.pv ((E24.ro a0))] al (.row 0 1 0 r.length) [.row 5 1 (E5.cR r)] := by
  unfold slices_Concat_byte at h
  refine fn_ok tabOk Try.func14 (by as_aux_lemma => kernel_rfl) (by as_aux_lemma => kernel_rfl) Try.ntmps14 (by simp) ?_
  refine segs [] tabOk mixed 4000 (S := .leaf 0) (by as_aux_lemma => kernel_rfl) ?_
  refine sk_leaf ?_
  refine len_ro (by as_aux_lemma => kernel_rfl) 0 (s := 1) (n := a0.length) (c := fun i j => E24.cf (a0.getD i E24.z) j) (by as_aux_lemma => kernel_rfl) ?_; intro hl1_0
  refine len_ro (by as_aux_lemma => kernel_rfl) 9 (s := 1) (n := a0.length) (c := fun i j => E24.cf (a0.getD i E24.z) j) (by as_aux_lemma => kernel_rfl) ?_; intro hl1_1
  replace h : (fun (x : Nat × Int × Nat) => slices_Concat_byte_l1 a0 x.1 x.2.1 x.2.2 = some r) (FUEL, 0, 0) := h
  refine loop_ok (by as_aux_lemma => kernel_rfl) (X := Nat × Int × Nat) (fun x => slices_Concat_byte_l1 a0 x.1 x.2.1 x.2.2 = some r) (fun x => x.1) (fun x => mk 36 [(0, .pv ((E24.ro a0))), (2, .pv (.raw (.slice none 0 0))), (3, .pv (.raw (.int .i64 x.2.1))), (9, .pv ((E24.ro a0))), (10, .pv (.raw (.int .i64 ((a0.length : Nat) : Int)))), (11, .pv (.raw (.int .i64 ((x.2.2 : Nat) : Int))))] []) (FUEL, 0, 0) h ?_ ?_
  · exact sub_ok (ρ := []) (l := [a0.length = a0.length, ∀ i, i < a0.length → ∀ j, j < 1 → E24.cf (a0.getD i E24.z) j = E24.cf (a0.getD i E24.z) j, (0 : Int) = 0, a0.length = a0.length, ∀ i, i < a0.length → ∀ j, j < 1 → E24.cf (a0.getD i E24.z) j = E24.cf (a0.getD i E24.z) j, (((a0.length : Nat) : Int) : Int) = ((a0.length : Nat) : Int), (0 : Int) = ((0 : Nat) : Int)]) (by as_aux_lemma => kernel_rfl) ⟨rfl, fun _ _ _ _ => rfl, rfl, rfl, fun _ _ _ _ => rfl, rfl, (by first | rfl | simp), trivial⟩
  · clear h; rintro ⟨n1, x1, k2⟩ h p1 hp1
    obtain _ | n1 := n1
    · cases (show (none : Option ((List Int))) = some r from h)
    have h : slices_Concat_byte_l1 a0 (n1 + 1) x1 k2 = some r := h
    unfold slices_Concat_byte_l1 at h
    refine segs [] tabOk mixed 4000 (S := .br (decide ((((k2 : Nat) : Int) : Int) < ((a0.length : Nat) : Int))) (.and (0 ≤ (((k2 : Nat) : Int) : Int) ∧ ((k2 : Nat) : Int) < ((a0.length : Nat) : Int)) (.br (decide (((IntKind.i64.wrap (x1 + (((a0.getD k2 []).length : Nat) : Int))) : Int) < 0)) (.bad) (.leaf 0))) (.leaf 1)) (by as_aux_lemma => kernel_rfl) ?_
    refine br_ h ?_ ?_ <;> clear h <;> intro c3 h
    · refine sk_and ⟨Int.natCast_nonneg _, of_decide_eq_true c3⟩ ?_
      refine br_ h ?_ ?_ <;> clear h <;> intro c5 h
      · cases h
      · refine sk_leaf ?_
        refine back_ok (p := p1) (by as_aux_lemma => kernel_rfl) (hp1 (n1, (IntKind.i64.wrap (x1 + (((a0.getD k2 []).length : Nat) : Int))), k2 + 1) _ h (Nat.lt_succ_self n1) ?_)
        exact sub_ok (ρ := []) (l := [a0.length = a0.length, ∀ i, i < a0.length → ∀ j, j < 1 → E24.cf (a0.getD i E24.z) j = E24.cf (a0.getD i E24.z) j, ((IntKind.i64.wrap (x1 + (((a0.getD k2 []).length : Nat) : Int))) : Int) = (IntKind.i64.wrap (x1 + (((a0.getD k2 []).length : Nat) : Int))), a0.length = a0.length, ∀ i, i < a0.length → ∀ j, j < 1 → E24.cf (a0.getD i E24.z) j = E24.cf (a0.getD i E24.z) j, (((a0.length : Nat) : Int) : Int) = ((a0.length : Nat) : Int), ((IntKind.i64.wrap (((k2 : Nat) : Int) + 1)) : Int) = (((k2 + 1) : Nat) : Int)]) (by as_aux_lemma => kernel_rfl) ⟨rfl, fun _ _ _ _ => rfl, rfl, rfl, fun _ _ _ _ => rfl, rfl, (wrap_nat (Int.ofNat_lt.1 (of_decide_eq_true c3)) (by omega)), trivial⟩
    · refine sk_leaf ?_
      obtain ⟨r6, e7, h⟩ := bd_ h
      refine call_ok (d := some 24) (fn := 23) (ax := [.pv (.raw (.slice none 0 0)), .pv (.raw (.int .i64 x1))]) (args := [.pv (.raw (.slice none 0 0)), .pv (.raw (.int .i64 x1))]) (ps := [(x1 : Int) = x1]) (hb' := [.row 5 1 (E5.cR r6)]) (by as_aux_lemma => kernel_rfl) (slices_Grow_byte_nil_ok _ _ e7 (al := true)) (by as_aux_lemma => kernel_rfl) ⟨rfl, trivial⟩ (fun _ => (by as_aux_lemma => kernel_rfl)) (by simp) (by simp only [List.map_cons, List.map_nil, Elem.row_up]) (by as_aux_lemma => kernel_rfl) ?_
      refine segs [] tabOk mixed 4000 (S := .leaf 0) (by as_aux_lemma => kernel_rfl) ?_
      refine sk_leaf ?_
      refine len_ro (by as_aux_lemma => kernel_rfl) 25 (s := 1) (n := a0.length) (c := fun i j => E24.cf (a0.getD i E24.z) j) (by as_aux_lemma => kernel_rfl) ?_; intro hl2_0
      refine len_row (by as_aux_lemma => kernel_rfl) 16768 (e := 5) (s := 1) (n := r6.length) (cs := E5.cR r6) (by as_aux_lemma => kernel_rfl) (Elem.cR_length _ _) ?_; intro hl2_1
      replace h : (fun (x : Nat × List Int × Nat) => slices_Concat_byte_l2 a0 r6 x.1 x.2.1 x.2.2 = some r) (FUEL, r6, 0) := h
      refine loop_ok (by as_aux_lemma => kernel_rfl) (X := Nat × List Int × Nat) (fun x => slices_Concat_byte_l2 a0 r6 x.1 x.2.1 x.2.2 = some r) (fun x => x.1) (fun x => mk 36 [(2, .pv (.raw (.slice none 0 0))), (6, .row 0 1 0 x.2.1.length), (25, .pv ((E24.ro a0))), (26, .pv (.raw (.int .i64 ((a0.length : Nat) : Int)))), (27, .pv (.raw (.int .i64 ((x.2.2 : Nat) : Int))))] [(0, .row 5 1 (E5.cR x.2.1))]) (FUEL, r6, 0) h ?_ ?_
      · exact sub_ok (ρ := [(0, some 16768)]) (l := [0 = 0, r6.length = r6.length, a0.length = a0.length, ∀ i, i < a0.length → ∀ j, j < 1 → E24.cf (a0.getD i E24.z) j = E24.cf (a0.getD i E24.z) j, (((a0.length : Nat) : Int) : Int) = ((a0.length : Nat) : Int), (0 : Int) = ((0 : Nat) : Int), E5.cR r6 = E5.cR r6, AllPv (E5.cR r6)]) (by as_aux_lemma => kernel_rfl) ⟨rfl, rfl, rfl, fun _ _ _ _ => rfl, rfl, (by first | rfl | simp), rfl, (Elem.cR_pv _ _), trivial⟩
      · clear h; rintro ⟨n2, l8, k9⟩ h p2 hp2
        obtain _ | n2 := n2
        · cases (show (none : Option ((List Int))) = some r from h)
        have h : slices_Concat_byte_l2 a0 r6 (n2 + 1) l8 k9 = some r := h
        unfold slices_Concat_byte_l2 at h
        refine segs [] tabOk mixed 4000 (S := .br (decide ((((k9 : Nat) : Int) : Int) < ((a0.length : Nat) : Int))) (.and (0 ≤ (((k9 : Nat) : Int) : Int) ∧ ((k9 : Nat) : Int) < ((a0.length : Nat) : Int)) (.leaf 0)) (.leaf 1)) (by as_aux_lemma => kernel_rfl) ?_
        refine br_ h ?_ ?_ <;> clear h <;> intro c10 h
        · refine sk_and ⟨Int.natCast_nonneg _, of_decide_eq_true c10⟩ ?_
          refine sk_leaf ?_
          obtain ⟨g12, h⟩ := if_ h
          refine app_ok (d := 33) (e := 5) (s := 1) (b := 1) (x := .row 0 1 0 l8.length) (y := .pv ((E5.ro (a0.getD k9 [])))) E5 (xs := l8) (ys := (a0.getD k9 [])) (by as_aux_lemma => kernel_rfl) rfl (.row 0 l8 l8.length rfl (by as_aux_lemma => kernel_rfl)) (.ro (a0.getD k9 [])) g12 (by as_aux_lemma => kernel_rfl) ?_
          refine segs [] tabOk mixed 4000 (S := .leaf 0) (by as_aux_lemma => kernel_rfl) ?_
          refine sk_leaf ?_
          refine back_ok (p := p2) (by as_aux_lemma => kernel_rfl) (hp2 (n2, (l8 ++ (a0.getD k9 [])), k9 + 1) _ h (Nat.lt_succ_self n2) ?_)
          exact sub_ok (ρ := [(0, some 16912)]) (l := [0 = 0, ((l8 ++ (a0.getD k9 [])).length) = ((l8 ++ (a0.getD k9 [])).length), a0.length = a0.length, ∀ i, i < a0.length → ∀ j, j < 1 → E24.cf (a0.getD i E24.z) j = E24.cf (a0.getD i E24.z) j, (((a0.length : Nat) : Int) : Int) = ((a0.length : Nat) : Int), ((IntKind.i64.wrap (((k9 : Nat) : Int) + 1)) : Int) = (((k9 + 1) : Nat) : Int), E5.cR (l8 ++ (a0.getD k9 [])) = E5.cR (l8 ++ (a0.getD k9 [])), AllPv (E5.cR (l8 ++ (a0.getD k9 [])))]) (by as_aux_lemma => kernel_rfl) ⟨rfl, rfl, rfl, fun _ _ _ _ => rfl, rfl, (wrap_nat (Int.ofNat_lt.1 (of_decide_eq_true c10)) (by omega)), rfl, (Elem.cR_pv _ _), trivial⟩
        · refine sk_leaf ?_
          obtain rfl := some_ h
          exact end_ok [(0, some 0)] Try.results14 (ps := [0 = 0, l8.length = l8.length, E5.cR l8 = E5.cR l8, AllPv (E5.cR l8)]) (by as_aux_lemma => kernel_rfl) ⟨rfl, (by first | rfl | simp), rfl, (Elem.cR_pv _ _), trivial⟩ (fun _ => ⟨rfl, by simp only [List.mem_cons, List.not_mem_nil, or_false, forall_eq_or_imp, forall_eq]; exact Elem.cR_bald E5_raw _⟩)

set_option maxHeartbeats 40000000 in
set_option maxRecDepth 100000 in
theorem keep_TtyErase_1_ok (a0 : Int) (r : Bool) (h : keep_TtyErase_1 a0 = some r) {al : Bool} : PCalls Try.prog 15 [.pv (.raw (.int .u8 a0))] al (.pv (.raw (.bool r))) [] := by
  unfold keep_TtyErase_1 at h
  refine fn_ok tabOk Try.func15 (by as_aux_lemma => kernel_rfl) (by as_aux_lemma => kernel_rfl) Try.ntmps15 (by simp) ?_
  refine segs [] tabOk mixed 4000 (S := .leaf 0) (by as_aux_lemma => kernel_rfl) ?_
  refine sk_leaf ?_
  obtain ⟨r1, e2, h⟩ := bd_ h
  refine call_ok (d := some 4) (fn := 10) (ax := [.pv (.raw (.int .u8 a0))]) (args := [.pv (.raw (.int .u8 a0))]) (ps := [(a0 : Int) = a0]) (hb' := []) (by as_aux_lemma => kernel_rfl) (keep_plain_ok _ _ e2 (al := true)) (by as_aux_lemma => kernel_rfl) ⟨rfl, trivial⟩ (fun _ => (by as_aux_lemma => kernel_rfl)) (by simp) rfl (by as_aux_lemma => kernel_rfl) ?_
  refine segs [] tabOk mixed 4000 (S := .leaf 0) (by as_aux_lemma => kernel_rfl) ?_
  refine sk_leaf ?_
  obtain rfl := some_ h
  exact end_ok [] Try.results15 (ps := [(!r1) = (!r1)]) (by as_aux_lemma => kernel_rfl) ⟨rfl, trivial⟩ (fun _ => ⟨rfl, by simp⟩)

set_option maxHeartbeats 40000000 in
set_option maxRecDepth 100000 in
theorem slices_IndexFunc_byte_keep_TtyErase_1_ok (a0 : (List Int)) (r : Int) (h : slices_IndexFunc_byte_keep_TtyErase_1 a0 = some r) {al : Bool} : PCalls Try.prog 18 [.pv ((E5.ro a0)), .fn 15 []] al (.pv (.raw (.int .i64 r))) [] := by
  unfold slices_IndexFunc_byte_keep_TtyErase_1 at h
  refine fn_ok tabOk Try.func18 (by as_aux_lemma => kernel_rfl) (by as_aux_lemma => kernel_rfl) Try.ntmps18 (by simp) ?_
  refine segs [] tabOk mixed 4000 (S := .leaf 0) (by as_aux_lemma => kernel_rfl) ?_
  refine sk_leaf ?_
  refine len_ro (by as_aux_lemma => kernel_rfl) 0 (s := 1) (n := a0.length) (c := fun i j => E5.cf (a0.getD i E5.z) j) (by as_aux_lemma => kernel_rfl) ?_; intro hl1_0
  replace h : (fun (x : Nat × Nat) => slices_IndexFunc_byte_keep_TtyErase_1_l1 a0 x.1 x.2 = some r) (FUEL, 0) := h
  refine loop_ok (by as_aux_lemma => kernel_rfl) (X := Nat × Nat) (fun x => slices_IndexFunc_byte_keep_TtyErase_1_l1 a0 x.1 x.2 = some r) (fun x => x.1) (fun x => mk 19 [(0, .pv ((E5.ro a0))), (1, .fn 15 []), (4, .pv (.raw (.int .i64 0))), (7, .pv (.raw (.int .i64 ((a0.length : Nat) : Int)))), (8, .pv (.raw (.int .i64 ((x.2 : Nat) : Int))))] []) (FUEL, 0) h ?_ ?_
  · exact sub_ok (ρ := []) (l := [a0.length = a0.length, ∀ i, i < a0.length → ∀ j, j < 1 → E5.cf (a0.getD i E5.z) j = E5.cf (a0.getD i E5.z) j, (0 : Int) = 0, (((a0.length : Nat) : Int) : Int) = ((a0.length : Nat) : Int), (0 : Int) = ((0 : Nat) : Int)]) (by as_aux_lemma => kernel_rfl) ⟨rfl, fun _ _ _ _ => rfl, rfl, rfl, (by first | rfl | simp), trivial⟩
  · clear h; rintro ⟨n1, k1⟩ h p1 hp1
    obtain _ | n1 := n1
    · cases (show (none : Option (Int)) = some r from h)
    have h : slices_IndexFunc_byte_keep_TtyErase_1_l1 a0 (n1 + 1) k1 = some r := h
    unfold slices_IndexFunc_byte_keep_TtyErase_1_l1 at h
    refine segs [] tabOk mixed 4000 (S := .br (decide ((((k1 : Nat) : Int) : Int) < ((a0.length : Nat) : Int))) (.and (0 ≤ (((k1 : Nat) : Int) : Int) ∧ ((k1 : Nat) : Int) < ((a0.length : Nat) : Int)) (.leaf 0)) (.leaf 1)) (by as_aux_lemma => kernel_rfl) ?_
    refine br_ h ?_ ?_ <;> clear h <;> intro c2 h
    · refine sk_and ⟨Int.natCast_nonneg _, of_decide_eq_true c2⟩ ?_
      refine sk_leaf ?_
      obtain ⟨r4, e5, h⟩ := bd_ h
      refine call_ok (d := some 16) (fn := 15) (ax := [.pv (.raw (.int .u8 (a0.getD k1 0)))]) (args := [.pv (.raw (.int .u8 (a0.getD k1 0)))]) (ps := [((a0.getD k1 0) : Int) = (a0.getD k1 0)]) (hb' := []) (by as_aux_lemma => kernel_rfl) (keep_TtyErase_1_ok _ _ e5 (al := true)) (by as_aux_lemma => kernel_rfl) ⟨rfl, trivial⟩ (fun _ => (by as_aux_lemma => kernel_rfl)) (by simp) rfl (by as_aux_lemma => kernel_rfl) ?_
      refine segs [] tabOk mixed 4000 (S := .br r4 (.leaf 0) (.leaf 1)) (by as_aux_lemma => kernel_rfl) ?_
      refine br_ h ?_ ?_ <;> clear h <;> intro c6 h
      · refine sk_leaf ?_
        obtain rfl := some_ h
        exact end_ok [] Try.results18 (ps := [(((k1 : Nat) : Int) : Int) = ((k1 : Nat) : Int)]) (by as_aux_lemma => kernel_rfl) ⟨rfl, trivial⟩ (fun _ => ⟨rfl, by simp⟩)
      · refine sk_leaf ?_
        refine back_ok (p := p1) (by as_aux_lemma => kernel_rfl) (hp1 (n1, k1 + 1) _ h (Nat.lt_succ_self n1) ?_)
        exact sub_ok (ρ := []) (l := [a0.length = a0.length, ∀ i, i < a0.length → ∀ j, j < 1 → E5.cf (a0.getD i E5.z) j = E5.cf (a0.getD i E5.z) j, (0 : Int) = 0, (((a0.length : Nat) : Int) : Int) = ((a0.length : Nat) : Int), ((IntKind.i64.wrap (((k1 : Nat) : Int) + 1)) : Int) = (((k1 + 1) : Nat) : Int)]) (by as_aux_lemma => kernel_rfl) ⟨rfl, fun _ _ _ _ => rfl, rfl, rfl, (wrap_nat (Int.ofNat_lt.1 (of_decide_eq_true c2)) (by omega)), trivial⟩
    · refine sk_leaf ?_
      obtain rfl := some_ h
      exact end_ok [] Try.results18 (ps := [((-1) : Int) = (-1)]) (by as_aux_lemma => kernel_rfl) ⟨rfl, trivial⟩ (fun _ => ⟨rfl, by simp⟩)

set_option maxHeartbeats 40000000 in
set_option maxRecDepth 100000 in
theorem slices_ContainsFunc_byte_keep_TtyErase_1_ok (a0 : (List Int)) (r : Bool) (h : slices_ContainsFunc_byte_keep_TtyErase_1 a0 = some r) {al : Bool} : PCalls Try.prog 8 [.pv ((E5.ro a0)), .fn 15 []] al (.pv (.raw (.bool r))) [] := by
  unfold slices_ContainsFunc_byte_keep_TtyErase_1 at h
  refine fn_ok tabOk Try.func8 (by as_aux_lemma => kernel_rfl) (by as_aux_lemma => kernel_rfl) Try.ntmps8 (by simp) ?_
  refine segs [] tabOk mixed 4000 (S := .leaf 0) (by as_aux_lemma => kernel_rfl) ?_
  refine sk_leaf ?_
  obtain ⟨r1, e2, h⟩ := bd_ h
  refine call_ok (d := some 7) (fn := 18) (ax := [.pv ((E5.ro a0)), .fn 15 []]) (args := [.pv ((E5.ro a0)), .fn 15 []]) (ps := [a0.length = a0.length, ∀ i, i < a0.length → ∀ j, j < 1 → E5.cf (a0.getD i E5.z) j = E5.cf (a0.getD i E5.z) j]) (hb' := []) (by as_aux_lemma => kernel_rfl) (slices_IndexFunc_byte_keep_TtyErase_1_ok _ _ e2 (al := false)) (by as_aux_lemma => kernel_rfl) ⟨rfl, fun _ _ _ _ => rfl, trivial⟩ (fun hx => by cases hx) (by simp) rfl (by as_aux_lemma => kernel_rfl) ?_
  refine segs [] tabOk mixed 4000 (S := .leaf 0) (by as_aux_lemma => kernel_rfl) ?_
  refine sk_leaf ?_
  obtain rfl := some_ h
  exact end_ok [] Try.results8 (ps := [(decide ((r1 : Int) ≥ 0)) = (decide ((r1 : Int) ≥ 0))]) (by as_aux_lemma => kernel_rfl) ⟨rfl, trivial⟩ (fun _ => ⟨rfl, by simp⟩)

set_option maxHeartbeats 40000000 in
set_option maxRecDepth 100000 in
theorem keep_TtyErase_ok (a0 : (List Int)) (a1 : Int) (a2 : (List Int)) (r : Bool) (h : keep_TtyErase a0 a1 a2 = some r) {al : Bool} : PCalls Try.prog 4 [.pv ((E5.ro a0)), .pv (.raw (.int .u8 a1)), .pv ((E5.ro a2))] al (.pv (.raw (.bool r))) [] := by
  unfold keep_TtyErase at h
  refine fn_ok tabOk Try.func4 (by as_aux_lemma => kernel_rfl) (by as_aux_lemma => kernel_rfl) Try.ntmps4 (by simp) ?_
  refine segs [] tabOk mixed 4000 (S := .leaf 0) (by as_aux_lemma => kernel_rfl) ?_
  refine sk_leaf ?_
  obtain ⟨r1, e2, h⟩ := bd_ h
  refine call_ok (d := some 9) (fn := 7) (ax := []) (args := []) (ps := []) (hb' := []) (by as_aux_lemma => kernel_rfl) (keep_alive17_ok  _ e2 (al := true)) (by as_aux_lemma => kernel_rfl) trivial (fun _ => (by as_aux_lemma => kernel_rfl)) (by simp) rfl (by as_aux_lemma => kernel_rfl) ?_
  refine segs [] tabOk mixed 4000 (S := .br (!r1) (.leaf 0) (.leaf 1)) (by as_aux_lemma => kernel_rfl) ?_
  refine br_ h ?_ ?_ <;> clear h <;> intro c3 h
  · refine sk_leaf ?_
    obtain rfl := some_ h
    exact end_ok [] Try.results4 (ps := [false = false]) (by as_aux_lemma => kernel_rfl) ⟨rfl, trivial⟩ (fun _ => ⟨rfl, by simp⟩)
  · refine sk_leaf ?_
    obtain ⟨r4, e5, h⟩ := bd_ h
    refine call_ok (d := some 12) (fn := 11) (ax := [.pv ((E5.ro a0))]) (args := [.pv ((E5.ro a0))]) (ps := [a0.length = a0.length, ∀ i, i < a0.length → ∀ j, j < 1 → E5.cf (a0.getD i E5.z) j = E5.cf (a0.getD i E5.z) j]) (hb' := []) (by as_aux_lemma => kernel_rfl) (tty_Type_ok _ _ e5) (by as_aux_lemma => kernel_rfl) ⟨rfl, fun _ _ _ _ => rfl, trivial⟩ (fun _ => (by as_aux_lemma => kernel_rfl)) (by simp) rfl (by as_aux_lemma => kernel_rfl) ?_
    refine segs [] tabOk mixed 4000 (S := .leaf 0) (by as_aux_lemma => kernel_rfl) ?_
    refine sk_leaf ?_
    obtain ⟨r6, e7, h⟩ := bd_ h
    refine call_ok (d := some 14) (fn := 10) (ax := [.pv (.raw (.int .u8 a1))]) (args := [.pv (.raw (.int .u8 a1))]) (ps := [(a1 : Int) = a1]) (hb' := []) (by as_aux_lemma => kernel_rfl) (keep_plain_ok _ _ e7 (al := true)) (by as_aux_lemma => kernel_rfl) ⟨rfl, trivial⟩ (fun _ => (by as_aux_lemma => kernel_rfl)) (by simp) rfl (by as_aux_lemma => kernel_rfl) ?_
    refine segs [] tabOk mixed 4000 (S := .and (((!(!r6)) = true → ((!(!r6)) = true))) (.and (((!(!r6)) = true → ((!(!r6)) = true))) (.and (((!(!r6)) = true → ((!(!r6)) = true))) (.and ((!r6) = false → (!(!r6)) = true) (.br ((!r6) || ((((r4.Edit.length : Nat) : Int) : Int) == 64)) (.leaf 0) (.leaf 1)))))) (by as_aux_lemma => kernel_rfl) ?_
    refine sk_and ((by decide : ∀ y0 : Bool, ((y0 = true) → (y0 = true))) (!(!r6))) ?_
    refine sk_and ((by decide : ∀ y0 : Bool, ((y0 = true) → (y0 = true))) (!(!r6))) ?_
    refine sk_and ((by decide : ∀ y0 : Bool, ((y0 = true) → (y0 = true))) (!(!r6))) ?_
    refine sk_and ((by decide : ∀ y0 : Bool, ((y0 = false) → ((!y0) = true))) (!r6)) ?_
    refine br_ h ?_ ?_ <;> clear h <;> intro c12 h
    · refine sk_leaf ?_
      obtain rfl := some_ h
      exact end_ok [] Try.results4 (ps := [true = true]) (by as_aux_lemma => kernel_rfl) ⟨rfl, trivial⟩ (fun _ => ⟨rfl, by simp⟩)
    · refine sk_leaf ?_
      refine bsF_ok (d := 24) (e := 5) (s := 1) (n := 2) (cs := [.pv (.raw (.int .u8 a1)), .pv (.raw (.int .u8 8))]) E5 [a1, 8] (by as_aux_lemma => kernel_rfl) rfl rfl rfl (by as_aux_lemma => kernel_rfl) ?_
      refine segs [] tabOk mixed 4000 (S := .leaf 0) (by as_aux_lemma => kernel_rfl) ?_
      refine sk_leaf ?_
      refine bs_ok (d := 26) (e := 24) (s := 1) (n := 3) (cs := [.pv ((E5.ro a0)), .pv ((E5.ro [a1, 8])), .pv ((E5.ro a2))]) (cs' := E24.cR [a0, [a1, 8], a2]) (by as_aux_lemma => kernel_rfl) rfl (by as_aux_lemma => kernel_rfl) ?_
      refine segs [] tabOk mixed 4000 (S := .leaf 0) (by as_aux_lemma => kernel_rfl) ?_
      refine sk_leaf ?_
      obtain ⟨r13, e14, h⟩ := bd_ h
      refine callF_ok (d := some 27) (fn := 14) (ax := [.row 16800 1 0 3]) (args := [.pv ((E24.ro [a0, [a1, 8], a2]))]) (ps := [3 = [a0, [a1, 8], a2].length, rowQ (E24.cR [a0, [a1, 8], a2]) 1 0 3 (fun i j => E24.cf ([a0, [a1, 8], a2].getD i E24.z) j)]) (hb' := [.row 5 1 (E5.cR r13)]) (ps2 := [r13.length = r13.length, rowQ (E5.cR r13) 1 0 r13.length (fun i j => E5.cf (r13.getD i E5.z) j)]) (.pv ((E5.ro r13))) (by as_aux_lemma => kernel_rfl) (slices_Concat_byte_ok _ _ e14 (al := false)) (by as_aux_lemma => kernel_rfl) ⟨(by first | rfl | exact Elem.sub_len _ (by omega) | simp | (simp <;> omega)), E24.rowQ_all [a0, [a1, 8], a2] rfl, trivial⟩ (fun hx => by cases hx) (by simp) (by simp only [List.map_cons, List.map_nil, Elem.row_up]) (by as_aux_lemma => kernel_rfl) (by as_aux_lemma => kernel_rfl) ⟨(by first | rfl | exact Elem.sub_len _ (by omega) | simp | (simp <;> omega)), E5.rowQ_all r13 rfl, trivial⟩ ?_
      refine segs [] tabOk mixed 4000 (S := .leaf 0) (by as_aux_lemma => kernel_rfl) ?_
      refine sk_leaf ?_
      obtain ⟨r15, e16, h⟩ := bd_ h
      refine call_ok (d := some 28) (fn := 11) (ax := [.pv ((E5.ro r13))]) (args := [.pv ((E5.ro r13))]) (ps := [r13.length = r13.length, ∀ i, i < r13.length → ∀ j, j < 1 → E5.cf (r13.getD i E5.z) j = E5.cf (r13.getD i E5.z) j]) (hb' := []) (by as_aux_lemma => kernel_rfl) (tty_Type_ok _ _ e16) (by as_aux_lemma => kernel_rfl) ⟨rfl, fun _ _ _ _ => rfl, trivial⟩ (fun _ => (by as_aux_lemma => kernel_rfl)) (by simp) rfl (by as_aux_lemma => kernel_rfl) ?_
      refine segs [] tabOk mixed 4000 (S := .leaf 0) (by as_aux_lemma => kernel_rfl) ?_
      refine sk_leaf ?_
      refine bs_ok (d := 32) (e := 24) (s := 1) (n := 2) (cs := [.pv ((E5.ro a0)), .pv ((E5.ro a2))]) (cs' := E24.cR [a0, a2]) (by as_aux_lemma => kernel_rfl) rfl (by as_aux_lemma => kernel_rfl) ?_
      refine segs [] tabOk mixed 4000 (S := .leaf 0) (by as_aux_lemma => kernel_rfl) ?_
      refine sk_leaf ?_
      obtain ⟨r17, e18, h⟩ := bd_ h
      refine callF_ok (d := some 33) (fn := 14) (ax := [.row 16896 1 0 2]) (args := [.pv ((E24.ro [a0, a2]))]) (ps := [2 = [a0, a2].length, rowQ (E24.cR [a0, a2]) 1 0 2 (fun i j => E24.cf ([a0, a2].getD i E24.z) j)]) (hb' := [.row 5 1 (E5.cR r17)]) (ps2 := [r17.length = r17.length, rowQ (E5.cR r17) 1 0 r17.length (fun i j => E5.cf (r17.getD i E5.z) j)]) (.pv ((E5.ro r17))) (by as_aux_lemma => kernel_rfl) (slices_Concat_byte_ok _ _ e18 (al := false)) (by as_aux_lemma => kernel_rfl) ⟨(by first | rfl | exact Elem.sub_len _ (by omega) | simp | (simp <;> omega)), E24.rowQ_all [a0, a2] rfl, trivial⟩ (fun hx => by cases hx) (by simp) (by simp only [List.map_cons, List.map_nil, Elem.row_up]) (by as_aux_lemma => kernel_rfl) (by as_aux_lemma => kernel_rfl) ⟨(by first | rfl | exact Elem.sub_len _ (by omega) | simp | (simp <;> omega)), E5.rowQ_all r17 rfl, trivial⟩ ?_
      refine segs [] tabOk mixed 4000 (S := .leaf 0) (by as_aux_lemma => kernel_rfl) ?_
      refine sk_leaf ?_
      obtain ⟨r19, e20, h⟩ := bd_ h
      refine call_ok (d := some 34) (fn := 11) (ax := [.pv ((E5.ro r17))]) (args := [.pv ((E5.ro r17))]) (ps := [r17.length = r17.length, ∀ i, i < r17.length → ∀ j, j < 1 → E5.cf (r17.getD i E5.z) j = E5.cf (r17.getD i E5.z) j]) (hb' := []) (by as_aux_lemma => kernel_rfl) (tty_Type_ok _ _ e20) (by as_aux_lemma => kernel_rfl) ⟨rfl, fun _ _ _ _ => rfl, trivial⟩ (fun _ => (by as_aux_lemma => kernel_rfl)) (by simp) rfl (by as_aux_lemma => kernel_rfl) ?_
      refine segs [] tabOk mixed 4000 (S := .leaf 0) (by as_aux_lemma => kernel_rfl) ?_
      refine sk_leaf ?_
      obtain ⟨r21, e22, h⟩ := bd_ h
      refine call_ok (d := some 35) (fn := 13) (ax := [.agg [.pv ((E24.ro r15.Lines)), .pv ((E5.ro r15.Edit))], .agg [.pv ((E24.ro r19.Lines)), .pv ((E5.ro r19.Edit))]]) (args := [.agg [.pv ((E24.ro r15.Lines)), .pv ((E5.ro r15.Edit))], .agg [.pv ((E24.ro r19.Lines)), .pv ((E5.ro r19.Edit))]]) (ps := [r15.Lines.length = r15.Lines.length, ∀ i, i < r15.Lines.length → ∀ j, j < 1 → E24.cf (r15.Lines.getD i E24.z) j = E24.cf (r15.Lines.getD i E24.z) j, r15.Edit.length = r15.Edit.length, ∀ i, i < r15.Edit.length → ∀ j, j < 1 → E5.cf (r15.Edit.getD i E5.z) j = E5.cf (r15.Edit.getD i E5.z) j, r19.Lines.length = r19.Lines.length, ∀ i, i < r19.Lines.length → ∀ j, j < 1 → E24.cf (r19.Lines.getD i E24.z) j = E24.cf (r19.Lines.getD i E24.z) j, r19.Edit.length = r19.Edit.length, ∀ i, i < r19.Edit.length → ∀ j, j < 1 → E5.cf (r19.Edit.getD i E5.z) j = E5.cf (r19.Edit.getD i E5.z) j]) (hb' := []) (by as_aux_lemma => kernel_rfl) (ref_SameTty_ok _ _ _ e22 (al := true)) (by as_aux_lemma => kernel_rfl) ⟨rfl, fun _ _ _ _ => rfl, rfl, fun _ _ _ _ => rfl, rfl, fun _ _ _ _ => rfl, rfl, fun _ _ _ _ => rfl, trivial⟩ (fun _ => (by as_aux_lemma => kernel_rfl)) (by simp) rfl (by as_aux_lemma => kernel_rfl) ?_
      refine segs [] tabOk mixed 4000 (S := .br (!r21) (.leaf 0) (.and (((!(decide ((((r4.Edit.length : Nat) : Int) : Int) > 0))) = true → ((!(decide ((((r4.Edit.length : Nat) : Int) : Int) > 0))) = true))) (.and (((!(decide ((((r4.Edit.length : Nat) : Int) : Int) > 0))) = true → ((!(decide ((((r4.Edit.length : Nat) : Int) : Int) > 0))) = true))) (.and ((decide ((((r4.Edit.length : Nat) : Int) : Int) > 0)) = false → (!(decide ((((r4.Edit.length : Nat) : Int) : Int) > 0))) = true) (.leaf 1))))) (by as_aux_lemma => kernel_rfl) ?_
      refine br_ h ?_ ?_ <;> clear h <;> intro c23 h
      · refine sk_leaf ?_
        obtain rfl := some_ h
        exact end_ok [] Try.results4 (ps := [false = false]) (by as_aux_lemma => kernel_rfl) ⟨rfl, trivial⟩ (fun _ => ⟨rfl, by simp⟩)
      · refine sk_and ((by decide : ∀ y0 : Bool, ((y0 = true) → (y0 = true))) (!(decide ((((r4.Edit.length : Nat) : Int) : Int) > 0)))) ?_
        refine sk_and ((by decide : ∀ y0 : Bool, ((y0 = true) → (y0 = true))) (!(decide ((((r4.Edit.length : Nat) : Int) : Int) > 0)))) ?_
        refine sk_and ((by decide : ∀ y0 : Bool, ((y0 = false) → ((!y0) = true))) (decide ((((r4.Edit.length : Nat) : Int) : Int) > 0))) ?_
        refine sk_leaf ?_
        obtain ⟨r27, e28, h⟩ := bd_ h
        refine callG_ok (d := some 48) (fn := 8) (ax := [.pv ((E5.ro a2)), .fn 15 []]) (args := [.pv ((E5.ro a2)), .fn 15 []]) (g := (!((decide ((((r4.Edit.length : Nat) : Int) : Int) > 0)) || (decide ((((a2.length : Nat) : Int) : Int) > 64))))) (ws := [(!((decide ((((r4.Edit.length : Nat) : Int) : Int) > 0)) || (decide ((((a2.length : Nat) : Int) : Int) > 64)))) = true]) (ps := [a2.length = a2.length, ∀ i, i < a2.length → ∀ j, j < 1 → E5.cf (a2.getD i E5.z) j = E5.cf (a2.getD i E5.z) j]) (by as_aux_lemma => kernel_rfl) (fun hg => ⟨((by decide : ∀ y0 : Bool, ((y0 = true) → (y0 = true))) (!((decide ((((r4.Edit.length : Nat) : Int) : Int) > 0)) || (decide ((((a2.length : Nat) : Int) : Int) > 64))))) hg, trivial⟩) (fun hg => slices_ContainsFunc_byte_keep_TtyErase_1_ok _ _ (by rw [hg] at e28; exact e28) (al := false)) (by as_aux_lemma => kernel_rfl) (fun hg => ⟨rfl, fun _ _ _ _ => rfl, trivial⟩) (fun hx => by cases hx) ?_
        refine segs [] tabOk mixed 4000 (S := .and (((decide ((((r4.Edit.length : Nat) : Int) : Int) > 0)) || (decide ((((a2.length : Nat) : Int) : Int) > 64))) = false → (!((decide ((((r4.Edit.length : Nat) : Int) : Int) > 0)) || (decide ((((a2.length : Nat) : Int) : Int) > 64)))) = true) (.br (((decide ((((r4.Edit.length : Nat) : Int) : Int) > 0)) || (decide ((((a2.length : Nat) : Int) : Int) > 64))) || r27) (.leaf 0) (.leaf 1))) (by as_aux_lemma => kernel_rfl) ?_
        refine sk_and ((by decide : ∀ y0 : Bool, ((y0 = false) → ((!y0) = true))) ((decide ((((r4.Edit.length : Nat) : Int) : Int) > 0)) || (decide ((((a2.length : Nat) : Int) : Int) > 64)))) ?_
        refine br_ h ?_ ?_ <;> clear h <;> intro c30 h
        · refine sk_leaf ?_
          obtain rfl := some_ h
          exact end_ok [] Try.results4 (ps := [true = true]) (by as_aux_lemma => kernel_rfl) ⟨rfl, trivial⟩ (fun _ => ⟨rfl, by simp⟩)
        · refine sk_leaf ?_
          refine bsF_ok (d := 52) (e := 5) (s := 1) (n := 1) (cs := [.pv (.raw (.int .u8 21))]) E5 [21] (by as_aux_lemma => kernel_rfl) rfl rfl rfl (by as_aux_lemma => kernel_rfl) ?_
          refine segs [] tabOk mixed 4000 (S := .leaf 0) (by as_aux_lemma => kernel_rfl) ?_
          refine sk_leaf ?_
          refine bs_ok (d := 53) (e := 24) (s := 1) (n := 3) (cs := [.pv ((E5.ro a0)), .pv ((E5.ro a2)), .pv ((E5.ro [21]))]) (cs' := E24.cR [a0, a2, [21]]) (by as_aux_lemma => kernel_rfl) rfl (by as_aux_lemma => kernel_rfl) ?_
          refine segs [] tabOk mixed 4000 (S := .leaf 0) (by as_aux_lemma => kernel_rfl) ?_
          refine sk_leaf ?_
          obtain ⟨r31, e32, h⟩ := bd_ h
          refine callF_ok (d := some 54) (fn := 14) (ax := [.row 17232 1 0 3]) (args := [.pv ((E24.ro [a0, a2, [21]]))]) (ps := [3 = [a0, a2, [21]].length, rowQ (E24.cR [a0, a2, [21]]) 1 0 3 (fun i j => E24.cf ([a0, a2, [21]].getD i E24.z) j)]) (hb' := [.row 5 1 (E5.cR r31)]) (ps2 := [r31.length = r31.length, rowQ (E5.cR r31) 1 0 r31.length (fun i j => E5.cf (r31.getD i E5.z) j)]) (.pv ((E5.ro r31))) (by as_aux_lemma => kernel_rfl) (slices_Concat_byte_ok _ _ e32 (al := false)) (by as_aux_lemma => kernel_rfl) ⟨(by first | rfl | exact Elem.sub_len _ (by omega) | simp | (simp <;> omega)), E24.rowQ_all [a0, a2, [21]] rfl, trivial⟩ (fun hx => by cases hx) (by simp) (by simp only [List.map_cons, List.map_nil, Elem.row_up]) (by as_aux_lemma => kernel_rfl) (by as_aux_lemma => kernel_rfl) ⟨(by first | rfl | exact Elem.sub_len _ (by omega) | simp | (simp <;> omega)), E5.rowQ_all r31 rfl, trivial⟩ ?_
          refine segs [] tabOk mixed 4000 (S := .leaf 0) (by as_aux_lemma => kernel_rfl) ?_
          refine sk_leaf ?_
          obtain ⟨r33, e34, h⟩ := bd_ h
          refine call_ok (d := some 55) (fn := 11) (ax := [.pv ((E5.ro r31))]) (args := [.pv ((E5.ro r31))]) (ps := [r31.length = r31.length, ∀ i, i < r31.length → ∀ j, j < 1 → E5.cf (r31.getD i E5.z) j = E5.cf (r31.getD i E5.z) j]) (hb' := []) (by as_aux_lemma => kernel_rfl) (tty_Type_ok _ _ e34) (by as_aux_lemma => kernel_rfl) ⟨rfl, fun _ _ _ _ => rfl, trivial⟩ (fun _ => (by as_aux_lemma => kernel_rfl)) (by simp) rfl (by as_aux_lemma => kernel_rfl) ?_
          refine segs [] tabOk mixed 4000 (S := .leaf 0) (by as_aux_lemma => kernel_rfl) ?_
          refine sk_leaf ?_
          obtain ⟨r35, e36, h⟩ := bd_ h
          refine call_ok (d := some 57) (fn := 13) (ax := [.agg [.pv ((E24.ro r33.Lines)), .pv ((E5.ro r33.Edit))], .agg [.pv ((E24.ro r4.Lines)), .pv ((E5.ro r4.Edit))]]) (args := [.agg [.pv ((E24.ro r33.Lines)), .pv ((E5.ro r33.Edit))], .agg [.pv ((E24.ro r4.Lines)), .pv ((E5.ro r4.Edit))]]) (ps := [r33.Lines.length = r33.Lines.length, ∀ i, i < r33.Lines.length → ∀ j, j < 1 → E24.cf (r33.Lines.getD i E24.z) j = E24.cf (r33.Lines.getD i E24.z) j, r33.Edit.length = r33.Edit.length, ∀ i, i < r33.Edit.length → ∀ j, j < 1 → E5.cf (r33.Edit.getD i E5.z) j = E5.cf (r33.Edit.getD i E5.z) j, r4.Lines.length = r4.Lines.length, ∀ i, i < r4.Lines.length → ∀ j, j < 1 → E24.cf (r4.Lines.getD i E24.z) j = E24.cf (r4.Lines.getD i E24.z) j, r4.Edit.length = r4.Edit.length, ∀ i, i < r4.Edit.length → ∀ j, j < 1 → E5.cf (r4.Edit.getD i E5.z) j = E5.cf (r4.Edit.getD i E5.z) j]) (hb' := []) (by as_aux_lemma => kernel_rfl) (ref_SameTty_ok _ _ _ e36 (al := true)) (by as_aux_lemma => kernel_rfl) ⟨rfl, fun _ _ _ _ => rfl, rfl, fun _ _ _ _ => rfl, rfl, fun _ _ _ _ => rfl, rfl, fun _ _ _ _ => rfl, trivial⟩ (fun _ => (by as_aux_lemma => kernel_rfl)) (by simp) rfl (by as_aux_lemma => kernel_rfl) ?_
          refine segs [] tabOk mixed 4000 (S := .leaf 0) (by as_aux_lemma => kernel_rfl) ?_
          refine sk_leaf ?_
          obtain rfl := some_ h
          exact end_ok [] Try.results4 (ps := [r35 = r35]) (by as_aux_lemma => kernel_rfl) ⟨rfl, trivial⟩ (fun _ => ⟨rfl, by simp⟩)

end Go.Proofs.Ytpkgaagajbfgbaa
