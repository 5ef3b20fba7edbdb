/- The functions do as their models: printed by program. -/
import Derived.Test.YtdfgmloipigmfaaQVQT
import Derived.Test.YtdfgmloipigmfaaQVQM
import Derived.Test.YtdfgmloipigmfaaAbYs
import Derived.Test.YtdfgmloipigmfaaAbYc
import Derived.Test.YtdfgmloipigmfaaAbYv
import Derived.Test.YtdfgmloipigmfaaQVQV
import Derived.Test.YtdfgmloipigmfaaQVQS
set_option linter.unusedSimpArgs false
set_option linter.unusedVariables false
namespace Go.Proofs.Ytdfgmloipigmfaa
open Go Go.Ab
theorem mixed : Try.prog.follows .mixedOrders = true := by kernel_rfl
def E3 : Elem Int := { s := 1, cf := fun x j => match j with | _ => .raw (.int .i64 x), z := 0 }
theorem E3_raw : E3.Raw := by
  intro x j
  exact ⟨_, rfl⟩
def E4 : Elem Bool := { s := 1, cf := fun x j => match j with | _ => .raw (.bool x), z := false }
theorem E4_raw : E4.Raw := by
  intro x j
  exact ⟨_, rfl⟩
def E99 : Elem Api_Raise := { s := 2, cf := fun x j => match j with | 0 => .raw (.int .i64 x.When) | _ => .raw (.int .i64 x.Soft), z := (⟨0, 0⟩ : Api_Raise) }
theorem E99_raw : E99.Raw := by
  intro x j
  match j with
  | 0 => exact ⟨_, rfl⟩
  | n + 1 => exact ⟨_, rfl⟩
def E25 : Elem (List Int) := { s := 1, cf := fun x j => match j with | _ => (E3.ro x), z := [] }
def E104 : Elem Soft_runner := { s := 10, cf := fun x j => match j with | 0 => .raw (.bool (x.pending_ 0)) | 1 => .raw (.bool (x.pending_ 1)) | 2 => .raw (.bool (x.pending_ 2)) | 3 => .raw (.bool (x.pending_ 3)) | 4 => .raw (.bool (x.pending_ 4)) | 5 => .raw (.bool (x.pending_ 5)) | 6 => .raw (.bool (x.pending_ 6)) | 7 => .raw (.bool (x.pending_ 7)) | 8 => (E99.ro x.raises_) | _ => (E3.ro x.ran_), z := (⟨(fun (_ : Nat) => (false : Bool)), [], []⟩ : Soft_runner) }
attribute [local irreducible] V VS runS Sk.Holds

set_option maxHeartbeats 40000000 in
set_option maxRecDepth 100000 in
theorem soft_Right_1_ok (a0 : Int) (r : Bool) (h : soft_Right_1 a0 = some r) {al : Bool} : PCalls Try.prog 64 [.pv (.raw (.int .i64 a0))] al (.pv (.raw (.bool r))) [] := by
  unfold soft_Right_1 at h
  refine fn_ok tabOk Try.func64 (by as_aux_lemma => kernel_rfl) (by as_aux_lemma => kernel_rfl) Try.ntmps64 (by simp) ?_
  refine segs [] tabOk mixed 4000 (S := .and (((decide ((a0 : Int) ≥ 0)) = true → ((decide ((a0 : Int) ≥ 0)) = true))) (.and ((decide ((a0 : Int) ≥ 0)) = true → (decide ((a0 : Int) ≥ 0)) = true) (.leaf 0))) (by as_aux_lemma => kernel_rfl) ?_
  refine sk_and ((by decide : ∀ y0 : Bool, ((y0 = true) → (y0 = true))) (decide ((a0 : Int) ≥ 0))) ?_
  refine sk_and ((by decide : ∀ y0 : Bool, ((y0 = true) → (y0 = true))) (decide ((a0 : Int) ≥ 0))) ?_
  refine sk_leaf ?_
  obtain rfl := some_ h
  exact end_ok [] Try.results64 (ps := [((decide ((a0 : Int) ≥ 0)) && (decide ((a0 : Int) < 8))) = ((decide ((a0 : Int) ≥ 0)) && (decide ((a0 : Int) < 8)))]) (by as_aux_lemma => kernel_rfl) ⟨rfl, trivial⟩ (fun _ => ⟨rfl, by simp⟩)

set_option maxHeartbeats 40000000 in
set_option maxRecDepth 100000 in
theorem soft_Right_ok (a0 : (List Int)) (a1 : (List Api_Raise)) (r : Bool) (h : soft_Right a0 a1 = some r) {al : Bool} : PCalls Try.prog 43 [.pv ((E3.ro a0)), .pv ((E99.ro a1))] al (.pv (.raw (.bool r))) [] := by
  unfold soft_Right at h
  refine fn_ok tabOk Try.func43 (by as_aux_lemma => kernel_rfl) (by as_aux_lemma => kernel_rfl) Try.ntmps43 (by simp) ?_
  refine segs [] tabOk mixed 4000 (S := .leaf 0) (by as_aux_lemma => kernel_rfl) ?_
  refine sk_leaf ?_
  refine len_ro (by as_aux_lemma => kernel_rfl) 1 (s := 2) (n := a1.length) (c := fun i j => E99.cf (a1.getD i E99.z) j) (by as_aux_lemma => kernel_rfl) ?_; intro hl1_0
  refine len_ro (by as_aux_lemma => kernel_rfl) 10 (s := 1) (n := a0.length) (c := fun i j => E3.cf (a0.getD i E3.z) j) (by as_aux_lemma => kernel_rfl) ?_; intro hl1_1
  replace h : (fun (x : Nat × Nat) => soft_Right_l1 a0 a1 x.1 x.2 = some r) (FUEL, 0) := h
  refine loop_ok (by as_aux_lemma => kernel_rfl) (X := Nat × Nat) (fun x => soft_Right_l1 a0 a1 x.1 x.2 = some r) (fun x => x.1) (fun x => mk 62 [(1, .pv ((E99.ro a1))), (4, .pv (.raw (.bool false))), (5, .fn 64 []), (10, .pv ((E3.ro a0))), (11, .pv (.raw (.int .i64 ((a0.length : Nat) : Int)))), (12, .pv (.raw (.int .i64 ((x.2 : Nat) : Int))))] []) (FUEL, 0) h ?_ ?_
  · exact sub_ok (ρ := []) (l := [a1.length = a1.length, ∀ i, i < a1.length → ∀ j, j < 2 → E99.cf (a1.getD i E99.z) j = E99.cf (a1.getD i E99.z) j, false = false, a0.length = a0.length, ∀ i, i < a0.length → ∀ j, j < 1 → E3.cf (a0.getD i E3.z) j = E3.cf (a0.getD i E3.z) j, (((a0.length : Nat) : Int) : Int) = ((a0.length : Nat) : Int), (0 : Int) = ((0 : Nat) : Int)]) (by as_aux_lemma => kernel_rfl) ⟨rfl, fun _ _ _ _ => rfl, rfl, rfl, fun _ _ _ _ => rfl, rfl, (by first | rfl | simp), trivial⟩
  · clear h; rintro ⟨n1, k1⟩ h p1 hp1
    obtain _ | n1 := n1
    · cases (show (none : Option (Bool)) = some r from h)
    have h : soft_Right_l1 a0 a1 (n1 + 1) k1 = some r := h
    unfold soft_Right_l1 at h
    refine segs [] tabOk mixed 4000 (S := .br (decide ((((k1 : Nat) : Int) : Int) < ((a0.length : Nat) : Int))) (.and (0 ≤ (((k1 : Nat) : Int) : Int) ∧ ((k1 : Nat) : Int) < ((a0.length : Nat) : Int)) (.leaf 0)) (.leaf 1)) (by as_aux_lemma => kernel_rfl) ?_
    refine br_ h ?_ ?_ <;> clear h <;> intro c2 h
    · refine sk_and ⟨Int.natCast_nonneg _, of_decide_eq_true c2⟩ ?_
      refine sk_leaf ?_
      obtain ⟨r4, e5, h⟩ := bd_ h
      refine call_ok (d := some 18) (fn := 64) (ax := [.pv (.raw (.int .i64 (a0.getD k1 0)))]) (args := [.pv (.raw (.int .i64 (a0.getD k1 0)))]) (ps := [((a0.getD k1 0) : Int) = (a0.getD k1 0)]) (hb' := []) (by as_aux_lemma => kernel_rfl) (soft_Right_1_ok _ _ e5 (al := true)) (by as_aux_lemma => kernel_rfl) ⟨rfl, trivial⟩ (fun _ => (by as_aux_lemma => kernel_rfl)) (by simp) rfl (by as_aux_lemma => kernel_rfl) ?_
      refine segs [] tabOk mixed 4000 (S := .br (!r4) (.leaf 0) (.leaf 1)) (by as_aux_lemma => kernel_rfl) ?_
      refine br_ h ?_ ?_ <;> clear h <;> intro c6 h
      · refine sk_leaf ?_
        obtain rfl := some_ h
        exact end_ok [] Try.results43 (ps := [false = false]) (by as_aux_lemma => kernel_rfl) ⟨rfl, trivial⟩ (fun _ => ⟨rfl, by simp⟩)
      · refine sk_leaf ?_
        refine back_ok (p := p1) (by as_aux_lemma => kernel_rfl) (hp1 (n1, k1 + 1) _ h (Nat.lt_succ_self n1) ?_)
        exact sub_ok (ρ := []) (l := [a1.length = a1.length, ∀ i, i < a1.length → ∀ j, j < 2 → E99.cf (a1.getD i E99.z) j = E99.cf (a1.getD i E99.z) j, false = false, a0.length = a0.length, ∀ i, i < a0.length → ∀ j, j < 1 → E3.cf (a0.getD i E3.z) j = E3.cf (a0.getD i E3.z) j, (((a0.length : Nat) : Int) : Int) = ((a0.length : Nat) : Int), ((IntKind.i64.wrap (((k1 : Nat) : Int) + 1)) : Int) = (((k1 + 1) : Nat) : Int)]) (by as_aux_lemma => kernel_rfl) ⟨rfl, fun _ _ _ _ => rfl, rfl, rfl, fun _ _ _ _ => rfl, rfl, (wrap_nat (Int.ofNat_lt.1 (of_decide_eq_true c2)) (by omega)), trivial⟩
    · refine sk_leaf ?_
      refine len_ro (by as_aux_lemma => kernel_rfl) 1 (s := 2) (n := a1.length) (c := fun i j => E99.cf (a1.getD i E99.z) j) (by as_aux_lemma => kernel_rfl) ?_; intro hl2_0
      refine len_ro (by as_aux_lemma => kernel_rfl) 21 (s := 2) (n := a1.length) (c := fun i j => E99.cf (a1.getD i E99.z) j) (by as_aux_lemma => kernel_rfl) ?_; intro hl2_1
      replace h : (fun (x : Nat × Nat) => soft_Right_l2 a1 x.1 x.2 = some r) (FUEL, 0) := h
      refine loop_ok (by as_aux_lemma => kernel_rfl) (X := Nat × Nat) (fun x => soft_Right_l2 a1 x.1 x.2 = some r) (fun x => x.1) (fun x => mk 62 [(1, .pv ((E99.ro a1))), (4, .pv (.raw (.bool false))), (5, .fn 64 []), (21, .pv ((E99.ro a1))), (22, .pv (.raw (.int .i64 ((a1.length : Nat) : Int)))), (23, .pv (.raw (.int .i64 ((x.2 : Nat) : Int))))] []) (FUEL, 0) h ?_ ?_
      · exact sub_ok (ρ := []) (l := [a1.length = a1.length, ∀ i, i < a1.length → ∀ j, j < 2 → E99.cf (a1.getD i E99.z) j = E99.cf (a1.getD i E99.z) j, false = false, a1.length = a1.length, ∀ i, i < a1.length → ∀ j, j < 2 → E99.cf (a1.getD i E99.z) j = E99.cf (a1.getD i E99.z) j, (((a1.length : Nat) : Int) : Int) = ((a1.length : Nat) : Int), (0 : Int) = ((0 : Nat) : Int)]) (by as_aux_lemma => kernel_rfl) ⟨rfl, fun _ _ _ _ => rfl, rfl, rfl, fun _ _ _ _ => rfl, rfl, (by first | rfl | simp), trivial⟩
      · clear h; rintro ⟨n2, k7⟩ h p2 hp2
        obtain _ | n2 := n2
        · cases (show (none : Option (Bool)) = some r from h)
        have h : soft_Right_l2 a1 (n2 + 1) k7 = some r := h
        unfold soft_Right_l2 at h
        refine segs [] tabOk mixed 4000 (S := .br (decide ((((k7 : Nat) : Int) : Int) < ((a1.length : Nat) : Int))) (.and (0 ≤ (((k7 : Nat) : Int) : Int) ∧ ((k7 : Nat) : Int) < ((a1.length : Nat) : Int)) (.leaf 0)) (.leaf 1)) (by as_aux_lemma => kernel_rfl) ?_
        refine br_ h ?_ ?_ <;> clear h <;> intro c8 h
        · refine sk_and ⟨Int.natCast_nonneg _, of_decide_eq_true c8⟩ ?_
          refine sk_leaf ?_
          obtain ⟨r10, e11, h⟩ := bd_ h
          refine call_ok (d := some 31) (fn := 64) (ax := [.pv (.raw (.int .i64 ((a1.getD k7 (⟨0, 0⟩ : Api_Raise)).Soft)))]) (args := [.pv (.raw (.int .i64 ((a1.getD k7 (⟨0, 0⟩ : Api_Raise)).Soft)))]) (ps := [((a1.getD k7 (⟨0, 0⟩ : Api_Raise)).Soft : Int) = ((a1.getD k7 (⟨0, 0⟩ : Api_Raise)).Soft)]) (hb' := []) (by as_aux_lemma => kernel_rfl) (soft_Right_1_ok _ _ e11 (al := true)) (by as_aux_lemma => kernel_rfl) ⟨(by first | rfl | (simp; done) | omega | (simp <;> omega)), trivial⟩ (fun _ => (by as_aux_lemma => kernel_rfl)) (by simp) rfl (by as_aux_lemma => kernel_rfl) ?_
          refine segs [] tabOk mixed 4000 (S := .and (((!(!r10)) = true → ((!(!r10)) = true))) (.and (((!(!r10)) = true → ((!(!r10)) = true))) (.and ((!r10) = false → (!(!r10)) = true) (.and (((!((!r10) || (decide (((a1.getD k7 (⟨0, 0⟩ : Api_Raise)).When : Int) < 0)))) = true → ((!((!r10) || (decide (((a1.getD k7 (⟨0, 0⟩ : Api_Raise)).When : Int) < 0)))) = true))) (.and (((!((!r10) || (decide (((a1.getD k7 (⟨0, 0⟩ : Api_Raise)).When : Int) < 0)))) = true → ((!((!r10) || (decide (((a1.getD k7 (⟨0, 0⟩ : Api_Raise)).When : Int) < 0)))) = true))) (.and (((!r10) || (decide (((a1.getD k7 (⟨0, 0⟩ : Api_Raise)).When : Int) < 0))) = false → (!((!r10) || (decide (((a1.getD k7 (⟨0, 0⟩ : Api_Raise)).When : Int) < 0)))) = true) (.and (((!(((!r10) || (decide (((a1.getD k7 (⟨0, 0⟩ : Api_Raise)).When : Int) < 0))) || (decide (((a1.getD k7 (⟨0, 0⟩ : Api_Raise)).When : Int) > 400)))) = true → ((!(((!r10) || (decide (((a1.getD k7 (⟨0, 0⟩ : Api_Raise)).When : Int) < 0))) || (decide (((a1.getD k7 (⟨0, 0⟩ : Api_Raise)).When : Int) > 400)))) = true))) (.and (((!(((!r10) || (decide (((a1.getD k7 (⟨0, 0⟩ : Api_Raise)).When : Int) < 0))) || (decide (((a1.getD k7 (⟨0, 0⟩ : Api_Raise)).When : Int) > 400)))) = true → ((!(((!r10) || (decide (((a1.getD k7 (⟨0, 0⟩ : Api_Raise)).When : Int) < 0))) || (decide (((a1.getD k7 (⟨0, 0⟩ : Api_Raise)).When : Int) > 400)))) = true))) (.and ((((!(((!r10) || (decide (((a1.getD k7 (⟨0, 0⟩ : Api_Raise)).When : Int) < 0))) || (decide (((a1.getD k7 (⟨0, 0⟩ : Api_Raise)).When : Int) > 400)))) && (decide ((((k7 : Nat) : Int) : Int) > 0))) = true → (((!(((!r10) || (decide (((a1.getD k7 (⟨0, 0⟩ : Api_Raise)).When : Int) < 0))) || (decide (((a1.getD k7 (⟨0, 0⟩ : Api_Raise)).When : Int) > 400)))) && (decide ((((k7 : Nat) : Int) : Int) > 0))) = true))) (.and ((((!(((!r10) || (decide (((a1.getD k7 (⟨0, 0⟩ : Api_Raise)).When : Int) < 0))) || (decide (((a1.getD k7 (⟨0, 0⟩ : Api_Raise)).When : Int) > 400)))) && (decide ((((k7 : Nat) : Int) : Int) > 0))) = true → (((!(((!r10) || (decide (((a1.getD k7 (⟨0, 0⟩ : Api_Raise)).When : Int) < 0))) || (decide (((a1.getD k7 (⟨0, 0⟩ : Api_Raise)).When : Int) > 400)))) && (decide ((((k7 : Nat) : Int) : Int) > 0))) = true))) (.and ((((!(((!r10) || (decide (((a1.getD k7 (⟨0, 0⟩ : Api_Raise)).When : Int) < 0))) || (decide (((a1.getD k7 (⟨0, 0⟩ : Api_Raise)).When : Int) > 400)))) && (decide ((((k7 : Nat) : Int) : Int) > 0))) = true → (((!(((!r10) || (decide (((a1.getD k7 (⟨0, 0⟩ : Api_Raise)).When : Int) < 0))) || (decide (((a1.getD k7 (⟨0, 0⟩ : Api_Raise)).When : Int) > 400)))) && (decide ((((k7 : Nat) : Int) : Int) > 0))) = true))) (.and ((((!(((!r10) || (decide (((a1.getD k7 (⟨0, 0⟩ : Api_Raise)).When : Int) < 0))) || (decide (((a1.getD k7 (⟨0, 0⟩ : Api_Raise)).When : Int) > 400)))) && (decide ((((k7 : Nat) : Int) : Int) > 0))) = true → (((!(((!r10) || (decide (((a1.getD k7 (⟨0, 0⟩ : Api_Raise)).When : Int) < 0))) || (decide (((a1.getD k7 (⟨0, 0⟩ : Api_Raise)).When : Int) > 400)))) && (decide ((((k7 : Nat) : Int) : Int) > 0))) = true))) (.and ((((!(((!r10) || (decide (((a1.getD k7 (⟨0, 0⟩ : Api_Raise)).When : Int) < 0))) || (decide (((a1.getD k7 (⟨0, 0⟩ : Api_Raise)).When : Int) > 400)))) && (decide ((((k7 : Nat) : Int) : Int) > 0))) = true → (0 ≤ ((IntKind.i64.wrap (((k7 : Nat) : Int) - 1)) : Int) ∧ (IntKind.i64.wrap (((k7 : Nat) : Int) - 1)) < ((a1.length : Nat) : Int)))) (.and ((((!(((!r10) || (decide (((a1.getD k7 (⟨0, 0⟩ : Api_Raise)).When : Int) < 0))) || (decide (((a1.getD k7 (⟨0, 0⟩ : Api_Raise)).When : Int) > 400)))) && (decide ((((k7 : Nat) : Int) : Int) > 0))) = true → (((!(((!r10) || (decide (((a1.getD k7 (⟨0, 0⟩ : Api_Raise)).When : Int) < 0))) || (decide (((a1.getD k7 (⟨0, 0⟩ : Api_Raise)).When : Int) > 400)))) && (decide ((((k7 : Nat) : Int) : Int) > 0))) = true))) (.and ((((!(((!r10) || (decide (((a1.getD k7 (⟨0, 0⟩ : Api_Raise)).When : Int) < 0))) || (decide (((a1.getD k7 (⟨0, 0⟩ : Api_Raise)).When : Int) > 400)))) && (decide ((((k7 : Nat) : Int) : Int) > 0))) = true → (((!(((!r10) || (decide (((a1.getD k7 (⟨0, 0⟩ : Api_Raise)).When : Int) < 0))) || (decide (((a1.getD k7 (⟨0, 0⟩ : Api_Raise)).When : Int) > 400)))) && (decide ((((k7 : Nat) : Int) : Int) > 0))) = true))) (.and ((((!(((!r10) || (decide (((a1.getD k7 (⟨0, 0⟩ : Api_Raise)).When : Int) < 0))) || (decide (((a1.getD k7 (⟨0, 0⟩ : Api_Raise)).When : Int) > 400)))) && (decide ((((k7 : Nat) : Int) : Int) > 0))) = true → (((!(((!r10) || (decide (((a1.getD k7 (⟨0, 0⟩ : Api_Raise)).When : Int) < 0))) || (decide (((a1.getD k7 (⟨0, 0⟩ : Api_Raise)).When : Int) > 400)))) && (decide ((((k7 : Nat) : Int) : Int) > 0))) = true))) (.and ((((!(((!r10) || (decide (((a1.getD k7 (⟨0, 0⟩ : Api_Raise)).When : Int) < 0))) || (decide (((a1.getD k7 (⟨0, 0⟩ : Api_Raise)).When : Int) > 400)))) && (decide ((((k7 : Nat) : Int) : Int) > 0))) = true → (((!(((!r10) || (decide (((a1.getD k7 (⟨0, 0⟩ : Api_Raise)).When : Int) < 0))) || (decide (((a1.getD k7 (⟨0, 0⟩ : Api_Raise)).When : Int) > 400)))) && (decide ((((k7 : Nat) : Int) : Int) > 0))) = true))) (.and (((!(((!r10) || (decide (((a1.getD k7 (⟨0, 0⟩ : Api_Raise)).When : Int) < 0))) || (decide (((a1.getD k7 (⟨0, 0⟩ : Api_Raise)).When : Int) > 400)))) = true → ((!(((!r10) || (decide (((a1.getD k7 (⟨0, 0⟩ : Api_Raise)).When : Int) < 0))) || (decide (((a1.getD k7 (⟨0, 0⟩ : Api_Raise)).When : Int) > 400)))) = true))) (.and (((!(((!r10) || (decide (((a1.getD k7 (⟨0, 0⟩ : Api_Raise)).When : Int) < 0))) || (decide (((a1.getD k7 (⟨0, 0⟩ : Api_Raise)).When : Int) > 400)))) = true → ((decide ((((k7 : Nat) : Int) : Int) > 0)) = true → ((!(((!r10) || (decide (((a1.getD k7 (⟨0, 0⟩ : Api_Raise)).When : Int) < 0))) || (decide (((a1.getD k7 (⟨0, 0⟩ : Api_Raise)).When : Int) > 400)))) && (decide ((((k7 : Nat) : Int) : Int) > 0))) = true))) (.and ((((!r10) || (decide (((a1.getD k7 (⟨0, 0⟩ : Api_Raise)).When : Int) < 0))) || (decide (((a1.getD k7 (⟨0, 0⟩ : Api_Raise)).When : Int) > 400))) = false → (!(((!r10) || (decide (((a1.getD k7 (⟨0, 0⟩ : Api_Raise)).When : Int) < 0))) || (decide (((a1.getD k7 (⟨0, 0⟩ : Api_Raise)).When : Int) > 400)))) = true) (.br ((((!r10) || (decide (((a1.getD k7 (⟨0, 0⟩ : Api_Raise)).When : Int) < 0))) || (decide (((a1.getD k7 (⟨0, 0⟩ : Api_Raise)).When : Int) > 400))) || ((decide ((((k7 : Nat) : Int) : Int) > 0)) && (decide (((a1.getD k7 (⟨0, 0⟩ : Api_Raise)).When : Int) < ((a1.getD (Int.toNat (IntKind.i64.wrap (((k7 : Nat) : Int) - 1))) (⟨0, 0⟩ : Api_Raise)).When))))) (.leaf 0) (.leaf 1)))))))))))))))))))))) (by as_aux_lemma => kernel_rfl) ?_
          refine sk_and ((by decide : ∀ y0 : Bool, ((y0 = true) → (y0 = true))) (!(!r10))) ?_
          refine sk_and ((by decide : ∀ y0 : Bool, ((y0 = true) → (y0 = true))) (!(!r10))) ?_
          refine sk_and ((by decide : ∀ y0 : Bool, ((y0 = false) → ((!y0) = true))) (!r10)) ?_
          refine sk_and ((by decide : ∀ y0 : Bool, ((y0 = true) → (y0 = true))) (!((!r10) || (decide (((a1.getD k7 (⟨0, 0⟩ : Api_Raise)).When : Int) < 0))))) ?_
          refine sk_and ((by decide : ∀ y0 : Bool, ((y0 = true) → (y0 = true))) (!((!r10) || (decide (((a1.getD k7 (⟨0, 0⟩ : Api_Raise)).When : Int) < 0))))) ?_
          refine sk_and ((by decide : ∀ y0 : Bool, ((y0 = false) → ((!y0) = true))) ((!r10) || (decide (((a1.getD k7 (⟨0, 0⟩ : Api_Raise)).When : Int) < 0)))) ?_
          refine sk_and ((by decide : ∀ y0 : Bool, ((y0 = true) → (y0 = true))) (!(((!r10) || (decide (((a1.getD k7 (⟨0, 0⟩ : Api_Raise)).When : Int) < 0))) || (decide (((a1.getD k7 (⟨0, 0⟩ : Api_Raise)).When : Int) > 400))))) ?_
          refine sk_and ((by decide : ∀ y0 : Bool, ((y0 = true) → (y0 = true))) (!(((!r10) || (decide (((a1.getD k7 (⟨0, 0⟩ : Api_Raise)).When : Int) < 0))) || (decide (((a1.getD k7 (⟨0, 0⟩ : Api_Raise)).When : Int) > 400))))) ?_
          refine sk_and ((by decide : ∀ y0 : Bool, ((y0 = true) → (y0 = true))) ((!(((!r10) || (decide (((a1.getD k7 (⟨0, 0⟩ : Api_Raise)).When : Int) < 0))) || (decide (((a1.getD k7 (⟨0, 0⟩ : Api_Raise)).When : Int) > 400)))) && (decide ((((k7 : Nat) : Int) : Int) > 0)))) ?_
          refine sk_and ((by decide : ∀ y0 : Bool, ((y0 = true) → (y0 = true))) ((!(((!r10) || (decide (((a1.getD k7 (⟨0, 0⟩ : Api_Raise)).When : Int) < 0))) || (decide (((a1.getD k7 (⟨0, 0⟩ : Api_Raise)).When : Int) > 400)))) && (decide ((((k7 : Nat) : Int) : Int) > 0)))) ?_
          refine sk_and ((by decide : ∀ y0 : Bool, ((y0 = true) → (y0 = true))) ((!(((!r10) || (decide (((a1.getD k7 (⟨0, 0⟩ : Api_Raise)).When : Int) < 0))) || (decide (((a1.getD k7 (⟨0, 0⟩ : Api_Raise)).When : Int) > 400)))) && (decide ((((k7 : Nat) : Int) : Int) > 0)))) ?_
          refine sk_and ((by decide : ∀ y0 : Bool, ((y0 = true) → (y0 = true))) ((!(((!r10) || (decide (((a1.getD k7 (⟨0, 0⟩ : Api_Raise)).When : Int) < 0))) || (decide (((a1.getD k7 (⟨0, 0⟩ : Api_Raise)).When : Int) > 400)))) && (decide ((((k7 : Nat) : Int) : Int) > 0)))) ?_
          refine gd_ h ?_; clear h; intro g24 h
          refine sk_and ((by decide : ∀ y0 : Bool, ((y0 = true) → (y0 = true))) ((!(((!r10) || (decide (((a1.getD k7 (⟨0, 0⟩ : Api_Raise)).When : Int) < 0))) || (decide (((a1.getD k7 (⟨0, 0⟩ : Api_Raise)).When : Int) > 400)))) && (decide ((((k7 : Nat) : Int) : Int) > 0)))) ?_
          refine sk_and ((by decide : ∀ y0 : Bool, ((y0 = true) → (y0 = true))) ((!(((!r10) || (decide (((a1.getD k7 (⟨0, 0⟩ : Api_Raise)).When : Int) < 0))) || (decide (((a1.getD k7 (⟨0, 0⟩ : Api_Raise)).When : Int) > 400)))) && (decide ((((k7 : Nat) : Int) : Int) > 0)))) ?_
          refine sk_and ((by decide : ∀ y0 : Bool, ((y0 = true) → (y0 = true))) ((!(((!r10) || (decide (((a1.getD k7 (⟨0, 0⟩ : Api_Raise)).When : Int) < 0))) || (decide (((a1.getD k7 (⟨0, 0⟩ : Api_Raise)).When : Int) > 400)))) && (decide ((((k7 : Nat) : Int) : Int) > 0)))) ?_
          refine sk_and ((by decide : ∀ y0 : Bool, ((y0 = true) → (y0 = true))) ((!(((!r10) || (decide (((a1.getD k7 (⟨0, 0⟩ : Api_Raise)).When : Int) < 0))) || (decide (((a1.getD k7 (⟨0, 0⟩ : Api_Raise)).When : Int) > 400)))) && (decide ((((k7 : Nat) : Int) : Int) > 0)))) ?_
          refine sk_and ((by decide : ∀ y0 : Bool, ((y0 = true) → (y0 = true))) (!(((!r10) || (decide (((a1.getD k7 (⟨0, 0⟩ : Api_Raise)).When : Int) < 0))) || (decide (((a1.getD k7 (⟨0, 0⟩ : Api_Raise)).When : Int) > 400))))) ?_
          refine sk_and ((by decide : ∀ y0 y1 : Bool, ((y0 = true) → ((y1 = true) → ((y0 && y1) = true)))) (!(((!r10) || (decide (((a1.getD k7 (⟨0, 0⟩ : Api_Raise)).When : Int) < 0))) || (decide (((a1.getD k7 (⟨0, 0⟩ : Api_Raise)).When : Int) > 400)))) (decide ((((k7 : Nat) : Int) : Int) > 0))) ?_
          refine sk_and ((by decide : ∀ y0 : Bool, ((y0 = false) → ((!y0) = true))) (((!r10) || (decide (((a1.getD k7 (⟨0, 0⟩ : Api_Raise)).When : Int) < 0))) || (decide (((a1.getD k7 (⟨0, 0⟩ : Api_Raise)).When : Int) > 400)))) ?_
          refine br_ h ?_ ?_ <;> clear h <;> intro c32 h
          · refine sk_leaf ?_
            obtain rfl := some_ h
            exact end_ok [] Try.results43 (ps := [false = false]) (by as_aux_lemma => kernel_rfl) ⟨rfl, trivial⟩ (fun _ => ⟨rfl, by simp⟩)
          · refine sk_leaf ?_
            refine back_ok (p := p2) (by as_aux_lemma => kernel_rfl) (hp2 (n2, k7 + 1) _ h (Nat.lt_succ_self n2) ?_)
            exact sub_ok (ρ := []) (l := [a1.length = a1.length, ∀ i, i < a1.length → ∀ j, j < 2 → E99.cf (a1.getD i E99.z) j = E99.cf (a1.getD i E99.z) j, false = false, a1.length = a1.length, ∀ i, i < a1.length → ∀ j, j < 2 → E99.cf (a1.getD i E99.z) j = E99.cf (a1.getD i E99.z) j, (((a1.length : Nat) : Int) : Int) = ((a1.length : Nat) : Int), ((IntKind.i64.wrap (((k7 : Nat) : Int) + 1)) : Int) = (((k7 + 1) : Nat) : Int)]) (by as_aux_lemma => kernel_rfl) ⟨rfl, fun _ _ _ _ => rfl, rfl, rfl, fun _ _ _ _ => rfl, rfl, (wrap_nat (Int.ofNat_lt.1 (of_decide_eq_true c8)) (by omega)), trivial⟩
        · refine sk_leaf ?_
          obtain rfl := some_ h
          exact end_ok [] Try.results43 (ps := [(decide ((((a1.length : Nat) : Int) : Int) ≤ 400)) = (decide ((((a1.length : Nat) : Int) : Int) ≤ 400))]) (by as_aux_lemma => kernel_rfl) ⟨rfl, trivial⟩ (fun _ => ⟨rfl, by simp⟩)

set_option maxHeartbeats 40000000 in
set_option maxRecDepth 100000 in
theorem soft_runner_raise_roro_ok (a0 : Soft_runner) (r : Soft_runner) (h : soft_runner_raise_roro a0 = some r) : MCalls Try.prog 44 [.ptr 0 0] [.box [.pv (.raw (.bool (a0.pending_ 0))), .pv (.raw (.bool (a0.pending_ 1))), .pv (.raw (.bool (a0.pending_ 2))), .pv (.raw (.bool (a0.pending_ 3))), .pv (.raw (.bool (a0.pending_ 4))), .pv (.raw (.bool (a0.pending_ 5))), .pv (.raw (.bool (a0.pending_ 6))), .pv (.raw (.bool (a0.pending_ 7))), .pv ((E99.ro a0.raises_)), .row 1 1 0 a0.ran_.length], .row 3 1 (E3.cR a0.ran_)] 1 true (.tup []) [.box [.pv (.raw (.bool (r.pending_ 0))), .pv (.raw (.bool (r.pending_ 1))), .pv (.raw (.bool (r.pending_ 2))), .pv (.raw (.bool (r.pending_ 3))), .pv (.raw (.bool (r.pending_ 4))), .pv (.raw (.bool (r.pending_ 5))), .pv (.raw (.bool (r.pending_ 6))), .pv (.raw (.bool (r.pending_ 7))), .pv ((E99.ro r.raises_)), .row 1 1 0 r.ran_.length], .row 3 1 (E3.cR r.ran_)] := by
  unfold soft_runner_raise_roro at h
  refine fnM_ok tabOk (fz := []) Try.func44 (by as_aux_lemma => kernel_rfl) (by as_aux_lemma => kernel_rfl) Try.ntmps44 (by simp) (by first | (simp; done) | exact Nat.le_of_ble_eq_true rfl) ?_
  refine segs [] tabOk mixed 4000 (S := .leaf 0) (by as_aux_lemma => kernel_rfl) ?_
  refine sk_leaf ?_
  refine len_box (by as_aux_lemma => kernel_rfl) 0 8 (cs := [.pv (.raw (.bool (a0.pending_ 0))), .pv (.raw (.bool (a0.pending_ 1))), .pv (.raw (.bool (a0.pending_ 2))), .pv (.raw (.bool (a0.pending_ 3))), .pv (.raw (.bool (a0.pending_ 4))), .pv (.raw (.bool (a0.pending_ 5))), .pv (.raw (.bool (a0.pending_ 6))), .pv (.raw (.bool (a0.pending_ 7))), .pv ((E99.ro a0.raises_)), .row 1 1 0 a0.ran_.length]) (by as_aux_lemma => kernel_rfl) (s := 2) (n := a0.raises_.length) (c := fun i j => E99.cf (a0.raises_.getD i E99.z) j) rfl ?_; intro hl1_0
  refine len_row (by as_aux_lemma => kernel_rfl) 1 (e := 3) (s := 1) (n := a0.ran_.length) (cs := E3.cR a0.ran_) (by as_aux_lemma => kernel_rfl) (Elem.cR_length _ _) ?_; intro hl1_1
  replace h : (fun (x : Nat × (Nat → Bool) × List Api_Raise) => soft_runner_raise_roro_l1 a0 x.1 x.2.1 x.2.2 = some r) (FUEL, a0.pending_, a0.raises_) := h
  refine loop_ok (by as_aux_lemma => kernel_rfl) (X := Nat × (Nat → Bool) × List Api_Raise) (fun x => soft_runner_raise_roro_l1 a0 x.1 x.2.1 x.2.2 = some r) (fun x => x.1) (fun x => mk 42 [(0, .ptr 0 0)] [(0, .box [.pv (.raw (.bool (x.2.1 0))), .pv (.raw (.bool (x.2.1 1))), .pv (.raw (.bool (x.2.1 2))), .pv (.raw (.bool (x.2.1 3))), .pv (.raw (.bool (x.2.1 4))), .pv (.raw (.bool (x.2.1 5))), .pv (.raw (.bool (x.2.1 6))), .pv (.raw (.bool (x.2.1 7))), .pv ((E99.ro x.2.2)), .row 1 1 0 a0.ran_.length]), (1, .row 3 1 (E3.cR a0.ran_))] [] 1) (FUEL, a0.pending_, a0.raises_) h ?_ ?_
  · exact sub_ok (ρ := [(0, some 0), (1, some 1)]) (l := [0 = 0, (a0.pending_ 0) = (a0.pending_ 0), (a0.pending_ 1) = (a0.pending_ 1), (a0.pending_ 2) = (a0.pending_ 2), (a0.pending_ 3) = (a0.pending_ 3), (a0.pending_ 4) = (a0.pending_ 4), (a0.pending_ 5) = (a0.pending_ 5), (a0.pending_ 6) = (a0.pending_ 6), (a0.pending_ 7) = (a0.pending_ 7), a0.raises_.length = a0.raises_.length, ∀ i, i < a0.raises_.length → ∀ j, j < 2 → E99.cf (a0.raises_.getD i E99.z) j = E99.cf (a0.raises_.getD i E99.z) j, 0 = 0, a0.ran_.length = a0.ran_.length, E3.cR a0.ran_ = E3.cR a0.ran_, AllPv (E3.cR a0.ran_)]) (by as_aux_lemma => kernel_rfl) ⟨rfl, rfl, rfl, rfl, rfl, rfl, rfl, rfl, rfl, rfl, fun _ _ _ _ => rfl, rfl, rfl, rfl, (Elem.cR_pv _ _), trivial⟩
  · clear h; rintro ⟨n1, f1, l2⟩ h p1 hp1
    obtain _ | n1 := n1
    · cases (show (none : Option (Soft_runner)) = some r from h)
    have h : soft_runner_raise_roro_l1 a0 (n1 + 1) f1 l2 = some r := h
    unfold soft_runner_raise_roro_l1 at h
    refine segs [] tabOk mixed 4000 (S := .and (((decide ((((l2.length : Nat) : Int) : Int) > 0)) = true → ((decide ((((l2.length : Nat) : Int) : Int) > 0)) = true))) (.and (((decide ((((l2.length : Nat) : Int) : Int) > 0)) = true → ((decide ((((l2.length : Nat) : Int) : Int) > 0)) = true))) (.and (((decide ((((l2.length : Nat) : Int) : Int) > 0)) = true → ((decide ((((l2.length : Nat) : Int) : Int) > 0)) = true))) (.and (((decide ((((l2.length : Nat) : Int) : Int) > 0)) = true → ((decide ((((l2.length : Nat) : Int) : Int) > 0)) = true))) (.and (((decide ((((l2.length : Nat) : Int) : Int) > 0)) = true → (0 ≤ (0 : Int) ∧ 0 < ((l2.length : Nat) : Int)))) (.and (((decide ((((l2.length : Nat) : Int) : Int) > 0)) = true → ((decide ((((l2.length : Nat) : Int) : Int) > 0)) = true))) (.and (((decide ((((l2.length : Nat) : Int) : Int) > 0)) = true → ((decide ((((l2.length : Nat) : Int) : Int) > 0)) = true))) (.and (((decide ((((l2.length : Nat) : Int) : Int) > 0)) = true → ((decide ((((l2.length : Nat) : Int) : Int) > 0)) = true))) (.and (((decide ((((l2.length : Nat) : Int) : Int) > 0)) = true → ((decide ((((l2.length : Nat) : Int) : Int) > 0)) = true))) (.and (((decide ((((l2.length : Nat) : Int) : Int) > 0)) = true → ((decide ((((l2.length : Nat) : Int) : Int) > 0)) = true))) (.and (((decide ((((l2.length : Nat) : Int) : Int) > 0)) = true → ((decide ((((l2.length : Nat) : Int) : Int) > 0)) = true))) (.and (((decide ((((l2.length : Nat) : Int) : Int) > 0)) = true → ((decide ((((l2.length : Nat) : Int) : Int) > 0)) = true))) (.and (((decide ((((l2.length : Nat) : Int) : Int) > 0)) = true → ((decide ((((l2.length : Nat) : Int) : Int) > 0)) = true))) (.and ((decide ((((l2.length : Nat) : Int) : Int) > 0)) = true → (decide ((((l2.length : Nat) : Int) : Int) > 0)) = true) (.br ((decide ((((l2.length : Nat) : Int) : Int) > 0)) && (decide (((l2.getD 0 (⟨0, 0⟩ : Api_Raise)).When : Int) ≤ ((a0.ran_.length : Nat) : Int)))) (.and (0 ≤ (0 : Int) ∧ 0 < ((l2.length : Nat) : Int)) (.and (0 ≤ ((l2.getD 0 (⟨0, 0⟩ : Api_Raise)).Soft : Int) ∧ ((l2.getD 0 (⟨0, 0⟩ : Api_Raise)).Soft) < ((8 : Nat) : Int)) (.leaf 0))) (.leaf 1)))))))))))))))) (by as_aux_lemma => kernel_rfl) ?_
    refine sk_and ((by decide : ∀ y0 : Bool, ((y0 = true) → (y0 = true))) (decide ((((l2.length : Nat) : Int) : Int) > 0))) ?_
    refine sk_and ((by decide : ∀ y0 : Bool, ((y0 = true) → (y0 = true))) (decide ((((l2.length : Nat) : Int) : Int) > 0))) ?_
    refine sk_and ((by decide : ∀ y0 : Bool, ((y0 = true) → (y0 = true))) (decide ((((l2.length : Nat) : Int) : Int) > 0))) ?_
    refine sk_and ((by decide : ∀ y0 : Bool, ((y0 = true) → (y0 = true))) (decide ((((l2.length : Nat) : Int) : Int) > 0))) ?_
    refine gd_ h ?_; clear h; intro g7 h
    refine sk_and ((by decide : ∀ y0 : Bool, ((y0 = true) → (y0 = true))) (decide ((((l2.length : Nat) : Int) : Int) > 0))) ?_
    refine sk_and ((by decide : ∀ y0 : Bool, ((y0 = true) → (y0 = true))) (decide ((((l2.length : Nat) : Int) : Int) > 0))) ?_
    refine sk_and ((by decide : ∀ y0 : Bool, ((y0 = true) → (y0 = true))) (decide ((((l2.length : Nat) : Int) : Int) > 0))) ?_
    refine sk_and ((by decide : ∀ y0 : Bool, ((y0 = true) → (y0 = true))) (decide ((((l2.length : Nat) : Int) : Int) > 0))) ?_
    refine sk_and ((by decide : ∀ y0 : Bool, ((y0 = true) → (y0 = true))) (decide ((((l2.length : Nat) : Int) : Int) > 0))) ?_
    refine sk_and ((by decide : ∀ y0 : Bool, ((y0 = true) → (y0 = true))) (decide ((((l2.length : Nat) : Int) : Int) > 0))) ?_
    refine sk_and ((by decide : ∀ y0 : Bool, ((y0 = true) → (y0 = true))) (decide ((((l2.length : Nat) : Int) : Int) > 0))) ?_
    refine sk_and ((by decide : ∀ y0 : Bool, ((y0 = true) → (y0 = true))) (decide ((((l2.length : Nat) : Int) : Int) > 0))) ?_
    refine sk_and ((by decide : ∀ y0 : Bool, ((y0 = true) → (y0 = true))) (decide ((((l2.length : Nat) : Int) : Int) > 0))) ?_
    refine br_ h ?_ ?_ <;> clear h <;> intro c17 h
    · refine gd_ h ?_; clear h; intro g18 h
      refine gd_ h ?_; clear h; intro g19 h
      refine sk_leaf ?_
      refine stc_ok (id := 0) (off := (0 + (Int.toNat ((l2.getD 0 (⟨0, 0⟩ : Api_Raise)).Soft)) * 1)) (vs := [.pv (.raw (.bool true))]) (cs := [.pv (.raw (.bool (f1 0))), .pv (.raw (.bool (f1 1))), .pv (.raw (.bool (f1 2))), .pv (.raw (.bool (f1 3))), .pv (.raw (.bool (f1 4))), .pv (.raw (.bool (f1 5))), .pv (.raw (.bool (f1 6))), .pv (.raw (.bool (f1 7))), .pv ((E99.ro l2)), .row 1 1 0 a0.ran_.length]) [.pv (.raw (.bool ((upd f1 (Int.toNat ((l2.getD 0 (⟨0, 0⟩ : Api_Raise)).Soft)) true) 0))), .pv (.raw (.bool ((upd f1 (Int.toNat ((l2.getD 0 (⟨0, 0⟩ : Api_Raise)).Soft)) true) 1))), .pv (.raw (.bool ((upd f1 (Int.toNat ((l2.getD 0 (⟨0, 0⟩ : Api_Raise)).Soft)) true) 2))), .pv (.raw (.bool ((upd f1 (Int.toNat ((l2.getD 0 (⟨0, 0⟩ : Api_Raise)).Soft)) true) 3))), .pv (.raw (.bool ((upd f1 (Int.toNat ((l2.getD 0 (⟨0, 0⟩ : Api_Raise)).Soft)) true) 4))), .pv (.raw (.bool ((upd f1 (Int.toNat ((l2.getD 0 (⟨0, 0⟩ : Api_Raise)).Soft)) true) 5))), .pv (.raw (.bool ((upd f1 (Int.toNat ((l2.getD 0 (⟨0, 0⟩ : Api_Raise)).Soft)) true) 6))), .pv (.raw (.bool ((upd f1 (Int.toNat ((l2.getD 0 (⟨0, 0⟩ : Api_Raise)).Soft)) true) 7))), .pv ((E99.ro l2)), .row 1 1 0 a0.ran_.length] (by as_aux_lemma => kernel_rfl) (by as_aux_lemma => kernel_rfl) (by simp only [List.length_append, rA_length, fl_length, List.length_cons, List.length_nil]; first | omega | (simp at * <;> omega) | (simp_all <;> omega)) (allLt (p := fun kk0 => setCells [.pv (.raw (.bool (f1 0))), .pv (.raw (.bool (f1 1))), .pv (.raw (.bool (f1 2))), .pv (.raw (.bool (f1 3))), .pv (.raw (.bool (f1 4))), .pv (.raw (.bool (f1 5))), .pv (.raw (.bool (f1 6))), .pv (.raw (.bool (f1 7))), .pv ((E99.ro l2)), .row 1 1 0 a0.ran_.length] ((0 + kk0 * 1)) [.pv (.raw (.bool true))] = [.pv (.raw (.bool ((upd f1 kk0 true) 0))), .pv (.raw (.bool ((upd f1 kk0 true) 1))), .pv (.raw (.bool ((upd f1 kk0 true) 2))), .pv (.raw (.bool ((upd f1 kk0 true) 3))), .pv (.raw (.bool ((upd f1 kk0 true) 4))), .pv (.raw (.bool ((upd f1 kk0 true) 5))), .pv (.raw (.bool ((upd f1 kk0 true) 6))), .pv (.raw (.bool ((upd f1 kk0 true) 7))), .pv ((E99.ro l2)), .row 1 1 0 a0.ran_.length]) (m := 8) ⟨⟨⟨⟨⟨⟨⟨⟨trivial, rfl⟩, rfl⟩, rfl⟩, rfl⟩, rfl⟩, rfl⟩, rfl⟩, rfl⟩ (Int.toNat ((l2.getD 0 (⟨0, 0⟩ : Api_Raise)).Soft)) (by first | omega | (simp at * <;> omega) | (simp_all <;> omega))) ?_
      refine segs [] tabOk mixed 4000 (S := .and (0 ≤ (1 : Int)) (.and (1 ≤ l2.length) (.leaf 0))) (by as_aux_lemma => kernel_rfl) ?_
      refine sk_and (by decide) ?_
      refine gd_ h ?_; clear h; intro g21 h
      refine sk_leaf ?_
      refine back_ok (p := p1) (by as_aux_lemma => kernel_rfl) (hp1 (n1, (upd f1 (Int.toNat ((l2.getD 0 (⟨0, 0⟩ : Api_Raise)).Soft)) true), ((l2.drop 1).take (l2.length - 1))) _ h (Nat.lt_succ_self n1) ?_)
      exact sub_ok (ρ := [(0, some 0), (1, some 1)]) (l := [0 = 0, ((upd f1 (Int.toNat ((l2.getD 0 (⟨0, 0⟩ : Api_Raise)).Soft)) true) 0) = ((upd f1 (Int.toNat ((l2.getD 0 (⟨0, 0⟩ : Api_Raise)).Soft)) true) 0), ((upd f1 (Int.toNat ((l2.getD 0 (⟨0, 0⟩ : Api_Raise)).Soft)) true) 1) = ((upd f1 (Int.toNat ((l2.getD 0 (⟨0, 0⟩ : Api_Raise)).Soft)) true) 1), ((upd f1 (Int.toNat ((l2.getD 0 (⟨0, 0⟩ : Api_Raise)).Soft)) true) 2) = ((upd f1 (Int.toNat ((l2.getD 0 (⟨0, 0⟩ : Api_Raise)).Soft)) true) 2), ((upd f1 (Int.toNat ((l2.getD 0 (⟨0, 0⟩ : Api_Raise)).Soft)) true) 3) = ((upd f1 (Int.toNat ((l2.getD 0 (⟨0, 0⟩ : Api_Raise)).Soft)) true) 3), ((upd f1 (Int.toNat ((l2.getD 0 (⟨0, 0⟩ : Api_Raise)).Soft)) true) 4) = ((upd f1 (Int.toNat ((l2.getD 0 (⟨0, 0⟩ : Api_Raise)).Soft)) true) 4), ((upd f1 (Int.toNat ((l2.getD 0 (⟨0, 0⟩ : Api_Raise)).Soft)) true) 5) = ((upd f1 (Int.toNat ((l2.getD 0 (⟨0, 0⟩ : Api_Raise)).Soft)) true) 5), ((upd f1 (Int.toNat ((l2.getD 0 (⟨0, 0⟩ : Api_Raise)).Soft)) true) 6) = ((upd f1 (Int.toNat ((l2.getD 0 (⟨0, 0⟩ : Api_Raise)).Soft)) true) 6), ((upd f1 (Int.toNat ((l2.getD 0 (⟨0, 0⟩ : Api_Raise)).Soft)) true) 7) = ((upd f1 (Int.toNat ((l2.getD 0 (⟨0, 0⟩ : Api_Raise)).Soft)) true) 7), (l2.length - 1) = ((l2.drop 1).take (l2.length - 1)).length, ∀ i, i < (l2.length - 1) → ∀ j, j < 2 → E99.cf (l2.getD (1 + i) E99.z) j = E99.cf (((l2.drop 1).take (l2.length - 1)).getD i E99.z) j, 0 = 0, a0.ran_.length = a0.ran_.length, E3.cR a0.ran_ = E3.cR a0.ran_, AllPv (E3.cR a0.ran_)]) (by as_aux_lemma => kernel_rfl) ⟨rfl, rfl, rfl, rfl, rfl, rfl, rfl, rfl, rfl, (Elem.sub_len _ (by omega)), (Elem.sub_cf _ _ (by omega)), rfl, rfl, rfl, (Elem.cR_pv _ _), trivial⟩
    · refine sk_leaf ?_
      obtain rfl := some_ h
      exact endM_ok [(0, some 0), (1, some 1)] Try.results44 (ps := [(f1 0) = (f1 0), (f1 1) = (f1 1), (f1 2) = (f1 2), (f1 3) = (f1 3), (f1 4) = (f1 4), (f1 5) = (f1 5), (f1 6) = (f1 6), (f1 7) = (f1 7), l2.length = l2.length, ∀ i, i < l2.length → ∀ j, j < 2 → E99.cf (l2.getD i E99.z) j = E99.cf (l2.getD i E99.z) j, 0 = 0, a0.ran_.length = a0.ran_.length, E3.cR a0.ran_ = E3.cR a0.ran_, AllPv (E3.cR a0.ran_)]) (by as_aux_lemma => kernel_rfl) ⟨rfl, rfl, rfl, rfl, rfl, rfl, rfl, rfl, rfl, fun _ _ _ _ => rfl, rfl, rfl, rfl, (Elem.cR_pv _ _), trivial⟩ (fun hx => by cases hx)

set_option maxHeartbeats 40000000 in
set_option maxRecDepth 100000 in
theorem slices_Index_bool_ok (a0 : (List Bool)) (a1 : Bool) (r : Int) (h : slices_Index_bool a0 a1 = some r) {al : Bool} : PCalls Try.prog 76 [.pv ((E4.ro a0)), .pv (.raw (.bool a1))] al (.pv (.raw (.int .i64 r))) [] := by
  unfold slices_Index_bool at h
  refine fn_ok tabOk Try.func76 (by as_aux_lemma => kernel_rfl) (by as_aux_lemma => kernel_rfl) Try.ntmps76 (by simp) ?_
  refine segs [] tabOk mixed 4000 (S := .leaf 0) (by as_aux_lemma => kernel_rfl) ?_
  refine sk_leaf ?_
  refine len_ro (by as_aux_lemma => kernel_rfl) 0 (s := 1) (n := a0.length) (c := fun i j => E4.cf (a0.getD i E4.z) j) (by as_aux_lemma => kernel_rfl) ?_; intro hl1_0
  replace h : (fun (x : Nat × Nat) => slices_Index_bool_l1 a0 a1 x.1 x.2 = some r) (FUEL, 0) := h
  refine loop_ok (by as_aux_lemma => kernel_rfl) (X := Nat × Nat) (fun x => slices_Index_bool_l1 a0 a1 x.1 x.2 = some r) (fun x => x.1) (fun x => mk 19 [(0, .pv ((E4.ro a0))), (1, .pv (.raw (.bool a1))), (4, .pv (.raw (.int .i64 0))), (7, .pv (.raw (.int .i64 ((a0.length : Nat) : Int)))), (8, .pv (.raw (.int .i64 ((x.2 : Nat) : Int))))] []) (FUEL, 0) h ?_ ?_
  · exact sub_ok (ρ := []) (l := [a0.length = a0.length, ∀ i, i < a0.length → ∀ j, j < 1 → E4.cf (a0.getD i E4.z) j = E4.cf (a0.getD i E4.z) j, a1 = a1, (0 : Int) = 0, (((a0.length : Nat) : Int) : Int) = ((a0.length : Nat) : Int), (0 : Int) = ((0 : Nat) : Int)]) (by as_aux_lemma => kernel_rfl) ⟨rfl, fun _ _ _ _ => rfl, rfl, rfl, rfl, (by first | rfl | simp), trivial⟩
  · clear h; rintro ⟨n1, k1⟩ h p1 hp1
    obtain _ | n1 := n1
    · cases (show (none : Option (Int)) = some r from h)
    have h : slices_Index_bool_l1 a0 a1 (n1 + 1) k1 = some r := h
    unfold slices_Index_bool_l1 at h
    refine segs [] tabOk mixed 4000 (S := .br (decide ((((k1 : Nat) : Int) : Int) < ((a0.length : Nat) : Int))) (.and (0 ≤ (((k1 : Nat) : Int) : Int) ∧ ((k1 : Nat) : Int) < ((a0.length : Nat) : Int)) (.br (a1 == (a0.getD k1 false)) (.leaf 0) (.leaf 1))) (.leaf 2)) (by as_aux_lemma => kernel_rfl) ?_
    refine br_ h ?_ ?_ <;> clear h <;> intro c2 h
    · refine sk_and ⟨Int.natCast_nonneg _, of_decide_eq_true c2⟩ ?_
      refine br_ h ?_ ?_ <;> clear h <;> intro c4 h
      · refine sk_leaf ?_
        obtain rfl := some_ h
        exact end_ok [] Try.results76 (ps := [(((k1 : Nat) : Int) : Int) = ((k1 : Nat) : Int)]) (by as_aux_lemma => kernel_rfl) ⟨rfl, trivial⟩ (fun _ => ⟨rfl, by simp⟩)
      · refine sk_leaf ?_
        refine back_ok (p := p1) (by as_aux_lemma => kernel_rfl) (hp1 (n1, k1 + 1) _ h (Nat.lt_succ_self n1) ?_)
        exact sub_ok (ρ := []) (l := [a0.length = a0.length, ∀ i, i < a0.length → ∀ j, j < 1 → E4.cf (a0.getD i E4.z) j = E4.cf (a0.getD i E4.z) j, a1 = a1, (0 : Int) = 0, (((a0.length : Nat) : Int) : Int) = ((a0.length : Nat) : Int), ((IntKind.i64.wrap (((k1 : Nat) : Int) + 1)) : Int) = (((k1 + 1) : Nat) : Int)]) (by as_aux_lemma => kernel_rfl) ⟨rfl, fun _ _ _ _ => rfl, rfl, rfl, rfl, (wrap_nat (Int.ofNat_lt.1 (of_decide_eq_true c2)) (by omega)), trivial⟩
    · refine sk_leaf ?_
      obtain rfl := some_ h
      exact end_ok [] Try.results76 (ps := [((-1) : Int) = (-1)]) (by as_aux_lemma => kernel_rfl) ⟨rfl, trivial⟩ (fun _ => ⟨rfl, by simp⟩)

set_option maxHeartbeats 40000000 in
set_option maxRecDepth 100000 in
theorem slices_Contains_bool_ok (a0 : (List Bool)) (a1 : Bool) (r : Bool) (h : slices_Contains_bool a0 a1 = some r) {al : Bool} : PCalls Try.prog 65 [.pv ((E4.ro a0)), .pv (.raw (.bool a1))] al (.pv (.raw (.bool r))) [] := by
  unfold slices_Contains_bool at h
  refine fn_ok tabOk Try.func65 (by as_aux_lemma => kernel_rfl) (by as_aux_lemma => kernel_rfl) Try.ntmps65 (by simp) ?_
  refine segs [] tabOk mixed 4000 (S := .leaf 0) (by as_aux_lemma => kernel_rfl) ?_
  refine sk_leaf ?_
  obtain ⟨r1, e2, h⟩ := bd_ h
  refine call_ok (d := some 7) (fn := 76) (ax := [.pv ((E4.ro a0)), .pv (.raw (.bool a1))]) (args := [.pv ((E4.ro a0)), .pv (.raw (.bool a1))]) (ps := [a0.length = a0.length, ∀ i, i < a0.length → ∀ j, j < 1 → E4.cf (a0.getD i E4.z) j = E4.cf (a0.getD i E4.z) j, a1 = a1]) (hb' := []) (by as_aux_lemma => kernel_rfl) (slices_Index_bool_ok _ _ _ e2 (al := true)) (by as_aux_lemma => kernel_rfl) ⟨rfl, fun _ _ _ _ => rfl, rfl, trivial⟩ (fun _ => (by as_aux_lemma => kernel_rfl)) (by simp) rfl (by as_aux_lemma => kernel_rfl) ?_
  refine segs [] tabOk mixed 4000 (S := .leaf 0) (by as_aux_lemma => kernel_rfl) ?_
  refine sk_leaf ?_
  obtain rfl := some_ h
  exact end_ok [] Try.results65 (ps := [(decide ((r1 : Int) ≥ 0)) = (decide ((r1 : Int) ≥ 0))]) (by as_aux_lemma => kernel_rfl) ⟨rfl, trivial⟩ (fun _ => ⟨rfl, by simp⟩)

set_option maxHeartbeats 40000000 in
set_option maxRecDepth 100000 in
theorem soft_runner_some_ok (a0 : Soft_runner) (r : Bool) (h : soft_runner_some a0 = some r) {al : Bool} : PCalls Try.prog 45 [.roat 10 (fun j => E104.cf a0 j)] al (.pv (.raw (.bool r))) [] := by
  unfold soft_runner_some at h
  refine fn_ok tabOk Try.func45 (by as_aux_lemma => kernel_rfl) (by as_aux_lemma => kernel_rfl) Try.ntmps45 (by simp) ?_
  refine segs [] tabOk mixed 4000 (S := .leaf 0) (by as_aux_lemma => kernel_rfl) ?_
  refine sk_leaf ?_
  refine sla_ok (d := 6) (n := 10) (m := 8) (s := 1) (c := fun j => E104.cf a0 (0 + j)) E4 (arrList 8 a0.pending_) (by as_aux_lemma => kernel_rfl) rfl (arrList_length _ _) (by decide) (by decide) (fun i hi j hj => by rw [arrList_getD _ _ _ hi]; exact allLt (p := fun j => E104.cf a0 (0 + (i * 1 + j)) = E4.cf (a0.pending_ i) j) (allLt (p := fun i => AllLt (fun j => E104.cf a0 (0 + (i * 1 + j)) = E4.cf (a0.pending_ i) j) 1) (m := 8) ⟨⟨⟨⟨⟨⟨⟨⟨trivial, ⟨trivial, rfl⟩⟩, ⟨trivial, rfl⟩⟩, ⟨trivial, rfl⟩⟩, ⟨trivial, rfl⟩⟩, ⟨trivial, rfl⟩⟩, ⟨trivial, rfl⟩⟩, ⟨trivial, rfl⟩⟩, ⟨trivial, rfl⟩⟩ i hi) j hj) ?_
  refine segs [] tabOk mixed 4000 (S := .leaf 0) (by as_aux_lemma => kernel_rfl) ?_
  refine sk_leaf ?_
  obtain ⟨r1, e2, h⟩ := bd_ h
  refine call_ok (d := some 7) (fn := 65) (ax := [.pv ((E4.ro (arrList 8 a0.pending_))), .pv (.raw (.bool true))]) (args := [.pv ((E4.ro (arrList 8 a0.pending_))), .pv (.raw (.bool true))]) (ps := [(arrList 8 a0.pending_).length = (arrList 8 a0.pending_).length, ∀ i, i < (arrList 8 a0.pending_).length → ∀ j, j < 1 → E4.cf ((arrList 8 a0.pending_).getD i E4.z) j = E4.cf ((arrList 8 a0.pending_).getD i E4.z) j, true = true]) (hb' := []) (by as_aux_lemma => kernel_rfl) (slices_Contains_bool_ok _ _ _ e2 (al := true)) (by as_aux_lemma => kernel_rfl) ⟨rfl, fun _ _ _ _ => rfl, rfl, trivial⟩ (fun _ => (by as_aux_lemma => kernel_rfl)) (by simp) rfl (by as_aux_lemma => kernel_rfl) ?_
  refine segs [] tabOk mixed 4000 (S := .leaf 0) (by as_aux_lemma => kernel_rfl) ?_
  refine sk_leaf ?_
  obtain rfl := some_ h
  exact end_ok [] Try.results45 (ps := [r1 = r1]) (by as_aux_lemma => kernel_rfl) ⟨rfl, trivial⟩ (fun _ => ⟨rfl, by simp⟩)

set_option maxHeartbeats 40000000 in
set_option maxRecDepth 100000 in
theorem soft_runner_round_roro_ok (a0 : Soft_runner) (r : Soft_runner) (h : soft_runner_round_roro a0 = some r) : MCalls Try.prog 46 [.ptr 0 0] [.box [.pv (.raw (.bool (a0.pending_ 0))), .pv (.raw (.bool (a0.pending_ 1))), .pv (.raw (.bool (a0.pending_ 2))), .pv (.raw (.bool (a0.pending_ 3))), .pv (.raw (.bool (a0.pending_ 4))), .pv (.raw (.bool (a0.pending_ 5))), .pv (.raw (.bool (a0.pending_ 6))), .pv (.raw (.bool (a0.pending_ 7))), .pv ((E99.ro a0.raises_)), .row 1 1 0 a0.ran_.length], .row 3 1 (E3.cR a0.ran_)] 1 true (.tup []) [.box [.pv (.raw (.bool (r.pending_ 0))), .pv (.raw (.bool (r.pending_ 1))), .pv (.raw (.bool (r.pending_ 2))), .pv (.raw (.bool (r.pending_ 3))), .pv (.raw (.bool (r.pending_ 4))), .pv (.raw (.bool (r.pending_ 5))), .pv (.raw (.bool (r.pending_ 6))), .pv (.raw (.bool (r.pending_ 7))), .pv ((E99.ro r.raises_)), .row 1 1 0 r.ran_.length], .row 3 1 (E3.cR r.ran_)] := by
  unfold soft_runner_round_roro at h
  refine fnM_ok tabOk (fz := [44]) Try.func46 (by as_aux_lemma => kernel_rfl) (by as_aux_lemma => kernel_rfl) Try.ntmps46 (by simp) (by first | (simp; done) | exact Nat.le_of_ble_eq_true rfl) ?_
  refine segs [] tabOk mixed 4000 (S := .leaf 0) (by as_aux_lemma => kernel_rfl) ?_
  refine sk_leaf ?_
  refine len_box (by as_aux_lemma => kernel_rfl) 0 8 (cs := [.pv (.raw (.bool false)), .pv (.raw (.bool false)), .pv (.raw (.bool false)), .pv (.raw (.bool false)), .pv (.raw (.bool false)), .pv (.raw (.bool false)), .pv (.raw (.bool false)), .pv (.raw (.bool false)), .pv ((E99.ro a0.raises_)), .row 1 1 0 a0.ran_.length]) (by as_aux_lemma => kernel_rfl) (s := 2) (n := a0.raises_.length) (c := fun i j => E99.cf (a0.raises_.getD i E99.z) j) rfl ?_; intro hl1_0
  refine len_row (by as_aux_lemma => kernel_rfl) 1 (e := 3) (s := 1) (n := a0.ran_.length) (cs := E3.cR a0.ran_) (by as_aux_lemma => kernel_rfl) (Elem.cR_length _ _) ?_; intro hl1_1
  replace h : (fun (x : Nat × Nat × (Nat → Bool) × List Api_Raise × List Int) => soft_runner_round_roro_l1 a0 x.1 x.2.1 x.2.2.1 x.2.2.2.1 x.2.2.2.2 = some r) (FUEL, 0, (fun _ => false), a0.raises_, a0.ran_) := h
  refine loop_ok (by as_aux_lemma => kernel_rfl) (X := Nat × Nat × (Nat → Bool) × List Api_Raise × List Int) (fun x => soft_runner_round_roro_l1 a0 x.1 x.2.1 x.2.2.1 x.2.2.2.1 x.2.2.2.2 = some r) (fun x => x.1) (fun x => mk 32 [(0, .ptr 0 0), (13, .agg [.pv (.raw (.bool (a0.pending_ 0))), .pv (.raw (.bool (a0.pending_ 1))), .pv (.raw (.bool (a0.pending_ 2))), .pv (.raw (.bool (a0.pending_ 3))), .pv (.raw (.bool (a0.pending_ 4))), .pv (.raw (.bool (a0.pending_ 5))), .pv (.raw (.bool (a0.pending_ 6))), .pv (.raw (.bool (a0.pending_ 7)))]), (14, .pv (.raw (.int .i64 ((x.2.1 : Nat) : Int))))] [(0, .box [.pv (.raw (.bool (x.2.2.1 0))), .pv (.raw (.bool (x.2.2.1 1))), .pv (.raw (.bool (x.2.2.1 2))), .pv (.raw (.bool (x.2.2.1 3))), .pv (.raw (.bool (x.2.2.1 4))), .pv (.raw (.bool (x.2.2.1 5))), .pv (.raw (.bool (x.2.2.1 6))), .pv (.raw (.bool (x.2.2.1 7))), .pv ((E99.ro x.2.2.2.1)), .row 1 1 0 x.2.2.2.2.length]), (1, .row 3 1 (E3.cR x.2.2.2.2))] [44] 1) (FUEL, 0, (fun _ => false), a0.raises_, a0.ran_) h ?_ ?_
  · exact sub_ok (ρ := [(0, some 0), (1, some 1)]) (l := [0 = 0, (a0.pending_ 0) = (a0.pending_ 0), (a0.pending_ 1) = (a0.pending_ 1), (a0.pending_ 2) = (a0.pending_ 2), (a0.pending_ 3) = (a0.pending_ 3), (a0.pending_ 4) = (a0.pending_ 4), (a0.pending_ 5) = (a0.pending_ 5), (a0.pending_ 6) = (a0.pending_ 6), (a0.pending_ 7) = (a0.pending_ 7), (0 : Int) = ((0 : Nat) : Int), false = ((fun _ => false) 0), false = ((fun _ => false) 1), false = ((fun _ => false) 2), false = ((fun _ => false) 3), false = ((fun _ => false) 4), false = ((fun _ => false) 5), false = ((fun _ => false) 6), false = ((fun _ => false) 7), a0.raises_.length = a0.raises_.length, ∀ i, i < a0.raises_.length → ∀ j, j < 2 → E99.cf (a0.raises_.getD i E99.z) j = E99.cf (a0.raises_.getD i E99.z) j, 0 = 0, a0.ran_.length = a0.ran_.length, E3.cR a0.ran_ = E3.cR a0.ran_, AllPv (E3.cR a0.ran_)]) (by as_aux_lemma => kernel_rfl) ⟨rfl, rfl, rfl, rfl, rfl, rfl, rfl, rfl, rfl, (by first | rfl | simp), (by first | rfl | (simp; done) | omega | (simp <;> omega)), (by first | rfl | (simp; done) | omega | (simp <;> omega)), (by first | rfl | (simp; done) | omega | (simp <;> omega)), (by first | rfl | (simp; done) | omega | (simp <;> omega)), (by first | rfl | (simp; done) | omega | (simp <;> omega)), (by first | rfl | (simp; done) | omega | (simp <;> omega)), (by first | rfl | (simp; done) | omega | (simp <;> omega)), (by first | rfl | (simp; done) | omega | (simp <;> omega)), rfl, fun _ _ _ _ => rfl, rfl, rfl, rfl, (Elem.cR_pv _ _), trivial⟩
  · clear h; rintro ⟨n1, k1, f2, l3, l4⟩ h p1 hp1
    obtain _ | n1 := n1
    · cases (show (none : Option (Soft_runner)) = some r from h)
    have h : soft_runner_round_roro_l1 a0 (n1 + 1) k1 f2 l3 l4 = some r := h
    unfold soft_runner_round_roro_l1 at h
    refine segs [] tabOk mixed 4000 (S := .br (decide ((((k1 : Nat) : Int) : Int) < 8)) (.leaf 0) (.leaf 1)) (by as_aux_lemma => kernel_rfl) ?_
    refine br_ h ?_ ?_ <;> clear h <;> intro c5 h
    · refine sk_leaf ?_
      obtain ⟨g6, h⟩ := if_ h
      refine idxop_ok (d := 17) (m := 8) (s := 1) (xs := [.pv (.raw (.bool (a0.pending_ 0))), .pv (.raw (.bool (a0.pending_ 1))), .pv (.raw (.bool (a0.pending_ 2))), .pv (.raw (.bool (a0.pending_ 3))), .pv (.raw (.bool (a0.pending_ 4))), .pv (.raw (.bool (a0.pending_ 5))), .pv (.raw (.bool (a0.pending_ 6))), .pv (.raw (.bool (a0.pending_ 7)))]) (i := ((k1 : Nat) : Int)) (.pv (.raw (.bool (a0.pending_ k1)))) (by as_aux_lemma => kernel_rfl) g6 (allLt (p := fun kk0 => ([.pv (.raw (.bool (a0.pending_ 0))), .pv (.raw (.bool (a0.pending_ 1))), .pv (.raw (.bool (a0.pending_ 2))), .pv (.raw (.bool (a0.pending_ 3))), .pv (.raw (.bool (a0.pending_ 4))), .pv (.raw (.bool (a0.pending_ 5))), .pv (.raw (.bool (a0.pending_ 6))), .pv (.raw (.bool (a0.pending_ 7)))] : List AV)[kk0 * 1]? = some (.pv (.raw (.bool (a0.pending_ kk0))))) (m := 8) ⟨⟨⟨⟨⟨⟨⟨⟨trivial, rfl⟩, rfl⟩, rfl⟩, rfl⟩, rfl⟩, rfl⟩, rfl⟩, rfl⟩ k1 (by omega)) ?_
      refine segs [] tabOk mixed 4000 (S := .br (a0.pending_ k1) (.leaf 0) (.leaf 1)) (by as_aux_lemma => kernel_rfl) ?_
      refine br_ h ?_ ?_ <;> clear h <;> intro c7 h
      · refine sk_leaf ?_
        refine bs_ok (d := 25) (e := 3) (s := 1) (n := 1) (cs := [.pv (.raw (.int .i64 ((k1 : Nat) : Int)))]) (cs' := E3.cR [((k1 : Nat) : Int)]) (by as_aux_lemma => kernel_rfl) rfl (by as_aux_lemma => kernel_rfl) ?_
        refine segs [] tabOk mixed 4000 (S := .leaf 0) (by as_aux_lemma => kernel_rfl) ?_
        refine sk_leaf ?_
        obtain ⟨g8, h⟩ := if_ h
        refine app_ok (d := 26) (e := 3) (s := 1) (b := 8) (x := .row 1 1 0 l4.length) (y := .row 17984 1 0 1) E3 (xs := l4) (ys := [((k1 : Nat) : Int)]) (by as_aux_lemma => kernel_rfl) rfl (.row 1 l4 l4.length rfl (by as_aux_lemma => kernel_rfl)) (.all 17984 3 [((k1 : Nat) : Int)] 1 rfl (by as_aux_lemma => kernel_rfl)) g8 (by as_aux_lemma => kernel_rfl) ?_
        refine segs [] tabOk mixed 4000 (S := .leaf 0) (by as_aux_lemma => kernel_rfl) ?_
        refine sk_leaf ?_
        obtain ⟨r9, e10, h⟩ := bd_ h
        refine mcall_ok (d := some 30) (fn := 44) (ax := [.ptr 0 0]) (hs := [(0, .box [.pv (.raw (.bool (r9.pending_ 0))), .pv (.raw (.bool (r9.pending_ 1))), .pv (.raw (.bool (r9.pending_ 2))), .pv (.raw (.bool (r9.pending_ 3))), .pv (.raw (.bool (r9.pending_ 4))), .pv (.raw (.bool (r9.pending_ 5))), .pv (.raw (.bool (r9.pending_ 6))), .pv (.raw (.bool (r9.pending_ 7))), .pv ((E99.ro r9.raises_)), .row 18305 1 0 r9.ran_.length]), (18305, .row 3 1 (E3.cR r9.ran_))]) (del := [18048]) (ps := [0 = 0, (f2 0) = (f2 0), (f2 1) = (f2 1), (f2 2) = (f2 2), (f2 3) = (f2 3), (f2 4) = (f2 4), (f2 5) = (f2 5), (f2 6) = (f2 6), (f2 7) = (f2 7), l3.length = l3.length, ∀ i, i < l3.length → ∀ j, j < 2 → E99.cf (l3.getD i E99.z) j = E99.cf (l3.getD i E99.z) j, 0 = 0, ((l4 ++ [((k1 : Nat) : Int)]).length) = ((l4 ++ [((k1 : Nat) : Int)]).length), E3.cR (l4 ++ [((k1 : Nat) : Int)]) = E3.cR (l4 ++ [((k1 : Nat) : Int)]), AllPv (E3.cR (l4 ++ [((k1 : Nat) : Int)]))]) [(0, some 0), (1, some 18048)] (by as_aux_lemma => kernel_rfl) (soft_runner_raise_roro_ok _ _ e10) (by as_aux_lemma => kernel_rfl) ⟨rfl, rfl, rfl, rfl, rfl, rfl, rfl, rfl, rfl, rfl, fun _ _ _ _ => rfl, rfl, rfl, rfl, (Elem.cR_pv _ _), trivial⟩ (by as_aux_lemma => kernel_rfl) (by simp only [List.cons_append, List.nil_append, List.append_nil, rB, rA, fl, mset_row, mset_box, mset_nil, mset_map, List.set_set]; kernel_rfl) (by as_aux_lemma => kernel_rfl) ?_
        refine segs [] tabOk mixed 4000 (S := .leaf 0) (by as_aux_lemma => kernel_rfl) ?_
        refine sk_leaf ?_
        refine back_ok (p := p1) (by as_aux_lemma => kernel_rfl) (hp1 (n1, k1 + 1, r9.pending_, r9.raises_, r9.ran_) _ h (Nat.lt_succ_self n1) ?_)
        exact sub_ok (ρ := [(0, some 0), (1, some 18305)]) (l := [0 = 0, (a0.pending_ 0) = (a0.pending_ 0), (a0.pending_ 1) = (a0.pending_ 1), (a0.pending_ 2) = (a0.pending_ 2), (a0.pending_ 3) = (a0.pending_ 3), (a0.pending_ 4) = (a0.pending_ 4), (a0.pending_ 5) = (a0.pending_ 5), (a0.pending_ 6) = (a0.pending_ 6), (a0.pending_ 7) = (a0.pending_ 7), ((IntKind.i64.wrap (((k1 : Nat) : Int) + 1)) : Int) = (((k1 + 1) : Nat) : Int), (r9.pending_ 0) = (r9.pending_ 0), (r9.pending_ 1) = (r9.pending_ 1), (r9.pending_ 2) = (r9.pending_ 2), (r9.pending_ 3) = (r9.pending_ 3), (r9.pending_ 4) = (r9.pending_ 4), (r9.pending_ 5) = (r9.pending_ 5), (r9.pending_ 6) = (r9.pending_ 6), (r9.pending_ 7) = (r9.pending_ 7), r9.raises_.length = r9.raises_.length, ∀ i, i < r9.raises_.length → ∀ j, j < 2 → E99.cf (r9.raises_.getD i E99.z) j = E99.cf (r9.raises_.getD i E99.z) j, 0 = 0, r9.ran_.length = r9.ran_.length, E3.cR r9.ran_ = E3.cR r9.ran_, AllPv (E3.cR r9.ran_)]) (by as_aux_lemma => kernel_rfl) ⟨rfl, rfl, rfl, rfl, rfl, rfl, rfl, rfl, rfl, (wrap_nat_lit (by simp at * <;> omega)), rfl, rfl, rfl, rfl, rfl, rfl, rfl, rfl, rfl, fun _ _ _ _ => rfl, rfl, rfl, rfl, (Elem.cR_pv _ _), trivial⟩
      · refine sk_leaf ?_
        refine back_ok (p := p1) (by as_aux_lemma => kernel_rfl) (hp1 (n1, k1 + 1, f2, l3, l4) _ h (Nat.lt_succ_self n1) ?_)
        exact sub_ok (ρ := [(0, some 0), (1, some 1)]) (l := [0 = 0, (a0.pending_ 0) = (a0.pending_ 0), (a0.pending_ 1) = (a0.pending_ 1), (a0.pending_ 2) = (a0.pending_ 2), (a0.pending_ 3) = (a0.pending_ 3), (a0.pending_ 4) = (a0.pending_ 4), (a0.pending_ 5) = (a0.pending_ 5), (a0.pending_ 6) = (a0.pending_ 6), (a0.pending_ 7) = (a0.pending_ 7), ((IntKind.i64.wrap (((k1 : Nat) : Int) + 1)) : Int) = (((k1 + 1) : Nat) : Int), (f2 0) = (f2 0), (f2 1) = (f2 1), (f2 2) = (f2 2), (f2 3) = (f2 3), (f2 4) = (f2 4), (f2 5) = (f2 5), (f2 6) = (f2 6), (f2 7) = (f2 7), l3.length = l3.length, ∀ i, i < l3.length → ∀ j, j < 2 → E99.cf (l3.getD i E99.z) j = E99.cf (l3.getD i E99.z) j, 0 = 0, l4.length = l4.length, E3.cR l4 = E3.cR l4, AllPv (E3.cR l4)]) (by as_aux_lemma => kernel_rfl) ⟨rfl, rfl, rfl, rfl, rfl, rfl, rfl, rfl, rfl, (wrap_nat_lit (by simp at * <;> omega)), rfl, rfl, rfl, rfl, rfl, rfl, rfl, rfl, rfl, fun _ _ _ _ => rfl, rfl, rfl, rfl, (Elem.cR_pv _ _), trivial⟩
    · refine sk_leaf ?_
      obtain rfl := some_ h
      exact endM_ok [(0, some 0), (1, some 1)] Try.results46 (ps := [(f2 0) = (f2 0), (f2 1) = (f2 1), (f2 2) = (f2 2), (f2 3) = (f2 3), (f2 4) = (f2 4), (f2 5) = (f2 5), (f2 6) = (f2 6), (f2 7) = (f2 7), l3.length = l3.length, ∀ i, i < l3.length → ∀ j, j < 2 → E99.cf (l3.getD i E99.z) j = E99.cf (l3.getD i E99.z) j, 0 = 0, l4.length = l4.length, E3.cR l4 = E3.cR l4, AllPv (E3.cR l4)]) (by as_aux_lemma => kernel_rfl) ⟨rfl, rfl, rfl, rfl, rfl, rfl, rfl, rfl, rfl, fun _ _ _ _ => rfl, rfl, rfl, rfl, (Elem.cR_pv _ _), trivial⟩ (fun hx => by cases hx)

set_option maxHeartbeats 40000000 in
set_option maxRecDepth 100000 in
theorem soft_Run_ok (a0 : (List Int)) (a1 : (List Api_Raise)) (a2 : Int) (r : (List Int) × Int × Int) (h : soft_Run a0 a1 a2 = some r) {al : Bool} : PCalls Try.prog 21 [.pv ((E3.ro a0)), .pv ((E99.ro a1)), .pv (.raw (.int .i64 a2))] al (.tup [.row 0 1 0 r.1.length, .pv (.raw (.int .i64 r.2.1)), .pv (.raw (.int .i64 r.2.2))]) [.row 3 1 (E3.cR r.1)] := by
  unfold soft_Run at h
  refine fnZ_ok tabOk [44, 46] Try.func21 (by as_aux_lemma => kernel_rfl) (by as_aux_lemma => kernel_rfl) Try.ntmps21 (by simp) ?_
  refine segs [] tabOk mixed 4000 (S := .leaf 0) (by as_aux_lemma => kernel_rfl) ?_
  refine sk_leaf ?_
  obtain ⟨r1, e2, h⟩ := bd_ h
  refine call_ok (d := some 16) (fn := 43) (ax := [.pv ((E3.ro a0)), .pv ((E99.ro a1))]) (args := [.pv ((E3.ro a0)), .pv ((E99.ro a1))]) (ps := [a0.length = a0.length, ∀ i, i < a0.length → ∀ j, j < 1 → E3.cf (a0.getD i E3.z) j = E3.cf (a0.getD i E3.z) j, a1.length = a1.length, ∀ i, i < a1.length → ∀ j, j < 2 → E99.cf (a1.getD i E99.z) j = E99.cf (a1.getD i E99.z) j]) (hb' := []) (by as_aux_lemma => kernel_rfl) (soft_Right_ok _ _ _ e2 (al := true)) (by as_aux_lemma => kernel_rfl) ⟨rfl, fun _ _ _ _ => rfl, rfl, fun _ _ _ _ => rfl, trivial⟩ (fun _ => (by as_aux_lemma => kernel_rfl)) (by simp) rfl (by as_aux_lemma => kernel_rfl) ?_
  refine segs [] tabOk mixed 4000 (S := .br (!r1) (.leaf 0) (.and (((!(decide ((a2 : Int) < 0))) = true → ((!(decide ((a2 : Int) < 0))) = true))) (.and ((decide ((a2 : Int) < 0)) = false → (!(decide ((a2 : Int) < 0))) = true) (.br ((decide ((a2 : Int) < 0)) || (decide ((a2 : Int) > 400))) (.leaf 1) (.leaf 2))))) (by as_aux_lemma => kernel_rfl) ?_
  refine br_ h ?_ ?_ <;> clear h <;> intro c3 h
  · refine sk_leaf ?_
    obtain rfl := some_ h
    exact end_ok [(0, none)] Try.results21 (ps := [0 = 0, ([] : List Int).length = 0, (0 : Int) = 0, (1 : Int) = 1, E3.cR [] = []]) (by as_aux_lemma => kernel_rfl) ⟨rfl, rfl, rfl, rfl, rfl, trivial⟩ (fun _ => ⟨rfl, by simp only [List.mem_cons, List.not_mem_nil, or_false, forall_eq_or_imp, forall_eq]; exact Elem.cR_bald E3_raw _⟩)
  · refine sk_and ((by decide : ∀ y0 : Bool, ((y0 = true) → (y0 = true))) (!(decide ((a2 : Int) < 0)))) ?_
    refine sk_and ((by decide : ∀ y0 : Bool, ((y0 = false) → ((!y0) = true))) (decide ((a2 : Int) < 0))) ?_
    refine br_ h ?_ ?_ <;> clear h <;> intro c6 h
    · refine sk_leaf ?_
      obtain rfl := some_ h
      exact end_ok [(0, none)] Try.results21 (ps := [0 = 0, ([] : List Int).length = 0, (0 : Int) = 0, (2 : Int) = 2, E3.cR [] = []]) (by as_aux_lemma => kernel_rfl) ⟨rfl, rfl, rfl, rfl, rfl, trivial⟩ (fun _ => ⟨rfl, by simp only [List.mem_cons, List.not_mem_nil, or_false, forall_eq_or_imp, forall_eq]; exact Elem.cR_bald E3_raw _⟩)
    · refine sk_leaf ?_
      refine len_ro (by as_aux_lemma => kernel_rfl) 27 (s := 1) (n := a0.length) (c := fun i j => E3.cf (a0.getD i E3.z) j) (by as_aux_lemma => kernel_rfl) ?_; intro hl1_0
      refine len_box (by as_aux_lemma => kernel_rfl) 18048 8 (cs := [.pv (.raw (.bool false)), .pv (.raw (.bool false)), .pv (.raw (.bool false)), .pv (.raw (.bool false)), .pv (.raw (.bool false)), .pv (.raw (.bool false)), .pv (.raw (.bool false)), .pv (.raw (.bool false)), .pv ((E99.ro a1)), .pv (.raw (.slice none 0 0))]) (by as_aux_lemma => kernel_rfl) (s := 2) (n := a1.length) (c := fun i j => E99.cf (a1.getD i E99.z) j) rfl ?_; intro hl1_1
      replace h : (fun (x : Nat × Nat × (Nat → Bool)) => soft_Run_l1 a0 a1 a2 x.1 x.2.1 x.2.2 = some r) (FUEL, 0, (fun _ => false)) := h
      refine loop_ok (by as_aux_lemma => kernel_rfl) (X := Nat × Nat × (Nat → Bool)) (fun x => soft_Run_l1 a0 a1 a2 x.1 x.2.1 x.2.2 = some r) (fun x => x.1) (fun x => mk 60 [(2, .pv (.raw (.int .i64 a2))), (6, .pv (.raw (.slice none 0 0))), (7, .pv (.raw (.int .i64 0))), (8, .pv (.raw (.int .i64 0))), (9, .ptr 0 0), (27, .pv ((E3.ro a0))), (28, .pv (.raw (.int .i64 ((a0.length : Nat) : Int)))), (29, .pv (.raw (.int .i64 ((x.2.1 : Nat) : Int))))] [(0, .box [.pv (.raw (.bool (x.2.2 0))), .pv (.raw (.bool (x.2.2 1))), .pv (.raw (.bool (x.2.2 2))), .pv (.raw (.bool (x.2.2 3))), .pv (.raw (.bool (x.2.2 4))), .pv (.raw (.bool (x.2.2 5))), .pv (.raw (.bool (x.2.2 6))), .pv (.raw (.bool (x.2.2 7))), .pv ((E99.ro a1)), .pv (.raw (.slice none 0 0))])] [44, 46]) (FUEL, 0, (fun _ => false)) h ?_ ?_
      · exact sub_ok (ρ := [(0, some 18048)]) (l := [(a2 : Int) = a2, (0 : Int) = 0, (0 : Int) = 0, 0 = 0, a0.length = a0.length, ∀ i, i < a0.length → ∀ j, j < 1 → E3.cf (a0.getD i E3.z) j = E3.cf (a0.getD i E3.z) j, (((a0.length : Nat) : Int) : Int) = ((a0.length : Nat) : Int), (0 : Int) = ((0 : Nat) : Int), false = ((fun _ => false) 0), false = ((fun _ => false) 1), false = ((fun _ => false) 2), false = ((fun _ => false) 3), false = ((fun _ => false) 4), false = ((fun _ => false) 5), false = ((fun _ => false) 6), false = ((fun _ => false) 7), a1.length = a1.length, ∀ i, i < a1.length → ∀ j, j < 2 → E99.cf (a1.getD i E99.z) j = E99.cf (a1.getD i E99.z) j]) (by as_aux_lemma => kernel_rfl) ⟨rfl, rfl, rfl, rfl, rfl, fun _ _ _ _ => rfl, rfl, (by first | rfl | simp), (by first | rfl | (simp; done) | omega | (simp <;> omega)), (by first | rfl | (simp; done) | omega | (simp <;> omega)), (by first | rfl | (simp; done) | omega | (simp <;> omega)), (by first | rfl | (simp; done) | omega | (simp <;> omega)), (by first | rfl | (simp; done) | omega | (simp <;> omega)), (by first | rfl | (simp; done) | omega | (simp <;> omega)), (by first | rfl | (simp; done) | omega | (simp <;> omega)), (by first | rfl | (simp; done) | omega | (simp <;> omega)), rfl, fun _ _ _ _ => rfl, trivial⟩
      · clear h; rintro ⟨n1, k7, f8⟩ h p1 hp1
        obtain _ | n1 := n1
        · cases (show (none : Option ((List Int) × Int × Int)) = some r from h)
        have h : soft_Run_l1 a0 a1 a2 (n1 + 1) k7 f8 = some r := h
        unfold soft_Run_l1 at h
        refine segs [] tabOk mixed 4000 (S := .br (decide ((((k7 : Nat) : Int) : Int) < ((a0.length : Nat) : Int))) (.and (0 ≤ (((k7 : Nat) : Int) : Int) ∧ ((k7 : Nat) : Int) < ((a0.length : Nat) : Int)) (.and (0 ≤ ((a0.getD k7 0) : Int) ∧ (a0.getD k7 0) < ((8 : Nat) : Int)) (.leaf 0))) (.leaf 1)) (by as_aux_lemma => kernel_rfl) ?_
        refine br_ h ?_ ?_ <;> clear h <;> intro c9 h
        · refine sk_and ⟨Int.natCast_nonneg _, of_decide_eq_true c9⟩ ?_
          refine gd_ h ?_; clear h; intro g11 h
          refine sk_leaf ?_
          refine stc_ok (id := 0) (off := (0 + (Int.toNat (a0.getD k7 0)) * 1)) (vs := [.pv (.raw (.bool true))]) (cs := [.pv (.raw (.bool (f8 0))), .pv (.raw (.bool (f8 1))), .pv (.raw (.bool (f8 2))), .pv (.raw (.bool (f8 3))), .pv (.raw (.bool (f8 4))), .pv (.raw (.bool (f8 5))), .pv (.raw (.bool (f8 6))), .pv (.raw (.bool (f8 7))), .pv ((E99.ro a1)), .pv (.raw (.slice none 0 0))]) [.pv (.raw (.bool ((upd f8 (Int.toNat (a0.getD k7 0)) true) 0))), .pv (.raw (.bool ((upd f8 (Int.toNat (a0.getD k7 0)) true) 1))), .pv (.raw (.bool ((upd f8 (Int.toNat (a0.getD k7 0)) true) 2))), .pv (.raw (.bool ((upd f8 (Int.toNat (a0.getD k7 0)) true) 3))), .pv (.raw (.bool ((upd f8 (Int.toNat (a0.getD k7 0)) true) 4))), .pv (.raw (.bool ((upd f8 (Int.toNat (a0.getD k7 0)) true) 5))), .pv (.raw (.bool ((upd f8 (Int.toNat (a0.getD k7 0)) true) 6))), .pv (.raw (.bool ((upd f8 (Int.toNat (a0.getD k7 0)) true) 7))), .pv ((E99.ro a1)), .pv (.raw (.slice none 0 0))] (by as_aux_lemma => kernel_rfl) (by as_aux_lemma => kernel_rfl) (by simp only [List.length_append, rA_length, fl_length, List.length_cons, List.length_nil]; first | omega | (simp at * <;> omega) | (simp_all <;> omega)) (allLt (p := fun kk0 => setCells [.pv (.raw (.bool (f8 0))), .pv (.raw (.bool (f8 1))), .pv (.raw (.bool (f8 2))), .pv (.raw (.bool (f8 3))), .pv (.raw (.bool (f8 4))), .pv (.raw (.bool (f8 5))), .pv (.raw (.bool (f8 6))), .pv (.raw (.bool (f8 7))), .pv ((E99.ro a1)), .pv (.raw (.slice none 0 0))] ((0 + kk0 * 1)) [.pv (.raw (.bool true))] = [.pv (.raw (.bool ((upd f8 kk0 true) 0))), .pv (.raw (.bool ((upd f8 kk0 true) 1))), .pv (.raw (.bool ((upd f8 kk0 true) 2))), .pv (.raw (.bool ((upd f8 kk0 true) 3))), .pv (.raw (.bool ((upd f8 kk0 true) 4))), .pv (.raw (.bool ((upd f8 kk0 true) 5))), .pv (.raw (.bool ((upd f8 kk0 true) 6))), .pv (.raw (.bool ((upd f8 kk0 true) 7))), .pv ((E99.ro a1)), .pv (.raw (.slice none 0 0))]) (m := 8) ⟨⟨⟨⟨⟨⟨⟨⟨trivial, rfl⟩, rfl⟩, rfl⟩, rfl⟩, rfl⟩, rfl⟩, rfl⟩, rfl⟩ (Int.toNat (a0.getD k7 0)) (by first | omega | (simp at * <;> omega) | (simp_all <;> omega))) ?_
          refine segs [] tabOk mixed 4000 (S := .leaf 0) (by as_aux_lemma => kernel_rfl) ?_
          refine sk_leaf ?_
          refine back_ok (p := p1) (by as_aux_lemma => kernel_rfl) (hp1 (n1, k7 + 1, (upd f8 (Int.toNat (a0.getD k7 0)) true)) _ h (Nat.lt_succ_self n1) ?_)
          exact sub_ok (ρ := [(0, some 0)]) (l := [(a2 : Int) = a2, (0 : Int) = 0, (0 : Int) = 0, 0 = 0, a0.length = a0.length, ∀ i, i < a0.length → ∀ j, j < 1 → E3.cf (a0.getD i E3.z) j = E3.cf (a0.getD i E3.z) j, (((a0.length : Nat) : Int) : Int) = ((a0.length : Nat) : Int), ((IntKind.i64.wrap (((k7 : Nat) : Int) + 1)) : Int) = (((k7 + 1) : Nat) : Int), ((upd f8 (Int.toNat (a0.getD k7 0)) true) 0) = ((upd f8 (Int.toNat (a0.getD k7 0)) true) 0), ((upd f8 (Int.toNat (a0.getD k7 0)) true) 1) = ((upd f8 (Int.toNat (a0.getD k7 0)) true) 1), ((upd f8 (Int.toNat (a0.getD k7 0)) true) 2) = ((upd f8 (Int.toNat (a0.getD k7 0)) true) 2), ((upd f8 (Int.toNat (a0.getD k7 0)) true) 3) = ((upd f8 (Int.toNat (a0.getD k7 0)) true) 3), ((upd f8 (Int.toNat (a0.getD k7 0)) true) 4) = ((upd f8 (Int.toNat (a0.getD k7 0)) true) 4), ((upd f8 (Int.toNat (a0.getD k7 0)) true) 5) = ((upd f8 (Int.toNat (a0.getD k7 0)) true) 5), ((upd f8 (Int.toNat (a0.getD k7 0)) true) 6) = ((upd f8 (Int.toNat (a0.getD k7 0)) true) 6), ((upd f8 (Int.toNat (a0.getD k7 0)) true) 7) = ((upd f8 (Int.toNat (a0.getD k7 0)) true) 7), a1.length = a1.length, ∀ i, i < a1.length → ∀ j, j < 2 → E99.cf (a1.getD i E99.z) j = E99.cf (a1.getD i E99.z) j]) (by as_aux_lemma => kernel_rfl) ⟨rfl, rfl, rfl, rfl, rfl, fun _ _ _ _ => rfl, rfl, (wrap_nat (Int.ofNat_lt.1 (of_decide_eq_true c9)) (by omega)), rfl, rfl, rfl, rfl, rfl, rfl, rfl, rfl, rfl, fun _ _ _ _ => rfl, trivial⟩
        · refine sk_leaf ?_
          obtain ⟨r12, e13, h⟩ := bd_ h
          refine mcall_ok (d := some 40) (fn := 44) (ax := [.ptr 0 0]) (hs := [(0, .box [.pv (.raw (.bool (r12.pending_ 0))), .pv (.raw (.bool (r12.pending_ 1))), .pv (.raw (.bool (r12.pending_ 2))), .pv (.raw (.bool (r12.pending_ 3))), .pv (.raw (.bool (r12.pending_ 4))), .pv (.raw (.bool (r12.pending_ 5))), .pv (.raw (.bool (r12.pending_ 6))), .pv (.raw (.bool (r12.pending_ 7))), .pv ((E99.ro r12.raises_)), .row 18945 1 0 r12.ran_.length]), (18945, .row 3 1 (E3.cR r12.ran_))]) (del := []) (ps := [0 = 0, (f8 0) = (f8 0), (f8 1) = (f8 1), (f8 2) = (f8 2), (f8 3) = (f8 3), (f8 4) = (f8 4), (f8 5) = (f8 5), (f8 6) = (f8 6), (f8 7) = (f8 7), a1.length = a1.length, ∀ i, i < a1.length → ∀ j, j < 2 → E99.cf (a1.getD i E99.z) j = E99.cf (a1.getD i E99.z) j, 0 = 0, (([] : List Int).length) = 0, E3.cR ([] : List Int) = []]) [(0, some 0), (1, none)] (by as_aux_lemma => kernel_rfl) (soft_runner_raise_roro_ok _ _ e13) (by as_aux_lemma => kernel_rfl) ⟨rfl, rfl, rfl, rfl, rfl, rfl, rfl, rfl, rfl, rfl, fun _ _ _ _ => rfl, rfl, (by first | rfl | simp), rfl, trivial⟩ (by as_aux_lemma => kernel_rfl) (by simp only [List.cons_append, List.nil_append, List.append_nil, rB, rA, fl, mset_row, mset_box, mset_nil, mset_map, List.set_set]; kernel_rfl) (by as_aux_lemma => kernel_rfl) ?_
          refine segs [] tabOk mixed 4000 (S := .leaf 0) (by as_aux_lemma => kernel_rfl) ?_
          refine sk_leaf ?_
          refine len_box (by as_aux_lemma => kernel_rfl) 0 8 (cs := [.pv (.raw (.bool (r12.pending_ 0))), .pv (.raw (.bool (r12.pending_ 1))), .pv (.raw (.bool (r12.pending_ 2))), .pv (.raw (.bool (r12.pending_ 3))), .pv (.raw (.bool (r12.pending_ 4))), .pv (.raw (.bool (r12.pending_ 5))), .pv (.raw (.bool (r12.pending_ 6))), .pv (.raw (.bool (r12.pending_ 7))), .pv ((E99.ro r12.raises_)), .row 18945 1 0 r12.ran_.length]) (by as_aux_lemma => kernel_rfl) (s := 2) (n := r12.raises_.length) (c := fun i j => E99.cf (r12.raises_.getD i E99.z) j) rfl ?_; intro hl2_0
          refine len_row (by as_aux_lemma => kernel_rfl) 18945 (e := 3) (s := 1) (n := r12.ran_.length) (cs := E3.cR r12.ran_) (by as_aux_lemma => kernel_rfl) (Elem.cR_length _ _) ?_; intro hl2_1
          replace h : (fun (x : Nat × Int × Int × (Nat → Bool) × List Api_Raise × List Int) => soft_Run_l2 a2 r12 x.1 x.2.1 x.2.2.1 x.2.2.2.1 x.2.2.2.2.1 x.2.2.2.2.2 = some r) (FUEL, 0, 0, r12.pending_, r12.raises_, r12.ran_) := h
          refine loop_ok (by as_aux_lemma => kernel_rfl) (X := Nat × Int × Int × (Nat → Bool) × List Api_Raise × List Int) (fun x => soft_Run_l2 a2 r12 x.1 x.2.1 x.2.2.1 x.2.2.2.1 x.2.2.2.2.1 x.2.2.2.2.2 = some r) (fun x => x.1) (fun x => mk 60 [(2, .pv (.raw (.int .i64 a2))), (6, .pv (.raw (.slice none 0 0))), (7, .pv (.raw (.int .i64 0))), (8, .pv (.raw (.int .i64 0))), (9, .ptr 0 0), (12, .pv (.raw (.int .i64 x.2.1))), (13, .pv (.raw (.int .i64 x.2.2.1)))] [(0, .box [.pv (.raw (.bool (x.2.2.2.1 0))), .pv (.raw (.bool (x.2.2.2.1 1))), .pv (.raw (.bool (x.2.2.2.1 2))), .pv (.raw (.bool (x.2.2.2.1 3))), .pv (.raw (.bool (x.2.2.2.1 4))), .pv (.raw (.bool (x.2.2.2.1 5))), .pv (.raw (.bool (x.2.2.2.1 6))), .pv (.raw (.bool (x.2.2.2.1 7))), .pv ((E99.ro x.2.2.2.2.1)), .row 1 1 0 x.2.2.2.2.2.length]), (1, .row 3 1 (E3.cR x.2.2.2.2.2))] [44, 46]) (FUEL, 0, 0, r12.pending_, r12.raises_, r12.ran_) h ?_ ?_
          · exact sub_ok (ρ := [(0, some 0), (1, some 18945)]) (l := [(a2 : Int) = a2, (0 : Int) = 0, (0 : Int) = 0, 0 = 0, (0 : Int) = 0, (0 : Int) = 0, (r12.pending_ 0) = (r12.pending_ 0), (r12.pending_ 1) = (r12.pending_ 1), (r12.pending_ 2) = (r12.pending_ 2), (r12.pending_ 3) = (r12.pending_ 3), (r12.pending_ 4) = (r12.pending_ 4), (r12.pending_ 5) = (r12.pending_ 5), (r12.pending_ 6) = (r12.pending_ 6), (r12.pending_ 7) = (r12.pending_ 7), r12.raises_.length = r12.raises_.length, ∀ i, i < r12.raises_.length → ∀ j, j < 2 → E99.cf (r12.raises_.getD i E99.z) j = E99.cf (r12.raises_.getD i E99.z) j, 0 = 0, r12.ran_.length = r12.ran_.length, E3.cR r12.ran_ = E3.cR r12.ran_, AllPv (E3.cR r12.ran_)]) (by as_aux_lemma => kernel_rfl) ⟨rfl, rfl, rfl, rfl, rfl, rfl, rfl, rfl, rfl, rfl, rfl, rfl, rfl, rfl, rfl, fun _ _ _ _ => rfl, rfl, rfl, rfl, (Elem.cR_pv _ _), trivial⟩
          · clear h; rintro ⟨n2, x14, x15, f16, l17, l18⟩ h p2 hp2
            obtain _ | n2 := n2
            · cases (show (none : Option ((List Int) × Int × Int)) = some r from h)
            have h : soft_Run_l2 a2 r12 (n2 + 1) x14 x15 f16 l17 l18 = some r := h
            unfold soft_Run_l2 at h
            refine segs [] tabOk mixed 4000 (S := .leaf 0) (by as_aux_lemma => kernel_rfl) ?_
            refine sk_leaf ?_
            obtain ⟨r19, e20, h⟩ := bd_ h
            refine call_ok (d := some 42) (fn := 45) (ax := [.ptr 0 0]) (args := [.roat 10 (fun j => E104.cf (⟨f16, l17, l18⟩ : Soft_runner) j)]) (ps := [(f16 0) = (f16 0), (f16 1) = (f16 1), (f16 2) = (f16 2), (f16 3) = (f16 3), (f16 4) = (f16 4), (f16 5) = (f16 5), (f16 6) = (f16 6), (f16 7) = (f16 7), l17.length = l17.length, ∀ i, i < l17.length → ∀ j, j < 2 → E99.cf (l17.getD i E99.z) j = E99.cf (l17.getD i E99.z) j, l18.length = l18.length, rowQ (E3.cR l18) 1 0 l18.length (fun i j => E3.cf (l18.getD i E3.z) j)]) (hb' := []) (by as_aux_lemma => kernel_rfl) (soft_runner_some_ok _ _ e20 (al := false)) (by as_aux_lemma => kernel_rfl) ⟨rfl, rfl, rfl, rfl, rfl, rfl, rfl, rfl, rfl, fun _ _ _ _ => rfl, (by first | rfl | exact Elem.sub_len _ (by omega) | omega | simp | (simp <;> omega)), E3.rowQ_all l18 rfl, trivial⟩ (fun hx => by cases hx) (by simp) rfl (by as_aux_lemma => kernel_rfl) ?_
            refine segs [] tabOk mixed 4000 (S := .br r19 (.leaf 0) (.leaf 1)) (by as_aux_lemma => kernel_rfl) ?_
            refine br_ h ?_ ?_ <;> clear h <;> intro c21 h
            · refine sk_leaf ?_
              obtain ⟨r22, e23, h⟩ := bd_ h
              refine mcall_ok (d := some 46) (fn := 46) (ax := [.ptr 0 0]) (hs := [(0, .box [.pv (.raw (.bool (r22.pending_ 0))), .pv (.raw (.bool (r22.pending_ 1))), .pv (.raw (.bool (r22.pending_ 2))), .pv (.raw (.bool (r22.pending_ 3))), .pv (.raw (.bool (r22.pending_ 4))), .pv (.raw (.bool (r22.pending_ 5))), .pv (.raw (.bool (r22.pending_ 6))), .pv (.raw (.bool (r22.pending_ 7))), .pv ((E99.ro r22.raises_)), .row 19329 1 0 r22.ran_.length]), (19329, .row 3 1 (E3.cR r22.ran_))]) (del := [1]) (ps := [0 = 0, (f16 0) = (f16 0), (f16 1) = (f16 1), (f16 2) = (f16 2), (f16 3) = (f16 3), (f16 4) = (f16 4), (f16 5) = (f16 5), (f16 6) = (f16 6), (f16 7) = (f16 7), l17.length = l17.length, ∀ i, i < l17.length → ∀ j, j < 2 → E99.cf (l17.getD i E99.z) j = E99.cf (l17.getD i E99.z) j, 0 = 0, l18.length = l18.length, E3.cR l18 = E3.cR l18, AllPv (E3.cR l18)]) [(0, some 0), (1, some 1)] (by as_aux_lemma => kernel_rfl) (soft_runner_round_roro_ok _ _ e23) (by as_aux_lemma => kernel_rfl) ⟨rfl, rfl, rfl, rfl, rfl, rfl, rfl, rfl, rfl, rfl, fun _ _ _ _ => rfl, rfl, rfl, rfl, (Elem.cR_pv _ _), trivial⟩ (by as_aux_lemma => kernel_rfl) (by simp only [List.cons_append, List.nil_append, List.append_nil, rB, rA, fl, mset_row, mset_box, mset_nil, mset_map, List.set_set]; kernel_rfl) (by as_aux_lemma => kernel_rfl) ?_
              refine segs [] tabOk mixed 4000 (S := .br (decide ((x15 : Int) < a2)) (.leaf 0) (.leaf 1)) (by as_aux_lemma => kernel_rfl) ?_
              refine br_ h ?_ ?_ <;> clear h <;> intro c24 h
              · refine sk_leaf ?_
                refine back_ok (p := p2) (by as_aux_lemma => kernel_rfl) (hp2 (n2, ((r22.ran_.length : Nat) : Int), (IntKind.i64.wrap (x15 + 1)), r22.pending_, r22.raises_, r22.ran_) _ h (Nat.lt_succ_self n2) ?_)
                exact sub_ok (ρ := [(0, some 0), (1, some 19329)]) (l := [(a2 : Int) = a2, (0 : Int) = 0, (0 : Int) = 0, 0 = 0, (((r22.ran_.length : Nat) : Int) : Int) = ((r22.ran_.length : Nat) : Int), ((IntKind.i64.wrap (x15 + 1)) : Int) = (IntKind.i64.wrap (x15 + 1)), (r22.pending_ 0) = (r22.pending_ 0), (r22.pending_ 1) = (r22.pending_ 1), (r22.pending_ 2) = (r22.pending_ 2), (r22.pending_ 3) = (r22.pending_ 3), (r22.pending_ 4) = (r22.pending_ 4), (r22.pending_ 5) = (r22.pending_ 5), (r22.pending_ 6) = (r22.pending_ 6), (r22.pending_ 7) = (r22.pending_ 7), r22.raises_.length = r22.raises_.length, ∀ i, i < r22.raises_.length → ∀ j, j < 2 → E99.cf (r22.raises_.getD i E99.z) j = E99.cf (r22.raises_.getD i E99.z) j, 0 = 0, r22.ran_.length = r22.ran_.length, E3.cR r22.ran_ = E3.cR r22.ran_, AllPv (E3.cR r22.ran_)]) (by as_aux_lemma => kernel_rfl) ⟨rfl, rfl, rfl, rfl, rfl, rfl, rfl, rfl, rfl, rfl, rfl, rfl, rfl, rfl, rfl, fun _ _ _ _ => rfl, rfl, rfl, rfl, (Elem.cR_pv _ _), trivial⟩
              · refine sk_leaf ?_
                refine back_ok (p := p2) (by as_aux_lemma => kernel_rfl) (hp2 (n2, x14, (IntKind.i64.wrap (x15 + 1)), r22.pending_, r22.raises_, r22.ran_) _ h (Nat.lt_succ_self n2) ?_)
                exact sub_ok (ρ := [(0, some 0), (1, some 19329)]) (l := [(a2 : Int) = a2, (0 : Int) = 0, (0 : Int) = 0, 0 = 0, (x14 : Int) = x14, ((IntKind.i64.wrap (x15 + 1)) : Int) = (IntKind.i64.wrap (x15 + 1)), (r22.pending_ 0) = (r22.pending_ 0), (r22.pending_ 1) = (r22.pending_ 1), (r22.pending_ 2) = (r22.pending_ 2), (r22.pending_ 3) = (r22.pending_ 3), (r22.pending_ 4) = (r22.pending_ 4), (r22.pending_ 5) = (r22.pending_ 5), (r22.pending_ 6) = (r22.pending_ 6), (r22.pending_ 7) = (r22.pending_ 7), r22.raises_.length = r22.raises_.length, ∀ i, i < r22.raises_.length → ∀ j, j < 2 → E99.cf (r22.raises_.getD i E99.z) j = E99.cf (r22.raises_.getD i E99.z) j, 0 = 0, r22.ran_.length = r22.ran_.length, E3.cR r22.ran_ = E3.cR r22.ran_, AllPv (E3.cR r22.ran_)]) (by as_aux_lemma => kernel_rfl) ⟨rfl, rfl, rfl, rfl, rfl, rfl, rfl, rfl, rfl, rfl, rfl, rfl, rfl, rfl, rfl, fun _ _ _ _ => rfl, rfl, rfl, rfl, (Elem.cR_pv _ _), trivial⟩
            · refine sk_leaf ?_
              obtain rfl := some_ h
              exact end_ok [(0, some 1)] Try.results21 (ps := [0 = 0, l18.length = l18.length, (x14 : Int) = x14, (0 : Int) = 0, E3.cR l18 = E3.cR l18, AllPv (E3.cR l18)]) (by as_aux_lemma => kernel_rfl) ⟨rfl, rfl, rfl, rfl, rfl, (Elem.cR_pv _ _), trivial⟩ (fun _ => ⟨rfl, by simp only [List.mem_cons, List.not_mem_nil, or_false, forall_eq_or_imp, forall_eq]; exact Elem.cR_bald E3_raw _⟩)

set_option maxHeartbeats 40000000 in
set_option maxRecDepth 100000 in
theorem slices_Equal_int_ok (a0 : (List Int)) (a1 : (List Int)) (r : Bool) (h : slices_Equal_int a0 a1 = some r) {al : Bool} : PCalls Try.prog 18 [.pv ((E3.ro a0)), .pv ((E3.ro a1))] al (.pv (.raw (.bool r))) [] := by
  unfold slices_Equal_int at h
  refine fn_ok tabOk Try.func18 (by as_aux_lemma => kernel_rfl) (by as_aux_lemma => kernel_rfl) Try.ntmps18 (by simp) ?_
  refine segs [] tabOk mixed 4000 (S := .br ((((a0.length : Nat) : Int) : Int) != ((a1.length : Nat) : Int)) (.leaf 0) (.leaf 1)) (by as_aux_lemma => kernel_rfl) ?_
  refine br_ h ?_ ?_ <;> clear h <;> intro c1 h
  · refine sk_leaf ?_
    obtain rfl := some_ h
    exact end_ok [] Try.results18 (ps := [false = false]) (by as_aux_lemma => kernel_rfl) ⟨rfl, trivial⟩ (fun _ => ⟨rfl, by simp⟩)
  · refine sk_leaf ?_
    refine len_ro (by as_aux_lemma => kernel_rfl) 0 (s := 1) (n := a0.length) (c := fun i j => E3.cf (a0.getD i E3.z) j) (by as_aux_lemma => kernel_rfl) ?_; intro hl1_0
    refine len_ro (by as_aux_lemma => kernel_rfl) 1 (s := 1) (n := a1.length) (c := fun i j => E3.cf (a1.getD i E3.z) j) (by as_aux_lemma => kernel_rfl) ?_; intro hl1_1
    replace h : (fun (x : Nat × Nat) => slices_Equal_int_l1 a0 a1 x.1 x.2 = some r) (FUEL, 0) := h
    refine loop_ok (by as_aux_lemma => kernel_rfl) (X := Nat × Nat) (fun x => slices_Equal_int_l1 a0 a1 x.1 x.2 = some r) (fun x => x.1) (fun x => mk 26 [(0, .pv ((E3.ro a0))), (1, .pv ((E3.ro a1))), (4, .pv (.raw (.bool false))), (12, .pv (.raw (.int .i64 ((a0.length : Nat) : Int)))), (13, .pv (.raw (.int .i64 ((x.2 : Nat) : Int))))] []) (FUEL, 0) h ?_ ?_
    · exact sub_ok (ρ := []) (l := [a0.length = a0.length, ∀ i, i < a0.length → ∀ j, j < 1 → E3.cf (a0.getD i E3.z) j = E3.cf (a0.getD i E3.z) j, a1.length = a1.length, ∀ i, i < a1.length → ∀ j, j < 1 → E3.cf (a1.getD i E3.z) j = E3.cf (a1.getD i E3.z) j, false = false, (((a0.length : Nat) : Int) : Int) = ((a0.length : Nat) : Int), (0 : Int) = ((0 : Nat) : Int)]) (by as_aux_lemma => kernel_rfl) ⟨rfl, fun _ _ _ _ => rfl, rfl, fun _ _ _ _ => rfl, rfl, rfl, (by first | rfl | simp), trivial⟩
    · clear h; rintro ⟨n1, k2⟩ h p1 hp1
      obtain _ | n1 := n1
      · cases (show (none : Option (Bool)) = some r from h)
      have h : slices_Equal_int_l1 a0 a1 (n1 + 1) k2 = some r := h
      unfold slices_Equal_int_l1 at h
      refine segs [] tabOk mixed 4000 (S := .br (decide ((((k2 : Nat) : Int) : Int) < ((a0.length : Nat) : Int))) (.and (0 ≤ (((k2 : Nat) : Int) : Int) ∧ ((k2 : Nat) : Int) < ((a0.length : Nat) : Int)) (.and (0 ≤ (((k2 : Nat) : Int) : Int) ∧ ((k2 : Nat) : Int) < ((a1.length : Nat) : Int)) (.br (((a0.getD k2 0) : Int) != (a1.getD k2 0)) (.leaf 0) (.leaf 1)))) (.leaf 2)) (by as_aux_lemma => kernel_rfl) ?_
      refine br_ h ?_ ?_ <;> clear h <;> intro c3 h
      · refine sk_and ⟨Int.natCast_nonneg _, of_decide_eq_true c3⟩ ?_
        refine gd_ h ?_; clear h; intro g5 h
        refine br_ h ?_ ?_ <;> clear h <;> intro c6 h
        · refine sk_leaf ?_
          obtain rfl := some_ h
          exact end_ok [] Try.results18 (ps := [false = false]) (by as_aux_lemma => kernel_rfl) ⟨rfl, trivial⟩ (fun _ => ⟨rfl, by simp⟩)
        · refine sk_leaf ?_
          refine back_ok (p := p1) (by as_aux_lemma => kernel_rfl) (hp1 (n1, k2 + 1) _ h (Nat.lt_succ_self n1) ?_)
          exact sub_ok (ρ := []) (l := [a0.length = a0.length, ∀ i, i < a0.length → ∀ j, j < 1 → E3.cf (a0.getD i E3.z) j = E3.cf (a0.getD i E3.z) j, a1.length = a1.length, ∀ i, i < a1.length → ∀ j, j < 1 → E3.cf (a1.getD i E3.z) j = E3.cf (a1.getD i E3.z) j, false = false, (((a0.length : Nat) : Int) : Int) = ((a0.length : Nat) : Int), ((IntKind.i64.wrap (((k2 : Nat) : Int) + 1)) : Int) = (((k2 + 1) : Nat) : Int)]) (by as_aux_lemma => kernel_rfl) ⟨rfl, fun _ _ _ _ => rfl, rfl, fun _ _ _ _ => rfl, rfl, rfl, (wrap_nat (Int.ofNat_lt.1 (of_decide_eq_true c3)) (by omega)), trivial⟩
      · refine sk_leaf ?_
        obtain rfl := some_ h
        exact end_ok [] Try.results18 (ps := [true = true]) (by as_aux_lemma => kernel_rfl) ⟨rfl, trivial⟩ (fun _ => ⟨rfl, by simp⟩)

set_option maxHeartbeats 40000000 in
set_option maxRecDepth 100000 in
theorem keep_alive10_ok (r : Bool) (h : keep_alive10 = some r) {al : Bool} : PCalls Try.prog 20 [] al (.pv (.raw (.bool r))) [] := by
  unfold keep_alive10 at h
  refine fn_ok tabOk Try.func20 (by as_aux_lemma => kernel_rfl) (by as_aux_lemma => kernel_rfl) Try.ntmps20 (by simp) ?_
  refine segs [] tabOk mixed 4000 (S := .leaf 0) (by as_aux_lemma => kernel_rfl) ?_
  refine sk_leaf ?_
  refine bs_ok (d := 5) (e := 3) (s := 1) (n := 2) (cs := [.pv (.raw (.int .i64 5)), .pv (.raw (.int .i64 2))]) (cs' := E3.cR [5, 2]) (by as_aux_lemma => kernel_rfl) rfl (by as_aux_lemma => kernel_rfl) ?_
  refine segs [] tabOk mixed 4000 (S := .leaf 0) (by as_aux_lemma => kernel_rfl) ?_
  refine sk_leaf ?_
  refine bs_ok (d := 9) (e := 99) (s := 2) (n := 3) (cs := [.pv (.raw (.int .i64 1)), .pv (.raw (.int .i64 1)), .pv (.raw (.int .i64 1)), .pv (.raw (.int .i64 5)), .pv (.raw (.int .i64 4)), .pv (.raw (.int .i64 0))]) (cs' := E99.cR [(⟨1, 1⟩ : Api_Raise), (⟨1, 5⟩ : Api_Raise), (⟨4, 0⟩ : Api_Raise)]) (by as_aux_lemma => kernel_rfl) rfl (by as_aux_lemma => kernel_rfl) ?_
  refine segs [] tabOk mixed 4000 (S := .leaf 0) (by as_aux_lemma => kernel_rfl) ?_
  refine sk_leaf ?_
  obtain ⟨r1, e2, h⟩ := bd_ h
  refine call_ok (d := some 10) (fn := 21) (ax := [.row 16704 1 0 2, .row 16960 2 0 3, .pv (.raw (.int .i64 1))]) (args := [.pv ((E3.ro [5, 2])), .pv ((E99.ro [(⟨1, 1⟩ : Api_Raise), (⟨1, 5⟩ : Api_Raise), (⟨4, 0⟩ : Api_Raise)])), .pv (.raw (.int .i64 1))]) (ps := [2 = [5, 2].length, rowQ (E3.cR [5, 2]) 1 0 2 (fun i j => E3.cf ([5, 2].getD i E3.z) j), 3 = [(⟨1, 1⟩ : Api_Raise), (⟨1, 5⟩ : Api_Raise), (⟨4, 0⟩ : Api_Raise)].length, rowQ (E99.cR [(⟨1, 1⟩ : Api_Raise), (⟨1, 5⟩ : Api_Raise), (⟨4, 0⟩ : Api_Raise)]) 2 0 3 (fun i j => E99.cf ([(⟨1, 1⟩ : Api_Raise), (⟨1, 5⟩ : Api_Raise), (⟨4, 0⟩ : Api_Raise)].getD i E99.z) j), (1 : Int) = 1]) (hb' := [.row 3 1 (E3.cR r1.1)]) (by as_aux_lemma => kernel_rfl) (soft_Run_ok _ _ _ _ e2 (al := false)) (by as_aux_lemma => kernel_rfl) ⟨(by first | rfl | exact Elem.sub_len _ (by omega) | omega | simp | (simp <;> omega)), E3.rowQ_all [5, 2] rfl, (by first | rfl | exact Elem.sub_len _ (by omega) | omega | simp | (simp <;> omega)), E99.rowQ_all [(⟨1, 1⟩ : Api_Raise), (⟨1, 5⟩ : Api_Raise), (⟨4, 0⟩ : Api_Raise)] rfl, rfl, trivial⟩ (fun hx => by cases hx) (by simp) (by simp only [List.map_cons, List.map_nil, Elem.row_up, up_map] <;> rfl) (by as_aux_lemma => kernel_rfl) ?_
  refine segs [] tabOk mixed 4000 (S := .leaf 0) (by as_aux_lemma => kernel_rfl) ?_
  refine sk_leaf ?_
  refine bsG_ok (d := 18) (e := 3) (s := 1) (n := 5) (g := ((r1.2.2 : Int) == 0)) (ws := []) (cs := [.pv (.raw (.int .i64 2)), .pv (.raw (.int .i64 5)), .pv (.raw (.int .i64 1)), .pv (.raw (.int .i64 5)), .pv (.raw (.int .i64 0))]) E3 [2, 5, 1, 5, 0] (by as_aux_lemma => kernel_rfl) (fun _ => trivial) rfl rfl rfl (by as_aux_lemma => kernel_rfl) ?_
  refine segs [] tabOk mixed 4000 (S := .leaf 0) (by as_aux_lemma => kernel_rfl) ?_
  refine sk_leaf ?_
  obtain ⟨r3, e4, h⟩ := bd_ h
  refine callG_ok (d := some 19) (fn := 18) (ax := [.row 17024 1 0 r1.1.length, .pv ((E3.ro [2, 5, 1, 5, 0]))]) (args := [.pv ((E3.ro r1.1)), .pv ((E3.ro [2, 5, 1, 5, 0]))]) (g := ((r1.2.2 : Int) == 0)) (ws := [((r1.2.2 : Int) == 0) = true, ((r1.2.2 : Int) == 0) = true]) (ps := [r1.1.length = r1.1.length, rowQ (E3.cR r1.1) 1 0 r1.1.length (fun i j => E3.cf (r1.1.getD i E3.z) j), [2, 5, 1, 5, 0].length = [2, 5, 1, 5, 0].length, ∀ i, i < [2, 5, 1, 5, 0].length → ∀ j, j < 1 → E3.cf ([2, 5, 1, 5, 0].getD i E3.z) j = E3.cf ([2, 5, 1, 5, 0].getD i E3.z) j]) (by as_aux_lemma => kernel_rfl) (fun hg => ⟨((by decide : ∀ y0 : Bool, ((y0 = true) → (y0 = true))) ((r1.2.2 : Int) == 0)) hg, ((by decide : ∀ y0 : Bool, ((y0 = true) → (y0 = true))) ((r1.2.2 : Int) == 0)) hg, trivial⟩) (fun hg => slices_Equal_int_ok _ _ _ (by rw [hg] at e4; exact e4) (al := false)) (by as_aux_lemma => kernel_rfl) (fun hg => ⟨(by first | rfl | exact Elem.sub_len _ (by omega) | omega | simp | (simp <;> omega)), E3.rowQ_all r1.1 rfl, rfl, fun _ _ _ _ => rfl, trivial⟩) (fun hx => by cases hx) ?_
  refine segs [] tabOk mixed 4000 (S := .and (((r1.2.2 : Int) == 0) = true → ((r1.2.2 : Int) == 0) = true) (.and (((((r1.2.2 : Int) == 0) && r3) = true → ((((r1.2.2 : Int) == 0) && r3) = true))) (.and ((((r1.2.2 : Int) == 0) && r3) = true → (((r1.2.2 : Int) == 0) && r3) = true) (.leaf 0)))) (by as_aux_lemma => kernel_rfl) ?_
  refine sk_and ((by decide : ∀ y0 : Bool, ((y0 = true) → (y0 = true))) ((r1.2.2 : Int) == 0)) ?_
  refine sk_and ((by decide : ∀ y0 : Bool, ((y0 = true) → (y0 = true))) (((r1.2.2 : Int) == 0) && r3)) ?_
  refine sk_and ((by decide : ∀ y0 : Bool, ((y0 = true) → (y0 = true))) (((r1.2.2 : Int) == 0) && r3)) ?_
  refine sk_leaf ?_
  obtain rfl := some_ h
  exact end_ok [] Try.results20 (ps := [((((r1.2.2 : Int) == 0) && r3) && ((r1.2.1 : Int) == 2)) = ((((r1.2.2 : Int) == 0) && r3) && ((r1.2.1 : Int) == 2))]) (by as_aux_lemma => kernel_rfl) ⟨rfl, trivial⟩ (fun _ => ⟨rfl, by simp⟩)

theorem slices_Values_int_ok (a0 : List Int) (r : Unit) (h : slices_Values_int a0 = some r) : PCalls Try.prog 24 [.pv (E3.ro a0)] true (.fn 49 [.roat 1 (fun j => E25.cf a0 j)]) [] :=
  values_pcalls ⟨_, Try.func24, by kernel_rfl, by kernel_rfl⟩ rfl (fun a n cap w => Try.values_calls a n cap w)

theorem slices_Sorted_int_ok (a0 r : List Int) (h : slices_Sorted_int a0 = some r) {al : Bool} : PCalls Try.prog 23 [.fn 49 [.roat 1 (fun j => E25.cf a0 j)]] al (.row 0 1 0 r.length) [.row 3 1 (E3.cR r)] := by
  unfold slices_Sorted_int at h
  obtain ⟨g, h⟩ := if_ h
  obtain rfl := some_ h
  exact sortv_pcalls (e := 3) (xs := a0) ⟨_, Try.func23, by kernel_rfl, by kernel_rfl⟩ rfl (fun _ => rfl) rfl (by simp) fun gg o b off cap a w _ hgl hbl ha hp hc => Try.sorted_calls gg o b off cap a0 g w hgl hbl a ha hp hc

set_option maxHeartbeats 40000000 in
set_option maxRecDepth 100000 in
theorem slices_Compact_int_h0_ok (a0 : (List Int)) (r : (List Int)) (h : slices_Compact_int_h0 a0 = some r) {al : Bool} : MCalls Try.prog 22 [.row 0 1 0 a0.length] [.row 3 1 (E3.cR a0)] 0 al (.row 0 1 0 r.length) [.row 3 1 (E3.cR r)] := by
  unfold slices_Compact_int_h0 at h
  refine fnM_ok tabOk (fz := []) Try.func22 (by as_aux_lemma => kernel_rfl) (by as_aux_lemma => kernel_rfl) Try.ntmps22 (by simp) (by first | (simp; done) | exact Nat.le_of_ble_eq_true rfl) ?_
  refine segs [] tabOk mixed 4000 (S := .br (decide ((((a0.length : Nat) : Int) : Int) < 2)) (.leaf 0) (.leaf 1)) (by as_aux_lemma => kernel_rfl) ?_
  refine br_ h ?_ ?_ <;> clear h <;> intro c1 h
  · refine sk_leaf ?_
    obtain rfl := some_ h
    exact endM_ok [(0, some 0)] Try.results22 (ps := [0 = 0, a0.length = a0.length, E3.cR a0 = E3.cR a0, AllPv (E3.cR a0)]) (by as_aux_lemma => kernel_rfl) ⟨rfl, rfl, rfl, (Elem.cR_pv _ _), trivial⟩ (fun _ => ⟨rfl, by simp only [List.mem_cons, List.not_mem_nil, or_false, forall_eq_or_imp, forall_eq]; exact Elem.cR_bald E3_raw _⟩)
  · refine sk_leaf ?_
    refine len_row (by as_aux_lemma => kernel_rfl) 0 (e := 3) (s := 1) (n := a0.length) (cs := E3.cR a0) (by as_aux_lemma => kernel_rfl) (Elem.cR_length _ _) ?_; intro hl1_0
    replace h : (fun (x : Nat × Int) => slices_Compact_int_h0_l1 a0 x.1 x.2 = some r) (FUEL, 1) := h
    refine loop_ok (by as_aux_lemma => kernel_rfl) (X := Nat × Int) (fun x => slices_Compact_int_h0_l1 a0 x.1 x.2 = some r) (fun x => x.1) (fun x => mk 61 [(0, .row 0 1 0 a0.length), (2, .pv (.raw (.slice none 0 0))), (3, .pv (.raw (.int .i64 x.2)))] [(0, .row 3 1 (E3.cR a0))]) (FUEL, 1) h ?_ ?_
    · exact sub_ok (ρ := [(0, some 0)]) (l := [0 = 0, a0.length = a0.length, (1 : Int) = 1, E3.cR a0 = E3.cR a0, AllPv (E3.cR a0)]) (by as_aux_lemma => kernel_rfl) ⟨rfl, rfl, rfl, rfl, (Elem.cR_pv _ _), trivial⟩
    · clear h; rintro ⟨n1, x2⟩ h p1 hp1
      obtain _ | n1 := n1
      · cases (show (none : Option ((List Int))) = some r from h)
      have h : slices_Compact_int_h0_l1 a0 (n1 + 1) x2 = some r := h
      unfold slices_Compact_int_h0_l1 at h
      refine segs [] tabOk mixed 4000 (S := .br (decide ((x2 : Int) < ((a0.length : Nat) : Int))) (.and (0 ≤ (x2 : Int) ∧ x2 < ((a0.length : Nat) : Int)) (.leaf 0)) (.leaf 1)) (by as_aux_lemma => kernel_rfl) ?_
      refine br_ h ?_ ?_ <;> clear h <;> intro c3 h
      · refine gd_ h ?_; clear h; intro g4 h
        refine sk_leaf ?_
        refine ld_ok (d := 19) (id := 0) (i := (0 + (Int.toNat x2))) (j := 0) (e := 3) (n := 1) E3 (xs := a0) (by as_aux_lemma => kernel_rfl) (by as_aux_lemma => kernel_rfl) (by first | omega | (simp at * <;> omega) | (simp_all <;> omega)) (by exact Nat.le_of_ble_eq_true rfl) ?_
        refine segs [] tabOk mixed 4000 (S := .and (0 ≤ ((IntKind.i64.wrap (x2 - 1)) : Int) ∧ (IntKind.i64.wrap (x2 - 1)) < ((a0.length : Nat) : Int)) (.leaf 0)) (by as_aux_lemma => kernel_rfl) ?_
        refine gd_ h ?_; clear h; intro g5 h
        refine sk_leaf ?_
        refine ld_ok (d := 24) (id := 0) (i := (0 + (Int.toNat (IntKind.i64.wrap (x2 - 1))))) (j := 0) (e := 3) (n := 1) E3 (xs := a0) (by as_aux_lemma => kernel_rfl) (by as_aux_lemma => kernel_rfl) (by first | omega | (simp at * <;> omega) | (simp_all <;> omega)) (by exact Nat.le_of_ble_eq_true rfl) ?_
        refine segs [] tabOk mixed 4000 (S := .br (((a0.getD (0 + (Int.toNat x2)) 0) : Int) == (a0.getD (0 + (Int.toNat (IntKind.i64.wrap (x2 - 1)))) 0)) (.and (0 ≤ (x2 : Int)) (.and ((Int.toNat x2) ≤ a0.length) (.leaf 0))) (.leaf 1)) (by as_aux_lemma => kernel_rfl) ?_
        refine br_ h ?_ ?_ <;> clear h <;> intro c6 h
        · refine gd_ h ?_; clear h; intro g7 h
          refine gd_ h ?_; clear h; intro g8 h
          refine sk_leaf ?_
          refine len_row (by as_aux_lemma => kernel_rfl) 0 (e := 3) (s := 1) (n := a0.length) (cs := E3.cR a0) (by as_aux_lemma => kernel_rfl) (Elem.cR_length _ _) ?_; intro hl2_0
          obtain ⟨K2_0, hK2_0, h⟩ : ∃ (K2_0 : Int → Int → (List Int) → Option ((List Int))), K2_0 = (fun (x9 : Int) (x10 : Int) (l11 : List Int) => if 0 ≤ (x9 : Int) then if (Int.toNat x9) ≤ l11.length then if (0 + (Int.toNat x9)) + (l11.length - (Int.toNat x9)) ≤ l11.length then if 0 ≤ (x9 : Int) then if (Int.toNat x9) ≤ l11.length then some (((cpL l11 (0 + (Int.toNat x9)) (l11.length - (Int.toNat x9)) (List.replicate (l11.length - (Int.toNat x9)) (0 : Int))).drop (0 + 0)).take ((Int.toNat x9) - 0)) else none else none else none else none else none ) ∧ slices_Compact_int_h0_l2 a0 x2 K2_0 FUEL x2 1 a0 = some r := ⟨_, rfl, h⟩
          replace h : (fun (x : Nat × Int × Int × List Int) => slices_Compact_int_h0_l2 a0 x2 K2_0 x.1 x.2.1 x.2.2.1 x.2.2.2 = some r) (FUEL, x2, 1, a0) := h
          refine loop_ok (by as_aux_lemma => kernel_rfl) (X := Nat × Int × Int × List Int) (fun x => slices_Compact_int_h0_l2 a0 x2 K2_0 x.1 x.2.1 x.2.2.1 x.2.2.2 = some r) (fun x => x.1) (fun x => mk 61 [(0, .row 0 1 0 x.2.2.2.length), (2, .pv (.raw (.slice none 0 0))), (3, .pv (.raw (.int .i64 x.2.1))), (4, .row 0 1 (0 + (Int.toNat x2)) (a0.length - (Int.toNat x2))), (5, .pv (.raw (.int .i64 x.2.2.1)))] [(0, .row 3 1 (E3.cR x.2.2.2))]) (FUEL, x2, 1, a0) h ?_ ?_
          · exact sub_ok (ρ := [(0, some 0)]) (l := [0 = 0, a0.length = a0.length, (x2 : Int) = x2, (0 + (Int.toNat x2)) = (0 + (Int.toNat x2)), (a0.length - (Int.toNat x2)) = (a0.length - (Int.toNat x2)), (1 : Int) = 1, E3.cR a0 = E3.cR a0, AllPv (E3.cR a0)]) (by as_aux_lemma => kernel_rfl) ⟨rfl, rfl, rfl, rfl, rfl, rfl, rfl, (Elem.cR_pv _ _), trivial⟩
          · clear h; rintro ⟨n2, x9, x10, l11⟩ h p2 hp2
            obtain _ | n2 := n2
            · cases (show (none : Option ((List Int))) = some r from h)
            have h : slices_Compact_int_h0_l2 a0 x2 K2_0 (n2 + 1) x9 x10 l11 = some r := h
            unfold slices_Compact_int_h0_l2 at h
            refine segs [] tabOk mixed 4000 (S := .br (decide ((x10 : Int) < (((a0.length - (Int.toNat x2)) : Nat) : Int))) (.and (0 ≤ (x10 : Int) ∧ x10 < (((a0.length - (Int.toNat x2)) : Nat) : Int)) (.leaf 0)) (.and (0 ≤ (x9 : Int)) (.and ((Int.toNat x9) ≤ l11.length) (.leaf 1)))) (by as_aux_lemma => kernel_rfl) ?_
            refine br_ h ?_ ?_ <;> clear h <;> intro c12 h
            · refine gd_ h ?_; clear h; intro g13 h
              refine sk_leaf ?_
              obtain ⟨g14, h⟩ := if_ h
              refine ld_ok (d := 38) (id := 0) (i := ((0 + (Int.toNat x2)) + (Int.toNat x10))) (j := 0) (e := 3) (n := 1) E3 (xs := l11) (by as_aux_lemma => kernel_rfl) (by as_aux_lemma => kernel_rfl) g14 (by exact Nat.le_of_ble_eq_true rfl) ?_
              refine segs [] tabOk mixed 4000 (S := .and (0 ≤ ((IntKind.i64.wrap (x10 - 1)) : Int) ∧ (IntKind.i64.wrap (x10 - 1)) < (((a0.length - (Int.toNat x2)) : Nat) : Int)) (.leaf 0)) (by as_aux_lemma => kernel_rfl) ?_
              refine gd_ h ?_; clear h; intro g15 h
              refine sk_leaf ?_
              obtain ⟨g16, h⟩ := if_ h
              refine ld_ok (d := 43) (id := 0) (i := ((0 + (Int.toNat x2)) + (Int.toNat (IntKind.i64.wrap (x10 - 1))))) (j := 0) (e := 3) (n := 1) E3 (xs := l11) (by as_aux_lemma => kernel_rfl) (by as_aux_lemma => kernel_rfl) g16 (by exact Nat.le_of_ble_eq_true rfl) ?_
              refine segs [] tabOk mixed 4000 (S := .br (((l11.getD ((0 + (Int.toNat x2)) + (Int.toNat x10)) 0) : Int) != (l11.getD ((0 + (Int.toNat x2)) + (Int.toNat (IntKind.i64.wrap (x10 - 1)))) 0)) (.and (0 ≤ (x10 : Int) ∧ x10 < (((a0.length - (Int.toNat x2)) : Nat) : Int)) (.leaf 0)) (.leaf 1)) (by as_aux_lemma => kernel_rfl) ?_
              refine br_ h ?_ ?_ <;> clear h <;> intro c17 h
              · refine gd_ h ?_; clear h; intro g18 h
                refine sk_leaf ?_
                obtain ⟨g19, h⟩ := if_ h
                refine ld_ok (d := 50) (id := 0) (i := ((0 + (Int.toNat x2)) + (Int.toNat x10))) (j := 0) (e := 3) (n := 1) E3 (xs := l11) (by as_aux_lemma => kernel_rfl) (by as_aux_lemma => kernel_rfl) g19 (by exact Nat.le_of_ble_eq_true rfl) ?_
                refine segs [] tabOk mixed 4000 (S := .and (0 ≤ (x9 : Int) ∧ x9 < ((l11.length : Nat) : Int)) (.leaf 0)) (by as_aux_lemma => kernel_rfl) ?_
                refine gd_ h ?_; clear h; intro g20 h
                refine sk_leaf ?_
                refine st_ok (id := 0) (i := (0 + (Int.toNat x9))) (j := 0) (e := 3) (vs := [.pv (.raw (.int .i64 (l11.getD ((0 + (Int.toNat x2)) + (Int.toNat x10)) 0)))]) E3 (xs := l11) (l11.getD ((0 + (Int.toNat x2)) + (Int.toNat x10)) 0) (by as_aux_lemma => kernel_rfl) (by as_aux_lemma => kernel_rfl) (by first | omega | (simp at * <;> omega) | (simp_all <;> omega)) (by exact Nat.le_of_ble_eq_true rfl) rfl ?_
                refine segs [] tabOk mixed 4000 (S := .leaf 0) (by as_aux_lemma => kernel_rfl) ?_
                refine sk_leaf ?_
                refine back_ok (p := p2) (by as_aux_lemma => kernel_rfl) (hp2 (n2, (IntKind.i64.wrap (x9 + 1)), (IntKind.i64.wrap (x10 + 1)), (l11.set (0 + (Int.toNat x9)) (l11.getD ((0 + (Int.toNat x2)) + (Int.toNat x10)) 0))) _ h (Nat.lt_succ_self n2) ?_)
                exact sub_ok (ρ := [(0, some 0)]) (l := [0 = 0, l11.length = ((l11.set (0 + (Int.toNat x9)) (l11.getD ((0 + (Int.toNat x2)) + (Int.toNat x10)) 0)).length), ((IntKind.i64.wrap (x9 + 1)) : Int) = (IntKind.i64.wrap (x9 + 1)), (0 + (Int.toNat x2)) = (0 + (Int.toNat x2)), (a0.length - (Int.toNat x2)) = (a0.length - (Int.toNat x2)), ((IntKind.i64.wrap (x10 + 1)) : Int) = (IntKind.i64.wrap (x10 + 1)), E3.cR (l11.set (0 + (Int.toNat x9)) (l11.getD ((0 + (Int.toNat x2)) + (Int.toNat x10)) 0)) = E3.cR (l11.set (0 + (Int.toNat x9)) (l11.getD ((0 + (Int.toNat x2)) + (Int.toNat x10)) 0)), AllPv (E3.cR (l11.set (0 + (Int.toNat x9)) (l11.getD ((0 + (Int.toNat x2)) + (Int.toNat x10)) 0)))]) (by as_aux_lemma => kernel_rfl) ⟨rfl, (by first | rfl | (simp; done) | omega | (simp <;> omega)), rfl, rfl, rfl, rfl, rfl, (Elem.cR_pv _ _), trivial⟩
              · refine sk_leaf ?_
                refine back_ok (p := p2) (by as_aux_lemma => kernel_rfl) (hp2 (n2, x9, (IntKind.i64.wrap (x10 + 1)), l11) _ h (Nat.lt_succ_self n2) ?_)
                exact sub_ok (ρ := [(0, some 0)]) (l := [0 = 0, l11.length = l11.length, (x9 : Int) = x9, (0 + (Int.toNat x2)) = (0 + (Int.toNat x2)), (a0.length - (Int.toNat x2)) = (a0.length - (Int.toNat x2)), ((IntKind.i64.wrap (x10 + 1)) : Int) = (IntKind.i64.wrap (x10 + 1)), E3.cR l11 = E3.cR l11, AllPv (E3.cR l11)]) (by as_aux_lemma => kernel_rfl) ⟨rfl, rfl, rfl, rfl, rfl, rfl, rfl, (Elem.cR_pv _ _), trivial⟩
            · replace h := (congrFun (congrFun (congrFun hK2_0 x9) x10) l11).symm.trans h
              refine gd_ h ?_; clear h; intro g21 h
              refine gd_ h ?_; clear h; intro g22 h
              refine sk_leaf ?_
              obtain ⟨g23, h⟩ := if_ h
              refine cl_ok (s := 1) (id := 0) (e := 3) (off := (0 + (Int.toNat x9))) (len := (l11.length - (Int.toNat x9))) E3 (xs := l11) (by as_aux_lemma => kernel_rfl) rfl rfl (by as_aux_lemma => kernel_rfl) g23 ?_
              refine segs [] tabOk mixed 4000 (S := .and (0 ≤ (x9 : Int)) (.and ((Int.toNat x9) ≤ l11.length) (.leaf 0))) (by as_aux_lemma => kernel_rfl) ?_
              refine gd_ h ?_; clear h; intro g24 h
              refine gd_ h ?_; clear h; intro g25 h
              refine sk_leaf ?_
              obtain rfl := some_ h
              exact endR_ok E3 (xs := (cpL l11 (0 + (Int.toNat x9)) (l11.length - (Int.toNat x9)) (List.replicate (l11.length - (Int.toNat x9)) (0 : Int)))) 0 (0 + 0) 20288 ((Int.toNat x9) - 0) 3 1 rfl (by as_aux_lemma => kernel_rfl) (by first | omega | (simp at * <;> omega) | (simp_all <;> omega)) (by as_aux_lemma => kernel_rfl) [(0, some 20288)] Try.results22 (ps := [0 = 0, ((Int.toNat x9) - 0) = (((cpL l11 (0 + (Int.toNat x9)) (l11.length - (Int.toNat x9)) (List.replicate (l11.length - (Int.toNat x9)) (0 : Int))).drop (0 + 0)).take ((Int.toNat x9) - 0)).length, E3.cR (((cpL l11 (0 + (Int.toNat x9)) (l11.length - (Int.toNat x9)) (List.replicate (l11.length - (Int.toNat x9)) (0 : Int))).drop (0 + 0)).take ((Int.toNat x9) - 0)) = E3.cR (((cpL l11 (0 + (Int.toNat x9)) (l11.length - (Int.toNat x9)) (List.replicate (l11.length - (Int.toNat x9)) (0 : Int))).drop (0 + 0)).take ((Int.toNat x9) - 0)), AllPv (E3.cR (((cpL l11 (0 + (Int.toNat x9)) (l11.length - (Int.toNat x9)) (List.replicate (l11.length - (Int.toNat x9)) (0 : Int))).drop (0 + 0)).take ((Int.toNat x9) - 0)))]) (by as_aux_lemma => kernel_rfl) ⟨rfl, (by first | omega | (simp; done) | (simp <;> omega) | (simp at * <;> omega)), rfl, (Elem.cR_pv _ _), trivial⟩ (fun _ => ⟨rfl, by simp only [List.mem_cons, List.not_mem_nil, or_false, forall_eq_or_imp, forall_eq]; exact Elem.cR_bald E3_raw _⟩)
        · refine sk_leaf ?_
          refine back_ok (p := p1) (by as_aux_lemma => kernel_rfl) (hp1 (n1, (IntKind.i64.wrap (x2 + 1))) _ h (Nat.lt_succ_self n1) ?_)
          exact sub_ok (ρ := [(0, some 0)]) (l := [0 = 0, a0.length = a0.length, ((IntKind.i64.wrap (x2 + 1)) : Int) = (IntKind.i64.wrap (x2 + 1)), E3.cR a0 = E3.cR a0, AllPv (E3.cR a0)]) (by as_aux_lemma => kernel_rfl) ⟨rfl, rfl, rfl, rfl, (Elem.cR_pv _ _), trivial⟩
      · refine sk_leaf ?_
        obtain rfl := some_ h
        exact endM_ok [(0, some 0)] Try.results22 (ps := [0 = 0, a0.length = a0.length, E3.cR a0 = E3.cR a0, AllPv (E3.cR a0)]) (by as_aux_lemma => kernel_rfl) ⟨rfl, rfl, rfl, (Elem.cR_pv _ _), trivial⟩ (fun _ => ⟨rfl, by simp only [List.mem_cons, List.not_mem_nil, or_false, forall_eq_or_imp, forall_eq]; exact Elem.cR_bald E3_raw _⟩)

set_option maxHeartbeats 40000000 in
set_option maxRecDepth 100000 in
theorem keep_SoftQuiet_ok (a0 : (List Int)) (a1 : Int) (r : Bool) (h : keep_SoftQuiet a0 a1 = some r) {al : Bool} : PCalls Try.prog 6 [.pv ((E3.ro a0)), .pv (.raw (.int .i64 a1))] al (.pv (.raw (.bool r))) [] := by
  unfold keep_SoftQuiet at h
  refine fnZ_ok tabOk [22] Try.func6 (by as_aux_lemma => kernel_rfl) (by as_aux_lemma => kernel_rfl) Try.ntmps6 (by simp) ?_
  refine segs [] tabOk mixed 4000 (S := .leaf 0) (by as_aux_lemma => kernel_rfl) ?_
  refine sk_leaf ?_
  obtain ⟨r1, e2, h⟩ := bd_ h
  refine call_ok (d := some 9) (fn := 20) (ax := []) (args := []) (ps := []) (hb' := []) (by as_aux_lemma => kernel_rfl) (keep_alive10_ok  _ e2 (al := true)) (by as_aux_lemma => kernel_rfl) trivial (fun _ => (by as_aux_lemma => kernel_rfl)) (by simp) rfl (by as_aux_lemma => kernel_rfl) ?_
  refine segs [] tabOk mixed 4000 (S := .br (!r1) (.leaf 0) (.leaf 1)) (by as_aux_lemma => kernel_rfl) ?_
  refine br_ h ?_ ?_ <;> clear h <;> intro c3 h
  · refine sk_leaf ?_
    obtain rfl := some_ h
    exact end_ok [] Try.results6 (ps := [false = false]) (by as_aux_lemma => kernel_rfl) ⟨rfl, trivial⟩ (fun _ => ⟨rfl, by simp⟩)
  · refine sk_leaf ?_
    obtain ⟨r4, e5, h⟩ := bd_ h
    refine call_ok (d := some 14) (fn := 21) (ax := [.pv ((E3.ro a0)), .pv (.raw (.slice none 0 0)), .pv (.raw (.int .i64 a1))]) (args := [.pv ((E3.ro a0)), .pv ((E99.ro ([] : List Api_Raise))), .pv (.raw (.int .i64 a1))]) (ps := [a0.length = a0.length, ∀ i, i < a0.length → ∀ j, j < 1 → E3.cf (a0.getD i E3.z) j = E3.cf (a0.getD i E3.z) j, ([] : List Api_Raise).length = 0, (a1 : Int) = a1]) (hb' := [.row 3 1 (E3.cR r4.1)]) (by as_aux_lemma => kernel_rfl) (soft_Run_ok _ _ _ _ e5 (al := true)) (by as_aux_lemma => kernel_rfl) ⟨rfl, fun _ _ _ _ => rfl, rfl, rfl, trivial⟩ (fun _ => (by as_aux_lemma => kernel_rfl)) (by simp) (by simp only [List.map_cons, List.map_nil, Elem.row_up, up_map] <;> rfl) (by as_aux_lemma => kernel_rfl) ?_
    refine segs [] tabOk mixed 4000 (S := .br ((r4.2.2 : Int) != 0) (.leaf 0) (.leaf 1)) (by as_aux_lemma => kernel_rfl) ?_
    refine br_ h ?_ ?_ <;> clear h <;> intro c6 h
    · refine sk_leaf ?_
      obtain rfl := some_ h
      exact end_ok [] Try.results6 (ps := [true = true]) (by as_aux_lemma => kernel_rfl) ⟨rfl, trivial⟩ (fun _ => ⟨rfl, by simp⟩)
    · refine sk_leaf ?_
      obtain ⟨r7, e8, h⟩ := bd_ h
      refine call_ok (d := some 21) (fn := 24) (ax := [.pv ((E3.ro a0))]) (args := [.pv ((E3.ro a0))]) (ps := [a0.length = a0.length, ∀ i, i < a0.length → ∀ j, j < 1 → E3.cf (a0.getD i E3.z) j = E3.cf (a0.getD i E3.z) j]) (hb' := []) (by as_aux_lemma => kernel_rfl) (slices_Values_int_ok _ _ e8) (by as_aux_lemma => kernel_rfl) ⟨rfl, fun _ _ _ _ => rfl, trivial⟩ (fun _ => (by as_aux_lemma => kernel_rfl)) (by simp) rfl (by as_aux_lemma => kernel_rfl) ?_
      refine segs [] tabOk mixed 4000 (S := .leaf 0) (by as_aux_lemma => kernel_rfl) ?_
      refine sk_leaf ?_
      obtain ⟨r9, e10, h⟩ := bd_ h
      refine call_ok (d := some 22) (fn := 23) (ax := [.fn 49 [.roat 1 (fun j => E25.cf a0 j)]]) (args := [.fn 49 [.roat 1 (fun j => E25.cf a0 j)]]) (ps := [a0.length = a0.length, ∀ i, i < a0.length → ∀ j, j < 1 → E3.cf (a0.getD i E3.z) j = E3.cf (a0.getD i E3.z) j]) (hb' := [.row 3 1 (E3.cR r9)]) (by as_aux_lemma => kernel_rfl) (slices_Sorted_int_ok _ _ e10 (al := false)) (by as_aux_lemma => kernel_rfl) ⟨rfl, fun _ _ _ _ => rfl, trivial⟩ (fun hx => by cases hx) (by simp) (by simp only [List.map_cons, List.map_nil, Elem.row_up, up_map] <;> rfl) (by as_aux_lemma => kernel_rfl) ?_
      refine segs [] tabOk mixed 4000 (S := .leaf 0) (by as_aux_lemma => kernel_rfl) ?_
      refine sk_leaf ?_
      obtain ⟨r11, e12, h⟩ := bd_ h
      refine mcall_ok (d := some 23) (fn := 22) (ax := [.row 17792 1 0 r9.length]) (hs := [(17856, .row 3 1 (E3.cR r11))]) (del := [17792]) (ps := [0 = 0, r9.length = r9.length, E3.cR r9 = E3.cR r9, AllPv (E3.cR r9)]) [(0, some 17792)] (by as_aux_lemma => kernel_rfl) (slices_Compact_int_h0_ok _ _ e12 (al := true)) (by as_aux_lemma => kernel_rfl) ⟨rfl, rfl, rfl, (Elem.cR_pv _ _), trivial⟩ (by as_aux_lemma => kernel_rfl) (by simp only [List.cons_append, List.nil_append, List.append_nil, rB, rA, fl, mset_row, mset_box, mset_nil, mset_map, List.set_set]; kernel_rfl) (by as_aux_lemma => kernel_rfl) ?_
      refine segs [] tabOk mixed 4000 (S := .leaf 0) (by as_aux_lemma => kernel_rfl) ?_
      refine sk_leaf ?_
      obtain ⟨r13, e14, h⟩ := bd_ h
      refine call_ok (d := some 26) (fn := 18) (ax := [.row 17280 1 0 r4.1.length, .row 17856 1 0 r11.length]) (args := [.pv ((E3.ro r4.1)), .pv ((E3.ro r11))]) (ps := [r4.1.length = r4.1.length, rowQ (E3.cR r4.1) 1 0 r4.1.length (fun i j => E3.cf (r4.1.getD i E3.z) j), r11.length = r11.length, rowQ (E3.cR r11) 1 0 r11.length (fun i j => E3.cf (r11.getD i E3.z) j)]) (hb' := []) (by as_aux_lemma => kernel_rfl) (slices_Equal_int_ok _ _ _ e14 (al := false)) (by as_aux_lemma => kernel_rfl) ⟨(by first | rfl | exact Elem.sub_len _ (by omega) | omega | simp | (simp <;> omega)), E3.rowQ_all r4.1 rfl, (by first | rfl | exact Elem.sub_len _ (by omega) | omega | simp | (simp <;> omega)), E3.rowQ_all r11 rfl, trivial⟩ (fun hx => by cases hx) (by simp) rfl (by as_aux_lemma => kernel_rfl) ?_
      refine segs [] tabOk mixed 4000 (S := .and ((r13 = true → (r13 = true))) (.and ((r13 = true → (r13 = true))) (.and ((r13 = true → (r13 = true))) (.and ((r13 = true → (r13 = true))) (.and (((r13 && !((r4.2.1 : Int) == ((r11.length : Nat) : Int))) = true → ((r13 && !((r4.2.1 : Int) == ((r11.length : Nat) : Int))) = true))) (.and (((r13 && !((r4.2.1 : Int) == ((r11.length : Nat) : Int))) = true → ((r13 && !((r4.2.1 : Int) == ((r11.length : Nat) : Int))) = true))) (.and ((((r13 && !((r4.2.1 : Int) == ((r11.length : Nat) : Int))) && ((a1 : Int) == 0)) = true → (((r13 && !((r4.2.1 : Int) == ((r11.length : Nat) : Int))) && ((a1 : Int) == 0)) = true))) (.and (((r13 && !((r4.2.1 : Int) == ((r11.length : Nat) : Int))) = true → ((r13 && !((r4.2.1 : Int) == ((r11.length : Nat) : Int))) = true))) (.and (((r13 && !((r4.2.1 : Int) == ((r11.length : Nat) : Int))) = true → (((a1 : Int) == 0) = true → ((r13 && !((r4.2.1 : Int) == ((r11.length : Nat) : Int))) && ((a1 : Int) == 0)) = true))) (.and ((r13 = true → (r13 = true))) (.and ((r13 = true → (((r4.2.1 : Int) == ((r11.length : Nat) : Int)) = false → (r13 && !((r4.2.1 : Int) == ((r11.length : Nat) : Int))) = true))) (.and (r13 = true → r13 = true) (.leaf 0))))))))))))) (by as_aux_lemma => kernel_rfl) ?_
      refine sk_and ((by decide : ∀ y0 : Bool, ((y0 = true) → (y0 = true))) r13) ?_
      refine sk_and ((by decide : ∀ y0 : Bool, ((y0 = true) → (y0 = true))) r13) ?_
      refine sk_and ((by decide : ∀ y0 : Bool, ((y0 = true) → (y0 = true))) r13) ?_
      refine sk_and ((by decide : ∀ y0 : Bool, ((y0 = true) → (y0 = true))) r13) ?_
      refine sk_and ((by decide : ∀ y0 : Bool, ((y0 = true) → (y0 = true))) (r13 && !((r4.2.1 : Int) == ((r11.length : Nat) : Int)))) ?_
      refine sk_and ((by decide : ∀ y0 : Bool, ((y0 = true) → (y0 = true))) (r13 && !((r4.2.1 : Int) == ((r11.length : Nat) : Int)))) ?_
      refine sk_and ((by decide : ∀ y0 : Bool, ((y0 = true) → (y0 = true))) ((r13 && !((r4.2.1 : Int) == ((r11.length : Nat) : Int))) && ((a1 : Int) == 0))) ?_
      refine sk_and ((by decide : ∀ y0 : Bool, ((y0 = true) → (y0 = true))) (r13 && !((r4.2.1 : Int) == ((r11.length : Nat) : Int)))) ?_
      refine sk_and ((by decide : ∀ y0 y1 : Bool, ((y0 = true) → ((y1 = true) → ((y0 && y1) = true)))) (r13 && !((r4.2.1 : Int) == ((r11.length : Nat) : Int))) ((a1 : Int) == 0)) ?_
      refine sk_and ((by decide : ∀ y0 : Bool, ((y0 = true) → (y0 = true))) r13) ?_
      refine sk_and ((by decide : ∀ y0 y1 : Bool, ((y0 = true) → ((y1 = false) → ((y0 && (!y1)) = true)))) r13 ((r4.2.1 : Int) == ((r11.length : Nat) : Int))) ?_
      refine sk_and ((by decide : ∀ y0 : Bool, ((y0 = true) → (y0 = true))) r13) ?_
      refine sk_leaf ?_
      obtain rfl := some_ h
      exact end_ok [] Try.results6 (ps := [(r13 && (((r4.2.1 : Int) == ((r11.length : Nat) : Int)) || (((a1 : Int) == 0) && ((r4.2.1 : Int) == 0)))) = (r13 && (((r4.2.1 : Int) == ((r11.length : Nat) : Int)) || (((a1 : Int) == 0) && ((r4.2.1 : Int) == 0))))]) (by as_aux_lemma => kernel_rfl) ⟨rfl, trivial⟩ (fun _ => ⟨rfl, by simp⟩)

end Go.Proofs.Ytdfgmloipigmfaa
