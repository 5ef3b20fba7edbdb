/- The functions do as their models: printed by program. -/
import Derived.Test.YtegafdnfcijemaaQ1T
import Derived.Test.YtegafdnfcijemaaQ1M
import Derived.Test.YtegafdnfcijemaaAbY
set_option linter.unusedSimpArgs false
set_option linter.unusedVariables false
namespace Go.Proofs.Ytegafdnfcijemaa
open Go Go.Ab
theorem mixed : Try.prog.follows .mixedOrders = true := by kernel_rfl
def E3 : Elem Int := { s := 1, cf := fun x j => match j with | _ => .raw (.int .i64 x), z := 0 }
theorem E3_raw : E3.Raw := by
  intro x j
  exact ⟨_, rfl⟩
def E26 : Elem (List Int) := { s := 2, cf := fun x j => match j with | 0 => .raw (.int .i64 (x.getD 0 0)) | _ => .raw (.int .i64 (x.getD 1 0)), z := [0, 0] }
theorem E26_raw : E26.Raw := by
  intro x j
  match j with
  | 0 => exact ⟨_, rfl⟩
  | n + 1 => exact ⟨_, rfl⟩
def E28 : Elem Int := { s := 1, cf := fun x j => match j with | _ => .raw (.int .i64 x), z := 0 }
theorem E28_raw : E28.Raw := by
  intro x j
  exact ⟨_, rfl⟩
def E67 : Elem Api_Frame := { s := 2, cf := fun x j => match j with | 0 => .raw (.bool x.On) | _ => .raw (.bool x.Irq), z := (⟨false, false⟩ : Api_Frame) }
theorem E67_raw : E67.Raw := by
  intro x j
  match j with
  | 0 => exact ⟨_, rfl⟩
  | n + 1 => exact ⟨_, rfl⟩
attribute [local irreducible] V VS runS Sk.Holds

set_option maxRecDepth 100000 in
theorem nest_Right_ok (a0 : Api_Core) (r : Bool) (h : nest_Right a0 = some r) {al : Bool} : PCalls Try.prog 17 [.agg [.pv (.raw (.bool a0.On)), .pv ((E67.ro a0.Kept))]] al (.pv (.raw (.bool r))) [] := by
  unfold nest_Right at h
  refine fn_ok tabOk Try.func17 (by as_aux_lemma => kernel_rfl) (by as_aux_lemma => kernel_rfl) Try.ntmps17 (by simp) ?_
  refine seg tabOk mixed 4000 (S := .br (decide ((((a0.Kept.length : Nat) : Int) : Int) > 400)) (.leaf 0) (.leaf 1)) (by as_aux_lemma => kernel_rfl) ?_
  refine br_ h ?_ ?_ <;> clear h <;> intro c1 h
  · refine sk_leaf ?_
    obtain rfl := some_ h
    exact end_ok [] Try.results17 (ps := [false = false]) (by as_aux_lemma => kernel_rfl) ⟨rfl, trivial⟩ (fun _ => ⟨rfl, by simp⟩)
  · refine sk_leaf ?_
    refine len_ro (by as_aux_lemma => kernel_rfl) 11 (s := 2) (n := a0.Kept.length) (c := fun i j => E67.cf (a0.Kept.getD i E67.z) j) (by as_aux_lemma => kernel_rfl) ?_; intro hl1_0
    refine loop_ok (by as_aux_lemma => kernel_rfl) (X := Nat × Bool × Nat) (fun x => nest_Right_l1 a0 x.1 x.2.1 x.2.2 = some r) (fun x => x.1) (fun x => mk 39 [(1, .ptr 0 0), (2, .pv (.raw (.bool false))), (3, .pv (.raw (.bool x.2.1))), (11, .pv ((E67.ro a0.Kept))), (12, .pv (.raw (.int .i64 ((a0.Kept.length : Nat) : Int)))), (13, .pv (.raw (.int .i64 ((x.2.2 : Nat) : Int))))] [(0, .box [.pv (.raw (.bool a0.On)), .pv ((E67.ro a0.Kept))])]) (FUEL, true, 0) h ?_ ?_
    · exact sub_ok (ρ := [(0, some 16400)]) (l := [0 = 0, false = false, true = true, a0.Kept.length = a0.Kept.length, ∀ i, i < a0.Kept.length → ∀ j, j < 2 → E67.cf (a0.Kept.getD i E67.z) j = E67.cf (a0.Kept.getD i E67.z) j, (((a0.Kept.length : Nat) : Int) : Int) = ((a0.Kept.length : Nat) : Int), (0 : Int) = ((0 : Nat) : Int), a0.On = a0.On, a0.Kept.length = a0.Kept.length, ∀ i, i < a0.Kept.length → ∀ j, j < 2 → E67.cf (a0.Kept.getD i E67.z) j = E67.cf (a0.Kept.getD i E67.z) j]) (by as_aux_lemma => kernel_rfl) ⟨rfl, rfl, rfl, rfl, fun _ _ _ _ => rfl, rfl, (by first | rfl | simp), rfl, rfl, fun _ _ _ _ => rfl, trivial⟩
    · clear h; rintro ⟨n, b2, k3⟩ h p1 hp1
      obtain _ | n := n
      · cases (show (none : Option (Bool)) = some r from h)
      have h : nest_Right_l1 a0 (n + 1) b2 k3 = some r := h
      unfold nest_Right_l1 at h
      refine seg tabOk mixed 4000 (S := .br (decide ((((k3 : Nat) : Int) : Int) < ((a0.Kept.length : Nat) : Int))) (.and (0 ≤ (((k3 : Nat) : Int) : Int) ∧ ((k3 : Nat) : Int) < ((a0.Kept.length : Nat) : Int)) (.and ((((a0.Kept.getD k3 (⟨false, false⟩ : Api_Frame)).On) = true → (((a0.Kept.getD k3 (⟨false, false⟩ : Api_Frame)).On) = true))) (.and (((a0.Kept.getD k3 (⟨false, false⟩ : Api_Frame)).On) = true → ((a0.Kept.getD k3 (⟨false, false⟩ : Api_Frame)).On) = true) (.and (((!(((a0.Kept.getD k3 (⟨false, false⟩ : Api_Frame)).On) && (!b2))) = true → ((!(((a0.Kept.getD k3 (⟨false, false⟩ : Api_Frame)).On) && (!b2))) = true))) (.and (((!(((a0.Kept.getD k3 (⟨false, false⟩ : Api_Frame)).On) && (!b2))) = true → ((!(((a0.Kept.getD k3 (⟨false, false⟩ : Api_Frame)).On) && (!b2))) = true))) (.and ((((!(((a0.Kept.getD k3 (⟨false, false⟩ : Api_Frame)).On) && (!b2))) && ((a0.Kept.getD k3 (⟨false, false⟩ : Api_Frame)).Irq)) = true → (((!(((a0.Kept.getD k3 (⟨false, false⟩ : Api_Frame)).On) && (!b2))) && ((a0.Kept.getD k3 (⟨false, false⟩ : Api_Frame)).Irq)) = true))) (.and ((((!(((a0.Kept.getD k3 (⟨false, false⟩ : Api_Frame)).On) && (!b2))) && ((a0.Kept.getD k3 (⟨false, false⟩ : Api_Frame)).Irq)) = true → (((!(((a0.Kept.getD k3 (⟨false, false⟩ : Api_Frame)).On) && (!b2))) && ((a0.Kept.getD k3 (⟨false, false⟩ : Api_Frame)).Irq)) = true))) (.and (((!(((a0.Kept.getD k3 (⟨false, false⟩ : Api_Frame)).On) && (!b2))) = true → ((!(((a0.Kept.getD k3 (⟨false, false⟩ : Api_Frame)).On) && (!b2))) = true))) (.and (((!(((a0.Kept.getD k3 (⟨false, false⟩ : Api_Frame)).On) && (!b2))) = true → (((a0.Kept.getD k3 (⟨false, false⟩ : Api_Frame)).Irq) = true → ((!(((a0.Kept.getD k3 (⟨false, false⟩ : Api_Frame)).On) && (!b2))) && ((a0.Kept.getD k3 (⟨false, false⟩ : Api_Frame)).Irq)) = true))) (.and ((((a0.Kept.getD k3 (⟨false, false⟩ : Api_Frame)).On) && (!b2)) = false → (!(((a0.Kept.getD k3 (⟨false, false⟩ : Api_Frame)).On) && (!b2))) = true) (.br ((((a0.Kept.getD k3 (⟨false, false⟩ : Api_Frame)).On) && (!b2)) || (((a0.Kept.getD k3 (⟨false, false⟩ : Api_Frame)).Irq) && (!((a0.Kept.getD k3 (⟨false, false⟩ : Api_Frame)).On)))) (.leaf 0) (.leaf 1)))))))))))) (.and ((!a0.On) = false → (!(!a0.On)) = true) (.leaf 2))) (by as_aux_lemma => kernel_rfl) ?_
      refine br_ h ?_ ?_ <;> clear h <;> intro c4 h
      · refine sk_and ⟨Int.natCast_nonneg _, of_decide_eq_true c4⟩ ?_
        refine sk_and ((by decide : ∀ y0 : Bool, ((y0 = true) → (y0 = true))) ((a0.Kept.getD k3 (⟨false, false⟩ : Api_Frame)).On)) ?_
        refine sk_and ((by decide : ∀ y0 : Bool, ((y0 = true) → (y0 = true))) ((a0.Kept.getD k3 (⟨false, false⟩ : Api_Frame)).On)) ?_
        refine sk_and ((by decide : ∀ y0 y1 : Bool, (((!(y0 && (!y1))) = true) → ((!(y0 && (!y1))) = true))) ((a0.Kept.getD k3 (⟨false, false⟩ : Api_Frame)).On) b2) ?_
        refine sk_and ((by decide : ∀ y0 y1 : Bool, (((!(y0 && (!y1))) = true) → ((!(y0 && (!y1))) = true))) ((a0.Kept.getD k3 (⟨false, false⟩ : Api_Frame)).On) b2) ?_
        refine sk_and ((by decide : ∀ y0 y1 y2 : Bool, ((((!(y0 && (!y1))) && y2) = true) → (((!(y0 && (!y1))) && y2) = true))) ((a0.Kept.getD k3 (⟨false, false⟩ : Api_Frame)).On) b2 ((a0.Kept.getD k3 (⟨false, false⟩ : Api_Frame)).Irq)) ?_
        refine sk_and ((by decide : ∀ y0 y1 y2 : Bool, ((((!(y0 && (!y1))) && y2) = true) → (((!(y0 && (!y1))) && y2) = true))) ((a0.Kept.getD k3 (⟨false, false⟩ : Api_Frame)).On) b2 ((a0.Kept.getD k3 (⟨false, false⟩ : Api_Frame)).Irq)) ?_
        refine sk_and ((by decide : ∀ y0 y1 : Bool, (((!(y0 && (!y1))) = true) → ((!(y0 && (!y1))) = true))) ((a0.Kept.getD k3 (⟨false, false⟩ : Api_Frame)).On) b2) ?_
        refine sk_and ((by decide : ∀ y0 y1 y2 : Bool, (((!(y0 && (!y1))) = true) → ((y2 = true) → (((!(y0 && (!y1))) && y2) = true)))) ((a0.Kept.getD k3 (⟨false, false⟩ : Api_Frame)).On) b2 ((a0.Kept.getD k3 (⟨false, false⟩ : Api_Frame)).Irq)) ?_
        refine sk_and ((by decide : ∀ y0 y1 : Bool, (((y0 && (!y1)) = false) → ((!(y0 && (!y1))) = true))) ((a0.Kept.getD k3 (⟨false, false⟩ : Api_Frame)).On) b2) ?_
        refine br_ h ?_ ?_ <;> clear h <;> intro c15 h
        · refine sk_leaf ?_
          obtain rfl := some_ h
          exact end_ok [] Try.results17 (ps := [false = false]) (by as_aux_lemma => kernel_rfl) ⟨rfl, trivial⟩ (fun _ => ⟨rfl, by simp⟩)
        · refine sk_leaf ?_
          refine back_ok (p := p1) (by as_aux_lemma => kernel_rfl) (hp1 (n, false, k3 + 1) _ h (Nat.lt_succ_self n) ?_)
          exact sub_ok (ρ := [(0, some 0)]) (l := [0 = 0, false = false, false = false, a0.Kept.length = a0.Kept.length, ∀ i, i < a0.Kept.length → ∀ j, j < 2 → E67.cf (a0.Kept.getD i E67.z) j = E67.cf (a0.Kept.getD i E67.z) j, (((a0.Kept.length : Nat) : Int) : Int) = ((a0.Kept.length : Nat) : Int), ((IntKind.i64.wrap (((k3 : Nat) : Int) + 1)) : Int) = (((k3 + 1) : Nat) : Int), a0.On = a0.On, a0.Kept.length = a0.Kept.length, ∀ i, i < a0.Kept.length → ∀ j, j < 2 → E67.cf (a0.Kept.getD i E67.z) j = E67.cf (a0.Kept.getD i E67.z) j]) (by as_aux_lemma => kernel_rfl) ⟨rfl, rfl, rfl, rfl, fun _ _ _ _ => rfl, rfl, (wrap_nat (Int.ofNat_lt.1 (of_decide_eq_true c4)) (by omega)), rfl, rfl, fun _ _ _ _ => rfl, trivial⟩
      · refine sk_and ((by decide : ∀ y0 : Bool, (((!y0) = false) → ((!(!y0)) = true))) a0.On) ?_
        refine sk_leaf ?_
        obtain rfl := some_ h
        exact end_ok [] Try.results17 (ps := [((!a0.On) || b2) = ((!a0.On) || b2)]) (by as_aux_lemma => kernel_rfl) ⟨rfl, trivial⟩ (fun _ => ⟨rfl, by simp⟩)

set_option maxRecDepth 100000 in
theorem slices_Clone_api_Frame_ok (a0 r : List Api_Frame) (h : slices_Clone_api_Frame a0 = some r) {al : Bool} : PCalls Try.prog 32 [.pv (E67.ro a0)] al (.row 0 2 0 r.length) [.row 67 2 (E67.cR r)] := by
  unfold slices_Clone_api_Frame at h
  obtain ⟨g, h⟩ := if_ h
  obtain rfl := some_ h
  refine fn_ok tabOk Try.func32 (by as_aux_lemma => kernel_rfl) (by as_aux_lemma => kernel_rfl) Try.ntmps32 (by simp) ?_
  refine segs [1] tabOk mixed 4000 (S := .leaf 0) (by as_aux_lemma => kernel_rfl) ?_
  refine sk_leaf ?_
  refine nil_ok (d1 := 3) (d2 := 4) (s := 2) (n := a0.length) (c := fun i j => E67.cf (a0.getD i E67.z) j) tabOk (by as_aux_lemma => kernel_rfl) ?_
  intro b hb
  refine segs [] tabOk mixed 4000 (S := .br b (.leaf 0) (.leaf 1)) (by as_aux_lemma => kernel_rfl) ?_
  refine sk_br ?_ ?_ <;> intro hc <;> refine sk_leaf ?_
  · obtain rfl : a0 = [] := List.eq_nil_of_length_eq_zero (hb hc)
    exact end_ok [(0, none)] Try.results32 (ps := [0 = 0, 0 = 0, E67.cR [] = []]) (by as_aux_lemma => kernel_rfl) ⟨rfl, rfl, rfl, trivial⟩ (fun _ => ⟨rfl, by simp only [List.mem_cons, List.not_mem_nil, or_false, forall_eq]; exact Elem.cR_bald E67_raw _⟩)
  · refine bs_ok (d := 5) (e := 67) (s := 2) (n := 0) (cs := []) (cs' := E67.cR []) (by as_aux_lemma => kernel_rfl) rfl (by as_aux_lemma => kernel_rfl) ?_
    refine segs [] tabOk mixed 4000 (S := .leaf 0) (by as_aux_lemma => kernel_rfl) ?_
    refine sk_leaf ?_
    refine app_ok (d := 7) (e := 67) (s := 2) (b := 2) (x := .row 16464 2 0 0) (y := .pv (E67.ro a0)) E67 (xs := []) (ys := a0) (by as_aux_lemma => kernel_rfl) rfl (.row 16464 [] 0 rfl (by as_aux_lemma => kernel_rfl)) (.ro a0) ⟨by simpa using g, by simp; omega⟩ (by as_aux_lemma => kernel_rfl) ?_
    refine segs [] tabOk mixed 4000 (S := .leaf 0) (by as_aux_lemma => kernel_rfl) ?_
    refine sk_leaf ?_
    exact end_ok [(0, some 16496)] Try.results32 (ps := [0 = 0, a0.length = a0.length, E67.cR a0 = E67.cR a0, AllPv (E67.cR a0)]) (by as_aux_lemma => kernel_rfl) ⟨rfl, rfl, rfl, Elem.cR_pv _ _, trivial⟩ (fun _ => ⟨rfl, by simp only [List.mem_cons, List.not_mem_nil, or_false, forall_eq]; exact Elem.cR_bald E67_raw _⟩)

set_option maxRecDepth 100000 in
theorem nest_Step_ok (a0 : Api_Core) (a1 : Int) (r : Api_Core × Int) (h : nest_Step a0 a1 = some r) {al : Bool} : PCalls Try.prog 15 [.agg [.pv (.raw (.bool a0.On)), .pv ((E67.ro a0.Kept))], .pv (.raw (.int .i64 a1))] al (.tup [.agg [.pv (.raw (.bool r.1.On)), .row 0 2 0 r.1.Kept.length], .pv (.raw (.int .i64 r.2))]) [.row 67 2 (E67.cR r.1.Kept)] := by
  unfold nest_Step at h
  refine fn_ok tabOk Try.func15 (by as_aux_lemma => kernel_rfl) (by as_aux_lemma => kernel_rfl) Try.ntmps15 (by simp) ?_
  refine seg tabOk mixed 4000 (S := .leaf 0) (by as_aux_lemma => kernel_rfl) ?_
  refine sk_leaf ?_
  obtain ⟨r1, e2, h⟩ := bd_ h
  refine call_ok (d := some 12) (fn := 17) (ax := [.agg [.pv (.raw (.bool a0.On)), .pv ((E67.ro a0.Kept))]]) (args := [.agg [.pv (.raw (.bool a0.On)), .pv ((E67.ro a0.Kept))]]) (ps := [a0.On = a0.On, a0.Kept.length = a0.Kept.length, ∀ i, i < a0.Kept.length → ∀ j, j < 2 → E67.cf (a0.Kept.getD i E67.z) j = E67.cf (a0.Kept.getD i E67.z) j]) (hb' := []) (by as_aux_lemma => kernel_rfl) (nest_Right_ok _ _ e2 (al := true)) (by as_aux_lemma => kernel_rfl) ⟨rfl, rfl, fun _ _ _ _ => rfl, trivial⟩ (fun _ => (by as_aux_lemma => kernel_rfl)) (by simp) rfl (by as_aux_lemma => kernel_rfl) ?_
  refine seg tabOk mixed 4000 (S := .br (!r1) (.leaf 0) (.and (((!(decide ((a1 : Int) < 1))) = true → ((!(decide ((a1 : Int) < 1))) = true))) (.and ((decide ((a1 : Int) < 1)) = false → (!(decide ((a1 : Int) < 1))) = true) (.br ((decide ((a1 : Int) < 1)) || (decide ((a1 : Int) > 4))) (.leaf 1) (.and (((!((a1 : Int) == 1)) = true → ((!((a1 : Int) == 1)) = true))) (.and (((a1 : Int) == 1) = false → (!((a1 : Int) == 1)) = true) (.and (((((a1 : Int) == 1) || ((a1 : Int) == 3)) = true → ((((a1 : Int) == 1) || ((a1 : Int) == 3)) = true))) (.and ((((a1 : Int) == 1) || ((a1 : Int) == 3)) = true → (((a1 : Int) == 1) || ((a1 : Int) == 3)) = true) (.br ((((a1 : Int) == 1) || ((a1 : Int) == 3)) && ((((a0.Kept.length : Nat) : Int) : Int) == 400)) (.leaf 2) (.and ((((a1 : Int) == 3) = true → (((a1 : Int) == 3) = true))) (.and ((((a1 : Int) == 3) = true → (((a1 : Int) == 3) = true))) (.and (((a1 : Int) == 3) = true → ((a1 : Int) == 3) = true) (.br (((a1 : Int) == 3) && (!a0.On)) (.leaf 3) (.and (((!((a1 : Int) == 2)) = true → ((!((a1 : Int) == 2)) = true))) (.and (((a1 : Int) == 2) = false → (!((a1 : Int) == 2)) = true) (.and (((((a1 : Int) == 2) || ((a1 : Int) == 4)) = true → ((((a1 : Int) == 2) || ((a1 : Int) == 4)) = true))) (.and ((((a1 : Int) == 2) || ((a1 : Int) == 4)) = true → (((a1 : Int) == 2) || ((a1 : Int) == 4)) = true) (.br ((((a1 : Int) == 2) || ((a1 : Int) == 4)) && ((((a0.Kept.length : Nat) : Int) : Int) == 0)) (.leaf 4) (.and (((!((a1 : Int) == 2)) = true → ((!((a1 : Int) == 2)) = true))) (.and (((a1 : Int) == 2) = false → (!((a1 : Int) == 2)) = true) (.and (((((a1 : Int) == 2) || ((a1 : Int) == 4)) = true → ((((a1 : Int) == 2) || ((a1 : Int) == 4)) = true))) (.and (((((a1 : Int) == 2) || ((a1 : Int) == 4)) = true → ((((a1 : Int) == 2) || ((a1 : Int) == 4)) = true))) (.and (((((a1 : Int) == 2) || ((a1 : Int) == 4)) = true → ((((a1 : Int) == 2) || ((a1 : Int) == 4)) = true))) (.and (((((a1 : Int) == 2) || ((a1 : Int) == 4)) = true → ((((a1 : Int) == 2) || ((a1 : Int) == 4)) = true))) (.and (((((a1 : Int) == 2) || ((a1 : Int) == 4)) = true → (0 ≤ ((IntKind.i64.wrap (((a0.Kept.length : Nat) : Int) - 1)) : Int) ∧ (IntKind.i64.wrap (((a0.Kept.length : Nat) : Int) - 1)) < ((a0.Kept.length : Nat) : Int)))) (.and (((((a1 : Int) == 2) || ((a1 : Int) == 4)) = true → ((((a1 : Int) == 2) || ((a1 : Int) == 4)) = true))) (.and (((((a1 : Int) == 2) || ((a1 : Int) == 4)) = true → ((((a1 : Int) == 2) || ((a1 : Int) == 4)) = true))) (.and (((((a1 : Int) == 2) || ((a1 : Int) == 4)) = true → ((((a1 : Int) == 2) || ((a1 : Int) == 4)) = true))) (.and (((((a1 : Int) == 2) || ((a1 : Int) == 4)) = true → ((((a1 : Int) == 2) || ((a1 : Int) == 4)) = true))) (.and (((((a1 : Int) == 2) || ((a1 : Int) == 4)) = true → ((((a1 : Int) == 2) || ((a1 : Int) == 4)) = true))) (.and ((((a1 : Int) == 2) || ((a1 : Int) == 4)) = true → (((a1 : Int) == 2) || ((a1 : Int) == 4)) = true) (.br ((((a1 : Int) == 2) || ((a1 : Int) == 4)) && (((a0.Kept.getD (Int.toNat (IntKind.i64.wrap (((a0.Kept.length : Nat) : Int) - 1))) (⟨false, false⟩ : Api_Frame)).Irq) != ((a1 : Int) == 4))) (.leaf 5) (.and (((!((a1 : Int) == 1)) = true → ((!((a1 : Int) == 1)) = true))) (.and (((a1 : Int) == 1) = false → (!((a1 : Int) == 1)) = true) (.br (((a1 : Int) == 1) || ((a1 : Int) == 3)) (.leaf 6) (.and (0 ≤ ((IntKind.i64.wrap (((a0.Kept.length : Nat) : Int) - 1)) : Int) ∧ (IntKind.i64.wrap (((a0.Kept.length : Nat) : Int) - 1)) < ((a0.Kept.length : Nat) : Int)) (.and (0 ≤ ((IntKind.i64.wrap (((a0.Kept.length : Nat) : Int) - 1)) : Int)) (.and ((Int.toNat (IntKind.i64.wrap (((a0.Kept.length : Nat) : Int) - 1))) ≤ a0.Kept.length) (.leaf 7))))))))))))))))))))))))))))))))))))))) (by as_aux_lemma => kernel_rfl) ?_
  refine br_ h ?_ ?_ <;> clear h <;> intro c3 h
  · refine sk_leaf ?_
    obtain rfl := some_ h
    exact end_ok [(0, none)] Try.results15 (ps := [false = false, 0 = 0, ([] : List Api_Frame).length = 0, (1 : Int) = 1, E67.cR [] = []]) (by as_aux_lemma => kernel_rfl) ⟨rfl, rfl, rfl, rfl, rfl, trivial⟩ (fun _ => ⟨rfl, by simp only [List.mem_cons, List.not_mem_nil, or_false, forall_eq_or_imp, forall_eq]; exact Elem.cR_bald E67_raw _⟩)
  · refine sk_and ((by decide : ∀ y0 : Bool, (((!y0) = true) → ((!y0) = true))) (decide ((a1 : Int) < 1))) ?_
    refine sk_and ((by decide : ∀ y0 : Bool, ((y0 = false) → ((!y0) = true))) (decide ((a1 : Int) < 1))) ?_
    refine br_ h ?_ ?_ <;> clear h <;> intro c6 h
    · refine sk_leaf ?_
      obtain rfl := some_ h
      exact end_ok [(0, none)] Try.results15 (ps := [false = false, 0 = 0, ([] : List Api_Frame).length = 0, (5 : Int) = 5, E67.cR [] = []]) (by as_aux_lemma => kernel_rfl) ⟨rfl, rfl, rfl, rfl, rfl, trivial⟩ (fun _ => ⟨rfl, by simp only [List.mem_cons, List.not_mem_nil, or_false, forall_eq_or_imp, forall_eq]; exact Elem.cR_bald E67_raw _⟩)
    · refine sk_and ((by decide : ∀ y0 : Bool, (((!y0) = true) → ((!y0) = true))) ((a1 : Int) == 1)) ?_
      refine sk_and ((by decide : ∀ y0 : Bool, ((y0 = false) → ((!y0) = true))) ((a1 : Int) == 1)) ?_
      refine sk_and ((by decide : ∀ y0 y1 : Bool, (((y0 || y1) = true) → ((y0 || y1) = true))) ((a1 : Int) == 1) ((a1 : Int) == 3)) ?_
      refine sk_and ((by decide : ∀ y0 y1 : Bool, (((y0 || y1) = true) → ((y0 || y1) = true))) ((a1 : Int) == 1) ((a1 : Int) == 3)) ?_
      refine br_ h ?_ ?_ <;> clear h <;> intro c11 h
      · refine sk_leaf ?_
        obtain rfl := some_ h
        exact end_ok [(0, none)] Try.results15 (ps := [false = false, 0 = 0, ([] : List Api_Frame).length = 0, (4 : Int) = 4, E67.cR [] = []]) (by as_aux_lemma => kernel_rfl) ⟨rfl, rfl, rfl, rfl, rfl, trivial⟩ (fun _ => ⟨rfl, by simp only [List.mem_cons, List.not_mem_nil, or_false, forall_eq_or_imp, forall_eq]; exact Elem.cR_bald E67_raw _⟩)
      · refine sk_and ((by decide : ∀ y0 : Bool, ((y0 = true) → (y0 = true))) ((a1 : Int) == 3)) ?_
        refine sk_and ((by decide : ∀ y0 : Bool, ((y0 = true) → (y0 = true))) ((a1 : Int) == 3)) ?_
        refine sk_and ((by decide : ∀ y0 : Bool, ((y0 = true) → (y0 = true))) ((a1 : Int) == 3)) ?_
        refine br_ h ?_ ?_ <;> clear h <;> intro c15 h
        · refine sk_leaf ?_
          obtain rfl := some_ h
          exact end_ok [(0, none)] Try.results15 (ps := [false = false, 0 = 0, ([] : List Api_Frame).length = 0, (7 : Int) = 7, E67.cR [] = []]) (by as_aux_lemma => kernel_rfl) ⟨rfl, rfl, rfl, rfl, rfl, trivial⟩ (fun _ => ⟨rfl, by simp only [List.mem_cons, List.not_mem_nil, or_false, forall_eq_or_imp, forall_eq]; exact Elem.cR_bald E67_raw _⟩)
        · refine sk_and ((by decide : ∀ y0 : Bool, (((!y0) = true) → ((!y0) = true))) ((a1 : Int) == 2)) ?_
          refine sk_and ((by decide : ∀ y0 : Bool, ((y0 = false) → ((!y0) = true))) ((a1 : Int) == 2)) ?_
          refine sk_and ((by decide : ∀ y0 y1 : Bool, (((y0 || y1) = true) → ((y0 || y1) = true))) ((a1 : Int) == 2) ((a1 : Int) == 4)) ?_
          refine sk_and ((by decide : ∀ y0 y1 : Bool, (((y0 || y1) = true) → ((y0 || y1) = true))) ((a1 : Int) == 2) ((a1 : Int) == 4)) ?_
          refine br_ h ?_ ?_ <;> clear h <;> intro c20 h
          · refine sk_leaf ?_
            obtain rfl := some_ h
            exact end_ok [(0, none)] Try.results15 (ps := [false = false, 0 = 0, ([] : List Api_Frame).length = 0, (3 : Int) = 3, E67.cR [] = []]) (by as_aux_lemma => kernel_rfl) ⟨rfl, rfl, rfl, rfl, rfl, trivial⟩ (fun _ => ⟨rfl, by simp only [List.mem_cons, List.not_mem_nil, or_false, forall_eq_or_imp, forall_eq]; exact Elem.cR_bald E67_raw _⟩)
          · refine sk_and ((by decide : ∀ y0 : Bool, (((!y0) = true) → ((!y0) = true))) ((a1 : Int) == 2)) ?_
            refine sk_and ((by decide : ∀ y0 : Bool, ((y0 = false) → ((!y0) = true))) ((a1 : Int) == 2)) ?_
            refine sk_and ((by decide : ∀ y0 y1 : Bool, (((y0 || y1) = true) → ((y0 || y1) = true))) ((a1 : Int) == 2) ((a1 : Int) == 4)) ?_
            refine sk_and ((by decide : ∀ y0 y1 : Bool, (((y0 || y1) = true) → ((y0 || y1) = true))) ((a1 : Int) == 2) ((a1 : Int) == 4)) ?_
            refine sk_and ((by decide : ∀ y0 y1 : Bool, (((y0 || y1) = true) → ((y0 || y1) = true))) ((a1 : Int) == 2) ((a1 : Int) == 4)) ?_
            refine sk_and ((by decide : ∀ y0 y1 : Bool, (((y0 || y1) = true) → ((y0 || y1) = true))) ((a1 : Int) == 2) ((a1 : Int) == 4)) ?_
            refine gd_ h ?_; clear h; intro g27 h
            refine sk_and ((by decide : ∀ y0 y1 : Bool, (((y0 || y1) = true) → ((y0 || y1) = true))) ((a1 : Int) == 2) ((a1 : Int) == 4)) ?_
            refine sk_and ((by decide : ∀ y0 y1 : Bool, (((y0 || y1) = true) → ((y0 || y1) = true))) ((a1 : Int) == 2) ((a1 : Int) == 4)) ?_
            refine sk_and ((by decide : ∀ y0 y1 : Bool, (((y0 || y1) = true) → ((y0 || y1) = true))) ((a1 : Int) == 2) ((a1 : Int) == 4)) ?_
            refine sk_and ((by decide : ∀ y0 y1 : Bool, (((y0 || y1) = true) → ((y0 || y1) = true))) ((a1 : Int) == 2) ((a1 : Int) == 4)) ?_
            refine sk_and ((by decide : ∀ y0 y1 : Bool, (((y0 || y1) = true) → ((y0 || y1) = true))) ((a1 : Int) == 2) ((a1 : Int) == 4)) ?_
            refine sk_and ((by decide : ∀ y0 y1 : Bool, (((y0 || y1) = true) → ((y0 || y1) = true))) ((a1 : Int) == 2) ((a1 : Int) == 4)) ?_
            refine br_ h ?_ ?_ <;> clear h <;> intro c34 h
            · refine sk_leaf ?_
              obtain rfl := some_ h
              exact end_ok [(0, none)] Try.results15 (ps := [false = false, 0 = 0, ([] : List Api_Frame).length = 0, (8 : Int) = 8, E67.cR [] = []]) (by as_aux_lemma => kernel_rfl) ⟨rfl, rfl, rfl, rfl, rfl, trivial⟩ (fun _ => ⟨rfl, by simp only [List.mem_cons, List.not_mem_nil, or_false, forall_eq_or_imp, forall_eq]; exact Elem.cR_bald E67_raw _⟩)
            · refine sk_and ((by decide : ∀ y0 : Bool, (((!y0) = true) → ((!y0) = true))) ((a1 : Int) == 1)) ?_
              refine sk_and ((by decide : ∀ y0 : Bool, ((y0 = false) → ((!y0) = true))) ((a1 : Int) == 1)) ?_
              refine br_ h ?_ ?_ <;> clear h <;> intro c37 h
              · refine sk_leaf ?_
                obtain ⟨r38, e39, h⟩ := bd_ h
                refine call_ok (d := some 84) (fn := 32) (ax := [.pv ((E67.ro a0.Kept))]) (args := [.pv ((E67.ro a0.Kept))]) (ps := [a0.Kept.length = a0.Kept.length, ∀ i, i < a0.Kept.length → ∀ j, j < 2 → E67.cf (a0.Kept.getD i E67.z) j = E67.cf (a0.Kept.getD i E67.z) j]) (hb' := [.row 67 2 (E67.cR r38)]) (by as_aux_lemma => kernel_rfl) (slices_Clone_api_Frame_ok _ _ e39 (al := true)) (by as_aux_lemma => kernel_rfl) ⟨rfl, fun _ _ _ _ => rfl, trivial⟩ (fun _ => (by as_aux_lemma => kernel_rfl)) (by simp) (by simp only [List.map_cons, List.map_nil, Elem.row_up]) (by as_aux_lemma => kernel_rfl) ?_
                refine seg tabOk mixed 4000 (S := .leaf 0) (by as_aux_lemma => kernel_rfl) ?_
                refine sk_leaf ?_
                refine bs_ok (d := 90) (e := 67) (s := 2) (n := 1) (cs := [.pv (.raw (.bool a0.On)), .pv (.raw (.bool ((a1 : Int) == 3)))]) (cs' := E67.cR [(⟨a0.On, ((a1 : Int) == 3)⟩ : Api_Frame)]) (by as_aux_lemma => kernel_rfl) rfl (by as_aux_lemma => kernel_rfl) ?_
                refine seg tabOk mixed 4000 (S := .leaf 0) (by as_aux_lemma => kernel_rfl) ?_
                refine sk_leaf ?_
                obtain ⟨g40, h⟩ := if_ h
                refine app_ok (d := 91) (e := 67) (s := 2) (b := 2) (x := .row 17728 2 0 r38.length) (y := .row 17824 2 0 1) E67 (xs := r38) (ys := [(⟨a0.On, ((a1 : Int) == 3)⟩ : Api_Frame)]) (by as_aux_lemma => kernel_rfl) rfl (.row 17728 r38 r38.length rfl (by as_aux_lemma => kernel_rfl)) (.all 17824 67 [(⟨a0.On, ((a1 : Int) == 3)⟩ : Api_Frame)] 1 rfl (by as_aux_lemma => kernel_rfl)) g40 (by as_aux_lemma => kernel_rfl) ?_
                refine seg tabOk mixed 4000 (S := .leaf 0) (by as_aux_lemma => kernel_rfl) ?_
                refine sk_leaf ?_
                obtain rfl := some_ h
                exact end_ok [(0, some 17840)] Try.results15 (ps := [false = false, 0 = 0, ((r38 ++ [(⟨a0.On, ((a1 : Int) == 3)⟩ : Api_Frame)]).length) = (r38 ++ [(⟨a0.On, ((a1 : Int) == 3)⟩ : Api_Frame)]).length, (0 : Int) = 0, E67.cR (r38 ++ [(⟨a0.On, ((a1 : Int) == 3)⟩ : Api_Frame)]) = E67.cR (r38 ++ [(⟨a0.On, ((a1 : Int) == 3)⟩ : Api_Frame)]), AllPv (E67.cR (r38 ++ [(⟨a0.On, ((a1 : Int) == 3)⟩ : Api_Frame)]))]) (by as_aux_lemma => kernel_rfl) ⟨rfl, rfl, (by first | rfl | simp), rfl, rfl, (Elem.cR_pv _ _), trivial⟩ (fun _ => ⟨rfl, by simp only [List.mem_cons, List.not_mem_nil, or_false, forall_eq_or_imp, forall_eq]; exact Elem.cR_bald E67_raw _⟩)
              · refine gd_ h ?_; clear h; intro g41 h
                refine gd_ h ?_; clear h; intro g42 h
                refine gd_ h ?_; clear h; intro g43 h
                refine sk_leaf ?_
                obtain ⟨r44, e45, h⟩ := bd_ h
                refine call_ok (d := some 105) (fn := 32) (ax := [.pv (.ro E67.s ((Int.toNat (IntKind.i64.wrap (((a0.Kept.length : Nat) : Int) - 1))) - 0) (fun i j => E67.cf (a0.Kept.getD (0 + i) E67.z) j))]) (args := [.pv ((E67.ro ((a0.Kept.drop 0).take ((Int.toNat (IntKind.i64.wrap (((a0.Kept.length : Nat) : Int) - 1))) - 0))))]) (ps := [((Int.toNat (IntKind.i64.wrap (((a0.Kept.length : Nat) : Int) - 1))) - 0) = ((a0.Kept.drop 0).take ((Int.toNat (IntKind.i64.wrap (((a0.Kept.length : Nat) : Int) - 1))) - 0)).length, ∀ i, i < ((Int.toNat (IntKind.i64.wrap (((a0.Kept.length : Nat) : Int) - 1))) - 0) → ∀ j, j < 2 → E67.cf (a0.Kept.getD (0 + i) E67.z) j = E67.cf (((a0.Kept.drop 0).take ((Int.toNat (IntKind.i64.wrap (((a0.Kept.length : Nat) : Int) - 1))) - 0)).getD i E67.z) j]) (hb' := [.row 67 2 (E67.cR r44)]) (by as_aux_lemma => kernel_rfl) (slices_Clone_api_Frame_ok _ _ e45 (al := true)) (by as_aux_lemma => kernel_rfl) ⟨(Elem.sub_len _ (by omega)), (Elem.sub_cf _ _ (by omega)), trivial⟩ (fun _ => (by as_aux_lemma => kernel_rfl)) (by simp) (by simp only [List.map_cons, List.map_nil, Elem.row_up]) (by as_aux_lemma => kernel_rfl) ?_
                refine seg tabOk mixed 4000 (S := .leaf 0) (by as_aux_lemma => kernel_rfl) ?_
                refine sk_leaf ?_
                obtain rfl := some_ h
                exact end_ok [(0, some 18064)] Try.results15 (ps := [((a0.Kept.getD (Int.toNat (IntKind.i64.wrap (((a0.Kept.length : Nat) : Int) - 1))) (⟨false, false⟩ : Api_Frame)).On) = ((a0.Kept.getD (Int.toNat (IntKind.i64.wrap (((a0.Kept.length : Nat) : Int) - 1))) (⟨false, false⟩ : Api_Frame)).On), 0 = 0, r44.length = r44.length, (0 : Int) = 0, E67.cR r44 = E67.cR r44, AllPv (E67.cR r44)]) (by as_aux_lemma => kernel_rfl) ⟨rfl, rfl, (by first | rfl | simp), rfl, rfl, (Elem.cR_pv _ _), trivial⟩ (fun _ => ⟨rfl, by simp only [List.mem_cons, List.not_mem_nil, or_false, forall_eq_or_imp, forall_eq]; exact Elem.cR_bald E67_raw _⟩)

set_option maxRecDepth 100000 in
theorem nest_Play_ok (a0 : (List Int)) (r : (List Int) × Api_Core) (h : nest_Play a0 = some r) {al : Bool} : PCalls Try.prog 18 [.pv ((E3.ro a0))] al (.tup [.row 0 1 0 r.1.length, .agg [.pv (.raw (.bool r.2.On)), .row 1 2 0 r.2.Kept.length]]) [.row 28 1 (E28.cR r.1), .row 67 2 (E67.cR r.2.Kept)] := by
  unfold nest_Play at h
  refine fn_ok tabOk Try.func18 (by as_aux_lemma => kernel_rfl) (by as_aux_lemma => kernel_rfl) Try.ntmps18 (by simp) ?_
  refine seg tabOk mixed 4000 (S := .leaf 0) (by as_aux_lemma => kernel_rfl) ?_
  refine sk_leaf ?_
  refine len_ro (by as_aux_lemma => kernel_rfl) 11 (s := 1) (n := a0.length) (c := fun i j => E3.cf (a0.getD i E3.z) j) (by as_aux_lemma => kernel_rfl) ?_; intro hl1_0
  refine loop_ok (by as_aux_lemma => kernel_rfl) (X := Nat × List Int × Nat × Bool × List Api_Frame) (fun x => nest_Play_l1 a0 x.1 x.2.1 x.2.2.1 x.2.2.2.1 x.2.2.2.2 = some r) (fun x => x.1) (fun x => mk 33 [(2, .pv (.raw (.slice none 0 0))), (3, .ptr 0 0), (4, .ptr 1 0), (5, .row 2 1 0 x.2.1.length), (11, .pv ((E3.ro a0))), (12, .pv (.raw (.int .i64 ((a0.length : Nat) : Int)))), (13, .pv (.raw (.int .i64 ((x.2.2.1 : Nat) : Int))))] [(0, .box [.pv (.raw (.bool false)), .pv (.raw (.slice none 0 0))]), (1, .box [.pv (.raw (.bool x.2.2.2.1)), .row 3 2 0 x.2.2.2.2.length]), (2, .row 28 1 (E28.cR x.2.1)), (3, .row 67 2 (E67.cR x.2.2.2.2))]) (FUEL, ([] : List Int), 0, true, ([] : List Api_Frame)) h ?_ ?_
  · exact sub_ok (ρ := [(0, some 16432), (1, some 16448), (2, none), (3, none)]) (l := [0 = 0, 0 = 0, 0 = 0, (([] : List Int).length) = 0, a0.length = a0.length, ∀ i, i < a0.length → ∀ j, j < 1 → E3.cf (a0.getD i E3.z) j = E3.cf (a0.getD i E3.z) j, (((a0.length : Nat) : Int) : Int) = ((a0.length : Nat) : Int), (0 : Int) = ((0 : Nat) : Int), false = false, true = true, 0 = 0, (([] : List Api_Frame).length) = 0, E28.cR ([] : List Int) = [], E67.cR ([] : List Api_Frame) = []]) (by as_aux_lemma => kernel_rfl) ⟨rfl, rfl, rfl, (by first | rfl | simp), rfl, fun _ _ _ _ => rfl, rfl, (by first | rfl | simp), rfl, rfl, rfl, (by first | rfl | simp), rfl, rfl, trivial⟩
  · clear h; rintro ⟨n, l1, k2, b3, l4⟩ h p1 hp1
    obtain _ | n := n
    · cases (show (none : Option ((List Int) × Api_Core)) = some r from h)
    have h : nest_Play_l1 a0 (n + 1) l1 k2 b3 l4 = some r := h
    unfold nest_Play_l1 at h
    refine seg tabOk mixed 4000 (S := .br (decide ((((k2 : Nat) : Int) : Int) < ((a0.length : Nat) : Int))) (.and (0 ≤ (((k2 : Nat) : Int) : Int) ∧ ((k2 : Nat) : Int) < ((a0.length : Nat) : Int)) (.leaf 0)) (.leaf 1)) (by as_aux_lemma => kernel_rfl) ?_
    refine br_ h ?_ ?_ <;> clear h <;> intro c5 h
    · refine sk_and ⟨Int.natCast_nonneg _, of_decide_eq_true c5⟩ ?_
      refine sk_leaf ?_
      obtain ⟨r7, e8, h⟩ := bd_ h
      refine call_ok (d := some 20) (fn := 15) (ax := [.agg [.pv (.raw (.bool b3)), .row 3 2 0 l4.length], .pv (.raw (.int .i64 (a0.getD k2 0)))]) (args := [.agg [.pv (.raw (.bool b3)), .pv ((E67.ro l4))], .pv (.raw (.int .i64 (a0.getD k2 0)))]) (ps := [b3 = b3, l4.length = l4.length, rowQ (E67.cR l4) 2 0 l4.length (fun i j => E67.cf (l4.getD i E67.z) j), ((a0.getD k2 0) : Int) = (a0.getD k2 0)]) (hb' := [.row 67 2 (E67.cR r7.1.Kept)]) (by as_aux_lemma => kernel_rfl) (nest_Step_ok _ _ _ e8 (al := false)) (by as_aux_lemma => kernel_rfl) ⟨rfl, (by first | rfl | simp | (simp; omega)), E67.rowQ_all l4 rfl, rfl, trivial⟩ (fun hx => by cases hx) (by simp) (by simp only [List.map_cons, List.map_nil, Elem.row_up]) (by as_aux_lemma => kernel_rfl) ?_
      refine seg tabOk mixed 4000 (S := .br ((r7.2 : Int) == 0) (.leaf 0) (.leaf 1)) (by as_aux_lemma => kernel_rfl) ?_
      refine br_ h ?_ ?_ <;> clear h <;> intro c9 h
      · refine sk_leaf ?_
        refine bs_ok (d := 28) (e := 28) (s := 1) (n := 1) (cs := [.pv (.raw (.int .i64 r7.2))]) (cs' := E28.cR [r7.2]) (by as_aux_lemma => kernel_rfl) rfl (by as_aux_lemma => kernel_rfl) ?_
        refine seg tabOk mixed 4000 (S := .leaf 0) (by as_aux_lemma => kernel_rfl) ?_
        refine sk_leaf ?_
        obtain ⟨g10, h⟩ := if_ h
        refine app_ok (d := 29) (e := 28) (s := 1) (b := 8) (x := .row 2 1 0 l1.length) (y := .row 16832 1 0 1) E28 (xs := l1) (ys := [r7.2]) (by as_aux_lemma => kernel_rfl) rfl (.row 2 l1 l1.length rfl (by as_aux_lemma => kernel_rfl)) (.all 16832 28 [r7.2] 1 rfl (by as_aux_lemma => kernel_rfl)) g10 (by as_aux_lemma => kernel_rfl) ?_
        refine seg tabOk mixed 4000 (S := .leaf 0) (by as_aux_lemma => kernel_rfl) ?_
        refine sk_leaf ?_
        refine back_ok (p := p1) (by as_aux_lemma => kernel_rfl) (hp1 (n, (l1 ++ [r7.2]), k2 + 1, r7.1.On, r7.1.Kept) _ h (Nat.lt_succ_self n) ?_)
        exact sub_ok (ρ := [(0, some 0), (1, some 1), (2, some 16848), (3, some 16704)]) (l := [0 = 0, 0 = 0, 0 = 0, ((l1 ++ [r7.2]).length) = ((l1 ++ [r7.2]).length), a0.length = a0.length, ∀ i, i < a0.length → ∀ j, j < 1 → E3.cf (a0.getD i E3.z) j = E3.cf (a0.getD i E3.z) j, (((a0.length : Nat) : Int) : Int) = ((a0.length : Nat) : Int), ((IntKind.i64.wrap (((k2 : Nat) : Int) + 1)) : Int) = (((k2 + 1) : Nat) : Int), false = false, r7.1.On = r7.1.On, 0 = 0, r7.1.Kept.length = r7.1.Kept.length, E28.cR (l1 ++ [r7.2]) = E28.cR (l1 ++ [r7.2]), AllPv (E28.cR (l1 ++ [r7.2])), E67.cR r7.1.Kept = E67.cR r7.1.Kept, AllPv (E67.cR r7.1.Kept)]) (by as_aux_lemma => kernel_rfl) ⟨rfl, rfl, rfl, rfl, rfl, fun _ _ _ _ => rfl, rfl, (wrap_nat (Int.ofNat_lt.1 (of_decide_eq_true c5)) (by omega)), rfl, rfl, rfl, rfl, rfl, (Elem.cR_pv _ _), rfl, (Elem.cR_pv _ _), trivial⟩
      · refine sk_leaf ?_
        refine bs_ok (d := 28) (e := 28) (s := 1) (n := 1) (cs := [.pv (.raw (.int .i64 r7.2))]) (cs' := E28.cR [r7.2]) (by as_aux_lemma => kernel_rfl) rfl (by as_aux_lemma => kernel_rfl) ?_
        refine seg tabOk mixed 4000 (S := .leaf 0) (by as_aux_lemma => kernel_rfl) ?_
        refine sk_leaf ?_
        obtain ⟨g11, h⟩ := if_ h
        refine app_ok (d := 29) (e := 28) (s := 1) (b := 8) (x := .row 2 1 0 l1.length) (y := .row 16832 1 0 1) E28 (xs := l1) (ys := [r7.2]) (by as_aux_lemma => kernel_rfl) rfl (.row 2 l1 l1.length rfl (by as_aux_lemma => kernel_rfl)) (.all 16832 28 [r7.2] 1 rfl (by as_aux_lemma => kernel_rfl)) g11 (by as_aux_lemma => kernel_rfl) ?_
        refine seg tabOk mixed 4000 (S := .leaf 0) (by as_aux_lemma => kernel_rfl) ?_
        refine sk_leaf ?_
        refine back_ok (p := p1) (by as_aux_lemma => kernel_rfl) (hp1 (n, (l1 ++ [r7.2]), k2 + 1, b3, l4) _ h (Nat.lt_succ_self n) ?_)
        exact sub_ok (ρ := [(0, some 0), (1, some 1), (2, some 16848), (3, some 3)]) (l := [0 = 0, 0 = 0, 0 = 0, ((l1 ++ [r7.2]).length) = ((l1 ++ [r7.2]).length), a0.length = a0.length, ∀ i, i < a0.length → ∀ j, j < 1 → E3.cf (a0.getD i E3.z) j = E3.cf (a0.getD i E3.z) j, (((a0.length : Nat) : Int) : Int) = ((a0.length : Nat) : Int), ((IntKind.i64.wrap (((k2 : Nat) : Int) + 1)) : Int) = (((k2 + 1) : Nat) : Int), false = false, b3 = b3, 0 = 0, l4.length = l4.length, E28.cR (l1 ++ [r7.2]) = E28.cR (l1 ++ [r7.2]), AllPv (E28.cR (l1 ++ [r7.2])), E67.cR l4 = E67.cR l4, AllPv (E67.cR l4)]) (by as_aux_lemma => kernel_rfl) ⟨rfl, rfl, rfl, rfl, rfl, fun _ _ _ _ => rfl, rfl, (wrap_nat (Int.ofNat_lt.1 (of_decide_eq_true c5)) (by omega)), rfl, rfl, rfl, rfl, rfl, (Elem.cR_pv _ _), rfl, (Elem.cR_pv _ _), trivial⟩
    · refine sk_leaf ?_
      obtain rfl := some_ h
      exact end_ok [(0, some 2), (1, some 3)] Try.results18 (ps := [0 = 0, l1.length = l1.length, b3 = b3, 0 = 0, l4.length = l4.length, E28.cR l1 = E28.cR l1, AllPv (E28.cR l1), E67.cR l4 = E67.cR l4, AllPv (E67.cR l4)]) (by as_aux_lemma => kernel_rfl) ⟨rfl, (by first | rfl | simp), rfl, rfl, (by first | rfl | simp), rfl, (Elem.cR_pv _ _), rfl, (Elem.cR_pv _ _), trivial⟩ (fun _ => ⟨rfl, by simp only [List.mem_cons, List.not_mem_nil, or_false, forall_eq_or_imp, forall_eq]; exact ⟨Elem.cR_bald E28_raw _, Elem.cR_bald E67_raw _⟩⟩)

set_option maxRecDepth 100000 in
theorem slices_Equal_api_Errno_ok (a0 : (List Int)) (a1 : (List Int)) (r : Bool) (h : slices_Equal_api_Errno a0 a1 = some r) {al : Bool} : PCalls Try.prog 31 [.pv ((E28.ro a0)), .pv ((E28.ro a1))] al (.pv (.raw (.bool r))) [] := by
  unfold slices_Equal_api_Errno at h
  refine fn_ok tabOk Try.func31 (by as_aux_lemma => kernel_rfl) (by as_aux_lemma => kernel_rfl) Try.ntmps31 (by simp) ?_
  refine seg tabOk mixed 4000 (S := .br ((((a0.length : Nat) : Int) : Int) != ((a1.length : Nat) : Int)) (.leaf 0) (.leaf 1)) (by as_aux_lemma => kernel_rfl) ?_
  refine br_ h ?_ ?_ <;> clear h <;> intro c1 h
  · refine sk_leaf ?_
    obtain rfl := some_ h
    exact end_ok [] Try.results31 (ps := [false = false]) (by as_aux_lemma => kernel_rfl) ⟨rfl, trivial⟩ (fun _ => ⟨rfl, by simp⟩)
  · refine sk_leaf ?_
    refine len_ro (by as_aux_lemma => kernel_rfl) 0 (s := 1) (n := a0.length) (c := fun i j => E28.cf (a0.getD i E28.z) j) (by as_aux_lemma => kernel_rfl) ?_; intro hl1_0
    refine len_ro (by as_aux_lemma => kernel_rfl) 1 (s := 1) (n := a1.length) (c := fun i j => E28.cf (a1.getD i E28.z) j) (by as_aux_lemma => kernel_rfl) ?_; intro hl1_1
    refine loop_ok (by as_aux_lemma => kernel_rfl) (X := Nat × Nat) (fun x => slices_Equal_api_Errno_l1 a0 a1 x.1 x.2 = some r) (fun x => x.1) (fun x => mk 26 [(0, .pv ((E28.ro a0))), (1, .pv ((E28.ro a1))), (4, .pv (.raw (.bool false))), (12, .pv (.raw (.int .i64 ((a0.length : Nat) : Int)))), (13, .pv (.raw (.int .i64 ((x.2 : Nat) : Int))))] []) (FUEL, 0) h ?_ ?_
    · exact sub_ok (ρ := []) (l := [a0.length = a0.length, ∀ i, i < a0.length → ∀ j, j < 1 → E28.cf (a0.getD i E28.z) j = E28.cf (a0.getD i E28.z) j, a1.length = a1.length, ∀ i, i < a1.length → ∀ j, j < 1 → E28.cf (a1.getD i E28.z) j = E28.cf (a1.getD i E28.z) j, false = false, (((a0.length : Nat) : Int) : Int) = ((a0.length : Nat) : Int), (0 : Int) = ((0 : Nat) : Int)]) (by as_aux_lemma => kernel_rfl) ⟨rfl, fun _ _ _ _ => rfl, rfl, fun _ _ _ _ => rfl, rfl, rfl, (by first | rfl | simp), trivial⟩
    · clear h; rintro ⟨n, k2⟩ h p1 hp1
      obtain _ | n := n
      · cases (show (none : Option (Bool)) = some r from h)
      have h : slices_Equal_api_Errno_l1 a0 a1 (n + 1) k2 = some r := h
      unfold slices_Equal_api_Errno_l1 at h
      refine seg tabOk mixed 4000 (S := .br (decide ((((k2 : Nat) : Int) : Int) < ((a0.length : Nat) : Int))) (.and (0 ≤ (((k2 : Nat) : Int) : Int) ∧ ((k2 : Nat) : Int) < ((a0.length : Nat) : Int)) (.and (0 ≤ (((k2 : Nat) : Int) : Int) ∧ ((k2 : Nat) : Int) < ((a1.length : Nat) : Int)) (.br (((a0.getD k2 0) : Int) != (a1.getD k2 0)) (.leaf 0) (.leaf 1)))) (.leaf 2)) (by as_aux_lemma => kernel_rfl) ?_
      refine br_ h ?_ ?_ <;> clear h <;> intro c3 h
      · refine sk_and ⟨Int.natCast_nonneg _, of_decide_eq_true c3⟩ ?_
        refine gd_ h ?_; clear h; intro g5 h
        refine br_ h ?_ ?_ <;> clear h <;> intro c6 h
        · refine sk_leaf ?_
          obtain rfl := some_ h
          exact end_ok [] Try.results31 (ps := [false = false]) (by as_aux_lemma => kernel_rfl) ⟨rfl, trivial⟩ (fun _ => ⟨rfl, by simp⟩)
        · refine sk_leaf ?_
          refine back_ok (p := p1) (by as_aux_lemma => kernel_rfl) (hp1 (n, k2 + 1) _ h (Nat.lt_succ_self n) ?_)
          exact sub_ok (ρ := []) (l := [a0.length = a0.length, ∀ i, i < a0.length → ∀ j, j < 1 → E28.cf (a0.getD i E28.z) j = E28.cf (a0.getD i E28.z) j, a1.length = a1.length, ∀ i, i < a1.length → ∀ j, j < 1 → E28.cf (a1.getD i E28.z) j = E28.cf (a1.getD i E28.z) j, false = false, (((a0.length : Nat) : Int) : Int) = ((a0.length : Nat) : Int), ((IntKind.i64.wrap (((k2 : Nat) : Int) + 1)) : Int) = (((k2 + 1) : Nat) : Int)]) (by as_aux_lemma => kernel_rfl) ⟨rfl, fun _ _ _ _ => rfl, rfl, fun _ _ _ _ => rfl, rfl, rfl, (wrap_nat (Int.ofNat_lt.1 (of_decide_eq_true c3)) (by omega)), trivial⟩
      · refine sk_leaf ?_
        obtain rfl := some_ h
        exact end_ok [] Try.results31 (ps := [true = true]) (by as_aux_lemma => kernel_rfl) ⟨rfl, trivial⟩ (fun _ => ⟨rfl, by simp⟩)

set_option maxRecDepth 100000 in
theorem ref_SameCore_ok (a0 : Api_Core) (a1 : Api_Core) (r : Bool) (h : ref_SameCore a0 a1 = some r) {al : Bool} : PCalls Try.prog 16 [.agg [.pv (.raw (.bool a0.On)), .pv ((E67.ro a0.Kept))], .agg [.pv (.raw (.bool a1.On)), .pv ((E67.ro a1.Kept))]] al (.pv (.raw (.bool r))) [] := by
  unfold ref_SameCore at h
  refine fn_ok tabOk Try.func16 (by as_aux_lemma => kernel_rfl) (by as_aux_lemma => kernel_rfl) Try.ntmps16 (by simp) ?_
  refine seg tabOk mixed 4000 (S := .and (((!(a0.On != a1.On)) = true → ((!(a0.On != a1.On)) = true))) (.and (((!(a0.On != a1.On)) = true → ((!(a0.On != a1.On)) = true))) (.and (((!(a0.On != a1.On)) = true → ((!(a0.On != a1.On)) = true))) (.and (((!(a0.On != a1.On)) = true → ((!(a0.On != a1.On)) = true))) (.and (((!(a0.On != a1.On)) = true → ((!(a0.On != a1.On)) = true))) (.and (((!(a0.On != a1.On)) = true → ((!(a0.On != a1.On)) = true))) (.and ((a0.On != a1.On) = false → (!(a0.On != a1.On)) = true) (.br ((a0.On != a1.On) || ((((a0.Kept.length : Nat) : Int) : Int) != ((a1.Kept.length : Nat) : Int))) (.leaf 0) (.leaf 1))))))))) (by as_aux_lemma => kernel_rfl) ?_
  refine sk_and ((by decide : ∀ y0 : Bool, (((!y0) = true) → ((!y0) = true))) (a0.On != a1.On)) ?_
  refine sk_and ((by decide : ∀ y0 : Bool, (((!y0) = true) → ((!y0) = true))) (a0.On != a1.On)) ?_
  refine sk_and ((by decide : ∀ y0 : Bool, (((!y0) = true) → ((!y0) = true))) (a0.On != a1.On)) ?_
  refine sk_and ((by decide : ∀ y0 : Bool, (((!y0) = true) → ((!y0) = true))) (a0.On != a1.On)) ?_
  refine sk_and ((by decide : ∀ y0 : Bool, (((!y0) = true) → ((!y0) = true))) (a0.On != a1.On)) ?_
  refine sk_and ((by decide : ∀ y0 : Bool, (((!y0) = true) → ((!y0) = true))) (a0.On != a1.On)) ?_
  refine sk_and ((by decide : ∀ y0 : Bool, ((y0 = false) → ((!y0) = true))) (a0.On != a1.On)) ?_
  refine br_ h ?_ ?_ <;> clear h <;> intro c8 h
  · refine sk_leaf ?_
    obtain rfl := some_ h
    exact end_ok [] Try.results16 (ps := [false = false]) (by as_aux_lemma => kernel_rfl) ⟨rfl, trivial⟩ (fun _ => ⟨rfl, by simp⟩)
  · refine sk_leaf ?_
    refine len_box (by as_aux_lemma => kernel_rfl) 16416 1 (cs := [.pv (.raw (.bool a0.On)), .pv ((E67.ro a0.Kept))]) (by as_aux_lemma => kernel_rfl) (s := 2) (n := a0.Kept.length) (c := fun i j => E67.cf (a0.Kept.getD i E67.z) j) rfl ?_; intro hl1_0
    refine len_box (by as_aux_lemma => kernel_rfl) 16432 1 (cs := [.pv (.raw (.bool a1.On)), .pv ((E67.ro a1.Kept))]) (by as_aux_lemma => kernel_rfl) (s := 2) (n := a1.Kept.length) (c := fun i j => E67.cf (a1.Kept.getD i E67.z) j) rfl ?_; intro hl1_1
    refine loop_ok (by as_aux_lemma => kernel_rfl) (X := Nat × Nat) (fun x => ref_SameCore_l1 a0 a1 x.1 x.2 = some r) (fun x => x.1) (fun x => mk 38 [(2, .ptr 0 0), (3, .ptr 1 0), (4, .pv (.raw (.bool false))), (22, .pv (.raw (.int .i64 ((a0.Kept.length : Nat) : Int)))), (23, .pv (.raw (.int .i64 ((x.2 : Nat) : Int))))] [(0, .box [.pv (.raw (.bool a0.On)), .pv ((E67.ro a0.Kept))]), (1, .box [.pv (.raw (.bool a1.On)), .pv ((E67.ro a1.Kept))])]) (FUEL, 0) h ?_ ?_
    · exact sub_ok (ρ := [(0, some 16416), (1, some 16432)]) (l := [0 = 0, 0 = 0, false = false, (((a0.Kept.length : Nat) : Int) : Int) = ((a0.Kept.length : Nat) : Int), (0 : Int) = ((0 : Nat) : Int), a0.On = a0.On, a0.Kept.length = a0.Kept.length, ∀ i, i < a0.Kept.length → ∀ j, j < 2 → E67.cf (a0.Kept.getD i E67.z) j = E67.cf (a0.Kept.getD i E67.z) j, a1.On = a1.On, a1.Kept.length = a1.Kept.length, ∀ i, i < a1.Kept.length → ∀ j, j < 2 → E67.cf (a1.Kept.getD i E67.z) j = E67.cf (a1.Kept.getD i E67.z) j]) (by as_aux_lemma => kernel_rfl) ⟨rfl, rfl, rfl, rfl, (by first | rfl | simp), rfl, rfl, fun _ _ _ _ => rfl, rfl, rfl, fun _ _ _ _ => rfl, trivial⟩
    · clear h; rintro ⟨n, k9⟩ h p1 hp1
      obtain _ | n := n
      · cases (show (none : Option (Bool)) = some r from h)
      have h : ref_SameCore_l1 a0 a1 (n + 1) k9 = some r := h
      unfold ref_SameCore_l1 at h
      refine seg tabOk mixed 4000 (S := .br (decide ((((k9 : Nat) : Int) : Int) < ((a0.Kept.length : Nat) : Int))) (.and (0 ≤ (((k9 : Nat) : Int) : Int) ∧ ((k9 : Nat) : Int) < ((a0.Kept.length : Nat) : Int)) (.and (0 ≤ (((k9 : Nat) : Int) : Int) ∧ ((k9 : Nat) : Int) < ((a1.Kept.length : Nat) : Int)) (.br (!((((a0.Kept.getD k9 (⟨false, false⟩ : Api_Frame)).On) == ((a1.Kept.getD k9 (⟨false, false⟩ : Api_Frame)).On)) && ((((a0.Kept.getD k9 (⟨false, false⟩ : Api_Frame)).Irq) == ((a1.Kept.getD k9 (⟨false, false⟩ : Api_Frame)).Irq)) && true))) (.leaf 0) (.leaf 1)))) (.leaf 2)) (by as_aux_lemma => kernel_rfl) ?_
      refine br_ h ?_ ?_ <;> clear h <;> intro c10 h
      · refine sk_and ⟨Int.natCast_nonneg _, of_decide_eq_true c10⟩ ?_
        refine gd_ h ?_; clear h; intro g12 h
        refine br_ h ?_ ?_ <;> clear h <;> intro c13 h
        · refine sk_leaf ?_
          obtain rfl := some_ h
          exact end_ok [] Try.results16 (ps := [false = false]) (by as_aux_lemma => kernel_rfl) ⟨rfl, trivial⟩ (fun _ => ⟨rfl, by simp⟩)
        · refine sk_leaf ?_
          refine back_ok (p := p1) (by as_aux_lemma => kernel_rfl) (hp1 (n, k9 + 1) _ h (Nat.lt_succ_self n) ?_)
          exact sub_ok (ρ := [(0, some 0), (1, some 1)]) (l := [0 = 0, 0 = 0, false = false, (((a0.Kept.length : Nat) : Int) : Int) = ((a0.Kept.length : Nat) : Int), ((IntKind.i64.wrap (((k9 : Nat) : Int) + 1)) : Int) = (((k9 + 1) : Nat) : Int), a0.On = a0.On, a0.Kept.length = a0.Kept.length, ∀ i, i < a0.Kept.length → ∀ j, j < 2 → E67.cf (a0.Kept.getD i E67.z) j = E67.cf (a0.Kept.getD i E67.z) j, a1.On = a1.On, a1.Kept.length = a1.Kept.length, ∀ i, i < a1.Kept.length → ∀ j, j < 2 → E67.cf (a1.Kept.getD i E67.z) j = E67.cf (a1.Kept.getD i E67.z) j]) (by as_aux_lemma => kernel_rfl) ⟨rfl, rfl, rfl, rfl, (wrap_nat (Int.ofNat_lt.1 (of_decide_eq_true c10)) (by omega)), rfl, rfl, fun _ _ _ _ => rfl, rfl, rfl, fun _ _ _ _ => rfl, trivial⟩
      · refine sk_leaf ?_
        obtain rfl := some_ h
        exact end_ok [] Try.results16 (ps := [true = true]) (by as_aux_lemma => kernel_rfl) ⟨rfl, trivial⟩ (fun _ => ⟨rfl, by simp⟩)

set_option maxRecDepth 100000 in
theorem keep_alive7_ok (r : Bool) (h : keep_alive7 = some r) {al : Bool} : PCalls Try.prog 14 [] al (.pv (.raw (.bool r))) [] := by
  unfold keep_alive7 at h
  refine fn_ok tabOk Try.func14 (by as_aux_lemma => kernel_rfl) (by as_aux_lemma => kernel_rfl) Try.ntmps14 (by simp) ?_
  refine seg tabOk mixed 4000 (S := .leaf 0) (by as_aux_lemma => kernel_rfl) ?_
  refine sk_leaf ?_
  refine bs_ok (d := 4) (e := 3) (s := 1) (n := 6) (cs := [.pv (.raw (.int .i64 3)), .pv (.raw (.int .i64 1)), .pv (.raw (.int .i64 3)), .pv (.raw (.int .i64 4)), .pv (.raw (.int .i64 2)), .pv (.raw (.int .i64 4))]) (cs' := E3.cR [3, 1, 3, 4, 2, 4]) (by as_aux_lemma => kernel_rfl) rfl (by as_aux_lemma => kernel_rfl) ?_
  refine seg tabOk mixed 4000 (S := .leaf 0) (by as_aux_lemma => kernel_rfl) ?_
  refine sk_leaf ?_
  obtain ⟨r1, e2, h⟩ := bd_ h
  refine call_ok (d := some 5) (fn := 18) (ax := [.row 16448 1 0 6]) (args := [.pv ((E3.ro [3, 1, 3, 4, 2, 4]))]) (ps := [6 = [3, 1, 3, 4, 2, 4].length, rowQ (E3.cR [3, 1, 3, 4, 2, 4]) 1 0 6 (fun i j => E3.cf ([3, 1, 3, 4, 2, 4].getD i E3.z) j)]) (hb' := [.row 28 1 (E28.cR r1.1), .row 67 2 (E67.cR r1.2.Kept)]) (by as_aux_lemma => kernel_rfl) (nest_Play_ok _ _ e2 (al := false)) (by as_aux_lemma => kernel_rfl) ⟨(by first | rfl | simp | (simp; omega)), E3.rowQ_all [3, 1, 3, 4, 2, 4] rfl, trivial⟩ (fun hx => by cases hx) (by simp) (by simp only [List.map_cons, List.map_nil, Elem.row_up]) (by as_aux_lemma => kernel_rfl) ?_
  refine seg tabOk mixed 4000 (S := .leaf 0) (by as_aux_lemma => kernel_rfl) ?_
  refine sk_leaf ?_
  refine bs_ok (d := 9) (e := 28) (s := 1) (n := 6) (cs := [.pv (.raw (.int .i64 0)), .pv (.raw (.int .i64 0)), .pv (.raw (.int .i64 7)), .pv (.raw (.int .i64 8)), .pv (.raw (.int .i64 0)), .pv (.raw (.int .i64 0))]) (cs' := E28.cR [0, 0, 7, 8, 0, 0]) (by as_aux_lemma => kernel_rfl) rfl (by as_aux_lemma => kernel_rfl) ?_
  refine seg tabOk mixed 4000 (S := .leaf 0) (by as_aux_lemma => kernel_rfl) ?_
  refine sk_leaf ?_
  obtain ⟨r3, e4, h⟩ := bd_ h
  refine call_ok (d := some 10) (fn := 31) (ax := [.row 16464 1 0 r1.1.length, .row 16528 1 0 6]) (args := [.pv ((E28.ro r1.1)), .pv ((E28.ro [0, 0, 7, 8, 0, 0]))]) (ps := [r1.1.length = r1.1.length, rowQ (E28.cR r1.1) 1 0 r1.1.length (fun i j => E28.cf (r1.1.getD i E28.z) j), 6 = [0, 0, 7, 8, 0, 0].length, rowQ (E28.cR [0, 0, 7, 8, 0, 0]) 1 0 6 (fun i j => E28.cf ([0, 0, 7, 8, 0, 0].getD i E28.z) j)]) (hb' := []) (by as_aux_lemma => kernel_rfl) (slices_Equal_api_Errno_ok _ _ _ e4 (al := false)) (by as_aux_lemma => kernel_rfl) ⟨(by first | rfl | simp | (simp; omega)), E28.rowQ_all r1.1 rfl, (by first | rfl | simp | (simp; omega)), E28.rowQ_all [0, 0, 7, 8, 0, 0] rfl, trivial⟩ (fun hx => by cases hx) (by simp) rfl (by as_aux_lemma => kernel_rfl) ?_
  refine seg tabOk mixed 4000 (S := .leaf 0) (by as_aux_lemma => kernel_rfl) ?_
  refine sk_leaf ?_
  obtain ⟨r5, e6, h⟩ := bd_ h
  refine callG_ok (d := some 14) (fn := 16) (ax := [.agg [.pv (.raw (.bool r1.2.On)), .row 16465 2 0 r1.2.Kept.length], .agg [.pv (.raw (.bool true)), .pv (.raw (.slice none 0 0))]]) (args := [.agg [.pv (.raw (.bool r1.2.On)), .pv ((E67.ro r1.2.Kept))], .agg [.pv (.raw (.bool true)), .pv ((E67.ro ([] : List Api_Frame)))]]) (g := r3) (ws := [r3 = true, r3 = true]) (ps := [r1.2.On = r1.2.On, r1.2.Kept.length = r1.2.Kept.length, rowQ (E67.cR r1.2.Kept) 2 0 r1.2.Kept.length (fun i j => E67.cf (r1.2.Kept.getD i E67.z) j), true = true, ([] : List Api_Frame).length = 0]) (by as_aux_lemma => kernel_rfl) (fun hg => ⟨((by decide : ∀ y0 : Bool, ((y0 = true) → (y0 = true))) r3) hg, ((by decide : ∀ y0 : Bool, ((y0 = true) → (y0 = true))) r3) hg, trivial⟩) (fun hg => ref_SameCore_ok _ _ _ (by rw [hg] at e6; exact e6) (al := false)) (by as_aux_lemma => kernel_rfl) (fun _ => ⟨rfl, (by first | rfl | simp | (simp; omega)), E67.rowQ_all r1.2.Kept rfl, rfl, rfl, trivial⟩) (fun hx => by cases hx) ?_
  refine seg tabOk mixed 4000 (S := .and (r3 = true → r3 = true) (.leaf 0)) (by as_aux_lemma => kernel_rfl) ?_
  refine sk_and ((by decide : ∀ y0 : Bool, ((y0 = true) → (y0 = true))) r3) ?_
  refine sk_leaf ?_
  obtain rfl := some_ h
  exact end_ok [] Try.results14 (ps := [(r3 && r5) = (r3 && r5)]) (by as_aux_lemma => kernel_rfl) ⟨rfl, trivial⟩ (fun _ => ⟨rfl, by simp⟩)

set_option maxRecDepth 100000 in
theorem keep_NestBack_ok (a0 : Api_Core) (r : Bool) (h : keep_NestBack a0 = some r) {al : Bool} : PCalls Try.prog 3 [.agg [.pv (.raw (.bool a0.On)), .pv ((E67.ro a0.Kept))]] al (.pv (.raw (.bool r))) [] := by
  unfold keep_NestBack at h
  refine fn_ok tabOk Try.func3 (by as_aux_lemma => kernel_rfl) (by as_aux_lemma => kernel_rfl) Try.ntmps3 (by simp) ?_
  refine seg tabOk mixed 4000 (S := .leaf 0) (by as_aux_lemma => kernel_rfl) ?_
  refine sk_leaf ?_
  obtain ⟨r1, e2, h⟩ := bd_ h
  refine call_ok (d := some 9) (fn := 14) (ax := []) (args := []) (ps := []) (hb' := []) (by as_aux_lemma => kernel_rfl) (keep_alive7_ok  _ e2 (al := true)) (by as_aux_lemma => kernel_rfl) trivial (fun _ => (by as_aux_lemma => kernel_rfl)) (by simp) rfl (by as_aux_lemma => kernel_rfl) ?_
  refine seg tabOk mixed 4000 (S := .br (!r1) (.leaf 0) (.leaf 1)) (by as_aux_lemma => kernel_rfl) ?_
  refine br_ h ?_ ?_ <;> clear h <;> intro c3 h
  · refine sk_leaf ?_
    obtain rfl := some_ h
    exact end_ok [] Try.results3 (ps := [false = false]) (by as_aux_lemma => kernel_rfl) ⟨rfl, trivial⟩ (fun _ => ⟨rfl, by simp⟩)
  · refine sk_leaf ?_
    refine bs_ok (d := 13) (e := 26) (s := 2) (n := 2) (cs := [.pv (.raw (.int .i64 1)), .pv (.raw (.int .i64 2)), .pv (.raw (.int .i64 3)), .pv (.raw (.int .i64 4))]) (cs' := E26.cR [[1, 2], [3, 4]]) (by as_aux_lemma => kernel_rfl) rfl (by as_aux_lemma => kernel_rfl) ?_
    refine seg tabOk mixed 4000 (S := .leaf 0) (by as_aux_lemma => kernel_rfl) ?_
    refine sk_leaf ?_
    refine len_box (by as_aux_lemma => kernel_rfl) 16400 1 (cs := [.pv (.raw (.bool a0.On)), .pv ((E67.ro a0.Kept))]) (by as_aux_lemma => kernel_rfl) (s := 2) (n := a0.Kept.length) (c := fun i j => E67.cf (a0.Kept.getD i E67.z) j) rfl ?_; intro hl1_0
    refine len_row (by as_aux_lemma => kernel_rfl) 16592 (e := 26) (s := 2) (n := [[1, 2], [3, 4]].length) (cs := E26.cR [[1, 2], [3, 4]]) (by as_aux_lemma => kernel_rfl) (Elem.cR_length _ _) ?_; intro hl1_1
    refine loop_ok (by as_aux_lemma => kernel_rfl) (X := Nat × Nat) (fun x => keep_NestBack_l1 a0 r1 x.1 x.2 = some r) (fun x => x.1) (fun x => mk 53 [(1, .ptr 0 0), (2, .pv (.raw (.bool false))), (13, .row 1 2 0 ([[1, 2], [3, 4]].length)), (14, .pv (.raw (.int .i64 ((2 : Nat) : Int)))), (15, .pv (.raw (.int .i64 ((x.2 : Nat) : Int))))] [(0, .box [.pv (.raw (.bool a0.On)), .pv ((E67.ro a0.Kept))]), (1, .row 26 2 (E26.cR [[1, 2], [3, 4]]))]) (FUEL, 0) h ?_ ?_
    · exact sub_ok (ρ := [(0, some 16400), (1, some 16592)]) (l := [0 = 0, false = false, 0 = 0, 2 = ([[1, 2], [3, 4]].length), (((2 : Nat) : Int) : Int) = ((2 : Nat) : Int), (0 : Int) = ((0 : Nat) : Int), a0.On = a0.On, a0.Kept.length = a0.Kept.length, ∀ i, i < a0.Kept.length → ∀ j, j < 2 → E67.cf (a0.Kept.getD i E67.z) j = E67.cf (a0.Kept.getD i E67.z) j, E26.cR [[1, 2], [3, 4]] = E26.cR [[1, 2], [3, 4]], AllPv (E26.cR [[1, 2], [3, 4]])]) (by as_aux_lemma => kernel_rfl) ⟨rfl, rfl, rfl, (by first | rfl | simp), rfl, (by first | rfl | simp), rfl, rfl, fun _ _ _ _ => rfl, rfl, (Elem.cR_pv _ _), trivial⟩
    · clear h; rintro ⟨n, k4⟩ h p1 hp1
      obtain _ | n := n
      · cases (show (none : Option (Bool)) = some r from h)
      have h : keep_NestBack_l1 a0 r1 (n + 1) k4 = some r := h
      unfold keep_NestBack_l1 at h
      refine seg tabOk mixed 4000 (S := .br (decide ((((k4 : Nat) : Int) : Int) < ((2 : Nat) : Int))) (.and (0 ≤ (((k4 : Nat) : Int) : Int) ∧ ((k4 : Nat) : Int) < (([[1, 2], [3, 4]].length : Nat) : Int)) (.leaf 0)) (.leaf 1)) (by as_aux_lemma => kernel_rfl) ?_
      refine br_ h ?_ ?_ <;> clear h <;> intro c5 h
      · refine gd_ h ?_; clear h; intro g6 h
        refine sk_leaf ?_
        refine lda_ok (d := 18) (id := 1) (i := (0 + k4)) (e := 26) (n := 2) E26 (xs := [[1, 2], [3, 4]]) (by as_aux_lemma => kernel_rfl) (by as_aux_lemma => kernel_rfl) (by first | omega | (simp at *; omega)) rfl ?_
        refine seg tabOk mixed 4000 (S := .and (0 ≤ (0 : Int) ∧ 0 < ((2 : Nat) : Int)) (.leaf 0)) (by as_aux_lemma => kernel_rfl) ?_
        refine sk_and (by decide) ?_
        refine sk_leaf ?_
        obtain ⟨r8, e9, h⟩ := bd_ h
        refine call_ok (d := some 23) (fn := 15) (ax := [.agg [.pv (.raw (.bool a0.On)), .pv ((E67.ro a0.Kept))], .pv (.raw (.int .i64 (([[1, 2], [3, 4]].getD (0 + k4) [0, 0]).getD 0 0)))]) (args := [.agg [.pv (.raw (.bool a0.On)), .pv ((E67.ro a0.Kept))], .pv (.raw (.int .i64 (([[1, 2], [3, 4]].getD (0 + k4) [0, 0]).getD 0 0)))]) (ps := [a0.On = a0.On, a0.Kept.length = a0.Kept.length, ∀ i, i < a0.Kept.length → ∀ j, j < 2 → E67.cf (a0.Kept.getD i E67.z) j = E67.cf (a0.Kept.getD i E67.z) j, ((([[1, 2], [3, 4]].getD (0 + k4) [0, 0]).getD 0 0) : Int) = (([[1, 2], [3, 4]].getD (0 + k4) [0, 0]).getD 0 0)]) (hb' := [.row 67 2 (E67.cR r8.1.Kept)]) (by as_aux_lemma => kernel_rfl) (nest_Step_ok _ _ _ e9 (al := true)) (by as_aux_lemma => kernel_rfl) ⟨rfl, rfl, fun _ _ _ _ => rfl, rfl, trivial⟩ (fun _ => (by as_aux_lemma => kernel_rfl)) (by simp) (by simp only [List.map_cons, List.map_nil, Elem.row_up]) (by as_aux_lemma => kernel_rfl) ?_
        refine seg tabOk mixed 4000 (S := .br ((r8.2 : Int) != 0) (.leaf 0) (.and (0 ≤ (1 : Int) ∧ 1 < ((2 : Nat) : Int)) (.leaf 1))) (by as_aux_lemma => kernel_rfl) ?_
        refine br_ h ?_ ?_ <;> clear h <;> intro c10 h
        · refine sk_leaf ?_
          refine back_ok (p := p1) (by as_aux_lemma => kernel_rfl) (hp1 (n, k4 + 1) _ h (Nat.lt_succ_self n) ?_)
          exact sub_ok (ρ := [(0, some 0), (1, some 1)]) (l := [0 = 0, false = false, 0 = 0, ([[1, 2], [3, 4]].length) = ([[1, 2], [3, 4]].length), (((2 : Nat) : Int) : Int) = ((2 : Nat) : Int), ((IntKind.i64.wrap (((k4 : Nat) : Int) + 1)) : Int) = (((k4 + 1) : Nat) : Int), a0.On = a0.On, a0.Kept.length = a0.Kept.length, ∀ i, i < a0.Kept.length → ∀ j, j < 2 → E67.cf (a0.Kept.getD i E67.z) j = E67.cf (a0.Kept.getD i E67.z) j, E26.cR [[1, 2], [3, 4]] = E26.cR [[1, 2], [3, 4]], AllPv (E26.cR [[1, 2], [3, 4]])]) (by as_aux_lemma => kernel_rfl) ⟨rfl, rfl, rfl, rfl, rfl, (wrap_nat (Int.ofNat_lt.1 (of_decide_eq_true c5)) (by omega)), rfl, rfl, fun _ _ _ _ => rfl, rfl, (Elem.cR_pv _ _), trivial⟩
        · refine sk_and (by decide) ?_
          refine sk_leaf ?_
          obtain ⟨r12, e13, h⟩ := bd_ h
          refine call_ok (d := some 32) (fn := 15) (ax := [.agg [.pv (.raw (.bool r8.1.On)), .row 16752 2 0 r8.1.Kept.length], .pv (.raw (.int .i64 (([[1, 2], [3, 4]].getD (0 + k4) [0, 0]).getD 1 0)))]) (args := [.agg [.pv (.raw (.bool r8.1.On)), .pv ((E67.ro r8.1.Kept))], .pv (.raw (.int .i64 (([[1, 2], [3, 4]].getD (0 + k4) [0, 0]).getD 1 0)))]) (ps := [r8.1.On = r8.1.On, r8.1.Kept.length = r8.1.Kept.length, rowQ (E67.cR r8.1.Kept) 2 0 r8.1.Kept.length (fun i j => E67.cf (r8.1.Kept.getD i E67.z) j), ((([[1, 2], [3, 4]].getD (0 + k4) [0, 0]).getD 1 0) : Int) = (([[1, 2], [3, 4]].getD (0 + k4) [0, 0]).getD 1 0)]) (hb' := [.row 67 2 (E67.cR r12.1.Kept)]) (by as_aux_lemma => kernel_rfl) (nest_Step_ok _ _ _ e13 (al := false)) (by as_aux_lemma => kernel_rfl) ⟨rfl, (by first | rfl | simp | (simp; omega)), E67.rowQ_all r8.1.Kept rfl, rfl, trivial⟩ (fun hx => by cases hx) (by simp) (by simp only [List.map_cons, List.map_nil, Elem.row_up]) (by as_aux_lemma => kernel_rfl) ?_
          refine seg tabOk mixed 4000 (S := .leaf 0) (by as_aux_lemma => kernel_rfl) ?_
          refine sk_leaf ?_
          obtain ⟨r14, e15, h⟩ := bd_ h
          refine callG_ok (d := some 40) (fn := 16) (ax := [.agg [.pv (.raw (.bool r12.1.On)), .row 16896 2 0 r12.1.Kept.length], .agg [.pv (.raw (.bool a0.On)), .pv ((E67.ro a0.Kept))]]) (args := [.agg [.pv (.raw (.bool r12.1.On)), .pv ((E67.ro r12.1.Kept))], .agg [.pv (.raw (.bool a0.On)), .pv ((E67.ro a0.Kept))]]) (g := (!((r12.2 : Int) != 0))) (ws := [(!((r12.2 : Int) != 0)) = true, (!((r12.2 : Int) != 0)) = true]) (ps := [r12.1.On = r12.1.On, r12.1.Kept.length = r12.1.Kept.length, rowQ (E67.cR r12.1.Kept) 2 0 r12.1.Kept.length (fun i j => E67.cf (r12.1.Kept.getD i E67.z) j), a0.On = a0.On, a0.Kept.length = a0.Kept.length, ∀ i, i < a0.Kept.length → ∀ j, j < 2 → E67.cf (a0.Kept.getD i E67.z) j = E67.cf (a0.Kept.getD i E67.z) j]) (by as_aux_lemma => kernel_rfl) (fun hg => ⟨((by decide : ∀ y0 : Bool, (((!y0) = true) → ((!y0) = true))) ((r12.2 : Int) != 0)) hg, ((by decide : ∀ y0 : Bool, (((!y0) = true) → ((!y0) = true))) ((r12.2 : Int) != 0)) hg, trivial⟩) (fun hg => ref_SameCore_ok _ _ _ (by rw [hg] at e15; exact e15) (al := false)) (by as_aux_lemma => kernel_rfl) (fun _ => ⟨rfl, (by first | rfl | simp | (simp; omega)), E67.rowQ_all r12.1.Kept rfl, rfl, rfl, fun _ _ _ _ => rfl, trivial⟩) (fun hx => by cases hx) ?_
          refine seg tabOk mixed 4000 (S := .and (((!((r12.2 : Int) != 0)) = true → ((!((r12.2 : Int) != 0)) = true))) (.and (((r12.2 : Int) != 0) = false → (!((r12.2 : Int) != 0)) = true) (.and (((!(((r12.2 : Int) != 0) || (!r14))) = true → ((!(((r12.2 : Int) != 0) || (!r14))) = true))) (.and ((((r12.2 : Int) != 0) || (!r14)) = false → (!(((r12.2 : Int) != 0) || (!r14))) = true) (.leaf 0))))) (by as_aux_lemma => kernel_rfl) ?_
          refine sk_and ((by decide : ∀ y0 : Bool, (((!y0) = true) → ((!y0) = true))) ((r12.2 : Int) != 0)) ?_
          refine sk_and ((by decide : ∀ y0 : Bool, ((y0 = false) → ((!y0) = true))) ((r12.2 : Int) != 0)) ?_
          refine sk_and ((by decide : ∀ y0 y1 : Bool, (((!(y0 || (!y1))) = true) → ((!(y0 || (!y1))) = true))) ((r12.2 : Int) != 0) r14) ?_
          refine sk_and ((by decide : ∀ y0 y1 : Bool, (((y0 || (!y1)) = false) → ((!(y0 || (!y1))) = true))) ((r12.2 : Int) != 0) r14) ?_
          refine sk_leaf ?_
          obtain ⟨r20, e21, h⟩ := bd_ h
          refine callG_ok (d := some 49) (fn := 17) (ax := [.agg [.pv (.raw (.bool r8.1.On)), .row 16752 2 0 r8.1.Kept.length]]) (args := [.agg [.pv (.raw (.bool r8.1.On)), .pv ((E67.ro r8.1.Kept))]]) (g := (!((((r12.2 : Int) != 0) || (!r14)) || r8.1.On))) (ws := [(!((((r12.2 : Int) != 0) || (!r14)) || r8.1.On)) = true]) (ps := [r8.1.On = r8.1.On, r8.1.Kept.length = r8.1.Kept.length, rowQ (E67.cR r8.1.Kept) 2 0 r8.1.Kept.length (fun i j => E67.cf (r8.1.Kept.getD i E67.z) j)]) (by as_aux_lemma => kernel_rfl) (fun hg => ⟨((by decide : ∀ y0 y1 y2 : Bool, (((!((y0 || (!y1)) || y2)) = true) → ((!((y0 || (!y1)) || y2)) = true))) ((r12.2 : Int) != 0) r14 r8.1.On) hg, trivial⟩) (fun hg => nest_Right_ok _ _ (by rw [hg] at e21; exact e21) (al := false)) (by as_aux_lemma => kernel_rfl) (fun _ => ⟨rfl, (by first | rfl | simp | (simp; omega)), E67.rowQ_all r8.1.Kept rfl, trivial⟩) (fun hx => by cases hx) ?_
          refine seg tabOk mixed 4000 (S := .and (((!((((r12.2 : Int) != 0) || (!r14)) || r8.1.On)) = true → ((!((((r12.2 : Int) != 0) || (!r14)) || r8.1.On)) = true))) (.and (((((r12.2 : Int) != 0) || (!r14)) || r8.1.On) = false → (!((((r12.2 : Int) != 0) || (!r14)) || r8.1.On)) = true) (.br (((((r12.2 : Int) != 0) || (!r14)) || r8.1.On) || (!r20)) (.leaf 0) (.leaf 1)))) (by as_aux_lemma => kernel_rfl) ?_
          refine sk_and ((by decide : ∀ y0 y1 y2 : Bool, (((!((y0 || (!y1)) || y2)) = true) → ((!((y0 || (!y1)) || y2)) = true))) ((r12.2 : Int) != 0) r14 r8.1.On) ?_
          refine sk_and ((by decide : ∀ y0 y1 y2 : Bool, ((((y0 || (!y1)) || y2) = false) → ((!((y0 || (!y1)) || y2)) = true))) ((r12.2 : Int) != 0) r14 r8.1.On) ?_
          refine br_ h ?_ ?_ <;> clear h <;> intro c24 h
          · refine sk_leaf ?_
            obtain rfl := some_ h
            exact end_ok [] Try.results3 (ps := [false = false]) (by as_aux_lemma => kernel_rfl) ⟨rfl, trivial⟩ (fun _ => ⟨rfl, by simp⟩)
          · refine sk_leaf ?_
            refine back_ok (p := p1) (by as_aux_lemma => kernel_rfl) (hp1 (n, k4 + 1) _ h (Nat.lt_succ_self n) ?_)
            exact sub_ok (ρ := [(0, some 0), (1, some 1)]) (l := [0 = 0, false = false, 0 = 0, ([[1, 2], [3, 4]].length) = ([[1, 2], [3, 4]].length), (((2 : Nat) : Int) : Int) = ((2 : Nat) : Int), ((IntKind.i64.wrap (((k4 : Nat) : Int) + 1)) : Int) = (((k4 + 1) : Nat) : Int), a0.On = a0.On, a0.Kept.length = a0.Kept.length, ∀ i, i < a0.Kept.length → ∀ j, j < 2 → E67.cf (a0.Kept.getD i E67.z) j = E67.cf (a0.Kept.getD i E67.z) j, E26.cR [[1, 2], [3, 4]] = E26.cR [[1, 2], [3, 4]], AllPv (E26.cR [[1, 2], [3, 4]])]) (by as_aux_lemma => kernel_rfl) ⟨rfl, rfl, rfl, rfl, rfl, (wrap_nat (Int.ofNat_lt.1 (of_decide_eq_true c5)) (by omega)), rfl, rfl, fun _ _ _ _ => rfl, rfl, (Elem.cR_pv _ _), trivial⟩
      · refine sk_leaf ?_
        obtain rfl := some_ h
        exact end_ok [] Try.results3 (ps := [true = true]) (by as_aux_lemma => kernel_rfl) ⟨rfl, trivial⟩ (fun _ => ⟨rfl, by simp⟩)

set_option maxRecDepth 100000 in
theorem keep_NestQuiet_ok (a0 : (List Int)) (r : Bool) (h : keep_NestQuiet a0 = some r) {al : Bool} : PCalls Try.prog 4 [.pv ((E3.ro a0))] al (.pv (.raw (.bool r))) [] := by
  unfold keep_NestQuiet at h
  refine fn_ok tabOk Try.func4 (by as_aux_lemma => kernel_rfl) (by as_aux_lemma => kernel_rfl) Try.ntmps4 (by simp) ?_
  refine seg tabOk mixed 4000 (S := .leaf 0) (by as_aux_lemma => kernel_rfl) ?_
  refine sk_leaf ?_
  obtain ⟨r1, e2, h⟩ := bd_ h
  refine call_ok (d := some 8) (fn := 14) (ax := []) (args := []) (ps := []) (hb' := []) (by as_aux_lemma => kernel_rfl) (keep_alive7_ok  _ e2 (al := true)) (by as_aux_lemma => kernel_rfl) trivial (fun _ => (by as_aux_lemma => kernel_rfl)) (by simp) rfl (by as_aux_lemma => kernel_rfl) ?_
  refine seg tabOk mixed 4000 (S := .br (!r1) (.leaf 0) (.leaf 1)) (by as_aux_lemma => kernel_rfl) ?_
  refine br_ h ?_ ?_ <;> clear h <;> intro c3 h
  · refine sk_leaf ?_
    obtain rfl := some_ h
    exact end_ok [] Try.results4 (ps := [false = false]) (by as_aux_lemma => kernel_rfl) ⟨rfl, trivial⟩ (fun _ => ⟨rfl, by simp⟩)
  · refine sk_leaf ?_
    obtain ⟨r4, e5, h⟩ := bd_ h
    refine call_ok (d := some 12) (fn := 18) (ax := [.pv ((E3.ro a0))]) (args := [.pv ((E3.ro a0))]) (ps := [a0.length = a0.length, ∀ i, i < a0.length → ∀ j, j < 1 → E3.cf (a0.getD i E3.z) j = E3.cf (a0.getD i E3.z) j]) (hb' := [.row 28 1 (E28.cR r4.1), .row 67 2 (E67.cR r4.2.Kept)]) (by as_aux_lemma => kernel_rfl) (nest_Play_ok _ _ e5 (al := true)) (by as_aux_lemma => kernel_rfl) ⟨rfl, fun _ _ _ _ => rfl, trivial⟩ (fun _ => (by as_aux_lemma => kernel_rfl)) (by simp) (by simp only [List.map_cons, List.map_nil, Elem.row_up]) (by as_aux_lemma => kernel_rfl) ?_
    refine seg tabOk mixed 4000 (S := .br ((((r4.1.length : Nat) : Int) : Int) != ((a0.length : Nat) : Int)) (.leaf 0) (.leaf 1)) (by as_aux_lemma => kernel_rfl) ?_
    refine br_ h ?_ ?_ <;> clear h <;> intro c6 h
    · refine sk_leaf ?_
      obtain rfl := some_ h
      exact end_ok [] Try.results4 (ps := [false = false]) (by as_aux_lemma => kernel_rfl) ⟨rfl, trivial⟩ (fun _ => ⟨rfl, by simp⟩)
    · refine sk_leaf ?_
      refine len_ro (by as_aux_lemma => kernel_rfl) 20 (s := 1) (n := a0.length) (c := fun i j => E3.cf (a0.getD i E3.z) j) (by as_aux_lemma => kernel_rfl) ?_; intro hl1_0
      refine len_row (by as_aux_lemma => kernel_rfl) 16576 (e := 28) (s := 1) (n := r4.1.length) (cs := E28.cR r4.1) (by as_aux_lemma => kernel_rfl) (Elem.cR_length _ _) ?_; intro hl1_1
      refine len_row (by as_aux_lemma => kernel_rfl) 16577 (e := 67) (s := 2) (n := r4.2.Kept.length) (cs := E67.cR r4.2.Kept) (by as_aux_lemma => kernel_rfl) (Elem.cR_length _ _) ?_; intro hl1_2
      refine loop_ok (by as_aux_lemma => kernel_rfl) (X := Nat × Int × Nat) (fun x => keep_NestQuiet_l1 a0 r1 r4 x.1 x.2.1 x.2.2 = some r) (fun x => x.1) (fun x => mk 48 [(2, .pv (.raw (.bool false))), (3, .row 0 1 0 r4.1.length), (5, .pv (.raw (.int .i64 x.2.1))), (20, .pv ((E3.ro a0))), (21, .pv (.raw (.int .i64 ((a0.length : Nat) : Int)))), (22, .pv (.raw (.int .i64 ((x.2.2 : Nat) : Int))))] [(0, .row 28 1 (E28.cR r4.1))]) (FUEL, 0, 0) h ?_ ?_
      · exact sub_ok (ρ := [(0, some 16576)]) (l := [false = false, 0 = 0, r4.1.length = r4.1.length, (0 : Int) = 0, a0.length = a0.length, ∀ i, i < a0.length → ∀ j, j < 1 → E3.cf (a0.getD i E3.z) j = E3.cf (a0.getD i E3.z) j, (((a0.length : Nat) : Int) : Int) = ((a0.length : Nat) : Int), (0 : Int) = ((0 : Nat) : Int), E28.cR r4.1 = E28.cR r4.1, AllPv (E28.cR r4.1)]) (by as_aux_lemma => kernel_rfl) ⟨rfl, rfl, rfl, rfl, rfl, fun _ _ _ _ => rfl, rfl, (by first | rfl | simp), rfl, (Elem.cR_pv _ _), trivial⟩
      · clear h; rintro ⟨n, x7, k8⟩ h p1 hp1
        obtain _ | n := n
        · cases (show (none : Option (Bool)) = some r from h)
        have h : keep_NestQuiet_l1 a0 r1 r4 (n + 1) x7 k8 = some r := h
        unfold keep_NestQuiet_l1 at h
        refine seg tabOk mixed 4000 (S := .br (decide ((((k8 : Nat) : Int) : Int) < ((a0.length : Nat) : Int))) (.and (0 ≤ (((k8 : Nat) : Int) : Int) ∧ ((k8 : Nat) : Int) < ((a0.length : Nat) : Int)) (.and (0 ≤ (((k8 : Nat) : Int) : Int) ∧ ((k8 : Nat) : Int) < ((r4.1.length : Nat) : Int)) (.leaf 0))) (.leaf 1)) (by as_aux_lemma => kernel_rfl) ?_
        refine br_ h ?_ ?_ <;> clear h <;> intro c9 h
        · refine sk_and ⟨Int.natCast_nonneg _, of_decide_eq_true c9⟩ ?_
          refine gd_ h ?_; clear h; intro g11 h
          refine sk_leaf ?_
          refine ld_ok (d := 30) (id := 0) (i := (0 + k8)) (j := 0) (e := 28) (n := 1) E28 (xs := r4.1) (by as_aux_lemma => kernel_rfl) (by as_aux_lemma => kernel_rfl) (by first | omega | (simp at *; omega)) (by decide) ?_
          refine seg tabOk mixed 4000 (S := .br (((r4.1.getD (0 + k8) 0) : Int) != 0) (.leaf 0) (.br (((a0.getD k8 0) : Int) == 3) (.br (decide ((x7 : Int) > 0)) (.leaf 1) (.leaf 2)) (.br (((a0.getD k8 0) : Int) == 1) (.leaf 3) (.leaf 4)))) (by as_aux_lemma => kernel_rfl) ?_
          refine br_ h ?_ ?_ <;> clear h <;> intro c12 h
          · refine sk_leaf ?_
            refine back_ok (p := p1) (by as_aux_lemma => kernel_rfl) (hp1 (n, x7, k8 + 1) _ h (Nat.lt_succ_self n) ?_)
            exact sub_ok (ρ := [(0, some 0)]) (l := [false = false, 0 = 0, r4.1.length = r4.1.length, (x7 : Int) = x7, a0.length = a0.length, ∀ i, i < a0.length → ∀ j, j < 1 → E3.cf (a0.getD i E3.z) j = E3.cf (a0.getD i E3.z) j, (((a0.length : Nat) : Int) : Int) = ((a0.length : Nat) : Int), ((IntKind.i64.wrap (((k8 : Nat) : Int) + 1)) : Int) = (((k8 + 1) : Nat) : Int), E28.cR r4.1 = E28.cR r4.1, AllPv (E28.cR r4.1)]) (by as_aux_lemma => kernel_rfl) ⟨rfl, rfl, rfl, rfl, rfl, fun _ _ _ _ => rfl, rfl, (wrap_nat (Int.ofNat_lt.1 (of_decide_eq_true c9)) (by omega)), rfl, (Elem.cR_pv _ _), trivial⟩
          · refine br_ h ?_ ?_ <;> clear h <;> intro c13 h
            · refine br_ h ?_ ?_ <;> clear h <;> intro c14 h
              · refine sk_leaf ?_
                obtain rfl := some_ h
                exact end_ok [] Try.results4 (ps := [false = false]) (by as_aux_lemma => kernel_rfl) ⟨rfl, trivial⟩ (fun _ => ⟨rfl, by simp⟩)
              · refine sk_leaf ?_
                refine back_ok (p := p1) (by as_aux_lemma => kernel_rfl) (hp1 (n, (IntKind.i64.wrap (x7 + 1)), k8 + 1) _ h (Nat.lt_succ_self n) ?_)
                exact sub_ok (ρ := [(0, some 0)]) (l := [false = false, 0 = 0, r4.1.length = r4.1.length, ((IntKind.i64.wrap (x7 + 1)) : Int) = (IntKind.i64.wrap (x7 + 1)), a0.length = a0.length, ∀ i, i < a0.length → ∀ j, j < 1 → E3.cf (a0.getD i E3.z) j = E3.cf (a0.getD i E3.z) j, (((a0.length : Nat) : Int) : Int) = ((a0.length : Nat) : Int), ((IntKind.i64.wrap (((k8 : Nat) : Int) + 1)) : Int) = (((k8 + 1) : Nat) : Int), E28.cR r4.1 = E28.cR r4.1, AllPv (E28.cR r4.1)]) (by as_aux_lemma => kernel_rfl) ⟨rfl, rfl, rfl, rfl, rfl, fun _ _ _ _ => rfl, rfl, (wrap_nat (Int.ofNat_lt.1 (of_decide_eq_true c9)) (by omega)), rfl, (Elem.cR_pv _ _), trivial⟩
            · refine br_ h ?_ ?_ <;> clear h <;> intro c15 h
              · refine sk_leaf ?_
                refine back_ok (p := p1) (by as_aux_lemma => kernel_rfl) (hp1 (n, (IntKind.i64.wrap (x7 + 1)), k8 + 1) _ h (Nat.lt_succ_self n) ?_)
                exact sub_ok (ρ := [(0, some 0)]) (l := [false = false, 0 = 0, r4.1.length = r4.1.length, ((IntKind.i64.wrap (x7 + 1)) : Int) = (IntKind.i64.wrap (x7 + 1)), a0.length = a0.length, ∀ i, i < a0.length → ∀ j, j < 1 → E3.cf (a0.getD i E3.z) j = E3.cf (a0.getD i E3.z) j, (((a0.length : Nat) : Int) : Int) = ((a0.length : Nat) : Int), ((IntKind.i64.wrap (((k8 : Nat) : Int) + 1)) : Int) = (((k8 + 1) : Nat) : Int), E28.cR r4.1 = E28.cR r4.1, AllPv (E28.cR r4.1)]) (by as_aux_lemma => kernel_rfl) ⟨rfl, rfl, rfl, rfl, rfl, fun _ _ _ _ => rfl, rfl, (wrap_nat (Int.ofNat_lt.1 (of_decide_eq_true c9)) (by omega)), rfl, (Elem.cR_pv _ _), trivial⟩
              · refine sk_leaf ?_
                refine back_ok (p := p1) (by as_aux_lemma => kernel_rfl) (hp1 (n, (IntKind.i64.wrap (x7 - 1)), k8 + 1) _ h (Nat.lt_succ_self n) ?_)
                exact sub_ok (ρ := [(0, some 0)]) (l := [false = false, 0 = 0, r4.1.length = r4.1.length, ((IntKind.i64.wrap (x7 - 1)) : Int) = (IntKind.i64.wrap (x7 - 1)), a0.length = a0.length, ∀ i, i < a0.length → ∀ j, j < 1 → E3.cf (a0.getD i E3.z) j = E3.cf (a0.getD i E3.z) j, (((a0.length : Nat) : Int) : Int) = ((a0.length : Nat) : Int), ((IntKind.i64.wrap (((k8 : Nat) : Int) + 1)) : Int) = (((k8 + 1) : Nat) : Int), E28.cR r4.1 = E28.cR r4.1, AllPv (E28.cR r4.1)]) (by as_aux_lemma => kernel_rfl) ⟨rfl, rfl, rfl, rfl, rfl, fun _ _ _ _ => rfl, rfl, (wrap_nat (Int.ofNat_lt.1 (of_decide_eq_true c9)) (by omega)), rfl, (Elem.cR_pv _ _), trivial⟩
        · refine sk_leaf ?_
          obtain rfl := some_ h
          exact end_ok [] Try.results4 (ps := [(decide ((x7 : Int) ≥ 0)) = (decide ((x7 : Int) ≥ 0))]) (by as_aux_lemma => kernel_rfl) ⟨rfl, trivial⟩ (fun _ => ⟨rfl, by simp⟩)

set_option maxRecDepth 100000 in
theorem keep_NestEven_ok (a0 : (List Int)) (r : Bool) (h : keep_NestEven a0 = some r) {al : Bool} : PCalls Try.prog 5 [.pv ((E3.ro a0))] al (.pv (.raw (.bool r))) [] := by
  unfold keep_NestEven at h
  refine fn_ok tabOk Try.func5 (by as_aux_lemma => kernel_rfl) (by as_aux_lemma => kernel_rfl) Try.ntmps5 (by simp) ?_
  refine seg tabOk mixed 4000 (S := .leaf 0) (by as_aux_lemma => kernel_rfl) ?_
  refine sk_leaf ?_
  obtain ⟨r1, e2, h⟩ := bd_ h
  refine call_ok (d := some 8) (fn := 14) (ax := []) (args := []) (ps := []) (hb' := []) (by as_aux_lemma => kernel_rfl) (keep_alive7_ok  _ e2 (al := true)) (by as_aux_lemma => kernel_rfl) trivial (fun _ => (by as_aux_lemma => kernel_rfl)) (by simp) rfl (by as_aux_lemma => kernel_rfl) ?_
  refine seg tabOk mixed 4000 (S := .br (!r1) (.leaf 0) (.leaf 1)) (by as_aux_lemma => kernel_rfl) ?_
  refine br_ h ?_ ?_ <;> clear h <;> intro c3 h
  · refine sk_leaf ?_
    obtain rfl := some_ h
    exact end_ok [] Try.results5 (ps := [false = false]) (by as_aux_lemma => kernel_rfl) ⟨rfl, trivial⟩ (fun _ => ⟨rfl, by simp⟩)
  · refine sk_leaf ?_
    obtain ⟨r4, e5, h⟩ := bd_ h
    refine call_ok (d := some 12) (fn := 18) (ax := [.pv ((E3.ro a0))]) (args := [.pv ((E3.ro a0))]) (ps := [a0.length = a0.length, ∀ i, i < a0.length → ∀ j, j < 1 → E3.cf (a0.getD i E3.z) j = E3.cf (a0.getD i E3.z) j]) (hb' := [.row 28 1 (E28.cR r4.1), .row 67 2 (E67.cR r4.2.Kept)]) (by as_aux_lemma => kernel_rfl) (nest_Play_ok _ _ e5 (al := true)) (by as_aux_lemma => kernel_rfl) ⟨rfl, fun _ _ _ _ => rfl, trivial⟩ (fun _ => (by as_aux_lemma => kernel_rfl)) (by simp) (by simp only [List.map_cons, List.map_nil, Elem.row_up]) (by as_aux_lemma => kernel_rfl) ?_
    refine seg tabOk mixed 4000 (S := .leaf 0) (by as_aux_lemma => kernel_rfl) ?_
    refine sk_leaf ?_
    refine len_ro (by as_aux_lemma => kernel_rfl) 15 (s := 1) (n := a0.length) (c := fun i j => E3.cf (a0.getD i E3.z) j) (by as_aux_lemma => kernel_rfl) ?_; intro hl1_0
    refine len_row (by as_aux_lemma => kernel_rfl) 16576 (e := 28) (s := 1) (n := r4.1.length) (cs := E28.cR r4.1) (by as_aux_lemma => kernel_rfl) (Elem.cR_length _ _) ?_; intro hl1_1
    refine len_row (by as_aux_lemma => kernel_rfl) 16577 (e := 67) (s := 2) (n := r4.2.Kept.length) (cs := E67.cR r4.2.Kept) (by as_aux_lemma => kernel_rfl) (Elem.cR_length _ _) ?_; intro hl1_2
    refine loop_ok (by as_aux_lemma => kernel_rfl) (X := Nat × Int × Nat) (fun x => keep_NestEven_l1 a0 r1 r4 x.1 x.2.1 x.2.2 = some r) (fun x => x.1) (fun x => mk 60 [(2, .pv (.raw (.bool false))), (3, .row 0 1 0 r4.1.length), (4, .ptr 1 0), (5, .pv (.raw (.int .i64 x.2.1))), (15, .pv ((E3.ro a0))), (16, .pv (.raw (.int .i64 ((a0.length : Nat) : Int)))), (17, .pv (.raw (.int .i64 ((x.2.2 : Nat) : Int))))] [(0, .row 28 1 (E28.cR r4.1)), (1, .box [.pv (.raw (.bool r4.2.On)), .row 2 2 0 r4.2.Kept.length]), (2, .row 67 2 (E67.cR r4.2.Kept))]) (FUEL, 0, 0) h ?_ ?_
    · exact sub_ok (ρ := [(0, some 16576), (1, some 16448), (2, some 16577)]) (l := [false = false, 0 = 0, r4.1.length = r4.1.length, 0 = 0, (0 : Int) = 0, a0.length = a0.length, ∀ i, i < a0.length → ∀ j, j < 1 → E3.cf (a0.getD i E3.z) j = E3.cf (a0.getD i E3.z) j, (((a0.length : Nat) : Int) : Int) = ((a0.length : Nat) : Int), (0 : Int) = ((0 : Nat) : Int), E28.cR r4.1 = E28.cR r4.1, AllPv (E28.cR r4.1), r4.2.On = r4.2.On, 0 = 0, r4.2.Kept.length = r4.2.Kept.length, E67.cR r4.2.Kept = E67.cR r4.2.Kept, AllPv (E67.cR r4.2.Kept)]) (by as_aux_lemma => kernel_rfl) ⟨rfl, rfl, rfl, rfl, rfl, rfl, fun _ _ _ _ => rfl, rfl, (by first | rfl | simp), rfl, (Elem.cR_pv _ _), rfl, rfl, rfl, rfl, (Elem.cR_pv _ _), trivial⟩
    · clear h; rintro ⟨n, x6, k7⟩ h p1 hp1
      obtain _ | n := n
      · cases (show (none : Option (Bool)) = some r from h)
      have h : keep_NestEven_l1 a0 r1 r4 (n + 1) x6 k7 = some r := h
      unfold keep_NestEven_l1 at h
      refine seg tabOk mixed 4000 (S := .br (decide ((((k7 : Nat) : Int) : Int) < ((a0.length : Nat) : Int))) (.and (0 ≤ (((k7 : Nat) : Int) : Int) ∧ ((k7 : Nat) : Int) < ((a0.length : Nat) : Int)) (.and (((decide ((((k7 : Nat) : Int) : Int) < ((r4.1.length : Nat) : Int))) = true → ((decide ((((k7 : Nat) : Int) : Int) < ((r4.1.length : Nat) : Int))) = true))) (.and (((decide ((((k7 : Nat) : Int) : Int) < ((r4.1.length : Nat) : Int))) = true → ((decide ((((k7 : Nat) : Int) : Int) < ((r4.1.length : Nat) : Int))) = true))) (.and (((decide ((((k7 : Nat) : Int) : Int) < ((r4.1.length : Nat) : Int))) = true → (0 ≤ (((k7 : Nat) : Int) : Int) ∧ ((k7 : Nat) : Int) < ((r4.1.length : Nat) : Int)))) (.leaf 0))))) (.and ((((((r4.2.Kept.length : Nat) : Int) : Int) == x6) = true → (((((r4.2.Kept.length : Nat) : Int) : Int) == x6) = true))) (.and ((((((r4.2.Kept.length : Nat) : Int) : Int) == x6) = true → (((((r4.2.Kept.length : Nat) : Int) : Int) == x6) = true))) (.and ((((((r4.2.Kept.length : Nat) : Int) : Int) == x6) = true → (((((r4.2.Kept.length : Nat) : Int) : Int) == x6) = true))) (.and ((((((r4.2.Kept.length : Nat) : Int) : Int) == x6) = true → (((((r4.2.Kept.length : Nat) : Int) : Int) == x6) = true))) (.and (((((r4.2.Kept.length : Nat) : Int) : Int) == x6) = true → ((((r4.2.Kept.length : Nat) : Int) : Int) == x6) = true) (.leaf 1))))))) (by as_aux_lemma => kernel_rfl) ?_
      refine br_ h ?_ ?_ <;> clear h <;> intro c8 h
      · refine sk_and ⟨Int.natCast_nonneg _, of_decide_eq_true c8⟩ ?_
        refine sk_and ((by decide : ∀ y0 : Bool, ((y0 = true) → (y0 = true))) (decide ((((k7 : Nat) : Int) : Int) < ((r4.1.length : Nat) : Int)))) ?_
        refine sk_and ((by decide : ∀ y0 : Bool, ((y0 = true) → (y0 = true))) (decide ((((k7 : Nat) : Int) : Int) < ((r4.1.length : Nat) : Int)))) ?_
        refine gd_ h ?_; clear h; intro g12 h
        refine sk_leaf ?_
        refine ldG_ok (d := 30) (id := 0) (i := (0 + k7)) (j := 0) (e := 28) (n := 1) (g := (decide ((((k7 : Nat) : Int) : Int) < ((r4.1.length : Nat) : Int)))) (ws := [(decide ((((k7 : Nat) : Int) : Int) < ((r4.1.length : Nat) : Int))) = true]) E28 (xs := r4.1) (by as_aux_lemma => kernel_rfl) (fun hg => ⟨((by decide : ∀ y0 : Bool, ((y0 = true) → (y0 = true))) (decide ((((k7 : Nat) : Int) : Int) < ((r4.1.length : Nat) : Int)))) hg, trivial⟩) (by as_aux_lemma => kernel_rfl) (fun hg => (by simp at *; omega)) (by decide) ?_
        refine seg tabOk mixed 4000 (S := .and (((decide ((((k7 : Nat) : Int) : Int) < ((r4.1.length : Nat) : Int))) = true → ((decide ((((k7 : Nat) : Int) : Int) < ((r4.1.length : Nat) : Int))) = true))) (.and ((decide ((((k7 : Nat) : Int) : Int) < ((r4.1.length : Nat) : Int))) = true → (decide ((((k7 : Nat) : Int) : Int) < ((r4.1.length : Nat) : Int))) = true) (.br ((decide ((((k7 : Nat) : Int) : Int) < ((r4.1.length : Nat) : Int))) && (((r4.1.getD (0 + k7) 0) : Int) == 0)) (.and (((!(((a0.getD k7 0) : Int) == 1)) = true → ((!(((a0.getD k7 0) : Int) == 1)) = true))) (.and ((((a0.getD k7 0) : Int) == 1) = false → (!(((a0.getD k7 0) : Int) == 1)) = true) (.br ((((a0.getD k7 0) : Int) == 1) || (((a0.getD k7 0) : Int) == 3)) (.leaf 0) (.leaf 1)))) (.leaf 2)))) (by as_aux_lemma => kernel_rfl) ?_
        refine sk_and ((by decide : ∀ y0 : Bool, ((y0 = true) → (y0 = true))) (decide ((((k7 : Nat) : Int) : Int) < ((r4.1.length : Nat) : Int)))) ?_
        refine sk_and ((by decide : ∀ y0 : Bool, ((y0 = true) → (y0 = true))) (decide ((((k7 : Nat) : Int) : Int) < ((r4.1.length : Nat) : Int)))) ?_
        refine br_ h ?_ ?_ <;> clear h <;> intro c15 h
        · refine sk_and ((by decide : ∀ y0 : Bool, (((!y0) = true) → ((!y0) = true))) (((a0.getD k7 0) : Int) == 1)) ?_
          refine sk_and ((by decide : ∀ y0 : Bool, ((y0 = false) → ((!y0) = true))) (((a0.getD k7 0) : Int) == 1)) ?_
          refine br_ h ?_ ?_ <;> clear h <;> intro c18 h
          · refine sk_leaf ?_
            refine back_ok (p := p1) (by as_aux_lemma => kernel_rfl) (hp1 (n, (IntKind.i64.wrap (x6 + 1)), k7 + 1) _ h (Nat.lt_succ_self n) ?_)
            exact sub_ok (ρ := [(0, some 0), (1, some 1), (2, some 2)]) (l := [false = false, 0 = 0, r4.1.length = r4.1.length, 0 = 0, ((IntKind.i64.wrap (x6 + 1)) : Int) = (IntKind.i64.wrap (x6 + 1)), a0.length = a0.length, ∀ i, i < a0.length → ∀ j, j < 1 → E3.cf (a0.getD i E3.z) j = E3.cf (a0.getD i E3.z) j, (((a0.length : Nat) : Int) : Int) = ((a0.length : Nat) : Int), ((IntKind.i64.wrap (((k7 : Nat) : Int) + 1)) : Int) = (((k7 + 1) : Nat) : Int), E28.cR r4.1 = E28.cR r4.1, AllPv (E28.cR r4.1), r4.2.On = r4.2.On, 0 = 0, r4.2.Kept.length = r4.2.Kept.length, E67.cR r4.2.Kept = E67.cR r4.2.Kept, AllPv (E67.cR r4.2.Kept)]) (by as_aux_lemma => kernel_rfl) ⟨rfl, rfl, rfl, rfl, rfl, rfl, fun _ _ _ _ => rfl, rfl, (wrap_nat (Int.ofNat_lt.1 (of_decide_eq_true c8)) (by omega)), rfl, (Elem.cR_pv _ _), rfl, rfl, rfl, rfl, (Elem.cR_pv _ _), trivial⟩
          · refine sk_leaf ?_
            refine back_ok (p := p1) (by as_aux_lemma => kernel_rfl) (hp1 (n, (IntKind.i64.wrap (x6 - 1)), k7 + 1) _ h (Nat.lt_succ_self n) ?_)
            exact sub_ok (ρ := [(0, some 0), (1, some 1), (2, some 2)]) (l := [false = false, 0 = 0, r4.1.length = r4.1.length, 0 = 0, ((IntKind.i64.wrap (x6 - 1)) : Int) = (IntKind.i64.wrap (x6 - 1)), a0.length = a0.length, ∀ i, i < a0.length → ∀ j, j < 1 → E3.cf (a0.getD i E3.z) j = E3.cf (a0.getD i E3.z) j, (((a0.length : Nat) : Int) : Int) = ((a0.length : Nat) : Int), ((IntKind.i64.wrap (((k7 : Nat) : Int) + 1)) : Int) = (((k7 + 1) : Nat) : Int), E28.cR r4.1 = E28.cR r4.1, AllPv (E28.cR r4.1), r4.2.On = r4.2.On, 0 = 0, r4.2.Kept.length = r4.2.Kept.length, E67.cR r4.2.Kept = E67.cR r4.2.Kept, AllPv (E67.cR r4.2.Kept)]) (by as_aux_lemma => kernel_rfl) ⟨rfl, rfl, rfl, rfl, rfl, rfl, fun _ _ _ _ => rfl, rfl, (wrap_nat (Int.ofNat_lt.1 (of_decide_eq_true c8)) (by omega)), rfl, (Elem.cR_pv _ _), rfl, rfl, rfl, rfl, (Elem.cR_pv _ _), trivial⟩
        · refine sk_leaf ?_
          refine back_ok (p := p1) (by as_aux_lemma => kernel_rfl) (hp1 (n, x6, k7 + 1) _ h (Nat.lt_succ_self n) ?_)
          exact sub_ok (ρ := [(0, some 0), (1, some 1), (2, some 2)]) (l := [false = false, 0 = 0, r4.1.length = r4.1.length, 0 = 0, (x6 : Int) = x6, a0.length = a0.length, ∀ i, i < a0.length → ∀ j, j < 1 → E3.cf (a0.getD i E3.z) j = E3.cf (a0.getD i E3.z) j, (((a0.length : Nat) : Int) : Int) = ((a0.length : Nat) : Int), ((IntKind.i64.wrap (((k7 : Nat) : Int) + 1)) : Int) = (((k7 + 1) : Nat) : Int), E28.cR r4.1 = E28.cR r4.1, AllPv (E28.cR r4.1), r4.2.On = r4.2.On, 0 = 0, r4.2.Kept.length = r4.2.Kept.length, E67.cR r4.2.Kept = E67.cR r4.2.Kept, AllPv (E67.cR r4.2.Kept)]) (by as_aux_lemma => kernel_rfl) ⟨rfl, rfl, rfl, rfl, rfl, rfl, fun _ _ _ _ => rfl, rfl, (wrap_nat (Int.ofNat_lt.1 (of_decide_eq_true c8)) (by omega)), rfl, (Elem.cR_pv _ _), rfl, rfl, rfl, rfl, (Elem.cR_pv _ _), trivial⟩
      · refine sk_and ((by decide : ∀ y0 : Bool, ((y0 = true) → (y0 = true))) ((((r4.2.Kept.length : Nat) : Int) : Int) == x6)) ?_
        refine sk_and ((by decide : ∀ y0 : Bool, ((y0 = true) → (y0 = true))) ((((r4.2.Kept.length : Nat) : Int) : Int) == x6)) ?_
        refine sk_and ((by decide : ∀ y0 : Bool, ((y0 = true) → (y0 = true))) ((((r4.2.Kept.length : Nat) : Int) : Int) == x6)) ?_
        refine sk_and ((by decide : ∀ y0 : Bool, ((y0 = true) → (y0 = true))) ((((r4.2.Kept.length : Nat) : Int) : Int) == x6)) ?_
        refine sk_and ((by decide : ∀ y0 : Bool, ((y0 = true) → (y0 = true))) ((((r4.2.Kept.length : Nat) : Int) : Int) == x6)) ?_
        refine sk_leaf ?_
        obtain ⟨r24, e25, h⟩ := bd_ h
        refine callG_ok (d := some 58) (fn := 17) (ax := [.agg [.pv (.raw (.bool r4.2.On)), .row 2 2 0 r4.2.Kept.length]]) (args := [.agg [.pv (.raw (.bool r4.2.On)), .pv ((E67.ro r4.2.Kept))]]) (g := (((((r4.2.Kept.length : Nat) : Int) : Int) == x6) && (r4.2.On == ((x6 : Int) == 0)))) (ws := [(((((r4.2.Kept.length : Nat) : Int) : Int) == x6) && (r4.2.On == ((x6 : Int) == 0))) = true]) (ps := [r4.2.On = r4.2.On, r4.2.Kept.length = r4.2.Kept.length, rowQ (E67.cR r4.2.Kept) 2 0 r4.2.Kept.length (fun i j => E67.cf (r4.2.Kept.getD i E67.z) j)]) (by as_aux_lemma => kernel_rfl) (fun hg => ⟨((by decide : ∀ y0 y1 : Bool, (((y0 && y1) = true) → ((y0 && y1) = true))) ((((r4.2.Kept.length : Nat) : Int) : Int) == x6) (r4.2.On == ((x6 : Int) == 0))) hg, trivial⟩) (fun hg => nest_Right_ok _ _ (by rw [hg] at e25; exact e25) (al := false)) (by as_aux_lemma => kernel_rfl) (fun _ => ⟨rfl, (by first | rfl | simp | (simp; omega)), E67.rowQ_all r4.2.Kept rfl, trivial⟩) (fun hx => by cases hx) ?_
        refine seg tabOk mixed 4000 (S := .and ((((((r4.2.Kept.length : Nat) : Int) : Int) == x6) && (r4.2.On == ((x6 : Int) == 0))) = true → (((((r4.2.Kept.length : Nat) : Int) : Int) == x6) && (r4.2.On == ((x6 : Int) == 0))) = true) (.leaf 0)) (by as_aux_lemma => kernel_rfl) ?_
        refine sk_and ((by decide : ∀ y0 y1 : Bool, (((y0 && y1) = true) → ((y0 && y1) = true))) ((((r4.2.Kept.length : Nat) : Int) : Int) == x6) (r4.2.On == ((x6 : Int) == 0))) ?_
        refine sk_leaf ?_
        obtain rfl := some_ h
        exact end_ok [] Try.results5 (ps := [((((((r4.2.Kept.length : Nat) : Int) : Int) == x6) && (r4.2.On == ((x6 : Int) == 0))) && r24) = ((((((r4.2.Kept.length : Nat) : Int) : Int) == x6) && (r4.2.On == ((x6 : Int) == 0))) && r24)]) (by as_aux_lemma => kernel_rfl) ⟨rfl, trivial⟩ (fun _ => ⟨rfl, by simp⟩)

set_option maxRecDepth 100000 in
theorem clock_Extend_ok (a0 : (List Int)) (r : (List Int) × Int) (h : clock_Extend a0 = some r) {al : Bool} : PCalls Try.prog 20 [.pv ((E3.ro a0))] al (.tup [.row 0 1 0 r.1.length, .pv (.raw (.int .i64 r.2))]) [.row 3 1 (E3.cR r.1)] := by
  unfold clock_Extend at h
  refine fn_ok tabOk Try.func20 (by as_aux_lemma => kernel_rfl) (by as_aux_lemma => kernel_rfl) Try.ntmps20 (by simp) ?_
  refine seg tabOk mixed 4000 (S := .leaf 0) (by as_aux_lemma => kernel_rfl) ?_
  refine sk_leaf ?_
  refine len_ro (by as_aux_lemma => kernel_rfl) 8 (s := 1) (n := a0.length) (c := fun i j => E3.cf (a0.getD i E3.z) j) (by as_aux_lemma => kernel_rfl) ?_; intro hl1_0
  refine loop_ok (by as_aux_lemma => kernel_rfl) (X := Nat × List Int × Int × Nat) (fun x => clock_Extend_l1 a0 x.1 x.2.1 x.2.2.1 x.2.2.2 = some r) (fun x => x.1) (fun x => mk 38 [(2, .pv (.raw (.slice none 0 0))), (3, .pv (.raw (.int .i64 0))), (4, .row 0 1 0 x.2.1.length), (5, .pv (.raw (.int .i64 x.2.2.1))), (8, .pv ((E3.ro a0))), (9, .pv (.raw (.int .i64 ((a0.length : Nat) : Int)))), (10, .pv (.raw (.int .i64 ((x.2.2.2 : Nat) : Int))))] [(0, .row 3 1 (E3.cR x.2.1))]) (FUEL, ([] : List Int), 0, 0) h ?_ ?_
  · exact sub_ok (ρ := [(0, none)]) (l := [(0 : Int) = 0, 0 = 0, (([] : List Int).length) = 0, (0 : Int) = 0, a0.length = a0.length, ∀ i, i < a0.length → ∀ j, j < 1 → E3.cf (a0.getD i E3.z) j = E3.cf (a0.getD i E3.z) j, (((a0.length : Nat) : Int) : Int) = ((a0.length : Nat) : Int), (0 : Int) = ((0 : Nat) : Int), E3.cR ([] : List Int) = []]) (by as_aux_lemma => kernel_rfl) ⟨rfl, rfl, (by first | rfl | simp), rfl, rfl, fun _ _ _ _ => rfl, rfl, (by first | rfl | simp), rfl, trivial⟩
  · clear h; rintro ⟨n, l1, x2, k3⟩ h p1 hp1
    obtain _ | n := n
    · cases (show (none : Option ((List Int) × Int)) = some r from h)
    have h : clock_Extend_l1 a0 (n + 1) l1 x2 k3 = some r := h
    unfold clock_Extend_l1 at h
    refine seg tabOk mixed 4000 (S := .br (decide ((((k3 : Nat) : Int) : Int) < ((a0.length : Nat) : Int))) (.and (0 ≤ (((k3 : Nat) : Int) : Int) ∧ ((k3 : Nat) : Int) < ((a0.length : Nat) : Int)) (.and (((!(decide (((a0.getD k3 0) : Int) < 0))) = true → ((!(decide (((a0.getD k3 0) : Int) < 0))) = true))) (.and ((decide (((a0.getD k3 0) : Int) < 0)) = false → (!(decide (((a0.getD k3 0) : Int) < 0))) = true) (.br ((decide (((a0.getD k3 0) : Int) < 0)) || (decide (((a0.getD k3 0) : Int) ≥ 65536))) (.leaf 0) (.br ((((k3 : Nat) : Int) : Int) == 0) (.leaf 1) (.and ((65536 : Int) ≠ 0) (.and ((65536 : Int) ≠ 0) (.leaf 2)))))))) (.leaf 3)) (by as_aux_lemma => kernel_rfl) ?_
    refine br_ h ?_ ?_ <;> clear h <;> intro c4 h
    · refine sk_and ⟨Int.natCast_nonneg _, of_decide_eq_true c4⟩ ?_
      refine sk_and ((by decide : ∀ y0 : Bool, (((!y0) = true) → ((!y0) = true))) (decide (((a0.getD k3 0) : Int) < 0))) ?_
      refine sk_and ((by decide : ∀ y0 : Bool, ((y0 = false) → ((!y0) = true))) (decide (((a0.getD k3 0) : Int) < 0))) ?_
      refine br_ h ?_ ?_ <;> clear h <;> intro c8 h
      · refine sk_leaf ?_
        obtain rfl := some_ h
        exact end_ok [(0, none)] Try.results20 (ps := [0 = 0, ([] : List Int).length = 0, (2 : Int) = 2, E3.cR [] = []]) (by as_aux_lemma => kernel_rfl) ⟨rfl, rfl, rfl, rfl, trivial⟩ (fun _ => ⟨rfl, by simp only [List.mem_cons, List.not_mem_nil, or_false, forall_eq_or_imp, forall_eq]; exact Elem.cR_bald E3_raw _⟩)
      · refine br_ h ?_ ?_ <;> clear h <;> intro c9 h
        · refine sk_leaf ?_
          refine bs_ok (d := 34) (e := 3) (s := 1) (n := 1) (cs := [.pv (.raw (.int .i64 (a0.getD k3 0)))]) (cs' := E3.cR [(a0.getD k3 0)]) (by as_aux_lemma => kernel_rfl) rfl (by as_aux_lemma => kernel_rfl) ?_
          refine seg tabOk mixed 4000 (S := .leaf 0) (by as_aux_lemma => kernel_rfl) ?_
          refine sk_leaf ?_
          obtain ⟨g10, h⟩ := if_ h
          refine app_ok (d := 35) (e := 3) (s := 1) (b := 8) (x := .row 0 1 0 l1.length) (y := .row 16928 1 0 1) E3 (xs := l1) (ys := [(a0.getD k3 0)]) (by as_aux_lemma => kernel_rfl) rfl (.row 0 l1 l1.length rfl (by as_aux_lemma => kernel_rfl)) (.all 16928 3 [(a0.getD k3 0)] 1 rfl (by as_aux_lemma => kernel_rfl)) g10 (by as_aux_lemma => kernel_rfl) ?_
          refine seg tabOk mixed 4000 (S := .leaf 0) (by as_aux_lemma => kernel_rfl) ?_
          refine sk_leaf ?_
          refine back_ok (p := p1) (by as_aux_lemma => kernel_rfl) (hp1 (n, (l1 ++ [(a0.getD k3 0)]), (a0.getD k3 0), k3 + 1) _ h (Nat.lt_succ_self n) ?_)
          exact sub_ok (ρ := [(0, some 16944)]) (l := [(0 : Int) = 0, 0 = 0, ((l1 ++ [(a0.getD k3 0)]).length) = ((l1 ++ [(a0.getD k3 0)]).length), ((a0.getD k3 0) : Int) = (a0.getD k3 0), a0.length = a0.length, ∀ i, i < a0.length → ∀ j, j < 1 → E3.cf (a0.getD i E3.z) j = E3.cf (a0.getD i E3.z) j, (((a0.length : Nat) : Int) : Int) = ((a0.length : Nat) : Int), ((IntKind.i64.wrap (((k3 : Nat) : Int) + 1)) : Int) = (((k3 + 1) : Nat) : Int), E3.cR (l1 ++ [(a0.getD k3 0)]) = E3.cR (l1 ++ [(a0.getD k3 0)]), AllPv (E3.cR (l1 ++ [(a0.getD k3 0)]))]) (by as_aux_lemma => kernel_rfl) ⟨rfl, rfl, rfl, rfl, rfl, fun _ _ _ _ => rfl, rfl, (wrap_nat (Int.ofNat_lt.1 (of_decide_eq_true c4)) (by omega)), rfl, (Elem.cR_pv _ _), trivial⟩
        · refine sk_and (by decide) ?_
          refine sk_and (by decide) ?_
          refine sk_leaf ?_
          refine bs_ok (d := 34) (e := 3) (s := 1) (n := 1) (cs := [.pv (.raw (.int .i64 (IntKind.i64.wrap (x2 + (Int.tmod (IntKind.i64.wrap ((IntKind.i64.wrap ((a0.getD k3 0) - (Int.tmod x2 65536))) + 65536)) 65536)))))]) (cs' := E3.cR [(IntKind.i64.wrap (x2 + (Int.tmod (IntKind.i64.wrap ((IntKind.i64.wrap ((a0.getD k3 0) - (Int.tmod x2 65536))) + 65536)) 65536)))]) (by as_aux_lemma => kernel_rfl) rfl (by as_aux_lemma => kernel_rfl) ?_
          refine seg tabOk mixed 4000 (S := .leaf 0) (by as_aux_lemma => kernel_rfl) ?_
          refine sk_leaf ?_
          obtain ⟨g13, h⟩ := if_ h
          refine app_ok (d := 35) (e := 3) (s := 1) (b := 8) (x := .row 0 1 0 l1.length) (y := .row 16928 1 0 1) E3 (xs := l1) (ys := [(IntKind.i64.wrap (x2 + (Int.tmod (IntKind.i64.wrap ((IntKind.i64.wrap ((a0.getD k3 0) - (Int.tmod x2 65536))) + 65536)) 65536)))]) (by as_aux_lemma => kernel_rfl) rfl (.row 0 l1 l1.length rfl (by as_aux_lemma => kernel_rfl)) (.all 16928 3 [(IntKind.i64.wrap (x2 + (Int.tmod (IntKind.i64.wrap ((IntKind.i64.wrap ((a0.getD k3 0) - (Int.tmod x2 65536))) + 65536)) 65536)))] 1 rfl (by as_aux_lemma => kernel_rfl)) g13 (by as_aux_lemma => kernel_rfl) ?_
          refine seg tabOk mixed 4000 (S := .leaf 0) (by as_aux_lemma => kernel_rfl) ?_
          refine sk_leaf ?_
          refine back_ok (p := p1) (by as_aux_lemma => kernel_rfl) (hp1 (n, (l1 ++ [(IntKind.i64.wrap (x2 + (Int.tmod (IntKind.i64.wrap ((IntKind.i64.wrap ((a0.getD k3 0) - (Int.tmod x2 65536))) + 65536)) 65536)))]), (IntKind.i64.wrap (x2 + (Int.tmod (IntKind.i64.wrap ((IntKind.i64.wrap ((a0.getD k3 0) - (Int.tmod x2 65536))) + 65536)) 65536))), k3 + 1) _ h (Nat.lt_succ_self n) ?_)
          exact sub_ok (ρ := [(0, some 16944)]) (l := [(0 : Int) = 0, 0 = 0, ((l1 ++ [(IntKind.i64.wrap (x2 + (Int.tmod (IntKind.i64.wrap ((IntKind.i64.wrap ((a0.getD k3 0) - (Int.tmod x2 65536))) + 65536)) 65536)))]).length) = ((l1 ++ [(IntKind.i64.wrap (x2 + (Int.tmod (IntKind.i64.wrap ((IntKind.i64.wrap ((a0.getD k3 0) - (Int.tmod x2 65536))) + 65536)) 65536)))]).length), ((IntKind.i64.wrap (x2 + (Int.tmod (IntKind.i64.wrap ((IntKind.i64.wrap ((a0.getD k3 0) - (Int.tmod x2 65536))) + 65536)) 65536))) : Int) = (IntKind.i64.wrap (x2 + (Int.tmod (IntKind.i64.wrap ((IntKind.i64.wrap ((a0.getD k3 0) - (Int.tmod x2 65536))) + 65536)) 65536))), a0.length = a0.length, ∀ i, i < a0.length → ∀ j, j < 1 → E3.cf (a0.getD i E3.z) j = E3.cf (a0.getD i E3.z) j, (((a0.length : Nat) : Int) : Int) = ((a0.length : Nat) : Int), ((IntKind.i64.wrap (((k3 : Nat) : Int) + 1)) : Int) = (((k3 + 1) : Nat) : Int), E3.cR (l1 ++ [(IntKind.i64.wrap (x2 + (Int.tmod (IntKind.i64.wrap ((IntKind.i64.wrap ((a0.getD k3 0) - (Int.tmod x2 65536))) + 65536)) 65536)))]) = E3.cR (l1 ++ [(IntKind.i64.wrap (x2 + (Int.tmod (IntKind.i64.wrap ((IntKind.i64.wrap ((a0.getD k3 0) - (Int.tmod x2 65536))) + 65536)) 65536)))]), AllPv (E3.cR (l1 ++ [(IntKind.i64.wrap (x2 + (Int.tmod (IntKind.i64.wrap ((IntKind.i64.wrap ((a0.getD k3 0) - (Int.tmod x2 65536))) + 65536)) 65536)))]))]) (by as_aux_lemma => kernel_rfl) ⟨rfl, rfl, rfl, rfl, rfl, fun _ _ _ _ => rfl, rfl, (wrap_nat (Int.ofNat_lt.1 (of_decide_eq_true c4)) (by omega)), rfl, (Elem.cR_pv _ _), trivial⟩
    · refine sk_leaf ?_
      obtain rfl := some_ h
      exact end_ok [(0, some 0)] Try.results20 (ps := [0 = 0, l1.length = l1.length, (0 : Int) = 0, E3.cR l1 = E3.cR l1, AllPv (E3.cR l1)]) (by as_aux_lemma => kernel_rfl) ⟨rfl, (by first | rfl | simp), rfl, rfl, (Elem.cR_pv _ _), trivial⟩ (fun _ => ⟨rfl, by simp only [List.mem_cons, List.not_mem_nil, or_false, forall_eq_or_imp, forall_eq]; exact Elem.cR_bald E3_raw _⟩)

set_option maxRecDepth 100000 in
theorem clock_Wrong_ok (a0 : Api_Rate) (r : Int) (h : clock_Wrong a0 = some r) {al : Bool} : PCalls Try.prog 35 [.agg [.pv (.raw (.int .i64 a0.Num)), .pv (.raw (.int .i64 a0.Den))]] al (.pv (.raw (.int .i64 r))) [] := by
  unfold clock_Wrong at h
  refine fn_ok tabOk Try.func35 (by as_aux_lemma => kernel_rfl) (by as_aux_lemma => kernel_rfl) Try.ntmps35 (by simp) ?_
  refine seg tabOk mixed 4000 (S := .and (((!(decide ((a0.Num : Int) < 1))) = true → ((!(decide ((a0.Num : Int) < 1))) = true))) (.and (((!(decide ((a0.Num : Int) < 1))) = true → ((!(decide ((a0.Num : Int) < 1))) = true))) (.and ((decide ((a0.Num : Int) < 1)) = false → (!(decide ((a0.Num : Int) < 1))) = true) (.and (((!((decide ((a0.Num : Int) < 1)) || (decide ((a0.Num : Int) > 1048576)))) = true → ((!((decide ((a0.Num : Int) < 1)) || (decide ((a0.Num : Int) > 1048576)))) = true))) (.and (((!((decide ((a0.Num : Int) < 1)) || (decide ((a0.Num : Int) > 1048576)))) = true → ((!((decide ((a0.Num : Int) < 1)) || (decide ((a0.Num : Int) > 1048576)))) = true))) (.and (((decide ((a0.Num : Int) < 1)) || (decide ((a0.Num : Int) > 1048576))) = false → (!((decide ((a0.Num : Int) < 1)) || (decide ((a0.Num : Int) > 1048576)))) = true) (.and (((!(((decide ((a0.Num : Int) < 1)) || (decide ((a0.Num : Int) > 1048576))) || (decide ((a0.Den : Int) < 1)))) = true → ((!(((decide ((a0.Num : Int) < 1)) || (decide ((a0.Num : Int) > 1048576))) || (decide ((a0.Den : Int) < 1)))) = true))) (.and (((!(((decide ((a0.Num : Int) < 1)) || (decide ((a0.Num : Int) > 1048576))) || (decide ((a0.Den : Int) < 1)))) = true → ((!(((decide ((a0.Num : Int) < 1)) || (decide ((a0.Num : Int) > 1048576))) || (decide ((a0.Den : Int) < 1)))) = true))) (.and ((((decide ((a0.Num : Int) < 1)) || (decide ((a0.Num : Int) > 1048576))) || (decide ((a0.Den : Int) < 1))) = false → (!(((decide ((a0.Num : Int) < 1)) || (decide ((a0.Num : Int) > 1048576))) || (decide ((a0.Den : Int) < 1)))) = true) (.br ((((decide ((a0.Num : Int) < 1)) || (decide ((a0.Num : Int) > 1048576))) || (decide ((a0.Den : Int) < 1))) || (decide ((a0.Den : Int) > 1048576))) (.leaf 0) (.leaf 1))))))))))) (by as_aux_lemma => kernel_rfl) ?_
  refine sk_and ((by decide : ∀ y0 : Bool, (((!y0) = true) → ((!y0) = true))) (decide ((a0.Num : Int) < 1))) ?_
  refine sk_and ((by decide : ∀ y0 : Bool, (((!y0) = true) → ((!y0) = true))) (decide ((a0.Num : Int) < 1))) ?_
  refine sk_and ((by decide : ∀ y0 : Bool, ((y0 = false) → ((!y0) = true))) (decide ((a0.Num : Int) < 1))) ?_
  refine sk_and ((by decide : ∀ y0 y1 : Bool, (((!(y0 || y1)) = true) → ((!(y0 || y1)) = true))) (decide ((a0.Num : Int) < 1)) (decide ((a0.Num : Int) > 1048576))) ?_
  refine sk_and ((by decide : ∀ y0 y1 : Bool, (((!(y0 || y1)) = true) → ((!(y0 || y1)) = true))) (decide ((a0.Num : Int) < 1)) (decide ((a0.Num : Int) > 1048576))) ?_
  refine sk_and ((by decide : ∀ y0 y1 : Bool, (((y0 || y1) = false) → ((!(y0 || y1)) = true))) (decide ((a0.Num : Int) < 1)) (decide ((a0.Num : Int) > 1048576))) ?_
  refine sk_and ((by decide : ∀ y0 y1 y2 : Bool, (((!((y0 || y1) || y2)) = true) → ((!((y0 || y1) || y2)) = true))) (decide ((a0.Num : Int) < 1)) (decide ((a0.Num : Int) > 1048576)) (decide ((a0.Den : Int) < 1))) ?_
  refine sk_and ((by decide : ∀ y0 y1 y2 : Bool, (((!((y0 || y1) || y2)) = true) → ((!((y0 || y1) || y2)) = true))) (decide ((a0.Num : Int) < 1)) (decide ((a0.Num : Int) > 1048576)) (decide ((a0.Den : Int) < 1))) ?_
  refine sk_and ((by decide : ∀ y0 y1 y2 : Bool, ((((y0 || y1) || y2) = false) → ((!((y0 || y1) || y2)) = true))) (decide ((a0.Num : Int) < 1)) (decide ((a0.Num : Int) > 1048576)) (decide ((a0.Den : Int) < 1))) ?_
  refine br_ h ?_ ?_ <;> clear h <;> intro c10 h
  · refine sk_leaf ?_
    obtain rfl := some_ h
    exact end_ok [] Try.results35 (ps := [(2 : Int) = 2]) (by as_aux_lemma => kernel_rfl) ⟨rfl, trivial⟩ (fun _ => ⟨rfl, by simp⟩)
  · refine sk_leaf ?_
    obtain rfl := some_ h
    exact end_ok [] Try.results35 (ps := [(0 : Int) = 0]) (by as_aux_lemma => kernel_rfl) ⟨rfl, trivial⟩ (fun _ => ⟨rfl, by simp⟩)

set_option maxRecDepth 100000 in
theorem clock_Steps_1_ok (a0 : Int) (r : Bool) (h : clock_Steps_1 a0 = some r) {al : Bool} : PCalls Try.prog 37 [.pv (.raw (.int .i64 a0))] al (.pv (.raw (.bool r))) [] := by
  unfold clock_Steps_1 at h
  refine fn_ok tabOk Try.func37 (by as_aux_lemma => kernel_rfl) (by as_aux_lemma => kernel_rfl) Try.ntmps37 (by simp) ?_
  refine seg tabOk mixed 4000 (S := .and (((!(decide ((a0 : Int) < 0))) = true → ((!(decide ((a0 : Int) < 0))) = true))) (.and ((decide ((a0 : Int) < 0)) = false → (!(decide ((a0 : Int) < 0))) = true) (.leaf 0))) (by as_aux_lemma => kernel_rfl) ?_
  refine sk_and ((by decide : ∀ y0 : Bool, (((!y0) = true) → ((!y0) = true))) (decide ((a0 : Int) < 0))) ?_
  refine sk_and ((by decide : ∀ y0 : Bool, ((y0 = false) → ((!y0) = true))) (decide ((a0 : Int) < 0))) ?_
  refine sk_leaf ?_
  obtain rfl := some_ h
  exact end_ok [] Try.results37 (ps := [((decide ((a0 : Int) < 0)) || (decide ((a0 : Int) > 1073741824))) = ((decide ((a0 : Int) < 0)) || (decide ((a0 : Int) > 1073741824)))]) (by as_aux_lemma => kernel_rfl) ⟨rfl, trivial⟩ (fun _ => ⟨rfl, by simp⟩)

set_option maxRecDepth 100000 in
theorem slices_IndexFunc_int_clock_Steps_1_ok (a0 : (List Int)) (r : Int) (h : slices_IndexFunc_int_clock_Steps_1 a0 = some r) {al : Bool} : PCalls Try.prog 39 [.pv ((E3.ro a0)), .fn 37 []] al (.pv (.raw (.int .i64 r))) [] := by
  unfold slices_IndexFunc_int_clock_Steps_1 at h
  refine fn_ok tabOk Try.func39 (by as_aux_lemma => kernel_rfl) (by as_aux_lemma => kernel_rfl) Try.ntmps39 (by simp) ?_
  refine seg tabOk mixed 4000 (S := .leaf 0) (by as_aux_lemma => kernel_rfl) ?_
  refine sk_leaf ?_
  refine len_ro (by as_aux_lemma => kernel_rfl) 0 (s := 1) (n := a0.length) (c := fun i j => E3.cf (a0.getD i E3.z) j) (by as_aux_lemma => kernel_rfl) ?_; intro hl1_0
  refine loop_ok (by as_aux_lemma => kernel_rfl) (X := Nat × Nat) (fun x => slices_IndexFunc_int_clock_Steps_1_l1 a0 x.1 x.2 = some r) (fun x => x.1) (fun x => mk 19 [(0, .pv ((E3.ro a0))), (1, .fn 37 []), (4, .pv (.raw (.int .i64 0))), (7, .pv (.raw (.int .i64 ((a0.length : Nat) : Int)))), (8, .pv (.raw (.int .i64 ((x.2 : Nat) : Int))))] []) (FUEL, 0) h ?_ ?_
  · exact sub_ok (ρ := []) (l := [a0.length = a0.length, ∀ i, i < a0.length → ∀ j, j < 1 → E3.cf (a0.getD i E3.z) j = E3.cf (a0.getD i E3.z) j, (0 : Int) = 0, (((a0.length : Nat) : Int) : Int) = ((a0.length : Nat) : Int), (0 : Int) = ((0 : Nat) : Int)]) (by as_aux_lemma => kernel_rfl) ⟨rfl, fun _ _ _ _ => rfl, rfl, rfl, (by first | rfl | simp), trivial⟩
  · clear h; rintro ⟨n, k1⟩ h p1 hp1
    obtain _ | n := n
    · cases (show (none : Option (Int)) = some r from h)
    have h : slices_IndexFunc_int_clock_Steps_1_l1 a0 (n + 1) k1 = some r := h
    unfold slices_IndexFunc_int_clock_Steps_1_l1 at h
    refine seg tabOk mixed 4000 (S := .br (decide ((((k1 : Nat) : Int) : Int) < ((a0.length : Nat) : Int))) (.and (0 ≤ (((k1 : Nat) : Int) : Int) ∧ ((k1 : Nat) : Int) < ((a0.length : Nat) : Int)) (.leaf 0)) (.leaf 1)) (by as_aux_lemma => kernel_rfl) ?_
    refine br_ h ?_ ?_ <;> clear h <;> intro c2 h
    · refine sk_and ⟨Int.natCast_nonneg _, of_decide_eq_true c2⟩ ?_
      refine sk_leaf ?_
      obtain ⟨r4, e5, h⟩ := bd_ h
      refine call_ok (d := some 16) (fn := 37) (ax := [.pv (.raw (.int .i64 (a0.getD k1 0)))]) (args := [.pv (.raw (.int .i64 (a0.getD k1 0)))]) (ps := [((a0.getD k1 0) : Int) = (a0.getD k1 0)]) (hb' := []) (by as_aux_lemma => kernel_rfl) (clock_Steps_1_ok _ _ e5 (al := true)) (by as_aux_lemma => kernel_rfl) ⟨rfl, trivial⟩ (fun _ => (by as_aux_lemma => kernel_rfl)) (by simp) rfl (by as_aux_lemma => kernel_rfl) ?_
      refine seg tabOk mixed 4000 (S := .br r4 (.leaf 0) (.leaf 1)) (by as_aux_lemma => kernel_rfl) ?_
      refine br_ h ?_ ?_ <;> clear h <;> intro c6 h
      · refine sk_leaf ?_
        obtain rfl := some_ h
        exact end_ok [] Try.results39 (ps := [(((k1 : Nat) : Int) : Int) = ((k1 : Nat) : Int)]) (by as_aux_lemma => kernel_rfl) ⟨rfl, trivial⟩ (fun _ => ⟨rfl, by simp⟩)
      · refine sk_leaf ?_
        refine back_ok (p := p1) (by as_aux_lemma => kernel_rfl) (hp1 (n, k1 + 1) _ h (Nat.lt_succ_self n) ?_)
        exact sub_ok (ρ := []) (l := [a0.length = a0.length, ∀ i, i < a0.length → ∀ j, j < 1 → E3.cf (a0.getD i E3.z) j = E3.cf (a0.getD i E3.z) j, (0 : Int) = 0, (((a0.length : Nat) : Int) : Int) = ((a0.length : Nat) : Int), ((IntKind.i64.wrap (((k1 : Nat) : Int) + 1)) : Int) = (((k1 + 1) : Nat) : Int)]) (by as_aux_lemma => kernel_rfl) ⟨rfl, fun _ _ _ _ => rfl, rfl, rfl, (wrap_nat (Int.ofNat_lt.1 (of_decide_eq_true c2)) (by omega)), trivial⟩
    · refine sk_leaf ?_
      obtain rfl := some_ h
      exact end_ok [] Try.results39 (ps := [((-1) : Int) = (-1)]) (by as_aux_lemma => kernel_rfl) ⟨rfl, trivial⟩ (fun _ => ⟨rfl, by simp⟩)

set_option maxRecDepth 100000 in
theorem slices_ContainsFunc_int_clock_Steps_1_ok (a0 : (List Int)) (r : Bool) (h : slices_ContainsFunc_int_clock_Steps_1 a0 = some r) {al : Bool} : PCalls Try.prog 36 [.pv ((E3.ro a0)), .fn 37 []] al (.pv (.raw (.bool r))) [] := by
  unfold slices_ContainsFunc_int_clock_Steps_1 at h
  refine fn_ok tabOk Try.func36 (by as_aux_lemma => kernel_rfl) (by as_aux_lemma => kernel_rfl) Try.ntmps36 (by simp) ?_
  refine seg tabOk mixed 4000 (S := .leaf 0) (by as_aux_lemma => kernel_rfl) ?_
  refine sk_leaf ?_
  obtain ⟨r1, e2, h⟩ := bd_ h
  refine call_ok (d := some 7) (fn := 39) (ax := [.pv ((E3.ro a0)), .fn 37 []]) (args := [.pv ((E3.ro a0)), .fn 37 []]) (ps := [a0.length = a0.length, ∀ i, i < a0.length → ∀ j, j < 1 → E3.cf (a0.getD i E3.z) j = E3.cf (a0.getD i E3.z) j]) (hb' := []) (by as_aux_lemma => kernel_rfl) (slices_IndexFunc_int_clock_Steps_1_ok _ _ e2 (al := false)) (by as_aux_lemma => kernel_rfl) ⟨rfl, fun _ _ _ _ => rfl, trivial⟩ (fun hx => by cases hx) (by simp) rfl (by as_aux_lemma => kernel_rfl) ?_
  refine seg tabOk mixed 4000 (S := .leaf 0) (by as_aux_lemma => kernel_rfl) ?_
  refine sk_leaf ?_
  obtain rfl := some_ h
  exact end_ok [] Try.results36 (ps := [(decide ((r1 : Int) ≥ 0)) = (decide ((r1 : Int) ≥ 0))]) (by as_aux_lemma => kernel_rfl) ⟨rfl, trivial⟩ (fun _ => ⟨rfl, by simp⟩)

set_option maxRecDepth 100000 in
theorem clock_Steps_ok (a0 : Api_Rate) (a1 : (List Int)) (r : (List Int) × Int) (h : clock_Steps a0 a1 = some r) {al : Bool} : PCalls Try.prog 26 [.agg [.pv (.raw (.int .i64 a0.Num)), .pv (.raw (.int .i64 a0.Den))], .pv ((E3.ro a1))] al (.tup [.row 0 1 0 r.1.length, .pv (.raw (.int .i64 r.2))]) [.row 3 1 (E3.cR r.1)] := by
  unfold clock_Steps at h
  refine fn_ok tabOk Try.func26 (by as_aux_lemma => kernel_rfl) (by as_aux_lemma => kernel_rfl) Try.ntmps26 (by simp) ?_
  refine seg tabOk mixed 4000 (S := .leaf 0) (by as_aux_lemma => kernel_rfl) ?_
  refine sk_leaf ?_
  obtain ⟨r1, e2, h⟩ := bd_ h
  refine call_ok (d := some 13) (fn := 35) (ax := [.agg [.pv (.raw (.int .i64 a0.Num)), .pv (.raw (.int .i64 a0.Den))]]) (args := [.agg [.pv (.raw (.int .i64 a0.Num)), .pv (.raw (.int .i64 a0.Den))]]) (ps := [(a0.Num : Int) = a0.Num, (a0.Den : Int) = a0.Den]) (hb' := []) (by as_aux_lemma => kernel_rfl) (clock_Wrong_ok _ _ e2 (al := true)) (by as_aux_lemma => kernel_rfl) ⟨rfl, rfl, trivial⟩ (fun _ => (by as_aux_lemma => kernel_rfl)) (by simp) rfl (by as_aux_lemma => kernel_rfl) ?_
  refine seg tabOk mixed 4000 (S := .br ((r1 : Int) != 0) (.leaf 0) (.leaf 1)) (by as_aux_lemma => kernel_rfl) ?_
  refine br_ h ?_ ?_ <;> clear h <;> intro c3 h
  · refine sk_leaf ?_
    obtain rfl := some_ h
    exact end_ok [(0, none)] Try.results26 (ps := [0 = 0, ([] : List Int).length = 0, (r1 : Int) = r1, E3.cR [] = []]) (by as_aux_lemma => kernel_rfl) ⟨rfl, rfl, rfl, rfl, trivial⟩ (fun _ => ⟨rfl, by simp only [List.mem_cons, List.not_mem_nil, or_false, forall_eq_or_imp, forall_eq]; exact Elem.cR_bald E3_raw _⟩)
  · refine sk_leaf ?_
    obtain ⟨r4, e5, h⟩ := bd_ h
    refine callG_ok (d := some 22) (fn := 36) (ax := [.pv ((E3.ro a1)), .fn 37 []]) (args := [.pv ((E3.ro a1)), .fn 37 []]) (g := (!(decide ((((a1.length : Nat) : Int) : Int) > 400)))) (ws := [(!(decide ((((a1.length : Nat) : Int) : Int) > 400))) = true]) (ps := [a1.length = a1.length, ∀ i, i < a1.length → ∀ j, j < 1 → E3.cf (a1.getD i E3.z) j = E3.cf (a1.getD i E3.z) j]) (by as_aux_lemma => kernel_rfl) (fun hg => ⟨((by decide : ∀ y0 : Bool, (((!y0) = true) → ((!y0) = true))) (decide ((((a1.length : Nat) : Int) : Int) > 400))) hg, trivial⟩) (fun hg => slices_ContainsFunc_int_clock_Steps_1_ok _ _ (by rw [hg] at e5; exact e5) (al := false)) (by as_aux_lemma => kernel_rfl) (fun _ => ⟨rfl, fun _ _ _ _ => rfl, trivial⟩) (fun hx => by cases hx) ?_
    refine seg tabOk mixed 4000 (S := .and ((decide ((((a1.length : Nat) : Int) : Int) > 400)) = false → (!(decide ((((a1.length : Nat) : Int) : Int) > 400))) = true) (.br ((decide ((((a1.length : Nat) : Int) : Int) > 400)) || r4) (.leaf 0) (.leaf 1))) (by as_aux_lemma => kernel_rfl) ?_
    refine sk_and ((by decide : ∀ y0 : Bool, ((y0 = false) → ((!y0) = true))) (decide ((((a1.length : Nat) : Int) : Int) > 400))) ?_
    refine br_ h ?_ ?_ <;> clear h <;> intro c7 h
    · refine sk_leaf ?_
      obtain rfl := some_ h
      exact end_ok [(0, none)] Try.results26 (ps := [0 = 0, ([] : List Int).length = 0, (2 : Int) = 2, E3.cR [] = []]) (by as_aux_lemma => kernel_rfl) ⟨rfl, rfl, rfl, rfl, trivial⟩ (fun _ => ⟨rfl, by simp only [List.mem_cons, List.not_mem_nil, or_false, forall_eq_or_imp, forall_eq]; exact Elem.cR_bald E3_raw _⟩)
    · refine sk_leaf ?_
      refine len_ro (by as_aux_lemma => kernel_rfl) 24 (s := 1) (n := a1.length) (c := fun i j => E3.cf (a1.getD i E3.z) j) (by as_aux_lemma => kernel_rfl) ?_; intro hl1_0
      refine loop_ok (by as_aux_lemma => kernel_rfl) (X := Nat × List Int × Int × Nat) (fun x => clock_Steps_l1 a0 a1 r1 r4 x.1 x.2.1 x.2.2.1 x.2.2.2 = some r) (fun x => x.1) (fun x => mk 49 [(2, .ptr 0 0), (4, .pv (.raw (.slice none 0 0))), (5, .pv (.raw (.int .i64 0))), (7, .row 1 1 0 x.2.1.length), (8, .pv (.raw (.int .i64 x.2.2.1))), (24, .pv ((E3.ro a1))), (25, .pv (.raw (.int .i64 ((a1.length : Nat) : Int)))), (26, .pv (.raw (.int .i64 ((x.2.2.2 : Nat) : Int))))] [(0, .box [.pv (.raw (.int .i64 a0.Num)), .pv (.raw (.int .i64 a0.Den))]), (1, .row 3 1 (E3.cR x.2.1))]) (FUEL, ([] : List Int), 0, 0) h ?_ ?_
      · exact sub_ok (ρ := [(0, some 16416), (1, none)]) (l := [0 = 0, (0 : Int) = 0, 0 = 0, (([] : List Int).length) = 0, (0 : Int) = 0, a1.length = a1.length, ∀ i, i < a1.length → ∀ j, j < 1 → E3.cf (a1.getD i E3.z) j = E3.cf (a1.getD i E3.z) j, (((a1.length : Nat) : Int) : Int) = ((a1.length : Nat) : Int), (0 : Int) = ((0 : Nat) : Int), (a0.Num : Int) = a0.Num, (a0.Den : Int) = a0.Den, E3.cR ([] : List Int) = []]) (by as_aux_lemma => kernel_rfl) ⟨rfl, rfl, rfl, (by first | rfl | simp), rfl, rfl, fun _ _ _ _ => rfl, rfl, (by first | rfl | simp), rfl, rfl, rfl, trivial⟩
      · clear h; rintro ⟨n, l8, x9, k10⟩ h p1 hp1
        obtain _ | n := n
        · cases (show (none : Option ((List Int) × Int)) = some r from h)
        have h : clock_Steps_l1 a0 a1 r1 r4 (n + 1) l8 x9 k10 = some r := h
        unfold clock_Steps_l1 at h
        refine seg tabOk mixed 4000 (S := .br (decide ((((k10 : Nat) : Int) : Int) < ((a1.length : Nat) : Int))) (.and (0 ≤ (((k10 : Nat) : Int) : Int) ∧ ((k10 : Nat) : Int) < ((a1.length : Nat) : Int)) (.and ((a0.Den : Int) ≠ 0) (.leaf 0))) (.leaf 1)) (by as_aux_lemma => kernel_rfl) ?_
        refine br_ h ?_ ?_ <;> clear h <;> intro c11 h
        · refine sk_and ⟨Int.natCast_nonneg _, of_decide_eq_true c11⟩ ?_
          refine gd_ h ?_; clear h; intro g13 h
          refine sk_leaf ?_
          refine bs_ok (d := 41) (e := 3) (s := 1) (n := 1) (cs := [.pv (.raw (.int .i64 (IntKind.i64.wrap (Int.tdiv (IntKind.i64.wrap ((IntKind.i64.wrap ((a1.getD k10 0) * a0.Num)) + x9)) a0.Den))))]) (cs' := E3.cR [(IntKind.i64.wrap (Int.tdiv (IntKind.i64.wrap ((IntKind.i64.wrap ((a1.getD k10 0) * a0.Num)) + x9)) a0.Den))]) (by as_aux_lemma => kernel_rfl) rfl (by as_aux_lemma => kernel_rfl) ?_
          refine seg tabOk mixed 4000 (S := .leaf 0) (by as_aux_lemma => kernel_rfl) ?_
          refine sk_leaf ?_
          obtain ⟨g14, h⟩ := if_ h
          refine app_ok (d := 42) (e := 3) (s := 1) (b := 8) (x := .row 1 1 0 l8.length) (y := .row 17040 1 0 1) E3 (xs := l8) (ys := [(IntKind.i64.wrap (Int.tdiv (IntKind.i64.wrap ((IntKind.i64.wrap ((a1.getD k10 0) * a0.Num)) + x9)) a0.Den))]) (by as_aux_lemma => kernel_rfl) rfl (.row 1 l8 l8.length rfl (by as_aux_lemma => kernel_rfl)) (.all 17040 3 [(IntKind.i64.wrap (Int.tdiv (IntKind.i64.wrap ((IntKind.i64.wrap ((a1.getD k10 0) * a0.Num)) + x9)) a0.Den))] 1 rfl (by as_aux_lemma => kernel_rfl)) g14 (by as_aux_lemma => kernel_rfl) ?_
          refine seg tabOk mixed 4000 (S := .and ((a0.Den : Int) ≠ 0) (.leaf 0)) (by as_aux_lemma => kernel_rfl) ?_
          refine gd_ h ?_; clear h; intro g15 h
          refine sk_leaf ?_
          refine back_ok (p := p1) (by as_aux_lemma => kernel_rfl) (hp1 (n, (l8 ++ [(IntKind.i64.wrap (Int.tdiv (IntKind.i64.wrap ((IntKind.i64.wrap ((a1.getD k10 0) * a0.Num)) + x9)) a0.Den))]), (Int.tmod (IntKind.i64.wrap ((IntKind.i64.wrap ((a1.getD k10 0) * a0.Num)) + x9)) a0.Den), k10 + 1) _ h (Nat.lt_succ_self n) ?_)
          exact sub_ok (ρ := [(0, some 0), (1, some 17056)]) (l := [0 = 0, (0 : Int) = 0, 0 = 0, ((l8 ++ [(IntKind.i64.wrap (Int.tdiv (IntKind.i64.wrap ((IntKind.i64.wrap ((a1.getD k10 0) * a0.Num)) + x9)) a0.Den))]).length) = ((l8 ++ [(IntKind.i64.wrap (Int.tdiv (IntKind.i64.wrap ((IntKind.i64.wrap ((a1.getD k10 0) * a0.Num)) + x9)) a0.Den))]).length), ((Int.tmod (IntKind.i64.wrap ((IntKind.i64.wrap ((a1.getD k10 0) * a0.Num)) + x9)) a0.Den) : Int) = (Int.tmod (IntKind.i64.wrap ((IntKind.i64.wrap ((a1.getD k10 0) * a0.Num)) + x9)) a0.Den), a1.length = a1.length, ∀ i, i < a1.length → ∀ j, j < 1 → E3.cf (a1.getD i E3.z) j = E3.cf (a1.getD i E3.z) j, (((a1.length : Nat) : Int) : Int) = ((a1.length : Nat) : Int), ((IntKind.i64.wrap (((k10 : Nat) : Int) + 1)) : Int) = (((k10 + 1) : Nat) : Int), (a0.Num : Int) = a0.Num, (a0.Den : Int) = a0.Den, E3.cR (l8 ++ [(IntKind.i64.wrap (Int.tdiv (IntKind.i64.wrap ((IntKind.i64.wrap ((a1.getD k10 0) * a0.Num)) + x9)) a0.Den))]) = E3.cR (l8 ++ [(IntKind.i64.wrap (Int.tdiv (IntKind.i64.wrap ((IntKind.i64.wrap ((a1.getD k10 0) * a0.Num)) + x9)) a0.Den))]), AllPv (E3.cR (l8 ++ [(IntKind.i64.wrap (Int.tdiv (IntKind.i64.wrap ((IntKind.i64.wrap ((a1.getD k10 0) * a0.Num)) + x9)) a0.Den))]))]) (by as_aux_lemma => kernel_rfl) ⟨rfl, rfl, rfl, rfl, rfl, rfl, fun _ _ _ _ => rfl, rfl, (wrap_nat (Int.ofNat_lt.1 (of_decide_eq_true c11)) (by omega)), rfl, rfl, rfl, (Elem.cR_pv _ _), trivial⟩
        · refine sk_leaf ?_
          obtain rfl := some_ h
          exact end_ok [(0, some 1)] Try.results26 (ps := [0 = 0, l8.length = l8.length, (0 : Int) = 0, E3.cR l8 = E3.cR l8, AllPv (E3.cR l8)]) (by as_aux_lemma => kernel_rfl) ⟨rfl, (by first | rfl | simp), rfl, rfl, (Elem.cR_pv _ _), trivial⟩ (fun _ => ⟨rfl, by simp only [List.mem_cons, List.not_mem_nil, or_false, forall_eq_or_imp, forall_eq]; exact Elem.cR_bald E3_raw _⟩)

set_option maxRecDepth 100000 in
theorem clock_Ticks_ok (a0 : Api_Rate) (a1 : Int) (r : Int × Int) (h : clock_Ticks a0 a1 = some r) {al : Bool} : PCalls Try.prog 28 [.agg [.pv (.raw (.int .i64 a0.Num)), .pv (.raw (.int .i64 a0.Den))], .pv (.raw (.int .i64 a1))] al (.tup [.pv (.raw (.int .i64 r.1)), .pv (.raw (.int .i64 r.2))]) [] := by
  unfold clock_Ticks at h
  refine fn_ok tabOk Try.func28 (by as_aux_lemma => kernel_rfl) (by as_aux_lemma => kernel_rfl) Try.ntmps28 (by simp) ?_
  refine seg tabOk mixed 4000 (S := .leaf 0) (by as_aux_lemma => kernel_rfl) ?_
  refine sk_leaf ?_
  obtain ⟨r1, e2, h⟩ := bd_ h
  refine call_ok (d := some 7) (fn := 35) (ax := [.agg [.pv (.raw (.int .i64 a0.Num)), .pv (.raw (.int .i64 a0.Den))]]) (args := [.agg [.pv (.raw (.int .i64 a0.Num)), .pv (.raw (.int .i64 a0.Den))]]) (ps := [(a0.Num : Int) = a0.Num, (a0.Den : Int) = a0.Den]) (hb' := []) (by as_aux_lemma => kernel_rfl) (clock_Wrong_ok _ _ e2 (al := true)) (by as_aux_lemma => kernel_rfl) ⟨rfl, rfl, trivial⟩ (fun _ => (by as_aux_lemma => kernel_rfl)) (by simp) rfl (by as_aux_lemma => kernel_rfl) ?_
  refine seg tabOk mixed 4000 (S := .and (((!((r1 : Int) != 0)) = true → ((!((r1 : Int) != 0)) = true))) (.and (((r1 : Int) != 0) = false → (!((r1 : Int) != 0)) = true) (.and (((!(((r1 : Int) != 0) || (decide ((a1 : Int) < 0)))) = true → ((!(((r1 : Int) != 0) || (decide ((a1 : Int) < 0)))) = true))) (.and ((((r1 : Int) != 0) || (decide ((a1 : Int) < 0))) = false → (!(((r1 : Int) != 0) || (decide ((a1 : Int) < 0)))) = true) (.br ((((r1 : Int) != 0) || (decide ((a1 : Int) < 0))) || (decide ((a1 : Int) > 1099511627776))) (.leaf 0) (.and ((a0.Num : Int) ≠ 0) (.and ((a0.Num : Int) ≠ 0) (.and ((a0.Num : Int) ≠ 0) (.leaf 1))))))))) (by as_aux_lemma => kernel_rfl) ?_
  refine sk_and ((by decide : ∀ y0 : Bool, (((!y0) = true) → ((!y0) = true))) ((r1 : Int) != 0)) ?_
  refine sk_and ((by decide : ∀ y0 : Bool, ((y0 = false) → ((!y0) = true))) ((r1 : Int) != 0)) ?_
  refine sk_and ((by decide : ∀ y0 y1 : Bool, (((!(y0 || y1)) = true) → ((!(y0 || y1)) = true))) ((r1 : Int) != 0) (decide ((a1 : Int) < 0))) ?_
  refine sk_and ((by decide : ∀ y0 y1 : Bool, (((y0 || y1) = false) → ((!(y0 || y1)) = true))) ((r1 : Int) != 0) (decide ((a1 : Int) < 0))) ?_
  refine br_ h ?_ ?_ <;> clear h <;> intro c7 h
  · refine sk_leaf ?_
    obtain rfl := some_ h
    exact end_ok [] Try.results28 (ps := [(0 : Int) = 0, (2 : Int) = 2]) (by as_aux_lemma => kernel_rfl) ⟨rfl, rfl, trivial⟩ (fun _ => ⟨rfl, by simp⟩)
  · refine gd_ h ?_; clear h; intro g8 h
    refine gd_ h ?_; clear h; intro g9 h
    refine gd_ h ?_; clear h; intro g10 h
    refine sk_leaf ?_
    obtain rfl := some_ h
    exact end_ok [] Try.results28 (ps := [((IntKind.i64.wrap ((IntKind.i64.wrap ((IntKind.i64.wrap (Int.tdiv a1 a0.Num)) * a0.Den)) + (IntKind.i64.wrap (Int.tdiv (IntKind.i64.wrap ((IntKind.i64.wrap ((IntKind.i64.wrap ((Int.tmod a1 a0.Num) * a0.Den)) + a0.Num)) - 1)) a0.Num)))) : Int) = (IntKind.i64.wrap ((IntKind.i64.wrap ((IntKind.i64.wrap (Int.tdiv a1 a0.Num)) * a0.Den)) + (IntKind.i64.wrap (Int.tdiv (IntKind.i64.wrap ((IntKind.i64.wrap ((IntKind.i64.wrap ((Int.tmod a1 a0.Num) * a0.Den)) + a0.Num)) - 1)) a0.Num)))), (0 : Int) = 0]) (by as_aux_lemma => kernel_rfl) ⟨rfl, rfl, trivial⟩ (fun _ => ⟨rfl, by simp⟩)

set_option maxRecDepth 100000 in
theorem slices_Equal_int_ok (a0 : (List Int)) (a1 : (List Int)) (r : Bool) (h : slices_Equal_int a0 a1 = some r) {al : Bool} : PCalls Try.prog 21 [.pv ((E3.ro a0)), .pv ((E3.ro a1))] al (.pv (.raw (.bool r))) [] := by
  unfold slices_Equal_int at h
  refine fn_ok tabOk Try.func21 (by as_aux_lemma => kernel_rfl) (by as_aux_lemma => kernel_rfl) Try.ntmps21 (by simp) ?_
  refine seg tabOk mixed 4000 (S := .br ((((a0.length : Nat) : Int) : Int) != ((a1.length : Nat) : Int)) (.leaf 0) (.leaf 1)) (by as_aux_lemma => kernel_rfl) ?_
  refine br_ h ?_ ?_ <;> clear h <;> intro c1 h
  · refine sk_leaf ?_
    obtain rfl := some_ h
    exact end_ok [] Try.results21 (ps := [false = false]) (by as_aux_lemma => kernel_rfl) ⟨rfl, trivial⟩ (fun _ => ⟨rfl, by simp⟩)
  · refine sk_leaf ?_
    refine len_ro (by as_aux_lemma => kernel_rfl) 0 (s := 1) (n := a0.length) (c := fun i j => E3.cf (a0.getD i E3.z) j) (by as_aux_lemma => kernel_rfl) ?_; intro hl1_0
    refine len_ro (by as_aux_lemma => kernel_rfl) 1 (s := 1) (n := a1.length) (c := fun i j => E3.cf (a1.getD i E3.z) j) (by as_aux_lemma => kernel_rfl) ?_; intro hl1_1
    refine loop_ok (by as_aux_lemma => kernel_rfl) (X := Nat × Nat) (fun x => slices_Equal_int_l1 a0 a1 x.1 x.2 = some r) (fun x => x.1) (fun x => mk 26 [(0, .pv ((E3.ro a0))), (1, .pv ((E3.ro a1))), (4, .pv (.raw (.bool false))), (12, .pv (.raw (.int .i64 ((a0.length : Nat) : Int)))), (13, .pv (.raw (.int .i64 ((x.2 : Nat) : Int))))] []) (FUEL, 0) h ?_ ?_
    · exact sub_ok (ρ := []) (l := [a0.length = a0.length, ∀ i, i < a0.length → ∀ j, j < 1 → E3.cf (a0.getD i E3.z) j = E3.cf (a0.getD i E3.z) j, a1.length = a1.length, ∀ i, i < a1.length → ∀ j, j < 1 → E3.cf (a1.getD i E3.z) j = E3.cf (a1.getD i E3.z) j, false = false, (((a0.length : Nat) : Int) : Int) = ((a0.length : Nat) : Int), (0 : Int) = ((0 : Nat) : Int)]) (by as_aux_lemma => kernel_rfl) ⟨rfl, fun _ _ _ _ => rfl, rfl, fun _ _ _ _ => rfl, rfl, rfl, (by first | rfl | simp), trivial⟩
    · clear h; rintro ⟨n, k2⟩ h p1 hp1
      obtain _ | n := n
      · cases (show (none : Option (Bool)) = some r from h)
      have h : slices_Equal_int_l1 a0 a1 (n + 1) k2 = some r := h
      unfold slices_Equal_int_l1 at h
      refine seg tabOk mixed 4000 (S := .br (decide ((((k2 : Nat) : Int) : Int) < ((a0.length : Nat) : Int))) (.and (0 ≤ (((k2 : Nat) : Int) : Int) ∧ ((k2 : Nat) : Int) < ((a0.length : Nat) : Int)) (.and (0 ≤ (((k2 : Nat) : Int) : Int) ∧ ((k2 : Nat) : Int) < ((a1.length : Nat) : Int)) (.br (((a0.getD k2 0) : Int) != (a1.getD k2 0)) (.leaf 0) (.leaf 1)))) (.leaf 2)) (by as_aux_lemma => kernel_rfl) ?_
      refine br_ h ?_ ?_ <;> clear h <;> intro c3 h
      · refine sk_and ⟨Int.natCast_nonneg _, of_decide_eq_true c3⟩ ?_
        refine gd_ h ?_; clear h; intro g5 h
        refine br_ h ?_ ?_ <;> clear h <;> intro c6 h
        · refine sk_leaf ?_
          obtain rfl := some_ h
          exact end_ok [] Try.results21 (ps := [false = false]) (by as_aux_lemma => kernel_rfl) ⟨rfl, trivial⟩ (fun _ => ⟨rfl, by simp⟩)
        · refine sk_leaf ?_
          refine back_ok (p := p1) (by as_aux_lemma => kernel_rfl) (hp1 (n, k2 + 1) _ h (Nat.lt_succ_self n) ?_)
          exact sub_ok (ρ := []) (l := [a0.length = a0.length, ∀ i, i < a0.length → ∀ j, j < 1 → E3.cf (a0.getD i E3.z) j = E3.cf (a0.getD i E3.z) j, a1.length = a1.length, ∀ i, i < a1.length → ∀ j, j < 1 → E3.cf (a1.getD i E3.z) j = E3.cf (a1.getD i E3.z) j, false = false, (((a0.length : Nat) : Int) : Int) = ((a0.length : Nat) : Int), ((IntKind.i64.wrap (((k2 : Nat) : Int) + 1)) : Int) = (((k2 + 1) : Nat) : Int)]) (by as_aux_lemma => kernel_rfl) ⟨rfl, fun _ _ _ _ => rfl, rfl, fun _ _ _ _ => rfl, rfl, rfl, (wrap_nat (Int.ofNat_lt.1 (of_decide_eq_true c3)) (by omega)), trivial⟩
      · refine sk_leaf ?_
        obtain rfl := some_ h
        exact end_ok [] Try.results21 (ps := [true = true]) (by as_aux_lemma => kernel_rfl) ⟨rfl, trivial⟩ (fun _ => ⟨rfl, by simp⟩)

set_option maxRecDepth 100000 in
theorem keep_alive23_ok (r : Bool) (h : keep_alive23 = some r) {al : Bool} : PCalls Try.prog 19 [] al (.pv (.raw (.bool r))) [] := by
  unfold keep_alive23 at h
  refine fn_ok tabOk Try.func19 (by as_aux_lemma => kernel_rfl) (by as_aux_lemma => kernel_rfl) Try.ntmps19 (by simp) ?_
  refine seg tabOk mixed 4000 (S := .leaf 0) (by as_aux_lemma => kernel_rfl) ?_
  refine sk_leaf ?_
  refine bs_ok (d := 8) (e := 3) (s := 1) (n := 4) (cs := [.pv (.raw (.int .i64 65530)), .pv (.raw (.int .i64 65535)), .pv (.raw (.int .i64 4)), .pv (.raw (.int .i64 4))]) (cs' := E3.cR [65530, 65535, 4, 4]) (by as_aux_lemma => kernel_rfl) rfl (by as_aux_lemma => kernel_rfl) ?_
  refine seg tabOk mixed 4000 (S := .leaf 0) (by as_aux_lemma => kernel_rfl) ?_
  refine sk_leaf ?_
  obtain ⟨r1, e2, h⟩ := bd_ h
  refine call_ok (d := some 9) (fn := 20) (ax := [.row 16512 1 0 4]) (args := [.pv ((E3.ro [65530, 65535, 4, 4]))]) (ps := [4 = [65530, 65535, 4, 4].length, rowQ (E3.cR [65530, 65535, 4, 4]) 1 0 4 (fun i j => E3.cf ([65530, 65535, 4, 4].getD i E3.z) j)]) (hb' := [.row 3 1 (E3.cR r1.1)]) (by as_aux_lemma => kernel_rfl) (clock_Extend_ok _ _ e2 (al := false)) (by as_aux_lemma => kernel_rfl) ⟨(by first | rfl | simp | (simp; omega)), E3.rowQ_all [65530, 65535, 4, 4] rfl, trivial⟩ (fun hx => by cases hx) (by simp) (by simp only [List.map_cons, List.map_nil, Elem.row_up]) (by as_aux_lemma => kernel_rfl) ?_
  refine seg tabOk mixed 4000 (S := .leaf 0) (by as_aux_lemma => kernel_rfl) ?_
  refine sk_leaf ?_
  refine bs_ok (d := 14) (e := 3) (s := 1) (n := 4) (cs := [.pv (.raw (.int .i64 1)), .pv (.raw (.int .i64 1)), .pv (.raw (.int .i64 1)), .pv (.raw (.int .i64 4))]) (cs' := E3.cR [1, 1, 1, 4]) (by as_aux_lemma => kernel_rfl) rfl (by as_aux_lemma => kernel_rfl) ?_
  refine seg tabOk mixed 4000 (S := .leaf 0) (by as_aux_lemma => kernel_rfl) ?_
  refine sk_leaf ?_
  obtain ⟨r3, e4, h⟩ := bd_ h
  refine call_ok (d := some 15) (fn := 26) (ax := [.agg [.pv (.raw (.int .i64 2)), .pv (.raw (.int .i64 3))], .row 16608 1 0 4]) (args := [.agg [.pv (.raw (.int .i64 2)), .pv (.raw (.int .i64 3))], .pv ((E3.ro [1, 1, 1, 4]))]) (ps := [(2 : Int) = 2, (3 : Int) = 3, 4 = [1, 1, 1, 4].length, rowQ (E3.cR [1, 1, 1, 4]) 1 0 4 (fun i j => E3.cf ([1, 1, 1, 4].getD i E3.z) j)]) (hb' := [.row 3 1 (E3.cR r3.1)]) (by as_aux_lemma => kernel_rfl) (clock_Steps_ok _ _ _ e4 (al := false)) (by as_aux_lemma => kernel_rfl) ⟨rfl, rfl, (by first | rfl | simp | (simp; omega)), E3.rowQ_all [1, 1, 1, 4] rfl, trivial⟩ (fun hx => by cases hx) (by simp) (by simp only [List.map_cons, List.map_nil, Elem.row_up]) (by as_aux_lemma => kernel_rfl) ?_
  refine seg tabOk mixed 4000 (S := .leaf 0) (by as_aux_lemma => kernel_rfl) ?_
  refine sk_leaf ?_
  obtain ⟨r5, e6, h⟩ := bd_ h
  refine call_ok (d := some 20) (fn := 28) (ax := [.agg [.pv (.raw (.int .i64 2)), .pv (.raw (.int .i64 3))], .pv (.raw (.int .i64 3))]) (args := [.agg [.pv (.raw (.int .i64 2)), .pv (.raw (.int .i64 3))], .pv (.raw (.int .i64 3))]) (ps := [(2 : Int) = 2, (3 : Int) = 3, (3 : Int) = 3]) (hb' := []) (by as_aux_lemma => kernel_rfl) (clock_Ticks_ok _ _ _ e6 (al := true)) (by as_aux_lemma => kernel_rfl) ⟨rfl, rfl, rfl, trivial⟩ (fun _ => (by as_aux_lemma => kernel_rfl)) (by simp) rfl (by as_aux_lemma => kernel_rfl) ?_
  refine seg tabOk mixed 4000 (S := .and ((((r1.2 : Int) == 0) = true → (((r1.2 : Int) == 0) = true))) (.and (((r1.2 : Int) == 0) = true → ((r1.2 : Int) == 0) = true) (.and (((((r1.2 : Int) == 0) && ((r3.2 : Int) == 0)) = true → ((((r1.2 : Int) == 0) && ((r3.2 : Int) == 0)) = true))) (.and ((((r1.2 : Int) == 0) && ((r3.2 : Int) == 0)) = true → (((r1.2 : Int) == 0) && ((r3.2 : Int) == 0)) = true) (.leaf 0))))) (by as_aux_lemma => kernel_rfl) ?_
  refine sk_and ((by decide : ∀ y0 : Bool, ((y0 = true) → (y0 = true))) ((r1.2 : Int) == 0)) ?_
  refine sk_and ((by decide : ∀ y0 : Bool, ((y0 = true) → (y0 = true))) ((r1.2 : Int) == 0)) ?_
  refine sk_and ((by decide : ∀ y0 y1 : Bool, (((y0 && y1) = true) → ((y0 && y1) = true))) ((r1.2 : Int) == 0) ((r3.2 : Int) == 0)) ?_
  refine sk_and ((by decide : ∀ y0 y1 : Bool, (((y0 && y1) = true) → ((y0 && y1) = true))) ((r1.2 : Int) == 0) ((r3.2 : Int) == 0)) ?_
  refine sk_leaf ?_
  refine bsG_ok (d := 35) (e := 3) (s := 1) (n := 4) (g := ((((r1.2 : Int) == 0) && ((r3.2 : Int) == 0)) && ((r5.2 : Int) == 0))) (ws := []) (cs := [.pv (.raw (.int .i64 65530)), .pv (.raw (.int .i64 65535)), .pv (.raw (.int .i64 65540)), .pv (.raw (.int .i64 65540))]) E3 [65530, 65535, 65540, 65540] (by as_aux_lemma => kernel_rfl) (fun _ => trivial) rfl rfl rfl (by as_aux_lemma => kernel_rfl) ?_
  refine seg tabOk mixed 4000 (S := .leaf 0) (by as_aux_lemma => kernel_rfl) ?_
  refine sk_leaf ?_
  obtain ⟨r11, e12, h⟩ := bd_ h
  refine callG_ok (d := some 36) (fn := 21) (ax := [.row 16528 1 0 r1.1.length, .pv ((E3.ro [65530, 65535, 65540, 65540]))]) (args := [.pv ((E3.ro r1.1)), .pv ((E3.ro [65530, 65535, 65540, 65540]))]) (g := ((((r1.2 : Int) == 0) && ((r3.2 : Int) == 0)) && ((r5.2 : Int) == 0))) (ws := [((((r1.2 : Int) == 0) && ((r3.2 : Int) == 0)) && ((r5.2 : Int) == 0)) = true, ((((r1.2 : Int) == 0) && ((r3.2 : Int) == 0)) && ((r5.2 : Int) == 0)) = true]) (ps := [r1.1.length = r1.1.length, rowQ (E3.cR r1.1) 1 0 r1.1.length (fun i j => E3.cf (r1.1.getD i E3.z) j), [65530, 65535, 65540, 65540].length = [65530, 65535, 65540, 65540].length, ∀ i, i < [65530, 65535, 65540, 65540].length → ∀ j, j < 1 → E3.cf ([65530, 65535, 65540, 65540].getD i E3.z) j = E3.cf ([65530, 65535, 65540, 65540].getD i E3.z) j]) (by as_aux_lemma => kernel_rfl) (fun hg => ⟨((by decide : ∀ y0 y1 y2 : Bool, ((((y0 && y1) && y2) = true) → (((y0 && y1) && y2) = true))) ((r1.2 : Int) == 0) ((r3.2 : Int) == 0) ((r5.2 : Int) == 0)) hg, ((by decide : ∀ y0 y1 y2 : Bool, ((((y0 && y1) && y2) = true) → (((y0 && y1) && y2) = true))) ((r1.2 : Int) == 0) ((r3.2 : Int) == 0) ((r5.2 : Int) == 0)) hg, trivial⟩) (fun hg => slices_Equal_int_ok _ _ _ (by rw [hg] at e12; exact e12) (al := false)) (by as_aux_lemma => kernel_rfl) (fun _ => ⟨(by first | rfl | simp | (simp; omega)), E3.rowQ_all r1.1 rfl, rfl, fun _ _ _ _ => rfl, trivial⟩) (fun hx => by cases hx) ?_
  refine seg tabOk mixed 4000 (S := .and (((((r1.2 : Int) == 0) && ((r3.2 : Int) == 0)) && ((r5.2 : Int) == 0)) = true → ((((r1.2 : Int) == 0) && ((r3.2 : Int) == 0)) && ((r5.2 : Int) == 0)) = true) (.leaf 0)) (by as_aux_lemma => kernel_rfl) ?_
  refine sk_and ((by decide : ∀ y0 y1 y2 : Bool, ((((y0 && y1) && y2) = true) → (((y0 && y1) && y2) = true))) ((r1.2 : Int) == 0) ((r3.2 : Int) == 0) ((r5.2 : Int) == 0)) ?_
  refine sk_leaf ?_
  refine bsG_ok (d := 40) (e := 3) (s := 1) (n := 4) (g := (((((r1.2 : Int) == 0) && ((r3.2 : Int) == 0)) && ((r5.2 : Int) == 0)) && r11)) (ws := []) (cs := [.pv (.raw (.int .i64 0)), .pv (.raw (.int .i64 1)), .pv (.raw (.int .i64 1)), .pv (.raw (.int .i64 2))]) E3 [0, 1, 1, 2] (by as_aux_lemma => kernel_rfl) (fun _ => trivial) rfl rfl rfl (by as_aux_lemma => kernel_rfl) ?_
  refine seg tabOk mixed 4000 (S := .leaf 0) (by as_aux_lemma => kernel_rfl) ?_
  refine sk_leaf ?_
  obtain ⟨r14, e15, h⟩ := bd_ h
  refine callG_ok (d := some 41) (fn := 21) (ax := [.row 16624 1 0 r3.1.length, .pv ((E3.ro [0, 1, 1, 2]))]) (args := [.pv ((E3.ro r3.1)), .pv ((E3.ro [0, 1, 1, 2]))]) (g := (((((r1.2 : Int) == 0) && ((r3.2 : Int) == 0)) && ((r5.2 : Int) == 0)) && r11)) (ws := [(((((r1.2 : Int) == 0) && ((r3.2 : Int) == 0)) && ((r5.2 : Int) == 0)) && r11) = true, (((((r1.2 : Int) == 0) && ((r3.2 : Int) == 0)) && ((r5.2 : Int) == 0)) && r11) = true]) (ps := [r3.1.length = r3.1.length, rowQ (E3.cR r3.1) 1 0 r3.1.length (fun i j => E3.cf (r3.1.getD i E3.z) j), [0, 1, 1, 2].length = [0, 1, 1, 2].length, ∀ i, i < [0, 1, 1, 2].length → ∀ j, j < 1 → E3.cf ([0, 1, 1, 2].getD i E3.z) j = E3.cf ([0, 1, 1, 2].getD i E3.z) j]) (by as_aux_lemma => kernel_rfl) (fun hg => ⟨((by decide : ∀ y0 y1 y2 y3 : Bool, (((((y0 && y1) && y2) && y3) = true) → ((((y0 && y1) && y2) && y3) = true))) ((r1.2 : Int) == 0) ((r3.2 : Int) == 0) ((r5.2 : Int) == 0) r11) hg, ((by decide : ∀ y0 y1 y2 y3 : Bool, (((((y0 && y1) && y2) && y3) = true) → ((((y0 && y1) && y2) && y3) = true))) ((r1.2 : Int) == 0) ((r3.2 : Int) == 0) ((r5.2 : Int) == 0) r11) hg, trivial⟩) (fun hg => slices_Equal_int_ok _ _ _ (by rw [hg] at e15; exact e15) (al := false)) (by as_aux_lemma => kernel_rfl) (fun _ => ⟨(by first | rfl | simp | (simp; omega)), E3.rowQ_all r3.1 rfl, rfl, fun _ _ _ _ => rfl, trivial⟩) (fun hx => by cases hx) ?_
  refine seg tabOk mixed 4000 (S := .and ((((((r1.2 : Int) == 0) && ((r3.2 : Int) == 0)) && ((r5.2 : Int) == 0)) && r11) = true → (((((r1.2 : Int) == 0) && ((r3.2 : Int) == 0)) && ((r5.2 : Int) == 0)) && r11) = true) (.and ((((((((r1.2 : Int) == 0) && ((r3.2 : Int) == 0)) && ((r5.2 : Int) == 0)) && r11) && r14) = true → (((((((r1.2 : Int) == 0) && ((r3.2 : Int) == 0)) && ((r5.2 : Int) == 0)) && r11) && r14) = true))) (.and (((((((r1.2 : Int) == 0) && ((r3.2 : Int) == 0)) && ((r5.2 : Int) == 0)) && r11) && r14) = true → ((((((r1.2 : Int) == 0) && ((r3.2 : Int) == 0)) && ((r5.2 : Int) == 0)) && r11) && r14) = true) (.leaf 0)))) (by as_aux_lemma => kernel_rfl) ?_
  refine sk_and ((by decide : ∀ y0 y1 y2 y3 : Bool, (((((y0 && y1) && y2) && y3) = true) → ((((y0 && y1) && y2) && y3) = true))) ((r1.2 : Int) == 0) ((r3.2 : Int) == 0) ((r5.2 : Int) == 0) r11) ?_
  refine sk_and ((by decide : ∀ y0 y1 y2 y3 y4 : Bool, ((((((y0 && y1) && y2) && y3) && y4) = true) → (((((y0 && y1) && y2) && y3) && y4) = true))) ((r1.2 : Int) == 0) ((r3.2 : Int) == 0) ((r5.2 : Int) == 0) r11 r14) ?_
  refine sk_and ((by decide : ∀ y0 y1 y2 y3 y4 : Bool, ((((((y0 && y1) && y2) && y3) && y4) = true) → (((((y0 && y1) && y2) && y3) && y4) = true))) ((r1.2 : Int) == 0) ((r3.2 : Int) == 0) ((r5.2 : Int) == 0) r11 r14) ?_
  refine sk_leaf ?_
  obtain rfl := some_ h
  exact end_ok [] Try.results19 (ps := [(((((((r1.2 : Int) == 0) && ((r3.2 : Int) == 0)) && ((r5.2 : Int) == 0)) && r11) && r14) && ((r5.1 : Int) == 5)) = (((((((r1.2 : Int) == 0) && ((r3.2 : Int) == 0)) && ((r5.2 : Int) == 0)) && r11) && r14) && ((r5.1 : Int) == 5))]) (by as_aux_lemma => kernel_rfl) ⟨rfl, trivial⟩ (fun _ => ⟨rfl, by simp⟩)

set_option maxRecDepth 100000 in
theorem keep_ClockTrue_ok (a0 : Int) (a1 : (List Int)) (r : Bool) (h : keep_ClockTrue a0 a1 = some r) {al : Bool} : PCalls Try.prog 6 [.pv (.raw (.int .i64 a0)), .pv ((E3.ro a1))] al (.pv (.raw (.bool r))) [] := by
  unfold keep_ClockTrue at h
  refine fn_ok tabOk Try.func6 (by as_aux_lemma => kernel_rfl) (by as_aux_lemma => kernel_rfl) Try.ntmps6 (by simp) ?_
  refine seg tabOk mixed 4000 (S := .leaf 0) (by as_aux_lemma => kernel_rfl) ?_
  refine sk_leaf ?_
  obtain ⟨r1, e2, h⟩ := bd_ h
  refine call_ok (d := some 12) (fn := 19) (ax := []) (args := []) (ps := []) (hb' := []) (by as_aux_lemma => kernel_rfl) (keep_alive23_ok  _ e2 (al := true)) (by as_aux_lemma => kernel_rfl) trivial (fun _ => (by as_aux_lemma => kernel_rfl)) (by simp) rfl (by as_aux_lemma => kernel_rfl) ?_
  refine seg tabOk mixed 4000 (S := .br (!r1) (.leaf 0) (.and (((!(decide ((a0 : Int) < 0))) = true → ((!(decide ((a0 : Int) < 0))) = true))) (.and ((decide ((a0 : Int) < 0)) = false → (!(decide ((a0 : Int) < 0))) = true) (.and (((!((decide ((a0 : Int) < 0)) || (decide ((a0 : Int) > 65535)))) = true → ((!((decide ((a0 : Int) < 0)) || (decide ((a0 : Int) > 65535)))) = true))) (.and (((!((decide ((a0 : Int) < 0)) || (decide ((a0 : Int) > 65535)))) = true → ((!((decide ((a0 : Int) < 0)) || (decide ((a0 : Int) > 65535)))) = true))) (.and (((decide ((a0 : Int) < 0)) || (decide ((a0 : Int) > 65535))) = false → (!((decide ((a0 : Int) < 0)) || (decide ((a0 : Int) > 65535)))) = true) (.br (((decide ((a0 : Int) < 0)) || (decide ((a0 : Int) > 65535))) || (decide ((((a1.length : Nat) : Int) : Int) > 1000))) (.leaf 1) (.leaf 2)))))))) (by as_aux_lemma => kernel_rfl) ?_
  refine br_ h ?_ ?_ <;> clear h <;> intro c3 h
  · refine sk_leaf ?_
    obtain rfl := some_ h
    exact end_ok [] Try.results6 (ps := [false = false]) (by as_aux_lemma => kernel_rfl) ⟨rfl, trivial⟩ (fun _ => ⟨rfl, by simp⟩)
  · refine sk_and ((by decide : ∀ y0 : Bool, (((!y0) = true) → ((!y0) = true))) (decide ((a0 : Int) < 0))) ?_
    refine sk_and ((by decide : ∀ y0 : Bool, ((y0 = false) → ((!y0) = true))) (decide ((a0 : Int) < 0))) ?_
    refine sk_and ((by decide : ∀ y0 y1 : Bool, (((!(y0 || y1)) = true) → ((!(y0 || y1)) = true))) (decide ((a0 : Int) < 0)) (decide ((a0 : Int) > 65535))) ?_
    refine sk_and ((by decide : ∀ y0 y1 : Bool, (((!(y0 || y1)) = true) → ((!(y0 || y1)) = true))) (decide ((a0 : Int) < 0)) (decide ((a0 : Int) > 65535))) ?_
    refine sk_and ((by decide : ∀ y0 y1 : Bool, (((y0 || y1) = false) → ((!(y0 || y1)) = true))) (decide ((a0 : Int) < 0)) (decide ((a0 : Int) > 65535))) ?_
    refine br_ h ?_ ?_ <;> clear h <;> intro c9 h
    · refine sk_leaf ?_
      obtain rfl := some_ h
      exact end_ok [] Try.results6 (ps := [true = true]) (by as_aux_lemma => kernel_rfl) ⟨rfl, trivial⟩ (fun _ => ⟨rfl, by simp⟩)
    · refine sk_leaf ?_
      refine bs_ok (d := 27) (e := 3) (s := 1) (n := 1) (cs := [.pv (.raw (.int .i64 a0))]) (cs' := E3.cR [a0]) (by as_aux_lemma => kernel_rfl) rfl (by as_aux_lemma => kernel_rfl) ?_
      refine seg tabOk mixed 4000 (S := .leaf 0) (by as_aux_lemma => kernel_rfl) ?_
      refine sk_leaf ?_
      refine bs_ok (d := 29) (e := 3) (s := 1) (n := 1) (cs := [.pv (.raw (.int .i64 a0))]) (cs' := E3.cR [a0]) (by as_aux_lemma => kernel_rfl) rfl (by as_aux_lemma => kernel_rfl) ?_
      refine seg tabOk mixed 4000 (S := .leaf 0) (by as_aux_lemma => kernel_rfl) ?_
      refine sk_leaf ?_
      refine len_ro (by as_aux_lemma => kernel_rfl) 30 (s := 1) (n := a1.length) (c := fun i j => E3.cf (a1.getD i E3.z) j) (by as_aux_lemma => kernel_rfl) ?_; intro hl1_0
      refine len_row (by as_aux_lemma => kernel_rfl) 16816 (e := 3) (s := 1) (n := [a0].length) (cs := E3.cR [a0]) (by as_aux_lemma => kernel_rfl) (Elem.cR_length _ _) ?_; intro hl1_1
      refine loop_ok (by as_aux_lemma => kernel_rfl) (X := Nat × Int × List Int × List Int × Nat) (fun x => keep_ClockTrue_l1 a0 a1 r1 x.1 x.2.1 x.2.2.1 x.2.2.2.1 x.2.2.2.2 = some r) (fun x => x.1) (fun x => mk 67 [(4, .pv (.raw (.bool false))), (5, .pv (.raw (.int .i64 x.2.1))), (6, .row 0 1 0 x.2.2.1.length), (7, .row 1 1 0 x.2.2.2.1.length), (30, .pv ((E3.ro a1))), (31, .pv (.raw (.int .i64 ((a1.length : Nat) : Int)))), (32, .pv (.raw (.int .i64 ((x.2.2.2.2 : Nat) : Int))))] [(0, .row 3 1 (E3.cR x.2.2.1)), (1, .row 3 1 (E3.cR x.2.2.2.1))]) (FUEL, a0, [a0], [a0], 0) h ?_ ?_
      · exact sub_ok (ρ := [(0, some 16816), (1, some 16848)]) (l := [false = false, (a0 : Int) = a0, 0 = 0, 1 = ([a0].length), 0 = 0, 1 = ([a0].length), a1.length = a1.length, ∀ i, i < a1.length → ∀ j, j < 1 → E3.cf (a1.getD i E3.z) j = E3.cf (a1.getD i E3.z) j, (((a1.length : Nat) : Int) : Int) = ((a1.length : Nat) : Int), (0 : Int) = ((0 : Nat) : Int), E3.cR [a0] = E3.cR [a0], AllPv (E3.cR [a0]), E3.cR [a0] = E3.cR [a0], AllPv (E3.cR [a0])]) (by as_aux_lemma => kernel_rfl) ⟨rfl, rfl, rfl, (by first | rfl | simp), rfl, (by first | rfl | simp), rfl, fun _ _ _ _ => rfl, rfl, (by first | rfl | simp), rfl, (Elem.cR_pv _ _), rfl, (Elem.cR_pv _ _), trivial⟩
      · clear h; rintro ⟨n, x10, l11, l12, k13⟩ h p1 hp1
        obtain _ | n := n
        · cases (show (none : Option (Bool)) = some r from h)
        have h : keep_ClockTrue_l1 a0 a1 r1 (n + 1) x10 l11 l12 k13 = some r := h
        unfold keep_ClockTrue_l1 at h
        refine seg tabOk mixed 4000 (S := .br (decide ((((k13 : Nat) : Int) : Int) < ((a1.length : Nat) : Int))) (.and (0 ≤ (((k13 : Nat) : Int) : Int) ∧ ((k13 : Nat) : Int) < ((a1.length : Nat) : Int)) (.and (((!(decide (((a1.getD k13 0) : Int) < 0))) = true → ((!(decide (((a1.getD k13 0) : Int) < 0))) = true))) (.and ((decide (((a1.getD k13 0) : Int) < 0)) = false → (!(decide (((a1.getD k13 0) : Int) < 0))) = true) (.br ((decide (((a1.getD k13 0) : Int) < 0)) || (decide (((a1.getD k13 0) : Int) > 65535))) (.leaf 0) (.and ((65536 : Int) ≠ 0) (.leaf 1)))))) (.leaf 2)) (by as_aux_lemma => kernel_rfl) ?_
        refine br_ h ?_ ?_ <;> clear h <;> intro c14 h
        · refine sk_and ⟨Int.natCast_nonneg _, of_decide_eq_true c14⟩ ?_
          refine sk_and ((by decide : ∀ y0 : Bool, (((!y0) = true) → ((!y0) = true))) (decide (((a1.getD k13 0) : Int) < 0))) ?_
          refine sk_and ((by decide : ∀ y0 : Bool, ((y0 = false) → ((!y0) = true))) (decide (((a1.getD k13 0) : Int) < 0))) ?_
          refine br_ h ?_ ?_ <;> clear h <;> intro c18 h
          · refine sk_leaf ?_
            obtain rfl := some_ h
            exact end_ok [] Try.results6 (ps := [true = true]) (by as_aux_lemma => kernel_rfl) ⟨rfl, trivial⟩ (fun _ => ⟨rfl, by simp⟩)
          · refine sk_and (by decide) ?_
            refine sk_leaf ?_
            refine bs_ok (d := 48) (e := 3) (s := 1) (n := 1) (cs := [.pv (.raw (.int .i64 (Int.tmod (IntKind.i64.wrap (x10 + (a1.getD k13 0))) 65536)))]) (cs' := E3.cR [(Int.tmod (IntKind.i64.wrap (x10 + (a1.getD k13 0))) 65536)]) (by as_aux_lemma => kernel_rfl) rfl (by as_aux_lemma => kernel_rfl) ?_
            refine seg tabOk mixed 4000 (S := .leaf 0) (by as_aux_lemma => kernel_rfl) ?_
            refine sk_leaf ?_
            obtain ⟨g20, h⟩ := if_ h
            refine app_ok (d := 49) (e := 3) (s := 1) (b := 8) (x := .row 0 1 0 l11.length) (y := .row 17152 1 0 1) E3 (xs := l11) (ys := [(Int.tmod (IntKind.i64.wrap (x10 + (a1.getD k13 0))) 65536)]) (by as_aux_lemma => kernel_rfl) rfl (.row 0 l11 l11.length rfl (by as_aux_lemma => kernel_rfl)) (.all 17152 3 [(Int.tmod (IntKind.i64.wrap (x10 + (a1.getD k13 0))) 65536)] 1 rfl (by as_aux_lemma => kernel_rfl)) g20 (by as_aux_lemma => kernel_rfl) ?_
            refine seg tabOk mixed 4000 (S := .leaf 0) (by as_aux_lemma => kernel_rfl) ?_
            refine sk_leaf ?_
            refine bs_ok (d := 52) (e := 3) (s := 1) (n := 1) (cs := [.pv (.raw (.int .i64 (IntKind.i64.wrap (x10 + (a1.getD k13 0)))))]) (cs' := E3.cR [(IntKind.i64.wrap (x10 + (a1.getD k13 0)))]) (by as_aux_lemma => kernel_rfl) rfl (by as_aux_lemma => kernel_rfl) ?_
            refine seg tabOk mixed 4000 (S := .leaf 0) (by as_aux_lemma => kernel_rfl) ?_
            refine sk_leaf ?_
            obtain ⟨g21, h⟩ := if_ h
            refine app_ok (d := 53) (e := 3) (s := 1) (b := 8) (x := .row 1 1 0 l12.length) (y := .row 17216 1 0 1) E3 (xs := l12) (ys := [(IntKind.i64.wrap (x10 + (a1.getD k13 0)))]) (by as_aux_lemma => kernel_rfl) rfl (.row 1 l12 l12.length rfl (by as_aux_lemma => kernel_rfl)) (.all 17216 3 [(IntKind.i64.wrap (x10 + (a1.getD k13 0)))] 1 rfl (by as_aux_lemma => kernel_rfl)) g21 (by as_aux_lemma => kernel_rfl) ?_
            refine seg tabOk mixed 4000 (S := .leaf 0) (by as_aux_lemma => kernel_rfl) ?_
            refine sk_leaf ?_
            refine back_ok (p := p1) (by as_aux_lemma => kernel_rfl) (hp1 (n, (IntKind.i64.wrap (x10 + (a1.getD k13 0))), (l11 ++ [(Int.tmod (IntKind.i64.wrap (x10 + (a1.getD k13 0))) 65536)]), (l12 ++ [(IntKind.i64.wrap (x10 + (a1.getD k13 0)))]), k13 + 1) _ h (Nat.lt_succ_self n) ?_)
            exact sub_ok (ρ := [(0, some 17168), (1, some 17232)]) (l := [false = false, ((IntKind.i64.wrap (x10 + (a1.getD k13 0))) : Int) = (IntKind.i64.wrap (x10 + (a1.getD k13 0))), 0 = 0, ((l11 ++ [(Int.tmod (IntKind.i64.wrap (x10 + (a1.getD k13 0))) 65536)]).length) = ((l11 ++ [(Int.tmod (IntKind.i64.wrap (x10 + (a1.getD k13 0))) 65536)]).length), 0 = 0, ((l12 ++ [(IntKind.i64.wrap (x10 + (a1.getD k13 0)))]).length) = ((l12 ++ [(IntKind.i64.wrap (x10 + (a1.getD k13 0)))]).length), a1.length = a1.length, ∀ i, i < a1.length → ∀ j, j < 1 → E3.cf (a1.getD i E3.z) j = E3.cf (a1.getD i E3.z) j, (((a1.length : Nat) : Int) : Int) = ((a1.length : Nat) : Int), ((IntKind.i64.wrap (((k13 : Nat) : Int) + 1)) : Int) = (((k13 + 1) : Nat) : Int), E3.cR (l11 ++ [(Int.tmod (IntKind.i64.wrap (x10 + (a1.getD k13 0))) 65536)]) = E3.cR (l11 ++ [(Int.tmod (IntKind.i64.wrap (x10 + (a1.getD k13 0))) 65536)]), AllPv (E3.cR (l11 ++ [(Int.tmod (IntKind.i64.wrap (x10 + (a1.getD k13 0))) 65536)])), E3.cR (l12 ++ [(IntKind.i64.wrap (x10 + (a1.getD k13 0)))]) = E3.cR (l12 ++ [(IntKind.i64.wrap (x10 + (a1.getD k13 0)))]), AllPv (E3.cR (l12 ++ [(IntKind.i64.wrap (x10 + (a1.getD k13 0)))]))]) (by as_aux_lemma => kernel_rfl) ⟨rfl, rfl, rfl, rfl, rfl, rfl, rfl, fun _ _ _ _ => rfl, rfl, (wrap_nat (Int.ofNat_lt.1 (of_decide_eq_true c14)) (by omega)), rfl, (Elem.cR_pv _ _), rfl, (Elem.cR_pv _ _), trivial⟩
        · refine sk_leaf ?_
          obtain ⟨r22, e23, h⟩ := bd_ h
          refine call_ok (d := some 57) (fn := 20) (ax := [.row 0 1 0 l11.length]) (args := [.pv ((E3.ro l11))]) (ps := [l11.length = l11.length, rowQ (E3.cR l11) 1 0 l11.length (fun i j => E3.cf (l11.getD i E3.z) j)]) (hb' := [.row 3 1 (E3.cR r22.1)]) (by as_aux_lemma => kernel_rfl) (clock_Extend_ok _ _ e23 (al := false)) (by as_aux_lemma => kernel_rfl) ⟨(by first | rfl | simp | (simp; omega)), E3.rowQ_all l11 rfl, trivial⟩ (fun hx => by cases hx) (by simp) (by simp only [List.map_cons, List.map_nil, Elem.row_up]) (by as_aux_lemma => kernel_rfl) ?_
          refine seg tabOk mixed 4000 (S := .leaf 0) (by as_aux_lemma => kernel_rfl) ?_
          refine sk_leaf ?_
          obtain ⟨r24, e25, h⟩ := bd_ h
          refine callG_ok (d := some 65) (fn := 21) (ax := [.row 17296 1 0 r22.1.length, .row 1 1 0 l12.length]) (args := [.pv ((E3.ro r22.1)), .pv ((E3.ro l12))]) (g := ((r22.2 : Int) == 0)) (ws := [((r22.2 : Int) == 0) = true, ((r22.2 : Int) == 0) = true]) (ps := [r22.1.length = r22.1.length, rowQ (E3.cR r22.1) 1 0 r22.1.length (fun i j => E3.cf (r22.1.getD i E3.z) j), l12.length = l12.length, rowQ (E3.cR l12) 1 0 l12.length (fun i j => E3.cf (l12.getD i E3.z) j)]) (by as_aux_lemma => kernel_rfl) (fun hg => ⟨((by decide : ∀ y0 : Bool, ((y0 = true) → (y0 = true))) ((r22.2 : Int) == 0)) hg, ((by decide : ∀ y0 : Bool, ((y0 = true) → (y0 = true))) ((r22.2 : Int) == 0)) hg, trivial⟩) (fun hg => slices_Equal_int_ok _ _ _ (by rw [hg] at e25; exact e25) (al := false)) (by as_aux_lemma => kernel_rfl) (fun _ => ⟨(by first | rfl | simp | (simp; omega)), E3.rowQ_all r22.1 rfl, (by first | rfl | simp | (simp; omega)), E3.rowQ_all l12 rfl, trivial⟩) (fun hx => by cases hx) ?_
          refine seg tabOk mixed 4000 (S := .and (((r22.2 : Int) == 0) = true → ((r22.2 : Int) == 0) = true) (.leaf 0)) (by as_aux_lemma => kernel_rfl) ?_
          refine sk_and ((by decide : ∀ y0 : Bool, ((y0 = true) → (y0 = true))) ((r22.2 : Int) == 0)) ?_
          refine sk_leaf ?_
          obtain rfl := some_ h
          exact end_ok [] Try.results6 (ps := [(((r22.2 : Int) == 0) && r24) = (((r22.2 : Int) == 0) && r24)]) (by as_aux_lemma => kernel_rfl) ⟨rfl, trivial⟩ (fun _ => ⟨rfl, by simp⟩)

end Go.Proofs.Ytegafdnfcijemaa
