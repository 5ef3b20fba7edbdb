import Derived.Test.YtaminiganaagiaaDoorQKNW6
set_option linter.unusedSimpArgs false
set_option linter.unusedVariables false
namespace Go.Proofs.YtaminiganaagiaaDoor
open Go Go.Ab
set_option maxHeartbeats 40000000
set_option maxRecDepth 100000
attribute [local irreducible] V VS runS Sk.Holds
def Y78 (x0 x1 : Api_Tty) : Bool := (!((bytesOf x0.Edit).toList == (bytesOf x1.Edit).toList))
theorem ref_SameTty_ok (a0 : Api_Tty) (a1 : Api_Tty) (r : Bool) (h : ref_SameTty a0 a1 = some r) {al : Bool} : PCalls Tryd.prog 10 [.agg (Y59 a0), .agg (Y59 a1)] al (.pv (.raw (.bool r))) [] := by
 unfold ref_SameTty at h
 refine fn_ok tabOk Tryd.func10 (by as_aux_lemma => kernel_rfl) (by as_aux_lemma => kernel_rfl) Tryd.ntmps10 (by simp) ?_
 refine segs [1, 6] tabOk mixed 4000 (S := .leaf 0) (by as_aux_lemma => kernel_rfl) ?_
 refine sk_leaf ?_
 refine cut_ok (by as_aux_lemma => kernel_rfl) (τ := mk 42 [(2, .ptr 0 0), (3, .ptr 1 0), (4, .pv (.raw (.bool false)))] [(0, .box (Y59 a0)), (1, .box (Y59 a1))]) (sub_ok (ρ := [(0, some 16512), (1, some 16576)]) (l := [0 = 0, 0 = 0, false = false, a0.Lines.length = a0.Lines.length, ∀ i, i < a0.Lines.length → ∀ j, j < 1 → E28.cf (a0.Lines.getD i E28.z) j = E28.cf (a0.Lines.getD i E28.z) j, a0.Edit.length = a0.Edit.length, ∀ i, i < a0.Edit.length → ∀ j, j < 1 → E5.cf (a0.Edit.getD i E5.z) j = E5.cf (a0.Edit.getD i E5.z) j, a1.Lines.length = a1.Lines.length, ∀ i, i < a1.Lines.length → ∀ j, j < 1 → E28.cf (a1.Lines.getD i E28.z) j = E28.cf (a1.Lines.getD i E28.z) j, a1.Edit.length = a1.Edit.length, ∀ i, i < a1.Edit.length → ∀ j, j < 1 → E5.cf (a1.Edit.getD i E5.z) j = E5.cf (a1.Edit.getD i E5.z) j]) (by as_aux_lemma => kernel_rfl) ⟨rfl, rfl, rfl, rfl, fun _ _ _ _ => rfl, rfl, fun _ _ _ _ => rfl, rfl, fun _ _ _ _ => rfl, rfl, fun _ _ _ _ => rfl, trivial⟩) ?_
 refine segs [6] tabOk mixed 4000 (S := .leaf 0) (by as_aux_lemma => kernel_rfl) ?_
 refine sk_leaf ?_
 refine cv_ok (d := 8) E5 (xs := a0.Edit) rfl (fun _ => rfl) (by as_aux_lemma => kernel_rfl) ?_
 refine segs [1, 6] tabOk mixed 4000 (S := .leaf 0) (by as_aux_lemma => kernel_rfl) ?_
 refine sk_leaf ?_
 refine cv_ok (d := 11) E5 (xs := a1.Edit) rfl (fun _ => rfl) (by as_aux_lemma => kernel_rfl) ?_
 refine segs [1, 6] tabOk mixed 4000 (S := .and (((!(Y78 a0 a1)) = true → ((!(Y78 a0 a1)) = true))) (.and (((!(Y78 a0 a1)) = true → ((!(Y78 a0 a1)) = true))) (.and (((!(Y78 a0 a1)) = true → ((!(Y78 a0 a1)) = true))) (.and (((!(Y78 a0 a1)) = true → ((!(Y78 a0 a1)) = true))) (.and (((!(Y78 a0 a1)) = true → ((!(Y78 a0 a1)) = true))) (.and (((!(Y78 a0 a1)) = true → ((!(Y78 a0 a1)) = true))) (.and ((Y78 a0 a1) = false → (!(Y78 a0 a1)) = true) (.br ((!((bytesOf a0.Edit).toList == (bytesOf a1.Edit).toList)) || ((((a0.Lines.length : Nat) : Int) : Int) != ((a1.Lines.length : Nat) : Int))) (.leaf 0) (.leaf 1))))))))) (by as_aux_lemma => kernel_rfl) ?_
 refine sk_and (fun h => h) ?_
 refine sk_and (fun h => h) ?_
 refine sk_and (fun h => h) ?_
 refine sk_and (fun h => h) ?_
 refine sk_and (fun h => h) ?_
 refine sk_and (fun h => h) ?_
 refine sk_and ((by decide : ∀ y0 : Bool, ((y0 = false) → ((!y0) = true))) (Y78 a0 a1)) ?_
 refine br_ h ?_ ?_ <;> clear h <;> intro c8 h
 ·refine sk_leaf ?_
  obtain rfl := some_ h
  exact end_ok [] Tryd.results10 (ps := [false = false]) (by as_aux_lemma => kernel_rfl) ⟨rfl, trivial⟩ (fun _ => ⟨rfl, by simp⟩)
 ·refine sk_leaf ?_
  refine len_box (by as_aux_lemma => kernel_rfl) 0 0 (cs := (Y59 a0)) (by as_aux_lemma => kernel_rfl) (s := 1) (n := a0.Lines.length) (c := fun i j => E28.cf (a0.Lines.getD i E28.z) j) rfl ?_; intro hl1_0
  refine len_box (by as_aux_lemma => kernel_rfl) 0 1 (cs := (Y59 a0)) (by as_aux_lemma => kernel_rfl) (s := 1) (n := a0.Edit.length) (c := fun i j => E5.cf (a0.Edit.getD i E5.z) j) rfl ?_; intro hl1_1
  refine len_box (by as_aux_lemma => kernel_rfl) 1 0 (cs := (Y59 a1)) (by as_aux_lemma => kernel_rfl) (s := 1) (n := a1.Lines.length) (c := fun i j => E28.cf (a1.Lines.getD i E28.z) j) rfl ?_; intro hl1_2
  refine len_box (by as_aux_lemma => kernel_rfl) 1 1 (cs := (Y59 a1)) (by as_aux_lemma => kernel_rfl) (s := 1) (n := a1.Edit.length) (c := fun i j => E5.cf (a1.Edit.getD i E5.z) j) rfl ?_; intro hl1_3
  replace h : (fun (x : Nat × Nat) => ref_SameTty_l1 a0 a1 x.1 x.2 = some r) (FUEL, 0) := h
  refine loop_ok (by as_aux_lemma => kernel_rfl) (X := Nat × Nat) (fun x => ref_SameTty_l1 a0 a1 x.1 x.2 = some r) (fun x => x.1) (fun x => mk 42 [(2, .ptr 0 0), (3, .ptr 1 0), (4, .pv (.raw (.bool false))), (24, .pv (.raw (.int .i64 ((a0.Lines.length : Nat) : Int)))), (25, .pv (.raw (.int .i64 ((x.2 : Nat) : Int))))] [(0, .box (Y59 a0)), (1, .box (Y59 a1))]) (FUEL, 0) h ?_ ?_
  ·exact sub_ok (ρ := [(0, some 0), (1, some 1)]) (l := [0 = 0, 0 = 0, false = false, (((a0.Lines.length : Nat) : Int) : Int) = ((a0.Lines.length : Nat) : Int), (0 : Int) = ((0 : Nat) : Int), a0.Lines.length = a0.Lines.length, ∀ i, i < a0.Lines.length → ∀ j, j < 1 → E28.cf (a0.Lines.getD i E28.z) j = E28.cf (a0.Lines.getD i E28.z) j, a0.Edit.length = a0.Edit.length, ∀ i, i < a0.Edit.length → ∀ j, j < 1 → E5.cf (a0.Edit.getD i E5.z) j = E5.cf (a0.Edit.getD i E5.z) j, a1.Lines.length = a1.Lines.length, ∀ i, i < a1.Lines.length → ∀ j, j < 1 → E28.cf (a1.Lines.getD i E28.z) j = E28.cf (a1.Lines.getD i E28.z) j, a1.Edit.length = a1.Edit.length, ∀ i, i < a1.Edit.length → ∀ j, j < 1 → E5.cf (a1.Edit.getD i E5.z) j = E5.cf (a1.Edit.getD i E5.z) j]) (by as_aux_lemma => kernel_rfl) ⟨rfl, rfl, rfl, rfl, (by first | rfl | simp), rfl, fun _ _ _ _ => rfl, rfl, fun _ _ _ _ => rfl, rfl, fun _ _ _ _ => rfl, rfl, fun _ _ _ _ => rfl, trivial⟩
  ·clear h; rintro ⟨n1, k9⟩ h p1 hp1
   obtain _ | n1 := n1
   ·cases (show (none : Option (Bool)) = some r from h)
   have h : ref_SameTty_l1 a0 a1 (n1 + 1) k9 = some r := h
   unfold ref_SameTty_l1 at h
   refine segs [1, 6] tabOk mixed 4000 (S := .br (decide ((((k9 : Nat) : Int) : Int) < ((a0.Lines.length : Nat) : Int))) (.leaf 0) (.leaf 1)) (by as_aux_lemma => kernel_rfl) ?_
   refine br_ h ?_ ?_ <;> clear h <;> intro c10 h
   ·refine sk_leaf ?_
    refine cut_ok (by as_aux_lemma => kernel_rfl) (τ := mk 42 [(2, .ptr 0 0), (3, .ptr 1 0), (4, .pv (.raw (.bool false))), (5, .pv (.raw (.int .i64 ((k9 : Nat) : Int)))), (24, .pv (.raw (.int .i64 ((a0.Lines.length : Nat) : Int)))), (25, .pv (.raw (.int .i64 ((k9 : Nat) : Int))))] [(0, .box (Y59 a0)), (1, .box (Y59 a1))]) (sub_ok (ρ := [(0, some 0), (1, some 1)]) (l := [0 = 0, 0 = 0, false = false, (((k9 : Nat) : Int) : Int) = ((k9 : Nat) : Int), (((a0.Lines.length : Nat) : Int) : Int) = ((a0.Lines.length : Nat) : Int), (((k9 : Nat) : Int) : Int) = ((k9 : Nat) : Int), a0.Lines.length = a0.Lines.length, ∀ i, i < a0.Lines.length → ∀ j, j < 1 → E28.cf (a0.Lines.getD i E28.z) j = E28.cf (a0.Lines.getD i E28.z) j, a0.Edit.length = a0.Edit.length, ∀ i, i < a0.Edit.length → ∀ j, j < 1 → E5.cf (a0.Edit.getD i E5.z) j = E5.cf (a0.Edit.getD i E5.z) j, a1.Lines.length = a1.Lines.length, ∀ i, i < a1.Lines.length → ∀ j, j < 1 → E28.cf (a1.Lines.getD i E28.z) j = E28.cf (a1.Lines.getD i E28.z) j, a1.Edit.length = a1.Edit.length, ∀ i, i < a1.Edit.length → ∀ j, j < 1 → E5.cf (a1.Edit.getD i E5.z) j = E5.cf (a1.Edit.getD i E5.z) j]) (by as_aux_lemma => kernel_rfl) ⟨rfl, rfl, rfl, rfl, rfl, rfl, rfl, fun _ _ _ _ => rfl, rfl, fun _ _ _ _ => rfl, rfl, fun _ _ _ _ => rfl, rfl, fun _ _ _ _ => rfl, trivial⟩) ?_
    refine segs [1] tabOk mixed 4000 (S := .and (0 ≤ (((k9 : Nat) : Int) : Int) ∧ ((k9 : Nat) : Int) < ((a0.Lines.length : Nat) : Int)) (.leaf 0)) (by as_aux_lemma => kernel_rfl) ?_
    refine sk_and ⟨Int.natCast_nonneg _, of_decide_eq_true c10⟩ ?_
    refine sk_leaf ?_
    refine cv_ok (d := 33) E5 (xs := (a0.Lines.getD k9 [])) rfl (fun _ => rfl) (by as_aux_lemma => kernel_rfl) ?_
    refine segs [1, 6] tabOk mixed 4000 (S := .and (0 ≤ (((k9 : Nat) : Int) : Int) ∧ ((k9 : Nat) : Int) < ((a1.Lines.length : Nat) : Int)) (.leaf 0)) (by as_aux_lemma => kernel_rfl) ?_
    refine gd_ h ?_; clear h; intro g12 h
    refine sk_leaf ?_
    refine cv_ok (d := 39) E5 (xs := (a1.Lines.getD k9 [])) rfl (fun _ => rfl) (by as_aux_lemma => kernel_rfl) ?_
    refine segs [1, 6] tabOk mixed 4000 (S := .br (!((bytesOf (a0.Lines.getD k9 [])).toList == (bytesOf (a1.Lines.getD k9 [])).toList)) (.leaf 0) (.leaf 1)) (by as_aux_lemma => kernel_rfl) ?_
    refine br_ h ?_ ?_ <;> clear h <;> intro c13 h
    ·refine sk_leaf ?_
     obtain rfl := some_ h
     exact end_ok [] Tryd.results10 (ps := [false = false]) (by as_aux_lemma => kernel_rfl) ⟨rfl, trivial⟩ (fun _ => ⟨rfl, by simp⟩)
    ·refine sk_leaf ?_
     refine back_ok (p := p1) (by as_aux_lemma => kernel_rfl) (hp1 (n1, k9 + 1) _ h (Nat.lt_succ_self n1) ?_)
     exact sub_ok (ρ := [(0, some 0), (1, some 1)]) (l := [0 = 0, 0 = 0, false = false, (((a0.Lines.length : Nat) : Int) : Int) = ((a0.Lines.length : Nat) : Int), ((IntKind.i64.wrap (((k9 : Nat) : Int) + 1)) : Int) = (((k9 + 1) : Nat) : Int), a0.Lines.length = a0.Lines.length, ∀ i, i < a0.Lines.length → ∀ j, j < 1 → E28.cf (a0.Lines.getD i E28.z) j = E28.cf (a0.Lines.getD i E28.z) j, a0.Edit.length = a0.Edit.length, ∀ i, i < a0.Edit.length → ∀ j, j < 1 → E5.cf (a0.Edit.getD i E5.z) j = E5.cf (a0.Edit.getD i E5.z) j, a1.Lines.length = a1.Lines.length, ∀ i, i < a1.Lines.length → ∀ j, j < 1 → E28.cf (a1.Lines.getD i E28.z) j = E28.cf (a1.Lines.getD i E28.z) j, a1.Edit.length = a1.Edit.length, ∀ i, i < a1.Edit.length → ∀ j, j < 1 → E5.cf (a1.Edit.getD i E5.z) j = E5.cf (a1.Edit.getD i E5.z) j]) (by as_aux_lemma => kernel_rfl) ⟨rfl, rfl, rfl, rfl, (wrap_nat (Int.ofNat_lt.1 (of_decide_eq_true c10)) (by omega)), rfl, fun _ _ _ _ => rfl, rfl, fun _ _ _ _ => rfl, rfl, fun _ _ _ _ => rfl, rfl, fun _ _ _ _ => rfl, trivial⟩
   ·refine sk_leaf ?_
    obtain rfl := some_ h
    exact end_ok [] Tryd.results10 (ps := [true = true]) (by as_aux_lemma => kernel_rfl) ⟨rfl, trivial⟩ (fun _ => ⟨rfl, by simp⟩)
def Y128 (x0 : List Api_KernOp) : List Prop := [x0.length = x0.length, ∀ i, i < x0.length → ∀ j, j < 4 → E26.cf (x0.getD i E26.z) j = E26.cf (x0.getD i E26.z) j]
theorem Y128p {x0 : List Api_KernOp} : allP (Y128 x0) := ⟨rfl, fun _ _ _ _ => rfl, trivial⟩
def Y33 (x0 : Api_Whole) (x1 : Int) : Bool := (((x0.Taken : Int) == 0) && ((((x0.Device.length : Nat) : Int) : Int) == (if (16 : Int) < x1 then 16 else x1)))
def Y61 (x0 : Bool) (x1 : Api_Whole) (x2 : Int) : Bool := (x0 && ((x1.Lost : Int) == (IntKind.i64.wrap (x2 - ((x1.Device.length : Nat) : Int)))))
def Y121 (x0 : Bool) (x1 : Api_Whole) : Bool := (x0 && ((((x1.Fetched.length : Nat) : Int) : Int) == 0))
def Y63 (x0 : Api_Whole) (x1 : Int) : List Prop := [(((((x0.Taken : Int) == 0) && ((((x0.Device.length : Nat) : Int) : Int) == (if (16 : Int) < x1 then 16 else x1))) && ((x0.Lost : Int) == (IntKind.i64.wrap (x1 - ((x0.Device.length : Nat) : Int))))) && ((((x0.Fetched.length : Nat) : Int) : Int) == 0)) = true, (((((x0.Taken : Int) == 0) && ((((x0.Device.length : Nat) : Int) : Int) == (if (16 : Int) < x1 then 16 else x1))) && ((x0.Lost : Int) == (IntKind.i64.wrap (x1 - ((x0.Device.length : Nat) : Int))))) && ((((x0.Fetched.length : Nat) : Int) : Int) == 0)) = true]
theorem keep_KernelQuiet_ok (a0 : (List Api_KernOp)) (r : Bool) (h : keep_KernelQuiet a0 = some r) {al : Bool} : PCalls Tryd.prog 4 [.pv ((E26.ro a0))] al (.pv (.raw (.bool r))) [] := by
 unfold keep_KernelQuiet at h
 refine fn_ok tabOk Tryd.func4 (by as_aux_lemma => kernel_rfl) (by as_aux_lemma => kernel_rfl) Tryd.ntmps4 (by simp) ?_
 refine segs [18] tabOk mixed 4000 (S := .leaf 0) (by as_aux_lemma => kernel_rfl) ?_
 refine sk_leaf ?_
 obtain ⟨r1, e2, h⟩ := bd_ h
 refine call_ok (d := some 10) (fn := 7) (ax := []) (args := []) (ps := []) (hb' := []) (by as_aux_lemma => kernel_rfl) (keep_alive25_ok  _ e2 (al := true)) (by as_aux_lemma => kernel_rfl) trivial (fun _ => (by as_aux_lemma => kernel_rfl)) (by simp) rfl (by as_aux_lemma => kernel_rfl) ?_
 refine segs [18] tabOk mixed 4000 (S := .br (!r1) (.leaf 0) (.leaf 1)) (by as_aux_lemma => kernel_rfl) ?_
 refine br_ h ?_ ?_ <;> clear h <;> intro c3 h
 ·refine sk_leaf ?_
  obtain rfl := some_ h
  exact end_ok [] Tryd.results4 (ps := [false = false]) (by as_aux_lemma => kernel_rfl) ⟨rfl, trivial⟩ (fun _ => ⟨rfl, by simp⟩)
 ·refine sk_leaf ?_
  refine bs_ok (d := 12) (e := 26) (s := 4) (n := 0) (cs := []) (cs' := E26.cR ([] : List Api_KernOp)) (by as_aux_lemma => kernel_rfl) rfl (by as_aux_lemma => kernel_rfl) ?_
  refine segs [18] tabOk mixed 4000 (S := .leaf 0) (by as_aux_lemma => kernel_rfl) ?_
  refine sk_leaf ?_
  refine len_ro (by as_aux_lemma => kernel_rfl) 0 (s := 4) (n := a0.length) (c := fun i j => E26.cf (a0.getD i E26.z) j) (by as_aux_lemma => kernel_rfl) ?_; intro hl1_0
  refine len_row (by as_aux_lemma => kernel_rfl) 17152 (e := 26) (s := 4) (n := ([] : List Api_KernOp).length) (cs := E26.cR ([] : List Api_KernOp)) (by as_aux_lemma => kernel_rfl) (Elem.cR_length _ _) ?_; intro hl1_1
  replace h : (fun (x : Nat × List Api_KernOp × Nat) => keep_KernelQuiet_l1 a0 x.1 x.2.1 x.2.2 = some r) (FUEL, ((([] : List Api_KernOp).drop 0).take 0), 0) := h
  refine loop_ok (by as_aux_lemma => kernel_rfl) (X := Nat × List Api_KernOp × Nat) (fun x => keep_KernelQuiet_l1 a0 x.1 x.2.1 x.2.2 = some r) (fun x => x.1) (fun x => mk 79 [(0, .pv ((E26.ro a0))), (2, .pv (.raw (.bool false))), (3, .row 0 4 0 x.2.1.length), (13, .pv (.raw (.int .i64 ((x.2.2 : Nat) : Int))))] [(0, .row 26 4 (E26.cR x.2.1))]) (FUEL, ((([] : List Api_KernOp).drop 0).take 0), 0) h ?_ ?_
  ·exact sub_ok (ρ := [(0, some 17152)]) (l := [a0.length = a0.length, ∀ i, i < a0.length → ∀ j, j < 4 → E26.cf (a0.getD i E26.z) j = E26.cf (a0.getD i E26.z) j, false = false, 0 = 0, 0 = (((([] : List Api_KernOp).drop 0).take 0).length), (0 : Int) = ((0 : Nat) : Int), E26.cR ([] : List Api_KernOp) = E26.cR ((([] : List Api_KernOp).drop 0).take 0), AllPv (E26.cR ((([] : List Api_KernOp).drop 0).take 0))]) (by as_aux_lemma => kernel_rfl) ⟨rfl, fun _ _ _ _ => rfl, rfl, rfl, (by first | rfl | simp), (by first | rfl | simp), (by simp), (Elem.cR_pv _ _), trivial⟩
  ·clear h; rintro ⟨n1, l4, k5⟩ h p1 hp1
   obtain _ | n1 := n1
   ·cases (show (none : Option (Bool)) = some r from h)
   have h : keep_KernelQuiet_l1 a0 (n1 + 1) l4 k5 = some r := h
   unfold keep_KernelQuiet_l1 at h
   refine segs [18] tabOk mixed 4000 (S := .br (decide ((((k5 : Nat) : Int) : Int) < 2)) (.leaf 0) (.leaf 1)) (by as_aux_lemma => kernel_rfl) ?_
   refine br_ h ?_ ?_ <;> clear h <;> intro c6 h
   ·refine sk_leaf ?_
    refine bs_ok (d := 19) (e := 26) (s := 4) (n := 1) (cs := [.pv (.raw (.int .i64 4)), .pv (.raw (.int .i64 ((k5 : Nat) : Int))), .pv (.raw (.int .i64 0)), .pv (.raw (.int .u8 0))]) (cs' := E26.cR [(⟨4, ((k5 : Nat) : Int), 0, 0⟩ : Api_KernOp)]) (by as_aux_lemma => kernel_rfl) rfl (by as_aux_lemma => kernel_rfl) ?_
    refine segs [18] tabOk mixed 4000 (S := .leaf 0) (by as_aux_lemma => kernel_rfl) ?_
    refine sk_leaf ?_
    obtain ⟨g7, h⟩ := if_ h
    refine app_ok (d := 20) (e := 26) (s := 4) (b := 32) (x := .row 0 4 0 l4.length) (y := .row 17600 4 0 1) E26 (xs := l4) (ys := [(⟨4, ((k5 : Nat) : Int), 0, 0⟩ : Api_KernOp)]) (by as_aux_lemma => kernel_rfl) rfl (.row 0 l4 l4.length rfl (by as_aux_lemma => kernel_rfl)) (.all 17600 26 [(⟨4, ((k5 : Nat) : Int), 0, 0⟩ : Api_KernOp)] 1 rfl (by as_aux_lemma => kernel_rfl)) g7 (by as_aux_lemma => kernel_rfl) ?_
    refine segs [18] tabOk mixed 4000 (S := .leaf 0) (by as_aux_lemma => kernel_rfl) ?_
    refine sk_leaf ?_
    refine back_ok (p := p1) (by as_aux_lemma => kernel_rfl) (hp1 (n1, (l4 ++ [(⟨4, ((k5 : Nat) : Int), 0, 0⟩ : Api_KernOp)]), k5 + 1) _ h (Nat.lt_succ_self n1) ?_)
    exact sub_ok (ρ := [(0, some 17664)]) (l := [a0.length = a0.length, ∀ i, i < a0.length → ∀ j, j < 4 → E26.cf (a0.getD i E26.z) j = E26.cf (a0.getD i E26.z) j, false = false, 0 = 0, ((l4 ++ [(⟨4, ((k5 : Nat) : Int), 0, 0⟩ : Api_KernOp)]).length) = ((l4 ++ [(⟨4, ((k5 : Nat) : Int), 0, 0⟩ : Api_KernOp)]).length), ((IntKind.i64.wrap (((k5 : Nat) : Int) + 1)) : Int) = (((k5 + 1) : Nat) : Int), E26.cR (l4 ++ [(⟨4, ((k5 : Nat) : Int), 0, 0⟩ : Api_KernOp)]) = E26.cR (l4 ++ [(⟨4, ((k5 : Nat) : Int), 0, 0⟩ : Api_KernOp)]), AllPv (E26.cR (l4 ++ [(⟨4, ((k5 : Nat) : Int), 0, 0⟩ : Api_KernOp)]))]) (by as_aux_lemma => kernel_rfl) ⟨rfl, fun _ _ _ _ => rfl, rfl, rfl, rfl, (wrap_nat_lit (by simp at * <;> omega)), rfl, (Elem.cR_pv _ _), trivial⟩
   ·refine sk_leaf ?_
    refine len_ro (by as_aux_lemma => kernel_rfl) 22 (s := 4) (n := a0.length) (c := fun i j => E26.cf (a0.getD i E26.z) j) (by as_aux_lemma => kernel_rfl) ?_; intro hl2_0
    refine len_row (by as_aux_lemma => kernel_rfl) 0 (e := 26) (s := 4) (n := l4.length) (cs := E26.cR l4) (by as_aux_lemma => kernel_rfl) (Elem.cR_length _ _) ?_; intro hl2_1
    replace h : (fun (x : Nat × List Api_KernOp × Int × Nat) => keep_KernelQuiet_l2 a0 l4 x.1 x.2.1 x.2.2.1 x.2.2.2 = some r) (FUEL, l4, 0, 0) := h
    refine loop_ok (by as_aux_lemma => kernel_rfl) (X := Nat × List Api_KernOp × Int × Nat) (fun x => keep_KernelQuiet_l2 a0 l4 x.1 x.2.1 x.2.2.1 x.2.2.2 = some r) (fun x => x.1) (fun x => mk 79 [(2, .pv (.raw (.bool false))), (3, .row 0 4 0 x.2.1.length), (5, .pv (.raw (.int .i64 x.2.2.1))), (22, .pv ((E26.ro a0))), (23, .pv (.raw (.int .i64 ((a0.length : Nat) : Int)))), (24, .pv (.raw (.int .i64 ((x.2.2.2 : Nat) : Int))))] [(0, .row 26 4 (E26.cR x.2.1))]) (FUEL, l4, 0, 0) h ?_ ?_
    ·exact sub_ok (ρ := [(0, some 0)]) (l := [false = false, 0 = 0, l4.length = l4.length, (0 : Int) = 0, a0.length = a0.length, ∀ i, i < a0.length → ∀ j, j < 4 → E26.cf (a0.getD i E26.z) j = E26.cf (a0.getD i E26.z) j, (((a0.length : Nat) : Int) : Int) = ((a0.length : Nat) : Int), (0 : Int) = ((0 : Nat) : Int), E26.cR l4 = E26.cR l4, AllPv (E26.cR l4)]) (by as_aux_lemma => kernel_rfl) ⟨rfl, rfl, rfl, rfl, rfl, fun _ _ _ _ => rfl, rfl, (by first | rfl | simp), rfl, (Elem.cR_pv _ _), trivial⟩
    ·clear h; rintro ⟨n2, l8, x9, k10⟩ h p2 hp2
     obtain _ | n2 := n2
     ·cases (show (none : Option (Bool)) = some r from h)
     have h : keep_KernelQuiet_l2 a0 l4 (n2 + 1) l8 x9 k10 = some r := h
     unfold keep_KernelQuiet_l2 at h
     refine segs [18] tabOk mixed 4000 (S := .br (decide ((((k10 : Nat) : Int) : Int) < ((a0.length : Nat) : Int))) (.and (0 ≤ (((k10 : Nat) : Int) : Int) ∧ ((k10 : Nat) : Int) < ((a0.length : Nat) : Int)) (.br (((a0.getD k10 (⟨0, 0, 0, 0⟩ : Api_KernOp)).Kind : Int) == 5) (.leaf 0) (.br (((a0.getD k10 (⟨0, 0, 0, 0⟩ : Api_KernOp)).Kind : Int) == 1) (.leaf 1) (.leaf 2)))) (.leaf 3)) (by as_aux_lemma => kernel_rfl) ?_
     refine br_ h ?_ ?_ <;> clear h <;> intro c11 h
     ·refine sk_and ⟨Int.natCast_nonneg _, of_decide_eq_true c11⟩ ?_
      refine br_ h ?_ ?_ <;> clear h <;> intro c13 h
      ·refine sk_leaf ?_
       refine back_ok (p := p2) (by as_aux_lemma => kernel_rfl) (hp2 (n2, l8, x9, k10 + 1) _ h (Nat.lt_succ_self n2) ?_)
       exact sub_ok (ρ := [(0, some 0)]) (l := [false = false, 0 = 0, l8.length = l8.length, (x9 : Int) = x9, a0.length = a0.length, ∀ i, i < a0.length → ∀ j, j < 4 → E26.cf (a0.getD i E26.z) j = E26.cf (a0.getD i E26.z) j, (((a0.length : Nat) : Int) : Int) = ((a0.length : Nat) : Int), ((IntKind.i64.wrap (((k10 : Nat) : Int) + 1)) : Int) = (((k10 + 1) : Nat) : Int), E26.cR l8 = E26.cR l8, AllPv (E26.cR l8)]) (by as_aux_lemma => kernel_rfl) ⟨rfl, rfl, rfl, rfl, rfl, fun _ _ _ _ => rfl, rfl, (wrap_nat (Int.ofNat_lt.1 (of_decide_eq_true c11)) (by omega)), rfl, (Elem.cR_pv _ _), trivial⟩
      ·refine br_ h ?_ ?_ <;> clear h <;> intro c14 h
       ·refine sk_leaf ?_
        refine bs_ok (d := 38) (e := 26) (s := 4) (n := 1) (cs := (Y91 a0 k10)) (cs' := E26.cR [(a0.getD k10 (⟨0, 0, 0, 0⟩ : Api_KernOp))]) (by as_aux_lemma => kernel_rfl) rfl (by as_aux_lemma => kernel_rfl) ?_
        refine segs [18] tabOk mixed 4000 (S := .leaf 0) (by as_aux_lemma => kernel_rfl) ?_
        refine sk_leaf ?_
        obtain ⟨g15, h⟩ := if_ h
        refine app_ok (d := 39) (e := 26) (s := 4) (b := 32) (x := .row 0 4 0 l8.length) (y := .row 18816 4 0 1) E26 (xs := l8) (ys := [(a0.getD k10 (⟨0, 0, 0, 0⟩ : Api_KernOp))]) (by as_aux_lemma => kernel_rfl) rfl (.row 0 l8 l8.length rfl (by as_aux_lemma => kernel_rfl)) (.all 18816 26 [(a0.getD k10 (⟨0, 0, 0, 0⟩ : Api_KernOp))] 1 rfl (by as_aux_lemma => kernel_rfl)) g15 (by as_aux_lemma => kernel_rfl) ?_
        refine segs [18] tabOk mixed 4000 (S := .leaf 0) (by as_aux_lemma => kernel_rfl) ?_
        refine sk_leaf ?_
        refine back_ok (p := p2) (by as_aux_lemma => kernel_rfl) (hp2 (n2, (l8 ++ [(a0.getD k10 (⟨0, 0, 0, 0⟩ : Api_KernOp))]), (IntKind.i64.wrap (x9 + 1)), k10 + 1) _ h (Nat.lt_succ_self n2) ?_)
        exact sub_ok (ρ := [(0, some 18880)]) (l := [false = false, 0 = 0, ((l8 ++ [(a0.getD k10 (⟨0, 0, 0, 0⟩ : Api_KernOp))]).length) = ((l8 ++ [(a0.getD k10 (⟨0, 0, 0, 0⟩ : Api_KernOp))]).length), ((IntKind.i64.wrap (x9 + 1)) : Int) = (IntKind.i64.wrap (x9 + 1)), a0.length = a0.length, ∀ i, i < a0.length → ∀ j, j < 4 → E26.cf (a0.getD i E26.z) j = E26.cf (a0.getD i E26.z) j, (((a0.length : Nat) : Int) : Int) = ((a0.length : Nat) : Int), ((IntKind.i64.wrap (((k10 : Nat) : Int) + 1)) : Int) = (((k10 + 1) : Nat) : Int), E26.cR (l8 ++ [(a0.getD k10 (⟨0, 0, 0, 0⟩ : Api_KernOp))]) = E26.cR (l8 ++ [(a0.getD k10 (⟨0, 0, 0, 0⟩ : Api_KernOp))]), AllPv (E26.cR (l8 ++ [(a0.getD k10 (⟨0, 0, 0, 0⟩ : Api_KernOp))]))]) (by as_aux_lemma => kernel_rfl) ⟨rfl, rfl, rfl, rfl, rfl, fun _ _ _ _ => rfl, rfl, (wrap_nat (Int.ofNat_lt.1 (of_decide_eq_true c11)) (by omega)), rfl, (Elem.cR_pv _ _), trivial⟩
       ·refine sk_leaf ?_
        refine bs_ok (d := 38) (e := 26) (s := 4) (n := 1) (cs := (Y91 a0 k10)) (cs' := E26.cR [(a0.getD k10 (⟨0, 0, 0, 0⟩ : Api_KernOp))]) (by as_aux_lemma => kernel_rfl) rfl (by as_aux_lemma => kernel_rfl) ?_
        refine segs [18] tabOk mixed 4000 (S := .leaf 0) (by as_aux_lemma => kernel_rfl) ?_
        refine sk_leaf ?_
        obtain ⟨g16, h⟩ := if_ h
        refine app_ok (d := 39) (e := 26) (s := 4) (b := 32) (x := .row 0 4 0 l8.length) (y := .row 18816 4 0 1) E26 (xs := l8) (ys := [(a0.getD k10 (⟨0, 0, 0, 0⟩ : Api_KernOp))]) (by as_aux_lemma => kernel_rfl) rfl (.row 0 l8 l8.length rfl (by as_aux_lemma => kernel_rfl)) (.all 18816 26 [(a0.getD k10 (⟨0, 0, 0, 0⟩ : Api_KernOp))] 1 rfl (by as_aux_lemma => kernel_rfl)) g16 (by as_aux_lemma => kernel_rfl) ?_
        refine segs [18] tabOk mixed 4000 (S := .leaf 0) (by as_aux_lemma => kernel_rfl) ?_
        refine sk_leaf ?_
        refine back_ok (p := p2) (by as_aux_lemma => kernel_rfl) (hp2 (n2, (l8 ++ [(a0.getD k10 (⟨0, 0, 0, 0⟩ : Api_KernOp))]), x9, k10 + 1) _ h (Nat.lt_succ_self n2) ?_)
        exact sub_ok (ρ := [(0, some 18880)]) (l := [false = false, 0 = 0, ((l8 ++ [(a0.getD k10 (⟨0, 0, 0, 0⟩ : Api_KernOp))]).length) = ((l8 ++ [(a0.getD k10 (⟨0, 0, 0, 0⟩ : Api_KernOp))]).length), (x9 : Int) = x9, a0.length = a0.length, ∀ i, i < a0.length → ∀ j, j < 4 → E26.cf (a0.getD i E26.z) j = E26.cf (a0.getD i E26.z) j, (((a0.length : Nat) : Int) : Int) = ((a0.length : Nat) : Int), ((IntKind.i64.wrap (((k10 : Nat) : Int) + 1)) : Int) = (((k10 + 1) : Nat) : Int), E26.cR (l8 ++ [(a0.getD k10 (⟨0, 0, 0, 0⟩ : Api_KernOp))]) = E26.cR (l8 ++ [(a0.getD k10 (⟨0, 0, 0, 0⟩ : Api_KernOp))]), AllPv (E26.cR (l8 ++ [(a0.getD k10 (⟨0, 0, 0, 0⟩ : Api_KernOp))]))]) (by as_aux_lemma => kernel_rfl) ⟨rfl, rfl, rfl, rfl, rfl, fun _ _ _ _ => rfl, rfl, (wrap_nat (Int.ofNat_lt.1 (of_decide_eq_true c11)) (by omega)), rfl, (Elem.cR_pv _ _), trivial⟩
     ·refine sk_leaf ?_
      refine cut_ok (by as_aux_lemma => kernel_rfl) (τ := mk 79 [(2, .pv (.raw (.bool false))), (3, .pv ((E26.ro l8))), (5, .pv (.raw (.int .i64 x9)))] []) (sub_ok (ρ := []) (l := [false = false, l8.length = l8.length, rowQ (E26.cR l8) 4 0 l8.length (fun i j => E26.cf (l8.getD i E26.z) j), (x9 : Int) = x9]) (by as_aux_lemma => kernel_rfl) ⟨rfl, (by first | rfl | exact Elem.sub_len _ (by omega) | omega | simp | (simp <;> omega)), E26.rowQ_all l8 rfl, rfl, trivial⟩) ?_
      refine s0 ?_
      obtain ⟨r17, e18, h⟩ := bd_ h
      refine call_ok (d := some 43) (fn := 9) (ax := [.pv ((E26.ro l8))]) (ps := (Y128 l8)) (hb' := [.row 38 2 (E38.cR r17.1), .row 5 1 (E5.cR r17.2.Device), .row 5 1 (E5.cR r17.2.Fetched)]) (by as_aux_lemma => kernel_rfl) (kernel_Play_ok _ _ e18) (by as_aux_lemma => kernel_rfl) Y128p (fun _ => (by as_aux_lemma => kernel_rfl)) (by simp) (by simp only [List.map_cons, List.map_nil, Elem.row_up, up_map] <;> rfl) (by as_aux_lemma => kernel_rfl) ?_
      refine segs [18] tabOk mixed 4000 (S := .and ((((r17.2.Taken : Int) == 0) = true → (((r17.2.Taken : Int) == 0) = true))) (.and ((((r17.2.Taken : Int) == 0) = true → (((r17.2.Taken : Int) == 0) = true))) (.and ((((r17.2.Taken : Int) == 0) = true → (((r17.2.Taken : Int) == 0) = true))) (.and ((((r17.2.Taken : Int) == 0) = true → (((r17.2.Taken : Int) == 0) = true))) (.and ((((r17.2.Taken : Int) == 0) = true → (((r17.2.Taken : Int) == 0) = true))) (.and (((r17.2.Taken : Int) == 0) = true → ((r17.2.Taken : Int) == 0) = true) (.and (((Y33 r17.2 x9) = true → ((Y33 r17.2 x9) = true))) (.and (((Y33 r17.2 x9) = true → ((Y33 r17.2 x9) = true))) (.and (((Y33 r17.2 x9) = true → ((Y33 r17.2 x9) = true))) (.and (((Y33 r17.2 x9) = true → ((Y33 r17.2 x9) = true))) (.and (((Y33 r17.2 x9) = true → ((Y33 r17.2 x9) = true))) (.and (((Y33 r17.2 x9) = true → ((Y33 r17.2 x9) = true))) (.and (((Y33 r17.2 x9) = true → ((Y33 r17.2 x9) = true))) (.and ((Y33 r17.2 x9) = true → (Y33 r17.2 x9) = true) (.and (((Y61 (Y33 r17.2 x9) r17.2 x9) = true → ((Y61 (Y33 r17.2 x9) r17.2 x9) = true))) (.and (((Y61 (Y33 r17.2 x9) r17.2 x9) = true → ((Y61 (Y33 r17.2 x9) r17.2 x9) = true))) (.and (((Y61 (Y33 r17.2 x9) r17.2 x9) = true → ((Y61 (Y33 r17.2 x9) r17.2 x9) = true))) (.and ((Y61 (Y33 r17.2 x9) r17.2 x9) = true → (Y61 (Y33 r17.2 x9) r17.2 x9) = true) (.and (((Y121 (Y61 (Y33 r17.2 x9) r17.2 x9) r17.2) = true → ((Y121 (Y61 (Y33 r17.2 x9) r17.2 x9) r17.2) = true))) (.leaf 0)))))))))))))))))))) (by as_aux_lemma => kernel_rfl) ?_
      refine sk_and (fun h => h) ?_
      refine sk_and (fun h => h) ?_
      refine sk_and (fun h => h) ?_
      refine sk_and (fun h => h) ?_
      refine sk_and (fun h => h) ?_
      refine sk_and (fun h => h) ?_
      refine sk_and (fun h => h) ?_
      refine sk_and (fun h => h) ?_
      refine sk_and (fun h => h) ?_
      refine sk_and (fun h => h) ?_
      refine sk_and (fun h => h) ?_
      refine sk_and (fun h => h) ?_
      refine sk_and (fun h => h) ?_
      refine sk_and (fun h => h) ?_
      refine sk_and (fun h => h) ?_
      refine sk_and (fun h => h) ?_
      refine sk_and (fun h => h) ?_
      refine sk_and (fun h => h) ?_
      refine sk_and (fun h => h) ?_
      refine sk_leaf ?_
      refine gsp_ h ?_ ?_ <;> clear h <;> intro c38 h
      ·refine unG_ok (g := (((((r17.2.Taken : Int) == 0) && ((((r17.2.Device.length : Nat) : Int) : Int) == (if (16 : Int) < x9 then 16 else x9))) && ((r17.2.Lost : Int) == (IntKind.i64.wrap (x9 - ((r17.2.Device.length : Nat) : Int))))) && ((((r17.2.Fetched.length : Nat) : Int) : Int) == 0))) (ws := (Y63 r17.2 x9)) (by as_aux_lemma => kernel_rfl) (by as_aux_lemma => kernel_rfl) c38 ⟨((by decide : ∀ y0 : Bool, ((y0 = true) → (y0 = true))) (((((r17.2.Taken : Int) == 0) && ((((r17.2.Device.length : Nat) : Int) : Int) == (if (16 : Int) < x9 then 16 else x9))) && ((r17.2.Lost : Int) == (IntKind.i64.wrap (x9 - ((r17.2.Device.length : Nat) : Int))))) && ((((r17.2.Fetched.length : Nat) : Int) : Int) == 0))) c38, ((by decide : ∀ y0 : Bool, ((y0 = true) → (y0 = true))) (((((r17.2.Taken : Int) == 0) && ((((r17.2.Device.length : Nat) : Int) : Int) == (if (16 : Int) < x9 then 16 else x9))) && ((r17.2.Lost : Int) == (IntKind.i64.wrap (x9 - ((r17.2.Device.length : Nat) : Int))))) && ((((r17.2.Fetched.length : Nat) : Int) : Int) == 0))) c38, trivial⟩ ?_
       obtain ⟨r39, e40, h⟩ := bd_ h
       refine call_ok (d := some 77) (fn := 10) (ax := [.agg (Y59 r17.2.Tty), .agg Y105]) (ps := [r17.2.Tty.Lines.length = r17.2.Tty.Lines.length, ∀ i, i < r17.2.Tty.Lines.length → ∀ j, j < 1 → E28.cf (r17.2.Tty.Lines.getD i E28.z) j = E28.cf (r17.2.Tty.Lines.getD i E28.z) j, r17.2.Tty.Edit.length = r17.2.Tty.Edit.length, ∀ i, i < r17.2.Tty.Edit.length → ∀ j, j < 1 → E5.cf (r17.2.Tty.Edit.getD i E5.z) j = E5.cf (r17.2.Tty.Edit.getD i E5.z) j, ([] : List (List Int)).length = 0, ([] : List Int).length = 0]) (hb' := []) (by as_aux_lemma => kernel_rfl) (ref_SameTty_ok _ _ _ e40 (al := true)) (by as_aux_lemma => kernel_rfl) ⟨rfl, fun _ _ _ _ => rfl, rfl, fun _ _ _ _ => rfl, rfl, rfl, trivial⟩ (fun _ => (by as_aux_lemma => kernel_rfl)) (by simp) rfl (by as_aux_lemma => kernel_rfl) ?_
       refine gdw_ok (g := (((((r17.2.Taken : Int) == 0) && ((((r17.2.Device.length : Nat) : Int) : Int) == (if (16 : Int) < x9 then 16 else x9))) && ((r17.2.Lost : Int) == (IntKind.i64.wrap (x9 - ((r17.2.Device.length : Nat) : Int))))) && ((((r17.2.Fetched.length : Nat) : Int) : Int) == 0))) (ws := (Y63 r17.2 x9)) (by as_aux_lemma => kernel_rfl) ?_
       refine segs [18] tabOk mixed 4000 (S := .and ((Y121 (Y61 (Y33 r17.2 x9) r17.2 x9) r17.2) = true → (Y121 (Y61 (Y33 r17.2 x9) r17.2 x9) r17.2) = true) (.leaf 0)) (by as_aux_lemma => kernel_rfl) ?_
       refine sk_and (fun h => h) ?_
       refine sk_leaf ?_
       obtain rfl := some_ h
       exact end_ok [] Tryd.results4 (ps := [((((((r17.2.Taken : Int) == 0) && ((((r17.2.Device.length : Nat) : Int) : Int) == (if (16 : Int) < x9 then 16 else x9))) && ((r17.2.Lost : Int) == (IntKind.i64.wrap (x9 - ((r17.2.Device.length : Nat) : Int))))) && ((((r17.2.Fetched.length : Nat) : Int) : Int) == 0)) && r39) = ((((((r17.2.Taken : Int) == 0) && ((((r17.2.Device.length : Nat) : Int) : Int) == (if (16 : Int) < x9 then 16 else x9))) && ((r17.2.Lost : Int) == (IntKind.i64.wrap (x9 - ((r17.2.Device.length : Nat) : Int))))) && ((((r17.2.Fetched.length : Nat) : Int) : Int) == 0)) && r39)]) (by as_aux_lemma => kernel_rfl) ⟨rfl, trivial⟩ (fun _ => ⟨rfl, by simp⟩)
      ·refine skG_ok (g := (((((r17.2.Taken : Int) == 0) && ((((r17.2.Device.length : Nat) : Int) : Int) == (if (16 : Int) < x9 then 16 else x9))) && ((r17.2.Lost : Int) == (IntKind.i64.wrap (x9 - ((r17.2.Device.length : Nat) : Int))))) && ((((r17.2.Fetched.length : Nat) : Int) : Int) == 0))) (ws := (Y63 r17.2 x9)) (.pv (.raw (.bool false))) (by as_aux_lemma => kernel_rfl) c38 ?_
       refine segs [18] tabOk mixed 4000 (S := .and ((Y121 (Y61 (Y33 r17.2 x9) r17.2 x9) r17.2) = true → (Y121 (Y61 (Y33 r17.2 x9) r17.2 x9) r17.2) = true) (.leaf 0)) (by as_aux_lemma => kernel_rfl) ?_
       refine sk_and (fun h => h) ?_
       refine sk_leaf ?_
       obtain rfl := some_ h
       exact end_ok [] Tryd.results4 (ps := [((((((r17.2.Taken : Int) == 0) && ((((r17.2.Device.length : Nat) : Int) : Int) == (if (16 : Int) < x9 then 16 else x9))) && ((r17.2.Lost : Int) == (IntKind.i64.wrap (x9 - ((r17.2.Device.length : Nat) : Int))))) && ((((r17.2.Fetched.length : Nat) : Int) : Int) == 0)) && false) = ((((((r17.2.Taken : Int) == 0) && ((((r17.2.Device.length : Nat) : Int) : Int) == (if (16 : Int) < x9 then 16 else x9))) && ((r17.2.Lost : Int) == (IntKind.i64.wrap (x9 - ((r17.2.Device.length : Nat) : Int))))) && ((((r17.2.Fetched.length : Nat) : Int) : Int) == 0)) && false)]) (by as_aux_lemma => kernel_rfl) ⟨rfl, trivial⟩ (fun _ => ⟨rfl, by simp⟩)
end Go.Proofs.YtaminiganaagiaaDoor

