import Derived.Test.YtaminiganaagiaaDoorQKVW6
set_option linter.unusedSimpArgs false
set_option linter.unusedVariables false
namespace Go.Proofs.YtaminiganaagiaaDoor
open Go Go.Ab
set_option maxHeartbeats 40000000
set_option maxRecDepth 100000
attribute [local irreducible] V VS runS Sk.Holds
theorem tty_Type_ok (a0 : (List Int)) (r : Api_Tty) (h : tty_Type a0 = some r) : PCalls Tryd.prog 11 [.pv ((E5.ro a0))] true (.agg (Y55 r)) [] := by
 unfold tty_Type at h
 refine fn_ok tabOk Tryd.func11 (by kernel_rfl) (by kernel_rfl) Tryd.ntmps11 (by simp) ?_
 refine segs [5] tabOk mixed 4000 (S := .leaf 0) (by kernel_rfl) ?_
 refine sk_leaf ?_
 refine len_ro (by kernel_rfl) 8 (s := 1) (n := a0.length) (c := fun i j => E5.cf (a0.getD i E5.z) j) (by kernel_rfl) ?_; intro hl1_0
 replace h : (fun (x : Nat × Nat × List (List Int) × List Int) => tty_Type_l1 a0 x.1 x.2.1 x.2.2.1 x.2.2.2 = some r) (FUEL, 0, ([] : List (List Int)), ([] : List Int)) := h
 refine loop_ok (by kernel_rfl) (X := Nat × Nat × List (List Int) × List Int) (fun x => tty_Type_l1 a0 x.1 x.2.1 x.2.2.1 x.2.2.2 = some r) (fun x => x.1) (fun x => mk 25 [(2, .ptr 0 0), (3, .ptr 1 0), (8, .pv ((E5.ro a0))), (9, .pv (.raw (.int .i64 ((a0.length : Nat) : Int)))), (10, .pv (.raw (.int .i64 ((x.2.1 : Nat) : Int))))] [(0, .box Y91), (1, .box [.pv ((E28.ro x.2.2.1)), .pv ((E5.ro x.2.2.2))])]) (FUEL, 0, ([] : List (List Int)), ([] : List Int)) h ?_ ?_
 ·exact sub_ok (ρ := [(0, some 16512), (1, some 16576)]) (l := [0 = 0, 0 = 0, a0.length = a0.length, ∀ i, i < a0.length → ∀ j, j < 1 → E5.cf (a0.getD i E5.z) j = E5.cf (a0.getD i E5.z) j, (((a0.length : Nat) : Int) : Int) = ((a0.length : Nat) : Int), (0 : Int) = ((0 : Nat) : Int), ([] : List (List Int)).length = 0, ([] : List Int).length = 0]) (by kernel_rfl) ⟨rfl, rfl, rfl, fun _ _ _ _ => rfl, rfl, (by first | rfl | simp), rfl, rfl, trivial⟩
 ·clear h; rintro ⟨n1, k1, l2, l3⟩ h p1 hp1
  obtain _ | n1 := n1
  ·cases (show (none : Option (Api_Tty)) = some r from h)
  have h : tty_Type_l1 a0 (n1 + 1) k1 l2 l3 = some r := h
  unfold tty_Type_l1 at h
  refine segs [5] tabOk mixed 4000 (S := .br (decide ((((k1 : Nat) : Int) : Int) < ((a0.length : Nat) : Int))) (.and (0 ≤ (((k1 : Nat) : Int) : Int) ∧ ((k1 : Nat) : Int) < ((a0.length : Nat) : Int)) (.leaf 0)) (.leaf 1)) (by kernel_rfl) ?_
  refine br_ h ?_ ?_ <;> clear h <;> intro c4 h
  ·refine sk_and ⟨Int.natCast_nonneg _, of_decide_eq_true c4⟩ ?_
   refine sk_leaf ?_
   refine cut_ok (by kernel_rfl) (τ := mk 25 [(2, .ptr 0 0), (3, .ptr 1 0), (5, .pv (.raw (.int .u8 (a0.getD k1 0)))), (8, .pv ((E5.ro a0))), (9, .pv (.raw (.int .i64 ((a0.length : Nat) : Int)))), (10, .pv (.raw (.int .i64 ((k1 : Nat) : Int))))] [(0, .box Y91), (1, .box [.pv ((E28.ro l2)), .pv ((E5.ro l3))])]) (sub_ok (ρ := [(0, some 0), (1, some 1)]) (l := [0 = 0, 0 = 0, ((a0.getD k1 0) : Int) = (a0.getD k1 0), a0.length = a0.length, ∀ i, i < a0.length → ∀ j, j < 1 → E5.cf (a0.getD i E5.z) j = E5.cf (a0.getD i E5.z) j, (((a0.length : Nat) : Int) : Int) = ((a0.length : Nat) : Int), (((k1 : Nat) : Int) : Int) = ((k1 : Nat) : Int), l2.length = l2.length, ∀ i, i < l2.length → ∀ j, j < 1 → E28.cf (l2.getD i E28.z) j = E28.cf (l2.getD i E28.z) j, l3.length = l3.length, ∀ i, i < l3.length → ∀ j, j < 1 → E5.cf (l3.getD i E5.z) j = E5.cf (l3.getD i E5.z) j]) (by kernel_rfl) ⟨rfl, rfl, rfl, rfl, fun _ _ _ _ => rfl, rfl, rfl, rfl, fun _ _ _ _ => rfl, rfl, fun _ _ _ _ => rfl, trivial⟩) ?_
   refine s0 ?_
   obtain ⟨r6, e7, h⟩ := bd_ h
   refine call_ok (d := some 17) (fn := 19) (ax := [.agg [.pv ((E28.ro l2)), .pv ((E5.ro l3))], .pv (.raw (.int .u8 (a0.getD k1 0)))]) (ps := [l2.length = l2.length, ∀ i, i < l2.length → ∀ j, j < 1 → E28.cf (l2.getD i E28.z) j = E28.cf (l2.getD i E28.z) j, l3.length = l3.length, ∀ i, i < l3.length → ∀ j, j < 1 → E5.cf (l3.getD i E5.z) j = E5.cf (l3.getD i E5.z) j, ((a0.getD k1 0) : Int) = (a0.getD k1 0)]) (hb' := [.row 28 1 (E28.cR r6.1.Lines), .row 5 1 (E5.cR r6.1.Edit)]) (by kernel_rfl) (tty_Key_ok _ _ _ e7) (by kernel_rfl) ⟨rfl, fun _ _ _ _ => rfl, rfl, fun _ _ _ _ => rfl, rfl, trivial⟩ (fun _ => (by kernel_rfl)) (by simp) (by simp only [List.map_cons, List.map_nil, Elem.row_up, up_map] <;> rfl) (by kernel_rfl) ?_
   refine segs [5] tabOk mixed 4000 (S := .br ((r6.2 : Int) == 0) (.leaf 0) (.leaf 1)) (by kernel_rfl) ?_
   refine br_ h ?_ ?_ <;> clear h <;> intro c8 h
   ·refine sk_leaf ?_
    refine back_ok (p := p1) (by kernel_rfl) (hp1 (n1, k1 + 1, r6.1.Lines, r6.1.Edit) _ h (Nat.lt_succ_self n1) ?_)
    exact sub_ok (ρ := [(0, some 0), (1, some 1)]) (l := [0 = 0, 0 = 0, a0.length = a0.length, ∀ i, i < a0.length → ∀ j, j < 1 → E5.cf (a0.getD i E5.z) j = E5.cf (a0.getD i E5.z) j, (((a0.length : Nat) : Int) : Int) = ((a0.length : Nat) : Int), ((IntKind.i64.wrap (((k1 : Nat) : Int) + 1)) : Int) = (((k1 + 1) : Nat) : Int), r6.1.Lines.length = r6.1.Lines.length, rowQ (E28.cR r6.1.Lines) 1 0 r6.1.Lines.length (fun i j => E28.cf (r6.1.Lines.getD i E28.z) j), r6.1.Edit.length = r6.1.Edit.length, rowQ (E5.cR r6.1.Edit) 1 0 r6.1.Edit.length (fun i j => E5.cf (r6.1.Edit.getD i E5.z) j)]) (by kernel_rfl) ⟨rfl, rfl, rfl, fun _ _ _ _ => rfl, rfl, (wrap_nat (Int.ofNat_lt.1 (of_decide_eq_true c4)) (by omega)), (by first | rfl | exact Elem.sub_len _ (by omega) | omega | simp | (simp <;> omega)), E28.rowQ_all r6.1.Lines rfl, (by first | rfl | exact Elem.sub_len _ (by omega) | omega | simp | (simp <;> omega)), E5.rowQ_all r6.1.Edit rfl, trivial⟩
   ·refine sk_leaf ?_
    refine back_ok (p := p1) (by kernel_rfl) (hp1 (n1, k1 + 1, l2, l3) _ h (Nat.lt_succ_self n1) ?_)
    exact sub_ok (ρ := [(0, some 0), (1, some 1)]) (l := [0 = 0, 0 = 0, a0.length = a0.length, ∀ i, i < a0.length → ∀ j, j < 1 → E5.cf (a0.getD i E5.z) j = E5.cf (a0.getD i E5.z) j, (((a0.length : Nat) : Int) : Int) = ((a0.length : Nat) : Int), ((IntKind.i64.wrap (((k1 : Nat) : Int) + 1)) : Int) = (((k1 + 1) : Nat) : Int), l2.length = l2.length, ∀ i, i < l2.length → ∀ j, j < 1 → E28.cf (l2.getD i E28.z) j = E28.cf (l2.getD i E28.z) j, l3.length = l3.length, ∀ i, i < l3.length → ∀ j, j < 1 → E5.cf (l3.getD i E5.z) j = E5.cf (l3.getD i E5.z) j]) (by kernel_rfl) ⟨rfl, rfl, rfl, fun _ _ _ _ => rfl, rfl, (wrap_nat (Int.ofNat_lt.1 (of_decide_eq_true c4)) (by omega)), rfl, fun _ _ _ _ => rfl, rfl, fun _ _ _ _ => rfl, trivial⟩
  ·refine sk_leaf ?_
   obtain rfl := some_ h
   exact end_ok [] Tryd.results11 (ps := (Y56 l2 l3)) (by kernel_rfl) Y56p (fun hx => by cases hx)
def Y68 (x0 : (List Int)) (x1 : Nat) : Api_KernOp := (⟨6, (bitsOf .and .i64 (x0.getD x1 0) 1), 0, 0⟩ : Api_KernOp)
def Y92 : List AV := [.pv (.raw (.int .i64 2)), .pv (.raw (.int .i64 0)), .pv (.raw (.int .i64 0)), .pv (.raw (.int .u8 0)), .pv (.raw (.int .i64 2)), .pv (.raw (.int .i64 1)), .pv (.raw (.int .i64 0)), .pv (.raw (.int .u8 0))]
def Y39 (x0 x1 : Api_Whole) : Bool := ((decide ((x0.Lost : Int) > 0)) || (decide ((x1.Lost : Int) > 0)))
def Y82 (x0 : Api_Tty) (x1 : List (List Int)) (x2 : List Int) : List Prop := [x0.Lines.length = x0.Lines.length, ∀ i, i < x0.Lines.length → ∀ j, j < 1 → E28.cf (x0.Lines.getD i E28.z) j = E28.cf (x0.Lines.getD i E28.z) j, x0.Edit.length = x0.Edit.length, ∀ i, i < x0.Edit.length → ∀ j, j < 1 → E5.cf (x0.Edit.getD i E5.z) j = E5.cf (x0.Edit.getD i E5.z) j, x1.length = x1.length, ∀ i, i < x1.length → ∀ j, j < 1 → E28.cf (x1.getD i E28.z) j = E28.cf (x1.getD i E28.z) j, x2.length = x2.length, ∀ i, i < x2.length → ∀ j, j < 1 → E5.cf (x2.getD i E5.z) j = E5.cf (x2.getD i E5.z) j]
theorem Y82p {x0 : Api_Tty} {x1 : List (List Int)} {x2 : List Int} : allP (Y82 x0 x1 x2) := ⟨rfl, fun _ _ _ _ => rfl, rfl, fun _ _ _ _ => rfl, rfl, fun _ _ _ _ => rfl, rfl, fun _ _ _ _ => rfl, trivial⟩
theorem keep_KernelMoved_ok (a0 : (List Int)) (a1 : (List Int)) (r : Bool) (h : keep_KernelMoved a0 a1 = some r) {al : Bool} : PCalls Tryd.prog 5 [.pv ((E5.ro a0)), .pv ((E3.ro a1))] al (.pv (.raw (.bool r))) [] := by
 unfold keep_KernelMoved at h
 refine fn_ok tabOk Tryd.func5 (by kernel_rfl) (by kernel_rfl) Tryd.ntmps5 (by simp) ?_
 refine segs [22, 27] tabOk mixed 4000 (S := .leaf 0) (by kernel_rfl) ?_
 refine sk_leaf ?_
 obtain ⟨r1, e2, h⟩ := bd_ h
 refine call_ok (d := some 16) (fn := 7) (ax := []) (args := []) (ps := []) (hb' := []) (by kernel_rfl) (keep_alive25_ok  _ e2 (al := true)) (by kernel_rfl) trivial (fun _ => (by kernel_rfl)) (by simp) rfl (by kernel_rfl) ?_
 refine segs [22, 27] tabOk mixed 4000 (S := .br (!r1) (.leaf 0) (.br (decide ((((a0.length : Nat) : Int) : Int) > 60)) (.leaf 1) (.leaf 2))) (by kernel_rfl) ?_
 refine br_ h ?_ ?_ <;> clear h <;> intro c3 h
 ·refine sk_leaf ?_
  obtain rfl := some_ h
  exact end_ok [] Tryd.results5 (ps := [false = false]) (by kernel_rfl) ⟨rfl, trivial⟩ (fun _ => ⟨rfl, by simp⟩)
 ·refine br_ h ?_ ?_ <;> clear h <;> intro c4 h
  ·refine sk_leaf ?_
   obtain rfl := some_ h
   exact end_ok [] Tryd.results5 (ps := [true = true]) (by kernel_rfl) ⟨rfl, trivial⟩ (fun _ => ⟨rfl, by simp⟩)
  ·refine sk_leaf ?_
   refine len_ro (by kernel_rfl) 0 (s := 1) (n := a0.length) (c := fun i j => E5.cf (a0.getD i E5.z) j) (by kernel_rfl) ?_; intro hl1_0
   refine len_ro (by kernel_rfl) 1 (s := 1) (n := a1.length) (c := fun i j => E3.cf (a1.getD i E3.z) j) (by kernel_rfl) ?_; intro hl1_1
   refine len_ro (by kernel_rfl) 21 (s := 1) (n := a0.length) (c := fun i j => E5.cf (a0.getD i E5.z) j) (by kernel_rfl) ?_; intro hl1_2
   replace h : (fun (x : Nat × Nat × List Api_KernOp × List Api_KernOp) => keep_KernelMoved_l1 a0 a1 x.1 x.2.1 x.2.2.1 x.2.2.2 = some r) (FUEL, 0, ([] : List Api_KernOp), ([] : List Api_KernOp)) := h
   refine loop_ok (by kernel_rfl) (X := Nat × Nat × List Api_KernOp × List Api_KernOp) (fun x => keep_KernelMoved_l1 a0 a1 x.1 x.2.1 x.2.2.1 x.2.2.2 = some r) (fun x => x.1) (fun x => mk 110 [(0, .pv ((E5.ro a0))), (1, .pv ((E3.ro a1))), (4, .pv (.raw (.bool false))), (5, .ptr 0 0), (6, .ptr 1 0), (21, .pv ((E5.ro a0))), (22, .pv (.raw (.int .i64 ((a0.length : Nat) : Int)))), (23, .pv (.raw (.int .i64 ((x.2.1 : Nat) : Int))))] [(0, .box [.row 2 4 0 x.2.2.1.length]), (1, .box [.row 3 4 0 x.2.2.2.length]), (2, .row 26 4 (E26.cR x.2.2.1)), (3, .row 26 4 (E26.cR x.2.2.2))]) (FUEL, 0, ([] : List Api_KernOp), ([] : List Api_KernOp)) h ?_ ?_
   ·exact sub_ok (ρ := [(0, some 16704), (1, some 16768), (2, none), (3, none)]) (l := [a0.length = a0.length, ∀ i, i < a0.length → ∀ j, j < 1 → E5.cf (a0.getD i E5.z) j = E5.cf (a0.getD i E5.z) j, a1.length = a1.length, ∀ i, i < a1.length → ∀ j, j < 1 → E3.cf (a1.getD i E3.z) j = E3.cf (a1.getD i E3.z) j, false = false, 0 = 0, 0 = 0, a0.length = a0.length, ∀ i, i < a0.length → ∀ j, j < 1 → E5.cf (a0.getD i E5.z) j = E5.cf (a0.getD i E5.z) j, (((a0.length : Nat) : Int) : Int) = ((a0.length : Nat) : Int), (0 : Int) = ((0 : Nat) : Int), 0 = 0, (([] : List Api_KernOp).length) = 0, 0 = 0, (([] : List Api_KernOp).length) = 0, E26.cR ([] : List Api_KernOp) = [], E26.cR ([] : List Api_KernOp) = []]) (by kernel_rfl) ⟨rfl, fun _ _ _ _ => rfl, rfl, fun _ _ _ _ => rfl, rfl, rfl, rfl, rfl, fun _ _ _ _ => rfl, rfl, (by first | rfl | simp), rfl, (by first | rfl | simp), rfl, (by first | rfl | simp), rfl, rfl, trivial⟩
   ·clear h; rintro ⟨n1, k5, l6, l7⟩ h p1 hp1
    obtain _ | n1 := n1
    ·cases (show (none : Option (Bool)) = some r from h)
    have h : keep_KernelMoved_l1 a0 a1 (n1 + 1) k5 l6 l7 = some r := h
    unfold keep_KernelMoved_l1 at h
    refine segs [22, 27] tabOk mixed 4000 (S := .br (decide ((((k5 : Nat) : Int) : Int) < ((a0.length : Nat) : Int))) (.and (0 ≤ (((k5 : Nat) : Int) : Int) ∧ ((k5 : Nat) : Int) < ((a0.length : Nat) : Int)) (.leaf 0)) (.leaf 1)) (by kernel_rfl) ?_
    refine br_ h ?_ ?_ <;> clear h <;> intro c8 h
    ·refine sk_and ⟨Int.natCast_nonneg _, of_decide_eq_true c8⟩ ?_
     refine sk_leaf ?_
     refine bs_ok (d := 30) (e := 26) (s := 4) (n := 1) (cs := [.pv (.raw (.int .i64 1)), .pv (.raw (.int .i64 0)), .pv (.raw (.int .i64 0)), .pv (.raw (.int .u8 (a0.getD k5 0)))]) (cs' := E26.cR [(⟨1, 0, 0, (a0.getD k5 0)⟩ : Api_KernOp)]) (by kernel_rfl) rfl (by kernel_rfl) ?_
     refine segs [22, 27] tabOk mixed 4000 (S := .leaf 0) (by kernel_rfl) ?_
     refine sk_leaf ?_
     refine len_ro (by kernel_rfl) 0 (s := 1) (n := a0.length) (c := fun i j => E5.cf (a0.getD i E5.z) j) (by kernel_rfl) ?_; intro hl2_0
     refine len_ro (by kernel_rfl) 1 (s := 1) (n := a1.length) (c := fun i j => E3.cf (a1.getD i E3.z) j) (by kernel_rfl) ?_; intro hl2_1
     refine len_ro (by kernel_rfl) 21 (s := 1) (n := a0.length) (c := fun i j => E5.cf (a0.getD i E5.z) j) (by kernel_rfl) ?_; intro hl2_2
     refine len_row (by kernel_rfl) 2 (e := 26) (s := 4) (n := l6.length) (cs := E26.cR l6) (by kernel_rfl) (Elem.cR_length _ _) ?_; intro hl2_3
     refine len_row (by kernel_rfl) 3 (e := 26) (s := 4) (n := l7.length) (cs := E26.cR l7) (by kernel_rfl) (Elem.cR_length _ _) ?_; intro hl2_4
     refine len_row (by kernel_rfl) 18304 (e := 26) (s := 4) (n := [(⟨1, 0, 0, (a0.getD k5 0)⟩ : Api_KernOp)].length) (cs := E26.cR [(⟨1, 0, 0, (a0.getD k5 0)⟩ : Api_KernOp)]) (by kernel_rfl) (Elem.cR_length _ _) ?_; intro hl2_5
     obtain ⟨K2_0, hK2_0, h⟩ : ∃ (K2_0 : (List Api_KernOp) → Nat → Option (Bool)), K2_0 = (fun (l10 : List Api_KernOp) (k11 : Nat) => if ((l6).length + (l10).length) * 32 ≤ 140737488355328 ∧ (l6).length + (l10).length ≤ 140737488355328 then bif (decide ((((k5 : Nat) : Int) : Int) < ((a1.length : Nat) : Int))) then if ((l7).length + ([(Y68 a1 k5)]).length) * 32 ≤ 140737488355328 ∧ (l7).length + ([(Y68 a1 k5)]).length ≤ 140737488355328 then if (((l7 ++ [(Y68 a1 k5)])).length + (l10).length) * 32 ≤ 140737488355328 ∧ ((l7 ++ [(Y68 a1 k5)])).length + (l10).length ≤ 140737488355328 then keep_KernelMoved_l1 a0 a1 n1 (k5 + 1) (l6 ++ l10) ((l7 ++ [(Y68 a1 k5)]) ++ l10) else none else none else if ((l7).length + (l10).length) * 32 ≤ 140737488355328 ∧ (l7).length + (l10).length ≤ 140737488355328 then keep_KernelMoved_l1 a0 a1 n1 (k5 + 1) (l6 ++ l10) (l7 ++ l10) else none else none ) ∧ keep_KernelMoved_l2 a0 k5 K2_0 FUEL [(⟨1, 0, 0, (a0.getD k5 0)⟩ : Api_KernOp)] 0 = some r := ⟨_, rfl, h⟩
     replace h : (fun (x : Nat × List Api_KernOp × Nat) => keep_KernelMoved_l2 a0 k5 K2_0 x.1 x.2.1 x.2.2 = some r) (FUEL, [(⟨1, 0, 0, (a0.getD k5 0)⟩ : Api_KernOp)], 0) := h
     refine loop_ok (by kernel_rfl) (X := Nat × List Api_KernOp × Nat) (fun x => keep_KernelMoved_l2 a0 k5 K2_0 x.1 x.2.1 x.2.2 = some r) (fun x => x.1) (fun x => mk 110 [(0, .pv ((E5.ro a0))), (1, .pv ((E3.ro a1))), (4, .pv (.raw (.bool false))), (5, .ptr 0 0), (6, .ptr 1 0), (7, .pv (.raw (.int .i64 ((k5 : Nat) : Int)))), (9, .row 2 4 0 x.2.1.length), (21, .pv ((E5.ro a0))), (22, .pv (.raw (.int .i64 ((a0.length : Nat) : Int)))), (23, .pv (.raw (.int .i64 ((k5 : Nat) : Int)))), (31, .pv (.raw (.int .i64 ((x.2.2 : Nat) : Int))))] ([(0, .box [.row 3 4 0 l6.length]), (1, .box [.row 4 4 0 l7.length])] ++ (rH E26 26 4 2 ([x.2.1, l6, l7])))) (FUEL, [(⟨1, 0, 0, (a0.getD k5 0)⟩ : Api_KernOp)], 0) h ?_ ?_
     ·exact sub_ok (ρ := [(0, some 0), (1, some 1), (2, some 18304), (3, some 2), (4, some 3)]) (l := ([a0.length = a0.length, ∀ i, i < a0.length → ∀ j, j < 1 → E5.cf (a0.getD i E5.z) j = E5.cf (a0.getD i E5.z) j, a1.length = a1.length, ∀ i, i < a1.length → ∀ j, j < 1 → E3.cf (a1.getD i E3.z) j = E3.cf (a1.getD i E3.z) j, false = false, 0 = 0, 0 = 0, (((k5 : Nat) : Int) : Int) = ((k5 : Nat) : Int), 0 = 0, 1 = ([(⟨1, 0, 0, (a0.getD k5 0)⟩ : Api_KernOp)].length), a0.length = a0.length, ∀ i, i < a0.length → ∀ j, j < 1 → E5.cf (a0.getD i E5.z) j = E5.cf (a0.getD i E5.z) j, (((a0.length : Nat) : Int) : Int) = ((a0.length : Nat) : Int), (((k5 : Nat) : Int) : Int) = ((k5 : Nat) : Int), (0 : Int) = ((0 : Nat) : Int), 0 = 0, l6.length = l6.length, 0 = 0, l7.length = l7.length] ++ (pB E26 ([[(⟨1, 0, 0, (a0.getD k5 0)⟩ : Api_KernOp)], l6, l7])))) (by kernel_rfl) (allP_app ⟨rfl, fun _ _ _ _ => rfl, rfl, fun _ _ _ _ => rfl, rfl, rfl, rfl, rfl, rfl, (by first | rfl | simp), rfl, fun _ _ _ _ => rfl, rfl, rfl, (by first | rfl | simp), rfl, rfl, rfl, rfl, trivial⟩ (pB_ok _ _))
     ·clear h; rintro ⟨n2, l10, k11⟩ h p2 hp2
      obtain _ | n2 := n2
      ·cases (show (none : Option (Bool)) = some r from h)
      have h : keep_KernelMoved_l2 a0 k5 K2_0 (n2 + 1) l10 k11 = some r := h
      unfold keep_KernelMoved_l2 at h
      refine segs [22, 27] tabOk mixed 4000 (S := .br (decide ((((k11 : Nat) : Int) : Int) < 3)) (.leaf 0) (.leaf 1)) (by kernel_rfl) ?_
      refine br_ h ?_ ?_ <;> clear h <;> intro c12 h
      ·refine sk_leaf ?_
       refine bs_ok (d := 36) (e := 26) (s := 4) (n := 2) (cs := Y92) (cs' := E26.cR [(⟨2, 0, 0, 0⟩ : Api_KernOp), (⟨2, 1, 0, 0⟩ : Api_KernOp)]) (by kernel_rfl) rfl (by kernel_rfl) ?_
       refine segs [22, 27] tabOk mixed 4000 (S := .leaf 0) (by kernel_rfl) ?_
       refine sk_leaf ?_
       obtain ⟨g13, h⟩ := if_ h
       refine app_ok (d := 37) (e := 26) (s := 4) (b := 32) (x := .row 2 4 0 l10.length) (y := .row 18688 4 0 2) E26 (xs := l10) (ys := [(⟨2, 0, 0, 0⟩ : Api_KernOp), (⟨2, 1, 0, 0⟩ : Api_KernOp)]) (by kernel_rfl) rfl (.row 2 l10 l10.length rfl (by kernel_rfl)) (.all 18688 26 [(⟨2, 0, 0, 0⟩ : Api_KernOp), (⟨2, 1, 0, 0⟩ : Api_KernOp)] 2 rfl (by kernel_rfl)) g13 (by kernel_rfl) ?_
       refine segs [22, 27] tabOk mixed 4000 (S := .leaf 0) (by kernel_rfl) ?_
       refine sk_leaf ?_
       refine back_ok (p := p2) (by kernel_rfl) (hp2 (n2, (l10 ++ [(⟨2, 0, 0, 0⟩ : Api_KernOp), (⟨2, 1, 0, 0⟩ : Api_KernOp)]), k11 + 1) _ h (Nat.lt_succ_self n2) ?_)
       exact sub_ok (ρ := [(0, some 0), (1, some 1), (2, some 18752), (3, some 3), (4, some 4)]) (l := ([a0.length = a0.length, ∀ i, i < a0.length → ∀ j, j < 1 → E5.cf (a0.getD i E5.z) j = E5.cf (a0.getD i E5.z) j, a1.length = a1.length, ∀ i, i < a1.length → ∀ j, j < 1 → E3.cf (a1.getD i E3.z) j = E3.cf (a1.getD i E3.z) j, false = false, 0 = 0, 0 = 0, (((k5 : Nat) : Int) : Int) = ((k5 : Nat) : Int), 0 = 0, ((l10 ++ [(⟨2, 0, 0, 0⟩ : Api_KernOp), (⟨2, 1, 0, 0⟩ : Api_KernOp)]).length) = ((l10 ++ [(⟨2, 0, 0, 0⟩ : Api_KernOp), (⟨2, 1, 0, 0⟩ : Api_KernOp)]).length), a0.length = a0.length, ∀ i, i < a0.length → ∀ j, j < 1 → E5.cf (a0.getD i E5.z) j = E5.cf (a0.getD i E5.z) j, (((a0.length : Nat) : Int) : Int) = ((a0.length : Nat) : Int), (((k5 : Nat) : Int) : Int) = ((k5 : Nat) : Int), ((IntKind.i64.wrap (((k11 : Nat) : Int) + 1)) : Int) = (((k11 + 1) : Nat) : Int), 0 = 0, l6.length = l6.length, 0 = 0, l7.length = l7.length] ++ (pB E26 ([l10 ++ [(⟨2, 0, 0, 0⟩ : Api_KernOp), (⟨2, 1, 0, 0⟩ : Api_KernOp)], l6, l7])))) (by kernel_rfl) (allP_app ⟨rfl, fun _ _ _ _ => rfl, rfl, fun _ _ _ _ => rfl, rfl, rfl, rfl, rfl, rfl, rfl, rfl, fun _ _ _ _ => rfl, rfl, rfl, (wrap_nat_lit (by simp at * <;> omega)), rfl, rfl, rfl, rfl, trivial⟩ (pB_ok _ _))
      ·replace h := (congrFun (congrFun hK2_0 l10) k11).symm.trans h
       refine sk_leaf ?_
       obtain ⟨g14, h⟩ := if_ h
       refine app_ok (d := 41) (e := 26) (s := 4) (b := 32) (x := .row 3 4 0 l6.length) (y := .row 2 4 0 l10.length) E26 (xs := l6) (ys := l10) (by kernel_rfl) rfl (.row 3 l6 l6.length rfl (by kernel_rfl)) (.all 2 26 l10 l10.length rfl (by kernel_rfl)) g14 (by kernel_rfl) ?_
       refine segs [22, 27] tabOk mixed 4000 (S := .br (decide ((((k5 : Nat) : Int) : Int) < ((a1.length : Nat) : Int))) (.and (0 ≤ (((k5 : Nat) : Int) : Int) ∧ ((k5 : Nat) : Int) < ((a1.length : Nat) : Int)) (.leaf 0)) (.leaf 1)) (by kernel_rfl) ?_
       refine br_ h ?_ ?_ <;> clear h <;> intro c15 h
       ·refine sk_and ⟨Int.natCast_nonneg _, of_decide_eq_true c15⟩ ?_
        refine sk_leaf ?_
        refine bs_ok (d := 53) (e := 26) (s := 4) (n := 1) (cs := [.pv (.raw (.int .i64 6)), .pv (.raw (.int .i64 (bitsOf .and .i64 (a1.getD k5 0) 1))), .pv (.raw (.int .i64 0)), .pv (.raw (.int .u8 0))]) (cs' := E26.cR [(Y68 a1 k5)]) (by kernel_rfl) rfl (by kernel_rfl) ?_
        refine segs [22, 27] tabOk mixed 4000 (S := .leaf 0) (by kernel_rfl) ?_
        refine sk_leaf ?_
        obtain ⟨g17, h⟩ := if_ h
        refine app_ok (d := 54) (e := 26) (s := 4) (b := 32) (x := .row 4 4 0 l7.length) (y := .row 19776 4 0 1) E26 (xs := l7) (ys := [(Y68 a1 k5)]) (by kernel_rfl) rfl (.row 4 l7 l7.length rfl (by kernel_rfl)) (.all 19776 26 [(Y68 a1 k5)] 1 rfl (by kernel_rfl)) g17 (by kernel_rfl) ?_
        refine segs [22, 27] tabOk mixed 4000 (S := .leaf 0) (by kernel_rfl) ?_
        refine sk_leaf ?_
        obtain ⟨g18, h⟩ := if_ h
        refine app_ok (d := 57) (e := 26) (s := 4) (b := 32) (x := .row 19840 4 0 ((l7 ++ [(Y68 a1 k5)]).length)) (y := .row 2 4 0 l10.length) E26 (xs := (l7 ++ [(Y68 a1 k5)])) (ys := l10) (by kernel_rfl) rfl (.row 19840 (l7 ++ [(Y68 a1 k5)]) ((l7 ++ [(Y68 a1 k5)]).length) rfl (by kernel_rfl)) (.all 2 26 l10 l10.length rfl (by kernel_rfl)) g18 (by kernel_rfl) ?_
        refine segs [22, 27] tabOk mixed 4000 (S := .leaf 0) (by kernel_rfl) ?_
        refine sk_leaf ?_
        refine back_ok (p := p1) (by kernel_rfl) (hp1 (n1, k5 + 1, (l6 ++ l10), ((l7 ++ [(Y68 a1 k5)]) ++ l10)) _ h (Nat.lt_succ_self n1) ?_)
        exact sub_ok (ρ := [(0, some 0), (1, some 1), (2, some 19008), (3, some 20032)]) (l := [a0.length = a0.length, ∀ i, i < a0.length → ∀ j, j < 1 → E5.cf (a0.getD i E5.z) j = E5.cf (a0.getD i E5.z) j, a1.length = a1.length, ∀ i, i < a1.length → ∀ j, j < 1 → E3.cf (a1.getD i E3.z) j = E3.cf (a1.getD i E3.z) j, false = false, 0 = 0, 0 = 0, a0.length = a0.length, ∀ i, i < a0.length → ∀ j, j < 1 → E5.cf (a0.getD i E5.z) j = E5.cf (a0.getD i E5.z) j, (((a0.length : Nat) : Int) : Int) = ((a0.length : Nat) : Int), ((IntKind.i64.wrap (((k5 : Nat) : Int) + 1)) : Int) = (((k5 + 1) : Nat) : Int), 0 = 0, ((l6 ++ l10).length) = ((l6 ++ l10).length), 0 = 0, (((l7 ++ [(Y68 a1 k5)]) ++ l10).length) = (((l7 ++ [(Y68 a1 k5)]) ++ l10).length), E26.cR (l6 ++ l10) = E26.cR (l6 ++ l10), AllPv (E26.cR (l6 ++ l10)), E26.cR ((l7 ++ [(Y68 a1 k5)]) ++ l10) = E26.cR ((l7 ++ [(Y68 a1 k5)]) ++ l10), AllPv (E26.cR ((l7 ++ [(Y68 a1 k5)]) ++ l10))]) (by kernel_rfl) ⟨rfl, fun _ _ _ _ => rfl, rfl, fun _ _ _ _ => rfl, rfl, rfl, rfl, rfl, fun _ _ _ _ => rfl, rfl, (wrap_nat (Int.ofNat_lt.1 (of_decide_eq_true c15)) (by omega)), rfl, rfl, rfl, rfl, rfl, (Elem.cR_pv _ _), rfl, (Elem.cR_pv _ _), trivial⟩
       ·refine sk_leaf ?_
        obtain ⟨g19, h⟩ := if_ h
        refine app_ok (d := 57) (e := 26) (s := 4) (b := 32) (x := .row 4 4 0 l7.length) (y := .row 2 4 0 l10.length) E26 (xs := l7) (ys := l10) (by kernel_rfl) rfl (.row 4 l7 l7.length rfl (by kernel_rfl)) (.all 2 26 l10 l10.length rfl (by kernel_rfl)) g19 (by kernel_rfl) ?_
        refine segs [22, 27] tabOk mixed 4000 (S := .leaf 0) (by kernel_rfl) ?_
        refine sk_leaf ?_
        refine back_ok (p := p1) (by kernel_rfl) (hp1 (n1, k5 + 1, (l6 ++ l10), (l7 ++ l10)) _ h (Nat.lt_succ_self n1) ?_)
        exact sub_ok (ρ := [(0, some 0), (1, some 1), (2, some 19008), (3, some 20032)]) (l := [a0.length = a0.length, ∀ i, i < a0.length → ∀ j, j < 1 → E5.cf (a0.getD i E5.z) j = E5.cf (a0.getD i E5.z) j, a1.length = a1.length, ∀ i, i < a1.length → ∀ j, j < 1 → E3.cf (a1.getD i E3.z) j = E3.cf (a1.getD i E3.z) j, false = false, 0 = 0, 0 = 0, a0.length = a0.length, ∀ i, i < a0.length → ∀ j, j < 1 → E5.cf (a0.getD i E5.z) j = E5.cf (a0.getD i E5.z) j, (((a0.length : Nat) : Int) : Int) = ((a0.length : Nat) : Int), ((IntKind.i64.wrap (((k5 : Nat) : Int) + 1)) : Int) = (((k5 + 1) : Nat) : Int), 0 = 0, ((l6 ++ l10).length) = ((l6 ++ l10).length), 0 = 0, ((l7 ++ l10).length) = ((l7 ++ l10).length), E26.cR (l6 ++ l10) = E26.cR (l6 ++ l10), AllPv (E26.cR (l6 ++ l10)), E26.cR (l7 ++ l10) = E26.cR (l7 ++ l10), AllPv (E26.cR (l7 ++ l10))]) (by kernel_rfl) ⟨rfl, fun _ _ _ _ => rfl, rfl, fun _ _ _ _ => rfl, rfl, rfl, rfl, rfl, fun _ _ _ _ => rfl, rfl, (wrap_nat (Int.ofNat_lt.1 (of_decide_eq_true c8)) (by omega)), rfl, rfl, rfl, rfl, rfl, (Elem.cR_pv _ _), rfl, (Elem.cR_pv _ _), trivial⟩
    ·refine sk_leaf ?_
     refine len_ro (by kernel_rfl) 0 (s := 1) (n := a0.length) (c := fun i j => E5.cf (a0.getD i E5.z) j) (by kernel_rfl) ?_; intro hl3_0
     refine len_row (by kernel_rfl) 2 (e := 26) (s := 4) (n := l6.length) (cs := E26.cR l6) (by kernel_rfl) (Elem.cR_length _ _) ?_; intro hl3_1
     refine len_row (by kernel_rfl) 3 (e := 26) (s := 4) (n := l7.length) (cs := E26.cR l7) (by kernel_rfl) (Elem.cR_length _ _) ?_; intro hl3_2
     replace h : (fun (x : Nat × Nat × List Api_KernOp × List Api_KernOp) => keep_KernelMoved_l3 a0 l6 l7 x.1 x.2.1 x.2.2.1 x.2.2.2 = some r) (FUEL, 0, l6, l7) := h
     refine loop_ok (by kernel_rfl) (X := Nat × Nat × List Api_KernOp × List Api_KernOp) (fun x => keep_KernelMoved_l3 a0 l6 l7 x.1 x.2.1 x.2.2.1 x.2.2.2 = some r) (fun x => x.1) (fun x => mk 110 [(0, .pv ((E5.ro a0))), (4, .pv (.raw (.bool false))), (5, .ptr 0 0), (6, .ptr 1 0), (59, .pv (.raw (.int .i64 ((x.2.1 : Nat) : Int))))] [(0, .box [.row 2 4 0 x.2.2.1.length]), (1, .box [.row 3 4 0 x.2.2.2.length]), (2, .row 26 4 (E26.cR x.2.2.1)), (3, .row 26 4 (E26.cR x.2.2.2))]) (FUEL, 0, l6, l7) h ?_ ?_
     ·exact sub_ok (ρ := (rI 0 0 4)) (l := [a0.length = a0.length, ∀ i, i < a0.length → ∀ j, j < 1 → E5.cf (a0.getD i E5.z) j = E5.cf (a0.getD i E5.z) j, false = false, 0 = 0, 0 = 0, (0 : Int) = ((0 : Nat) : Int), 0 = 0, l6.length = l6.length, 0 = 0, l7.length = l7.length, E26.cR l6 = E26.cR l6, AllPv (E26.cR l6), E26.cR l7 = E26.cR l7, AllPv (E26.cR l7)]) (by kernel_rfl) ⟨rfl, fun _ _ _ _ => rfl, rfl, rfl, rfl, (by first | rfl | simp), rfl, rfl, rfl, rfl, rfl, (Elem.cR_pv _ _), rfl, (Elem.cR_pv _ _), trivial⟩
     ·clear h; rintro ⟨n3, k20, l21, l22⟩ h p3 hp3
      obtain _ | n3 := n3
      ·cases (show (none : Option (Bool)) = some r from h)
      have h : keep_KernelMoved_l3 a0 l6 l7 (n3 + 1) k20 l21 l22 = some r := h
      unfold keep_KernelMoved_l3 at h
      refine segs [22, 27] tabOk mixed 4000 (S := .br (decide ((((k20 : Nat) : Int) : Int) < 200)) (.leaf 0) (.leaf 1)) (by kernel_rfl) ?_
      refine br_ h ?_ ?_ <;> clear h <;> intro c23 h
      ·refine sk_leaf ?_
       refine bs_ok (d := 61) (e := 42) (s := 1) (n := 2) (cs := [.ptr 0 0, .ptr 1 0]) (cs' := [.ptr 0 0, .ptr 1 0]) (by kernel_rfl) rfl (by kernel_rfl) ?_
       refine segs [22, 27] tabOk mixed 4000 (S := .leaf 0) (by kernel_rfl) ?_
       refine sk_leaf ?_
       refine unrollp_ok (by kernel_rfl) 3 ?_; intro u24 hu24; refine hu24 _ _ ?_
       refine segs [22, 27] tabOk mixed 4000 (S := .leaf 0) (by kernel_rfl) ?_
       refine sk_leaf ?_
       refine cut_ok (by kernel_rfl) (τ := mk 110 [(0, .pv ((E5.ro a0))), (4, .pv (.raw (.bool false))), (5, .ptr 0 0), (6, .ptr 1 0), (59, .pv (.raw (.int .i64 ((k20 : Nat) : Int)))), (61, .row 2 1 0 2), (62, .pv (.raw (.int .i64 ((2 : Nat) : Int)))), (63, .pv (.raw (.int .i64 0)))] [(0, .box [.row 3 4 0 l21.length]), (1, .box [.row 4 4 0 l22.length]), (2, .row 42 1 [.ptr 0 0, .ptr 1 0]), (3, .row 26 4 (E26.cR l21)), (4, .row 26 4 (E26.cR l22))]) (subP_ok [2] (ρ := [(0, some 0), (1, some 1), (2, some 20288), (3, some 2), (4, some 3)]) (l := [a0.length = a0.length, ∀ i, i < a0.length → ∀ j, j < 1 → E5.cf (a0.getD i E5.z) j = E5.cf (a0.getD i E5.z) j, false = false, 0 = 0, 0 = 0, (((k20 : Nat) : Int) : Int) = ((k20 : Nat) : Int), 0 = 0, 2 = 2, (((2 : Nat) : Int) : Int) = ((2 : Nat) : Int), (0 : Int) = 0, 0 = 0, l21.length = l21.length, 0 = 0, l22.length = l22.length, 0 = 0, 0 = 0, E26.cR l21 = E26.cR l21, AllPv (E26.cR l21), E26.cR l22 = E26.cR l22, AllPv (E26.cR l22)]) (by kernel_rfl) ⟨rfl, fun _ _ _ _ => rfl, rfl, rfl, rfl, rfl, rfl, rfl, rfl, rfl, rfl, rfl, rfl, rfl, rfl, rfl, rfl, (Elem.cR_pv _ _), rfl, (Elem.cR_pv _ _), trivial⟩) ?_
       refine segs [27] tabOk mixed 4000 (S := .br (decide ((0 : Int) < ((2 : Nat) : Int))) (.and (0 ≤ (0 : Int) ∧ 0 < ((2 : Nat) : Int)) (.leaf 0)) (.leaf 1)) (by kernel_rfl) ?_
       refine br_ h ?_ ?_ <;> clear h <;> intro c25 h
       ·refine sk_and (by decide) ?_
        refine sk_leaf ?_
        refine ldl_ok (d := 66) (v := .ptr 0 0) (by kernel_rfl) ?_
        refine segs [22, 27] tabOk mixed 4000 (S := .leaf 0) (by kernel_rfl) ?_
        refine sk_leaf ?_
        refine bs_ok (d := 73) (e := 26) (s := 4) (n := 2) (cs := Y92) (cs' := E26.cR [(⟨2, 0, 0, 0⟩ : Api_KernOp), (⟨2, 1, 0, 0⟩ : Api_KernOp)]) (by kernel_rfl) rfl (by kernel_rfl) ?_
        refine segs [22, 27] tabOk mixed 4000 (S := .leaf 0) (by kernel_rfl) ?_
        refine sk_leaf ?_
        obtain ⟨g27, h⟩ := if_ h
        refine app_ok (d := 74) (e := 26) (s := 4) (b := 32) (x := .row 3 4 0 l21.length) (y := .row 21056 4 0 2) E26 (xs := l21) (ys := [(⟨2, 0, 0, 0⟩ : Api_KernOp), (⟨2, 1, 0, 0⟩ : Api_KernOp)]) (by kernel_rfl) rfl (.row 3 l21 l21.length rfl (by kernel_rfl)) (.all 21056 26 [(⟨2, 0, 0, 0⟩ : Api_KernOp), (⟨2, 1, 0, 0⟩ : Api_KernOp)] 2 rfl (by kernel_rfl)) g27 (by kernel_rfl) ?_
        refine segs [22, 27] tabOk mixed 4000 (S := .leaf 0) (by kernel_rfl) ?_
        refine sk_leaf ?_
        refine back_ok (p := u24 2) (by kernel_rfl) (hu24 _ _ ?_)
        refine segs [22, 27] tabOk mixed 4000 (S := .leaf 0) (by kernel_rfl) ?_
        refine sk_leaf ?_
        refine cut_ok (by kernel_rfl) (τ := mk 110 [(0, .pv ((E5.ro a0))), (4, .pv (.raw (.bool false))), (5, .ptr 0 0), (6, .ptr 1 0), (11, .ptr 0 0), (59, .pv (.raw (.int .i64 ((k20 : Nat) : Int)))), (61, .row 2 1 0 2), (62, .pv (.raw (.int .i64 ((2 : Nat) : Int)))), (63, .pv (.raw (.int .i64 (IntKind.i64.wrap (0 + 1))))), (64, .pv (.raw (.bool (decide ((0 : Int) < ((2 : Nat) : Int)))))), (65, .ptr 2 ((0 + 0) * 1)), (66, .ptr 0 0), (67, .ptr 0 0), (68, .ptr 0 0), (69, .ptr 0 0), (71, .agg [.pv (.raw (.int .i64 2)), .pv (.raw (.int .i64 0)), .pv (.raw (.int .i64 0)), .pv (.raw (.int .u8 0))]), (72, .agg [.pv (.raw (.int .i64 2)), .pv (.raw (.int .i64 1)), .pv (.raw (.int .i64 0)), .pv (.raw (.int .u8 0))]), (73, .row 3 4 0 2), (74, .row 4 4 0 ((l21 ++ [(⟨2, 0, 0, 0⟩ : Api_KernOp), (⟨2, 1, 0, 0⟩ : Api_KernOp)]).length)), (75, .ptr 0 0), (76, .pv (.raw (.int .i64 (IntKind.i64.wrap (0 + 1)))))] ([(0, .box [.row 4 4 0 ((l21 ++ [(⟨2, 0, 0, 0⟩ : Api_KernOp), (⟨2, 1, 0, 0⟩ : Api_KernOp)]).length)]), (1, .box [.row 5 4 0 l22.length]), (2, .row 42 1 [.ptr 0 0, .ptr 1 0])] ++ (rH E26 26 4 3 ([[(⟨2, 0, 0, 0⟩ : Api_KernOp), (⟨2, 1, 0, 0⟩ : Api_KernOp)], l21 ++ [(⟨2, 0, 0, 0⟩ : Api_KernOp), (⟨2, 1, 0, 0⟩ : Api_KernOp)], l22])))) (subP_ok [2] (ρ := (rI 0 0 3 ++ ([(3, some 21056), (4, some 21120), (5, some 4)]))) (l := ([a0.length = a0.length, ∀ i, i < a0.length → ∀ j, j < 1 → E5.cf (a0.getD i E5.z) j = E5.cf (a0.getD i E5.z) j, false = false, 0 = 0, 0 = 0, 0 = 0, (((k20 : Nat) : Int) : Int) = ((k20 : Nat) : Int), 0 = 0, 2 = 2, (((2 : Nat) : Int) : Int) = ((2 : Nat) : Int), ((IntKind.i64.wrap (0 + 1)) : Int) = (IntKind.i64.wrap (0 + 1)), (decide ((0 : Int) < ((2 : Nat) : Int))) = (decide ((0 : Int) < ((2 : Nat) : Int))), ((0 + 0) * 1) = ((0 + 0) * 1), 0 = 0, 0 = 0, 0 = 0, 0 = 0, (2 : Int) = 2, (0 : Int) = 0, (0 : Int) = 0, (0 : Int) = 0, (2 : Int) = 2, (1 : Int) = 1, (0 : Int) = 0, (0 : Int) = 0, 0 = 0, 2 = 2, 0 = 0, ((l21 ++ [(⟨2, 0, 0, 0⟩ : Api_KernOp), (⟨2, 1, 0, 0⟩ : Api_KernOp)]).length) = ((l21 ++ [(⟨2, 0, 0, 0⟩ : Api_KernOp), (⟨2, 1, 0, 0⟩ : Api_KernOp)]).length), 0 = 0, ((IntKind.i64.wrap (0 + 1)) : Int) = (IntKind.i64.wrap (0 + 1)), 0 = 0, ((l21 ++ [(⟨2, 0, 0, 0⟩ : Api_KernOp), (⟨2, 1, 0, 0⟩ : Api_KernOp)]).length) = ((l21 ++ [(⟨2, 0, 0, 0⟩ : Api_KernOp), (⟨2, 1, 0, 0⟩ : Api_KernOp)]).length), 0 = 0, l22.length = l22.length, 0 = 0, 0 = 0] ++ (pB E26 ([[(⟨2, 0, 0, 0⟩ : Api_KernOp), (⟨2, 1, 0, 0⟩ : Api_KernOp)], l21 ++ [(⟨2, 0, 0, 0⟩ : Api_KernOp), (⟨2, 1, 0, 0⟩ : Api_KernOp)], l22])))) (by kernel_rfl) (allP_app ⟨rfl, fun _ _ _ _ => rfl, rfl, rfl, rfl, rfl, rfl, rfl, rfl, rfl, rfl, rfl, rfl, rfl, rfl, rfl, rfl, rfl, rfl, rfl, rfl, rfl, rfl, rfl, rfl, rfl, rfl, rfl, rfl, rfl, rfl, rfl, rfl, rfl, rfl, rfl, rfl, trivial⟩ (pB_ok _ _))) ?_
        refine segs [27] tabOk mixed 4000 (S := .br (decide (((IntKind.i64.wrap (0 + 1)) : Int) < ((2 : Nat) : Int))) (.and (0 ≤ ((IntKind.i64.wrap (0 + 1)) : Int) ∧ (IntKind.i64.wrap (0 + 1)) < ((2 : Nat) : Int)) (.leaf 0)) (.leaf 1)) (by kernel_rfl) ?_
        refine br_ h ?_ ?_ <;> clear h <;> intro c28 h
        ·refine gd_ h ?_; clear h; intro g29 h
         refine sk_leaf ?_
         refine ldl_ok (d := 66) (v := .ptr 1 0) (by kernel_rfl) ?_
         refine segs [22, 27] tabOk mixed 4000 (S := .leaf 0) (by kernel_rfl) ?_
         refine sk_leaf ?_
         refine bs_ok (d := 73) (e := 26) (s := 4) (n := 2) (cs := Y92) (cs' := E26.cR [(⟨2, 0, 0, 0⟩ : Api_KernOp), (⟨2, 1, 0, 0⟩ : Api_KernOp)]) (by kernel_rfl) rfl (by kernel_rfl) ?_
         refine segs [22, 27] tabOk mixed 4000 (S := .leaf 0) (by kernel_rfl) ?_
         refine sk_leaf ?_
         obtain ⟨g30, h⟩ := if_ h
         refine app_ok (d := 74) (e := 26) (s := 4) (b := 32) (x := .row 5 4 0 l22.length) (y := .row 21056 4 0 2) E26 (xs := l22) (ys := [(⟨2, 0, 0, 0⟩ : Api_KernOp), (⟨2, 1, 0, 0⟩ : Api_KernOp)]) (by kernel_rfl) rfl (.row 5 l22 l22.length rfl (by kernel_rfl)) (.all 21056 26 [(⟨2, 0, 0, 0⟩ : Api_KernOp), (⟨2, 1, 0, 0⟩ : Api_KernOp)] 2 rfl (by kernel_rfl)) g30 (by kernel_rfl) ?_
         refine segs [22, 27] tabOk mixed 4000 (S := .leaf 0) (by kernel_rfl) ?_
         refine sk_leaf ?_
         refine back_ok (p := u24 1) (by kernel_rfl) (hu24 _ _ ?_)
         refine segs [22, 27] tabOk mixed 4000 (S := .leaf 0) (by kernel_rfl) ?_
         refine sk_leaf ?_
         refine cut_ok (by kernel_rfl) (τ := mk 110 [(0, .pv ((E5.ro a0))), (4, .pv (.raw (.bool false))), (5, .ptr 0 0), (6, .ptr 1 0), (11, .ptr 1 0), (59, .pv (.raw (.int .i64 ((k20 : Nat) : Int)))), (61, .row 2 1 0 2), (62, .pv (.raw (.int .i64 ((2 : Nat) : Int)))), (63, .pv (.raw (.int .i64 (IntKind.i64.wrap ((IntKind.i64.wrap (0 + 1)) + 1))))), (64, .pv (.raw (.bool (decide (((IntKind.i64.wrap (0 + 1)) : Int) < ((2 : Nat) : Int)))))), (65, .ptr 2 ((0 + (Int.toNat (IntKind.i64.wrap (0 + 1)))) * 1)), (66, .ptr 1 0), (67, .ptr 1 0), (68, .ptr 1 0), (69, .ptr 1 0), (71, .agg [.pv (.raw (.int .i64 2)), .pv (.raw (.int .i64 0)), .pv (.raw (.int .i64 0)), .pv (.raw (.int .u8 0))]), (72, .agg [.pv (.raw (.int .i64 2)), .pv (.raw (.int .i64 1)), .pv (.raw (.int .i64 0)), .pv (.raw (.int .u8 0))]), (73, .row 3 4 0 2), (74, .row 4 4 0 ((l22 ++ [(⟨2, 0, 0, 0⟩ : Api_KernOp), (⟨2, 1, 0, 0⟩ : Api_KernOp)]).length)), (75, .ptr 1 0), (76, .pv (.raw (.int .i64 (IntKind.i64.wrap ((IntKind.i64.wrap (0 + 1)) + 1)))))] ([(0, .box [.row 5 4 0 ((l21 ++ [(⟨2, 0, 0, 0⟩ : Api_KernOp), (⟨2, 1, 0, 0⟩ : Api_KernOp)]).length)]), (1, .box [.row 4 4 0 ((l22 ++ [(⟨2, 0, 0, 0⟩ : Api_KernOp), (⟨2, 1, 0, 0⟩ : Api_KernOp)]).length)]), (2, .row 42 1 [.ptr 0 0, .ptr 1 0])] ++ (rH E26 26 4 3 ([[(⟨2, 0, 0, 0⟩ : Api_KernOp), (⟨2, 1, 0, 0⟩ : Api_KernOp)], l22 ++ [(⟨2, 0, 0, 0⟩ : Api_KernOp), (⟨2, 1, 0, 0⟩ : Api_KernOp)], l21 ++ [(⟨2, 0, 0, 0⟩ : Api_KernOp), (⟨2, 1, 0, 0⟩ : Api_KernOp)]])))) (subP_ok [2] (ρ := (rI 0 0 3 ++ ([(3, some 21056), (4, some 21120), (5, some 4)]))) (l := ([a0.length = a0.length, ∀ i, i < a0.length → ∀ j, j < 1 → E5.cf (a0.getD i E5.z) j = E5.cf (a0.getD i E5.z) j, false = false, 0 = 0, 0 = 0, 0 = 0, (((k20 : Nat) : Int) : Int) = ((k20 : Nat) : Int), 0 = 0, 2 = 2, (((2 : Nat) : Int) : Int) = ((2 : Nat) : Int), ((IntKind.i64.wrap ((IntKind.i64.wrap (0 + 1)) + 1)) : Int) = (IntKind.i64.wrap ((IntKind.i64.wrap (0 + 1)) + 1)), (decide (((IntKind.i64.wrap (0 + 1)) : Int) < ((2 : Nat) : Int))) = (decide (((IntKind.i64.wrap (0 + 1)) : Int) < ((2 : Nat) : Int))), ((0 + (Int.toNat (IntKind.i64.wrap (0 + 1)))) * 1) = ((0 + (Int.toNat (IntKind.i64.wrap (0 + 1)))) * 1), 0 = 0, 0 = 0, 0 = 0, 0 = 0, (2 : Int) = 2, (0 : Int) = 0, (0 : Int) = 0, (0 : Int) = 0, (2 : Int) = 2, (1 : Int) = 1, (0 : Int) = 0, (0 : Int) = 0, 0 = 0, 2 = 2, 0 = 0, ((l22 ++ [(⟨2, 0, 0, 0⟩ : Api_KernOp), (⟨2, 1, 0, 0⟩ : Api_KernOp)]).length) = ((l22 ++ [(⟨2, 0, 0, 0⟩ : Api_KernOp), (⟨2, 1, 0, 0⟩ : Api_KernOp)]).length), 0 = 0, ((IntKind.i64.wrap ((IntKind.i64.wrap (0 + 1)) + 1)) : Int) = (IntKind.i64.wrap ((IntKind.i64.wrap (0 + 1)) + 1)), 0 = 0, ((l21 ++ [(⟨2, 0, 0, 0⟩ : Api_KernOp), (⟨2, 1, 0, 0⟩ : Api_KernOp)]).length) = ((l21 ++ [(⟨2, 0, 0, 0⟩ : Api_KernOp), (⟨2, 1, 0, 0⟩ : Api_KernOp)]).length), 0 = 0, ((l22 ++ [(⟨2, 0, 0, 0⟩ : Api_KernOp), (⟨2, 1, 0, 0⟩ : Api_KernOp)]).length) = ((l22 ++ [(⟨2, 0, 0, 0⟩ : Api_KernOp), (⟨2, 1, 0, 0⟩ : Api_KernOp)]).length), 0 = 0, 0 = 0] ++ (pB E26 ([[(⟨2, 0, 0, 0⟩ : Api_KernOp), (⟨2, 1, 0, 0⟩ : Api_KernOp)], l22 ++ [(⟨2, 0, 0, 0⟩ : Api_KernOp), (⟨2, 1, 0, 0⟩ : Api_KernOp)], l21 ++ [(⟨2, 0, 0, 0⟩ : Api_KernOp), (⟨2, 1, 0, 0⟩ : Api_KernOp)]])))) (by kernel_rfl) (allP_app ⟨rfl, fun _ _ _ _ => rfl, rfl, rfl, rfl, rfl, rfl, rfl, rfl, rfl, rfl, rfl, rfl, rfl, rfl, rfl, rfl, rfl, rfl, rfl, rfl, rfl, rfl, rfl, rfl, rfl, rfl, rfl, rfl, rfl, rfl, rfl, rfl, rfl, rfl, rfl, rfl, trivial⟩ (pB_ok _ _))) ?_
         refine segs [27] tabOk mixed 4000 (S := .br (decide (((IntKind.i64.wrap ((IntKind.i64.wrap (0 + 1)) + 1)) : Int) < ((2 : Nat) : Int))) (.and (0 ≤ ((IntKind.i64.wrap ((IntKind.i64.wrap (0 + 1)) + 1)) : Int) ∧ (IntKind.i64.wrap ((IntKind.i64.wrap (0 + 1)) + 1)) < ((2 : Nat) : Int)) (.leaf 0)) (.leaf 1)) (by kernel_rfl) ?_
         refine br_ h ?_ ?_ <;> clear h <;> intro c31 h
         ·refine gd_ h ?_; clear h; intro g32 h
          refine sk_leaf ?_
          cases h
         ·refine sk_leaf ?_
          refine back_ok (p := p3) (by kernel_rfl) (hp3 (n3, k20 + 1, (l21 ++ [(⟨2, 0, 0, 0⟩ : Api_KernOp), (⟨2, 1, 0, 0⟩ : Api_KernOp)]), (l22 ++ [(⟨2, 0, 0, 0⟩ : Api_KernOp), (⟨2, 1, 0, 0⟩ : Api_KernOp)])) _ h (Nat.lt_succ_self n3) ?_)
          exact sub_ok (ρ := [(0, some 0), (1, some 1), (2, some 5), (3, some 4)]) (l := [a0.length = a0.length, ∀ i, i < a0.length → ∀ j, j < 1 → E5.cf (a0.getD i E5.z) j = E5.cf (a0.getD i E5.z) j, false = false, 0 = 0, 0 = 0, ((IntKind.i64.wrap (((k20 : Nat) : Int) + 1)) : Int) = (((k20 + 1) : Nat) : Int), 0 = 0, ((l21 ++ [(⟨2, 0, 0, 0⟩ : Api_KernOp), (⟨2, 1, 0, 0⟩ : Api_KernOp)]).length) = ((l21 ++ [(⟨2, 0, 0, 0⟩ : Api_KernOp), (⟨2, 1, 0, 0⟩ : Api_KernOp)]).length), 0 = 0, ((l22 ++ [(⟨2, 0, 0, 0⟩ : Api_KernOp), (⟨2, 1, 0, 0⟩ : Api_KernOp)]).length) = ((l22 ++ [(⟨2, 0, 0, 0⟩ : Api_KernOp), (⟨2, 1, 0, 0⟩ : Api_KernOp)]).length), E26.cR (l21 ++ [(⟨2, 0, 0, 0⟩ : Api_KernOp), (⟨2, 1, 0, 0⟩ : Api_KernOp)]) = E26.cR (l21 ++ [(⟨2, 0, 0, 0⟩ : Api_KernOp), (⟨2, 1, 0, 0⟩ : Api_KernOp)]), AllPv (E26.cR (l21 ++ [(⟨2, 0, 0, 0⟩ : Api_KernOp), (⟨2, 1, 0, 0⟩ : Api_KernOp)])), E26.cR (l22 ++ [(⟨2, 0, 0, 0⟩ : Api_KernOp), (⟨2, 1, 0, 0⟩ : Api_KernOp)]) = E26.cR (l22 ++ [(⟨2, 0, 0, 0⟩ : Api_KernOp), (⟨2, 1, 0, 0⟩ : Api_KernOp)]), AllPv (E26.cR (l22 ++ [(⟨2, 0, 0, 0⟩ : Api_KernOp), (⟨2, 1, 0, 0⟩ : Api_KernOp)]))]) (by kernel_rfl) ⟨rfl, fun _ _ _ _ => rfl, rfl, rfl, rfl, (wrap_nat_lit (by simp at * <;> omega)), rfl, rfl, rfl, rfl, rfl, (Elem.cR_pv _ _), rfl, (Elem.cR_pv _ _), trivial⟩
        ·refine sk_leaf ?_
         refine back_ok (p := p3) (by kernel_rfl) (hp3 (n3, k20 + 1, (l21 ++ [(⟨2, 0, 0, 0⟩ : Api_KernOp), (⟨2, 1, 0, 0⟩ : Api_KernOp)]), l22) _ h (Nat.lt_succ_self n3) ?_)
         exact sub_ok (ρ := [(0, some 0), (1, some 1), (2, some 4), (3, some 5)]) (l := [a0.length = a0.length, ∀ i, i < a0.length → ∀ j, j < 1 → E5.cf (a0.getD i E5.z) j = E5.cf (a0.getD i E5.z) j, false = false, 0 = 0, 0 = 0, ((IntKind.i64.wrap (((k20 : Nat) : Int) + 1)) : Int) = (((k20 + 1) : Nat) : Int), 0 = 0, ((l21 ++ [(⟨2, 0, 0, 0⟩ : Api_KernOp), (⟨2, 1, 0, 0⟩ : Api_KernOp)]).length) = ((l21 ++ [(⟨2, 0, 0, 0⟩ : Api_KernOp), (⟨2, 1, 0, 0⟩ : Api_KernOp)]).length), 0 = 0, l22.length = l22.length, E26.cR (l21 ++ [(⟨2, 0, 0, 0⟩ : Api_KernOp), (⟨2, 1, 0, 0⟩ : Api_KernOp)]) = E26.cR (l21 ++ [(⟨2, 0, 0, 0⟩ : Api_KernOp), (⟨2, 1, 0, 0⟩ : Api_KernOp)]), AllPv (E26.cR (l21 ++ [(⟨2, 0, 0, 0⟩ : Api_KernOp), (⟨2, 1, 0, 0⟩ : Api_KernOp)])), E26.cR l22 = E26.cR l22, AllPv (E26.cR l22)]) (by kernel_rfl) ⟨rfl, fun _ _ _ _ => rfl, rfl, rfl, rfl, (wrap_nat_lit (by simp at * <;> omega)), rfl, rfl, rfl, rfl, rfl, (Elem.cR_pv _ _), rfl, (Elem.cR_pv _ _), trivial⟩
       ·refine sk_leaf ?_
        refine back_ok (p := p3) (by kernel_rfl) (hp3 (n3, k20 + 1, l21, l22) _ h (Nat.lt_succ_self n3) ?_)
        exact sub_ok (ρ := [(0, some 0), (1, some 1), (2, some 3), (3, some 4)]) (l := [a0.length = a0.length, ∀ i, i < a0.length → ∀ j, j < 1 → E5.cf (a0.getD i E5.z) j = E5.cf (a0.getD i E5.z) j, false = false, 0 = 0, 0 = 0, ((IntKind.i64.wrap (((k20 : Nat) : Int) + 1)) : Int) = (((k20 + 1) : Nat) : Int), 0 = 0, l21.length = l21.length, 0 = 0, l22.length = l22.length, E26.cR l21 = E26.cR l21, AllPv (E26.cR l21), E26.cR l22 = E26.cR l22, AllPv (E26.cR l22)]) (by kernel_rfl) ⟨rfl, fun _ _ _ _ => rfl, rfl, rfl, rfl, (wrap_nat_lit (by simp at * <;> omega)), rfl, rfl, rfl, rfl, rfl, (Elem.cR_pv _ _), rfl, (Elem.cR_pv _ _), trivial⟩
      ·refine sk_leaf ?_
       refine cut_ok (by kernel_rfl) (τ := mk 110 [(0, .pv ((E5.ro a0))), (4, .pv (.raw (.bool false))), (5, .ptr 0 0), (6, .ptr 1 0)] [(0, .box [.pv ((E26.ro l21))]), (1, .box [.pv ((E26.ro l22))])]) (sub_ok (ρ := [(0, some 0), (1, some 1)]) (l := [a0.length = a0.length, ∀ i, i < a0.length → ∀ j, j < 1 → E5.cf (a0.getD i E5.z) j = E5.cf (a0.getD i E5.z) j, false = false, 0 = 0, 0 = 0, l21.length = l21.length, rowQ (E26.cR l21) 4 0 l21.length (fun i j => E26.cf (l21.getD i E26.z) j), l22.length = l22.length, rowQ (E26.cR l22) 4 0 l22.length (fun i j => E26.cf (l22.getD i E26.z) j)]) (by kernel_rfl) ⟨rfl, fun _ _ _ _ => rfl, rfl, rfl, rfl, (by first | rfl | exact Elem.sub_len _ (by omega) | omega | simp | (simp <;> omega)), E26.rowQ_all l21 rfl, (by first | rfl | exact Elem.sub_len _ (by omega) | omega | simp | (simp <;> omega)), E26.rowQ_all l22 rfl, trivial⟩) ?_
       refine segs [22] tabOk mixed 4000 (S := .leaf 0) (by kernel_rfl) ?_
       refine sk_leaf ?_
       obtain ⟨r33, e34, h⟩ := bd_ h
       refine call_ok (d := some 80) (fn := 9) (ax := [.pv ((E26.ro l21))]) (ps := [l21.length = l21.length, ∀ i, i < l21.length → ∀ j, j < 4 → E26.cf (l21.getD i E26.z) j = E26.cf (l21.getD i E26.z) j]) (hb' := [.row 38 2 (E38.cR r33.1), .row 5 1 (E5.cR r33.2.Device), .row 5 1 (E5.cR r33.2.Fetched)]) (by kernel_rfl) (kernel_Play_ok _ _ e34) (by kernel_rfl) ⟨rfl, fun _ _ _ _ => rfl, trivial⟩ (fun _ => (by kernel_rfl)) (by simp) (by simp only [List.map_cons, List.map_nil, Elem.row_up, up_map] <;> rfl) (by kernel_rfl) ?_
       refine segs [22, 27] tabOk mixed 4000 (S := .leaf 0) (by kernel_rfl) ?_
       refine sk_leaf ?_
       obtain ⟨r35, e36, h⟩ := bd_ h
       refine call_ok (d := some 85) (fn := 9) (ax := [.pv ((E26.ro l22))]) (ps := [l22.length = l22.length, ∀ i, i < l22.length → ∀ j, j < 4 → E26.cf (l22.getD i E26.z) j = E26.cf (l22.getD i E26.z) j]) (hb' := [.row 38 2 (E38.cR r35.1), .row 5 1 (E5.cR r35.2.Device), .row 5 1 (E5.cR r35.2.Fetched)]) (by kernel_rfl) (kernel_Play_ok _ _ e36) (by kernel_rfl) ⟨rfl, fun _ _ _ _ => rfl, trivial⟩ (fun _ => (by kernel_rfl)) (by simp) (by simp only [List.map_cons, List.map_nil, Elem.row_up, up_map] <;> rfl) (by kernel_rfl) ?_
       refine segs [22, 27] tabOk mixed 4000 (S := .and (((!(decide ((r33.2.Lost : Int) > 0))) = true → ((!(decide ((r33.2.Lost : Int) > 0))) = true))) (.and (((!(decide ((r33.2.Lost : Int) > 0))) = true → ((!(decide ((r33.2.Lost : Int) > 0))) = true))) (.and ((decide ((r33.2.Lost : Int) > 0)) = false → (!(decide ((r33.2.Lost : Int) > 0))) = true) (.and (((!(Y39 r33.2 r35.2)) = true → ((!(Y39 r33.2 r35.2)) = true))) (.and (((!(Y39 r33.2 r35.2)) = true → ((!(Y39 r33.2 r35.2)) = true))) (.leaf 0)))))) (by kernel_rfl) ?_
       refine sk_and (fun h => h) ?_
       refine sk_and (fun h => h) ?_
       refine sk_and ((by decide : ∀ y0 : Bool, ((y0 = false) → ((!y0) = true))) (decide ((r33.2.Lost : Int) > 0))) ?_
       refine sk_and (fun h => h) ?_
       refine sk_and (fun h => h) ?_
       refine sk_leaf ?_
       refine gsp_ h ?_ ?_ <;> clear h <;> intro c42 h
       ·refine unG_ok (g := (!((decide ((r33.2.Lost : Int) > 0)) || (decide ((r35.2.Lost : Int) > 0))))) (ws := [(!((decide ((r33.2.Lost : Int) > 0)) || (decide ((r35.2.Lost : Int) > 0)))) = true, (!((decide ((r33.2.Lost : Int) > 0)) || (decide ((r35.2.Lost : Int) > 0)))) = true]) (by kernel_rfl) (by kernel_rfl) c42 ⟨((by decide : ∀ y0 : Bool, ((y0 = true) → (y0 = true))) (!((decide ((r33.2.Lost : Int) > 0)) || (decide ((r35.2.Lost : Int) > 0))))) c42, ((by decide : ∀ y0 : Bool, ((y0 = true) → (y0 = true))) (!((decide ((r33.2.Lost : Int) > 0)) || (decide ((r35.2.Lost : Int) > 0))))) c42, trivial⟩ ?_
        obtain ⟨r43, e44, h⟩ := bd_ h
        refine call_ok (d := some 101) (fn := 10) (ax := [.agg (Y55 r33.2.Tty), .agg (Y55 r35.2.Tty)]) (ps := [r33.2.Tty.Lines.length = r33.2.Tty.Lines.length, ∀ i, i < r33.2.Tty.Lines.length → ∀ j, j < 1 → E28.cf (r33.2.Tty.Lines.getD i E28.z) j = E28.cf (r33.2.Tty.Lines.getD i E28.z) j, r33.2.Tty.Edit.length = r33.2.Tty.Edit.length, ∀ i, i < r33.2.Tty.Edit.length → ∀ j, j < 1 → E5.cf (r33.2.Tty.Edit.getD i E5.z) j = E5.cf (r33.2.Tty.Edit.getD i E5.z) j, r35.2.Tty.Lines.length = r35.2.Tty.Lines.length, ∀ i, i < r35.2.Tty.Lines.length → ∀ j, j < 1 → E28.cf (r35.2.Tty.Lines.getD i E28.z) j = E28.cf (r35.2.Tty.Lines.getD i E28.z) j, r35.2.Tty.Edit.length = r35.2.Tty.Edit.length, ∀ i, i < r35.2.Tty.Edit.length → ∀ j, j < 1 → E5.cf (r35.2.Tty.Edit.getD i E5.z) j = E5.cf (r35.2.Tty.Edit.getD i E5.z) j]) (hb' := []) (by kernel_rfl) (ref_SameTty_ok _ _ _ e44 (al := true)) (by kernel_rfl) ⟨rfl, fun _ _ _ _ => rfl, rfl, fun _ _ _ _ => rfl, rfl, fun _ _ _ _ => rfl, rfl, fun _ _ _ _ => rfl, trivial⟩ (fun _ => (by kernel_rfl)) (by simp) rfl (by kernel_rfl) ?_
        refine gdw_ok (g := (!((decide ((r33.2.Lost : Int) > 0)) || (decide ((r35.2.Lost : Int) > 0))))) (ws := [(!((decide ((r33.2.Lost : Int) > 0)) || (decide ((r35.2.Lost : Int) > 0)))) = true, (!((decide ((r33.2.Lost : Int) > 0)) || (decide ((r35.2.Lost : Int) > 0)))) = true]) (by kernel_rfl) ?_
        refine segs [22, 27] tabOk mixed 4000 (S := .and (((!(Y39 r33.2 r35.2)) = true → ((!(Y39 r33.2 r35.2)) = true))) (.and ((((!(Y39 r33.2 r35.2)) && r43) = true → (((!(Y39 r33.2 r35.2)) && r43) = true))) (.leaf 0))) (by kernel_rfl) ?_
        refine sk_and (fun h => h) ?_
        refine sk_and (fun h => h) ?_
        refine sk_leaf ?_
        refine gsp_ h ?_ ?_ <;> clear h <;> intro c47 h
        ·refine unG_ok (g := ((!((decide ((r33.2.Lost : Int) > 0)) || (decide ((r35.2.Lost : Int) > 0)))) && r43)) (ws := [((!((decide ((r33.2.Lost : Int) > 0)) || (decide ((r35.2.Lost : Int) > 0)))) && r43) = true]) (by kernel_rfl) (by kernel_rfl) c47 ⟨((by decide : ∀ y0 : Bool, ((y0 = true) → (y0 = true))) ((!((decide ((r33.2.Lost : Int) > 0)) || (decide ((r35.2.Lost : Int) > 0)))) && r43)) c47, trivial⟩ ?_
         obtain ⟨r48, e49, h⟩ := bd_ h
         refine call_ok (d := some 106) (fn := 11) (ax := [.pv ((E5.ro a0))]) (ps := [a0.length = a0.length, ∀ i, i < a0.length → ∀ j, j < 1 → E5.cf (a0.getD i E5.z) j = E5.cf (a0.getD i E5.z) j]) (hb' := []) (by kernel_rfl) (tty_Type_ok _ _ e49) (by kernel_rfl) ⟨rfl, fun _ _ _ _ => rfl, trivial⟩ (fun _ => (by kernel_rfl)) (by simp) rfl (by kernel_rfl) ?_
         refine gdw_ok (g := ((!((decide ((r33.2.Lost : Int) > 0)) || (decide ((r35.2.Lost : Int) > 0)))) && r43)) (ws := [((!((decide ((r33.2.Lost : Int) > 0)) || (decide ((r35.2.Lost : Int) > 0)))) && r43) = true]) (by kernel_rfl) ?_
         refine segs [22, 27] tabOk mixed 4000 (S := .leaf 0) (by kernel_rfl) ?_
         refine sk_leaf ?_
         refine unG_ok (g := ((!((decide ((r33.2.Lost : Int) > 0)) || (decide ((r35.2.Lost : Int) > 0)))) && r43)) (ws := [((!((decide ((r33.2.Lost : Int) > 0)) || (decide ((r35.2.Lost : Int) > 0)))) && r43) = true, ((!((decide ((r33.2.Lost : Int) > 0)) || (decide ((r35.2.Lost : Int) > 0)))) && r43) = true]) (by kernel_rfl) (by kernel_rfl) c47 ⟨((by decide : ∀ y0 : Bool, ((y0 = true) → (y0 = true))) ((!((decide ((r33.2.Lost : Int) > 0)) || (decide ((r35.2.Lost : Int) > 0)))) && r43)) c47, ((by decide : ∀ y0 : Bool, ((y0 = true) → (y0 = true))) ((!((decide ((r33.2.Lost : Int) > 0)) || (decide ((r35.2.Lost : Int) > 0)))) && r43)) c47, trivial⟩ ?_
         obtain ⟨r50, e51, h⟩ := bd_ h
         refine call_ok (d := some 107) (fn := 10) (ax := [.agg (Y55 r33.2.Tty), .agg (Y55 r48)]) (ps := (Y82 r33.2.Tty r48.Lines r48.Edit)) (hb' := []) (by kernel_rfl) (ref_SameTty_ok _ _ _ e51 (al := true)) (by kernel_rfl) Y82p (fun _ => (by kernel_rfl)) (by simp) rfl (by kernel_rfl) ?_
         refine gdw_ok (g := ((!((decide ((r33.2.Lost : Int) > 0)) || (decide ((r35.2.Lost : Int) > 0)))) && r43)) (ws := [((!((decide ((r33.2.Lost : Int) > 0)) || (decide ((r35.2.Lost : Int) > 0)))) && r43) = true, ((!((decide ((r33.2.Lost : Int) > 0)) || (decide ((r35.2.Lost : Int) > 0)))) && r43) = true]) (by kernel_rfl) ?_
         refine segs [22, 27] tabOk mixed 4000 (S := .and (((!(Y39 r33.2 r35.2)) = true → ((!(Y39 r33.2 r35.2)) = true))) (.and (((!(Y39 r33.2 r35.2)) = true → (r43 = true → ((!(Y39 r33.2 r35.2)) && r43) = true))) (.and ((Y39 r33.2 r35.2) = false → (!(Y39 r33.2 r35.2)) = true) (.leaf 0)))) (by kernel_rfl) ?_
         refine sk_and (fun h => h) ?_
         refine sk_and ((by decide : ∀ y0 y1 : Bool, ((y0 = true) → ((y1 = true) → ((y0 && y1) = true)))) (!(Y39 r33.2 r35.2)) r43) ?_
         refine sk_and ((by decide : ∀ y0 : Bool, ((y0 = false) → ((!y0) = true))) (Y39 r33.2 r35.2)) ?_
         refine sk_leaf ?_
         obtain rfl := some_ h
         exact end_ok [] Tryd.results5 (ps := [(((decide ((r33.2.Lost : Int) > 0)) || (decide ((r35.2.Lost : Int) > 0))) || (r43 && r50)) = (((decide ((r33.2.Lost : Int) > 0)) || (decide ((r35.2.Lost : Int) > 0))) || (r43 && r50))]) (by kernel_rfl) ⟨rfl, trivial⟩ (fun _ => ⟨rfl, by simp⟩)
        ·refine skG_ok (g := ((!((decide ((r33.2.Lost : Int) > 0)) || (decide ((r35.2.Lost : Int) > 0)))) && r43)) (ws := [((!((decide ((r33.2.Lost : Int) > 0)) || (decide ((r35.2.Lost : Int) > 0)))) && r43) = true]) (.junk) (by kernel_rfl) c47 ?_
         refine segs [22, 27] tabOk mixed 4000 (S := .leaf 0) (by kernel_rfl) ?_
         refine sk_leaf ?_
         refine skG_ok (g := ((!((decide ((r33.2.Lost : Int) > 0)) || (decide ((r35.2.Lost : Int) > 0)))) && r43)) (ws := [((!((decide ((r33.2.Lost : Int) > 0)) || (decide ((r35.2.Lost : Int) > 0)))) && r43) = true, ((!((decide ((r33.2.Lost : Int) > 0)) || (decide ((r35.2.Lost : Int) > 0)))) && r43) = true]) (.pv (.raw (.bool false))) (by kernel_rfl) c47 ?_
         refine segs [22, 27] tabOk mixed 4000 (S := .and (((!(Y39 r33.2 r35.2)) = true → ((!(Y39 r33.2 r35.2)) = true))) (.and (((!(Y39 r33.2 r35.2)) = true → (r43 = true → ((!(Y39 r33.2 r35.2)) && r43) = true))) (.and ((Y39 r33.2 r35.2) = false → (!(Y39 r33.2 r35.2)) = true) (.leaf 0)))) (by kernel_rfl) ?_
         refine sk_and (fun h => h) ?_
         refine sk_and ((by decide : ∀ y0 y1 : Bool, ((y0 = true) → ((y1 = true) → ((y0 && y1) = true)))) (!(Y39 r33.2 r35.2)) r43) ?_
         refine sk_and ((by decide : ∀ y0 : Bool, ((y0 = false) → ((!y0) = true))) (Y39 r33.2 r35.2)) ?_
         refine sk_leaf ?_
         obtain rfl := some_ h
         exact end_ok [] Tryd.results5 (ps := [(((decide ((r33.2.Lost : Int) > 0)) || (decide ((r35.2.Lost : Int) > 0))) || (r43 && false)) = (((decide ((r33.2.Lost : Int) > 0)) || (decide ((r35.2.Lost : Int) > 0))) || (r43 && false))]) (by kernel_rfl) ⟨rfl, trivial⟩ (fun _ => ⟨rfl, by simp⟩)
       ·refine skG_ok (g := (!((decide ((r33.2.Lost : Int) > 0)) || (decide ((r35.2.Lost : Int) > 0))))) (ws := [(!((decide ((r33.2.Lost : Int) > 0)) || (decide ((r35.2.Lost : Int) > 0)))) = true, (!((decide ((r33.2.Lost : Int) > 0)) || (decide ((r35.2.Lost : Int) > 0)))) = true]) (.pv (.raw (.bool false))) (by kernel_rfl) c42 ?_
        refine segs [22, 27] tabOk mixed 4000 (S := .and (((!(Y39 r33.2 r35.2)) = true → ((!(Y39 r33.2 r35.2)) = true))) (.and ((((!(Y39 r33.2 r35.2)) && false) = true → (((!(Y39 r33.2 r35.2)) && false) = true))) (.leaf 0))) (by kernel_rfl) ?_
        refine sk_and (fun h => h) ?_
        refine sk_and (fun h => h) ?_
        refine sk_leaf ?_
        refine gsp_ h ?_ ?_ <;> clear h <;> intro c60 h
        ·refine unG_ok (g := ((!((decide ((r33.2.Lost : Int) > 0)) || (decide ((r35.2.Lost : Int) > 0)))) && false)) (ws := [((!((decide ((r33.2.Lost : Int) > 0)) || (decide ((r35.2.Lost : Int) > 0)))) && false) = true]) (by kernel_rfl) (by kernel_rfl) c60 ⟨((by decide : ∀ y0 : Bool, ((y0 = true) → (y0 = true))) ((!((decide ((r33.2.Lost : Int) > 0)) || (decide ((r35.2.Lost : Int) > 0)))) && false)) c60, trivial⟩ ?_
         obtain ⟨r61, e62, h⟩ := bd_ h
         refine call_ok (d := some 106) (fn := 11) (ax := [.pv ((E5.ro a0))]) (ps := [a0.length = a0.length, ∀ i, i < a0.length → ∀ j, j < 1 → E5.cf (a0.getD i E5.z) j = E5.cf (a0.getD i E5.z) j]) (hb' := []) (by kernel_rfl) (tty_Type_ok _ _ e62) (by kernel_rfl) ⟨rfl, fun _ _ _ _ => rfl, trivial⟩ (fun _ => (by kernel_rfl)) (by simp) rfl (by kernel_rfl) ?_
         refine gdw_ok (g := ((!((decide ((r33.2.Lost : Int) > 0)) || (decide ((r35.2.Lost : Int) > 0)))) && false)) (ws := [((!((decide ((r33.2.Lost : Int) > 0)) || (decide ((r35.2.Lost : Int) > 0)))) && false) = true]) (by kernel_rfl) ?_
         refine segs [22, 27] tabOk mixed 4000 (S := .leaf 0) (by kernel_rfl) ?_
         refine sk_leaf ?_
         refine unG_ok (g := ((!((decide ((r33.2.Lost : Int) > 0)) || (decide ((r35.2.Lost : Int) > 0)))) && false)) (ws := [((!((decide ((r33.2.Lost : Int) > 0)) || (decide ((r35.2.Lost : Int) > 0)))) && false) = true, ((!((decide ((r33.2.Lost : Int) > 0)) || (decide ((r35.2.Lost : Int) > 0)))) && false) = true]) (by kernel_rfl) (by kernel_rfl) c60 ⟨((by decide : ∀ y0 : Bool, ((y0 = true) → (y0 = true))) ((!((decide ((r33.2.Lost : Int) > 0)) || (decide ((r35.2.Lost : Int) > 0)))) && false)) c60, ((by decide : ∀ y0 : Bool, ((y0 = true) → (y0 = true))) ((!((decide ((r33.2.Lost : Int) > 0)) || (decide ((r35.2.Lost : Int) > 0)))) && false)) c60, trivial⟩ ?_
         obtain ⟨r63, e64, h⟩ := bd_ h
         refine call_ok (d := some 107) (fn := 10) (ax := [.agg (Y55 r33.2.Tty), .agg (Y55 r61)]) (ps := (Y82 r33.2.Tty r61.Lines r61.Edit)) (hb' := []) (by kernel_rfl) (ref_SameTty_ok _ _ _ e64 (al := true)) (by kernel_rfl) Y82p (fun _ => (by kernel_rfl)) (by simp) rfl (by kernel_rfl) ?_
         refine gdw_ok (g := ((!((decide ((r33.2.Lost : Int) > 0)) || (decide ((r35.2.Lost : Int) > 0)))) && false)) (ws := [((!((decide ((r33.2.Lost : Int) > 0)) || (decide ((r35.2.Lost : Int) > 0)))) && false) = true, ((!((decide ((r33.2.Lost : Int) > 0)) || (decide ((r35.2.Lost : Int) > 0)))) && false) = true]) (by kernel_rfl) ?_
         refine segs [22, 27] tabOk mixed 4000 (S := .and (((!(Y39 r33.2 r35.2)) = true → ((!(Y39 r33.2 r35.2)) = true))) (.and (((!(Y39 r33.2 r35.2)) = true → (false = true → ((!(Y39 r33.2 r35.2)) && false) = true))) (.and ((Y39 r33.2 r35.2) = false → (!(Y39 r33.2 r35.2)) = true) (.leaf 0)))) (by kernel_rfl) ?_
         refine sk_and (fun h => h) ?_
         refine sk_and ((by decide : ∀ y0 : Bool, ((y0 = true) → ((false = true) → ((y0 && false) = true)))) (!(Y39 r33.2 r35.2))) ?_
         refine sk_and ((by decide : ∀ y0 : Bool, ((y0 = false) → ((!y0) = true))) (Y39 r33.2 r35.2)) ?_
         refine sk_leaf ?_
         obtain rfl := some_ h
         exact end_ok [] Tryd.results5 (ps := [(((decide ((r33.2.Lost : Int) > 0)) || (decide ((r35.2.Lost : Int) > 0))) || (false && r63)) = (((decide ((r33.2.Lost : Int) > 0)) || (decide ((r35.2.Lost : Int) > 0))) || (false && r63))]) (by kernel_rfl) ⟨rfl, trivial⟩ (fun _ => ⟨rfl, by simp⟩)
        ·refine skG_ok (g := ((!((decide ((r33.2.Lost : Int) > 0)) || (decide ((r35.2.Lost : Int) > 0)))) && false)) (ws := [((!((decide ((r33.2.Lost : Int) > 0)) || (decide ((r35.2.Lost : Int) > 0)))) && false) = true]) (.junk) (by kernel_rfl) c60 ?_
         refine segs [22, 27] tabOk mixed 4000 (S := .leaf 0) (by kernel_rfl) ?_
         refine sk_leaf ?_
         refine skG_ok (g := ((!((decide ((r33.2.Lost : Int) > 0)) || (decide ((r35.2.Lost : Int) > 0)))) && false)) (ws := [((!((decide ((r33.2.Lost : Int) > 0)) || (decide ((r35.2.Lost : Int) > 0)))) && false) = true, ((!((decide ((r33.2.Lost : Int) > 0)) || (decide ((r35.2.Lost : Int) > 0)))) && false) = true]) (.pv (.raw (.bool false))) (by kernel_rfl) c60 ?_
         refine segs [22, 27] tabOk mixed 4000 (S := .and (((!(Y39 r33.2 r35.2)) = true → ((!(Y39 r33.2 r35.2)) = true))) (.and (((!(Y39 r33.2 r35.2)) = true → (false = true → ((!(Y39 r33.2 r35.2)) && false) = true))) (.and ((Y39 r33.2 r35.2) = false → (!(Y39 r33.2 r35.2)) = true) (.leaf 0)))) (by kernel_rfl) ?_
         refine sk_and (fun h => h) ?_
         refine sk_and ((by decide : ∀ y0 : Bool, ((y0 = true) → ((false = true) → ((y0 && false) = true)))) (!(Y39 r33.2 r35.2))) ?_
         refine sk_and ((by decide : ∀ y0 : Bool, ((y0 = false) → ((!y0) = true))) (Y39 r33.2 r35.2)) ?_
         refine sk_leaf ?_
         obtain rfl := some_ h
         exact end_ok [] Tryd.results5 (ps := [(((decide ((r33.2.Lost : Int) > 0)) || (decide ((r35.2.Lost : Int) > 0))) || (false && false)) = (((decide ((r33.2.Lost : Int) > 0)) || (decide ((r35.2.Lost : Int) > 0))) || (false && false))]) (by kernel_rfl) ⟨rfl, trivial⟩ (fun _ => ⟨rfl, by simp⟩)
end Go.Proofs.YtaminiganaagiaaDoor

