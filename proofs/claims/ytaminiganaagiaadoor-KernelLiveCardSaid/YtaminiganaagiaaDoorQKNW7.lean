import Derived.Test.YtaminiganaagiaaDoorQKNW6
set_option linter.unusedSimpArgs false
set_option linter.unusedVariables false
namespace Go.Proofs.YtaminiganaagiaaDoor
open Go Go.Ab
set_option maxHeartbeats 40000000
set_option maxRecDepth 100000
attribute [local irreducible] V VS runS Sk.Holds
def Y128 (x0 : List Api_KernOp) : List Prop := [x0.length = x0.length, ∀ i, i < x0.length → ∀ j, j < 4 → E26.cf (x0.getD i E26.z) j = E26.cf (x0.getD i E26.z) j]
theorem Y128p {x0 : List Api_KernOp} : allP (Y128 x0) := ⟨rfl, fun _ _ _ _ => rfl, trivial⟩
set_option maxRecDepth 100000 in
theorem slices_Clone_api_KernOp_ok (a0 r : List Api_KernOp) (h : slices_Clone_api_KernOp a0 = some r) {al : Bool} : PCalls Tryd.prog 8 [.pv (E26.ro a0)] al (.row 0 4 0 r.length) [.row 26 4 (E26.cR r)] := by
 unfold slices_Clone_api_KernOp at h
 obtain ⟨g, h⟩ := if_ h
 obtain rfl := some_ h
 refine fn_ok tabOk Tryd.func8 (by as_aux_lemma => kernel_rfl) (by as_aux_lemma => kernel_rfl) Tryd.ntmps8 (by simp) ?_
 refine segs [1] tabOk mixed 4000 (S := .leaf 0) (by as_aux_lemma => kernel_rfl) ?_
 refine sk_leaf ?_
 refine nil_ok (d1 := 3) (d2 := 4) (s := 4) (n := a0.length) (c := fun i j => E26.cf (a0.getD i E26.z) j) tabOk (by as_aux_lemma => kernel_rfl) ?_
 intro b hb
 refine sg (S := .br b (.leaf 0) (.leaf 1)) ?_
 refine sk_br ?_ ?_ <;> intro hc <;> refine sk_leaf ?_
 ·obtain rfl : a0 = [] := List.eq_nil_of_length_eq_zero (hb hc)
  exact end_ok [(0, none)] Tryd.results8 (ps := [0 = 0, 0 = 0, E26.cR [] = []]) (by as_aux_lemma => kernel_rfl) ⟨rfl, rfl, rfl, trivial⟩ (fun _ => ⟨rfl, by simp only [List.mem_cons, List.not_mem_nil, or_false, forall_eq]; exact Elem.cR_bald E26_raw _⟩)
 ·refine bs_ok (d := 5) (e := 26) (s := 4) (n := 0) (cs := []) (cs' := E26.cR []) (by as_aux_lemma => kernel_rfl) rfl (by as_aux_lemma => kernel_rfl) ?_
  refine s0 ?_
  refine app_ok (d := 7) (e := 26) (s := 4) (b := 32) (x := .row 16704 4 0 0) (y := .pv (E26.ro a0)) E26 (xs := []) (ys := a0) (by as_aux_lemma => kernel_rfl) rfl (.row 16704 [] 0 rfl (by as_aux_lemma => kernel_rfl)) (.ro a0) ⟨by simpa using g, by simp; omega⟩ (by as_aux_lemma => kernel_rfl) ?_
  refine s0 ?_
  exact end_ok [(0, some 16832)] Tryd.results8 (ps := [0 = 0, a0.length = a0.length, E26.cR a0 = E26.cR a0, AllPv (E26.cR a0)]) (by as_aux_lemma => kernel_rfl) ⟨rfl, rfl, rfl, Elem.cR_pv _ _, trivial⟩ (fun _ => ⟨rfl, by simp only [List.mem_cons, List.not_mem_nil, or_false, forall_eq]; exact Elem.cR_bald E26_raw _⟩)
def Y82 (x0 : Nat) : Api_KernOp := (⟨2, ((x0 : Nat) : Int), 0, 0⟩ : Api_KernOp)
def Y109 (x0 : Nat) : Api_KernOp := (⟨5, ((x0 : Nat) : Int), 0, 0⟩ : Api_KernOp)
def Y111 (x0 : Api_Whole) (x1 x2 : Nat) : List AV := [.row x1 1 0 x0.Device.length, .row x2 1 0 x0.Fetched.length, .pv ((E28.ro x0.Tty.Lines)), .pv ((E5.ro x0.Tty.Edit)), .pv (.raw (.int .i64 x0.Lost)), .pv (.raw (.int .i64 x0.Taken))]
def Y74 (x0 : (List Api_KernAns)) (x1 : List Api_KernOp) : Bool := ((((x0.length : Nat) : Int) : Int) == ((x1.length : Nat) : Int))
def Y56 (x0 : (List Api_KernAns)) (x1 : List Api_KernOp) : Bool := ((((x0.length : Nat) : Int) : Int) != (IntKind.i64.wrap (((x1.length : Nat) : Int) + 1)))
def Y75 (x0 : List Api_KernOp) (x1 : (List Api_KernAns)) (x2 : Nat) (x3 : Api_Whole) : List Prop := [false = false, x0.length = x0.length, ∀ i, i < x0.length → ∀ j, j < 4 → E26.cf (x0.getD i E26.z) j = E26.cf (x0.getD i E26.z) j, 0 = 0, x1.length = x1.length, 0 = 0, ((IntKind.i64.wrap (((x2 : Nat) : Int) + 1)) : Int) = (((x2 + 1) : Nat) : Int), E38.cR x1 = E38.cR x1, AllPv (E38.cR x1), 0 = 0, x3.Device.length = x3.Device.length, 0 = 0, x3.Fetched.length = x3.Fetched.length, x3.Tty.Lines.length = x3.Tty.Lines.length, ∀ i, i < x3.Tty.Lines.length → ∀ j, j < 1 → E28.cf (x3.Tty.Lines.getD i E28.z) j = E28.cf (x3.Tty.Lines.getD i E28.z) j, x3.Tty.Edit.length = x3.Tty.Edit.length, ∀ i, i < x3.Tty.Edit.length → ∀ j, j < 1 → E5.cf (x3.Tty.Edit.getD i E5.z) j = E5.cf (x3.Tty.Edit.getD i E5.z) j, (x3.Lost : Int) = x3.Lost, (x3.Taken : Int) = x3.Taken, E5.cR x3.Device = E5.cR x3.Device, AllPv (E5.cR x3.Device), E5.cR x3.Fetched = E5.cR x3.Fetched, AllPv (E5.cR x3.Fetched)]
theorem keep_KernelLive_ok (a0 : (List Api_KernOp)) (r : Bool) (h : keep_KernelLive a0 = some r) {al : Bool} : PCalls Tryd.prog 3 [.pv ((E26.ro a0))] al (.pv (.raw (.bool r))) [] := by
 unfold keep_KernelLive at h
 refine fn_ok tabOk Tryd.func3 (by as_aux_lemma => kernel_rfl) (by as_aux_lemma => kernel_rfl) Tryd.ntmps3 (by simp) ?_
 refine segs [14] tabOk mixed 4000 (S := .leaf 0) (by as_aux_lemma => kernel_rfl) ?_
 refine sk_leaf ?_
 obtain ⟨r1, e2, h⟩ := bd_ h
 refine call_ok (d := some 10) (fn := 7) (ax := []) (args := []) (ps := []) (hb' := []) (by as_aux_lemma => kernel_rfl) (keep_alive25_ok  _ e2 (al := true)) (by as_aux_lemma => kernel_rfl) trivial (fun _ => (by as_aux_lemma => kernel_rfl)) (by simp) rfl (by as_aux_lemma => kernel_rfl) ?_
 refine segs [14] tabOk mixed 4000 (S := .br (!r1) (.leaf 0) (.br (decide ((((a0.length : Nat) : Int) : Int) > 200)) (.leaf 1) (.leaf 2))) (by as_aux_lemma => kernel_rfl) ?_
 refine br_ h ?_ ?_ <;> clear h <;> intro c3 h
 ·refine sk_leaf ?_
  obtain rfl := some_ h
  exact end_ok [] Tryd.results3 (ps := [false = false]) (by as_aux_lemma => kernel_rfl) ⟨rfl, trivial⟩ (fun _ => ⟨rfl, by simp⟩)
 ·refine br_ h ?_ ?_ <;> clear h <;> intro c4 h
  ·refine sk_leaf ?_
   obtain rfl := some_ h
   exact end_ok [] Tryd.results3 (ps := [true = true]) (by as_aux_lemma => kernel_rfl) ⟨rfl, trivial⟩ (fun _ => ⟨rfl, by simp⟩)
  ·refine sk_leaf ?_
   obtain ⟨r5, e6, h⟩ := bd_ h
   refine call_ok (d := some 16) (fn := 8) (ax := [.pv ((E26.ro a0))]) (ps := [a0.length = a0.length, ∀ i, i < a0.length → ∀ j, j < 4 → E26.cf (a0.getD i E26.z) j = E26.cf (a0.getD i E26.z) j]) (hb' := [.row 26 4 (E26.cR r5)]) (by as_aux_lemma => kernel_rfl) (slices_Clone_api_KernOp_ok _ _ e6 (al := true)) (by as_aux_lemma => kernel_rfl) ⟨rfl, fun _ _ _ _ => rfl, trivial⟩ (fun _ => (by as_aux_lemma => kernel_rfl)) (by simp) (by simp only [List.map_cons, List.map_nil, Elem.row_up, up_map] <;> rfl) (by as_aux_lemma => kernel_rfl) ?_
   refine segs [14] tabOk mixed 4000 (S := .leaf 0) (by as_aux_lemma => kernel_rfl) ?_
   refine sk_leaf ?_
   refine len_row (by as_aux_lemma => kernel_rfl) 17408 (e := 26) (s := 4) (n := r5.length) (cs := E26.cR r5) (by as_aux_lemma => kernel_rfl) (Elem.cR_length _ _) ?_; intro hl1_0
   replace h : (fun (x : Nat × Int × List Api_KernOp) => keep_KernelLive_l1 a0 r5 x.1 x.2.1 x.2.2 = some r) (FUEL, 0, r5) := h
   refine loop_ok (by as_aux_lemma => kernel_rfl) (X := Nat × Int × List Api_KernOp) (fun x => keep_KernelLive_l1 a0 r5 x.1 x.2.1 x.2.2 = some r) (fun x => x.1) (fun x => mk 83 [(2, .pv (.raw (.bool false))), (3, .row 0 4 0 x.2.2.length), (19, .pv (.raw (.int .i64 (IntKind.i64.wrap (((a0.length : Nat) : Int) + 100))))), (20, .pv (.raw (.int .i64 x.2.1)))] [(0, .row 26 4 (E26.cR x.2.2))]) (FUEL, 0, r5) h ?_ ?_
   ·exact sub_ok (ρ := [(0, some 17408)]) (l := [false = false, 0 = 0, r5.length = r5.length, ((IntKind.i64.wrap (((a0.length : Nat) : Int) + 100)) : Int) = (IntKind.i64.wrap (((a0.length : Nat) : Int) + 100)), (0 : Int) = 0, E26.cR r5 = E26.cR r5, AllPv (E26.cR r5)]) (by as_aux_lemma => kernel_rfl) ⟨rfl, rfl, rfl, rfl, rfl, rfl, (Elem.cR_pv _ _), trivial⟩
   ·clear h; rintro ⟨n1, x7, l8⟩ h p1 hp1
    obtain _ | n1 := n1
    ·cases (show (none : Option (Bool)) = some r from h)
    have h : keep_KernelLive_l1 a0 r5 (n1 + 1) x7 l8 = some r := h
    unfold keep_KernelLive_l1 at h
    refine segs [14] tabOk mixed 4000 (S := .br (decide ((x7 : Int) < (IntKind.i64.wrap (((a0.length : Nat) : Int) + 100)))) (.leaf 0) (.leaf 1)) (by as_aux_lemma => kernel_rfl) ?_
    refine br_ h ?_ ?_ <;> clear h <;> intro c9 h
    ·refine sk_leaf ?_
     refine len_row (by as_aux_lemma => kernel_rfl) 0 (e := 26) (s := 4) (n := l8.length) (cs := E26.cR l8) (by as_aux_lemma => kernel_rfl) (Elem.cR_length _ _) ?_; intro hl2_0
     obtain ⟨K2_0, hK2_0, h⟩ : ∃ (K2_0 : (List Api_KernOp) → Nat → Option (Bool)), K2_0 = (fun (l10 : List Api_KernOp) (k11 : Nat) => keep_KernelLive_l1 a0 r5 n1 (IntKind.i64.wrap (x7 + 1)) l10 ) ∧ keep_KernelLive_l2 l8 K2_0 FUEL l8 0 = some r := ⟨_, rfl, h⟩
     replace h : (fun (x : Nat × List Api_KernOp × Nat) => keep_KernelLive_l2 l8 K2_0 x.1 x.2.1 x.2.2 = some r) (FUEL, l8, 0) := h
     refine loop_ok (by as_aux_lemma => kernel_rfl) (X := Nat × List Api_KernOp × Nat) (fun x => keep_KernelLive_l2 l8 K2_0 x.1 x.2.1 x.2.2 = some r) (fun x => x.1) (fun x => mk 83 [(2, .pv (.raw (.bool false))), (3, .row 0 4 0 x.2.1.length), (19, .pv (.raw (.int .i64 (IntKind.i64.wrap (((a0.length : Nat) : Int) + 100))))), (20, .pv (.raw (.int .i64 x7))), (22, .pv (.raw (.int .i64 ((x.2.2 : Nat) : Int))))] [(0, .row 26 4 (E26.cR x.2.1))]) (FUEL, l8, 0) h ?_ ?_
     ·exact sub_ok (ρ := [(0, some 0)]) (l := [false = false, 0 = 0, l8.length = l8.length, ((IntKind.i64.wrap (((a0.length : Nat) : Int) + 100)) : Int) = (IntKind.i64.wrap (((a0.length : Nat) : Int) + 100)), (x7 : Int) = x7, (0 : Int) = ((0 : Nat) : Int), E26.cR l8 = E26.cR l8, AllPv (E26.cR l8)]) (by as_aux_lemma => kernel_rfl) ⟨rfl, rfl, rfl, rfl, rfl, (by first | rfl | simp), rfl, (Elem.cR_pv _ _), trivial⟩
     ·clear h; rintro ⟨n2, l10, k11⟩ h p2 hp2
      obtain _ | n2 := n2
      ·cases (show (none : Option (Bool)) = some r from h)
      have h : keep_KernelLive_l2 l8 K2_0 (n2 + 1) l10 k11 = some r := h
      unfold keep_KernelLive_l2 at h
      refine segs [14] tabOk mixed 4000 (S := .br (decide ((((k11 : Nat) : Int) : Int) < 2)) (.leaf 0) (.leaf 1)) (by as_aux_lemma => kernel_rfl) ?_
      refine br_ h ?_ ?_ <;> clear h <;> intro c12 h
      ·refine sk_leaf ?_
       refine bs_ok (d := 30) (e := 26) (s := 4) (n := 2) (cs := [.pv (.raw (.int .i64 2)), .pv (.raw (.int .i64 ((k11 : Nat) : Int))), .pv (.raw (.int .i64 0)), .pv (.raw (.int .u8 0)), .pv (.raw (.int .i64 5)), .pv (.raw (.int .i64 ((k11 : Nat) : Int))), .pv (.raw (.int .i64 0)), .pv (.raw (.int .u8 0))]) (cs' := E26.cR [(Y82 k11), (Y109 k11)]) (by as_aux_lemma => kernel_rfl) rfl (by as_aux_lemma => kernel_rfl) ?_
       refine segs [14] tabOk mixed 4000 (S := .leaf 0) (by as_aux_lemma => kernel_rfl) ?_
       refine sk_leaf ?_
       obtain ⟨g13, h⟩ := if_ h
       refine app_ok (d := 31) (e := 26) (s := 4) (b := 32) (x := .row 0 4 0 l10.length) (y := .row 18304 4 0 2) E26 (xs := l10) (ys := [(Y82 k11), (Y109 k11)]) (by as_aux_lemma => kernel_rfl) rfl (.row 0 l10 l10.length rfl (by as_aux_lemma => kernel_rfl)) (.all 18304 26 [(Y82 k11), (Y109 k11)] 2 rfl (by as_aux_lemma => kernel_rfl)) g13 (by as_aux_lemma => kernel_rfl) ?_
       refine segs [14] tabOk mixed 4000 (S := .leaf 0) (by as_aux_lemma => kernel_rfl) ?_
       refine sk_leaf ?_
       refine back_ok (p := p2) (by as_aux_lemma => kernel_rfl) (hp2 (n2, (l10 ++ [(Y82 k11), (Y109 k11)]), k11 + 1) _ h (Nat.lt_succ_self n2) ?_)
       exact sub_ok (ρ := [(0, some 18368)]) (l := [false = false, 0 = 0, ((l10 ++ [(Y82 k11), (Y109 k11)]).length) = ((l10 ++ [(Y82 k11), (Y109 k11)]).length), ((IntKind.i64.wrap (((a0.length : Nat) : Int) + 100)) : Int) = (IntKind.i64.wrap (((a0.length : Nat) : Int) + 100)), (x7 : Int) = x7, ((IntKind.i64.wrap (((k11 : Nat) : Int) + 1)) : Int) = (((k11 + 1) : Nat) : Int), E26.cR (l10 ++ [(Y82 k11), (Y109 k11)]) = E26.cR (l10 ++ [(Y82 k11), (Y109 k11)]), AllPv (E26.cR (l10 ++ [(Y82 k11), (Y109 k11)]))]) (by as_aux_lemma => kernel_rfl) ⟨rfl, rfl, rfl, rfl, rfl, (wrap_nat_lit (by simp at * <;> omega)), rfl, (Elem.cR_pv _ _), trivial⟩
      ·replace h := (congrFun (congrFun hK2_0 l10) k11).symm.trans h
       refine sk_leaf ?_
       refine back_ok (p := p1) (by as_aux_lemma => kernel_rfl) (hp1 (n1, (IntKind.i64.wrap (x7 + 1)), l10) _ h (Nat.lt_succ_self n1) ?_)
       exact sub_ok (ρ := [(0, some 0)]) (l := [false = false, 0 = 0, l10.length = l10.length, ((IntKind.i64.wrap (((a0.length : Nat) : Int) + 100)) : Int) = (IntKind.i64.wrap (((a0.length : Nat) : Int) + 100)), ((IntKind.i64.wrap (x7 + 1)) : Int) = (IntKind.i64.wrap (x7 + 1)), E26.cR l10 = E26.cR l10, AllPv (E26.cR l10)]) (by as_aux_lemma => kernel_rfl) ⟨rfl, rfl, rfl, rfl, rfl, rfl, (Elem.cR_pv _ _), trivial⟩
    ·refine sk_leaf ?_
     refine cut_ok (by as_aux_lemma => kernel_rfl) (τ := mk 83 [(2, .pv (.raw (.bool false))), (3, .pv ((E26.ro l8)))] []) (sub_ok (ρ := []) (l := [false = false, l8.length = l8.length, rowQ (E26.cR l8) 4 0 l8.length (fun i j => E26.cf (l8.getD i E26.z) j)]) (by as_aux_lemma => kernel_rfl) ⟨rfl, (by first | rfl | exact Elem.sub_len _ (by omega) | omega | simp | (simp <;> omega)), E26.rowQ_all l8 rfl, trivial⟩) ?_
     refine s0 ?_
     obtain ⟨r14, e15, h⟩ := bd_ h
     refine call_ok (d := some 36) (fn := 9) (ax := [.pv ((E26.ro l8))]) (ps := (Y128 l8)) (hb' := [.row 38 2 (E38.cR r14.1), .row 5 1 (E5.cR r14.2.Device), .row 5 1 (E5.cR r14.2.Fetched)]) (by as_aux_lemma => kernel_rfl) (kernel_Play_ok _ _ e15) (by as_aux_lemma => kernel_rfl) Y128p (fun _ => (by as_aux_lemma => kernel_rfl)) (by simp) (by simp only [List.map_cons, List.map_nil, Elem.row_up, up_map] <;> rfl) (by as_aux_lemma => kernel_rfl) ?_
     refine segs [14] tabOk mixed 4000 (S := .leaf 0) (by as_aux_lemma => kernel_rfl) ?_
     refine sk_leaf ?_
     refine len_ro (by as_aux_lemma => kernel_rfl) 3 (s := 4) (n := l8.length) (c := fun i j => E26.cf (l8.getD i E26.z) j) (by as_aux_lemma => kernel_rfl) ?_; intro hl3_0
     refine len_row (by as_aux_lemma => kernel_rfl) 18688 (e := 38) (s := 2) (n := r14.1.length) (cs := E38.cR r14.1) (by as_aux_lemma => kernel_rfl) (Elem.cR_length _ _) ?_; intro hl3_1
     refine len_row (by as_aux_lemma => kernel_rfl) 18689 (e := 5) (s := 1) (n := r14.2.Device.length) (cs := E5.cR r14.2.Device) (by as_aux_lemma => kernel_rfl) (Elem.cR_length _ _) ?_; intro hl3_2
     refine len_row (by as_aux_lemma => kernel_rfl) 18690 (e := 5) (s := 1) (n := r14.2.Fetched.length) (cs := E5.cR r14.2.Fetched) (by as_aux_lemma => kernel_rfl) (Elem.cR_length _ _) ?_; intro hl3_3
     refine len_box (by as_aux_lemma => kernel_rfl) 16768 2 (cs := (Y111 r14.2 18689 18690)) (by as_aux_lemma => kernel_rfl) (s := 1) (n := r14.2.Tty.Lines.length) (c := fun i j => E28.cf (r14.2.Tty.Lines.getD i E28.z) j) rfl ?_; intro hl3_4
     refine len_box (by as_aux_lemma => kernel_rfl) 16768 3 (cs := (Y111 r14.2 18689 18690)) (by as_aux_lemma => kernel_rfl) (s := 1) (n := r14.2.Tty.Edit.length) (c := fun i j => E5.cf (r14.2.Tty.Edit.getD i E5.z) j) rfl ?_; intro hl3_5
     replace h : (fun (x : Nat × Nat) => keep_KernelLive_l3 l8 r14 x.1 x.2 = some r) (FUEL, 0) := h
     refine loop_ok (by as_aux_lemma => kernel_rfl) (X := Nat × Nat) (fun x => keep_KernelLive_l3 l8 r14 x.1 x.2 = some r) (fun x => x.1) (fun x => mk 83 [(2, .pv (.raw (.bool false))), (3, .pv ((E26.ro l8))), (5, .row 0 2 0 r14.1.length), (6, .ptr 1 0), (39, .pv (.raw (.int .i64 ((x.2 : Nat) : Int))))] [(0, .row 38 2 (E38.cR r14.1)), (1, .box (Y111 r14.2 2 3)), (2, .row 5 1 (E5.cR r14.2.Device)), (3, .row 5 1 (E5.cR r14.2.Fetched))]) (FUEL, 0) h ?_ ?_
     ·exact sub_ok (ρ := [(0, some 18688), (1, some 16768), (2, some 18689), (3, some 18690)]) (l := [false = false, l8.length = l8.length, ∀ i, i < l8.length → ∀ j, j < 4 → E26.cf (l8.getD i E26.z) j = E26.cf (l8.getD i E26.z) j, 0 = 0, r14.1.length = r14.1.length, 0 = 0, (0 : Int) = ((0 : Nat) : Int), E38.cR r14.1 = E38.cR r14.1, AllPv (E38.cR r14.1), 0 = 0, r14.2.Device.length = r14.2.Device.length, 0 = 0, r14.2.Fetched.length = r14.2.Fetched.length, r14.2.Tty.Lines.length = r14.2.Tty.Lines.length, ∀ i, i < r14.2.Tty.Lines.length → ∀ j, j < 1 → E28.cf (r14.2.Tty.Lines.getD i E28.z) j = E28.cf (r14.2.Tty.Lines.getD i E28.z) j, r14.2.Tty.Edit.length = r14.2.Tty.Edit.length, ∀ i, i < r14.2.Tty.Edit.length → ∀ j, j < 1 → E5.cf (r14.2.Tty.Edit.getD i E5.z) j = E5.cf (r14.2.Tty.Edit.getD i E5.z) j, (r14.2.Lost : Int) = r14.2.Lost, (r14.2.Taken : Int) = r14.2.Taken, E5.cR r14.2.Device = E5.cR r14.2.Device, AllPv (E5.cR r14.2.Device), E5.cR r14.2.Fetched = E5.cR r14.2.Fetched, AllPv (E5.cR r14.2.Fetched)]) (by as_aux_lemma => kernel_rfl) ⟨rfl, rfl, fun _ _ _ _ => rfl, rfl, rfl, rfl, (by first | rfl | simp), rfl, (Elem.cR_pv _ _), rfl, rfl, rfl, rfl, rfl, fun _ _ _ _ => rfl, rfl, fun _ _ _ _ => rfl, rfl, rfl, rfl, (Elem.cR_pv _ _), rfl, (Elem.cR_pv _ _), trivial⟩
     ·clear h; rintro ⟨n3, k16⟩ h p3 hp3
      obtain _ | n3 := n3
      ·cases (show (none : Option (Bool)) = some r from h)
      have h : keep_KernelLive_l3 l8 r14 (n3 + 1) k16 = some r := h
      unfold keep_KernelLive_l3 at h
      refine segs [14] tabOk mixed 4000 (S := .br (decide ((((k16 : Nat) : Int) : Int) < 2)) (.leaf 0) (.and (((Y74 r14.1 l8) = true → ((Y74 r14.1 l8) = true))) (.and (((Y74 r14.1 l8) = true → ((Y74 r14.1 l8) = true))) (.and (((Y74 r14.1 l8) = true → ((Y74 r14.1 l8) = true))) (.and (((Y74 r14.1 l8) = true → ((Y74 r14.1 l8) = true))) (.and (((Y74 r14.1 l8) = true → ((Y74 r14.1 l8) = true))) (.and (((Y74 r14.1 l8) = true → ((Y74 r14.1 l8) = true))) (.and (((Y74 r14.1 l8) = true → ((Y74 r14.1 l8) = true))) (.and ((Y74 r14.1 l8) = true → (Y74 r14.1 l8) = true) (.leaf 1)))))))))) (by as_aux_lemma => kernel_rfl) ?_
      refine br_ h ?_ ?_ <;> clear h <;> intro c17 h
      ·refine sk_leaf ?_
       obtain ⟨r18, e19, h⟩ := bd_ h
       refine call_ok (d := some 44) (fn := 8) (ax := [.pv ((E26.ro l8))]) (ps := (Y128 l8)) (hb' := [.row 26 4 (E26.cR r18)]) (by as_aux_lemma => kernel_rfl) (slices_Clone_api_KernOp_ok _ _ e19 (al := true)) (by as_aux_lemma => kernel_rfl) Y128p (fun _ => (by as_aux_lemma => kernel_rfl)) (by simp) (by simp only [List.map_cons, List.map_nil, Elem.row_up, up_map] <;> rfl) (by as_aux_lemma => kernel_rfl) ?_
       refine segs [14] tabOk mixed 4000 (S := .leaf 0) (by as_aux_lemma => kernel_rfl) ?_
       refine sk_leaf ?_
       refine bs_ok (d := 47) (e := 26) (s := 4) (n := 1) (cs := [.pv (.raw (.int .i64 2)), .pv (.raw (.int .i64 ((k16 : Nat) : Int))), .pv (.raw (.int .i64 0)), .pv (.raw (.int .u8 0))]) (cs' := E26.cR [(Y82 k16)]) (by as_aux_lemma => kernel_rfl) rfl (by as_aux_lemma => kernel_rfl) ?_
       refine segs [14] tabOk mixed 4000 (S := .leaf 0) (by as_aux_lemma => kernel_rfl) ?_
       refine sk_leaf ?_
       obtain ⟨g20, h⟩ := if_ h
       refine appF_ok (d := 48) (e := 26) (s := 4) (b := 32) (x := .row 19200 4 0 r18.length) (y := .row 19392 4 0 1) E26 (xs := r18) (ys := [(Y82 k16)]) (by as_aux_lemma => kernel_rfl) rfl (.row 19200 r18 r18.length rfl (by as_aux_lemma => kernel_rfl)) (.all 19392 26 [(Y82 k16)] 1 rfl (by as_aux_lemma => kernel_rfl)) g20 (by as_aux_lemma => kernel_rfl) ?_
       refine segs [14] tabOk mixed 4000 (S := .leaf 0) (by as_aux_lemma => kernel_rfl) ?_
       refine sk_leaf ?_
       obtain ⟨r21, e22, h⟩ := bd_ h
       refine call_ok (d := some 49) (fn := 9) (ax := [.pv ((E26.ro (r18 ++ [(Y82 k16)])))]) (ps := [(r18 ++ [(Y82 k16)]).length = (r18 ++ [(Y82 k16)]).length, ∀ i, i < (r18 ++ [(Y82 k16)]).length → ∀ j, j < 4 → E26.cf ((r18 ++ [(Y82 k16)]).getD i E26.z) j = E26.cf ((r18 ++ [(Y82 k16)]).getD i E26.z) j]) (hb' := [.row 38 2 (E38.cR r21.1), .row 5 1 (E5.cR r21.2.Device), .row 5 1 (E5.cR r21.2.Fetched)]) (by as_aux_lemma => kernel_rfl) (kernel_Play_ok _ _ e22) (by as_aux_lemma => kernel_rfl) ⟨rfl, fun _ _ _ _ => rfl, trivial⟩ (fun _ => (by as_aux_lemma => kernel_rfl)) (by simp) (by simp only [List.map_cons, List.map_nil, Elem.row_up, up_map] <;> rfl) (by as_aux_lemma => kernel_rfl) ?_
       refine segs [14] tabOk mixed 4000 (S := .and (((!(Y56 r21.1 l8)) = true → ((!(Y56 r21.1 l8)) = true))) (.and (((!(Y56 r21.1 l8)) = true → ((!(Y56 r21.1 l8)) = true))) (.and (((!(Y56 r21.1 l8)) = true → ((!(Y56 r21.1 l8)) = true))) (.and (((!((((r21.1.length : Nat) : Int) : Int) != (IntKind.i64.wrap (((l8.length : Nat) : Int) + 1)))) = true → (0 ≤ (((l8.length : Nat) : Int) : Int) ∧ ((l8.length : Nat) : Int) < ((r21.1.length : Nat) : Int)))) (.and (((!(Y56 r21.1 l8)) = true → ((!(Y56 r21.1 l8)) = true))) (.leaf 0)))))) (by as_aux_lemma => kernel_rfl) ?_
       refine sk_and (fun h => h) ?_
       refine sk_and (fun h => h) ?_
       refine sk_and (fun h => h) ?_
       refine gd_ h ?_; clear h; intro g26 h
       refine sk_and (fun h => h) ?_
       refine sk_leaf ?_
       refine gsp_ h ?_ ?_ <;> clear h <;> intro c28 h
       ·refine unG_ok (g := (!((((r21.1.length : Nat) : Int) : Int) != (IntKind.i64.wrap (((l8.length : Nat) : Int) + 1))))) (ws := [(!((((r21.1.length : Nat) : Int) : Int) != (IntKind.i64.wrap (((l8.length : Nat) : Int) + 1)))) = true]) (by as_aux_lemma => kernel_rfl) (by as_aux_lemma => kernel_rfl) c28 ⟨((by decide : ∀ y0 : Bool, ((y0 = true) → (y0 = true))) (!((((r21.1.length : Nat) : Int) : Int) != (IntKind.i64.wrap (((l8.length : Nat) : Int) + 1))))) c28, trivial⟩ ?_
        refine ld_ok (d := 64) (id := 19520) (i := (0 + l8.length)) (j := 0) (e := 38) (n := 1) E38 (xs := r21.1) (by as_aux_lemma => kernel_rfl) (by as_aux_lemma => kernel_rfl) (by first | omega | (simp at * <;> omega) | (simp_all <;> omega)) (by exact Nat.le_of_ble_eq_true rfl) ?_
        refine gdw_ok (g := (!((((r21.1.length : Nat) : Int) : Int) != (IntKind.i64.wrap (((l8.length : Nat) : Int) + 1))))) (ws := [(!((((r21.1.length : Nat) : Int) : Int) != (IntKind.i64.wrap (((l8.length : Nat) : Int) + 1)))) = true]) (by as_aux_lemma => kernel_rfl) ?_
        refine segs [14] tabOk mixed 4000 (S := .and (((!(Y56 r21.1 l8)) = true → ((!(Y56 r21.1 l8)) = true))) (.and ((Y56 r21.1 l8) = false → (!(Y56 r21.1 l8)) = true) (.br (((((r21.1.length : Nat) : Int) : Int) != (IntKind.i64.wrap (((l8.length : Nat) : Int) + 1))) || (((r21.1.getD (0 + l8.length) (⟨0, []⟩ : Api_KernAns)).Err : Int) != 7)) (.leaf 0) (.leaf 1)))) (by as_aux_lemma => kernel_rfl) ?_
        refine sk_and (fun h => h) ?_
        refine sk_and ((by decide : ∀ y0 : Bool, ((y0 = false) → ((!y0) = true))) (Y56 r21.1 l8)) ?_
        refine br_ h ?_ ?_ <;> clear h <;> intro c31 h
        ·refine sk_leaf ?_
         obtain rfl := some_ h
         exact end_ok [] Tryd.results3 (ps := [false = false]) (by as_aux_lemma => kernel_rfl) ⟨rfl, trivial⟩ (fun _ => ⟨rfl, by simp⟩)
        ·refine sk_leaf ?_
         refine back_ok (p := p3) (by as_aux_lemma => kernel_rfl) (hp3 (n3, k16 + 1) _ h (Nat.lt_succ_self n3) ?_)
         exact sub_ok (ρ := (rI 0 0 4)) (l := (Y75 l8 r14.1 k16 r14.2)) (by as_aux_lemma => kernel_rfl) ⟨rfl, rfl, fun _ _ _ _ => rfl, rfl, rfl, rfl, (wrap_nat_lit (by simp at * <;> omega)), rfl, (Elem.cR_pv _ _), rfl, rfl, rfl, rfl, rfl, fun _ _ _ _ => rfl, rfl, fun _ _ _ _ => rfl, rfl, rfl, rfl, (Elem.cR_pv _ _), rfl, (Elem.cR_pv _ _), trivial⟩
       ·refine skG_ok (g := (!((((r21.1.length : Nat) : Int) : Int) != (IntKind.i64.wrap (((l8.length : Nat) : Int) + 1))))) (ws := [(!((((r21.1.length : Nat) : Int) : Int) != (IntKind.i64.wrap (((l8.length : Nat) : Int) + 1)))) = true]) (.pv (.raw (.int .i64 0))) (by as_aux_lemma => kernel_rfl) c28 ?_
        refine segs [14] tabOk mixed 4000 (S := .and (((!(Y56 r21.1 l8)) = true → ((!(Y56 r21.1 l8)) = true))) (.and ((Y56 r21.1 l8) = false → (!(Y56 r21.1 l8)) = true) (.br (((((r21.1.length : Nat) : Int) : Int) != (IntKind.i64.wrap (((l8.length : Nat) : Int) + 1))) || ((0 : Int) != 7)) (.leaf 0) (.leaf 1)))) (by as_aux_lemma => kernel_rfl) ?_
        refine sk_and (fun h => h) ?_
        refine sk_and ((by decide : ∀ y0 : Bool, ((y0 = false) → ((!y0) = true))) (Y56 r21.1 l8)) ?_
        refine br_ h ?_ ?_ <;> clear h <;> intro c34 h
        ·refine sk_leaf ?_
         obtain rfl := some_ h
         exact end_ok [] Tryd.results3 (ps := [false = false]) (by as_aux_lemma => kernel_rfl) ⟨rfl, trivial⟩ (fun _ => ⟨rfl, by simp⟩)
        ·refine sk_leaf ?_
         refine back_ok (p := p3) (by as_aux_lemma => kernel_rfl) (hp3 (n3, k16 + 1) _ h (Nat.lt_succ_self n3) ?_)
         exact sub_ok (ρ := (rI 0 0 4)) (l := (Y75 l8 r14.1 k16 r14.2)) (by as_aux_lemma => kernel_rfl) ⟨rfl, rfl, fun _ _ _ _ => rfl, rfl, rfl, rfl, (wrap_nat_lit (by simp at * <;> omega)), rfl, (Elem.cR_pv _ _), rfl, rfl, rfl, rfl, rfl, fun _ _ _ _ => rfl, rfl, fun _ _ _ _ => rfl, rfl, rfl, rfl, (Elem.cR_pv _ _), rfl, (Elem.cR_pv _ _), trivial⟩
      ·refine sk_and (fun h => h) ?_
       refine sk_and (fun h => h) ?_
       refine sk_and (fun h => h) ?_
       refine sk_and (fun h => h) ?_
       refine sk_and (fun h => h) ?_
       refine sk_and (fun h => h) ?_
       refine sk_and (fun h => h) ?_
       refine sk_and (fun h => h) ?_
       refine sk_leaf ?_
       obtain rfl := some_ h
       exact end_ok [] Tryd.results3 (ps := [(((((r14.1.length : Nat) : Int) : Int) == ((l8.length : Nat) : Int)) && (((IntKind.i64.wrap (((r14.2.Device.length : Nat) : Int) + ((r14.2.Fetched.length : Nat) : Int))) : Int) == 0)) = (((((r14.1.length : Nat) : Int) : Int) == ((l8.length : Nat) : Int)) && (((IntKind.i64.wrap (((r14.2.Device.length : Nat) : Int) + ((r14.2.Fetched.length : Nat) : Int))) : Int) == 0))]) (by as_aux_lemma => kernel_rfl) ⟨rfl, trivial⟩ (fun _ => ⟨rfl, by simp⟩)
end Go.Proofs.YtaminiganaagiaaDoor

