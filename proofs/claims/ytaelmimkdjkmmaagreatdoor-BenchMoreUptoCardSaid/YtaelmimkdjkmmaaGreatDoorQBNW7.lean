import Derived.Test.YtaelmimkdjkmmaaGreatDoorQBNW6
set_option linter.unusedSimpArgs false
set_option linter.unusedVariables false
namespace Go.Proofs.YtaelmimkdjkmmaaGreatDoor
open Go Go.Ab
set_option maxHeartbeats 40000000
set_option maxRecDepth 100000
attribute [local irreducible] V VS runS Sk.Holds
def Y81 (x0 : Api_Whole) (x1 x2 : Nat) : List AV := [.row x1 1 0 x0.Device.length, .row x2 1 0 x0.Fetched.length, .pv ((E37.ro x0.Tty.Lines)), .pv ((E5.ro x0.Tty.Edit)), .pv (.raw (.int .i64 x0.Lost)), .pv (.raw (.int .i64 x0.Taken))]
def Y87 (x0 : (List Api_KernOp)) (x1 : Nat) : Bool := (((x0.getD x1 (⟨0, 0, 0, 0⟩ : Api_KernOp)).Kind : Int) == 3)
def Y112 (x0 : (List Api_KernAns)) (x1 : Nat) : List Prop := [((x0.getD (0 + x1) (⟨0, []⟩ : Api_KernAns)).Data).length = ((x0.getD (0 + x1) (⟨0, []⟩ : Api_KernAns)).Data).length, ∀ i, i < ((x0.getD (0 + x1) (⟨0, []⟩ : Api_KernAns)).Data).length → ∀ j, j < 1 → E5.cf (((x0.getD (0 + x1) (⟨0, []⟩ : Api_KernAns)).Data).getD i E5.z) j = E5.cf (((x0.getD (0 + x1) (⟨0, []⟩ : Api_KernAns)).Data).getD i E5.z) j]
theorem bench_Tell_ok (a0 : ByteArray) (r : (List ByteArray) × Int) (h : bench_Tell a0 = some r) {al : Bool} : PCalls Tryz.prog 6 [.pv (.raw (.string a0))] al (.tup [.row 0 1 0 r.1.length, .pv (.raw (.int .i64 r.2))]) [.row 9 1 (E9.cR r.1)] := by
 unfold bench_Tell at h
 refine fn_ok tabOk Tryz.func6 (by kernel_rfl) (by kernel_rfl) Tryz.ntmps6 (by simp) ?_
 refine s0 ?_
 obtain ⟨r1, e2, h⟩ := bd_ h
 refine callF_ok (d := some 18) (fn := 10) (ax := [.pv (.raw (.string a0))]) (args := [.pv (.raw (.string a0))]) (ps := [a0 = a0]) (hb' := [.row 49 4 (E49.cR r1.1)]) (ps2 := [r1.1.length = r1.1.length, rowQ (E49.cR r1.1) 4 0 r1.1.length (fun i j => E49.cf (r1.1.getD i E49.z) j), (r1.2.1 : Int) = r1.2.1, (r1.2.2 : Int) = r1.2.2]) (.tup [.pv ((E49.ro r1.1)), .pv (.raw (.int .i64 r1.2.1)), .pv (.raw (.int .i64 r1.2.2))]) (by kernel_rfl) (bench_Parse_ok _ _ e2 (al := true)) (by kernel_rfl) ⟨rfl, trivial⟩ (fun _ => (by kernel_rfl)) (by simp) (by simp only [List.map_cons, List.map_nil, Elem.row_up, up_map] <;> rfl) (by kernel_rfl) (by kernel_rfl) ⟨(by first | rfl | exact Elem.sub_len _ (by omega) | omega | simp | (simp <;> omega)), E49.rowQ_all r1.1 rfl, rfl, rfl, trivial⟩ ?_
 refine sg (S := .br ((r1.2.2 : Int) != 0) (.leaf 0) (.leaf 1)) ?_
 refine br_ h ?_ ?_ <;> clear h <;> intro c3 h
 ·refine sk_leaf ?_
  obtain rfl := some_ h
  exact end_ok [(0, none)] Tryz.results6 (ps := [0 = 0, ([] : List ByteArray).length = 0, (r1.2.2 : Int) = r1.2.2, E9.cR [] = []]) (by kernel_rfl) ⟨rfl, rfl, rfl, rfl, trivial⟩ (fun _ => ⟨rfl, by simp only [List.mem_cons, List.not_mem_nil, or_false, forall_eq_or_imp, forall_eq]; exact Elem.cR_bald E9_raw _⟩)
 ·refine sk_leaf ?_
  obtain ⟨r4, e5, h⟩ := bd_ h
  refine call_ok (d := some 27) (fn := 11) (ax := [.pv ((E49.ro r1.1))]) (ps := [r1.1.length = r1.1.length, ∀ i, i < r1.1.length → ∀ j, j < 4 → E49.cf (r1.1.getD i E49.z) j = E49.cf (r1.1.getD i E49.z) j]) (hb' := [.row 46 2 (E46.cR r4.1), .row 5 1 (E5.cR r4.2.Device), .row 5 1 (E5.cR r4.2.Fetched)]) (by kernel_rfl) (kernel_Play_ok _ _ e5) (by kernel_rfl) ⟨rfl, fun _ _ _ _ => rfl, trivial⟩ (fun _ => (by kernel_rfl)) (by simp) (by simp only [List.map_cons, List.map_nil, Elem.row_up, up_map] <;> rfl) (by kernel_rfl) ?_
  refine s0 ?_
  refine len_ro (by kernel_rfl) 4 (s := 4) (n := r1.1.length) (c := fun i j => E49.cf (r1.1.getD i E49.z) j) (by kernel_rfl) ?_; intro hl1_0
  refine len_row (by kernel_rfl) 18112 (e := 46) (s := 2) (n := r4.1.length) (cs := E46.cR r4.1) (by kernel_rfl) (Elem.cR_length _ _) ?_; intro hl1_1
  refine len_row (by kernel_rfl) 18113 (e := 5) (s := 1) (n := r4.2.Device.length) (cs := E5.cR r4.2.Device) (by kernel_rfl) (Elem.cR_length _ _) ?_; intro hl1_2
  refine len_row (by kernel_rfl) 18114 (e := 5) (s := 1) (n := r4.2.Fetched.length) (cs := E5.cR r4.2.Fetched) (by kernel_rfl) (Elem.cR_length _ _) ?_; intro hl1_3
  refine len_box (by kernel_rfl) 16896 2 (cs := (Y81 r4.2 18113 18114)) (by kernel_rfl) (s := 1) (n := r4.2.Tty.Lines.length) (c := fun i j => E37.cf (r4.2.Tty.Lines.getD i E37.z) j) rfl ?_; intro hl1_4
  refine len_box (by kernel_rfl) 16896 3 (cs := (Y81 r4.2 18113 18114)) (by kernel_rfl) (s := 1) (n := r4.2.Tty.Edit.length) (c := fun i j => E5.cf (r4.2.Tty.Edit.getD i E5.z) j) rfl ?_; intro hl1_5
  replace h : (fun (x : Nat × List ByteArray × Nat) => bench_Tell_l1 r1 r4 x.1 x.2.1 x.2.2 = some r) (FUEL, ([] : List ByteArray), 0) := h
  refine loop_ok (by kernel_rfl) (X := Nat × List ByteArray × Nat) (fun x => bench_Tell_l1 r1 r4 x.1 x.2.1 x.2.2 = some r) (fun x => x.1) (fun x => mk 100 [(2, .pv (.raw (.slice none 0 0))), (3, .pv (.raw (.int .i64 0))), (4, .pv ((E49.ro r1.1))), (8, .ptr 0 0), (9, .row 4 1 0 x.2.1.length), (30, .row 3 2 0 r4.1.length), (31, .pv (.raw (.int .i64 ((r4.1.length : Nat) : Int)))), (32, .pv (.raw (.int .i64 ((x.2.2 : Nat) : Int))))] [(0, .box (Y81 r4.2 1 2)), (1, .row 5 1 (E5.cR r4.2.Device)), (2, .row 5 1 (E5.cR r4.2.Fetched)), (3, .row 46 2 (E46.cR r4.1)), (4, .row 9 1 (E9.cR x.2.1))]) (FUEL, ([] : List ByteArray), 0) h ?_ ?_
  ·exact sub_ok (ρ := [(0, some 16896), (1, some 18113), (2, some 18114), (3, some 18112), (4, none)]) (l := [(0 : Int) = 0, r1.1.length = r1.1.length, ∀ i, i < r1.1.length → ∀ j, j < 4 → E49.cf (r1.1.getD i E49.z) j = E49.cf (r1.1.getD i E49.z) j, 0 = 0, 0 = 0, (([] : List ByteArray).length) = 0, 0 = 0, r4.1.length = r4.1.length, (((r4.1.length : Nat) : Int) : Int) = ((r4.1.length : Nat) : Int), (0 : Int) = ((0 : Nat) : Int), 0 = 0, r4.2.Device.length = r4.2.Device.length, 0 = 0, r4.2.Fetched.length = r4.2.Fetched.length, r4.2.Tty.Lines.length = r4.2.Tty.Lines.length, ∀ i, i < r4.2.Tty.Lines.length → ∀ j, j < 1 → E37.cf (r4.2.Tty.Lines.getD i E37.z) j = E37.cf (r4.2.Tty.Lines.getD i E37.z) j, r4.2.Tty.Edit.length = r4.2.Tty.Edit.length, ∀ i, i < r4.2.Tty.Edit.length → ∀ j, j < 1 → E5.cf (r4.2.Tty.Edit.getD i E5.z) j = E5.cf (r4.2.Tty.Edit.getD i E5.z) j, (r4.2.Lost : Int) = r4.2.Lost, (r4.2.Taken : Int) = r4.2.Taken, E5.cR r4.2.Device = E5.cR r4.2.Device, AllPv (E5.cR r4.2.Device), E5.cR r4.2.Fetched = E5.cR r4.2.Fetched, AllPv (E5.cR r4.2.Fetched), E46.cR r4.1 = E46.cR r4.1, AllPv (E46.cR r4.1), E9.cR ([] : List ByteArray) = []]) (by kernel_rfl) ⟨rfl, rfl, fun _ _ _ _ => rfl, rfl, rfl, (by first | rfl | simp), rfl, rfl, rfl, (by first | rfl | simp), rfl, rfl, rfl, rfl, rfl, fun _ _ _ _ => rfl, rfl, fun _ _ _ _ => rfl, rfl, rfl, rfl, (Elem.cR_pv _ _), rfl, (Elem.cR_pv _ _), rfl, (Elem.cR_pv _ _), rfl, trivial⟩
  ·clear h; rintro ⟨n1, l6, k7⟩ h p1 hp1
   obtain _ | n1 := n1
   ·cases (show (none : Option ((List ByteArray) × Int)) = some r from h)
   have h : bench_Tell_l1 r1 r4 (n1 + 1) l6 k7 = some r := h
   unfold bench_Tell_l1 at h
   refine sg (S := .br (decide ((((k7 : Nat) : Int) : Int) < ((r4.1.length : Nat) : Int))) (.and (0 ≤ (((k7 : Nat) : Int) : Int) ∧ ((k7 : Nat) : Int) < ((r4.1.length : Nat) : Int)) (.leaf 0)) (.leaf 1)) ?_
   refine br_ h ?_ ?_ <;> clear h <;> intro c8 h
   ·refine sk_and ⟨Int.natCast_nonneg _, of_decide_eq_true c8⟩ ?_
    refine sk_leaf ?_
    refine lda_ok (d := 36) (id := 3) (i := (0 + k7)) (e := 46) (n := 2) E46 (xs := r4.1) (by kernel_rfl) (by kernel_rfl) (by first | omega | (simp at * <;> omega) | (simp_all <;> omega)) rfl ?_
    refine sg (S := .br (((r4.1.getD (0 + k7) (⟨0, []⟩ : Api_KernAns)).Err : Int) != 0) (.leaf 0) (.and (0 ≤ (((k7 : Nat) : Int) : Int) ∧ ((k7 : Nat) : Int) < ((r1.1.length : Nat) : Int)) (.and (((Y87 r1.1 k7) = true → ((Y87 r1.1 k7) = true))) (.and (((Y87 r1.1 k7) = true → ((Y87 r1.1 k7) = true))) (.and ((Y87 r1.1 k7) = true → (Y87 r1.1 k7) = true) (.br ((((r1.1.getD k7 (⟨0, 0, 0, 0⟩ : Api_KernOp)).Kind : Int) == 3) && (((r4.1.getD (0 + k7) (⟨0, []⟩ : Api_KernAns)).Err : Int) == 0)) (.leaf 1) (.leaf 2))))))) ?_
    refine br_ h ?_ ?_ <;> clear h <;> intro c10 h
    ·refine sk_leaf ?_
     obtain ⟨r11, e12, h⟩ := bd_ h
     refine call_ok (d := some 42) (fn := 12) (ax := [.pv (.raw (.int .i64 ((r4.1.getD (0 + k7) (⟨0, []⟩ : Api_KernAns)).Err)))]) (ps := [((r4.1.getD (0 + k7) (⟨0, []⟩ : Api_KernAns)).Err : Int) = ((r4.1.getD (0 + k7) (⟨0, []⟩ : Api_KernAns)).Err)]) (hb' := []) (by kernel_rfl) (bn_itoa_ok _ _ e12 (al := true)) (by kernel_rfl) ⟨(by first | rfl | (simp; done) | omega | (simp <;> omega)), trivial⟩ (fun _ => (by kernel_rfl)) (by simp) rfl (by kernel_rfl) ?_
     refine sg (S := .and ((bytesOf [101, 114, 114, 111, 114, 32]).size + r11.size ≤ 9223372036854775807) (.and (0 ≤ (((k7 : Nat) : Int) : Int) ∧ ((k7 : Nat) : Int) < ((r1.1.length : Nat) : Int)) (.and (((Y87 r1.1 k7) = true → ((Y87 r1.1 k7) = true))) (.and (((Y87 r1.1 k7) = true → ((Y87 r1.1 k7) = true))) (.and ((Y87 r1.1 k7) = true → (Y87 r1.1 k7) = true) (.br ((((r1.1.getD k7 (⟨0, 0, 0, 0⟩ : Api_KernOp)).Kind : Int) == 3) && (((r4.1.getD (0 + k7) (⟨0, []⟩ : Api_KernAns)).Err : Int) == 0)) (.leaf 0) (.leaf 1))))))) ?_
     refine gd_ h ?_; clear h; intro g13 h
     refine gd_ h ?_; clear h; intro g14 h
     refine sk_and (fun h => h) ?_
     refine sk_and (fun h => h) ?_
     refine sk_and (fun h => h) ?_
     refine br_ h ?_ ?_ <;> clear h <;> intro c18 h
     ·refine sk_leaf ?_
      obtain ⟨r19, e20, h⟩ := bd_ h
      refine call_ok (d := some 58) (fn := 13) (ax := [.pv ((E5.ro ((r4.1.getD (0 + k7) (⟨0, []⟩ : Api_KernAns)).Data)))]) (ps := (Y112 r4.1 k7)) (hb' := []) (by kernel_rfl) (bn_hex_ok _ _ e20 (al := true)) (by kernel_rfl) ⟨(by first | rfl | simp_all), (by intros; first | rfl | simp_all), trivial⟩ (fun _ => (by kernel_rfl)) (by simp) rfl (by kernel_rfl) ?_
      refine sg (S := .and ((bytesOf [32]).size + r19.size ≤ 9223372036854775807) (.and (((bytesOf [101, 114, 114, 111, 114, 32]) ++ r11).size + ((bytesOf [32]) ++ r19).size ≤ 9223372036854775807) (.leaf 0))) ?_
      refine gd_ h ?_; clear h; intro g21 h
      refine gd_ h ?_; clear h; intro g22 h
      refine sk_leaf ?_
      refine bs_ok (d := 63) (e := 9) (s := 1) (n := 1) (cs := [.pv (.raw (.string (((bytesOf [101, 114, 114, 111, 114, 32]) ++ r11) ++ ((bytesOf [32]) ++ r19))))]) (cs' := E9.cR [(((bytesOf [101, 114, 114, 111, 114, 32]) ++ r11) ++ ((bytesOf [32]) ++ r19))]) (by kernel_rfl) rfl (by kernel_rfl) ?_
      refine s0 ?_
      obtain ⟨g23, h⟩ := if_ h
      refine app_ok (d := 64) (e := 9) (s := 1) (b := 16) (x := .row 4 1 0 l6.length) (y := .row 20416 1 0 1) E9 (xs := l6) (ys := [(((bytesOf [101, 114, 114, 111, 114, 32]) ++ r11) ++ ((bytesOf [32]) ++ r19))]) (by kernel_rfl) rfl (.row 4 l6 l6.length rfl (by kernel_rfl)) (.all 20416 9 [(((bytesOf [101, 114, 114, 111, 114, 32]) ++ r11) ++ ((bytesOf [32]) ++ r19))] 1 rfl (by kernel_rfl)) g23 (by kernel_rfl) ?_
      refine s0 ?_
      refine back_ok (p := p1) (by kernel_rfl) (hp1 (n1, (l6 ++ [(((bytesOf [101, 114, 114, 111, 114, 32]) ++ r11) ++ ((bytesOf [32]) ++ r19))]), k7 + 1) _ h (Nat.lt_succ_self n1) ?_)
      exact sub_ok (ρ := (rI 0 0 4 ++ ([(4, some 20480)]))) (l := [(0 : Int) = 0, r1.1.length = r1.1.length, ∀ i, i < r1.1.length → ∀ j, j < 4 → E49.cf (r1.1.getD i E49.z) j = E49.cf (r1.1.getD i E49.z) j, 0 = 0, 0 = 0, ((l6 ++ [(((bytesOf [101, 114, 114, 111, 114, 32]) ++ r11) ++ ((bytesOf [32]) ++ r19))]).length) = ((l6 ++ [(((bytesOf [101, 114, 114, 111, 114, 32]) ++ r11) ++ ((bytesOf [32]) ++ r19))]).length), 0 = 0, r4.1.length = r4.1.length, (((r4.1.length : Nat) : Int) : Int) = ((r4.1.length : Nat) : Int), ((IntKind.i64.wrap (((k7 : Nat) : Int) + 1)) : Int) = (((k7 + 1) : Nat) : Int), 0 = 0, r4.2.Device.length = r4.2.Device.length, 0 = 0, r4.2.Fetched.length = r4.2.Fetched.length, r4.2.Tty.Lines.length = r4.2.Tty.Lines.length, ∀ i, i < r4.2.Tty.Lines.length → ∀ j, j < 1 → E37.cf (r4.2.Tty.Lines.getD i E37.z) j = E37.cf (r4.2.Tty.Lines.getD i E37.z) j, r4.2.Tty.Edit.length = r4.2.Tty.Edit.length, ∀ i, i < r4.2.Tty.Edit.length → ∀ j, j < 1 → E5.cf (r4.2.Tty.Edit.getD i E5.z) j = E5.cf (r4.2.Tty.Edit.getD i E5.z) j, (r4.2.Lost : Int) = r4.2.Lost, (r4.2.Taken : Int) = r4.2.Taken, E5.cR r4.2.Device = E5.cR r4.2.Device, AllPv (E5.cR r4.2.Device), E5.cR r4.2.Fetched = E5.cR r4.2.Fetched, AllPv (E5.cR r4.2.Fetched), E46.cR r4.1 = E46.cR r4.1, AllPv (E46.cR r4.1), E9.cR (l6 ++ [(((bytesOf [101, 114, 114, 111, 114, 32]) ++ r11) ++ ((bytesOf [32]) ++ r19))]) = E9.cR (l6 ++ [(((bytesOf [101, 114, 114, 111, 114, 32]) ++ r11) ++ ((bytesOf [32]) ++ r19))]), AllPv (E9.cR (l6 ++ [(((bytesOf [101, 114, 114, 111, 114, 32]) ++ r11) ++ ((bytesOf [32]) ++ r19))]))]) (by kernel_rfl) ⟨rfl, rfl, fun _ _ _ _ => rfl, rfl, rfl, rfl, rfl, rfl, rfl, (wrap_nat (Int.ofNat_lt.1 (of_decide_eq_true c8)) (by omega)), rfl, rfl, rfl, rfl, rfl, fun _ _ _ _ => rfl, rfl, fun _ _ _ _ => rfl, rfl, rfl, rfl, (Elem.cR_pv _ _), rfl, (Elem.cR_pv _ _), rfl, (Elem.cR_pv _ _), rfl, (Elem.cR_pv _ _), trivial⟩
     ·refine sk_leaf ?_
      refine bs_ok (d := 63) (e := 9) (s := 1) (n := 1) (cs := [.pv (.raw (.string ((bytesOf [101, 114, 114, 111, 114, 32]) ++ r11)))]) (cs' := E9.cR [((bytesOf [101, 114, 114, 111, 114, 32]) ++ r11)]) (by kernel_rfl) rfl (by kernel_rfl) ?_
      refine s0 ?_
      obtain ⟨g24, h⟩ := if_ h
      refine app_ok (d := 64) (e := 9) (s := 1) (b := 16) (x := .row 4 1 0 l6.length) (y := .row 20416 1 0 1) E9 (xs := l6) (ys := [((bytesOf [101, 114, 114, 111, 114, 32]) ++ r11)]) (by kernel_rfl) rfl (.row 4 l6 l6.length rfl (by kernel_rfl)) (.all 20416 9 [((bytesOf [101, 114, 114, 111, 114, 32]) ++ r11)] 1 rfl (by kernel_rfl)) g24 (by kernel_rfl) ?_
      refine s0 ?_
      refine back_ok (p := p1) (by kernel_rfl) (hp1 (n1, (l6 ++ [((bytesOf [101, 114, 114, 111, 114, 32]) ++ r11)]), k7 + 1) _ h (Nat.lt_succ_self n1) ?_)
      exact sub_ok (ρ := (rI 0 0 4 ++ ([(4, some 20480)]))) (l := [(0 : Int) = 0, r1.1.length = r1.1.length, ∀ i, i < r1.1.length → ∀ j, j < 4 → E49.cf (r1.1.getD i E49.z) j = E49.cf (r1.1.getD i E49.z) j, 0 = 0, 0 = 0, ((l6 ++ [((bytesOf [101, 114, 114, 111, 114, 32]) ++ r11)]).length) = ((l6 ++ [((bytesOf [101, 114, 114, 111, 114, 32]) ++ r11)]).length), 0 = 0, r4.1.length = r4.1.length, (((r4.1.length : Nat) : Int) : Int) = ((r4.1.length : Nat) : Int), ((IntKind.i64.wrap (((k7 : Nat) : Int) + 1)) : Int) = (((k7 + 1) : Nat) : Int), 0 = 0, r4.2.Device.length = r4.2.Device.length, 0 = 0, r4.2.Fetched.length = r4.2.Fetched.length, r4.2.Tty.Lines.length = r4.2.Tty.Lines.length, ∀ i, i < r4.2.Tty.Lines.length → ∀ j, j < 1 → E37.cf (r4.2.Tty.Lines.getD i E37.z) j = E37.cf (r4.2.Tty.Lines.getD i E37.z) j, r4.2.Tty.Edit.length = r4.2.Tty.Edit.length, ∀ i, i < r4.2.Tty.Edit.length → ∀ j, j < 1 → E5.cf (r4.2.Tty.Edit.getD i E5.z) j = E5.cf (r4.2.Tty.Edit.getD i E5.z) j, (r4.2.Lost : Int) = r4.2.Lost, (r4.2.Taken : Int) = r4.2.Taken, E5.cR r4.2.Device = E5.cR r4.2.Device, AllPv (E5.cR r4.2.Device), E5.cR r4.2.Fetched = E5.cR r4.2.Fetched, AllPv (E5.cR r4.2.Fetched), E46.cR r4.1 = E46.cR r4.1, AllPv (E46.cR r4.1), E9.cR (l6 ++ [((bytesOf [101, 114, 114, 111, 114, 32]) ++ r11)]) = E9.cR (l6 ++ [((bytesOf [101, 114, 114, 111, 114, 32]) ++ r11)]), AllPv (E9.cR (l6 ++ [((bytesOf [101, 114, 114, 111, 114, 32]) ++ r11)]))]) (by kernel_rfl) ⟨rfl, rfl, fun _ _ _ _ => rfl, rfl, rfl, rfl, rfl, rfl, rfl, (wrap_nat (Int.ofNat_lt.1 (of_decide_eq_true c8)) (by omega)), rfl, rfl, rfl, rfl, rfl, fun _ _ _ _ => rfl, rfl, fun _ _ _ _ => rfl, rfl, rfl, rfl, (Elem.cR_pv _ _), rfl, (Elem.cR_pv _ _), rfl, (Elem.cR_pv _ _), rfl, (Elem.cR_pv _ _), trivial⟩
    ·refine gd_ h ?_; clear h; intro g25 h
     refine sk_and (fun h => h) ?_
     refine sk_and (fun h => h) ?_
     refine sk_and (fun h => h) ?_
     refine br_ h ?_ ?_ <;> clear h <;> intro c29 h
     ·refine sk_leaf ?_
      obtain ⟨r30, e31, h⟩ := bd_ h
      refine call_ok (d := some 58) (fn := 13) (ax := [.pv ((E5.ro ((r4.1.getD (0 + k7) (⟨0, []⟩ : Api_KernAns)).Data)))]) (ps := (Y112 r4.1 k7)) (hb' := []) (by kernel_rfl) (bn_hex_ok _ _ e31 (al := true)) (by kernel_rfl) ⟨(by first | rfl | simp_all), (by intros; first | rfl | simp_all), trivial⟩ (fun _ => (by kernel_rfl)) (by simp) rfl (by kernel_rfl) ?_
      refine sg (S := .and ((bytesOf [32]).size + r30.size ≤ 9223372036854775807) (.and ((bytesOf [111, 107]).size + ((bytesOf [32]) ++ r30).size ≤ 9223372036854775807) (.leaf 0))) ?_
      refine gd_ h ?_; clear h; intro g32 h
      refine gd_ h ?_; clear h; intro g33 h
      refine sk_leaf ?_
      refine bs_ok (d := 63) (e := 9) (s := 1) (n := 1) (cs := [.pv (.raw (.string ((bytesOf [111, 107]) ++ ((bytesOf [32]) ++ r30))))]) (cs' := E9.cR [((bytesOf [111, 107]) ++ ((bytesOf [32]) ++ r30))]) (by kernel_rfl) rfl (by kernel_rfl) ?_
      refine s0 ?_
      obtain ⟨g34, h⟩ := if_ h
      refine app_ok (d := 64) (e := 9) (s := 1) (b := 16) (x := .row 4 1 0 l6.length) (y := .row 20416 1 0 1) E9 (xs := l6) (ys := [((bytesOf [111, 107]) ++ ((bytesOf [32]) ++ r30))]) (by kernel_rfl) rfl (.row 4 l6 l6.length rfl (by kernel_rfl)) (.all 20416 9 [((bytesOf [111, 107]) ++ ((bytesOf [32]) ++ r30))] 1 rfl (by kernel_rfl)) g34 (by kernel_rfl) ?_
      refine s0 ?_
      refine back_ok (p := p1) (by kernel_rfl) (hp1 (n1, (l6 ++ [((bytesOf [111, 107]) ++ ((bytesOf [32]) ++ r30))]), k7 + 1) _ h (Nat.lt_succ_self n1) ?_)
      exact sub_ok (ρ := (rI 0 0 4 ++ ([(4, some 20480)]))) (l := [(0 : Int) = 0, r1.1.length = r1.1.length, ∀ i, i < r1.1.length → ∀ j, j < 4 → E49.cf (r1.1.getD i E49.z) j = E49.cf (r1.1.getD i E49.z) j, 0 = 0, 0 = 0, ((l6 ++ [((bytesOf [111, 107]) ++ ((bytesOf [32]) ++ r30))]).length) = ((l6 ++ [((bytesOf [111, 107]) ++ ((bytesOf [32]) ++ r30))]).length), 0 = 0, r4.1.length = r4.1.length, (((r4.1.length : Nat) : Int) : Int) = ((r4.1.length : Nat) : Int), ((IntKind.i64.wrap (((k7 : Nat) : Int) + 1)) : Int) = (((k7 + 1) : Nat) : Int), 0 = 0, r4.2.Device.length = r4.2.Device.length, 0 = 0, r4.2.Fetched.length = r4.2.Fetched.length, r4.2.Tty.Lines.length = r4.2.Tty.Lines.length, ∀ i, i < r4.2.Tty.Lines.length → ∀ j, j < 1 → E37.cf (r4.2.Tty.Lines.getD i E37.z) j = E37.cf (r4.2.Tty.Lines.getD i E37.z) j, r4.2.Tty.Edit.length = r4.2.Tty.Edit.length, ∀ i, i < r4.2.Tty.Edit.length → ∀ j, j < 1 → E5.cf (r4.2.Tty.Edit.getD i E5.z) j = E5.cf (r4.2.Tty.Edit.getD i E5.z) j, (r4.2.Lost : Int) = r4.2.Lost, (r4.2.Taken : Int) = r4.2.Taken, E5.cR r4.2.Device = E5.cR r4.2.Device, AllPv (E5.cR r4.2.Device), E5.cR r4.2.Fetched = E5.cR r4.2.Fetched, AllPv (E5.cR r4.2.Fetched), E46.cR r4.1 = E46.cR r4.1, AllPv (E46.cR r4.1), E9.cR (l6 ++ [((bytesOf [111, 107]) ++ ((bytesOf [32]) ++ r30))]) = E9.cR (l6 ++ [((bytesOf [111, 107]) ++ ((bytesOf [32]) ++ r30))]), AllPv (E9.cR (l6 ++ [((bytesOf [111, 107]) ++ ((bytesOf [32]) ++ r30))]))]) (by kernel_rfl) ⟨rfl, rfl, fun _ _ _ _ => rfl, rfl, rfl, rfl, rfl, rfl, rfl, (wrap_nat (Int.ofNat_lt.1 (of_decide_eq_true c8)) (by omega)), rfl, rfl, rfl, rfl, rfl, fun _ _ _ _ => rfl, rfl, fun _ _ _ _ => rfl, rfl, rfl, rfl, (Elem.cR_pv _ _), rfl, (Elem.cR_pv _ _), rfl, (Elem.cR_pv _ _), rfl, (Elem.cR_pv _ _), trivial⟩
     ·refine sk_leaf ?_
      refine bs_ok (d := 63) (e := 9) (s := 1) (n := 1) (cs := [.pv (.raw (.string (bytesOf [111, 107])))]) (cs' := E9.cR [(bytesOf [111, 107])]) (by kernel_rfl) rfl (by kernel_rfl) ?_
      refine s0 ?_
      obtain ⟨g35, h⟩ := if_ h
      refine app_ok (d := 64) (e := 9) (s := 1) (b := 16) (x := .row 4 1 0 l6.length) (y := .row 20416 1 0 1) E9 (xs := l6) (ys := [(bytesOf [111, 107])]) (by kernel_rfl) rfl (.row 4 l6 l6.length rfl (by kernel_rfl)) (.all 20416 9 [(bytesOf [111, 107])] 1 rfl (by kernel_rfl)) g35 (by kernel_rfl) ?_
      refine s0 ?_
      refine back_ok (p := p1) (by kernel_rfl) (hp1 (n1, (l6 ++ [(bytesOf [111, 107])]), k7 + 1) _ h (Nat.lt_succ_self n1) ?_)
      exact sub_ok (ρ := (rI 0 0 4 ++ ([(4, some 20480)]))) (l := [(0 : Int) = 0, r1.1.length = r1.1.length, ∀ i, i < r1.1.length → ∀ j, j < 4 → E49.cf (r1.1.getD i E49.z) j = E49.cf (r1.1.getD i E49.z) j, 0 = 0, 0 = 0, ((l6 ++ [(bytesOf [111, 107])]).length) = ((l6 ++ [(bytesOf [111, 107])]).length), 0 = 0, r4.1.length = r4.1.length, (((r4.1.length : Nat) : Int) : Int) = ((r4.1.length : Nat) : Int), ((IntKind.i64.wrap (((k7 : Nat) : Int) + 1)) : Int) = (((k7 + 1) : Nat) : Int), 0 = 0, r4.2.Device.length = r4.2.Device.length, 0 = 0, r4.2.Fetched.length = r4.2.Fetched.length, r4.2.Tty.Lines.length = r4.2.Tty.Lines.length, ∀ i, i < r4.2.Tty.Lines.length → ∀ j, j < 1 → E37.cf (r4.2.Tty.Lines.getD i E37.z) j = E37.cf (r4.2.Tty.Lines.getD i E37.z) j, r4.2.Tty.Edit.length = r4.2.Tty.Edit.length, ∀ i, i < r4.2.Tty.Edit.length → ∀ j, j < 1 → E5.cf (r4.2.Tty.Edit.getD i E5.z) j = E5.cf (r4.2.Tty.Edit.getD i E5.z) j, (r4.2.Lost : Int) = r4.2.Lost, (r4.2.Taken : Int) = r4.2.Taken, E5.cR r4.2.Device = E5.cR r4.2.Device, AllPv (E5.cR r4.2.Device), E5.cR r4.2.Fetched = E5.cR r4.2.Fetched, AllPv (E5.cR r4.2.Fetched), E46.cR r4.1 = E46.cR r4.1, AllPv (E46.cR r4.1), E9.cR (l6 ++ [(bytesOf [111, 107])]) = E9.cR (l6 ++ [(bytesOf [111, 107])]), AllPv (E9.cR (l6 ++ [(bytesOf [111, 107])]))]) (by kernel_rfl) ⟨rfl, rfl, fun _ _ _ _ => rfl, rfl, rfl, rfl, rfl, rfl, rfl, (wrap_nat (Int.ofNat_lt.1 (of_decide_eq_true c8)) (by omega)), rfl, rfl, rfl, rfl, rfl, fun _ _ _ _ => rfl, rfl, fun _ _ _ _ => rfl, rfl, rfl, rfl, (Elem.cR_pv _ _), rfl, (Elem.cR_pv _ _), rfl, (Elem.cR_pv _ _), rfl, (Elem.cR_pv _ _), trivial⟩
   ·refine sk_leaf ?_
    refine bs_ok (d := 84) (e := 3) (s := 1) (n := 6) (cs := [.pv (.raw (.int .i64 ((r4.2.Device.length : Nat) : Int))), .pv (.raw (.int .i64 ((r4.2.Fetched.length : Nat) : Int))), .pv (.raw (.int .i64 ((r4.2.Tty.Lines.length : Nat) : Int))), .pv (.raw (.int .i64 ((r4.2.Tty.Edit.length : Nat) : Int))), .pv (.raw (.int .i64 r4.2.Lost)), .pv (.raw (.int .i64 r4.2.Taken))]) (cs' := E3.cR [((r4.2.Device.length : Nat) : Int), ((r4.2.Fetched.length : Nat) : Int), ((r4.2.Tty.Lines.length : Nat) : Int), ((r4.2.Tty.Edit.length : Nat) : Int), r4.2.Lost, r4.2.Taken]) (by kernel_rfl) rfl (by kernel_rfl) ?_
    refine s0 ?_
    refine len_row (by kernel_rfl) 4 (e := 9) (s := 1) (n := l6.length) (cs := E9.cR l6) (by kernel_rfl) (Elem.cR_length _ _) ?_; intro hl2_0
    refine len_box (by kernel_rfl) 0 2 (cs := (Y81 r4.2 1 2)) (by kernel_rfl) (s := 1) (n := r4.2.Tty.Lines.length) (c := fun i j => E37.cf (r4.2.Tty.Lines.getD i E37.z) j) rfl ?_; intro hl2_1
    refine len_box (by kernel_rfl) 0 3 (cs := (Y81 r4.2 1 2)) (by kernel_rfl) (s := 1) (n := r4.2.Tty.Edit.length) (c := fun i j => E5.cf (r4.2.Tty.Edit.getD i E5.z) j) rfl ?_; intro hl2_2
    refine len_row (by kernel_rfl) 1 (e := 5) (s := 1) (n := r4.2.Device.length) (cs := E5.cR r4.2.Device) (by kernel_rfl) (Elem.cR_length _ _) ?_; intro hl2_3
    refine len_row (by kernel_rfl) 2 (e := 5) (s := 1) (n := r4.2.Fetched.length) (cs := E5.cR r4.2.Fetched) (by kernel_rfl) (Elem.cR_length _ _) ?_; intro hl2_4
    refine len_row (by kernel_rfl) 3 (e := 46) (s := 2) (n := r4.1.length) (cs := E46.cR r4.1) (by kernel_rfl) (Elem.cR_length _ _) ?_; intro hl2_5
    refine len_row (by kernel_rfl) 21760 (e := 3) (s := 1) (n := [((r4.2.Device.length : Nat) : Int), ((r4.2.Fetched.length : Nat) : Int), ((r4.2.Tty.Lines.length : Nat) : Int), ((r4.2.Tty.Edit.length : Nat) : Int), r4.2.Lost, r4.2.Taken].length) (cs := E3.cR [((r4.2.Device.length : Nat) : Int), ((r4.2.Fetched.length : Nat) : Int), ((r4.2.Tty.Lines.length : Nat) : Int), ((r4.2.Tty.Edit.length : Nat) : Int), r4.2.Lost, r4.2.Taken]) (by kernel_rfl) (Elem.cR_length _ _) ?_; intro hl2_6
    replace h : (fun (x : Nat × ByteArray × Nat) => bench_Tell_l2 r4 l6 x.1 x.2.1 x.2.2 = some r) (FUEL, (bytesOf [108, 101, 102, 116]), 0) := h
    refine loop_ok (by kernel_rfl) (X := Nat × ByteArray × Nat) (fun x => bench_Tell_l2 r4 l6 x.1 x.2.1 x.2.2 = some r) (fun x => x.1) (fun x => mk 100 [(2, .pv (.raw (.slice none 0 0))), (3, .pv (.raw (.int .i64 0))), (9, .row 0 1 0 l6.length), (13, .pv (.raw (.string x.2.1))), (84, .row 1 1 0 ([((r4.2.Device.length : Nat) : Int), ((r4.2.Fetched.length : Nat) : Int), ((r4.2.Tty.Lines.length : Nat) : Int), ((r4.2.Tty.Edit.length : Nat) : Int), r4.2.Lost, r4.2.Taken].length)), (85, .pv (.raw (.int .i64 ((6 : Nat) : Int)))), (86, .pv (.raw (.int .i64 ((x.2.2 : Nat) : Int))))] [(0, .row 9 1 (E9.cR l6)), (1, .row 3 1 (E3.cR [((r4.2.Device.length : Nat) : Int), ((r4.2.Fetched.length : Nat) : Int), ((r4.2.Tty.Lines.length : Nat) : Int), ((r4.2.Tty.Edit.length : Nat) : Int), r4.2.Lost, r4.2.Taken]))]) (FUEL, (bytesOf [108, 101, 102, 116]), 0) h ?_ ?_
    ·exact sub_ok (ρ := [(0, some 4), (1, some 21760)]) (l := [(0 : Int) = 0, 0 = 0, l6.length = l6.length, (bytesOf [108, 101, 102, 116]) = (bytesOf [108, 101, 102, 116]), 0 = 0, 6 = ([((r4.2.Device.length : Nat) : Int), ((r4.2.Fetched.length : Nat) : Int), ((r4.2.Tty.Lines.length : Nat) : Int), ((r4.2.Tty.Edit.length : Nat) : Int), r4.2.Lost, r4.2.Taken].length), (((6 : Nat) : Int) : Int) = ((6 : Nat) : Int), (0 : Int) = ((0 : Nat) : Int), E9.cR l6 = E9.cR l6, AllPv (E9.cR l6), E3.cR [((r4.2.Device.length : Nat) : Int), ((r4.2.Fetched.length : Nat) : Int), ((r4.2.Tty.Lines.length : Nat) : Int), ((r4.2.Tty.Edit.length : Nat) : Int), r4.2.Lost, r4.2.Taken] = E3.cR [((r4.2.Device.length : Nat) : Int), ((r4.2.Fetched.length : Nat) : Int), ((r4.2.Tty.Lines.length : Nat) : Int), ((r4.2.Tty.Edit.length : Nat) : Int), r4.2.Lost, r4.2.Taken], AllPv (E3.cR [((r4.2.Device.length : Nat) : Int), ((r4.2.Fetched.length : Nat) : Int), ((r4.2.Tty.Lines.length : Nat) : Int), ((r4.2.Tty.Edit.length : Nat) : Int), r4.2.Lost, r4.2.Taken])]) (by kernel_rfl) ⟨rfl, rfl, rfl, rfl, rfl, (by first | rfl | simp), rfl, (by first | rfl | simp), rfl, (Elem.cR_pv _ _), rfl, (Elem.cR_pv _ _), trivial⟩
    ·clear h; rintro ⟨n2, s36, k37⟩ h p2 hp2
     obtain _ | n2 := n2
     ·cases (show (none : Option ((List ByteArray) × Int)) = some r from h)
     have h : bench_Tell_l2 r4 l6 (n2 + 1) s36 k37 = some r := h
     unfold bench_Tell_l2 at h
     refine sg (S := .br (decide ((((k37 : Nat) : Int) : Int) < ((6 : Nat) : Int))) (.and (0 ≤ (((k37 : Nat) : Int) : Int) ∧ ((k37 : Nat) : Int) < (([((r4.2.Device.length : Nat) : Int), ((r4.2.Fetched.length : Nat) : Int), ((r4.2.Tty.Lines.length : Nat) : Int), ((r4.2.Tty.Edit.length : Nat) : Int), r4.2.Lost, r4.2.Taken].length : Nat) : Int)) (.leaf 0)) (.leaf 1)) ?_
     refine br_ h ?_ ?_ <;> clear h <;> intro c38 h
     ·refine gd_ h ?_; clear h; intro g39 h
      refine sk_leaf ?_
      refine ld_ok (d := 89) (id := 1) (i := (0 + k37)) (j := 0) (e := 3) (n := 1) E3 (xs := [((r4.2.Device.length : Nat) : Int), ((r4.2.Fetched.length : Nat) : Int), ((r4.2.Tty.Lines.length : Nat) : Int), ((r4.2.Tty.Edit.length : Nat) : Int), r4.2.Lost, r4.2.Taken]) (by kernel_rfl) (by kernel_rfl) (by first | omega | (simp at * <;> omega) | (simp_all <;> omega)) (by exact Nat.le_of_ble_eq_true rfl) ?_
      refine s0 ?_
      obtain ⟨r40, e41, h⟩ := bd_ h
      refine call_ok (d := some 92) (fn := 12) (ax := [.pv (.raw (.int .i64 ([((r4.2.Device.length : Nat) : Int), ((r4.2.Fetched.length : Nat) : Int), ((r4.2.Tty.Lines.length : Nat) : Int), ((r4.2.Tty.Edit.length : Nat) : Int), r4.2.Lost, r4.2.Taken].getD (0 + k37) 0)))]) (ps := [(([((r4.2.Device.length : Nat) : Int), ((r4.2.Fetched.length : Nat) : Int), ((r4.2.Tty.Lines.length : Nat) : Int), ((r4.2.Tty.Edit.length : Nat) : Int), r4.2.Lost, r4.2.Taken].getD (0 + k37) 0) : Int) = ([((r4.2.Device.length : Nat) : Int), ((r4.2.Fetched.length : Nat) : Int), ((r4.2.Tty.Lines.length : Nat) : Int), ((r4.2.Tty.Edit.length : Nat) : Int), r4.2.Lost, r4.2.Taken].getD (0 + k37) 0)]) (hb' := []) (by kernel_rfl) (bn_itoa_ok _ _ e41 (al := true)) (by kernel_rfl) ⟨rfl, trivial⟩ (fun _ => (by kernel_rfl)) (by simp) rfl (by kernel_rfl) ?_
      refine sg (S := .and ((bytesOf [32]).size + r40.size ≤ 9223372036854775807) (.and (s36.size + ((bytesOf [32]) ++ r40).size ≤ 9223372036854775807) (.leaf 0))) ?_
      refine gd_ h ?_; clear h; intro g42 h
      refine gd_ h ?_; clear h; intro g43 h
      refine sk_leaf ?_
      refine back_ok (p := p2) (by kernel_rfl) (hp2 (n2, (s36 ++ ((bytesOf [32]) ++ r40)), k37 + 1) _ h (Nat.lt_succ_self n2) ?_)
      exact sub_ok (ρ := [(0, some 0), (1, some 1)]) (l := [(0 : Int) = 0, 0 = 0, l6.length = l6.length, (s36 ++ ((bytesOf [32]) ++ r40)) = (s36 ++ ((bytesOf [32]) ++ r40)), 0 = 0, ([((r4.2.Device.length : Nat) : Int), ((r4.2.Fetched.length : Nat) : Int), ((r4.2.Tty.Lines.length : Nat) : Int), ((r4.2.Tty.Edit.length : Nat) : Int), r4.2.Lost, r4.2.Taken].length) = ([((r4.2.Device.length : Nat) : Int), ((r4.2.Fetched.length : Nat) : Int), ((r4.2.Tty.Lines.length : Nat) : Int), ((r4.2.Tty.Edit.length : Nat) : Int), r4.2.Lost, r4.2.Taken].length), (((6 : Nat) : Int) : Int) = ((6 : Nat) : Int), ((IntKind.i64.wrap (((k37 : Nat) : Int) + 1)) : Int) = (((k37 + 1) : Nat) : Int), E9.cR l6 = E9.cR l6, AllPv (E9.cR l6), E3.cR [((r4.2.Device.length : Nat) : Int), ((r4.2.Fetched.length : Nat) : Int), ((r4.2.Tty.Lines.length : Nat) : Int), ((r4.2.Tty.Edit.length : Nat) : Int), r4.2.Lost, r4.2.Taken] = E3.cR [((r4.2.Device.length : Nat) : Int), ((r4.2.Fetched.length : Nat) : Int), ((r4.2.Tty.Lines.length : Nat) : Int), ((r4.2.Tty.Edit.length : Nat) : Int), r4.2.Lost, r4.2.Taken], AllPv (E3.cR [((r4.2.Device.length : Nat) : Int), ((r4.2.Fetched.length : Nat) : Int), ((r4.2.Tty.Lines.length : Nat) : Int), ((r4.2.Tty.Edit.length : Nat) : Int), r4.2.Lost, r4.2.Taken])]) (by kernel_rfl) ⟨rfl, rfl, rfl, rfl, rfl, rfl, rfl, (wrap_nat (Int.ofNat_lt.1 (of_decide_eq_true c38)) (by omega)), rfl, (Elem.cR_pv _ _), rfl, (Elem.cR_pv _ _), trivial⟩
     ·refine sk_leaf ?_
      refine bs_ok (d := 98) (e := 9) (s := 1) (n := 1) (cs := [.pv (.raw (.string s36))]) (cs' := E9.cR [s36]) (by kernel_rfl) rfl (by kernel_rfl) ?_
      refine s0 ?_
      obtain ⟨g44, h⟩ := if_ h
      refine app_ok (d := 99) (e := 9) (s := 1) (b := 16) (x := .row 0 1 0 l6.length) (y := .row 22656 1 0 1) E9 (xs := l6) (ys := [s36]) (by kernel_rfl) rfl (.row 0 l6 l6.length rfl (by kernel_rfl)) (.all 22656 9 [s36] 1 rfl (by kernel_rfl)) g44 (by kernel_rfl) ?_
      refine s0 ?_
      obtain rfl := some_ h
      exact end_ok [(0, some 22720)] Tryz.results6 (ps := [0 = 0, ((l6 ++ [s36]).length) = (l6 ++ [s36]).length, (0 : Int) = 0, E9.cR (l6 ++ [s36]) = E9.cR (l6 ++ [s36]), AllPv (E9.cR (l6 ++ [s36]))]) (by kernel_rfl) ⟨rfl, rfl, rfl, rfl, (Elem.cR_pv _ _), trivial⟩ (fun _ => ⟨rfl, by simp only [List.mem_cons, List.not_mem_nil, or_false, forall_eq_or_imp, forall_eq]; exact Elem.cR_bald E9_raw _⟩)
theorem slices_Equal_string_ok (a0 : (List ByteArray)) (a1 : (List ByteArray)) (r : Bool) (h : slices_Equal_string a0 a1 = some r) {al : Bool} : PCalls Tryz.prog 8 [.pv ((E9.ro a0)), .pv ((E9.ro a1))] al (.pv (.raw (.bool r))) [] := by
 unfold slices_Equal_string at h
 refine fn_ok tabOk Tryz.func8 (by kernel_rfl) (by kernel_rfl) Tryz.ntmps8 (by simp) ?_
 refine sg (S := .br ((((a0.length : Nat) : Int) : Int) != ((a1.length : Nat) : Int)) (.leaf 0) (.leaf 1)) ?_
 refine br_ h ?_ ?_ <;> clear h <;> intro c1 h
 ·refine sk_leaf ?_
  obtain rfl := some_ h
  exact end_ok [] Tryz.results8 (ps := [false = false]) (by kernel_rfl) ⟨rfl, trivial⟩ (fun _ => ⟨rfl, by simp⟩)
 ·refine sk_leaf ?_
  refine len_ro (by kernel_rfl) 0 (s := 1) (n := a0.length) (c := fun i j => E9.cf (a0.getD i E9.z) j) (by kernel_rfl) ?_; intro hl1_0
  refine len_ro (by kernel_rfl) 1 (s := 1) (n := a1.length) (c := fun i j => E9.cf (a1.getD i E9.z) j) (by kernel_rfl) ?_; intro hl1_1
  replace h : (fun (x : Nat × Nat) => slices_Equal_string_l1 a0 a1 x.1 x.2 = some r) (FUEL, 0) := h
  refine loop_ok (by kernel_rfl) (X := Nat × Nat) (fun x => slices_Equal_string_l1 a0 a1 x.1 x.2 = some r) (fun x => x.1) (fun x => mk 26 [(0, .pv ((E9.ro a0))), (1, .pv ((E9.ro a1))), (4, .pv (.raw (.bool false))), (12, .pv (.raw (.int .i64 ((a0.length : Nat) : Int)))), (13, .pv (.raw (.int .i64 ((x.2 : Nat) : Int))))] []) (FUEL, 0) h ?_ ?_
  ·exact sub_ok (ρ := []) (l := [a0.length = a0.length, ∀ i, i < a0.length → ∀ j, j < 1 → E9.cf (a0.getD i E9.z) j = E9.cf (a0.getD i E9.z) j, a1.length = a1.length, ∀ i, i < a1.length → ∀ j, j < 1 → E9.cf (a1.getD i E9.z) j = E9.cf (a1.getD i E9.z) j, false = false, (((a0.length : Nat) : Int) : Int) = ((a0.length : Nat) : Int), (0 : Int) = ((0 : Nat) : Int)]) (by kernel_rfl) ⟨rfl, fun _ _ _ _ => rfl, rfl, fun _ _ _ _ => rfl, rfl, rfl, (by first | rfl | simp), trivial⟩
  ·clear h; rintro ⟨n1, k2⟩ h p1 hp1
   obtain _ | n1 := n1
   ·cases (show (none : Option (Bool)) = some r from h)
   have h : slices_Equal_string_l1 a0 a1 (n1 + 1) k2 = some r := h
   unfold slices_Equal_string_l1 at h
   refine sg (S := .br (decide ((((k2 : Nat) : Int) : Int) < ((a0.length : Nat) : Int))) (.and (0 ≤ (((k2 : Nat) : Int) : Int) ∧ ((k2 : Nat) : Int) < ((a0.length : Nat) : Int)) (.and (0 ≤ (((k2 : Nat) : Int) : Int) ∧ ((k2 : Nat) : Int) < ((a1.length : Nat) : Int)) (.br (!((a0.getD k2 ByteArray.empty).toList == (a1.getD k2 ByteArray.empty).toList)) (.leaf 0) (.leaf 1)))) (.leaf 2)) ?_
   refine br_ h ?_ ?_ <;> clear h <;> intro c3 h
   ·refine sk_and ⟨Int.natCast_nonneg _, of_decide_eq_true c3⟩ ?_
    refine gd_ h ?_; clear h; intro g5 h
    refine br_ h ?_ ?_ <;> clear h <;> intro c6 h
    ·refine sk_leaf ?_
     obtain rfl := some_ h
     exact end_ok [] Tryz.results8 (ps := [false = false]) (by kernel_rfl) ⟨rfl, trivial⟩ (fun _ => ⟨rfl, by simp⟩)
    ·refine sk_leaf ?_
     refine back_ok (p := p1) (by kernel_rfl) (hp1 (n1, k2 + 1) _ h (Nat.lt_succ_self n1) ?_)
     exact sub_ok (ρ := []) (l := [a0.length = a0.length, ∀ i, i < a0.length → ∀ j, j < 1 → E9.cf (a0.getD i E9.z) j = E9.cf (a0.getD i E9.z) j, a1.length = a1.length, ∀ i, i < a1.length → ∀ j, j < 1 → E9.cf (a1.getD i E9.z) j = E9.cf (a1.getD i E9.z) j, false = false, (((a0.length : Nat) : Int) : Int) = ((a0.length : Nat) : Int), ((IntKind.i64.wrap (((k2 : Nat) : Int) + 1)) : Int) = (((k2 + 1) : Nat) : Int)]) (by kernel_rfl) ⟨rfl, fun _ _ _ _ => rfl, rfl, fun _ _ _ _ => rfl, rfl, rfl, (wrap_nat (Int.ofNat_lt.1 (of_decide_eq_true c3)) (by omega)), trivial⟩
   ·refine sk_leaf ?_
    obtain rfl := some_ h
    exact end_ok [] Tryz.results8 (ps := [true = true]) (by kernel_rfl) ⟨rfl, trivial⟩ (fun _ => ⟨rfl, by simp⟩)
theorem keep_alive26_ok (r : Bool) (h : keep_alive26 = some r) {al : Bool} : PCalls Tryz.prog 5 [] al (.pv (.raw (.bool r))) [] := by
 unfold keep_alive26 at h
 refine fn_ok tabOk Tryz.func5 (by kernel_rfl) (by kernel_rfl) Tryz.ntmps5 (by simp) ?_
 refine s0 ?_
 obtain ⟨r1, e2, h⟩ := bd_ h
 refine call_ok (d := some 4) (fn := 6) (ax := [.pv (.raw (.string (bytesOf [105, 110, 32, 49, 48, 52, 10, 105, 110, 32, 52, 10, 114, 117, 110, 32, 48, 10, 114, 117, 110, 32, 48, 10, 114, 117, 110, 32, 48, 10, 114, 117, 110, 32, 48, 10, 114, 117, 110, 32, 49, 10, 114, 117, 110, 32, 49, 10, 114, 101, 97, 100, 32, 57, 10, 114, 117, 110, 32, 48, 10])))]) (ps := [(bytesOf [105, 110, 32, 49, 48, 52, 10, 105, 110, 32, 52, 10, 114, 117, 110, 32, 48, 10, 114, 117, 110, 32, 48, 10, 114, 117, 110, 32, 48, 10, 114, 117, 110, 32, 48, 10, 114, 117, 110, 32, 49, 10, 114, 117, 110, 32, 49, 10, 114, 101, 97, 100, 32, 57, 10, 114, 117, 110, 32, 48, 10]) = (bytesOf [105, 110, 32, 49, 48, 52, 10, 105, 110, 32, 52, 10, 114, 117, 110, 32, 48, 10, 114, 117, 110, 32, 48, 10, 114, 117, 110, 32, 48, 10, 114, 117, 110, 32, 48, 10, 114, 117, 110, 32, 49, 10, 114, 117, 110, 32, 49, 10, 114, 101, 97, 100, 32, 57, 10, 114, 117, 110, 32, 48, 10])]) (hb' := [.row 9 1 (E9.cR r1.1)]) (by kernel_rfl) (bench_Tell_ok _ _ e2 (al := true)) (by kernel_rfl) ⟨rfl, trivial⟩ (fun _ => (by kernel_rfl)) (by simp) (by simp only [List.map_cons, List.map_nil, Elem.row_up, up_map] <;> rfl) (by kernel_rfl) ?_
 refine sg (S := .and ((((r1.2 : Int) == 0) = true → (((r1.2 : Int) == 0) = true))) (.and ((((r1.2 : Int) == 0) = true → (((r1.2 : Int) == 0) = true))) (.and (((r1.2 : Int) == 0) = true → ((r1.2 : Int) == 0) = true) (.and (((((r1.2 : Int) == 0) && ((((r1.1.length : Nat) : Int) : Int) == 11)) = true → ((((r1.2 : Int) == 0) && ((((r1.1.length : Nat) : Int) : Int) == 11)) = true))) (.and (((((r1.2 : Int) == 0) && ((((r1.1.length : Nat) : Int) : Int) == 11)) = true → (0 ≤ (8 : Int)))) (.and (((((r1.2 : Int) == 0) && ((((r1.1.length : Nat) : Int) : Int) == 11)) = true → (8 ≤ r1.1.length))) (.leaf 0))))))) ?_
 refine sk_and (fun h => h) ?_
 refine sk_and (fun h => h) ?_
 refine sk_and (fun h => h) ?_
 refine sk_and (fun h => h) ?_
 refine sk_and (fun _ => by decide) ?_
 refine gd_ h ?_; clear h; intro g8 h
 refine sk_leaf ?_
 refine bsG_ok (d := 17) (e := 9) (s := 1) (n := 3) (g := (((r1.2 : Int) == 0) && ((((r1.1.length : Nat) : Int) : Int) == 11))) (ws := []) (cs := [.pv (.raw (.string (bytesOf [111, 107, 32, 54, 56]))), .pv (.raw (.string (bytesOf [101, 114, 114, 111, 114, 32, 55]))), .pv (.raw (.string (bytesOf [108, 101, 102, 116, 32, 48, 32, 48, 32, 48, 32, 48, 32, 48, 32, 49])))]) E9 [(bytesOf [111, 107, 32, 54, 56]), (bytesOf [101, 114, 114, 111, 114, 32, 55]), (bytesOf [108, 101, 102, 116, 32, 48, 32, 48, 32, 48, 32, 48, 32, 48, 32, 49])] (by kernel_rfl) (fun _ => trivial) rfl rfl rfl (by kernel_rfl) ?_
 refine s0 ?_
 obtain ⟨r9, e10, h⟩ := bd_ h
 refine callG_ok (d := some 18) (fn := 8) (ax := [.row 16640 1 (0 + 8) (r1.1.length - 8), .pv ((E9.ro [(bytesOf [111, 107, 32, 54, 56]), (bytesOf [101, 114, 114, 111, 114, 32, 55]), (bytesOf [108, 101, 102, 116, 32, 48, 32, 48, 32, 48, 32, 48, 32, 48, 32, 49])]))]) (args := [.pv ((E9.ro ((r1.1.drop (0 + 8)).take (r1.1.length - 8)))), .pv ((E9.ro [(bytesOf [111, 107, 32, 54, 56]), (bytesOf [101, 114, 114, 111, 114, 32, 55]), (bytesOf [108, 101, 102, 116, 32, 48, 32, 48, 32, 48, 32, 48, 32, 48, 32, 49])]))]) (g := (((r1.2 : Int) == 0) && ((((r1.1.length : Nat) : Int) : Int) == 11))) (ws := [(((r1.2 : Int) == 0) && ((((r1.1.length : Nat) : Int) : Int) == 11)) = true, (((r1.2 : Int) == 0) && ((((r1.1.length : Nat) : Int) : Int) == 11)) = true]) (ps := [(r1.1.length - 8) = ((r1.1.drop (0 + 8)).take (r1.1.length - 8)).length, rowQ (E9.cR r1.1) 1 (0 + 8) (r1.1.length - 8) (fun i j => E9.cf (((r1.1.drop (0 + 8)).take (r1.1.length - 8)).getD i E9.z) j), [(bytesOf [111, 107, 32, 54, 56]), (bytesOf [101, 114, 114, 111, 114, 32, 55]), (bytesOf [108, 101, 102, 116, 32, 48, 32, 48, 32, 48, 32, 48, 32, 48, 32, 49])].length = [(bytesOf [111, 107, 32, 54, 56]), (bytesOf [101, 114, 114, 111, 114, 32, 55]), (bytesOf [108, 101, 102, 116, 32, 48, 32, 48, 32, 48, 32, 48, 32, 48, 32, 49])].length, ∀ i, i < [(bytesOf [111, 107, 32, 54, 56]), (bytesOf [101, 114, 114, 111, 114, 32, 55]), (bytesOf [108, 101, 102, 116, 32, 48, 32, 48, 32, 48, 32, 48, 32, 48, 32, 49])].length → ∀ j, j < 1 → E9.cf ([(bytesOf [111, 107, 32, 54, 56]), (bytesOf [101, 114, 114, 111, 114, 32, 55]), (bytesOf [108, 101, 102, 116, 32, 48, 32, 48, 32, 48, 32, 48, 32, 48, 32, 49])].getD i E9.z) j = E9.cf ([(bytesOf [111, 107, 32, 54, 56]), (bytesOf [101, 114, 114, 111, 114, 32, 55]), (bytesOf [108, 101, 102, 116, 32, 48, 32, 48, 32, 48, 32, 48, 32, 48, 32, 49])].getD i E9.z) j]) (by kernel_rfl) (fun hg => ⟨((by decide : ∀ y0 : Bool, ((y0 = true) → (y0 = true))) (((r1.2 : Int) == 0) && ((((r1.1.length : Nat) : Int) : Int) == 11))) hg, ((by decide : ∀ y0 : Bool, ((y0 = true) → (y0 = true))) (((r1.2 : Int) == 0) && ((((r1.1.length : Nat) : Int) : Int) == 11))) hg, trivial⟩) (fun hg => slices_Equal_string_ok _ _ _ (by rw [hg] at e10; exact e10) (al := false)) (by kernel_rfl) (fun hg => (by have q0 := g8 hg; exact ⟨(by first | rfl | exact Elem.sub_len _ (by omega) | omega | simp | (simp <;> omega)), E9.rowQ_part r1.1 (0 + 8) (r1.1.length - 8) (by first | omega | (simp at * <;> omega) | (simp_all <;> omega)), rfl, fun _ _ _ _ => rfl, trivial⟩)) (fun hx => by cases hx) ?_
 refine sg (S := .and ((((r1.2 : Int) == 0) && ((((r1.1.length : Nat) : Int) : Int) == 11)) = true → (((r1.2 : Int) == 0) && ((((r1.1.length : Nat) : Int) : Int) == 11)) = true) (.leaf 0)) ?_
 refine sk_and (fun h => h) ?_
 refine sk_leaf ?_
 obtain rfl := some_ h
 exact end_ok [] Tryz.results5 (ps := [((((r1.2 : Int) == 0) && ((((r1.1.length : Nat) : Int) : Int) == 11)) && r9) = ((((r1.2 : Int) == 0) && ((((r1.1.length : Nat) : Int) : Int) == 11)) && r9)]) (by kernel_rfl) ⟨rfl, trivial⟩ (fun _ => ⟨rfl, by simp⟩)
theorem bn_count_ok (a0 a1 : ByteArray) (r : Int) (h : bn_count a0 a1 = some r) {al : Bool} : PCalls Tryz.prog 7 [.pv (.raw (.string a0)), .pv (.raw (.string a1))] al (.pv (.raw (.int .i64 r))) [] := by
 unfold bn_count at h
 obtain ⟨g, h⟩ := if_ h
 obtain rfl := some_ h
 exact Tryz.count_pcalls a0 a1 _ g
def Y61 (x0 : (List ByteArray)) (x1 : Int) : Bool := ((((x0.length : Nat) : Int) : Int) == (IntKind.i64.wrap (x1 + 1)))
def Y56 (x0 : (List ByteArray)) (x1 : Int) (x2 : (List ByteArray)) : Bool := (((((x0.length : Nat) : Int) : Int) == (IntKind.i64.wrap (x1 + 1))) && (decide ((((x2.length : Nat) : Int) : Int) ≥ ((x0.length : Nat) : Int))))
theorem keep_BenchMore_ok (a0 : ByteArray) (a1 : ByteArray) (r : Bool) (h : keep_BenchMore a0 a1 = some r) {al : Bool} : PCalls Tryz.prog 3 [.pv (.raw (.string a0)), .pv (.raw (.string a1))] al (.pv (.raw (.bool r))) [] := by
 unfold keep_BenchMore at h
 refine fn_ok tabOk Tryz.func3 (by kernel_rfl) (by kernel_rfl) Tryz.ntmps3 (by simp) ?_
 refine s0 ?_
 obtain ⟨r1, e2, h⟩ := bd_ h
 refine call_ok (d := some 10) (fn := 5) (ax := []) (args := []) (ps := []) (hb' := []) (by kernel_rfl) (keep_alive26_ok  _ e2 (al := true)) (by kernel_rfl) trivial (fun _ => (by kernel_rfl)) (by simp) rfl (by kernel_rfl) ?_
 refine sg (S := .br (!r1) (.leaf 0) (.leaf 1)) ?_
 refine br_ h ?_ ?_ <;> clear h <;> intro c3 h
 ·refine sk_leaf ?_
  obtain rfl := some_ h
  exact end_ok [] Tryz.results3 (ps := [false = false]) (by kernel_rfl) ⟨rfl, trivial⟩ (fun _ => ⟨rfl, by simp⟩)
 ·refine sk_leaf ?_
  obtain ⟨r4, e5, h⟩ := bd_ h
  refine call_ok (d := some 14) (fn := 6) (ax := [.pv (.raw (.string a0))]) (ps := [a0 = a0]) (hb' := [.row 9 1 (E9.cR r4.1)]) (by kernel_rfl) (bench_Tell_ok _ _ e5 (al := true)) (by kernel_rfl) ⟨rfl, trivial⟩ (fun _ => (by kernel_rfl)) (by simp) (by simp only [List.map_cons, List.map_nil, Elem.row_up, up_map] <;> rfl) (by kernel_rfl) ?_
  refine sg (S := .and (a0.size + a1.size ≤ 9223372036854775807) (.leaf 0)) ?_
  refine gd_ h ?_; clear h; intro g6 h
  refine sk_leaf ?_
  obtain ⟨r7, e8, h⟩ := bd_ h
  refine call_ok (d := some 21) (fn := 6) (ax := [.pv (.raw (.string (a0 ++ a1)))]) (ps := [(a0 ++ a1) = (a0 ++ a1)]) (hb' := [.row 9 1 (E9.cR r7.1)]) (by kernel_rfl) (bench_Tell_ok _ _ e8 (al := true)) (by kernel_rfl) ⟨rfl, trivial⟩ (fun _ => (by kernel_rfl)) (by simp) (by simp only [List.map_cons, List.map_nil, Elem.row_up, up_map] <;> rfl) (by kernel_rfl) ?_
  refine sg (S := .and (((!((r4.2 : Int) != 0)) = true → ((!((r4.2 : Int) != 0)) = true))) (.and (((r4.2 : Int) != 0) = false → (!((r4.2 : Int) != 0)) = true) (.br (((r4.2 : Int) != 0) || ((r7.2 : Int) != 0)) (.and (((!((r4.2 : Int) == 0)) = true → ((!((r4.2 : Int) == 0)) = true))) (.and (((!((r4.2 : Int) == 0)) = true → ((!((r4.2 : Int) == 0)) = true))) (.and (((r4.2 : Int) == 0) = false → (!((r4.2 : Int) == 0)) = true) (.leaf 0)))) (.leaf 1)))) ?_
  refine sk_and (fun h => h) ?_
  refine sk_and ((by decide : ∀ y0 : Bool, ((y0 = false) → ((!y0) = true))) ((r4.2 : Int) != 0)) ?_
  refine br_ h ?_ ?_ <;> clear h <;> intro c11 h
  ·refine sk_and (fun h => h) ?_
   refine sk_and (fun h => h) ?_
   refine sk_and ((by decide : ∀ y0 : Bool, ((y0 = false) → ((!y0) = true))) ((r4.2 : Int) == 0)) ?_
   refine sk_leaf ?_
   obtain rfl := some_ h
   exact end_ok [] Tryz.results3 (ps := [(((r4.2 : Int) == 0) || ((((r4.1.length : Nat) : Int) : Int) == 0)) = (((r4.2 : Int) == 0) || ((((r4.1.length : Nat) : Int) : Int) == 0))]) (by kernel_rfl) ⟨rfl, trivial⟩ (fun _ => ⟨rfl, by simp⟩)
  ·refine sk_leaf ?_
   obtain ⟨r15, e16, h⟩ := bd_ h
   refine call_ok (d := some 38) (fn := 7) (ax := [.pv (.raw (.string a0)), .pv (.raw (.string (bytesOf [10])))]) (ps := [a0 = a0, (bytesOf [10]) = (bytesOf [10])]) (hb' := []) (by kernel_rfl) (bn_count_ok _ _ _ e16 (al := true)) (by kernel_rfl) ⟨rfl, rfl, trivial⟩ (fun _ => (by kernel_rfl)) (by simp) rfl (by kernel_rfl) ?_
   refine sg (S := .and (((Y61 r4.1 r15) = true → ((Y61 r4.1 r15) = true))) (.and (((Y61 r4.1 r15) = true → ((Y61 r4.1 r15) = true))) (.and (((Y61 r4.1 r15) = true → ((Y61 r4.1 r15) = true))) (.and (((Y61 r4.1 r15) = true → ((Y61 r4.1 r15) = true))) (.and ((Y61 r4.1 r15) = true → (Y61 r4.1 r15) = true) (.and (((Y56 r4.1 r15 r7.1) = true → ((Y56 r4.1 r15 r7.1) = true))) (.and (((Y56 r4.1 r15 r7.1) = true → ((Y56 r4.1 r15 r7.1) = true))) (.and (((((((r4.1.length : Nat) : Int) : Int) == (IntKind.i64.wrap (r15 + 1))) && (decide ((((r7.1.length : Nat) : Int) : Int) ≥ ((r4.1.length : Nat) : Int)))) = true → (0 ≤ (r15 : Int)))) (.and (((((((r4.1.length : Nat) : Int) : Int) == (IntKind.i64.wrap (r15 + 1))) && (decide ((((r7.1.length : Nat) : Int) : Int) ≥ ((r4.1.length : Nat) : Int)))) = true → ((Int.toNat r15) ≤ r4.1.length))) (.and (((Y56 r4.1 r15 r7.1) = true → ((Y56 r4.1 r15 r7.1) = true))) (.and (((Y56 r4.1 r15 r7.1) = true → ((Y56 r4.1 r15 r7.1) = true))) (.and (((((((r4.1.length : Nat) : Int) : Int) == (IntKind.i64.wrap (r15 + 1))) && (decide ((((r7.1.length : Nat) : Int) : Int) ≥ ((r4.1.length : Nat) : Int)))) = true → (0 ≤ (r15 : Int)))) (.and (((((((r4.1.length : Nat) : Int) : Int) == (IntKind.i64.wrap (r15 + 1))) && (decide ((((r7.1.length : Nat) : Int) : Int) ≥ ((r4.1.length : Nat) : Int)))) = true → ((Int.toNat r15) ≤ r7.1.length))) (.leaf 0)))))))))))))) ?_
   refine sk_and (fun h => h) ?_
   refine sk_and (fun h => h) ?_
   refine sk_and (fun h => h) ?_
   refine sk_and (fun h => h) ?_
   refine sk_and (fun h => h) ?_
   refine sk_and (fun h => h) ?_
   refine sk_and (fun h => h) ?_
   refine gd_ h ?_; clear h; intro g24 h
   refine gd_ h ?_; clear h; intro g25 h
   refine sk_and (fun h => h) ?_
   refine sk_and (fun h => h) ?_
   refine gd_ h ?_; clear h; intro g28 h
   refine gd_ h ?_; clear h; intro g29 h
   refine sk_leaf ?_
   obtain ⟨r30, e31, h⟩ := bd_ h
   refine callG_ok (d := some 58) (fn := 8) (ax := [.row 17280 1 (0 + 0) ((Int.toNat r15) - 0), .row 17728 1 (0 + 0) ((Int.toNat r15) - 0)]) (args := [.pv ((E9.ro ((r4.1.drop (0 + 0)).take ((Int.toNat r15) - 0)))), .pv ((E9.ro ((r7.1.drop (0 + 0)).take ((Int.toNat r15) - 0))))]) (g := (((((r4.1.length : Nat) : Int) : Int) == (IntKind.i64.wrap (r15 + 1))) && (decide ((((r7.1.length : Nat) : Int) : Int) ≥ ((r4.1.length : Nat) : Int))))) (ws := [(((((r4.1.length : Nat) : Int) : Int) == (IntKind.i64.wrap (r15 + 1))) && (decide ((((r7.1.length : Nat) : Int) : Int) ≥ ((r4.1.length : Nat) : Int)))) = true, (((((r4.1.length : Nat) : Int) : Int) == (IntKind.i64.wrap (r15 + 1))) && (decide ((((r7.1.length : Nat) : Int) : Int) ≥ ((r4.1.length : Nat) : Int)))) = true]) (ps := [((Int.toNat r15) - 0) = ((r4.1.drop (0 + 0)).take ((Int.toNat r15) - 0)).length, rowQ (E9.cR r4.1) 1 (0 + 0) ((Int.toNat r15) - 0) (fun i j => E9.cf (((r4.1.drop (0 + 0)).take ((Int.toNat r15) - 0)).getD i E9.z) j), ((Int.toNat r15) - 0) = ((r7.1.drop (0 + 0)).take ((Int.toNat r15) - 0)).length, rowQ (E9.cR r7.1) 1 (0 + 0) ((Int.toNat r15) - 0) (fun i j => E9.cf (((r7.1.drop (0 + 0)).take ((Int.toNat r15) - 0)).getD i E9.z) j)]) (by kernel_rfl) (fun hg => ⟨((by decide : ∀ y0 : Bool, ((y0 = true) → (y0 = true))) (((((r4.1.length : Nat) : Int) : Int) == (IntKind.i64.wrap (r15 + 1))) && (decide ((((r7.1.length : Nat) : Int) : Int) ≥ ((r4.1.length : Nat) : Int))))) hg, ((by decide : ∀ y0 : Bool, ((y0 = true) → (y0 = true))) (((((r4.1.length : Nat) : Int) : Int) == (IntKind.i64.wrap (r15 + 1))) && (decide ((((r7.1.length : Nat) : Int) : Int) ≥ ((r4.1.length : Nat) : Int))))) hg, trivial⟩) (fun hg => slices_Equal_string_ok _ _ _ (by rw [hg] at e31; exact e31) (al := false)) (by kernel_rfl) (fun hg => (by have q0 := g24 hg; have q1 := g25 hg; have q2 := g28 hg; have q3 := g29 hg; exact ⟨(by first | rfl | exact Elem.sub_len _ (by omega) | omega | simp | (simp <;> omega)), E9.rowQ_part r4.1 (0 + 0) ((Int.toNat r15) - 0) (by first | omega | (simp at * <;> omega) | (simp_all <;> omega)), (by first | rfl | exact Elem.sub_len _ (by omega) | omega | simp | (simp <;> omega)), E9.rowQ_part r7.1 (0 + 0) ((Int.toNat r15) - 0) (by first | omega | (simp at * <;> omega) | (simp_all <;> omega)), trivial⟩)) (fun hx => by cases hx) ?_
   refine sg (S := .and ((Y56 r4.1 r15 r7.1) = true → (Y56 r4.1 r15 r7.1) = true) (.leaf 0)) ?_
   refine sk_and (fun h => h) ?_
   refine sk_leaf ?_
   obtain rfl := some_ h
   exact end_ok [] Tryz.results3 (ps := [((((((r4.1.length : Nat) : Int) : Int) == (IntKind.i64.wrap (r15 + 1))) && (decide ((((r7.1.length : Nat) : Int) : Int) ≥ ((r4.1.length : Nat) : Int)))) && r30) = ((((((r4.1.length : Nat) : Int) : Int) == (IntKind.i64.wrap (r15 + 1))) && (decide ((((r7.1.length : Nat) : Int) : Int) ≥ ((r4.1.length : Nat) : Int)))) && r30)]) (by kernel_rfl) ⟨rfl, trivial⟩ (fun _ => ⟨rfl, by simp⟩)
end Go.Proofs.YtaelmimkdjkmmaaGreatDoor
