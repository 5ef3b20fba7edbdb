import Derived.Test.YthmieigenefilaaGreatDoorQBYW10
set_option linter.unusedSimpArgs false
set_option linter.unusedVariables false
namespace Go.Proofs.YthmieigenefilaaGreatDoor
open Go Go.Ab
set_option maxHeartbeats 40000000
set_option maxRecDepth 100000
attribute [local irreducible] V VS runS Sk.Holds
def Y76 (x0 : Api_Whole) (x1 x2 : Nat) : List AV := [.row x1 1 0 x0.Device.length, .row x2 1 0 x0.Fetched.length, .pv ((E30.ro x0.Tty.Lines)), .pv ((E5.ro x0.Tty.Edit)), .pv (.raw (.int .i64 x0.Lost)), .pv (.raw (.int .i64 x0.Taken))]
def Y80 (x0 : (List AKO)) (x1 : Nat) : Bool := (((x0.getD x1 (⟨0, 0, 0, 0⟩ : AKO)).Kind : Int) == 3)
theorem bench_Tell_ok (a0 : ByteArray) (r : (List ByteArray) × Int) (h : bench_Tell a0 = some r) {al : Bool} : PCalls Tryz.prog 16 [.pv (.raw (.string a0))] al (.tup [.row 0 1 0 r.1.length, .pv (.raw (.int .i64 r.2))]) [.row 9 1 (E9.cR r.1)] := by
 unfold bench_Tell at h
 refine fn_ok tabOk Tryz.func16 (by kernel_rfl) (by kernel_rfl) Tryz.ntmps16 (by simp) ?_
 refine s0 ?_
 obtain ⟨r1, e2, h⟩ := bd_ h
 refine callF_ok (d := some 18) (fn := 15) (ax := [.pv (.raw (.string a0))]) (args := [.pv (.raw (.string a0))]) (ps := [a0 = a0]) (hb' := [.row 26 4 (E26.cR r1.1)]) (ps2 := [r1.1.length = r1.1.length, rowQ (E26.cR r1.1) 4 0 r1.1.length (fun i j => E26.cf (r1.1.getD i E26.z) j), (r1.2.1 : Int) = r1.2.1, (r1.2.2 : Int) = r1.2.2]) (.tup [.pv ((E26.ro r1.1)), .pv (.raw (.int .i64 r1.2.1)), .pv (.raw (.int .i64 r1.2.2))]) (by kernel_rfl) (bench_Parse_ok _ _ e2 (al := true)) (by kernel_rfl) ⟨rfl, trivial⟩ (fun _ => (by kernel_rfl)) (by simp) (by simp only [List.map_cons, List.map_nil, Elem.row_up, up_map] <;> rfl) (by kernel_rfl) (by kernel_rfl) ⟨(by first | rfl | exact Elem.sub_len _ (by omega) | omega | simp | (simp <;> omega)), E26.rowQ_all r1.1 rfl, rfl, rfl, trivial⟩ ?_
 refine sg (S := .br ((r1.2.2 : Int) != 0) (.leaf 0) (.leaf 1)) ?_
 refine br_ h ?_ ?_ <;> clear h <;> intro c3 h
 ·cases h
 ·refine sk_leaf ?_
  obtain ⟨r4, e5, h⟩ := bd_ h
  refine call_ok (d := some 27) (fn := 10) (ax := [.pv ((E26.ro r1.1))]) (ps := [r1.1.length = r1.1.length, ∀ i, i < r1.1.length → ∀ j, j < 4 → E26.cf (r1.1.getD i E26.z) j = E26.cf (r1.1.getD i E26.z) j]) (hb' := [.row 78 2 (E78.cR r4.1), .row 5 1 (E5.cR r4.2.Device), .row 5 1 (E5.cR r4.2.Fetched)]) (by kernel_rfl) (kernel_Play_ok _ _ e5) (by kernel_rfl) ⟨rfl, fun _ _ _ _ => rfl, trivial⟩ (fun _ => (by kernel_rfl)) (by simp) (by simp only [List.map_cons, List.map_nil, Elem.row_up, up_map] <;> rfl) (by kernel_rfl) ?_
  refine s0 ?_
  refine len_ro (by kernel_rfl) 4 (s := 4) (n := r1.1.length) (c := fun i j => E26.cf (r1.1.getD i E26.z) j) (by kernel_rfl) ?_; intro hl1_0
  refine len_row (by kernel_rfl) 18112 (e := 78) (s := 2) (n := r4.1.length) (cs := E78.cR r4.1) (by kernel_rfl) (Elem.cR_length _ _) ?_; intro hl1_1
  refine len_row (by kernel_rfl) 18113 (e := 5) (s := 1) (n := r4.2.Device.length) (cs := E5.cR r4.2.Device) (by kernel_rfl) (Elem.cR_length _ _) ?_; intro hl1_2
  refine len_row (by kernel_rfl) 18114 (e := 5) (s := 1) (n := r4.2.Fetched.length) (cs := E5.cR r4.2.Fetched) (by kernel_rfl) (Elem.cR_length _ _) ?_; intro hl1_3
  refine len_box (by kernel_rfl) 16896 2 (cs := (Y76 r4.2 18113 18114)) (by kernel_rfl) (s := 1) (n := r4.2.Tty.Lines.length) (c := fun i j => E30.cf (r4.2.Tty.Lines.getD i E30.z) j) rfl ?_; intro hl1_4
  refine len_box (by kernel_rfl) 16896 3 (cs := (Y76 r4.2 18113 18114)) (by kernel_rfl) (s := 1) (n := r4.2.Tty.Edit.length) (c := fun i j => E5.cf (r4.2.Tty.Edit.getD i E5.z) j) rfl ?_; intro hl1_5
  replace h : (fun (x : Nat × List ByteArray × Nat) => bench_Tell_l1 r1 r4 x.1 x.2.1 x.2.2 = some r) (FUEL, ([] : List ByteArray), 0) := h
  refine loop_ok (by kernel_rfl) (X := Nat × List ByteArray × Nat) (fun x => bench_Tell_l1 r1 r4 x.1 x.2.1 x.2.2 = some r) (fun x => x.1) (fun x => mk 100 [(2, .pv (.raw (.slice none 0 0))), (3, .pv (.raw (.int .i64 0))), (4, .pv ((E26.ro r1.1))), (8, .ptr 0 0), (9, .row 4 1 0 x.2.1.length), (30, .row 3 2 0 r4.1.length), (31, .pv (.raw (.int .i64 ((r4.1.length : Nat) : Int)))), (32, .pv (.raw (.int .i64 ((x.2.2 : Nat) : Int))))] [(0, .box (Y76 r4.2 1 2)), (1, .row 5 1 (E5.cR r4.2.Device)), (2, .row 5 1 (E5.cR r4.2.Fetched)), (3, .row 78 2 (E78.cR r4.1)), (4, .row 9 1 (E9.cR x.2.1))]) (FUEL, ([] : List ByteArray), 0) h ?_ ?_
  ·exact sub_ok (ρ := [(0, some 16896), (1, some 18113), (2, some 18114), (3, some 18112), (4, none)]) (l := [(0 : Int) = 0, r1.1.length = r1.1.length, ∀ i, i < r1.1.length → ∀ j, j < 4 → E26.cf (r1.1.getD i E26.z) j = E26.cf (r1.1.getD i E26.z) j, 0 = 0, 0 = 0, (([] : List ByteArray).length) = 0, 0 = 0, r4.1.length = r4.1.length, (((r4.1.length : Nat) : Int) : Int) = ((r4.1.length : Nat) : Int), (0 : Int) = ((0 : Nat) : Int), 0 = 0, r4.2.Device.length = r4.2.Device.length, 0 = 0, r4.2.Fetched.length = r4.2.Fetched.length, r4.2.Tty.Lines.length = r4.2.Tty.Lines.length, ∀ i, i < r4.2.Tty.Lines.length → ∀ j, j < 1 → E30.cf (r4.2.Tty.Lines.getD i E30.z) j = E30.cf (r4.2.Tty.Lines.getD i E30.z) j, r4.2.Tty.Edit.length = r4.2.Tty.Edit.length, ∀ i, i < r4.2.Tty.Edit.length → ∀ j, j < 1 → E5.cf (r4.2.Tty.Edit.getD i E5.z) j = E5.cf (r4.2.Tty.Edit.getD i E5.z) j, (r4.2.Lost : Int) = r4.2.Lost, (r4.2.Taken : Int) = r4.2.Taken, E5.cR r4.2.Device = E5.cR r4.2.Device, AllPv (E5.cR r4.2.Device), E5.cR r4.2.Fetched = E5.cR r4.2.Fetched, AllPv (E5.cR r4.2.Fetched), E78.cR r4.1 = E78.cR r4.1, AllPv (E78.cR r4.1), E9.cR ([] : List ByteArray) = []]) (by kernel_rfl) ⟨rfl, rfl, fun _ _ _ _ => rfl, rfl, rfl, (by first | rfl | simp), rfl, rfl, rfl, (by first | rfl | simp), rfl, rfl, rfl, rfl, rfl, fun _ _ _ _ => rfl, rfl, fun _ _ _ _ => rfl, rfl, rfl, rfl, (Elem.cR_pv _ _), rfl, (Elem.cR_pv _ _), rfl, (Elem.cR_pv _ _), rfl, trivial⟩
  ·clear h; rintro ⟨n1, l6, k7⟩ h p1 hp1
   obtain _ | n1 := n1
   ·cases (show (none : Option ((List ByteArray) × Int)) = some r from h)
   have h : bench_Tell_l1 r1 r4 (n1 + 1) l6 k7 = some r := h
   unfold bench_Tell_l1 at h
   refine sg (S := .br (decide ((((k7 : Nat) : Int) : Int) < ((r4.1.length : Nat) : Int))) (.and (0 ≤ (((k7 : Nat) : Int) : Int) ∧ ((k7 : Nat) : Int) < ((r4.1.length : Nat) : Int)) (.leaf 0)) (.leaf 1)) ?_
   refine br_ h ?_ ?_ <;> clear h <;> intro c8 h
   ·refine sk_and ⟨Int.natCast_nonneg _, of_decide_eq_true c8⟩ ?_
    refine sk_leaf ?_
    refine lda_ok (d := 36) (id := 3) (i := (0 + k7)) (e := 78) (n := 2) E78 (xs := r4.1) (by kernel_rfl) (by kernel_rfl) (by first | omega | (simp at * <;> omega) | (simp_all <;> omega)) rfl ?_
    refine sg (S := .br (((r4.1.getD (0 + k7) (⟨0, []⟩ : AKA)).Err : Int) != 0) (.leaf 0) (.and (0 ≤ (((k7 : Nat) : Int) : Int) ∧ ((k7 : Nat) : Int) < ((r1.1.length : Nat) : Int)) (.and (((Y80 r1.1 k7) = true → ((Y80 r1.1 k7) = true))) (.and (((Y80 r1.1 k7) = true → ((Y80 r1.1 k7) = true))) (.and ((Y80 r1.1 k7) = true → (Y80 r1.1 k7) = true) (.br ((((r1.1.getD k7 (⟨0, 0, 0, 0⟩ : AKO)).Kind : Int) == 3) && (((r4.1.getD (0 + k7) (⟨0, []⟩ : AKA)).Err : Int) == 0)) (.leaf 1) (.leaf 2))))))) ?_
    refine br_ h ?_ ?_ <;> clear h <;> intro c10 h
    ·refine sk_leaf ?_
     obtain ⟨r11, e12, h⟩ := bd_ h
     refine call_ok (d := some 42) (fn := 31) (ax := [.pv (.raw (.int .i64 ((r4.1.getD (0 + k7) (⟨0, []⟩ : AKA)).Err)))]) (ps := [((r4.1.getD (0 + k7) (⟨0, []⟩ : AKA)).Err : Int) = ((r4.1.getD (0 + k7) (⟨0, []⟩ : AKA)).Err)]) (hb' := []) (by kernel_rfl) (bn_itoa_ok _ _ e12 (al := true)) (by kernel_rfl) ⟨(by first | rfl | (simp; done) | omega | (simp <;> omega)), trivial⟩ (fun _ => (by kernel_rfl)) (by simp) rfl (by kernel_rfl) ?_
     refine sg (S := .and ((bytesOf [101, 114, 114, 111, 114, 32]).size + r11.size ≤ 9223372036854775807) (.and (0 ≤ (((k7 : Nat) : Int) : Int) ∧ ((k7 : Nat) : Int) < ((r1.1.length : Nat) : Int)) (.and (((Y80 r1.1 k7) = true → ((Y80 r1.1 k7) = true))) (.and (((Y80 r1.1 k7) = true → ((Y80 r1.1 k7) = true))) (.and ((Y80 r1.1 k7) = true → (Y80 r1.1 k7) = true) (.br ((((r1.1.getD k7 (⟨0, 0, 0, 0⟩ : AKO)).Kind : Int) == 3) && (((r4.1.getD (0 + k7) (⟨0, []⟩ : AKA)).Err : Int) == 0)) (.leaf 0) (.leaf 1))))))) ?_
     refine gd_ h ?_; clear h; intro g13 h
     refine gd_ h ?_; clear h; intro g14 h
     refine sk_and (fun h => h) ?_
     refine sk_and (fun h => h) ?_
     refine sk_and (fun h => h) ?_
     refine br_ h ?_ ?_ <;> clear h <;> intro c18 h
     ·cases h
     ·refine sk_leaf ?_
      refine bs_ok (d := 63) (e := 9) (s := 1) (n := 1) (cs := [.pv (.raw (.string ((bytesOf [101, 114, 114, 111, 114, 32]) ++ r11)))]) (cs' := E9.cR [((bytesOf [101, 114, 114, 111, 114, 32]) ++ r11)]) (by kernel_rfl) rfl (by kernel_rfl) ?_
      refine s0 ?_
      obtain ⟨g23, h⟩ := if_ h
      refine app_ok (d := 64) (e := 9) (s := 1) (b := 16) (x := .row 4 1 0 l6.length) (y := .row 20416 1 0 1) E9 (xs := l6) (ys := [((bytesOf [101, 114, 114, 111, 114, 32]) ++ r11)]) (by kernel_rfl) rfl (.row 4 l6 l6.length rfl (by kernel_rfl)) (.all 20416 9 [((bytesOf [101, 114, 114, 111, 114, 32]) ++ r11)] 1 rfl (by kernel_rfl)) g23 (by kernel_rfl) ?_
      refine s0 ?_
      refine back_ok (p := p1) (by kernel_rfl) (hp1 (n1, (l6 ++ [((bytesOf [101, 114, 114, 111, 114, 32]) ++ r11)]), k7 + 1) _ h (Nat.lt_succ_self n1) ?_)
      exact sub_ok (ρ := (rI 0 0 4 ++ ([(4, some 20480)]))) (l := [(0 : Int) = 0, r1.1.length = r1.1.length, ∀ i, i < r1.1.length → ∀ j, j < 4 → E26.cf (r1.1.getD i E26.z) j = E26.cf (r1.1.getD i E26.z) j, 0 = 0, 0 = 0, ((l6 ++ [((bytesOf [101, 114, 114, 111, 114, 32]) ++ r11)]).length) = ((l6 ++ [((bytesOf [101, 114, 114, 111, 114, 32]) ++ r11)]).length), 0 = 0, r4.1.length = r4.1.length, (((r4.1.length : Nat) : Int) : Int) = ((r4.1.length : Nat) : Int), ((IntKind.i64.wrap (((k7 : Nat) : Int) + 1)) : Int) = (((k7 + 1) : Nat) : Int), 0 = 0, r4.2.Device.length = r4.2.Device.length, 0 = 0, r4.2.Fetched.length = r4.2.Fetched.length, r4.2.Tty.Lines.length = r4.2.Tty.Lines.length, ∀ i, i < r4.2.Tty.Lines.length → ∀ j, j < 1 → E30.cf (r4.2.Tty.Lines.getD i E30.z) j = E30.cf (r4.2.Tty.Lines.getD i E30.z) j, r4.2.Tty.Edit.length = r4.2.Tty.Edit.length, ∀ i, i < r4.2.Tty.Edit.length → ∀ j, j < 1 → E5.cf (r4.2.Tty.Edit.getD i E5.z) j = E5.cf (r4.2.Tty.Edit.getD i E5.z) j, (r4.2.Lost : Int) = r4.2.Lost, (r4.2.Taken : Int) = r4.2.Taken, E5.cR r4.2.Device = E5.cR r4.2.Device, AllPv (E5.cR r4.2.Device), E5.cR r4.2.Fetched = E5.cR r4.2.Fetched, AllPv (E5.cR r4.2.Fetched), E78.cR r4.1 = E78.cR r4.1, AllPv (E78.cR r4.1), E9.cR (l6 ++ [((bytesOf [101, 114, 114, 111, 114, 32]) ++ r11)]) = E9.cR (l6 ++ [((bytesOf [101, 114, 114, 111, 114, 32]) ++ r11)]), AllPv (E9.cR (l6 ++ [((bytesOf [101, 114, 114, 111, 114, 32]) ++ r11)]))]) (by kernel_rfl) ⟨rfl, rfl, fun _ _ _ _ => rfl, rfl, rfl, rfl, rfl, rfl, rfl, (wrap_nat (Int.ofNat_lt.1 (of_decide_eq_true c8)) (by omega)), rfl, rfl, rfl, rfl, rfl, fun _ _ _ _ => rfl, rfl, fun _ _ _ _ => rfl, rfl, rfl, rfl, (Elem.cR_pv _ _), rfl, (Elem.cR_pv _ _), rfl, (Elem.cR_pv _ _), rfl, (Elem.cR_pv _ _), trivial⟩
    ·refine gd_ h ?_; clear h; intro g24 h
     refine sk_and (fun h => h) ?_
     refine sk_and (fun h => h) ?_
     refine sk_and (fun h => h) ?_
     refine br_ h ?_ ?_ <;> clear h <;> intro c28 h
     ·cases h
     ·refine sk_leaf ?_
      refine bs_ok (d := 63) (e := 9) (s := 1) (n := 1) (cs := [.pv (.raw (.string (bytesOf [111, 107])))]) (cs' := E9.cR [(bytesOf [111, 107])]) (by kernel_rfl) rfl (by kernel_rfl) ?_
      refine s0 ?_
      obtain ⟨g33, h⟩ := if_ h
      refine app_ok (d := 64) (e := 9) (s := 1) (b := 16) (x := .row 4 1 0 l6.length) (y := .row 20416 1 0 1) E9 (xs := l6) (ys := [(bytesOf [111, 107])]) (by kernel_rfl) rfl (.row 4 l6 l6.length rfl (by kernel_rfl)) (.all 20416 9 [(bytesOf [111, 107])] 1 rfl (by kernel_rfl)) g33 (by kernel_rfl) ?_
      refine s0 ?_
      refine back_ok (p := p1) (by kernel_rfl) (hp1 (n1, (l6 ++ [(bytesOf [111, 107])]), k7 + 1) _ h (Nat.lt_succ_self n1) ?_)
      exact sub_ok (ρ := (rI 0 0 4 ++ ([(4, some 20480)]))) (l := [(0 : Int) = 0, r1.1.length = r1.1.length, ∀ i, i < r1.1.length → ∀ j, j < 4 → E26.cf (r1.1.getD i E26.z) j = E26.cf (r1.1.getD i E26.z) j, 0 = 0, 0 = 0, ((l6 ++ [(bytesOf [111, 107])]).length) = ((l6 ++ [(bytesOf [111, 107])]).length), 0 = 0, r4.1.length = r4.1.length, (((r4.1.length : Nat) : Int) : Int) = ((r4.1.length : Nat) : Int), ((IntKind.i64.wrap (((k7 : Nat) : Int) + 1)) : Int) = (((k7 + 1) : Nat) : Int), 0 = 0, r4.2.Device.length = r4.2.Device.length, 0 = 0, r4.2.Fetched.length = r4.2.Fetched.length, r4.2.Tty.Lines.length = r4.2.Tty.Lines.length, ∀ i, i < r4.2.Tty.Lines.length → ∀ j, j < 1 → E30.cf (r4.2.Tty.Lines.getD i E30.z) j = E30.cf (r4.2.Tty.Lines.getD i E30.z) j, r4.2.Tty.Edit.length = r4.2.Tty.Edit.length, ∀ i, i < r4.2.Tty.Edit.length → ∀ j, j < 1 → E5.cf (r4.2.Tty.Edit.getD i E5.z) j = E5.cf (r4.2.Tty.Edit.getD i E5.z) j, (r4.2.Lost : Int) = r4.2.Lost, (r4.2.Taken : Int) = r4.2.Taken, E5.cR r4.2.Device = E5.cR r4.2.Device, AllPv (E5.cR r4.2.Device), E5.cR r4.2.Fetched = E5.cR r4.2.Fetched, AllPv (E5.cR r4.2.Fetched), E78.cR r4.1 = E78.cR r4.1, AllPv (E78.cR r4.1), E9.cR (l6 ++ [(bytesOf [111, 107])]) = E9.cR (l6 ++ [(bytesOf [111, 107])]), AllPv (E9.cR (l6 ++ [(bytesOf [111, 107])]))]) (by kernel_rfl) ⟨rfl, rfl, fun _ _ _ _ => rfl, rfl, rfl, rfl, rfl, rfl, rfl, (wrap_nat (Int.ofNat_lt.1 (of_decide_eq_true c8)) (by omega)), rfl, rfl, rfl, rfl, rfl, fun _ _ _ _ => rfl, rfl, fun _ _ _ _ => rfl, rfl, rfl, rfl, (Elem.cR_pv _ _), rfl, (Elem.cR_pv _ _), rfl, (Elem.cR_pv _ _), rfl, (Elem.cR_pv _ _), trivial⟩
   ·refine sk_leaf ?_
    refine bs_ok (d := 84) (e := 3) (s := 1) (n := 6) (cs := [.pv (.raw (.int .i64 ((r4.2.Device.length : Nat) : Int))), .pv (.raw (.int .i64 ((r4.2.Fetched.length : Nat) : Int))), .pv (.raw (.int .i64 ((r4.2.Tty.Lines.length : Nat) : Int))), .pv (.raw (.int .i64 ((r4.2.Tty.Edit.length : Nat) : Int))), .pv (.raw (.int .i64 r4.2.Lost)), .pv (.raw (.int .i64 r4.2.Taken))]) (cs' := E3.cR [((r4.2.Device.length : Nat) : Int), ((r4.2.Fetched.length : Nat) : Int), ((r4.2.Tty.Lines.length : Nat) : Int), ((r4.2.Tty.Edit.length : Nat) : Int), r4.2.Lost, r4.2.Taken]) (by kernel_rfl) rfl (by kernel_rfl) ?_
    refine s0 ?_
    refine len_row (by kernel_rfl) 4 (e := 9) (s := 1) (n := l6.length) (cs := E9.cR l6) (by kernel_rfl) (Elem.cR_length _ _) ?_; intro hl2_0
    refine len_box (by kernel_rfl) 0 2 (cs := (Y76 r4.2 1 2)) (by kernel_rfl) (s := 1) (n := r4.2.Tty.Lines.length) (c := fun i j => E30.cf (r4.2.Tty.Lines.getD i E30.z) j) rfl ?_; intro hl2_1
    refine len_box (by kernel_rfl) 0 3 (cs := (Y76 r4.2 1 2)) (by kernel_rfl) (s := 1) (n := r4.2.Tty.Edit.length) (c := fun i j => E5.cf (r4.2.Tty.Edit.getD i E5.z) j) rfl ?_; intro hl2_2
    refine len_row (by kernel_rfl) 1 (e := 5) (s := 1) (n := r4.2.Device.length) (cs := E5.cR r4.2.Device) (by kernel_rfl) (Elem.cR_length _ _) ?_; intro hl2_3
    refine len_row (by kernel_rfl) 2 (e := 5) (s := 1) (n := r4.2.Fetched.length) (cs := E5.cR r4.2.Fetched) (by kernel_rfl) (Elem.cR_length _ _) ?_; intro hl2_4
    refine len_row (by kernel_rfl) 3 (e := 78) (s := 2) (n := r4.1.length) (cs := E78.cR r4.1) (by kernel_rfl) (Elem.cR_length _ _) ?_; intro hl2_5
    refine len_row (by kernel_rfl) 21760 (e := 3) (s := 1) (n := [((r4.2.Device.length : Nat) : Int), ((r4.2.Fetched.length : Nat) : Int), ((r4.2.Tty.Lines.length : Nat) : Int), ((r4.2.Tty.Edit.length : Nat) : Int), r4.2.Lost, r4.2.Taken].length) (cs := E3.cR [((r4.2.Device.length : Nat) : Int), ((r4.2.Fetched.length : Nat) : Int), ((r4.2.Tty.Lines.length : Nat) : Int), ((r4.2.Tty.Edit.length : Nat) : Int), r4.2.Lost, r4.2.Taken]) (by kernel_rfl) (Elem.cR_length _ _) ?_; intro hl2_6
    replace h : (fun (x : Nat × ByteArray × Nat) => bench_Tell_l2 r4 l6 x.1 x.2.1 x.2.2 = some r) (FUEL, (bytesOf [108, 101, 102, 116]), 0) := h
    refine loop_ok (by kernel_rfl) (X := Nat × ByteArray × Nat) (fun x => bench_Tell_l2 r4 l6 x.1 x.2.1 x.2.2 = some r) (fun x => x.1) (fun x => mk 100 [(2, .pv (.raw (.slice none 0 0))), (3, .pv (.raw (.int .i64 0))), (9, .row 0 1 0 l6.length), (13, .pv (.raw (.string x.2.1))), (84, .row 1 1 0 ([((r4.2.Device.length : Nat) : Int), ((r4.2.Fetched.length : Nat) : Int), ((r4.2.Tty.Lines.length : Nat) : Int), ((r4.2.Tty.Edit.length : Nat) : Int), r4.2.Lost, r4.2.Taken].length)), (85, .pv (.raw (.int .i64 ((6 : Nat) : Int)))), (86, .pv (.raw (.int .i64 ((x.2.2 : Nat) : Int))))] [(0, .row 9 1 (E9.cR l6)), (1, .row 3 1 (E3.cR [((r4.2.Device.length : Nat) : Int), ((r4.2.Fetched.length : Nat) : Int), ((r4.2.Tty.Lines.length : Nat) : Int), ((r4.2.Tty.Edit.length : Nat) : Int), r4.2.Lost, r4.2.Taken]))]) (FUEL, (bytesOf [108, 101, 102, 116]), 0) h ?_ ?_
    ·exact sub_ok (ρ := [(0, some 4), (1, some 21760)]) (l := [(0 : Int) = 0, 0 = 0, l6.length = l6.length, (bytesOf [108, 101, 102, 116]) = (bytesOf [108, 101, 102, 116]), 0 = 0, 6 = ([((r4.2.Device.length : Nat) : Int), ((r4.2.Fetched.length : Nat) : Int), ((r4.2.Tty.Lines.length : Nat) : Int), ((r4.2.Tty.Edit.length : Nat) : Int), r4.2.Lost, r4.2.Taken].length), (((6 : Nat) : Int) : Int) = ((6 : Nat) : Int), (0 : Int) = ((0 : Nat) : Int), E9.cR l6 = E9.cR l6, AllPv (E9.cR l6), E3.cR [((r4.2.Device.length : Nat) : Int), ((r4.2.Fetched.length : Nat) : Int), ((r4.2.Tty.Lines.length : Nat) : Int), ((r4.2.Tty.Edit.length : Nat) : Int), r4.2.Lost, r4.2.Taken] = E3.cR [((r4.2.Device.length : Nat) : Int), ((r4.2.Fetched.length : Nat) : Int), ((r4.2.Tty.Lines.length : Nat) : Int), ((r4.2.Tty.Edit.length : Nat) : Int), r4.2.Lost, r4.2.Taken], AllPv (E3.cR [((r4.2.Device.length : Nat) : Int), ((r4.2.Fetched.length : Nat) : Int), ((r4.2.Tty.Lines.length : Nat) : Int), ((r4.2.Tty.Edit.length : Nat) : Int), r4.2.Lost, r4.2.Taken])]) (by kernel_rfl) ⟨rfl, rfl, rfl, rfl, rfl, (by first | rfl | simp), rfl, (by first | rfl | simp), rfl, (Elem.cR_pv _ _), rfl, (Elem.cR_pv _ _), trivial⟩
    ·clear h; rintro ⟨n2, s34, k35⟩ h p2 hp2
     obtain _ | n2 := n2
     ·cases (show (none : Option ((List ByteArray) × Int)) = some r from h)
     have h : bench_Tell_l2 r4 l6 (n2 + 1) s34 k35 = some r := h
     unfold bench_Tell_l2 at h
     refine sg (S := .br (decide ((((k35 : Nat) : Int) : Int) < ((6 : Nat) : Int))) (.and (0 ≤ (((k35 : Nat) : Int) : Int) ∧ ((k35 : Nat) : Int) < (([((r4.2.Device.length : Nat) : Int), ((r4.2.Fetched.length : Nat) : Int), ((r4.2.Tty.Lines.length : Nat) : Int), ((r4.2.Tty.Edit.length : Nat) : Int), r4.2.Lost, r4.2.Taken].length : Nat) : Int)) (.leaf 0)) (.leaf 1)) ?_
     refine br_ h ?_ ?_ <;> clear h <;> intro c36 h
     ·refine gd_ h ?_; clear h; intro g37 h
      refine sk_leaf ?_
      refine ld_ok (d := 89) (id := 1) (i := (0 + k35)) (j := 0) (e := 3) (n := 1) E3 (xs := [((r4.2.Device.length : Nat) : Int), ((r4.2.Fetched.length : Nat) : Int), ((r4.2.Tty.Lines.length : Nat) : Int), ((r4.2.Tty.Edit.length : Nat) : Int), r4.2.Lost, r4.2.Taken]) (by kernel_rfl) (by kernel_rfl) (by first | omega | (simp at * <;> omega) | (simp_all <;> omega)) (by exact Nat.le_of_ble_eq_true rfl) ?_
      refine s0 ?_
      obtain ⟨r38, e39, h⟩ := bd_ h
      refine call_ok (d := some 92) (fn := 31) (ax := [.pv (.raw (.int .i64 ([((r4.2.Device.length : Nat) : Int), ((r4.2.Fetched.length : Nat) : Int), ((r4.2.Tty.Lines.length : Nat) : Int), ((r4.2.Tty.Edit.length : Nat) : Int), r4.2.Lost, r4.2.Taken].getD (0 + k35) 0)))]) (ps := [(([((r4.2.Device.length : Nat) : Int), ((r4.2.Fetched.length : Nat) : Int), ((r4.2.Tty.Lines.length : Nat) : Int), ((r4.2.Tty.Edit.length : Nat) : Int), r4.2.Lost, r4.2.Taken].getD (0 + k35) 0) : Int) = ([((r4.2.Device.length : Nat) : Int), ((r4.2.Fetched.length : Nat) : Int), ((r4.2.Tty.Lines.length : Nat) : Int), ((r4.2.Tty.Edit.length : Nat) : Int), r4.2.Lost, r4.2.Taken].getD (0 + k35) 0)]) (hb' := []) (by kernel_rfl) (bn_itoa_ok _ _ e39 (al := true)) (by kernel_rfl) ⟨rfl, trivial⟩ (fun _ => (by kernel_rfl)) (by simp) rfl (by kernel_rfl) ?_
      refine sg (S := .and ((bytesOf [32]).size + r38.size ≤ 9223372036854775807) (.and (s34.size + ((bytesOf [32]) ++ r38).size ≤ 9223372036854775807) (.leaf 0))) ?_
      refine gd_ h ?_; clear h; intro g40 h
      refine gd_ h ?_; clear h; intro g41 h
      refine sk_leaf ?_
      refine back_ok (p := p2) (by kernel_rfl) (hp2 (n2, (s34 ++ ((bytesOf [32]) ++ r38)), k35 + 1) _ h (Nat.lt_succ_self n2) ?_)
      exact sub_ok (ρ := [(0, some 0), (1, some 1)]) (l := [(0 : Int) = 0, 0 = 0, l6.length = l6.length, (s34 ++ ((bytesOf [32]) ++ r38)) = (s34 ++ ((bytesOf [32]) ++ r38)), 0 = 0, ([((r4.2.Device.length : Nat) : Int), ((r4.2.Fetched.length : Nat) : Int), ((r4.2.Tty.Lines.length : Nat) : Int), ((r4.2.Tty.Edit.length : Nat) : Int), r4.2.Lost, r4.2.Taken].length) = ([((r4.2.Device.length : Nat) : Int), ((r4.2.Fetched.length : Nat) : Int), ((r4.2.Tty.Lines.length : Nat) : Int), ((r4.2.Tty.Edit.length : Nat) : Int), r4.2.Lost, r4.2.Taken].length), (((6 : Nat) : Int) : Int) = ((6 : Nat) : Int), ((IntKind.i64.wrap (((k35 : Nat) : Int) + 1)) : Int) = (((k35 + 1) : Nat) : Int), E9.cR l6 = E9.cR l6, AllPv (E9.cR l6), E3.cR [((r4.2.Device.length : Nat) : Int), ((r4.2.Fetched.length : Nat) : Int), ((r4.2.Tty.Lines.length : Nat) : Int), ((r4.2.Tty.Edit.length : Nat) : Int), r4.2.Lost, r4.2.Taken] = E3.cR [((r4.2.Device.length : Nat) : Int), ((r4.2.Fetched.length : Nat) : Int), ((r4.2.Tty.Lines.length : Nat) : Int), ((r4.2.Tty.Edit.length : Nat) : Int), r4.2.Lost, r4.2.Taken], AllPv (E3.cR [((r4.2.Device.length : Nat) : Int), ((r4.2.Fetched.length : Nat) : Int), ((r4.2.Tty.Lines.length : Nat) : Int), ((r4.2.Tty.Edit.length : Nat) : Int), r4.2.Lost, r4.2.Taken])]) (by kernel_rfl) ⟨rfl, rfl, rfl, rfl, rfl, rfl, rfl, (wrap_nat (Int.ofNat_lt.1 (of_decide_eq_true c36)) (by omega)), rfl, (Elem.cR_pv _ _), rfl, (Elem.cR_pv _ _), trivial⟩
     ·refine sk_leaf ?_
      refine bs_ok (d := 98) (e := 9) (s := 1) (n := 1) (cs := [.pv (.raw (.string s34))]) (cs' := E9.cR [s34]) (by kernel_rfl) rfl (by kernel_rfl) ?_
      refine s0 ?_
      obtain ⟨g42, h⟩ := if_ h
      refine app_ok (d := 99) (e := 9) (s := 1) (b := 16) (x := .row 0 1 0 l6.length) (y := .row 22656 1 0 1) E9 (xs := l6) (ys := [s34]) (by kernel_rfl) rfl (.row 0 l6 l6.length rfl (by kernel_rfl)) (.all 22656 9 [s34] 1 rfl (by kernel_rfl)) g42 (by kernel_rfl) ?_
      refine s0 ?_
      obtain rfl := some_ h
      exact end_ok [(0, some 22720)] Tryz.results16 (ps := [0 = 0, ((l6 ++ [s34]).length) = (l6 ++ [s34]).length, (0 : Int) = 0, E9.cR (l6 ++ [s34]) = E9.cR (l6 ++ [s34]), AllPv (E9.cR (l6 ++ [s34]))]) (by kernel_rfl) ⟨rfl, rfl, rfl, rfl, (Elem.cR_pv _ _), trivial⟩ (fun _ => ⟨rfl, by simp only [List.mem_cons, List.not_mem_nil, or_false, forall_eq_or_imp, forall_eq]; exact Elem.cR_bald E9_raw _⟩)
def Y58 (x0 : Int) (x1 : (List ByteArray)) : Bool := (((x0 : Int) == 0) && ((((x1.length : Nat) : Int) : Int) == 10))
def Y46 (x0 : Int) (x1 : (List ByteArray)) : Bool := ((((x0 : Int) == 0) && ((((x1.length : Nat) : Int) : Int) == 10)) && ((x1.getD (0 + 1) ByteArray.empty).toList == (bytesOf [101, 114, 114, 111, 114, 32, 55]).toList))
def Y86 (x0 : (List ByteArray)) : Bool := ((x0.getD (0 + 3) ByteArray.empty).toList == (bytesOf [101, 114, 114, 111, 114, 32, 55]).toList)
theorem top_alive_ok (r : Bool) (h : top_alive = some r) {al : Bool} : PCalls Tryz.prog 6 [] al (.pv (.raw (.bool r))) [] := by
 unfold top_alive at h
 refine fn_ok tabOk Tryz.func6 (by kernel_rfl) (by kernel_rfl) Tryz.ntmps6 (by simp) ?_
 refine s0 ?_
 obtain ⟨r1, e2, h⟩ := bd_ h
 refine call_ok (d := some 4) (fn := 16) (ax := [.pv (.raw (.string (bytesOf [105, 110, 32, 57, 55, 10, 114, 117, 110, 32, 49, 10, 115, 97, 118, 101, 32, 48, 10, 114, 117, 110, 32, 48, 10, 114, 101, 115, 116, 111, 114, 101, 32, 48, 10, 114, 117, 110, 32, 48, 10, 114, 117, 110, 32, 48, 10, 114, 117, 110, 32, 48, 10, 114, 117, 110, 32, 49, 10])))]) (ps := [(bytesOf [105, 110, 32, 57, 55, 10, 114, 117, 110, 32, 49, 10, 115, 97, 118, 101, 32, 48, 10, 114, 117, 110, 32, 48, 10, 114, 101, 115, 116, 111, 114, 101, 32, 48, 10, 114, 117, 110, 32, 48, 10, 114, 117, 110, 32, 48, 10, 114, 117, 110, 32, 48, 10, 114, 117, 110, 32, 49, 10]) = (bytesOf [105, 110, 32, 57, 55, 10, 114, 117, 110, 32, 49, 10, 115, 97, 118, 101, 32, 48, 10, 114, 117, 110, 32, 48, 10, 114, 101, 115, 116, 111, 114, 101, 32, 48, 10, 114, 117, 110, 32, 48, 10, 114, 117, 110, 32, 48, 10, 114, 117, 110, 32, 48, 10, 114, 117, 110, 32, 49, 10])]) (hb' := [.row 9 1 (E9.cR r1.1)]) (by kernel_rfl) (bench_Tell_ok _ _ e2 (al := true)) (by kernel_rfl) ⟨rfl, trivial⟩ (fun _ => (by kernel_rfl)) (by simp) (by simp only [List.map_cons, List.map_nil, Elem.row_up, up_map] <;> rfl) (by kernel_rfl) ?_
 refine sg (S := .and ((((r1.2 : Int) == 0) = true → (((r1.2 : Int) == 0) = true))) (.and ((((r1.2 : Int) == 0) = true → (((r1.2 : Int) == 0) = true))) (.and (((r1.2 : Int) == 0) = true → ((r1.2 : Int) == 0) = true) (.and (((Y58 r1.2 r1.1) = true → ((Y58 r1.2 r1.1) = true))) (.and (((((r1.2 : Int) == 0) && ((((r1.1.length : Nat) : Int) : Int) == 10)) = true → (0 ≤ (1 : Int) ∧ 1 < ((r1.1.length : Nat) : Int)))) (.leaf 0)))))) ?_
 refine sk_and (fun h => h) ?_
 refine sk_and (fun h => h) ?_
 refine sk_and (fun h => h) ?_
 refine sk_and (fun h => h) ?_
 refine gd_ h ?_; clear h; intro g7 h
 refine sk_leaf ?_
 refine ldG_ok (d := 17) (id := 16640) (i := (0 + 1)) (j := 0) (e := 9) (n := 1) (g := (((r1.2 : Int) == 0) && ((((r1.1.length : Nat) : Int) : Int) == 10))) (ws := [(((r1.2 : Int) == 0) && ((((r1.1.length : Nat) : Int) : Int) == 10)) = true]) E9 (xs := r1.1) (by kernel_rfl) (fun hg => ⟨((by decide : ∀ y0 : Bool, ((y0 = true) → (y0 = true))) (((r1.2 : Int) == 0) && ((((r1.1.length : Nat) : Int) : Int) == 10))) hg, trivial⟩) (by kernel_rfl) (fun hg => (by first | omega | (simp at * <;> omega) | (simp_all <;> omega))) (by exact Nat.le_of_ble_eq_true rfl) ?_
 refine sg (S := .and (((Y58 r1.2 r1.1) = true → ((Y58 r1.2 r1.1) = true))) (.and ((Y58 r1.2 r1.1) = true → (Y58 r1.2 r1.1) = true) (.and (((Y46 r1.2 r1.1) = true → ((Y46 r1.2 r1.1) = true))) (.and ((((((r1.2 : Int) == 0) && ((((r1.1.length : Nat) : Int) : Int) == 10)) && ((r1.1.getD (0 + 1) ByteArray.empty).toList == (bytesOf [101, 114, 114, 111, 114, 32, 55]).toList)) = true → (0 ≤ (3 : Int) ∧ 3 < ((r1.1.length : Nat) : Int)))) (.leaf 0))))) ?_
 refine sk_and (fun h => h) ?_
 refine sk_and (fun h => h) ?_
 refine sk_and (fun h => h) ?_
 refine gd_ h ?_; clear h; intro g11 h
 refine sk_leaf ?_
 refine ldG_ok (d := 23) (id := 16640) (i := (0 + 3)) (j := 0) (e := 9) (n := 1) (g := ((((r1.2 : Int) == 0) && ((((r1.1.length : Nat) : Int) : Int) == 10)) && ((r1.1.getD (0 + 1) ByteArray.empty).toList == (bytesOf [101, 114, 114, 111, 114, 32, 55]).toList))) (ws := [((((r1.2 : Int) == 0) && ((((r1.1.length : Nat) : Int) : Int) == 10)) && ((r1.1.getD (0 + 1) ByteArray.empty).toList == (bytesOf [101, 114, 114, 111, 114, 32, 55]).toList)) = true]) E9 (xs := r1.1) (by kernel_rfl) (fun hg => ⟨((by decide : ∀ y0 : Bool, ((y0 = true) → (y0 = true))) ((((r1.2 : Int) == 0) && ((((r1.1.length : Nat) : Int) : Int) == 10)) && ((r1.1.getD (0 + 1) ByteArray.empty).toList == (bytesOf [101, 114, 114, 111, 114, 32, 55]).toList))) hg, trivial⟩) (by kernel_rfl) (fun hg => (by first | omega | (simp at * <;> omega) | (simp_all <;> omega))) (by exact Nat.le_of_ble_eq_true rfl) ?_
 refine sg (S := .and (((Y46 r1.2 r1.1) = true → ((Y46 r1.2 r1.1) = true))) (.and ((Y46 r1.2 r1.1) = true → (Y46 r1.2 r1.1) = true) (.and ((((Y46 r1.2 r1.1) && (Y86 r1.1)) = true → (((Y46 r1.2 r1.1) && (Y86 r1.1)) = true))) (.and (((((((r1.2 : Int) == 0) && ((((r1.1.length : Nat) : Int) : Int) == 10)) && ((r1.1.getD (0 + 1) ByteArray.empty).toList == (bytesOf [101, 114, 114, 111, 114, 32, 55]).toList)) && ((r1.1.getD (0 + 3) ByteArray.empty).toList == (bytesOf [101, 114, 114, 111, 114, 32, 55]).toList)) = true → (0 ≤ (9 : Int) ∧ 9 < ((r1.1.length : Nat) : Int)))) (.leaf 0))))) ?_
 refine sk_and (fun h => h) ?_
 refine sk_and (fun h => h) ?_
 refine sk_and (fun h => h) ?_
 refine gd_ h ?_; clear h; intro g15 h
 refine sk_leaf ?_
 refine ldG_ok (d := 29) (id := 16640) (i := (0 + 9)) (j := 0) (e := 9) (n := 1) (g := (((((r1.2 : Int) == 0) && ((((r1.1.length : Nat) : Int) : Int) == 10)) && ((r1.1.getD (0 + 1) ByteArray.empty).toList == (bytesOf [101, 114, 114, 111, 114, 32, 55]).toList)) && ((r1.1.getD (0 + 3) ByteArray.empty).toList == (bytesOf [101, 114, 114, 111, 114, 32, 55]).toList))) (ws := [(((((r1.2 : Int) == 0) && ((((r1.1.length : Nat) : Int) : Int) == 10)) && ((r1.1.getD (0 + 1) ByteArray.empty).toList == (bytesOf [101, 114, 114, 111, 114, 32, 55]).toList)) && ((r1.1.getD (0 + 3) ByteArray.empty).toList == (bytesOf [101, 114, 114, 111, 114, 32, 55]).toList)) = true]) E9 (xs := r1.1) (by kernel_rfl) (fun hg => ⟨((by decide : ∀ y0 : Bool, ((y0 = true) → (y0 = true))) (((((r1.2 : Int) == 0) && ((((r1.1.length : Nat) : Int) : Int) == 10)) && ((r1.1.getD (0 + 1) ByteArray.empty).toList == (bytesOf [101, 114, 114, 111, 114, 32, 55]).toList)) && ((r1.1.getD (0 + 3) ByteArray.empty).toList == (bytesOf [101, 114, 114, 111, 114, 32, 55]).toList))) hg, trivial⟩) (by kernel_rfl) (fun hg => (by first | omega | (simp at * <;> omega) | (simp_all <;> omega))) (by exact Nat.le_of_ble_eq_true rfl) ?_
 refine sg (S := .and ((((Y46 r1.2 r1.1) && (Y86 r1.1)) = true → (((Y46 r1.2 r1.1) && (Y86 r1.1)) = true))) (.and (((Y46 r1.2 r1.1) && (Y86 r1.1)) = true → ((Y46 r1.2 r1.1) && (Y86 r1.1)) = true) (.leaf 0))) ?_
 refine sk_and (fun h => h) ?_
 refine sk_and (fun h => h) ?_
 refine sk_leaf ?_
 obtain rfl := some_ h
 exact end_ok [] Tryz.results6 (ps := [((((((r1.2 : Int) == 0) && ((((r1.1.length : Nat) : Int) : Int) == 10)) && ((r1.1.getD (0 + 1) ByteArray.empty).toList == (bytesOf [101, 114, 114, 111, 114, 32, 55]).toList)) && ((r1.1.getD (0 + 3) ByteArray.empty).toList == (bytesOf [101, 114, 114, 111, 114, 32, 55]).toList)) && ((r1.1.getD (0 + 9) ByteArray.empty).toList == (bytesOf [108, 101, 102, 116, 32, 48, 32, 48, 32, 48, 32, 49, 32, 48, 32, 49]).toList)) = ((((((r1.2 : Int) == 0) && ((((r1.1.length : Nat) : Int) : Int) == 10)) && ((r1.1.getD (0 + 1) ByteArray.empty).toList == (bytesOf [101, 114, 114, 111, 114, 32, 55]).toList)) && ((r1.1.getD (0 + 3) ByteArray.empty).toList == (bytesOf [101, 114, 114, 111, 114, 32, 55]).toList)) && ((r1.1.getD (0 + 9) ByteArray.empty).toList == (bytesOf [108, 101, 102, 116, 32, 48, 32, 48, 32, 48, 32, 49, 32, 48, 32, 49]).toList))]) (by kernel_rfl) ⟨rfl, trivial⟩ (fun _ => ⟨rfl, by simp⟩)
theorem bits_All_ok (a0 : (Nat → Int)) (r : (List Int)) (h : bits_All a0 = some r) {al : Bool} : PCalls Tryz.prog 94 [.agg (Y28 a0)] al (.row 0 1 0 r.length) [.row 3 1 (E3.cR r)] := by
 unfold bits_All at h
 refine fn_ok tabOk Tryz.func94 (by kernel_rfl) (by kernel_rfl) Tryz.ntmps94 (by simp) ?_
 refine s0 ?_
 obtain ⟨r1, e2, h⟩ := bd_ h
 refine call_ok (d := some 6) (fn := 108) (ax := [.agg (Y28 a0), .pv (.raw (.int .i64 0))]) (ps := [((a0 0) : Int) = (a0 0), ((a0 1) : Int) = (a0 1), ((a0 2) : Int) = (a0 2), ((a0 3) : Int) = (a0 3), (0 : Int) = 0]) (hb' := []) (by kernel_rfl) (bits_Next_ok _ _ _ e2 (al := true)) (by kernel_rfl) ⟨rfl, rfl, rfl, rfl, rfl, trivial⟩ (fun _ => (by kernel_rfl)) (by simp) rfl (by kernel_rfl) ?_
 refine s0 ?_
 replace h : (fun (x : Nat × List Int × Int) => bits_All_l1 a0 r1 x.1 x.2.1 x.2.2 = some r) (FUEL, ([] : List Int), r1) := h
 refine loop_ok (by kernel_rfl) (X := Nat × List Int × Int) (fun x => bits_All_l1 a0 r1 x.1 x.2.1 x.2.2 = some r) (fun x => x.1) (fun x => mk 18 [(1, .ptr 0 0), (2, .pv (.raw (.slice none 0 0))), (3, .row 1 1 0 x.2.1.length), (4, .pv (.raw (.int .i64 x.2.2)))] [(0, .box (Y28 a0)), (1, .row 3 1 (E3.cR x.2.1))]) (FUEL, ([] : List Int), r1) h ?_ ?_
 ·exact sub_ok (ρ := [(0, some 16448), (1, none)]) (l := [0 = 0, 0 = 0, (([] : List Int).length) = 0, (r1 : Int) = r1, ((a0 0) : Int) = (a0 0), ((a0 1) : Int) = (a0 1), ((a0 2) : Int) = (a0 2), ((a0 3) : Int) = (a0 3), E3.cR ([] : List Int) = []]) (by kernel_rfl) ⟨rfl, rfl, (by first | rfl | simp), rfl, rfl, rfl, rfl, rfl, rfl, trivial⟩
 ·clear h; rintro ⟨n1, l3, x4⟩ h p1 hp1
  obtain _ | n1 := n1
  ·cases (show (none : Option ((List Int))) = some r from h)
  have h : bits_All_l1 a0 r1 (n1 + 1) l3 x4 = some r := h
  unfold bits_All_l1 at h
  refine sg (S := .br (decide ((x4 : Int) ≥ 0)) (.leaf 0) (.leaf 1)) ?_
  refine br_ h ?_ ?_ <;> clear h <;> intro c5 h
  ·refine sk_leaf ?_
   refine bs_ok (d := 15) (e := 3) (s := 1) (n := 1) (cs := [.pv (.raw (.int .i64 x4))]) (cs' := E3.cR [x4]) (by kernel_rfl) rfl (by kernel_rfl) ?_
   refine s0 ?_
   obtain ⟨g6, h⟩ := if_ h
   refine app_ok (d := 16) (e := 3) (s := 1) (b := 8) (x := .row 1 1 0 l3.length) (y := .row 17344 1 0 1) E3 (xs := l3) (ys := [x4]) (by kernel_rfl) rfl (.row 1 l3 l3.length rfl (by kernel_rfl)) (.all 17344 3 [x4] 1 rfl (by kernel_rfl)) g6 (by kernel_rfl) ?_
   refine s0 ?_
   obtain ⟨r7, e8, h⟩ := bd_ h
   refine call_ok (d := some 12) (fn := 108) (ax := [.agg (Y28 a0), .pv (.raw (.int .i64 (IntKind.i64.wrap (x4 + 1))))]) (ps := [((a0 0) : Int) = (a0 0), ((a0 1) : Int) = (a0 1), ((a0 2) : Int) = (a0 2), ((a0 3) : Int) = (a0 3), ((IntKind.i64.wrap (x4 + 1)) : Int) = (IntKind.i64.wrap (x4 + 1))]) (hb' := []) (by kernel_rfl) (bits_Next_ok _ _ _ e8 (al := true)) (by kernel_rfl) ⟨rfl, rfl, rfl, rfl, rfl, trivial⟩ (fun _ => (by kernel_rfl)) (by simp) rfl (by kernel_rfl) ?_
   refine s0 ?_
   refine back_ok (p := p1) (by kernel_rfl) (hp1 (n1, (l3 ++ [x4]), r7) _ h (Nat.lt_succ_self n1) ?_)
   exact sub_ok (ρ := [(0, some 0), (1, some 17408)]) (l := [0 = 0, 0 = 0, ((l3 ++ [x4]).length) = ((l3 ++ [x4]).length), (r7 : Int) = r7, ((a0 0) : Int) = (a0 0), ((a0 1) : Int) = (a0 1), ((a0 2) : Int) = (a0 2), ((a0 3) : Int) = (a0 3), E3.cR (l3 ++ [x4]) = E3.cR (l3 ++ [x4]), AllPv (E3.cR (l3 ++ [x4]))]) (by kernel_rfl) ⟨rfl, rfl, rfl, rfl, rfl, rfl, rfl, rfl, rfl, (Elem.cR_pv _ _), trivial⟩
  ·refine sk_leaf ?_
   obtain rfl := some_ h
   exact end_ok [(0, some 1)] Tryz.results94 (ps := [0 = 0, l3.length = l3.length, E3.cR l3 = E3.cR l3, AllPv (E3.cR l3)]) (by kernel_rfl) ⟨rfl, rfl, rfl, (Elem.cR_pv _ _), trivial⟩ (fun _ => ⟨rfl, by simp only [List.mem_cons, List.not_mem_nil, or_false, forall_eq_or_imp, forall_eq]; exact Elem.cR_bald E3_raw _⟩)
def Y107 (x0 : List (Nat → Int)) (x1 : Int) : List AV := [.pv (.raw (.int .u64 ((x0.getD (Int.toNat x1) (fun (_ : Nat) => (0 : Int))) 0))), .pv (.raw (.int .u64 ((x0.getD (Int.toNat x1) (fun (_ : Nat) => (0 : Int))) 1))), .pv (.raw (.int .u64 ((x0.getD (Int.toNat x1) (fun (_ : Nat) => (0 : Int))) 2))), .pv (.raw (.int .u64 ((x0.getD (Int.toNat x1) (fun (_ : Nat) => (0 : Int))) 3)))]
theorem vector_table_load_ok (a0 : Vector_table) (a1 : Int) (r : Int) (h : vector_table_load a0 a1 = some r) {al : Bool} : PCalls Tryz.prog 71 [.roat 3 (fun j => E96.cf a0 j), .pv (.raw (.int .i64 a1))] al (.pv (.raw (.int .i64 r))) [] := by
 unfold vector_table_load at h
 refine fn_ok tabOk Tryz.func71 (by kernel_rfl) (by kernel_rfl) Tryz.ntmps71 (by simp) ?_
 refine sg (S := .and (0 ≤ (a1 : Int) ∧ a1 < ((a0.taken_.length : Nat) : Int)) (.leaf 0)) ?_
 refine gd_ h ?_; clear h; intro g1 h
 refine sk_leaf ?_
 obtain ⟨r2, e3, h⟩ := bd_ h
 refine call_ok (d := some 12) (fn := 94) (ax := [.agg (Y107 a0.taken_ a1)]) (ps := [(((a0.taken_.getD (Int.toNat a1) (fun (_ : Nat) => (0 : Int))) 0) : Int) = ((a0.taken_.getD (Int.toNat a1) (fun (_ : Nat) => (0 : Int))) 0), (((a0.taken_.getD (Int.toNat a1) (fun (_ : Nat) => (0 : Int))) 1) : Int) = ((a0.taken_.getD (Int.toNat a1) (fun (_ : Nat) => (0 : Int))) 1), (((a0.taken_.getD (Int.toNat a1) (fun (_ : Nat) => (0 : Int))) 2) : Int) = ((a0.taken_.getD (Int.toNat a1) (fun (_ : Nat) => (0 : Int))) 2), (((a0.taken_.getD (Int.toNat a1) (fun (_ : Nat) => (0 : Int))) 3) : Int) = ((a0.taken_.getD (Int.toNat a1) (fun (_ : Nat) => (0 : Int))) 3)]) (hb' := [.row 3 1 (E3.cR r2)]) (by kernel_rfl) (bits_All_ok _ _ e3 (al := true)) (by kernel_rfl) ⟨rfl, rfl, rfl, rfl, trivial⟩ (fun _ => (by kernel_rfl)) (by simp) (by simp only [Y107, List.map_cons, List.map_nil, Elem.row_up, up_map] <;> rfl) (by kernel_rfl) ?_
 refine s0 ?_
 obtain rfl := some_ h
 exact end_ok [] Tryz.results71 (ps := [(((r2.length : Nat) : Int) : Int) = ((r2.length : Nat) : Int)]) (by kernel_rfl) ⟨rfl, trivial⟩ (fun _ => ⟨rfl, by simp⟩)
end Go.Proofs.YthmieigenefilaaGreatDoor
