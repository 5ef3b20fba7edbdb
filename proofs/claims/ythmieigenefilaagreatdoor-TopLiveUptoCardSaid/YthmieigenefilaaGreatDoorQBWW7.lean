import Derived.Test.YthmieigenefilaaGreatDoorQBWW6
set_option linter.unusedSimpArgs false
set_option linter.unusedVariables false
namespace Go.Proofs.YthmieigenefilaaGreatDoor
open Go Go.Ab
set_option maxHeartbeats 40000000
set_option maxRecDepth 100000
attribute [local irreducible] V VS runS Sk.Holds
def Y79 (x0 : Api_Whole) (x1 x2 : Nat) : List AV := [.row x1 1 0 x0.Device.length, .row x2 1 0 x0.Fetched.length, .pv ((E30.ro x0.Tty.Lines)), .pv ((E5.ro x0.Tty.Edit)), .pv (.raw (.int .i64 x0.Lost)), .pv (.raw (.int .i64 x0.Taken))]
def Y85 (x0 : (List AKO)) (x1 : Nat) : Bool := (((x0.getD x1 (⟨0, 0, 0, 0⟩ : AKO)).Kind : Int) == 3)
def Y110 (x0 : (List AKA)) (x1 : Nat) : List Prop := [((x0.getD (0 + x1) (⟨0, []⟩ : AKA)).Data).length = ((x0.getD (0 + x1) (⟨0, []⟩ : AKA)).Data).length, ∀ i, i < ((x0.getD (0 + x1) (⟨0, []⟩ : AKA)).Data).length → ∀ j, j < 1 → E5.cf (((x0.getD (0 + x1) (⟨0, []⟩ : AKA)).Data).getD i E5.z) j = E5.cf (((x0.getD (0 + x1) (⟨0, []⟩ : AKA)).Data).getD i E5.z) j]
theorem bench_Tell_ok (a0 : ByteArray) (r : (List ByteArray) × Int) (h : bench_Tell a0 = some r) {al : Bool} : PCalls Tryz.prog 16 [.pv (.raw (.string a0))] al (.tup [.row 0 1 0 r.1.length, .pv (.raw (.int .i64 r.2))]) [.row 9 1 (E9.cR r.1)] := by
 unfold bench_Tell at h
 refine fn_ok tabOk Tryz.func16 (by kernel_rfl) (by kernel_rfl) Tryz.ntmps16 (by simp) ?_
 refine s0 ?_
 obtain ⟨r1, e2, h⟩ := bd_ h
 refine callF_ok (d := some 18) (fn := 15) (ax := [.pv (.raw (.string a0))]) (args := [.pv (.raw (.string a0))]) (ps := [a0 = a0]) (hb' := [.row 26 4 (E26.cR r1.1)]) (ps2 := [r1.1.length = r1.1.length, rowQ (E26.cR r1.1) 4 0 r1.1.length (fun i j => E26.cf (r1.1.getD i E26.z) j), (r1.2.1 : Int) = r1.2.1, (r1.2.2 : Int) = r1.2.2]) (.tup [.pv ((E26.ro r1.1)), .pv (.raw (.int .i64 r1.2.1)), .pv (.raw (.int .i64 r1.2.2))]) (by kernel_rfl) (bench_Parse_ok _ _ e2 (al := true)) (by kernel_rfl) ⟨rfl, trivial⟩ (fun _ => (by kernel_rfl)) (by simp) (by simp only [List.map_cons, List.map_nil, Elem.row_up, up_map] <;> rfl) (by kernel_rfl) (by kernel_rfl) ⟨(by first | rfl | exact Elem.sub_len _ (by omega) | omega | simp | (simp <;> omega)), E26.rowQ_all r1.1 rfl, rfl, rfl, trivial⟩ ?_
 refine sg (S := .br ((r1.2.2 : Int) != 0) (.leaf 0) (.leaf 1)) ?_
 refine br_ h ?_ ?_ <;> clear h <;> intro c3 h
 ·refine sk_leaf ?_
  obtain rfl := some_ h
  exact end_ok [(0, none)] Tryz.results16 (ps := [0 = 0, ([] : List ByteArray).length = 0, (r1.2.2 : Int) = r1.2.2, E9.cR [] = []]) (by kernel_rfl) ⟨rfl, rfl, rfl, rfl, trivial⟩ (fun _ => ⟨rfl, by simp only [List.mem_cons, List.not_mem_nil, or_false, forall_eq_or_imp, forall_eq]; exact Elem.cR_bald E9_raw _⟩)
 ·refine sk_leaf ?_
  obtain ⟨r4, e5, h⟩ := bd_ h
  refine call_ok (d := some 27) (fn := 10) (ax := [.pv ((E26.ro r1.1))]) (ps := [r1.1.length = r1.1.length, ∀ i, i < r1.1.length → ∀ j, j < 4 → E26.cf (r1.1.getD i E26.z) j = E26.cf (r1.1.getD i E26.z) j]) (hb' := [.row 78 2 (E78.cR r4.1), .row 5 1 (E5.cR r4.2.Device), .row 5 1 (E5.cR r4.2.Fetched)]) (by kernel_rfl) (kernel_Play_ok _ _ e5) (by kernel_rfl) ⟨rfl, fun _ _ _ _ => rfl, trivial⟩ (fun _ => (by kernel_rfl)) (by simp) (by simp only [List.map_cons, List.map_nil, Elem.row_up, up_map] <;> rfl) (by kernel_rfl) ?_
  refine s0 ?_
  refine len_ro (by kernel_rfl) 4 (s := 4) (n := r1.1.length) (c := fun i j => E26.cf (r1.1.getD i E26.z) j) (by kernel_rfl) ?_; intro hl1_0
  refine len_row (by kernel_rfl) 18112 (e := 78) (s := 2) (n := r4.1.length) (cs := E78.cR r4.1) (by kernel_rfl) (Elem.cR_length _ _) ?_; intro hl1_1
  refine len_row (by kernel_rfl) 18113 (e := 5) (s := 1) (n := r4.2.Device.length) (cs := E5.cR r4.2.Device) (by kernel_rfl) (Elem.cR_length _ _) ?_; intro hl1_2
  refine len_row (by kernel_rfl) 18114 (e := 5) (s := 1) (n := r4.2.Fetched.length) (cs := E5.cR r4.2.Fetched) (by kernel_rfl) (Elem.cR_length _ _) ?_; intro hl1_3
  refine len_box (by kernel_rfl) 16896 2 (cs := (Y79 r4.2 18113 18114)) (by kernel_rfl) (s := 1) (n := r4.2.Tty.Lines.length) (c := fun i j => E30.cf (r4.2.Tty.Lines.getD i E30.z) j) rfl ?_; intro hl1_4
  refine len_box (by kernel_rfl) 16896 3 (cs := (Y79 r4.2 18113 18114)) (by kernel_rfl) (s := 1) (n := r4.2.Tty.Edit.length) (c := fun i j => E5.cf (r4.2.Tty.Edit.getD i E5.z) j) rfl ?_; intro hl1_5
  replace h : (fun (x : Nat × List ByteArray × Nat) => bench_Tell_l1 r1 r4 x.1 x.2.1 x.2.2 = some r) (FUEL, ([] : List ByteArray), 0) := h
  refine loop_ok (by kernel_rfl) (X := Nat × List ByteArray × Nat) (fun x => bench_Tell_l1 r1 r4 x.1 x.2.1 x.2.2 = some r) (fun x => x.1) (fun x => mk 100 [(2, .pv (.raw (.slice none 0 0))), (3, .pv (.raw (.int .i64 0))), (4, .pv ((E26.ro r1.1))), (8, .ptr 0 0), (9, .row 4 1 0 x.2.1.length), (30, .row 3 2 0 r4.1.length), (31, .pv (.raw (.int .i64 ((r4.1.length : Nat) : Int)))), (32, .pv (.raw (.int .i64 ((x.2.2 : Nat) : Int))))] [(0, .box (Y79 r4.2 1 2)), (1, .row 5 1 (E5.cR r4.2.Device)), (2, .row 5 1 (E5.cR r4.2.Fetched)), (3, .row 78 2 (E78.cR r4.1)), (4, .row 9 1 (E9.cR x.2.1))]) (FUEL, ([] : List ByteArray), 0) h ?_ ?_
  ·exact sub_ok (ρ := [(0, some 16896), (1, some 18113), (2, some 18114), (3, some 18112), (4, none)]) (l := [(0 : Int) = 0, r1.1.length = r1.1.length, ∀ i, i < r1.1.length → ∀ j, j < 4 → E26.cf (r1.1.getD i E26.z) j = E26.cf (r1.1.getD i E26.z) j, 0 = 0, 0 = 0, (([] : List ByteArray).length) = 0, 0 = 0, r4.1.length = r4.1.length, (((r4.1.length : Nat) : Int) : Int) = ((r4.1.length : Nat) : Int), (0 : Int) = ((0 : Nat) : Int), 0 = 0, r4.2.Device.length = r4.2.Device.length, 0 = 0, r4.2.Fetched.length = r4.2.Fetched.length, r4.2.Tty.Lines.length = r4.2.Tty.Lines.length, ∀ i, i < r4.2.Tty.Lines.length → ∀ j, j < 1 → E30.cf (r4.2.Tty.Lines.getD i E30.z) j = E30.cf (r4.2.Tty.Lines.getD i E30.z) j, r4.2.Tty.Edit.length = r4.2.Tty.Edit.length, ∀ i, i < r4.2.Tty.Edit.length → ∀ j, j < 1 → E5.cf (r4.2.Tty.Edit.getD i E5.z) j = E5.cf (r4.2.Tty.Edit.getD i E5.z) j, (r4.2.Lost : Int) = r4.2.Lost, (r4.2.Taken : Int) = r4.2.Taken, E5.cR r4.2.Device = E5.cR r4.2.Device, AllPv (E5.cR r4.2.Device), E5.cR r4.2.Fetched = E5.cR r4.2.Fetched, AllPv (E5.cR r4.2.Fetched), E78.cR r4.1 = E78.cR r4.1, AllPv (E78.cR r4.1), E9.cR ([] : List ByteArray) = []]) (by kernel_rfl) ⟨rfl, rfl, fun _ _ _ _ => rfl, rfl, rfl, (by first | rfl | simp), rfl, rfl, rfl, (by first | rfl | simp), rfl, rfl, rfl, rfl, rfl, fun _ _ _ _ => rfl, rfl, fun _ _ _ _ => rfl, rfl, rfl, rfl, (Elem.cR_pv _ _), rfl, (Elem.cR_pv _ _), rfl, (Elem.cR_pv _ _), rfl, trivial⟩
  ·clear h; rintro ⟨n1, l6, k7⟩ h p1 hp1
   obtain _ | n1 := n1
   ·cases (show (none : Option ((List ByteArray) × Int)) = some r from h)
   have h : bench_Tell_l1 r1 r4 (n1 + 1) l6 k7 = some r := h
   unfold bench_Tell_l1 at h
   refine sg (S := .br (decide ((((k7 : Nat) : Int) : Int) < ((r4.1.length : Nat) : Int))) (.and (0 ≤ (((k7 : Nat) : Int) : Int) ∧ ((k7 : Nat) : Int) < ((r4.1.length : Nat) : Int)) (.leaf 0)) (.leaf 1)) ?_
   refine br_ h ?_ ?_ <;> clear h <;> intro c8 h
   ·refine sk_and ⟨Int.natCast_nonneg _, of_decide_eq_true c8⟩ ?_
    refine sk_leaf ?_
    refine lda_ok (d := 36) (id := 3) (i := (0 + k7)) (e := 78) (n := 2) E78 (xs := r4.1) (by kernel_rfl) (by kernel_rfl) (by first | omega | (simp at * <;> omega) | (simp_all <;> omega)) rfl ?_
    refine sg (S := .br (((r4.1.getD (0 + k7) (⟨0, []⟩ : AKA)).Err : Int) != 0) (.leaf 0) (.and (0 ≤ (((k7 : Nat) : Int) : Int) ∧ ((k7 : Nat) : Int) < ((r1.1.length : Nat) : Int)) (.and (((Y85 r1.1 k7) = true → ((Y85 r1.1 k7) = true))) (.and (((Y85 r1.1 k7) = true → ((Y85 r1.1 k7) = true))) (.and ((Y85 r1.1 k7) = true → (Y85 r1.1 k7) = true) (.br ((((r1.1.getD k7 (⟨0, 0, 0, 0⟩ : AKO)).Kind : Int) == 3) && (((r4.1.getD (0 + k7) (⟨0, []⟩ : AKA)).Err : Int) == 0)) (.leaf 1) (.leaf 2))))))) ?_
    refine br_ h ?_ ?_ <;> clear h <;> intro c10 h
    ·refine sk_leaf ?_
     obtain ⟨r11, e12, h⟩ := bd_ h
     refine call_ok (d := some 42) (fn := 31) (ax := [.pv (.raw (.int .i64 ((r4.1.getD (0 + k7) (⟨0, []⟩ : AKA)).Err)))]) (ps := [((r4.1.getD (0 + k7) (⟨0, []⟩ : AKA)).Err : Int) = ((r4.1.getD (0 + k7) (⟨0, []⟩ : AKA)).Err)]) (hb' := []) (by kernel_rfl) (bn_itoa_ok _ _ e12 (al := true)) (by kernel_rfl) ⟨(by first | rfl | (simp; done) | omega | (simp <;> omega)), trivial⟩ (fun _ => (by kernel_rfl)) (by simp) rfl (by kernel_rfl) ?_
     refine sg (S := .and ((bytesOf [101, 114, 114, 111, 114, 32]).size + r11.size ≤ 9223372036854775807) (.and (0 ≤ (((k7 : Nat) : Int) : Int) ∧ ((k7 : Nat) : Int) < ((r1.1.length : Nat) : Int)) (.and (((Y85 r1.1 k7) = true → ((Y85 r1.1 k7) = true))) (.and (((Y85 r1.1 k7) = true → ((Y85 r1.1 k7) = true))) (.and ((Y85 r1.1 k7) = true → (Y85 r1.1 k7) = true) (.br ((((r1.1.getD k7 (⟨0, 0, 0, 0⟩ : AKO)).Kind : Int) == 3) && (((r4.1.getD (0 + k7) (⟨0, []⟩ : AKA)).Err : Int) == 0)) (.leaf 0) (.leaf 1))))))) ?_
     refine gd_ h ?_; clear h; intro g13 h
     refine gd_ h ?_; clear h; intro g14 h
     refine sk_and (fun h => h) ?_
     refine sk_and (fun h => h) ?_
     refine sk_and (fun h => h) ?_
     refine br_ h ?_ ?_ <;> clear h <;> intro c18 h
     ·refine sk_leaf ?_
      obtain ⟨r19, e20, h⟩ := bd_ h
      refine call_ok (d := some 58) (fn := 32) (ax := [.pv ((E5.ro ((r4.1.getD (0 + k7) (⟨0, []⟩ : AKA)).Data)))]) (ps := (Y110 r4.1 k7)) (hb' := []) (by kernel_rfl) (bn_hex_ok _ _ e20 (al := true)) (by kernel_rfl) ⟨(by first | rfl | simp_all), (by intros; first | rfl | simp_all), trivial⟩ (fun _ => (by kernel_rfl)) (by simp) rfl (by kernel_rfl) ?_
      refine sg (S := .and ((bytesOf [32]).size + r19.size ≤ 9223372036854775807) (.and (((bytesOf [101, 114, 114, 111, 114, 32]) ++ r11).size + ((bytesOf [32]) ++ r19).size ≤ 9223372036854775807) (.leaf 0))) ?_
      refine gd_ h ?_; clear h; intro g21 h
      refine gd_ h ?_; clear h; intro g22 h
      refine sk_leaf ?_
      refine bs_ok (d := 63) (e := 9) (s := 1) (n := 1) (cs := [.pv (.raw (.string (((bytesOf [101, 114, 114, 111, 114, 32]) ++ r11) ++ ((bytesOf [32]) ++ r19))))]) (cs' := E9.cR [(((bytesOf [101, 114, 114, 111, 114, 32]) ++ r11) ++ ((bytesOf [32]) ++ r19))]) (by kernel_rfl) rfl (by kernel_rfl) ?_
      refine s0 ?_
      obtain ⟨g23, h⟩ := if_ h
      refine app_ok (d := 64) (e := 9) (s := 1) (b := 16) (x := .row 4 1 0 l6.length) (y := .row 20416 1 0 1) E9 (xs := l6) (ys := [(((bytesOf [101, 114, 114, 111, 114, 32]) ++ r11) ++ ((bytesOf [32]) ++ r19))]) (by kernel_rfl) rfl (.row 4 l6 l6.length rfl (by kernel_rfl)) (.all 20416 9 [(((bytesOf [101, 114, 114, 111, 114, 32]) ++ r11) ++ ((bytesOf [32]) ++ r19))] 1 rfl (by kernel_rfl)) g23 (by kernel_rfl) ?_
      refine s0 ?_
      refine back_ok (p := p1) (by kernel_rfl) (hp1 (n1, (l6 ++ [(((bytesOf [101, 114, 114, 111, 114, 32]) ++ r11) ++ ((bytesOf [32]) ++ r19))]), k7 + 1) _ h (Nat.lt_succ_self n1) ?_)
      exact sub_ok (ρ := (rI 0 0 4 ++ ([(4, some 20480)]))) (l := [(0 : Int) = 0, r1.1.length = r1.1.length, ∀ i, i < r1.1.length → ∀ j, j < 4 → E26.cf (r1.1.getD i E26.z) j = E26.cf (r1.1.getD i E26.z) j, 0 = 0, 0 = 0, ((l6 ++ [(((bytesOf [101, 114, 114, 111, 114, 32]) ++ r11) ++ ((bytesOf [32]) ++ r19))]).length) = ((l6 ++ [(((bytesOf [101, 114, 114, 111, 114, 32]) ++ r11) ++ ((bytesOf [32]) ++ r19))]).length), 0 = 0, r4.1.length = r4.1.length, (((r4.1.length : Nat) : Int) : Int) = ((r4.1.length : Nat) : Int), ((IntKind.i64.wrap (((k7 : Nat) : Int) + 1)) : Int) = (((k7 + 1) : Nat) : Int), 0 = 0, r4.2.Device.length = r4.2.Device.length, 0 = 0, r4.2.Fetched.length = r4.2.Fetched.length, r4.2.Tty.Lines.length = r4.2.Tty.Lines.length, ∀ i, i < r4.2.Tty.Lines.length → ∀ j, j < 1 → E30.cf (r4.2.Tty.Lines.getD i E30.z) j = E30.cf (r4.2.Tty.Lines.getD i E30.z) j, r4.2.Tty.Edit.length = r4.2.Tty.Edit.length, ∀ i, i < r4.2.Tty.Edit.length → ∀ j, j < 1 → E5.cf (r4.2.Tty.Edit.getD i E5.z) j = E5.cf (r4.2.Tty.Edit.getD i E5.z) j, (r4.2.Lost : Int) = r4.2.Lost, (r4.2.Taken : Int) = r4.2.Taken, E5.cR r4.2.Device = E5.cR r4.2.Device, AllPv (E5.cR r4.2.Device), E5.cR r4.2.Fetched = E5.cR r4.2.Fetched, AllPv (E5.cR r4.2.Fetched), E78.cR r4.1 = E78.cR r4.1, AllPv (E78.cR r4.1), E9.cR (l6 ++ [(((bytesOf [101, 114, 114, 111, 114, 32]) ++ r11) ++ ((bytesOf [32]) ++ r19))]) = E9.cR (l6 ++ [(((bytesOf [101, 114, 114, 111, 114, 32]) ++ r11) ++ ((bytesOf [32]) ++ r19))]), AllPv (E9.cR (l6 ++ [(((bytesOf [101, 114, 114, 111, 114, 32]) ++ r11) ++ ((bytesOf [32]) ++ r19))]))]) (by kernel_rfl) ⟨rfl, rfl, fun _ _ _ _ => rfl, rfl, rfl, rfl, rfl, rfl, rfl, (wrap_nat (Int.ofNat_lt.1 (of_decide_eq_true c8)) (by omega)), rfl, rfl, rfl, rfl, rfl, fun _ _ _ _ => rfl, rfl, fun _ _ _ _ => rfl, rfl, rfl, rfl, (Elem.cR_pv _ _), rfl, (Elem.cR_pv _ _), rfl, (Elem.cR_pv _ _), rfl, (Elem.cR_pv _ _), trivial⟩
     ·refine sk_leaf ?_
      refine bs_ok (d := 63) (e := 9) (s := 1) (n := 1) (cs := [.pv (.raw (.string ((bytesOf [101, 114, 114, 111, 114, 32]) ++ r11)))]) (cs' := E9.cR [((bytesOf [101, 114, 114, 111, 114, 32]) ++ r11)]) (by kernel_rfl) rfl (by kernel_rfl) ?_
      refine s0 ?_
      obtain ⟨g24, h⟩ := if_ h
      refine app_ok (d := 64) (e := 9) (s := 1) (b := 16) (x := .row 4 1 0 l6.length) (y := .row 20416 1 0 1) E9 (xs := l6) (ys := [((bytesOf [101, 114, 114, 111, 114, 32]) ++ r11)]) (by kernel_rfl) rfl (.row 4 l6 l6.length rfl (by kernel_rfl)) (.all 20416 9 [((bytesOf [101, 114, 114, 111, 114, 32]) ++ r11)] 1 rfl (by kernel_rfl)) g24 (by kernel_rfl) ?_
      refine s0 ?_
      refine back_ok (p := p1) (by kernel_rfl) (hp1 (n1, (l6 ++ [((bytesOf [101, 114, 114, 111, 114, 32]) ++ r11)]), k7 + 1) _ h (Nat.lt_succ_self n1) ?_)
      exact sub_ok (ρ := (rI 0 0 4 ++ ([(4, some 20480)]))) (l := [(0 : Int) = 0, r1.1.length = r1.1.length, ∀ i, i < r1.1.length → ∀ j, j < 4 → E26.cf (r1.1.getD i E26.z) j = E26.cf (r1.1.getD i E26.z) j, 0 = 0, 0 = 0, ((l6 ++ [((bytesOf [101, 114, 114, 111, 114, 32]) ++ r11)]).length) = ((l6 ++ [((bytesOf [101, 114, 114, 111, 114, 32]) ++ r11)]).length), 0 = 0, r4.1.length = r4.1.length, (((r4.1.length : Nat) : Int) : Int) = ((r4.1.length : Nat) : Int), ((IntKind.i64.wrap (((k7 : Nat) : Int) + 1)) : Int) = (((k7 + 1) : Nat) : Int), 0 = 0, r4.2.Device.length = r4.2.Device.length, 0 = 0, r4.2.Fetched.length = r4.2.Fetched.length, r4.2.Tty.Lines.length = r4.2.Tty.Lines.length, ∀ i, i < r4.2.Tty.Lines.length → ∀ j, j < 1 → E30.cf (r4.2.Tty.Lines.getD i E30.z) j = E30.cf (r4.2.Tty.Lines.getD i E30.z) j, r4.2.Tty.Edit.length = r4.2.Tty.Edit.length, ∀ i, i < r4.2.Tty.Edit.length → ∀ j, j < 1 → E5.cf (r4.2.Tty.Edit.getD i E5.z) j = E5.cf (r4.2.Tty.Edit.getD i E5.z) j, (r4.2.Lost : Int) = r4.2.Lost, (r4.2.Taken : Int) = r4.2.Taken, E5.cR r4.2.Device = E5.cR r4.2.Device, AllPv (E5.cR r4.2.Device), E5.cR r4.2.Fetched = E5.cR r4.2.Fetched, AllPv (E5.cR r4.2.Fetched), E78.cR r4.1 = E78.cR r4.1, AllPv (E78.cR r4.1), E9.cR (l6 ++ [((bytesOf [101, 114, 114, 111, 114, 32]) ++ r11)]) = E9.cR (l6 ++ [((bytesOf [101, 114, 114, 111, 114, 32]) ++ r11)]), AllPv (E9.cR (l6 ++ [((bytesOf [101, 114, 114, 111, 114, 32]) ++ r11)]))]) (by kernel_rfl) ⟨rfl, rfl, fun _ _ _ _ => rfl, rfl, rfl, rfl, rfl, rfl, rfl, (wrap_nat (Int.ofNat_lt.1 (of_decide_eq_true c8)) (by omega)), rfl, rfl, rfl, rfl, rfl, fun _ _ _ _ => rfl, rfl, fun _ _ _ _ => rfl, rfl, rfl, rfl, (Elem.cR_pv _ _), rfl, (Elem.cR_pv _ _), rfl, (Elem.cR_pv _ _), rfl, (Elem.cR_pv _ _), trivial⟩
    ·refine gd_ h ?_; clear h; intro g25 h
     refine sk_and (fun h => h) ?_
     refine sk_and (fun h => h) ?_
     refine sk_and (fun h => h) ?_
     refine br_ h ?_ ?_ <;> clear h <;> intro c29 h
     ·refine sk_leaf ?_
      obtain ⟨r30, e31, h⟩ := bd_ h
      refine call_ok (d := some 58) (fn := 32) (ax := [.pv ((E5.ro ((r4.1.getD (0 + k7) (⟨0, []⟩ : AKA)).Data)))]) (ps := (Y110 r4.1 k7)) (hb' := []) (by kernel_rfl) (bn_hex_ok _ _ e31 (al := true)) (by kernel_rfl) ⟨(by first | rfl | simp_all), (by intros; first | rfl | simp_all), trivial⟩ (fun _ => (by kernel_rfl)) (by simp) rfl (by kernel_rfl) ?_
      refine sg (S := .and ((bytesOf [32]).size + r30.size ≤ 9223372036854775807) (.and ((bytesOf [111, 107]).size + ((bytesOf [32]) ++ r30).size ≤ 9223372036854775807) (.leaf 0))) ?_
      refine gd_ h ?_; clear h; intro g32 h
      refine gd_ h ?_; clear h; intro g33 h
      refine sk_leaf ?_
      refine bs_ok (d := 63) (e := 9) (s := 1) (n := 1) (cs := [.pv (.raw (.string ((bytesOf [111, 107]) ++ ((bytesOf [32]) ++ r30))))]) (cs' := E9.cR [((bytesOf [111, 107]) ++ ((bytesOf [32]) ++ r30))]) (by kernel_rfl) rfl (by kernel_rfl) ?_
      refine s0 ?_
      obtain ⟨g34, h⟩ := if_ h
      refine app_ok (d := 64) (e := 9) (s := 1) (b := 16) (x := .row 4 1 0 l6.length) (y := .row 20416 1 0 1) E9 (xs := l6) (ys := [((bytesOf [111, 107]) ++ ((bytesOf [32]) ++ r30))]) (by kernel_rfl) rfl (.row 4 l6 l6.length rfl (by kernel_rfl)) (.all 20416 9 [((bytesOf [111, 107]) ++ ((bytesOf [32]) ++ r30))] 1 rfl (by kernel_rfl)) g34 (by kernel_rfl) ?_
      refine s0 ?_
      refine back_ok (p := p1) (by kernel_rfl) (hp1 (n1, (l6 ++ [((bytesOf [111, 107]) ++ ((bytesOf [32]) ++ r30))]), k7 + 1) _ h (Nat.lt_succ_self n1) ?_)
      exact sub_ok (ρ := (rI 0 0 4 ++ ([(4, some 20480)]))) (l := [(0 : Int) = 0, r1.1.length = r1.1.length, ∀ i, i < r1.1.length → ∀ j, j < 4 → E26.cf (r1.1.getD i E26.z) j = E26.cf (r1.1.getD i E26.z) j, 0 = 0, 0 = 0, ((l6 ++ [((bytesOf [111, 107]) ++ ((bytesOf [32]) ++ r30))]).length) = ((l6 ++ [((bytesOf [111, 107]) ++ ((bytesOf [32]) ++ r30))]).length), 0 = 0, r4.1.length = r4.1.length, (((r4.1.length : Nat) : Int) : Int) = ((r4.1.length : Nat) : Int), ((IntKind.i64.wrap (((k7 : Nat) : Int) + 1)) : Int) = (((k7 + 1) : Nat) : Int), 0 = 0, r4.2.Device.length = r4.2.Device.length, 0 = 0, r4.2.Fetched.length = r4.2.Fetched.length, r4.2.Tty.Lines.length = r4.2.Tty.Lines.length, ∀ i, i < r4.2.Tty.Lines.length → ∀ j, j < 1 → E30.cf (r4.2.Tty.Lines.getD i E30.z) j = E30.cf (r4.2.Tty.Lines.getD i E30.z) j, r4.2.Tty.Edit.length = r4.2.Tty.Edit.length, ∀ i, i < r4.2.Tty.Edit.length → ∀ j, j < 1 → E5.cf (r4.2.Tty.Edit.getD i E5.z) j = E5.cf (r4.2.Tty.Edit.getD i E5.z) j, (r4.2.Lost : Int) = r4.2.Lost, (r4.2.Taken : Int) = r4.2.Taken, E5.cR r4.2.Device = E5.cR r4.2.Device, AllPv (E5.cR r4.2.Device), E5.cR r4.2.Fetched = E5.cR r4.2.Fetched, AllPv (E5.cR r4.2.Fetched), E78.cR r4.1 = E78.cR r4.1, AllPv (E78.cR r4.1), E9.cR (l6 ++ [((bytesOf [111, 107]) ++ ((bytesOf [32]) ++ r30))]) = E9.cR (l6 ++ [((bytesOf [111, 107]) ++ ((bytesOf [32]) ++ r30))]), AllPv (E9.cR (l6 ++ [((bytesOf [111, 107]) ++ ((bytesOf [32]) ++ r30))]))]) (by kernel_rfl) ⟨rfl, rfl, fun _ _ _ _ => rfl, rfl, rfl, rfl, rfl, rfl, rfl, (wrap_nat (Int.ofNat_lt.1 (of_decide_eq_true c8)) (by omega)), rfl, rfl, rfl, rfl, rfl, fun _ _ _ _ => rfl, rfl, fun _ _ _ _ => rfl, rfl, rfl, rfl, (Elem.cR_pv _ _), rfl, (Elem.cR_pv _ _), rfl, (Elem.cR_pv _ _), rfl, (Elem.cR_pv _ _), trivial⟩
     ·refine sk_leaf ?_
      refine bs_ok (d := 63) (e := 9) (s := 1) (n := 1) (cs := [.pv (.raw (.string (bytesOf [111, 107])))]) (cs' := E9.cR [(bytesOf [111, 107])]) (by kernel_rfl) rfl (by kernel_rfl) ?_
      refine s0 ?_
      obtain ⟨g35, h⟩ := if_ h
      refine app_ok (d := 64) (e := 9) (s := 1) (b := 16) (x := .row 4 1 0 l6.length) (y := .row 20416 1 0 1) E9 (xs := l6) (ys := [(bytesOf [111, 107])]) (by kernel_rfl) rfl (.row 4 l6 l6.length rfl (by kernel_rfl)) (.all 20416 9 [(bytesOf [111, 107])] 1 rfl (by kernel_rfl)) g35 (by kernel_rfl) ?_
      refine s0 ?_
      refine back_ok (p := p1) (by kernel_rfl) (hp1 (n1, (l6 ++ [(bytesOf [111, 107])]), k7 + 1) _ h (Nat.lt_succ_self n1) ?_)
      exact sub_ok (ρ := (rI 0 0 4 ++ ([(4, some 20480)]))) (l := [(0 : Int) = 0, r1.1.length = r1.1.length, ∀ i, i < r1.1.length → ∀ j, j < 4 → E26.cf (r1.1.getD i E26.z) j = E26.cf (r1.1.getD i E26.z) j, 0 = 0, 0 = 0, ((l6 ++ [(bytesOf [111, 107])]).length) = ((l6 ++ [(bytesOf [111, 107])]).length), 0 = 0, r4.1.length = r4.1.length, (((r4.1.length : Nat) : Int) : Int) = ((r4.1.length : Nat) : Int), ((IntKind.i64.wrap (((k7 : Nat) : Int) + 1)) : Int) = (((k7 + 1) : Nat) : Int), 0 = 0, r4.2.Device.length = r4.2.Device.length, 0 = 0, r4.2.Fetched.length = r4.2.Fetched.length, r4.2.Tty.Lines.length = r4.2.Tty.Lines.length, ∀ i, i < r4.2.Tty.Lines.length → ∀ j, j < 1 → E30.cf (r4.2.Tty.Lines.getD i E30.z) j = E30.cf (r4.2.Tty.Lines.getD i E30.z) j, r4.2.Tty.Edit.length = r4.2.Tty.Edit.length, ∀ i, i < r4.2.Tty.Edit.length → ∀ j, j < 1 → E5.cf (r4.2.Tty.Edit.getD i E5.z) j = E5.cf (r4.2.Tty.Edit.getD i E5.z) j, (r4.2.Lost : Int) = r4.2.Lost, (r4.2.Taken : Int) = r4.2.Taken, E5.cR r4.2.Device = E5.cR r4.2.Device, AllPv (E5.cR r4.2.Device), E5.cR r4.2.Fetched = E5.cR r4.2.Fetched, AllPv (E5.cR r4.2.Fetched), E78.cR r4.1 = E78.cR r4.1, AllPv (E78.cR r4.1), E9.cR (l6 ++ [(bytesOf [111, 107])]) = E9.cR (l6 ++ [(bytesOf [111, 107])]), AllPv (E9.cR (l6 ++ [(bytesOf [111, 107])]))]) (by kernel_rfl) ⟨rfl, rfl, fun _ _ _ _ => rfl, rfl, rfl, rfl, rfl, rfl, rfl, (wrap_nat (Int.ofNat_lt.1 (of_decide_eq_true c8)) (by omega)), rfl, rfl, rfl, rfl, rfl, fun _ _ _ _ => rfl, rfl, fun _ _ _ _ => rfl, rfl, rfl, rfl, (Elem.cR_pv _ _), rfl, (Elem.cR_pv _ _), rfl, (Elem.cR_pv _ _), rfl, (Elem.cR_pv _ _), trivial⟩
   ·refine sk_leaf ?_
    refine bs_ok (d := 84) (e := 3) (s := 1) (n := 6) (cs := [.pv (.raw (.int .i64 ((r4.2.Device.length : Nat) : Int))), .pv (.raw (.int .i64 ((r4.2.Fetched.length : Nat) : Int))), .pv (.raw (.int .i64 ((r4.2.Tty.Lines.length : Nat) : Int))), .pv (.raw (.int .i64 ((r4.2.Tty.Edit.length : Nat) : Int))), .pv (.raw (.int .i64 r4.2.Lost)), .pv (.raw (.int .i64 r4.2.Taken))]) (cs' := E3.cR [((r4.2.Device.length : Nat) : Int), ((r4.2.Fetched.length : Nat) : Int), ((r4.2.Tty.Lines.length : Nat) : Int), ((r4.2.Tty.Edit.length : Nat) : Int), r4.2.Lost, r4.2.Taken]) (by kernel_rfl) rfl (by kernel_rfl) ?_
    refine s0 ?_
    refine len_row (by kernel_rfl) 4 (e := 9) (s := 1) (n := l6.length) (cs := E9.cR l6) (by kernel_rfl) (Elem.cR_length _ _) ?_; intro hl2_0
    refine len_box (by kernel_rfl) 0 2 (cs := (Y79 r4.2 1 2)) (by kernel_rfl) (s := 1) (n := r4.2.Tty.Lines.length) (c := fun i j => E30.cf (r4.2.Tty.Lines.getD i E30.z) j) rfl ?_; intro hl2_1
    refine len_box (by kernel_rfl) 0 3 (cs := (Y79 r4.2 1 2)) (by kernel_rfl) (s := 1) (n := r4.2.Tty.Edit.length) (c := fun i j => E5.cf (r4.2.Tty.Edit.getD i E5.z) j) rfl ?_; intro hl2_2
    refine len_row (by kernel_rfl) 1 (e := 5) (s := 1) (n := r4.2.Device.length) (cs := E5.cR r4.2.Device) (by kernel_rfl) (Elem.cR_length _ _) ?_; intro hl2_3
    refine len_row (by kernel_rfl) 2 (e := 5) (s := 1) (n := r4.2.Fetched.length) (cs := E5.cR r4.2.Fetched) (by kernel_rfl) (Elem.cR_length _ _) ?_; intro hl2_4
    refine len_row (by kernel_rfl) 3 (e := 78) (s := 2) (n := r4.1.length) (cs := E78.cR r4.1) (by kernel_rfl) (Elem.cR_length _ _) ?_; intro hl2_5
    refine len_row (by kernel_rfl) 21760 (e := 3) (s := 1) (n := [((r4.2.Device.length : Nat) : Int), ((r4.2.Fetched.length : Nat) : Int), ((r4.2.Tty.Lines.length : Nat) : Int), ((r4.2.Tty.Edit.length : Nat) : Int), r4.2.Lost, r4.2.Taken].length) (cs := E3.cR [((r4.2.Device.length : Nat) : Int), ((r4.2.Fetched.length : Nat) : Int), ((r4.2.Tty.Lines.length : Nat) : Int), ((r4.2.Tty.Edit.length : Nat) : Int), r4.2.Lost, r4.2.Taken]) (by kernel_rfl) (Elem.cR_length _ _) ?_; intro hl2_6
    replace h : (fun (x : Nat × ByteArray × Nat) => bench_Tell_l2 r4 l6 x.1 x.2.1 x.2.2 = some r) (FUEL, (bytesOf [108, 101, 102, 116]), 0) := h
    refine loop_ok (by kernel_rfl) (X := Nat × ByteArray × Nat) (fun x => bench_Tell_l2 r4 l6 x.1 x.2.1 x.2.2 = some r) (fun x => x.1) (fun x => mk 100 [(2, .pv (.raw (.slice none 0 0))), (3, .pv (.raw (.int .i64 0))), (9, .row 0 1 0 l6.length), (13, .pv (.raw (.string x.2.1))), (84, .row 1 1 0 ([((r4.2.Device.length : Nat) : Int), ((r4.2.Fetched.length : Nat) : Int), ((r4.2.Tty.Lines.length : Nat) : Int), ((r4.2.Tty.Edit.length : Nat) : Int), r4.2.Lost, r4.2.Taken].length)), (85, .pv (.raw (.int .i64 ((6 : Nat) : Int)))), (86, .pv (.raw (.int .i64 ((x.2.2 : Nat) : Int))))] [(0, .row 9 1 (E9.cR l6)), (1, .row 3 1 (E3.cR [((r4.2.Device.length : Nat) : Int), ((r4.2.Fetched.length : Nat) : Int), ((r4.2.Tty.Lines.length : Nat) : Int), ((r4.2.Tty.Edit.length : Nat) : Int), r4.2.Lost, r4.2.Taken]))]) (FUEL, (bytesOf [108, 101, 102, 116]), 0) h ?_ ?_
    ·exact sub_ok (ρ := [(0, some 4), (1, some 21760)]) (l := [(0 : Int) = 0, 0 = 0, l6.length = l6.length, (bytesOf [108, 101, 102, 116]) = (bytesOf [108, 101, 102, 116]), 0 = 0, 6 = ([((r4.2.Device.length : Nat) : Int), ((r4.2.Fetched.length : Nat) : Int), ((r4.2.Tty.Lines.length : Nat) : Int), ((r4.2.Tty.Edit.length : Nat) : Int), r4.2.Lost, r4.2.Taken].length), (((6 : Nat) : Int) : Int) = ((6 : Nat) : Int), (0 : Int) = ((0 : Nat) : Int), E9.cR l6 = E9.cR l6, AllPv (E9.cR l6), E3.cR [((r4.2.Device.length : Nat) : Int), ((r4.2.Fetched.length : Nat) : Int), ((r4.2.Tty.Lines.length : Nat) : Int), ((r4.2.Tty.Edit.length : Nat) : Int), r4.2.Lost, r4.2.Taken] = E3.cR [((r4.2.Device.length : Nat) : Int), ((r4.2.Fetched.length : Nat) : Int), ((r4.2.Tty.Lines.length : Nat) : Int), ((r4.2.Tty.Edit.length : Nat) : Int), r4.2.Lost, r4.2.Taken], AllPv (E3.cR [((r4.2.Device.length : Nat) : Int), ((r4.2.Fetched.length : Nat) : Int), ((r4.2.Tty.Lines.length : Nat) : Int), ((r4.2.Tty.Edit.length : Nat) : Int), r4.2.Lost, r4.2.Taken])]) (by kernel_rfl) ⟨rfl, rfl, rfl, rfl, rfl, (by first | rfl | simp), rfl, (by first | rfl | simp), rfl, (Elem.cR_pv _ _), rfl, (Elem.cR_pv _ _), trivial⟩
    ·clear h; rintro ⟨n2, s36, k37⟩ h p2 hp2
     obtain _ | n2 := n2
     ·cases (show (none : Option ((List ByteArray) × Int)) = some r from h)
     have h : bench_Tell_l2 r4 l6 (n2 + 1) s36 k37 = some r := h
     unfold bench_Tell_l2 at h
     refine sg (S := .br (decide ((((k37 : Nat) : Int) : Int) < ((6 : Nat) : Int))) (.and (0 ≤ (((k37 : Nat) : Int) : Int) ∧ ((k37 : Nat) : Int) < (([((r4.2.Device.length : Nat) : Int), ((r4.2.Fetched.length : Nat) : Int), ((r4.2.Tty.Lines.length : Nat) : Int), ((r4.2.Tty.Edit.length : Nat) : Int), r4.2.Lost, r4.2.Taken].length : Nat) : Int)) (.leaf 0)) (.leaf 1)) ?_
     refine br_ h ?_ ?_ <;> clear h <;> intro c38 h
     ·refine gd_ h ?_; clear h; intro g39 h
      refine sk_leaf ?_
      refine ld_ok (d := 89) (id := 1) (i := (0 + k37)) (j := 0) (e := 3) (n := 1) E3 (xs := [((r4.2.Device.length : Nat) : Int), ((r4.2.Fetched.length : Nat) : Int), ((r4.2.Tty.Lines.length : Nat) : Int), ((r4.2.Tty.Edit.length : Nat) : Int), r4.2.Lost, r4.2.Taken]) (by kernel_rfl) (by kernel_rfl) (by first | omega | (simp at * <;> omega) | (simp_all <;> omega)) (by exact Nat.le_of_ble_eq_true rfl) ?_
      refine s0 ?_
      obtain ⟨r40, e41, h⟩ := bd_ h
      refine call_ok (d := some 92) (fn := 31) (ax := [.pv (.raw (.int .i64 ([((r4.2.Device.length : Nat) : Int), ((r4.2.Fetched.length : Nat) : Int), ((r4.2.Tty.Lines.length : Nat) : Int), ((r4.2.Tty.Edit.length : Nat) : Int), r4.2.Lost, r4.2.Taken].getD (0 + k37) 0)))]) (ps := [(([((r4.2.Device.length : Nat) : Int), ((r4.2.Fetched.length : Nat) : Int), ((r4.2.Tty.Lines.length : Nat) : Int), ((r4.2.Tty.Edit.length : Nat) : Int), r4.2.Lost, r4.2.Taken].getD (0 + k37) 0) : Int) = ([((r4.2.Device.length : Nat) : Int), ((r4.2.Fetched.length : Nat) : Int), ((r4.2.Tty.Lines.length : Nat) : Int), ((r4.2.Tty.Edit.length : Nat) : Int), r4.2.Lost, r4.2.Taken].getD (0 + k37) 0)]) (hb' := []) (by kernel_rfl) (bn_itoa_ok _ _ e41 (al := true)) (by kernel_rfl) ⟨rfl, trivial⟩ (fun _ => (by kernel_rfl)) (by simp) rfl (by kernel_rfl) ?_
      refine sg (S := .and ((bytesOf [32]).size + r40.size ≤ 9223372036854775807) (.and (s36.size + ((bytesOf [32]) ++ r40).size ≤ 9223372036854775807) (.leaf 0))) ?_
      refine gd_ h ?_; clear h; intro g42 h
      refine gd_ h ?_; clear h; intro g43 h
      refine sk_leaf ?_
      refine back_ok (p := p2) (by kernel_rfl) (hp2 (n2, (s36 ++ ((bytesOf [32]) ++ r40)), k37 + 1) _ h (Nat.lt_succ_self n2) ?_)
      exact sub_ok (ρ := [(0, some 0), (1, some 1)]) (l := [(0 : Int) = 0, 0 = 0, l6.length = l6.length, (s36 ++ ((bytesOf [32]) ++ r40)) = (s36 ++ ((bytesOf [32]) ++ r40)), 0 = 0, ([((r4.2.Device.length : Nat) : Int), ((r4.2.Fetched.length : Nat) : Int), ((r4.2.Tty.Lines.length : Nat) : Int), ((r4.2.Tty.Edit.length : Nat) : Int), r4.2.Lost, r4.2.Taken].length) = ([((r4.2.Device.length : Nat) : Int), ((r4.2.Fetched.length : Nat) : Int), ((r4.2.Tty.Lines.length : Nat) : Int), ((r4.2.Tty.Edit.length : Nat) : Int), r4.2.Lost, r4.2.Taken].length), (((6 : Nat) : Int) : Int) = ((6 : Nat) : Int), ((IntKind.i64.wrap (((k37 : Nat) : Int) + 1)) : Int) = (((k37 + 1) : Nat) : Int), E9.cR l6 = E9.cR l6, AllPv (E9.cR l6), E3.cR [((r4.2.Device.length : Nat) : Int), ((r4.2.Fetched.length : Nat) : Int), ((r4.2.Tty.Lines.length : Nat) : Int), ((r4.2.Tty.Edit.length : Nat) : Int), r4.2.Lost, r4.2.Taken] = E3.cR [((r4.2.Device.length : Nat) : Int), ((r4.2.Fetched.length : Nat) : Int), ((r4.2.Tty.Lines.length : Nat) : Int), ((r4.2.Tty.Edit.length : Nat) : Int), r4.2.Lost, r4.2.Taken], AllPv (E3.cR [((r4.2.Device.length : Nat) : Int), ((r4.2.Fetched.length : Nat) : Int), ((r4.2.Tty.Lines.length : Nat) : Int), ((r4.2.Tty.Edit.length : Nat) : Int), r4.2.Lost, r4.2.Taken])]) (by kernel_rfl) ⟨rfl, rfl, rfl, rfl, rfl, rfl, rfl, (wrap_nat (Int.ofNat_lt.1 (of_decide_eq_true c38)) (by omega)), rfl, (Elem.cR_pv _ _), rfl, (Elem.cR_pv _ _), trivial⟩
     ·refine sk_leaf ?_
      refine bs_ok (d := 98) (e := 9) (s := 1) (n := 1) (cs := [.pv (.raw (.string s36))]) (cs' := E9.cR [s36]) (by kernel_rfl) rfl (by kernel_rfl) ?_
      refine s0 ?_
      obtain ⟨g44, h⟩ := if_ h
      refine app_ok (d := 99) (e := 9) (s := 1) (b := 16) (x := .row 0 1 0 l6.length) (y := .row 22656 1 0 1) E9 (xs := l6) (ys := [s36]) (by kernel_rfl) rfl (.row 0 l6 l6.length rfl (by kernel_rfl)) (.all 22656 9 [s36] 1 rfl (by kernel_rfl)) g44 (by kernel_rfl) ?_
      refine s0 ?_
      obtain rfl := some_ h
      exact end_ok [(0, some 22720)] Tryz.results16 (ps := [0 = 0, ((l6 ++ [s36]).length) = (l6 ++ [s36]).length, (0 : Int) = 0, E9.cR (l6 ++ [s36]) = E9.cR (l6 ++ [s36]), AllPv (E9.cR (l6 ++ [s36]))]) (by kernel_rfl) ⟨rfl, rfl, rfl, rfl, (Elem.cR_pv _ _), trivial⟩ (fun _ => ⟨rfl, by simp only [List.mem_cons, List.not_mem_nil, or_false, forall_eq_or_imp, forall_eq]; exact Elem.cR_bald E9_raw _⟩)
def Y61 (x0 : Int) (x1 : (List ByteArray)) : Bool := (((x0 : Int) == 0) && ((((x1.length : Nat) : Int) : Int) == 10))
def Y49 (x0 : Int) (x1 : (List ByteArray)) : Bool := ((((x0 : Int) == 0) && ((((x1.length : Nat) : Int) : Int) == 10)) && ((x1.getD (0 + 1) ByteArray.empty).toList == (bytesOf [101, 114, 114, 111, 114, 32, 55]).toList))
def Y91 (x0 : (List ByteArray)) : Bool := ((x0.getD (0 + 3) ByteArray.empty).toList == (bytesOf [101, 114, 114, 111, 114, 32, 55]).toList)
theorem top_alive_ok (r : Bool) (h : top_alive = some r) {al : Bool} : PCalls Tryz.prog 6 [] al (.pv (.raw (.bool r))) [] := by
 unfold top_alive at h
 refine fn_ok tabOk Tryz.func6 (by kernel_rfl) (by kernel_rfl) Tryz.ntmps6 (by simp) ?_
 refine s0 ?_
 obtain ⟨r1, e2, h⟩ := bd_ h
 refine call_ok (d := some 4) (fn := 16) (ax := [.pv (.raw (.string (bytesOf [105, 110, 32, 57, 55, 10, 114, 117, 110, 32, 49, 10, 115, 97, 118, 101, 32, 48, 10, 114, 117, 110, 32, 48, 10, 114, 101, 115, 116, 111, 114, 101, 32, 48, 10, 114, 117, 110, 32, 48, 10, 114, 117, 110, 32, 48, 10, 114, 117, 110, 32, 48, 10, 114, 117, 110, 32, 49, 10])))]) (ps := [(bytesOf [105, 110, 32, 57, 55, 10, 114, 117, 110, 32, 49, 10, 115, 97, 118, 101, 32, 48, 10, 114, 117, 110, 32, 48, 10, 114, 101, 115, 116, 111, 114, 101, 32, 48, 10, 114, 117, 110, 32, 48, 10, 114, 117, 110, 32, 48, 10, 114, 117, 110, 32, 48, 10, 114, 117, 110, 32, 49, 10]) = (bytesOf [105, 110, 32, 57, 55, 10, 114, 117, 110, 32, 49, 10, 115, 97, 118, 101, 32, 48, 10, 114, 117, 110, 32, 48, 10, 114, 101, 115, 116, 111, 114, 101, 32, 48, 10, 114, 117, 110, 32, 48, 10, 114, 117, 110, 32, 48, 10, 114, 117, 110, 32, 48, 10, 114, 117, 110, 32, 49, 10])]) (hb' := [.row 9 1 (E9.cR r1.1)]) (by kernel_rfl) (bench_Tell_ok _ _ e2 (al := true)) (by kernel_rfl) ⟨rfl, trivial⟩ (fun _ => (by kernel_rfl)) (by simp) (by simp only [List.map_cons, List.map_nil, Elem.row_up, up_map] <;> rfl) (by kernel_rfl) ?_
 refine sg (S := .and ((((r1.2 : Int) == 0) = true → (((r1.2 : Int) == 0) = true))) (.and ((((r1.2 : Int) == 0) = true → (((r1.2 : Int) == 0) = true))) (.and (((r1.2 : Int) == 0) = true → ((r1.2 : Int) == 0) = true) (.and (((Y61 r1.2 r1.1) = true → ((Y61 r1.2 r1.1) = true))) (.and (((((r1.2 : Int) == 0) && ((((r1.1.length : Nat) : Int) : Int) == 10)) = true → (0 ≤ (1 : Int) ∧ 1 < ((r1.1.length : Nat) : Int)))) (.leaf 0)))))) ?_
 refine sk_and (fun h => h) ?_
 refine sk_and (fun h => h) ?_
 refine sk_and (fun h => h) ?_
 refine sk_and (fun h => h) ?_
 refine gd_ h ?_; clear h; intro g7 h
 refine sk_leaf ?_
 refine ldG_ok (d := 17) (id := 16640) (i := (0 + 1)) (j := 0) (e := 9) (n := 1) (g := (((r1.2 : Int) == 0) && ((((r1.1.length : Nat) : Int) : Int) == 10))) (ws := [(((r1.2 : Int) == 0) && ((((r1.1.length : Nat) : Int) : Int) == 10)) = true]) E9 (xs := r1.1) (by kernel_rfl) (fun hg => ⟨((by decide : ∀ y0 : Bool, ((y0 = true) → (y0 = true))) (((r1.2 : Int) == 0) && ((((r1.1.length : Nat) : Int) : Int) == 10))) hg, trivial⟩) (by kernel_rfl) (fun hg => (by first | omega | (simp at * <;> omega) | (simp_all <;> omega))) (by exact Nat.le_of_ble_eq_true rfl) ?_
 refine sg (S := .and (((Y61 r1.2 r1.1) = true → ((Y61 r1.2 r1.1) = true))) (.and ((Y61 r1.2 r1.1) = true → (Y61 r1.2 r1.1) = true) (.and (((Y49 r1.2 r1.1) = true → ((Y49 r1.2 r1.1) = true))) (.and ((((((r1.2 : Int) == 0) && ((((r1.1.length : Nat) : Int) : Int) == 10)) && ((r1.1.getD (0 + 1) ByteArray.empty).toList == (bytesOf [101, 114, 114, 111, 114, 32, 55]).toList)) = true → (0 ≤ (3 : Int) ∧ 3 < ((r1.1.length : Nat) : Int)))) (.leaf 0))))) ?_
 refine sk_and (fun h => h) ?_
 refine sk_and (fun h => h) ?_
 refine sk_and (fun h => h) ?_
 refine gd_ h ?_; clear h; intro g11 h
 refine sk_leaf ?_
 refine ldG_ok (d := 23) (id := 16640) (i := (0 + 3)) (j := 0) (e := 9) (n := 1) (g := ((((r1.2 : Int) == 0) && ((((r1.1.length : Nat) : Int) : Int) == 10)) && ((r1.1.getD (0 + 1) ByteArray.empty).toList == (bytesOf [101, 114, 114, 111, 114, 32, 55]).toList))) (ws := [((((r1.2 : Int) == 0) && ((((r1.1.length : Nat) : Int) : Int) == 10)) && ((r1.1.getD (0 + 1) ByteArray.empty).toList == (bytesOf [101, 114, 114, 111, 114, 32, 55]).toList)) = true]) E9 (xs := r1.1) (by kernel_rfl) (fun hg => ⟨((by decide : ∀ y0 : Bool, ((y0 = true) → (y0 = true))) ((((r1.2 : Int) == 0) && ((((r1.1.length : Nat) : Int) : Int) == 10)) && ((r1.1.getD (0 + 1) ByteArray.empty).toList == (bytesOf [101, 114, 114, 111, 114, 32, 55]).toList))) hg, trivial⟩) (by kernel_rfl) (fun hg => (by first | omega | (simp at * <;> omega) | (simp_all <;> omega))) (by exact Nat.le_of_ble_eq_true rfl) ?_
 refine sg (S := .and (((Y49 r1.2 r1.1) = true → ((Y49 r1.2 r1.1) = true))) (.and ((Y49 r1.2 r1.1) = true → (Y49 r1.2 r1.1) = true) (.and ((((Y49 r1.2 r1.1) && (Y91 r1.1)) = true → (((Y49 r1.2 r1.1) && (Y91 r1.1)) = true))) (.and (((((((r1.2 : Int) == 0) && ((((r1.1.length : Nat) : Int) : Int) == 10)) && ((r1.1.getD (0 + 1) ByteArray.empty).toList == (bytesOf [101, 114, 114, 111, 114, 32, 55]).toList)) && ((r1.1.getD (0 + 3) ByteArray.empty).toList == (bytesOf [101, 114, 114, 111, 114, 32, 55]).toList)) = true → (0 ≤ (9 : Int) ∧ 9 < ((r1.1.length : Nat) : Int)))) (.leaf 0))))) ?_
 refine sk_and (fun h => h) ?_
 refine sk_and (fun h => h) ?_
 refine sk_and (fun h => h) ?_
 refine gd_ h ?_; clear h; intro g15 h
 refine sk_leaf ?_
 refine ldG_ok (d := 29) (id := 16640) (i := (0 + 9)) (j := 0) (e := 9) (n := 1) (g := (((((r1.2 : Int) == 0) && ((((r1.1.length : Nat) : Int) : Int) == 10)) && ((r1.1.getD (0 + 1) ByteArray.empty).toList == (bytesOf [101, 114, 114, 111, 114, 32, 55]).toList)) && ((r1.1.getD (0 + 3) ByteArray.empty).toList == (bytesOf [101, 114, 114, 111, 114, 32, 55]).toList))) (ws := [(((((r1.2 : Int) == 0) && ((((r1.1.length : Nat) : Int) : Int) == 10)) && ((r1.1.getD (0 + 1) ByteArray.empty).toList == (bytesOf [101, 114, 114, 111, 114, 32, 55]).toList)) && ((r1.1.getD (0 + 3) ByteArray.empty).toList == (bytesOf [101, 114, 114, 111, 114, 32, 55]).toList)) = true]) E9 (xs := r1.1) (by kernel_rfl) (fun hg => ⟨((by decide : ∀ y0 : Bool, ((y0 = true) → (y0 = true))) (((((r1.2 : Int) == 0) && ((((r1.1.length : Nat) : Int) : Int) == 10)) && ((r1.1.getD (0 + 1) ByteArray.empty).toList == (bytesOf [101, 114, 114, 111, 114, 32, 55]).toList)) && ((r1.1.getD (0 + 3) ByteArray.empty).toList == (bytesOf [101, 114, 114, 111, 114, 32, 55]).toList))) hg, trivial⟩) (by kernel_rfl) (fun hg => (by first | omega | (simp at * <;> omega) | (simp_all <;> omega))) (by exact Nat.le_of_ble_eq_true rfl) ?_
 refine sg (S := .and ((((Y49 r1.2 r1.1) && (Y91 r1.1)) = true → (((Y49 r1.2 r1.1) && (Y91 r1.1)) = true))) (.and (((Y49 r1.2 r1.1) && (Y91 r1.1)) = true → ((Y49 r1.2 r1.1) && (Y91 r1.1)) = true) (.leaf 0))) ?_
 refine sk_and (fun h => h) ?_
 refine sk_and (fun h => h) ?_
 refine sk_leaf ?_
 obtain rfl := some_ h
 exact end_ok [] Tryz.results6 (ps := [((((((r1.2 : Int) == 0) && ((((r1.1.length : Nat) : Int) : Int) == 10)) && ((r1.1.getD (0 + 1) ByteArray.empty).toList == (bytesOf [101, 114, 114, 111, 114, 32, 55]).toList)) && ((r1.1.getD (0 + 3) ByteArray.empty).toList == (bytesOf [101, 114, 114, 111, 114, 32, 55]).toList)) && ((r1.1.getD (0 + 9) ByteArray.empty).toList == (bytesOf [108, 101, 102, 116, 32, 48, 32, 48, 32, 48, 32, 49, 32, 48, 32, 49]).toList)) = ((((((r1.2 : Int) == 0) && ((((r1.1.length : Nat) : Int) : Int) == 10)) && ((r1.1.getD (0 + 1) ByteArray.empty).toList == (bytesOf [101, 114, 114, 111, 114, 32, 55]).toList)) && ((r1.1.getD (0 + 3) ByteArray.empty).toList == (bytesOf [101, 114, 114, 111, 114, 32, 55]).toList)) && ((r1.1.getD (0 + 9) ByteArray.empty).toList == (bytesOf [108, 101, 102, 116, 32, 48, 32, 48, 32, 48, 32, 49, 32, 48, 32, 49]).toList))]) (by kernel_rfl) ⟨rfl, trivial⟩ (fun _ => ⟨rfl, by simp⟩)
theorem bn_repeat_ok (a0 : ByteArray) (a1 : Int) (r : ByteArray) (h : bn_repeat a0 a1 = some r) {al : Bool} : PCalls Tryz.prog 17 [.pv (.raw (.string a0)), .pv (.raw (.int .i64 a1))] al (.pv (.raw (.string r))) [] := by
 unfold bn_repeat at h
 obtain ⟨g, h⟩ := if_ h
 obtain rfl := some_ h
 exact Tryz.repeat_pcalls a0 a1 g.1 g.2
theorem bn_hasprefix_ok (a0 a1 : ByteArray) (r : Bool) (h : bn_hasprefix a0 a1 = some r) {al : Bool} : PCalls Tryz.prog 18 [.pv (.raw (.string a0)), .pv (.raw (.string a1))] al (.pv (.raw (.bool r))) [] := by
 unfold bn_hasprefix at h
 obtain rfl := some_ h
 exact Tryz.prefix_pcalls a0 a1
theorem top_TopLive_ok (a0 : ByteArray) (r : Bool) (h : top_TopLive a0 = some r) {al : Bool} : PCalls Tryz.prog 5 [.pv (.raw (.string a0))] al (.pv (.raw (.bool r))) [] := by
 unfold top_TopLive at h
 refine fn_ok tabOk Tryz.func5 (by kernel_rfl) (by kernel_rfl) Tryz.ntmps5 (by simp) ?_
 refine s0 ?_
 obtain ⟨r1, e2, h⟩ := bd_ h
 refine call_ok (d := some 8) (fn := 6) (ax := []) (args := []) (ps := []) (hb' := []) (by kernel_rfl) (top_alive_ok  _ e2 (al := true)) (by kernel_rfl) trivial (fun _ => (by kernel_rfl)) (by simp) rfl (by kernel_rfl) ?_
 refine sg (S := .br (!r1) (.leaf 0) (.leaf 1)) ?_
 refine br_ h ?_ ?_ <;> clear h <;> intro c3 h
 ·refine sk_leaf ?_
  obtain rfl := some_ h
  exact end_ok [] Tryz.results5 (ps := [false = false]) (by kernel_rfl) ⟨rfl, trivial⟩ (fun _ => ⟨rfl, by simp⟩)
 ·refine sk_leaf ?_
  obtain ⟨r4, e5, h⟩ := bd_ h
  refine call_ok (d := some 12) (fn := 15) (ax := [.pv (.raw (.string a0))]) (ps := [a0 = a0]) (hb' := [.row 26 4 (E26.cR r4.1)]) (by kernel_rfl) (bench_Parse_ok _ _ e5 (al := true)) (by kernel_rfl) ⟨rfl, trivial⟩ (fun _ => (by kernel_rfl)) (by simp) (by simp only [List.map_cons, List.map_nil, Elem.row_up, up_map] <;> rfl) (by kernel_rfl) ?_
  refine sg (S := .and (((!((r4.2.2 : Int) != 0)) = true → ((!((r4.2.2 : Int) != 0)) = true))) (.and (((!((r4.2.2 : Int) != 0)) = true → ((!((r4.2.2 : Int) != 0)) = true))) (.and (((r4.2.2 : Int) != 0) = false → (!((r4.2.2 : Int) != 0)) = true) (.br (((r4.2.2 : Int) != 0) || (decide ((((r4.1.length : Nat) : Int) : Int) > 100))) (.leaf 0) (.leaf 1))))) ?_
  refine sk_and (fun h => h) ?_
  refine sk_and (fun h => h) ?_
  refine sk_and ((by decide : ∀ y0 : Bool, ((y0 = false) → ((!y0) = true))) ((r4.2.2 : Int) != 0)) ?_
  refine br_ h ?_ ?_ <;> clear h <;> intro c9 h
  ·refine sk_leaf ?_
   obtain rfl := some_ h
   exact end_ok [] Tryz.results5 (ps := [true = true]) (by kernel_rfl) ⟨rfl, trivial⟩ (fun _ => ⟨rfl, by simp⟩)
  ·refine sk_leaf ?_
   obtain ⟨r10, e11, h⟩ := bd_ h
   refine call_ok (d := some 28) (fn := 17) (ax := [.pv (.raw (.string (bytesOf [114, 101, 115, 116, 111, 114, 101, 32, 48, 10, 114, 117, 110, 32, 48, 10, 114, 101, 115, 116, 111, 114, 101, 32, 49, 10, 114, 117, 110, 32, 49, 10]))), .pv (.raw (.int .i64 (IntKind.i64.wrap (((r4.1.length : Nat) : Int) + 60))))]) (ps := [(bytesOf [114, 101, 115, 116, 111, 114, 101, 32, 48, 10, 114, 117, 110, 32, 48, 10, 114, 101, 115, 116, 111, 114, 101, 32, 49, 10, 114, 117, 110, 32, 49, 10]) = (bytesOf [114, 101, 115, 116, 111, 114, 101, 32, 48, 10, 114, 117, 110, 32, 48, 10, 114, 101, 115, 116, 111, 114, 101, 32, 49, 10, 114, 117, 110, 32, 49, 10]), ((IntKind.i64.wrap (((r4.1.length : Nat) : Int) + 60)) : Int) = (IntKind.i64.wrap (((r4.1.length : Nat) : Int) + 60))]) (hb' := []) (by kernel_rfl) (bn_repeat_ok _ _ _ e11 (al := true)) (by kernel_rfl) ⟨rfl, rfl, trivial⟩ (fun _ => (by kernel_rfl)) (by simp) rfl (by kernel_rfl) ?_
   refine sg (S := .and (a0.size + r10.size ≤ 9223372036854775807) (.leaf 0)) ?_
   refine gd_ h ?_; clear h; intro g12 h
   refine sk_leaf ?_
   obtain ⟨r13, e14, h⟩ := bd_ h
   refine call_ok (d := some 30) (fn := 16) (ax := [.pv (.raw (.string (a0 ++ r10)))]) (ps := [(a0 ++ r10) = (a0 ++ r10)]) (hb' := [.row 9 1 (E9.cR r13.1)]) (by kernel_rfl) (bench_Tell_ok _ _ e14 (al := true)) (by kernel_rfl) ⟨rfl, trivial⟩ (fun _ => (by kernel_rfl)) (by simp) (by simp only [List.map_cons, List.map_nil, Elem.row_up, up_map] <;> rfl) (by kernel_rfl) ?_
   refine sg (S := .and (((!((r13.2 : Int) != 0)) = true → ((!((r13.2 : Int) != 0)) = true))) (.and (((!((r13.2 : Int) != 0)) = true → ((!((r13.2 : Int) != 0)) = true))) (.and (((r13.2 : Int) != 0) = false → (!((r13.2 : Int) != 0)) = true) (.br (((r13.2 : Int) != 0) || ((((r13.1.length : Nat) : Int) : Int) == 0)) (.leaf 0) (.and (0 ≤ ((IntKind.i64.wrap (((r13.1.length : Nat) : Int) - 1)) : Int) ∧ (IntKind.i64.wrap (((r13.1.length : Nat) : Int) - 1)) < ((r13.1.length : Nat) : Int)) (.leaf 1)))))) ?_
   refine sk_and (fun h => h) ?_
   refine sk_and (fun h => h) ?_
   refine sk_and ((by decide : ∀ y0 : Bool, ((y0 = false) → ((!y0) = true))) ((r13.2 : Int) != 0)) ?_
   refine br_ h ?_ ?_ <;> clear h <;> intro c18 h
   ·refine sk_leaf ?_
    obtain rfl := some_ h
    exact end_ok [] Tryz.results5 (ps := [false = false]) (by kernel_rfl) ⟨rfl, trivial⟩ (fun _ => ⟨rfl, by simp⟩)
   ·refine gd_ h ?_; clear h; intro g19 h
    refine sk_leaf ?_
    refine ld_ok (d := 45) (id := 18304) (i := (0 + (Int.toNat (IntKind.i64.wrap (((r13.1.length : Nat) : Int) - 1))))) (j := 0) (e := 9) (n := 1) E9 (xs := r13.1) (by kernel_rfl) (by kernel_rfl) (by first | omega | (simp at * <;> omega) | (simp_all <;> omega)) (by exact Nat.le_of_ble_eq_true rfl) ?_
    refine s0 ?_
    obtain ⟨r20, e21, h⟩ := bd_ h
    refine call_ok (d := some 46) (fn := 18) (ax := [.pv (.raw (.string (r13.1.getD (0 + (Int.toNat (IntKind.i64.wrap (((r13.1.length : Nat) : Int) - 1)))) ByteArray.empty))), .pv (.raw (.string (bytesOf [108, 101, 102, 116, 32, 48, 32, 48, 32])))]) (ps := [(r13.1.getD (0 + (Int.toNat (IntKind.i64.wrap (((r13.1.length : Nat) : Int) - 1)))) ByteArray.empty) = (r13.1.getD (0 + (Int.toNat (IntKind.i64.wrap (((r13.1.length : Nat) : Int) - 1)))) ByteArray.empty), (bytesOf [108, 101, 102, 116, 32, 48, 32, 48, 32]) = (bytesOf [108, 101, 102, 116, 32, 48, 32, 48, 32])]) (hb' := []) (by kernel_rfl) (bn_hasprefix_ok _ _ _ e21 (al := true)) (by kernel_rfl) ⟨rfl, rfl, trivial⟩ (fun _ => (by kernel_rfl)) (by simp) rfl (by kernel_rfl) ?_
    refine s0 ?_
    obtain rfl := some_ h
    exact end_ok [] Tryz.results5 (ps := [r20 = r20]) (by kernel_rfl) ⟨rfl, trivial⟩ (fun _ => ⟨rfl, by simp⟩)
end Go.Proofs.YthmieigenefilaaGreatDoor
