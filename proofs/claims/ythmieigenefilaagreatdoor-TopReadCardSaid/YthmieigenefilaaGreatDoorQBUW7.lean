import Derived.Test.YthmieigenefilaaGreatDoorQBUW6
set_option linter.unusedSimpArgs false
set_option linter.unusedVariables false
namespace Go.Proofs.YthmieigenefilaaGreatDoor
open Go Go.Ab
set_option maxHeartbeats 40000000
set_option maxRecDepth 100000
attribute [local irreducible] V VS runS Sk.Holds
def Y106 (x0 : (List AKO)) : List Prop := [x0.length = x0.length, ∀ i, i < x0.length → ∀ j, j < 4 → E26.cf (x0.getD i E26.z) j = E26.cf (x0.getD i E26.z) j]
theorem Y106p {x0 : (List AKO)} : allP (Y106 x0) := ⟨rfl, fun _ _ _ _ => rfl, trivial⟩
def Y71 (x0 : Api_Whole) (x1 x2 : Nat) : List AV := [.row x1 1 0 x0.Device.length, .row x2 1 0 x0.Fetched.length, .pv ((E30.ro x0.Tty.Lines)), .pv ((E5.ro x0.Tty.Edit)), .pv (.raw (.int .i64 x0.Lost)), .pv (.raw (.int .i64 x0.Taken))]
def Y87 (x0 : (List AKO)) (x1 : Nat) : Bool := (((x0.getD x1 (⟨0, 0, 0, 0⟩ : AKO)).Kind : Int) == 3)
def Y111 (x0 : (List AKA)) (x1 : Nat) : List Prop := [((x0.getD (0 + x1) (⟨0, []⟩ : AKA)).Data).length = ((x0.getD (0 + x1) (⟨0, []⟩ : AKA)).Data).length, ∀ i, i < ((x0.getD (0 + x1) (⟨0, []⟩ : AKA)).Data).length → ∀ j, j < 1 → E5.cf (((x0.getD (0 + x1) (⟨0, []⟩ : AKA)).Data).getD i E5.z) j = E5.cf (((x0.getD (0 + x1) (⟨0, []⟩ : AKA)).Data).getD i E5.z) j]
theorem bench_Tell_ok (a0 : ByteArray) (r : (List ByteArray) × Int) (h : bench_Tell a0 = some r) {al : Bool} : PCalls Tryz.prog 16 [.pv (.raw (.string a0))] al (.tup [.row 0 1 0 r.1.length, .pv (.raw (.int .i64 r.2))]) [.row 9 1 (E9.cR r.1)] := by
 unfold bench_Tell at h
 refine fn_ok tabOk Tryz.func16 (by kernel_rfl) (by kernel_rfl) Tryz.ntmps16 (by simp) ?_
 refine s0 ?_
 obtain ⟨r1, e2, h⟩ := bd_ h
 refine callF_ok (d := some 18) (fn := 15) (ax := [.pv (.raw (.string a0))]) (args := [.pv (.raw (.string a0))]) (ps := [a0 = a0]) (hb' := [.row 26 4 (E26.cR r1.1)]) (ps2 := [r1.1.length = r1.1.length, rowQ (E26.cR r1.1) 4 0 r1.1.length (fun i j => E26.cf (r1.1.getD i E26.z) j), (r1.2.1 : Int) = r1.2.1, (r1.2.2 : Int) = r1.2.2]) (.tup [.pv ((E26.ro r1.1)), .pv (.raw (.int .i64 r1.2.1)), .pv (.raw (.int .i64 r1.2.2))]) (by kernel_rfl) (bench_Parse_ok _ _ e2 (al := true)) (by kernel_rfl) ⟨rfl, trivial⟩ (fun _ => (by kernel_rfl)) (by simp) (by simp only [List.map_cons, List.map_nil, Elem.row_up, up_map] <;> rfl) (by kernel_rfl) (by kernel_rfl) ⟨(by first | rfl | exact Elem.sub_len _ (by omega) | omega | simp | (simp <;> omega)), E26.rowQ_all r1.1 rfl, rfl, rfl, trivial⟩ ?_
 refine sg (S := .br ((r1.2.2 : Int) != 0) (.leaf 0) (.leaf 1)) ?_
 refine br_ h ?_ ?_ <;> clear h <;> intro c3 h
 ·refine sk_leaf ?_
  obtain rfl := some_ h
  exact end_ok [(0, none)] Tryz.results16 (ps := [0 = 0, ([] : List ByteArray).length = 0, (r1.2.2 : Int) = r1.2.2, E9.cR [] = []]) (by kernel_rfl) ⟨rfl, rfl, rfl, rfl, trivial⟩ (fun _ => ⟨rfl, by simp only [List.mem_cons, List.not_mem_nil, or_false, forall_eq_or_imp, forall_eq]; exact Elem.cR_bald E9_raw _⟩)
 ·refine sk_leaf ?_
  obtain ⟨r4, e5, h⟩ := bd_ h
  refine call_ok (d := some 27) (fn := 10) (ax := [.pv ((E26.ro r1.1))]) (ps := (Y106 r1.1)) (hb' := [.row 78 2 (E78.cR r4.1), .row 5 1 (E5.cR r4.2.Device), .row 5 1 (E5.cR r4.2.Fetched)]) (by kernel_rfl) (kernel_Play_ok _ _ e5) (by kernel_rfl) Y106p (fun _ => (by kernel_rfl)) (by simp) (by simp only [List.map_cons, List.map_nil, Elem.row_up, up_map] <;> rfl) (by kernel_rfl) ?_
  refine s0 ?_
  refine len_ro (by kernel_rfl) 4 (s := 4) (n := r1.1.length) (c := fun i j => E26.cf (r1.1.getD i E26.z) j) (by kernel_rfl) ?_; intro hl1_0
  refine len_row (by kernel_rfl) 18112 (e := 78) (s := 2) (n := r4.1.length) (cs := E78.cR r4.1) (by kernel_rfl) (Elem.cR_length _ _) ?_; intro hl1_1
  refine len_row (by kernel_rfl) 18113 (e := 5) (s := 1) (n := r4.2.Device.length) (cs := E5.cR r4.2.Device) (by kernel_rfl) (Elem.cR_length _ _) ?_; intro hl1_2
  refine len_row (by kernel_rfl) 18114 (e := 5) (s := 1) (n := r4.2.Fetched.length) (cs := E5.cR r4.2.Fetched) (by kernel_rfl) (Elem.cR_length _ _) ?_; intro hl1_3
  refine len_box (by kernel_rfl) 16896 2 (cs := (Y71 r4.2 18113 18114)) (by kernel_rfl) (s := 1) (n := r4.2.Tty.Lines.length) (c := fun i j => E30.cf (r4.2.Tty.Lines.getD i E30.z) j) rfl ?_; intro hl1_4
  refine len_box (by kernel_rfl) 16896 3 (cs := (Y71 r4.2 18113 18114)) (by kernel_rfl) (s := 1) (n := r4.2.Tty.Edit.length) (c := fun i j => E5.cf (r4.2.Tty.Edit.getD i E5.z) j) rfl ?_; intro hl1_5
  replace h : (fun (x : Nat × List ByteArray × Nat) => bench_Tell_l1 r1 r4 x.1 x.2.1 x.2.2 = some r) (FUEL, ([] : List ByteArray), 0) := h
  refine loop_ok (by kernel_rfl) (X := Nat × List ByteArray × Nat) (fun x => bench_Tell_l1 r1 r4 x.1 x.2.1 x.2.2 = some r) (fun x => x.1) (fun x => mk 100 [(2, .pv (.raw (.slice none 0 0))), (3, .pv (.raw (.int .i64 0))), (4, .pv ((E26.ro r1.1))), (8, .ptr 0 0), (9, .row 4 1 0 x.2.1.length), (30, .row 3 2 0 r4.1.length), (31, .pv (.raw (.int .i64 ((r4.1.length : Nat) : Int)))), (32, .pv (.raw (.int .i64 ((x.2.2 : Nat) : Int))))] [(0, .box (Y71 r4.2 1 2)), (1, .row 5 1 (E5.cR r4.2.Device)), (2, .row 5 1 (E5.cR r4.2.Fetched)), (3, .row 78 2 (E78.cR r4.1)), (4, .row 9 1 (E9.cR x.2.1))]) (FUEL, ([] : List ByteArray), 0) h ?_ ?_
  ·exact sub_ok (ρ := [(0, some 16896), (1, some 18113), (2, some 18114), (3, some 18112), (4, none)]) (l := [(0 : Int) = 0, r1.1.length = r1.1.length, ∀ i, i < r1.1.length → ∀ j, j < 4 → E26.cf (r1.1.getD i E26.z) j = E26.cf (r1.1.getD i E26.z) j, 0 = 0, 0 = 0, (([] : List ByteArray).length) = 0, 0 = 0, r4.1.length = r4.1.length, (((r4.1.length : Nat) : Int) : Int) = ((r4.1.length : Nat) : Int), (0 : Int) = ((0 : Nat) : Int), 0 = 0, r4.2.Device.length = r4.2.Device.length, 0 = 0, r4.2.Fetched.length = r4.2.Fetched.length, r4.2.Tty.Lines.length = r4.2.Tty.Lines.length, ∀ i, i < r4.2.Tty.Lines.length → ∀ j, j < 1 → E30.cf (r4.2.Tty.Lines.getD i E30.z) j = E30.cf (r4.2.Tty.Lines.getD i E30.z) j, r4.2.Tty.Edit.length = r4.2.Tty.Edit.length, ∀ i, i < r4.2.Tty.Edit.length → ∀ j, j < 1 → E5.cf (r4.2.Tty.Edit.getD i E5.z) j = E5.cf (r4.2.Tty.Edit.getD i E5.z) j, (r4.2.Lost : Int) = r4.2.Lost, (r4.2.Taken : Int) = r4.2.Taken, E5.cR r4.2.Device = E5.cR r4.2.Device, AllPv (E5.cR r4.2.Device), E5.cR r4.2.Fetched = E5.cR r4.2.Fetched, AllPv (E5.cR r4.2.Fetched), E78.cR r4.1 = E78.cR r4.1, AllPv (E78.cR r4.1), E9.cR ([] : List ByteArray) = []]) (by kernel_rfl) ⟨rfl, rfl, fun _ _ _ _ => rfl, rfl, rfl, (by first | rfl | simp), rfl, rfl, rfl, (by first | rfl | simp), rfl, rfl, rfl, rfl, rfl, fun _ _ _ _ => rfl, rfl, fun _ _ _ _ => rfl, rfl, rfl, rfl, (Elem.cR_pv _ _), rfl, (Elem.cR_pv _ _), rfl, (Elem.cR_pv _ _), rfl, trivial⟩
  ·clear h; rintro ⟨n1, l6, k7⟩ h p1 hp1
   obtain _ | n1 := n1
   ·cases (show (none : Option ((List ByteArray) × Int)) = some r from h)
   have h : bench_Tell_l1 r1 r4 (n1 + 1) l6 k7 = some r := h
   unfold bench_Tell_l1 at h
   refine sg (S := .br (decide ((((k7 : Nat) : Int) : Int) < ((r4.1.length : Nat) : Int))) (.and (0 ≤ (((k7 : Nat) : Int) : Int) ∧ ((k7 : Nat) : Int) < ((r4.1.length : Nat) : Int)) (.leaf 0)) (.leaf 1)) ?_
   refine br_ h ?_ ?_ <;> clear h <;> intro c8 h
   ·refine sk_and ⟨Int.natCast_nonneg _, of_decide_eq_true c8⟩ ?_
    refine sk_leaf ?_
    refine lda_ok (d := 36) (id := 3) (i := (0 + k7)) (e := 78) (n := 2) E78 (xs := r4.1) (by kernel_rfl) (by kernel_rfl) (by first | omega | (simp at * <;> omega) | (simp_all <;> omega)) rfl ?_
    refine sg (S := .br (((r4.1.getD (0 + k7) (⟨0, []⟩ : AKA)).Err : Int) != 0) (.leaf 0) (.and (0 ≤ (((k7 : Nat) : Int) : Int) ∧ ((k7 : Nat) : Int) < ((r1.1.length : Nat) : Int)) (.and (((Y87 r1.1 k7) = true → ((Y87 r1.1 k7) = true))) (.and (((Y87 r1.1 k7) = true → ((Y87 r1.1 k7) = true))) (.and ((Y87 r1.1 k7) = true → (Y87 r1.1 k7) = true) (.br ((((r1.1.getD k7 (⟨0, 0, 0, 0⟩ : AKO)).Kind : Int) == 3) && (((r4.1.getD (0 + k7) (⟨0, []⟩ : AKA)).Err : Int) == 0)) (.leaf 1) (.leaf 2))))))) ?_
    refine br_ h ?_ ?_ <;> clear h <;> intro c10 h
    ·refine sk_leaf ?_
     obtain ⟨r11, e12, h⟩ := bd_ h
     refine call_ok (d := some 42) (fn := 31) (ax := [.pv (.raw (.int .i64 ((r4.1.getD (0 + k7) (⟨0, []⟩ : AKA)).Err)))]) (ps := [((r4.1.getD (0 + k7) (⟨0, []⟩ : AKA)).Err : Int) = ((r4.1.getD (0 + k7) (⟨0, []⟩ : AKA)).Err)]) (hb' := []) (by kernel_rfl) (bn_itoa_ok _ _ e12 (al := true)) (by kernel_rfl) ⟨(by first | rfl | (simp; done) | omega | (simp <;> omega)), trivial⟩ (fun _ => (by kernel_rfl)) (by simp) rfl (by kernel_rfl) ?_
     refine sg (S := .and ((bytesOf [101, 114, 114, 111, 114, 32]).size + r11.size ≤ 9223372036854775807) (.and (0 ≤ (((k7 : Nat) : Int) : Int) ∧ ((k7 : Nat) : Int) < ((r1.1.length : Nat) : Int)) (.and (((Y87 r1.1 k7) = true → ((Y87 r1.1 k7) = true))) (.and (((Y87 r1.1 k7) = true → ((Y87 r1.1 k7) = true))) (.and ((Y87 r1.1 k7) = true → (Y87 r1.1 k7) = true) (.br ((((r1.1.getD k7 (⟨0, 0, 0, 0⟩ : AKO)).Kind : Int) == 3) && (((r4.1.getD (0 + k7) (⟨0, []⟩ : AKA)).Err : Int) == 0)) (.leaf 0) (.leaf 1))))))) ?_
     refine gd_ h ?_; clear h; intro g13 h
     refine gd_ h ?_; clear h; intro g14 h
     refine sk_and (fun h => h) ?_
     refine sk_and (fun h => h) ?_
     refine sk_and (fun h => h) ?_
     refine br_ h ?_ ?_ <;> clear h <;> intro c18 h
     ·refine sk_leaf ?_
      obtain ⟨r19, e20, h⟩ := bd_ h
      refine call_ok (d := some 58) (fn := 32) (ax := [.pv ((E5.ro ((r4.1.getD (0 + k7) (⟨0, []⟩ : AKA)).Data)))]) (ps := (Y111 r4.1 k7)) (hb' := []) (by kernel_rfl) (bn_hex_ok _ _ e20 (al := true)) (by kernel_rfl) ⟨(by first | rfl | simp_all), (by intros; first | rfl | simp_all), trivial⟩ (fun _ => (by kernel_rfl)) (by simp) rfl (by kernel_rfl) ?_
      refine sg (S := .and ((bytesOf [32]).size + r19.size ≤ 9223372036854775807) (.and (((bytesOf [101, 114, 114, 111, 114, 32]) ++ r11).size + ((bytesOf [32]) ++ r19).size ≤ 9223372036854775807) (.leaf 0))) ?_
      refine gd_ h ?_; clear h; intro g21 h
      refine gd_ h ?_; clear h; intro g22 h
      refine sk_leaf ?_
      refine bs_ok (d := 63) (e := 9) (s := 1) (n := 1) (cs := [.pv (.raw (.string (((bytesOf [101, 114, 114, 111, 114, 32]) ++ r11) ++ ((bytesOf [32]) ++ r19))))]) (cs' := E9.cR [(((bytesOf [101, 114, 114, 111, 114, 32]) ++ r11) ++ ((bytesOf [32]) ++ r19))]) (by kernel_rfl) rfl (by kernel_rfl) ?_
      refine s0 ?_
      obtain ⟨g23, h⟩ := if_ h
      refine app_ok (d := 64) (e := 9) (s := 1) (b := 16) (x := .row 4 1 0 l6.length) (y := .row 20416 1 0 1) E9 (xs := l6) (ys := [(((bytesOf [101, 114, 114, 111, 114, 32]) ++ r11) ++ ((bytesOf [32]) ++ r19))]) (by kernel_rfl) rfl (.row 4 l6 l6.length rfl (by kernel_rfl)) (.all 20416 9 [(((bytesOf [101, 114, 114, 111, 114, 32]) ++ r11) ++ ((bytesOf [32]) ++ r19))] 1 rfl (by kernel_rfl)) g23 (by kernel_rfl) ?_
      refine s0 ?_
      refine back_ok (p := p1) (by kernel_rfl) (hp1 (n1, (l6 ++ [(((bytesOf [101, 114, 114, 111, 114, 32]) ++ r11) ++ ((bytesOf [32]) ++ r19))]), k7 + 1) _ h (Nat.lt_succ_self n1) ?_)
      exact sub_ok (ρ := (rI 0 0 4 ++ ([(4, some 20480)]))) (l := [(0 : Int) = 0, r1.1.length = r1.1.length, ∀ i, i < r1.1.length → ∀ j, j < 4 → E26.cf (r1.1.getD i E26.z) j = E26.cf (r1.1.getD i E26.z) j, 0 = 0, 0 = 0, ((l6 ++ [(((bytesOf [101, 114, 114, 111, 114, 32]) ++ r11) ++ ((bytesOf [32]) ++ r19))]).length) = ((l6 ++ [(((bytesOf [101, 114, 114, 111, 114, 32]) ++ r11) ++ ((bytesOf [32]) ++ r19))]).length), 0 = 0, r4.1.length = r4.1.length, (((r4.1.length : Nat) : Int) : Int) = ((r4.1.length : Nat) : Int), ((IntKind.i64.wrap (((k7 : Nat) : Int) + 1)) : Int) = (((k7 + 1) : Nat) : Int), 0 = 0, r4.2.Device.length = r4.2.Device.length, 0 = 0, r4.2.Fetched.length = r4.2.Fetched.length, r4.2.Tty.Lines.length = r4.2.Tty.Lines.length, ∀ i, i < r4.2.Tty.Lines.length → ∀ j, j < 1 → E30.cf (r4.2.Tty.Lines.getD i E30.z) j = E30.cf (r4.2.Tty.Lines.getD i E30.z) j, r4.2.Tty.Edit.length = r4.2.Tty.Edit.length, ∀ i, i < r4.2.Tty.Edit.length → ∀ j, j < 1 → E5.cf (r4.2.Tty.Edit.getD i E5.z) j = E5.cf (r4.2.Tty.Edit.getD i E5.z) j, (r4.2.Lost : Int) = r4.2.Lost, (r4.2.Taken : Int) = r4.2.Taken, E5.cR r4.2.Device = E5.cR r4.2.Device, AllPv (E5.cR r4.2.Device), E5.cR r4.2.Fetched = E5.cR r4.2.Fetched, AllPv (E5.cR r4.2.Fetched), E78.cR r4.1 = E78.cR r4.1, AllPv (E78.cR r4.1), E9.cR (l6 ++ [(((bytesOf [101, 114, 114, 111, 114, 32]) ++ r11) ++ ((bytesOf [32]) ++ r19))]) = E9.cR (l6 ++ [(((bytesOf [101, 114, 114, 111, 114, 32]) ++ r11) ++ ((bytesOf [32]) ++ r19))]), AllPv (E9.cR (l6 ++ [(((bytesOf [101, 114, 114, 111, 114, 32]) ++ r11) ++ ((bytesOf [32]) ++ r19))]))]) (by kernel_rfl) ⟨rfl, rfl, fun _ _ _ _ => rfl, rfl, rfl, rfl, rfl, rfl, rfl, (wrap_nat (Int.ofNat_lt.1 (of_decide_eq_true c8)) (by omega)), rfl, rfl, rfl, rfl, rfl, fun _ _ _ _ => rfl, rfl, fun _ _ _ _ => rfl, rfl, rfl, rfl, (Elem.cR_pv _ _), rfl, (Elem.cR_pv _ _), rfl, (Elem.cR_pv _ _), rfl, (Elem.cR_pv _ _), trivial⟩
     ·refine sk_leaf ?_
      refine bs_ok (d := 63) (e := 9) (s := 1) (n := 1) (cs := [.pv (.raw (.string ((bytesOf [101, 114, 114, 111, 114, 32]) ++ r11)))]) (cs' := E9.cR [((bytesOf [101, 114, 114, 111, 114, 32]) ++ r11)]) (by kernel_rfl) rfl (by kernel_rfl) ?_
      refine s0 ?_
      obtain ⟨g24, h⟩ := if_ h
      refine app_ok (d := 64) (e := 9) (s := 1) (b := 16) (x := .row 4 1 0 l6.length) (y := .row 20416 1 0 1) E9 (xs := l6) (ys := [((bytesOf [101, 114, 114, 111, 114, 32]) ++ r11)]) (by kernel_rfl) rfl (.row 4 l6 l6.length rfl (by kernel_rfl)) (.all 20416 9 [((bytesOf [101, 114, 114, 111, 114, 32]) ++ r11)] 1 rfl (by kernel_rfl)) g24 (by kernel_rfl) ?_
      refine s0 ?_
      refine back_ok (p := p1) (by kernel_rfl) (hp1 (n1, (l6 ++ [((bytesOf [101, 114, 114, 111, 114, 32]) ++ r11)]), k7 + 1) _ h (Nat.lt_succ_self n1) ?_)
      exact sub_ok (ρ := (rI 0 0 4 ++ ([(4, some 20480)]))) (l := [(0 : Int) = 0, r1.1.length = r1.1.length, ∀ i, i < r1.1.length → ∀ j, j < 4 → E26.cf (r1.1.getD i E26.z) j = E26.cf (r1.1.getD i E26.z) j, 0 = 0, 0 = 0, ((l6 ++ [((bytesOf [101, 114, 114, 111, 114, 32]) ++ r11)]).length) = ((l6 ++ [((bytesOf [101, 114, 114, 111, 114, 32]) ++ r11)]).length), 0 = 0, r4.1.length = r4.1.length, (((r4.1.length : Nat) : Int) : Int) = ((r4.1.length : Nat) : Int), ((IntKind.i64.wrap (((k7 : Nat) : Int) + 1)) : Int) = (((k7 + 1) : Nat) : Int), 0 = 0, r4.2.Device.length = r4.2.Device.length, 0 = 0, r4.2.Fetched.length = r4.2.Fetched.length, r4.2.Tty.Lines.length = r4.2.Tty.Lines.length, ∀ i, i < r4.2.Tty.Lines.length → ∀ j, j < 1 → E30.cf (r4.2.Tty.Lines.getD i E30.z) j = E30.cf (r4.2.Tty.Lines.getD i E30.z) j, r4.2.Tty.Edit.length = r4.2.Tty.Edit.length, ∀ i, i < r4.2.Tty.Edit.length → ∀ j, j < 1 → E5.cf (r4.2.Tty.Edit.getD i E5.z) j = E5.cf (r4.2.Tty.Edit.getD i E5.z) j, (r4.2.Lost : Int) = r4.2.Lost, (r4.2.Taken : Int) = r4.2.Taken, E5.cR r4.2.Device = E5.cR r4.2.Device, AllPv (E5.cR r4.2.Device), E5.cR r4.2.Fetched = E5.cR r4.2.Fetched, AllPv (E5.cR r4.2.Fetched), E78.cR r4.1 = E78.cR r4.1, AllPv (E78.cR r4.1), E9.cR (l6 ++ [((bytesOf [101, 114, 114, 111, 114, 32]) ++ r11)]) = E9.cR (l6 ++ [((bytesOf [101, 114, 114, 111, 114, 32]) ++ r11)]), AllPv (E9.cR (l6 ++ [((bytesOf [101, 114, 114, 111, 114, 32]) ++ r11)]))]) (by kernel_rfl) ⟨rfl, rfl, fun _ _ _ _ => rfl, rfl, rfl, rfl, rfl, rfl, rfl, (wrap_nat (Int.ofNat_lt.1 (of_decide_eq_true c8)) (by omega)), rfl, rfl, rfl, rfl, rfl, fun _ _ _ _ => rfl, rfl, fun _ _ _ _ => rfl, rfl, rfl, rfl, (Elem.cR_pv _ _), rfl, (Elem.cR_pv _ _), rfl, (Elem.cR_pv _ _), rfl, (Elem.cR_pv _ _), trivial⟩
    ·refine gd_ h ?_; clear h; intro g25 h
     refine sk_and (fun h => h) ?_
     refine sk_and (fun h => h) ?_
     refine sk_and (fun h => h) ?_
     refine br_ h ?_ ?_ <;> clear h <;> intro c29 h
     ·refine sk_leaf ?_
      obtain ⟨r30, e31, h⟩ := bd_ h
      refine call_ok (d := some 58) (fn := 32) (ax := [.pv ((E5.ro ((r4.1.getD (0 + k7) (⟨0, []⟩ : AKA)).Data)))]) (ps := (Y111 r4.1 k7)) (hb' := []) (by kernel_rfl) (bn_hex_ok _ _ e31 (al := true)) (by kernel_rfl) ⟨(by first | rfl | simp_all), (by intros; first | rfl | simp_all), trivial⟩ (fun _ => (by kernel_rfl)) (by simp) rfl (by kernel_rfl) ?_
      refine sg (S := .and ((bytesOf [32]).size + r30.size ≤ 9223372036854775807) (.and ((bytesOf [111, 107]).size + ((bytesOf [32]) ++ r30).size ≤ 9223372036854775807) (.leaf 0))) ?_
      refine gd_ h ?_; clear h; intro g32 h
      refine gd_ h ?_; clear h; intro g33 h
      refine sk_leaf ?_
      refine bs_ok (d := 63) (e := 9) (s := 1) (n := 1) (cs := [.pv (.raw (.string ((bytesOf [111, 107]) ++ ((bytesOf [32]) ++ r30))))]) (cs' := E9.cR [((bytesOf [111, 107]) ++ ((bytesOf [32]) ++ r30))]) (by kernel_rfl) rfl (by kernel_rfl) ?_
      refine s0 ?_
      obtain ⟨g34, h⟩ := if_ h
      refine app_ok (d := 64) (e := 9) (s := 1) (b := 16) (x := .row 4 1 0 l6.length) (y := .row 20416 1 0 1) E9 (xs := l6) (ys := [((bytesOf [111, 107]) ++ ((bytesOf [32]) ++ r30))]) (by kernel_rfl) rfl (.row 4 l6 l6.length rfl (by kernel_rfl)) (.all 20416 9 [((bytesOf [111, 107]) ++ ((bytesOf [32]) ++ r30))] 1 rfl (by kernel_rfl)) g34 (by kernel_rfl) ?_
      refine s0 ?_
      refine back_ok (p := p1) (by kernel_rfl) (hp1 (n1, (l6 ++ [((bytesOf [111, 107]) ++ ((bytesOf [32]) ++ r30))]), k7 + 1) _ h (Nat.lt_succ_self n1) ?_)
      exact sub_ok (ρ := (rI 0 0 4 ++ ([(4, some 20480)]))) (l := [(0 : Int) = 0, r1.1.length = r1.1.length, ∀ i, i < r1.1.length → ∀ j, j < 4 → E26.cf (r1.1.getD i E26.z) j = E26.cf (r1.1.getD i E26.z) j, 0 = 0, 0 = 0, ((l6 ++ [((bytesOf [111, 107]) ++ ((bytesOf [32]) ++ r30))]).length) = ((l6 ++ [((bytesOf [111, 107]) ++ ((bytesOf [32]) ++ r30))]).length), 0 = 0, r4.1.length = r4.1.length, (((r4.1.length : Nat) : Int) : Int) = ((r4.1.length : Nat) : Int), ((IntKind.i64.wrap (((k7 : Nat) : Int) + 1)) : Int) = (((k7 + 1) : Nat) : Int), 0 = 0, r4.2.Device.length = r4.2.Device.length, 0 = 0, r4.2.Fetched.length = r4.2.Fetched.length, r4.2.Tty.Lines.length = r4.2.Tty.Lines.length, ∀ i, i < r4.2.Tty.Lines.length → ∀ j, j < 1 → E30.cf (r4.2.Tty.Lines.getD i E30.z) j = E30.cf (r4.2.Tty.Lines.getD i E30.z) j, r4.2.Tty.Edit.length = r4.2.Tty.Edit.length, ∀ i, i < r4.2.Tty.Edit.length → ∀ j, j < 1 → E5.cf (r4.2.Tty.Edit.getD i E5.z) j = E5.cf (r4.2.Tty.Edit.getD i E5.z) j, (r4.2.Lost : Int) = r4.2.Lost, (r4.2.Taken : Int) = r4.2.Taken, E5.cR r4.2.Device = E5.cR r4.2.Device, AllPv (E5.cR r4.2.Device), E5.cR r4.2.Fetched = E5.cR r4.2.Fetched, AllPv (E5.cR r4.2.Fetched), E78.cR r4.1 = E78.cR r4.1, AllPv (E78.cR r4.1), E9.cR (l6 ++ [((bytesOf [111, 107]) ++ ((bytesOf [32]) ++ r30))]) = E9.cR (l6 ++ [((bytesOf [111, 107]) ++ ((bytesOf [32]) ++ r30))]), AllPv (E9.cR (l6 ++ [((bytesOf [111, 107]) ++ ((bytesOf [32]) ++ r30))]))]) (by kernel_rfl) ⟨rfl, rfl, fun _ _ _ _ => rfl, rfl, rfl, rfl, rfl, rfl, rfl, (wrap_nat (Int.ofNat_lt.1 (of_decide_eq_true c8)) (by omega)), rfl, rfl, rfl, rfl, rfl, fun _ _ _ _ => rfl, rfl, fun _ _ _ _ => rfl, rfl, rfl, rfl, (Elem.cR_pv _ _), rfl, (Elem.cR_pv _ _), rfl, (Elem.cR_pv _ _), rfl, (Elem.cR_pv _ _), trivial⟩
     ·refine sk_leaf ?_
      refine bs_ok (d := 63) (e := 9) (s := 1) (n := 1) (cs := [.pv (.raw (.string (bytesOf [111, 107])))]) (cs' := E9.cR [(bytesOf [111, 107])]) (by kernel_rfl) rfl (by kernel_rfl) ?_
      refine s0 ?_
      obtain ⟨g35, h⟩ := if_ h
      refine app_ok (d := 64) (e := 9) (s := 1) (b := 16) (x := .row 4 1 0 l6.length) (y := .row 20416 1 0 1) E9 (xs := l6) (ys := [(bytesOf [111, 107])]) (by kernel_rfl) rfl (.row 4 l6 l6.length rfl (by kernel_rfl)) (.all 20416 9 [(bytesOf [111, 107])] 1 rfl (by kernel_rfl)) g35 (by kernel_rfl) ?_
      refine s0 ?_
      refine back_ok (p := p1) (by kernel_rfl) (hp1 (n1, (l6 ++ [(bytesOf [111, 107])]), k7 + 1) _ h (Nat.lt_succ_self n1) ?_)
      exact sub_ok (ρ := (rI 0 0 4 ++ ([(4, some 20480)]))) (l := [(0 : Int) = 0, r1.1.length = r1.1.length, ∀ i, i < r1.1.length → ∀ j, j < 4 → E26.cf (r1.1.getD i E26.z) j = E26.cf (r1.1.getD i E26.z) j, 0 = 0, 0 = 0, ((l6 ++ [(bytesOf [111, 107])]).length) = ((l6 ++ [(bytesOf [111, 107])]).length), 0 = 0, r4.1.length = r4.1.length, (((r4.1.length : Nat) : Int) : Int) = ((r4.1.length : Nat) : Int), ((IntKind.i64.wrap (((k7 : Nat) : Int) + 1)) : Int) = (((k7 + 1) : Nat) : Int), 0 = 0, r4.2.Device.length = r4.2.Device.length, 0 = 0, r4.2.Fetched.length = r4.2.Fetched.length, r4.2.Tty.Lines.length = r4.2.Tty.Lines.length, ∀ i, i < r4.2.Tty.Lines.length → ∀ j, j < 1 → E30.cf (r4.2.Tty.Lines.getD i E30.z) j = E30.cf (r4.2.Tty.Lines.getD i E30.z) j, r4.2.Tty.Edit.length = r4.2.Tty.Edit.length, ∀ i, i < r4.2.Tty.Edit.length → ∀ j, j < 1 → E5.cf (r4.2.Tty.Edit.getD i E5.z) j = E5.cf (r4.2.Tty.Edit.getD i E5.z) j, (r4.2.Lost : Int) = r4.2.Lost, (r4.2.Taken : Int) = r4.2.Taken, E5.cR r4.2.Device = E5.cR r4.2.Device, AllPv (E5.cR r4.2.Device), E5.cR r4.2.Fetched = E5.cR r4.2.Fetched, AllPv (E5.cR r4.2.Fetched), E78.cR r4.1 = E78.cR r4.1, AllPv (E78.cR r4.1), E9.cR (l6 ++ [(bytesOf [111, 107])]) = E9.cR (l6 ++ [(bytesOf [111, 107])]), AllPv (E9.cR (l6 ++ [(bytesOf [111, 107])]))]) (by kernel_rfl) ⟨rfl, rfl, fun _ _ _ _ => rfl, rfl, rfl, rfl, rfl, rfl, rfl, (wrap_nat (Int.ofNat_lt.1 (of_decide_eq_true c8)) (by omega)), rfl, rfl, rfl, rfl, rfl, fun _ _ _ _ => rfl, rfl, fun _ _ _ _ => rfl, rfl, rfl, rfl, (Elem.cR_pv _ _), rfl, (Elem.cR_pv _ _), rfl, (Elem.cR_pv _ _), rfl, (Elem.cR_pv _ _), trivial⟩
   ·refine sk_leaf ?_
    refine bs_ok (d := 84) (e := 3) (s := 1) (n := 6) (cs := [.pv (.raw (.int .i64 ((r4.2.Device.length : Nat) : Int))), .pv (.raw (.int .i64 ((r4.2.Fetched.length : Nat) : Int))), .pv (.raw (.int .i64 ((r4.2.Tty.Lines.length : Nat) : Int))), .pv (.raw (.int .i64 ((r4.2.Tty.Edit.length : Nat) : Int))), .pv (.raw (.int .i64 r4.2.Lost)), .pv (.raw (.int .i64 r4.2.Taken))]) (cs' := E3.cR [((r4.2.Device.length : Nat) : Int), ((r4.2.Fetched.length : Nat) : Int), ((r4.2.Tty.Lines.length : Nat) : Int), ((r4.2.Tty.Edit.length : Nat) : Int), r4.2.Lost, r4.2.Taken]) (by kernel_rfl) rfl (by kernel_rfl) ?_
    refine s0 ?_
    refine len_row (by kernel_rfl) 4 (e := 9) (s := 1) (n := l6.length) (cs := E9.cR l6) (by kernel_rfl) (Elem.cR_length _ _) ?_; intro hl2_0
    refine len_box (by kernel_rfl) 0 2 (cs := (Y71 r4.2 1 2)) (by kernel_rfl) (s := 1) (n := r4.2.Tty.Lines.length) (c := fun i j => E30.cf (r4.2.Tty.Lines.getD i E30.z) j) rfl ?_; intro hl2_1
    refine len_box (by kernel_rfl) 0 3 (cs := (Y71 r4.2 1 2)) (by kernel_rfl) (s := 1) (n := r4.2.Tty.Edit.length) (c := fun i j => E5.cf (r4.2.Tty.Edit.getD i E5.z) j) rfl ?_; intro hl2_2
    refine len_row (by kernel_rfl) 1 (e := 5) (s := 1) (n := r4.2.Device.length) (cs := E5.cR r4.2.Device) (by kernel_rfl) (Elem.cR_length _ _) ?_; intro hl2_3
    refine len_row (by kernel_rfl) 2 (e := 5) (s := 1) (n := r4.2.Fetched.length) (cs := E5.cR r4.2.Fetched) (by kernel_rfl) (Elem.cR_length _ _) ?_; intro hl2_4
    refine len_row (by kernel_rfl) 3 (e := 78) (s := 2) (n := r4.1.length) (cs := E78.cR r4.1) (by kernel_rfl) (Elem.cR_length _ _) ?_; intro hl2_5
    refine len_row (by kernel_rfl) 21760 (e := 3) (s := 1) (n := [((r4.2.Device.length : Nat) : Int), ((r4.2.Fetched.length : Nat) : Int), ((r4.2.Tty.Lines.length : Nat) : Int), ((r4.2.Tty.Edit.length : Nat) : Int), r4.2.Lost, r4.2.Taken].length) (cs := E3.cR [((r4.2.Device.length : Nat) : Int), ((r4.2.Fetched.length : Nat) : Int), ((r4.2.Tty.Lines.length : Nat) : Int), ((r4.2.Tty.Edit.length : Nat) : Int), r4.2.Lost, r4.2.Taken]) (by kernel_rfl) (Elem.cR_length _ _) ?_; intro hl2_6
    replace h : (fun (x : Nat × ByteArray × Nat) => bench_Tell_l2 r4 l6 x.1 x.2.1 x.2.2 = some r) (FUEL, (bytesOf [108, 101, 102, 116]), 0) := h
    refine loop_ok (by kernel_rfl) (X := Nat × ByteArray × Nat) (fun x => bench_Tell_l2 r4 l6 x.1 x.2.1 x.2.2 = some r) (fun x => x.1) (fun x => mk 100 [(2, .pv (.raw (.slice none 0 0))), (3, .pv (.raw (.int .i64 0))), (9, .row 0 1 0 l6.length), (13, .pv (.raw (.string x.2.1))), (84, .row 1 1 0 ([((r4.2.Device.length : Nat) : Int), ((r4.2.Fetched.length : Nat) : Int), ((r4.2.Tty.Lines.length : Nat) : Int), ((r4.2.Tty.Edit.length : Nat) : Int), r4.2.Lost, r4.2.Taken].length)), (85, .pv (.raw (.int .i64 ((6 : Nat) : Int)))), (86, .pv (.raw (.int .i64 ((x.2.2 : Nat) : Int))))] [(0, .row 9 1 (E9.cR l6)), (1, .row 3 1 (E3.cR [((r4.2.Device.length : Nat) : Int), ((r4.2.Fetched.length : Nat) : Int), ((r4.2.Tty.Lines.length : Nat) : Int), ((r4.2.Tty.Edit.length : Nat) : Int), r4.2.Lost, r4.2.Taken]))]) (FUEL, (bytesOf [108, 101, 102, 116]), 0) h ?_ ?_
    ·exact sub_ok (ρ := [(0, some 4), (1, some 21760)]) (l := [(0 : Int) = 0, 0 = 0, l6.length = l6.length, (bytesOf [108, 101, 102, 116]) = (bytesOf [108, 101, 102, 116]), 0 = 0, 6 = ([((r4.2.Device.length : Nat) : Int), ((r4.2.Fetched.length : Nat) : Int), ((r4.2.Tty.Lines.length : Nat) : Int), ((r4.2.Tty.Edit.length : Nat) : Int), r4.2.Lost, r4.2.Taken].length), (((6 : Nat) : Int) : Int) = ((6 : Nat) : Int), (0 : Int) = ((0 : Nat) : Int), E9.cR l6 = E9.cR l6, AllPv (E9.cR l6), E3.cR [((r4.2.Device.length : Nat) : Int), ((r4.2.Fetched.length : Nat) : Int), ((r4.2.Tty.Lines.length : Nat) : Int), ((r4.2.Tty.Edit.length : Nat) : Int), r4.2.Lost, r4.2.Taken] = E3.cR [((r4.2.Device.length : Nat) : Int), ((r4.2.Fetched.length : Nat) : Int), ((r4.2.Tty.Lines.length : Nat) : Int), ((r4.2.Tty.Edit.length : Nat) : Int), r4.2.Lost, r4.2.Taken], AllPv (E3.cR [((r4.2.Device.length : Nat) : Int), ((r4.2.Fetched.length : Nat) : Int), ((r4.2.Tty.Lines.length : Nat) : Int), ((r4.2.Tty.Edit.length : Nat) : Int), r4.2.Lost, r4.2.Taken])]) (by kernel_rfl) ⟨rfl, rfl, rfl, rfl, rfl, (by first | rfl | simp), rfl, (by first | rfl | simp), rfl, (Elem.cR_pv _ _), rfl, (Elem.cR_pv _ _), trivial⟩
    ·clear h; rintro ⟨n2, s36, k37⟩ h p2 hp2
     obtain _ | n2 := n2
     ·cases (show (none : Option ((List ByteArray) × Int)) = some r from h)
     have h : bench_Tell_l2 r4 l6 (n2 + 1) s36 k37 = some r := h
     unfold bench_Tell_l2 at h
     refine sg (S := .br (decide ((((k37 : Nat) : Int) : Int) < ((6 : Nat) : Int))) (.and (0 ≤ (((k37 : Nat) : Int) : Int) ∧ ((k37 : Nat) : Int) < (([((r4.2.Device.length : Nat) : Int), ((r4.2.Fetched.length : Nat) : Int), ((r4.2.Tty.Lines.length : Nat) : Int), ((r4.2.Tty.Edit.length : Nat) : Int), r4.2.Lost, r4.2.Taken].length : Nat) : Int)) (.leaf 0)) (.leaf 1)) ?_
     refine br_ h ?_ ?_ <;> clear h <;> intro c38 h
     ·refine gd_ h ?_; clear h; intro g39 h
      refine sk_leaf ?_
      refine ld_ok (d := 89) (id := 1) (i := (0 + k37)) (j := 0) (e := 3) (n := 1) E3 (xs := [((r4.2.Device.length : Nat) : Int), ((r4.2.Fetched.length : Nat) : Int), ((r4.2.Tty.Lines.length : Nat) : Int), ((r4.2.Tty.Edit.length : Nat) : Int), r4.2.Lost, r4.2.Taken]) (by kernel_rfl) (by kernel_rfl) (by first | omega | (simp at * <;> omega) | (simp_all <;> omega)) (by exact Nat.le_of_ble_eq_true rfl) ?_
      refine s0 ?_
      obtain ⟨r40, e41, h⟩ := bd_ h
      refine call_ok (d := some 92) (fn := 31) (ax := [.pv (.raw (.int .i64 ([((r4.2.Device.length : Nat) : Int), ((r4.2.Fetched.length : Nat) : Int), ((r4.2.Tty.Lines.length : Nat) : Int), ((r4.2.Tty.Edit.length : Nat) : Int), r4.2.Lost, r4.2.Taken].getD (0 + k37) 0)))]) (ps := [(([((r4.2.Device.length : Nat) : Int), ((r4.2.Fetched.length : Nat) : Int), ((r4.2.Tty.Lines.length : Nat) : Int), ((r4.2.Tty.Edit.length : Nat) : Int), r4.2.Lost, r4.2.Taken].getD (0 + k37) 0) : Int) = ([((r4.2.Device.length : Nat) : Int), ((r4.2.Fetched.length : Nat) : Int), ((r4.2.Tty.Lines.length : Nat) : Int), ((r4.2.Tty.Edit.length : Nat) : Int), r4.2.Lost, r4.2.Taken].getD (0 + k37) 0)]) (hb' := []) (by kernel_rfl) (bn_itoa_ok _ _ e41 (al := true)) (by kernel_rfl) ⟨rfl, trivial⟩ (fun _ => (by kernel_rfl)) (by simp) rfl (by kernel_rfl) ?_
      refine sg (S := .and ((bytesOf [32]).size + r40.size ≤ 9223372036854775807) (.and (s36.size + ((bytesOf [32]) ++ r40).size ≤ 9223372036854775807) (.leaf 0))) ?_
      refine gd_ h ?_; clear h; intro g42 h
      refine gd_ h ?_; clear h; intro g43 h
      refine sk_leaf ?_
      refine back_ok (p := p2) (by kernel_rfl) (hp2 (n2, (s36 ++ ((bytesOf [32]) ++ r40)), k37 + 1) _ h (Nat.lt_succ_self n2) ?_)
      exact sub_ok (ρ := [(0, some 0), (1, some 1)]) (l := [(0 : Int) = 0, 0 = 0, l6.length = l6.length, (s36 ++ ((bytesOf [32]) ++ r40)) = (s36 ++ ((bytesOf [32]) ++ r40)), 0 = 0, ([((r4.2.Device.length : Nat) : Int), ((r4.2.Fetched.length : Nat) : Int), ((r4.2.Tty.Lines.length : Nat) : Int), ((r4.2.Tty.Edit.length : Nat) : Int), r4.2.Lost, r4.2.Taken].length) = ([((r4.2.Device.length : Nat) : Int), ((r4.2.Fetched.length : Nat) : Int), ((r4.2.Tty.Lines.length : Nat) : Int), ((r4.2.Tty.Edit.length : Nat) : Int), r4.2.Lost, r4.2.Taken].length), (((6 : Nat) : Int) : Int) = ((6 : Nat) : Int), ((IntKind.i64.wrap (((k37 : Nat) : Int) + 1)) : Int) = (((k37 + 1) : Nat) : Int), E9.cR l6 = E9.cR l6, AllPv (E9.cR l6), E3.cR [((r4.2.Device.length : Nat) : Int), ((r4.2.Fetched.length : Nat) : Int), ((r4.2.Tty.Lines.length : Nat) : Int), ((r4.2.Tty.Edit.length : Nat) : Int), r4.2.Lost, r4.2.Taken] = E3.cR [((r4.2.Device.length : Nat) : Int), ((r4.2.Fetched.length : Nat) : Int), ((r4.2.Tty.Lines.length : Nat) : Int), ((r4.2.Tty.Edit.length : Nat) : Int), r4.2.Lost, r4.2.Taken], AllPv (E3.cR [((r4.2.Device.length : Nat) : Int), ((r4.2.Fetched.length : Nat) : Int), ((r4.2.Tty.Lines.length : Nat) : Int), ((r4.2.Tty.Edit.length : Nat) : Int), r4.2.Lost, r4.2.Taken])]) (by kernel_rfl) ⟨rfl, rfl, rfl, rfl, rfl, rfl, rfl, (wrap_nat (Int.ofNat_lt.1 (of_decide_eq_true c38)) (by omega)), rfl, (Elem.cR_pv _ _), rfl, (Elem.cR_pv _ _), trivial⟩
     ·refine sk_leaf ?_
      refine bs_ok (d := 98) (e := 9) (s := 1) (n := 1) (cs := [.pv (.raw (.string s36))]) (cs' := E9.cR [s36]) (by kernel_rfl) rfl (by kernel_rfl) ?_
      refine s0 ?_
      obtain ⟨g44, h⟩ := if_ h
      refine app_ok (d := 99) (e := 9) (s := 1) (b := 16) (x := .row 0 1 0 l6.length) (y := .row 22656 1 0 1) E9 (xs := l6) (ys := [s36]) (by kernel_rfl) rfl (.row 0 l6 l6.length rfl (by kernel_rfl)) (.all 22656 9 [s36] 1 rfl (by kernel_rfl)) g44 (by kernel_rfl) ?_
      refine s0 ?_
      obtain rfl := some_ h
      exact end_ok [(0, some 22720)] Tryz.results16 (ps := [0 = 0, ((l6 ++ [s36]).length) = (l6 ++ [s36]).length, (0 : Int) = 0, E9.cR (l6 ++ [s36]) = E9.cR (l6 ++ [s36]), AllPv (E9.cR (l6 ++ [s36]))]) (by kernel_rfl) ⟨rfl, rfl, rfl, rfl, (Elem.cR_pv _ _), trivial⟩ (fun _ => ⟨rfl, by simp only [List.mem_cons, List.not_mem_nil, or_false, forall_eq_or_imp, forall_eq]; exact Elem.cR_bald E9_raw _⟩)
def Y63 (x0 : Int) (x1 : (List ByteArray)) : Bool := (((x0 : Int) == 0) && ((((x1.length : Nat) : Int) : Int) == 10))
def Y51 (x0 : Int) (x1 : (List ByteArray)) : Bool := ((((x0 : Int) == 0) && ((((x1.length : Nat) : Int) : Int) == 10)) && ((x1.getD (0 + 1) ByteArray.empty).toList == (bytesOf [101, 114, 114, 111, 114, 32, 55]).toList))
def Y93 (x0 : (List ByteArray)) : Bool := ((x0.getD (0 + 3) ByteArray.empty).toList == (bytesOf [101, 114, 114, 111, 114, 32, 55]).toList)
theorem top_alive_ok (r : Bool) (h : top_alive = some r) {al : Bool} : PCalls Tryz.prog 6 [] al (.pv (.raw (.bool r))) [] := by
 unfold top_alive at h
 refine fn_ok tabOk Tryz.func6 (by kernel_rfl) (by kernel_rfl) Tryz.ntmps6 (by simp) ?_
 refine s0 ?_
 obtain ⟨r1, e2, h⟩ := bd_ h
 refine call_ok (d := some 4) (fn := 16) (ax := [.pv (.raw (.string (bytesOf [105, 110, 32, 57, 55, 10, 114, 117, 110, 32, 49, 10, 115, 97, 118, 101, 32, 48, 10, 114, 117, 110, 32, 48, 10, 114, 101, 115, 116, 111, 114, 101, 32, 48, 10, 114, 117, 110, 32, 48, 10, 114, 117, 110, 32, 48, 10, 114, 117, 110, 32, 48, 10, 114, 117, 110, 32, 49, 10])))]) (ps := [(bytesOf [105, 110, 32, 57, 55, 10, 114, 117, 110, 32, 49, 10, 115, 97, 118, 101, 32, 48, 10, 114, 117, 110, 32, 48, 10, 114, 101, 115, 116, 111, 114, 101, 32, 48, 10, 114, 117, 110, 32, 48, 10, 114, 117, 110, 32, 48, 10, 114, 117, 110, 32, 48, 10, 114, 117, 110, 32, 49, 10]) = (bytesOf [105, 110, 32, 57, 55, 10, 114, 117, 110, 32, 49, 10, 115, 97, 118, 101, 32, 48, 10, 114, 117, 110, 32, 48, 10, 114, 101, 115, 116, 111, 114, 101, 32, 48, 10, 114, 117, 110, 32, 48, 10, 114, 117, 110, 32, 48, 10, 114, 117, 110, 32, 48, 10, 114, 117, 110, 32, 49, 10])]) (hb' := [.row 9 1 (E9.cR r1.1)]) (by kernel_rfl) (bench_Tell_ok _ _ e2 (al := true)) (by kernel_rfl) ⟨rfl, trivial⟩ (fun _ => (by kernel_rfl)) (by simp) (by simp only [List.map_cons, List.map_nil, Elem.row_up, up_map] <;> rfl) (by kernel_rfl) ?_
 refine sg (S := .and ((((r1.2 : Int) == 0) = true → (((r1.2 : Int) == 0) = true))) (.and ((((r1.2 : Int) == 0) = true → (((r1.2 : Int) == 0) = true))) (.and (((r1.2 : Int) == 0) = true → ((r1.2 : Int) == 0) = true) (.and (((Y63 r1.2 r1.1) = true → ((Y63 r1.2 r1.1) = true))) (.and (((((r1.2 : Int) == 0) && ((((r1.1.length : Nat) : Int) : Int) == 10)) = true → (0 ≤ (1 : Int) ∧ 1 < ((r1.1.length : Nat) : Int)))) (.leaf 0)))))) ?_
 refine sk_and (fun h => h) ?_
 refine sk_and (fun h => h) ?_
 refine sk_and (fun h => h) ?_
 refine sk_and (fun h => h) ?_
 refine gd_ h ?_; clear h; intro g7 h
 refine sk_leaf ?_
 refine ldG_ok (d := 17) (id := 16640) (i := (0 + 1)) (j := 0) (e := 9) (n := 1) (g := (((r1.2 : Int) == 0) && ((((r1.1.length : Nat) : Int) : Int) == 10))) (ws := [(((r1.2 : Int) == 0) && ((((r1.1.length : Nat) : Int) : Int) == 10)) = true]) E9 (xs := r1.1) (by kernel_rfl) (fun hg => ⟨((by decide : ∀ y0 : Bool, ((y0 = true) → (y0 = true))) (((r1.2 : Int) == 0) && ((((r1.1.length : Nat) : Int) : Int) == 10))) hg, trivial⟩) (by kernel_rfl) (fun hg => (by first | omega | (simp at * <;> omega) | (simp_all <;> omega))) (by exact Nat.le_of_ble_eq_true rfl) ?_
 refine sg (S := .and (((Y63 r1.2 r1.1) = true → ((Y63 r1.2 r1.1) = true))) (.and ((Y63 r1.2 r1.1) = true → (Y63 r1.2 r1.1) = true) (.and (((Y51 r1.2 r1.1) = true → ((Y51 r1.2 r1.1) = true))) (.and ((((((r1.2 : Int) == 0) && ((((r1.1.length : Nat) : Int) : Int) == 10)) && ((r1.1.getD (0 + 1) ByteArray.empty).toList == (bytesOf [101, 114, 114, 111, 114, 32, 55]).toList)) = true → (0 ≤ (3 : Int) ∧ 3 < ((r1.1.length : Nat) : Int)))) (.leaf 0))))) ?_
 refine sk_and (fun h => h) ?_
 refine sk_and (fun h => h) ?_
 refine sk_and (fun h => h) ?_
 refine gd_ h ?_; clear h; intro g11 h
 refine sk_leaf ?_
 refine ldG_ok (d := 23) (id := 16640) (i := (0 + 3)) (j := 0) (e := 9) (n := 1) (g := ((((r1.2 : Int) == 0) && ((((r1.1.length : Nat) : Int) : Int) == 10)) && ((r1.1.getD (0 + 1) ByteArray.empty).toList == (bytesOf [101, 114, 114, 111, 114, 32, 55]).toList))) (ws := [((((r1.2 : Int) == 0) && ((((r1.1.length : Nat) : Int) : Int) == 10)) && ((r1.1.getD (0 + 1) ByteArray.empty).toList == (bytesOf [101, 114, 114, 111, 114, 32, 55]).toList)) = true]) E9 (xs := r1.1) (by kernel_rfl) (fun hg => ⟨((by decide : ∀ y0 : Bool, ((y0 = true) → (y0 = true))) ((((r1.2 : Int) == 0) && ((((r1.1.length : Nat) : Int) : Int) == 10)) && ((r1.1.getD (0 + 1) ByteArray.empty).toList == (bytesOf [101, 114, 114, 111, 114, 32, 55]).toList))) hg, trivial⟩) (by kernel_rfl) (fun hg => (by first | omega | (simp at * <;> omega) | (simp_all <;> omega))) (by exact Nat.le_of_ble_eq_true rfl) ?_
 refine sg (S := .and (((Y51 r1.2 r1.1) = true → ((Y51 r1.2 r1.1) = true))) (.and ((Y51 r1.2 r1.1) = true → (Y51 r1.2 r1.1) = true) (.and ((((Y51 r1.2 r1.1) && (Y93 r1.1)) = true → (((Y51 r1.2 r1.1) && (Y93 r1.1)) = true))) (.and (((((((r1.2 : Int) == 0) && ((((r1.1.length : Nat) : Int) : Int) == 10)) && ((r1.1.getD (0 + 1) ByteArray.empty).toList == (bytesOf [101, 114, 114, 111, 114, 32, 55]).toList)) && ((r1.1.getD (0 + 3) ByteArray.empty).toList == (bytesOf [101, 114, 114, 111, 114, 32, 55]).toList)) = true → (0 ≤ (9 : Int) ∧ 9 < ((r1.1.length : Nat) : Int)))) (.leaf 0))))) ?_
 refine sk_and (fun h => h) ?_
 refine sk_and (fun h => h) ?_
 refine sk_and (fun h => h) ?_
 refine gd_ h ?_; clear h; intro g15 h
 refine sk_leaf ?_
 refine ldG_ok (d := 29) (id := 16640) (i := (0 + 9)) (j := 0) (e := 9) (n := 1) (g := (((((r1.2 : Int) == 0) && ((((r1.1.length : Nat) : Int) : Int) == 10)) && ((r1.1.getD (0 + 1) ByteArray.empty).toList == (bytesOf [101, 114, 114, 111, 114, 32, 55]).toList)) && ((r1.1.getD (0 + 3) ByteArray.empty).toList == (bytesOf [101, 114, 114, 111, 114, 32, 55]).toList))) (ws := [(((((r1.2 : Int) == 0) && ((((r1.1.length : Nat) : Int) : Int) == 10)) && ((r1.1.getD (0 + 1) ByteArray.empty).toList == (bytesOf [101, 114, 114, 111, 114, 32, 55]).toList)) && ((r1.1.getD (0 + 3) ByteArray.empty).toList == (bytesOf [101, 114, 114, 111, 114, 32, 55]).toList)) = true]) E9 (xs := r1.1) (by kernel_rfl) (fun hg => ⟨((by decide : ∀ y0 : Bool, ((y0 = true) → (y0 = true))) (((((r1.2 : Int) == 0) && ((((r1.1.length : Nat) : Int) : Int) == 10)) && ((r1.1.getD (0 + 1) ByteArray.empty).toList == (bytesOf [101, 114, 114, 111, 114, 32, 55]).toList)) && ((r1.1.getD (0 + 3) ByteArray.empty).toList == (bytesOf [101, 114, 114, 111, 114, 32, 55]).toList))) hg, trivial⟩) (by kernel_rfl) (fun hg => (by first | omega | (simp at * <;> omega) | (simp_all <;> omega))) (by exact Nat.le_of_ble_eq_true rfl) ?_
 refine sg (S := .and ((((Y51 r1.2 r1.1) && (Y93 r1.1)) = true → (((Y51 r1.2 r1.1) && (Y93 r1.1)) = true))) (.and (((Y51 r1.2 r1.1) && (Y93 r1.1)) = true → ((Y51 r1.2 r1.1) && (Y93 r1.1)) = true) (.leaf 0))) ?_
 refine sk_and (fun h => h) ?_
 refine sk_and (fun h => h) ?_
 refine sk_leaf ?_
 obtain rfl := some_ h
 exact end_ok [] Tryz.results6 (ps := [((((((r1.2 : Int) == 0) && ((((r1.1.length : Nat) : Int) : Int) == 10)) && ((r1.1.getD (0 + 1) ByteArray.empty).toList == (bytesOf [101, 114, 114, 111, 114, 32, 55]).toList)) && ((r1.1.getD (0 + 3) ByteArray.empty).toList == (bytesOf [101, 114, 114, 111, 114, 32, 55]).toList)) && ((r1.1.getD (0 + 9) ByteArray.empty).toList == (bytesOf [108, 101, 102, 116, 32, 48, 32, 48, 32, 48, 32, 49, 32, 48, 32, 49]).toList)) = ((((((r1.2 : Int) == 0) && ((((r1.1.length : Nat) : Int) : Int) == 10)) && ((r1.1.getD (0 + 1) ByteArray.empty).toList == (bytesOf [101, 114, 114, 111, 114, 32, 55]).toList)) && ((r1.1.getD (0 + 3) ByteArray.empty).toList == (bytesOf [101, 114, 114, 111, 114, 32, 55]).toList)) && ((r1.1.getD (0 + 9) ByteArray.empty).toList == (bytesOf [108, 101, 102, 116, 32, 48, 32, 48, 32, 48, 32, 49, 32, 48, 32, 49]).toList))]) (by kernel_rfl) ⟨rfl, trivial⟩ (fun _ => ⟨rfl, by simp⟩)
set_option maxRecDepth 100000 in
theorem slices_Clone_api_KernOp_ok (a0 r : List AKO) (h : slices_Clone_api_KernOp a0 = some r) {al : Bool} : PCalls Tryz.prog 8 [.pv (E26.ro a0)] al (.row 0 4 0 r.length) [.row 26 4 (E26.cR r)] := by
 unfold slices_Clone_api_KernOp at h
 obtain ⟨g, h⟩ := if_ h
 obtain rfl := some_ h
 refine fn_ok tabOk Tryz.func8 (by kernel_rfl) (by kernel_rfl) Tryz.ntmps8 (by simp) ?_
 refine segs [1] tabOk mixed 4000 (S := .leaf 0) (by kernel_rfl) ?_
 refine sk_leaf ?_
 refine nil_ok (d1 := 3) (d2 := 4) (s := 4) (n := a0.length) (c := fun i j => E26.cf (a0.getD i E26.z) j) tabOk (by kernel_rfl) ?_
 intro b hb
 refine sg (S := .br b (.leaf 0) (.leaf 1)) ?_
 refine sk_br ?_ ?_ <;> intro hc <;> refine sk_leaf ?_
 ·obtain rfl : a0 = [] := List.eq_nil_of_length_eq_zero (hb hc)
  exact end_ok [(0, none)] Tryz.results8 (ps := [0 = 0, 0 = 0, E26.cR [] = []]) (by kernel_rfl) ⟨rfl, rfl, rfl, trivial⟩ (fun _ => ⟨rfl, by simp only [List.mem_cons, List.not_mem_nil, or_false, forall_eq]; exact Elem.cR_bald E26_raw _⟩)
 ·refine bs_ok (d := 5) (e := 26) (s := 4) (n := 0) (cs := []) (cs' := E26.cR []) (by kernel_rfl) rfl (by kernel_rfl) ?_
  refine s0 ?_
  refine app_ok (d := 7) (e := 26) (s := 4) (b := 32) (x := .row 16704 4 0 0) (y := .pv (E26.ro a0)) E26 (xs := []) (ys := a0) (by kernel_rfl) rfl (.row 16704 [] 0 rfl (by kernel_rfl)) (.ro a0) ⟨by simpa using g, by simp; omega⟩ (by kernel_rfl) ?_
  refine s0 ?_
  exact end_ok [(0, some 16832)] Tryz.results8 (ps := [0 = 0, a0.length = a0.length, E26.cR a0 = E26.cR a0, AllPv (E26.cR a0)]) (by kernel_rfl) ⟨rfl, rfl, rfl, Elem.cR_pv _ _, trivial⟩ (fun _ => ⟨rfl, by simp only [List.mem_cons, List.not_mem_nil, or_false, forall_eq]; exact Elem.cR_bald E26_raw _⟩)
theorem top_TopRead_1_ok (a0 : AKO) (r : Bool) (h : top_TopRead_1 a0 = some r) {al : Bool} : PCalls Tryz.prog 9 [.agg (Y121 a0)] al (.pv (.raw (.bool r))) [] := by
 unfold top_TopRead_1 at h
 refine fn_ok tabOk Tryz.func9 (by kernel_rfl) (by kernel_rfl) Tryz.ntmps9 (by simp) ?_
 refine s0 ?_
 obtain rfl := some_ h
 exact end_ok [] Tryz.results9 (ps := [((a0.Kind : Int) == 3) = ((a0.Kind : Int) == 3)]) (by kernel_rfl) ⟨rfl, trivial⟩ (fun _ => ⟨rfl, by simp⟩)
theorem sIdx_ok (a0 : (List AKO)) (r : Int) (h : sIdx a0 = some r) {al : Bool} : PCalls Tryz.prog 19 [.pv ((E26.ro a0)), .fn 9 []] al (.pv (.raw (.int .i64 r))) [] := by
 unfold sIdx at h
 refine fn_ok tabOk Tryz.func19 (by kernel_rfl) (by kernel_rfl) Tryz.ntmps19 (by simp) ?_
 refine s0 ?_
 refine len_ro (by kernel_rfl) 0 (s := 4) (n := a0.length) (c := fun i j => E26.cf (a0.getD i E26.z) j) (by kernel_rfl) ?_; intro hl1_0
 replace h : (fun (x : Nat × Nat) => sIdx_l1 a0 x.1 x.2 = some r) (FUEL, 0) := h
 refine loop_ok (by kernel_rfl) (X := Nat × Nat) (fun x => sIdx_l1 a0 x.1 x.2 = some r) (fun x => x.1) (fun x => mk 19 [(0, .pv ((E26.ro a0))), (1, .fn 9 []), (4, .pv (.raw (.int .i64 0))), (7, .pv (.raw (.int .i64 ((a0.length : Nat) : Int)))), (8, .pv (.raw (.int .i64 ((x.2 : Nat) : Int))))] []) (FUEL, 0) h ?_ ?_
 ·exact sub_ok (ρ := []) (l := [a0.length = a0.length, ∀ i, i < a0.length → ∀ j, j < 4 → E26.cf (a0.getD i E26.z) j = E26.cf (a0.getD i E26.z) j, (0 : Int) = 0, (((a0.length : Nat) : Int) : Int) = ((a0.length : Nat) : Int), (0 : Int) = ((0 : Nat) : Int)]) (by kernel_rfl) ⟨rfl, fun _ _ _ _ => rfl, rfl, rfl, (by first | rfl | simp), trivial⟩
 ·clear h; rintro ⟨n1, k1⟩ h p1 hp1
  obtain _ | n1 := n1
  ·cases (show (none : Option (Int)) = some r from h)
  have h : sIdx_l1 a0 (n1 + 1) k1 = some r := h
  unfold sIdx_l1 at h
  refine sg (S := .br (decide ((((k1 : Nat) : Int) : Int) < ((a0.length : Nat) : Int))) (.and (0 ≤ (((k1 : Nat) : Int) : Int) ∧ ((k1 : Nat) : Int) < ((a0.length : Nat) : Int)) (.leaf 0)) (.leaf 1)) ?_
  refine br_ h ?_ ?_ <;> clear h <;> intro c2 h
  ·refine sk_and ⟨Int.natCast_nonneg _, of_decide_eq_true c2⟩ ?_
   refine sk_leaf ?_
   obtain ⟨r4, e5, h⟩ := bd_ h
   refine call_ok (d := some 16) (fn := 9) (ax := [.agg (Y120 a0 k1)]) (ps := [((a0.getD k1 (⟨0, 0, 0, 0⟩ : AKO)).Kind : Int) = ((a0.getD k1 (⟨0, 0, 0, 0⟩ : AKO)).Kind), ((a0.getD k1 (⟨0, 0, 0, 0⟩ : AKO)).Core : Int) = ((a0.getD k1 (⟨0, 0, 0, 0⟩ : AKO)).Core), ((a0.getD k1 (⟨0, 0, 0, 0⟩ : AKO)).N : Int) = ((a0.getD k1 (⟨0, 0, 0, 0⟩ : AKO)).N), ((a0.getD k1 (⟨0, 0, 0, 0⟩ : AKO)).Byte : Int) = ((a0.getD k1 (⟨0, 0, 0, 0⟩ : AKO)).Byte)]) (hb' := []) (by kernel_rfl) (top_TopRead_1_ok _ _ e5 (al := true)) (by kernel_rfl) ⟨rfl, rfl, rfl, rfl, trivial⟩ (fun _ => (by kernel_rfl)) (by simp) rfl (by kernel_rfl) ?_
   refine sg (S := .br r4 (.leaf 0) (.leaf 1)) ?_
   refine br_ h ?_ ?_ <;> clear h <;> intro c6 h
   ·refine sk_leaf ?_
    obtain rfl := some_ h
    exact end_ok [] Tryz.results19 (ps := [(((k1 : Nat) : Int) : Int) = ((k1 : Nat) : Int)]) (by kernel_rfl) ⟨rfl, trivial⟩ (fun _ => ⟨rfl, by simp⟩)
   ·refine sk_leaf ?_
    refine back_ok (p := p1) (by kernel_rfl) (hp1 (n1, k1 + 1) _ h (Nat.lt_succ_self n1) ?_)
    exact sub_ok (ρ := []) (l := [a0.length = a0.length, ∀ i, i < a0.length → ∀ j, j < 4 → E26.cf (a0.getD i E26.z) j = E26.cf (a0.getD i E26.z) j, (0 : Int) = 0, (((a0.length : Nat) : Int) : Int) = ((a0.length : Nat) : Int), ((IntKind.i64.wrap (((k1 : Nat) : Int) + 1)) : Int) = (((k1 + 1) : Nat) : Int)]) (by kernel_rfl) ⟨rfl, fun _ _ _ _ => rfl, rfl, rfl, (wrap_nat (Int.ofNat_lt.1 (of_decide_eq_true c2)) (by omega)), trivial⟩
  ·refine sk_leaf ?_
   obtain rfl := some_ h
   exact end_ok [] Tryz.results19 (ps := [((-1) : Int) = (-1)]) (by kernel_rfl) ⟨rfl, trivial⟩ (fun _ => ⟨rfl, by simp⟩)
def Y112 (x0 : List AKO) (x1 : Int) : List AV := [.pv (.raw (.int .i64 ((x0.getD (0 + (Int.toNat x1)) (⟨0, 0, 0, 0⟩ : AKO)).Kind))), .pv (.raw (.int .i64 ((x0.getD (0 + (Int.toNat x1)) (⟨0, 0, 0, 0⟩ : AKO)).Core))), .pv (.raw (.int .i64 ((x0.getD (0 + (Int.toNat x1)) (⟨0, 0, 0, 0⟩ : AKO)).N))), .pv (.raw (.int .u8 ((x0.getD (0 + (Int.toNat x1)) (⟨0, 0, 0, 0⟩ : AKO)).Byte)))]
theorem sDel_h0_ok (a0 : (List AKO)) (r : (List AKO)) (h : sDel_h0 a0 = some r) {al : Bool} : MCalls Tryz.prog 7 [.row 0 4 0 a0.length, .fn 9 []] [.row 26 4 (E26.cR a0)] 0 al (.row 0 4 0 r.length) [.row 26 4 (E26.cR r)] := by
 unfold sDel_h0 at h
 refine fnM_ok tabOk (fz := []) Tryz.func7 (by kernel_rfl) (by kernel_rfl) Tryz.ntmps7 (by simp) (by first | (simp; done) | exact Nat.le_of_ble_eq_true rfl) ?_
 refine s0 ?_
 obtain ⟨r1, e2, h⟩ := bd_ h
 refine call_ok (d := some 10) (fn := 19) (ax := [.row 0 4 0 a0.length, .fn 9 []]) (ps := [a0.length = a0.length, rowQ (E26.cR a0) 4 0 a0.length (fun i j => E26.cf (a0.getD i E26.z) j)]) (hb' := []) (by kernel_rfl) (sIdx_ok _ _ e2 (al := false)) (by kernel_rfl) ⟨(by first | rfl | exact Elem.sub_len _ (by omega) | omega | simp | (simp <;> omega)), E26.rowQ_all a0 rfl, trivial⟩ (fun hx => by cases hx) (by simp) rfl (by kernel_rfl) ?_
 refine sg (S := .br ((r1 : Int) == (-1)) (.leaf 0) (.leaf 1)) ?_
 refine br_ h ?_ ?_ <;> clear h <;> intro c3 h
 ·refine sk_leaf ?_
  obtain rfl := some_ h
  exact endM_ok [(0, some 0)] Tryz.results7 (ps := [0 = 0, a0.length = a0.length, E26.cR a0 = E26.cR a0, AllPv (E26.cR a0)]) (by kernel_rfl) ⟨rfl, rfl, rfl, (Elem.cR_pv _ _), trivial⟩ (fun _ => ⟨rfl, by simp only [List.mem_cons, List.not_mem_nil, or_false, forall_eq_or_imp, forall_eq]; exact Elem.cR_bald E26_raw _⟩)
 ·refine sk_leaf ?_
  refine len_row (by kernel_rfl) 0 (e := 26) (s := 4) (n := a0.length) (cs := E26.cR a0) (by kernel_rfl) (Elem.cR_length _ _) ?_; intro hl1_0
  replace h : (fun (x : Nat × Int × Int × List AKO) => sDel_h0_l1 a0 r1 x.1 x.2.1 x.2.2.1 x.2.2.2 = some r) (FUEL, r1, (IntKind.i64.wrap (r1 + 1)), a0) := h
  refine loop_ok (by kernel_rfl) (X := Nat × Int × Int × List AKO) (fun x => sDel_h0_l1 a0 r1 x.1 x.2.1 x.2.2.1 x.2.2.2 = some r) (fun x => x.1) (fun x => mk 42 [(0, .row 0 4 0 x.2.2.2.length), (1, .fn 9 []), (4, .pv (.raw (.slice none 0 0))), (5, .pv (.raw (.int .i64 x.2.1))), (6, .pv (.raw (.int .i64 x.2.2.1)))] [(0, .row 26 4 (E26.cR x.2.2.2))]) (FUEL, r1, (IntKind.i64.wrap (r1 + 1)), a0) h ?_ ?_
  ·exact sub_ok (ρ := [(0, some 0)]) (l := [0 = 0, a0.length = a0.length, (r1 : Int) = r1, ((IntKind.i64.wrap (r1 + 1)) : Int) = (IntKind.i64.wrap (r1 + 1)), E26.cR a0 = E26.cR a0, AllPv (E26.cR a0)]) (by kernel_rfl) ⟨rfl, rfl, rfl, rfl, rfl, (Elem.cR_pv _ _), trivial⟩
  ·clear h; rintro ⟨n1, x4, x5, l6⟩ h p1 hp1
   obtain _ | n1 := n1
   ·cases (show (none : Option ((List AKO))) = some r from h)
   have h : sDel_h0_l1 a0 r1 (n1 + 1) x4 x5 l6 = some r := h
   unfold sDel_h0_l1 at h
   refine sg (S := .br (decide ((x5 : Int) < ((l6.length : Nat) : Int))) (.and (0 ≤ (x5 : Int) ∧ x5 < ((l6.length : Nat) : Int)) (.leaf 0)) (.and (0 ≤ (x4 : Int)) (.and ((Int.toNat x4) ≤ l6.length) (.leaf 1)))) ?_
   refine br_ h ?_ ?_ <;> clear h <;> intro c7 h
   ·refine gd_ h ?_; clear h; intro g8 h
    refine sk_leaf ?_
    refine lda_ok (d := 25) (id := 0) (i := (0 + (Int.toNat x5))) (e := 26) (n := 4) E26 (xs := l6) (by kernel_rfl) (by kernel_rfl) (by first | omega | (simp at * <;> omega) | (simp_all <;> omega)) rfl ?_
    refine s0 ?_
    obtain ⟨r9, e10, h⟩ := bd_ h
    refine call_ok (d := some 28) (fn := 9) (ax := [.agg (Y112 l6 x5)]) (ps := [((l6.getD (0 + (Int.toNat x5)) (⟨0, 0, 0, 0⟩ : AKO)).Kind : Int) = ((l6.getD (0 + (Int.toNat x5)) (⟨0, 0, 0, 0⟩ : AKO)).Kind), ((l6.getD (0 + (Int.toNat x5)) (⟨0, 0, 0, 0⟩ : AKO)).Core : Int) = ((l6.getD (0 + (Int.toNat x5)) (⟨0, 0, 0, 0⟩ : AKO)).Core), ((l6.getD (0 + (Int.toNat x5)) (⟨0, 0, 0, 0⟩ : AKO)).N : Int) = ((l6.getD (0 + (Int.toNat x5)) (⟨0, 0, 0, 0⟩ : AKO)).N), ((l6.getD (0 + (Int.toNat x5)) (⟨0, 0, 0, 0⟩ : AKO)).Byte : Int) = ((l6.getD (0 + (Int.toNat x5)) (⟨0, 0, 0, 0⟩ : AKO)).Byte)]) (hb' := []) (by kernel_rfl) (top_TopRead_1_ok _ _ e10 (al := true)) (by kernel_rfl) ⟨rfl, rfl, rfl, rfl, trivial⟩ (fun _ => (by kernel_rfl)) (by simp) rfl (by kernel_rfl) ?_
    refine sg (S := .br (!r9) (.and (0 ≤ (x4 : Int) ∧ x4 < ((l6.length : Nat) : Int)) (.leaf 0)) (.leaf 1)) ?_
    refine br_ h ?_ ?_ <;> clear h <;> intro c11 h
    ·refine gd_ h ?_; clear h; intro g12 h
     refine sk_leaf ?_
     refine st_ok (id := 0) (i := (0 + (Int.toNat x4))) (j := 0) (e := 26) (vs := (Y112 l6 x5)) E26 (xs := l6) (l6.getD (0 + (Int.toNat x5)) (⟨0, 0, 0, 0⟩ : AKO)) (by kernel_rfl) (by kernel_rfl) (by first | omega | (simp at * <;> omega) | (simp_all <;> omega)) (by exact Nat.le_of_ble_eq_true rfl) rfl ?_
     refine s0 ?_
     refine back_ok (p := p1) (by kernel_rfl) (hp1 (n1, (IntKind.i64.wrap (x4 + 1)), (IntKind.i64.wrap (x5 + 1)), (l6.set (0 + (Int.toNat x4)) (l6.getD (0 + (Int.toNat x5)) (⟨0, 0, 0, 0⟩ : AKO)))) _ h (Nat.lt_succ_self n1) ?_)
     exact sub_ok (ρ := [(0, some 0)]) (l := [0 = 0, l6.length = ((l6.set (0 + (Int.toNat x4)) (l6.getD (0 + (Int.toNat x5)) (⟨0, 0, 0, 0⟩ : AKO))).length), ((IntKind.i64.wrap (x4 + 1)) : Int) = (IntKind.i64.wrap (x4 + 1)), ((IntKind.i64.wrap (x5 + 1)) : Int) = (IntKind.i64.wrap (x5 + 1)), E26.cR (l6.set (0 + (Int.toNat x4)) (l6.getD (0 + (Int.toNat x5)) (⟨0, 0, 0, 0⟩ : AKO))) = E26.cR (l6.set (0 + (Int.toNat x4)) (l6.getD (0 + (Int.toNat x5)) (⟨0, 0, 0, 0⟩ : AKO))), AllPv (E26.cR (l6.set (0 + (Int.toNat x4)) (l6.getD (0 + (Int.toNat x5)) (⟨0, 0, 0, 0⟩ : AKO))))]) (by kernel_rfl) ⟨rfl, (by first | rfl | (simp; done) | omega | (simp <;> omega)), rfl, rfl, rfl, (Elem.cR_pv _ _), trivial⟩
    ·refine sk_leaf ?_
     refine back_ok (p := p1) (by kernel_rfl) (hp1 (n1, x4, (IntKind.i64.wrap (x5 + 1)), l6) _ h (Nat.lt_succ_self n1) ?_)
     exact sub_ok (ρ := [(0, some 0)]) (l := [0 = 0, l6.length = l6.length, (x4 : Int) = x4, ((IntKind.i64.wrap (x5 + 1)) : Int) = (IntKind.i64.wrap (x5 + 1)), E26.cR l6 = E26.cR l6, AllPv (E26.cR l6)]) (by kernel_rfl) ⟨rfl, rfl, rfl, rfl, rfl, (Elem.cR_pv _ _), trivial⟩
   ·refine gd_ h ?_; clear h; intro g13 h
    refine gd_ h ?_; clear h; intro g14 h
    refine sk_leaf ?_
    obtain ⟨g15, h⟩ := if_ h
    refine cl_ok (s := 4) (id := 0) (e := 26) (off := (0 + (Int.toNat x4))) (len := (l6.length - (Int.toNat x4))) E26 (xs := l6) (by kernel_rfl) rfl rfl (by kernel_rfl) g15 ?_
    refine sg (S := .and (0 ≤ (x4 : Int)) (.and ((Int.toNat x4) ≤ l6.length) (.leaf 0))) ?_
    refine gd_ h ?_; clear h; intro g16 h
    refine gd_ h ?_; clear h; intro g17 h
    refine sk_leaf ?_
    obtain rfl := some_ h
    exact endR_ok E26 (xs := (cpL l6 (0 + (Int.toNat x4)) (l6.length - (Int.toNat x4)) (List.replicate (l6.length - (Int.toNat x4)) (⟨0, 0, 0, 0⟩ : AKO)))) 0 (0 + 0) 19072 ((Int.toNat x4) - 0) 26 4 rfl (by kernel_rfl) (by first | omega | (simp at * <;> omega) | (simp_all <;> omega)) (by kernel_rfl) [(0, some 19072)] Tryz.results7 (ps := [0 = 0, ((Int.toNat x4) - 0) = (((cpL l6 (0 + (Int.toNat x4)) (l6.length - (Int.toNat x4)) (List.replicate (l6.length - (Int.toNat x4)) (⟨0, 0, 0, 0⟩ : AKO))).drop (0 + 0)).take ((Int.toNat x4) - 0)).length, E26.cR (((cpL l6 (0 + (Int.toNat x4)) (l6.length - (Int.toNat x4)) (List.replicate (l6.length - (Int.toNat x4)) (⟨0, 0, 0, 0⟩ : AKO))).drop (0 + 0)).take ((Int.toNat x4) - 0)) = E26.cR (((cpL l6 (0 + (Int.toNat x4)) (l6.length - (Int.toNat x4)) (List.replicate (l6.length - (Int.toNat x4)) (⟨0, 0, 0, 0⟩ : AKO))).drop (0 + 0)).take ((Int.toNat x4) - 0)), AllPv (E26.cR (((cpL l6 (0 + (Int.toNat x4)) (l6.length - (Int.toNat x4)) (List.replicate (l6.length - (Int.toNat x4)) (⟨0, 0, 0, 0⟩ : AKO))).drop (0 + 0)).take ((Int.toNat x4) - 0)))]) (by kernel_rfl) ⟨rfl, (by first | omega | (simp; done) | (simp <;> omega) | (simp at * <;> omega)), rfl, (Elem.cR_pv _ _), trivial⟩ (fun _ => ⟨rfl, by simp only [List.mem_cons, List.not_mem_nil, or_false, forall_eq_or_imp, forall_eq]; exact Elem.cR_bald E26_raw _⟩)
def Y39 (x0 x1 : List Int) : Bool := ((bytesOf x0).toList == (bytesOf x1).toList)
def Y30 (x0 x1 : Api_Whole) : Bool := (((bytesOf x0.Device).toList == (bytesOf x1.Device).toList) && ((bytesOf x0.Fetched).toList == (bytesOf x1.Fetched).toList))
def Y59 (x0 : Bool) (x1 x2 : Api_Whole) : Bool := (x0 && ((bytesOf x1.Tty.Edit).toList == (bytesOf x2.Tty.Edit).toList))
def Y123 (x0 : Bool) (x1 x2 : Api_Whole) : Bool := (x0 && ((x1.Lost : Int) == x2.Lost))
theorem top_TopRead_ok (a0 : (List AKO)) (r : Bool) (h : top_TopRead a0 = some r) {al : Bool} : PCalls Tryz.prog 3 [.pv ((E26.ro a0))] al (.pv (.raw (.bool r))) [] := by
 unfold top_TopRead at h
 refine fnZ_ok tabOk [7] Tryz.func3 (by kernel_rfl) (by kernel_rfl) Tryz.ntmps3 (by simp) ?_
 refine segs [8, 7] tabOk mixed 4000 (S := .leaf 0) (by kernel_rfl) ?_
 refine sk_leaf ?_
 obtain ⟨r1, e2, h⟩ := bd_ h
 refine call_ok (d := some 8) (fn := 6) (ax := []) (args := []) (ps := []) (hb' := []) (by kernel_rfl) (top_alive_ok  _ e2 (al := true)) (by kernel_rfl) trivial (fun _ => (by kernel_rfl)) (by simp) rfl (by kernel_rfl) ?_
 refine segs [8, 7] tabOk mixed 4000 (S := .br (!r1) (.leaf 0) (.br (decide ((((a0.length : Nat) : Int) : Int) > 400)) (.leaf 1) (.leaf 2))) (by kernel_rfl) ?_
 refine br_ h ?_ ?_ <;> clear h <;> intro c3 h
 ·refine sk_leaf ?_
  obtain rfl := some_ h
  exact end_ok [] Tryz.results3 (ps := [false = false]) (by kernel_rfl) ⟨rfl, trivial⟩ (fun _ => ⟨rfl, by simp⟩)
 ·refine br_ h ?_ ?_ <;> clear h <;> intro c4 h
  ·refine sk_leaf ?_
   obtain rfl := some_ h
   exact end_ok [] Tryz.results3 (ps := [true = true]) (by kernel_rfl) ⟨rfl, trivial⟩ (fun _ => ⟨rfl, by simp⟩)
  ·refine sk_leaf ?_
   obtain ⟨r5, e6, h⟩ := bd_ h
   refine call_ok (d := some 14) (fn := 8) (ax := [.pv ((E26.ro a0))]) (ps := (Y106 a0)) (hb' := [.row 26 4 (E26.cR r5)]) (by kernel_rfl) (slices_Clone_api_KernOp_ok _ _ e6 (al := true)) (by kernel_rfl) Y106p (fun _ => (by kernel_rfl)) (by simp) (by simp only [List.map_cons, List.map_nil, Elem.row_up, up_map] <;> rfl) (by kernel_rfl) ?_
   refine segs [8, 7] tabOk mixed 4000 (S := .leaf 0) (by kernel_rfl) ?_
   refine sk_leaf ?_
   obtain ⟨r7, e8, h⟩ := bd_ h
   refine mcall_ok (d := some 15) (fn := 7) (ax := [.row 17280 4 0 r5.length, .fn 9 []]) (hs := [(17344, .row 26 4 (E26.cR r7))]) (del := [17280]) (ps := [0 = 0, r5.length = r5.length, E26.cR r5 = E26.cR r5, AllPv (E26.cR r5)]) [(0, some 17280)] (by kernel_rfl) (sDel_h0_ok _ _ e8 (al := true)) (by kernel_rfl) ⟨rfl, rfl, rfl, (Elem.cR_pv _ _), trivial⟩ (by kernel_rfl) (by simp only [List.cons_append, List.nil_append, List.append_nil, rB, rA, fl, mset_row, mset_box, mset_nil, mset_map, List.set_set]; kernel_rfl) (by kernel_rfl) ?_
   refine segs [8, 7] tabOk mixed 4000 (S := .leaf 0) (by kernel_rfl) ?_
   refine sk_leaf ?_
   obtain ⟨r9, e10, h⟩ := bd_ h
   refine call_ok (d := some 18) (fn := 10) (ax := [.pv ((E26.ro a0))]) (ps := (Y106 a0)) (hb' := [.row 78 2 (E78.cR r9.1), .row 5 1 (E5.cR r9.2.Device), .row 5 1 (E5.cR r9.2.Fetched)]) (by kernel_rfl) (kernel_Play_ok _ _ e10) (by kernel_rfl) Y106p (fun _ => (by kernel_rfl)) (by simp) (by simp only [List.map_cons, List.map_nil, Elem.row_up, up_map] <;> rfl) (by kernel_rfl) ?_
   refine segs [8, 7] tabOk mixed 4000 (S := .leaf 0) (by kernel_rfl) ?_
   refine sk_leaf ?_
   refine cut_ok (by kernel_rfl) (τ := mk 67 [(2, .pv (.raw (.bool false))), (3, .pv ((E26.ro r7))), (5, .ptr 0 0)] [(0, .box (Y71 r9.2 1 2)), (1, .row 5 1 (E5.cR r9.2.Device)), (2, .row 5 1 (E5.cR r9.2.Fetched))] [7]) (sub_ok (ρ := [(0, some 16704), (1, some 17537), (2, some 17538)]) (l := [false = false, r7.length = r7.length, rowQ (E26.cR r7) 4 0 r7.length (fun i j => E26.cf (r7.getD i E26.z) j), 0 = 0, 0 = 0, r9.2.Device.length = r9.2.Device.length, 0 = 0, r9.2.Fetched.length = r9.2.Fetched.length, r9.2.Tty.Lines.length = r9.2.Tty.Lines.length, ∀ i, i < r9.2.Tty.Lines.length → ∀ j, j < 1 → E30.cf (r9.2.Tty.Lines.getD i E30.z) j = E30.cf (r9.2.Tty.Lines.getD i E30.z) j, r9.2.Tty.Edit.length = r9.2.Tty.Edit.length, ∀ i, i < r9.2.Tty.Edit.length → ∀ j, j < 1 → E5.cf (r9.2.Tty.Edit.getD i E5.z) j = E5.cf (r9.2.Tty.Edit.getD i E5.z) j, (r9.2.Lost : Int) = r9.2.Lost, (r9.2.Taken : Int) = r9.2.Taken, E5.cR r9.2.Device = E5.cR r9.2.Device, AllPv (E5.cR r9.2.Device), E5.cR r9.2.Fetched = E5.cR r9.2.Fetched, AllPv (E5.cR r9.2.Fetched)]) (by kernel_rfl) ⟨rfl, (by first | rfl | exact Elem.sub_len _ (by omega) | omega | simp | (simp <;> omega)), E26.rowQ_all r7 rfl, rfl, rfl, rfl, rfl, rfl, rfl, fun _ _ _ _ => rfl, rfl, fun _ _ _ _ => rfl, rfl, rfl, rfl, (Elem.cR_pv _ _), rfl, (Elem.cR_pv _ _), trivial⟩) ?_
   refine segs [8] tabOk mixed 4000 (S := .leaf 0) (by kernel_rfl) ?_
   refine sk_leaf ?_
   obtain ⟨r11, e12, h⟩ := bd_ h
   refine call_ok (d := some 23) (fn := 10) (ax := [.pv ((E26.ro r7))]) (ps := (Y106 r7)) (hb' := [.row 78 2 (E78.cR r11.1), .row 5 1 (E5.cR r11.2.Device), .row 5 1 (E5.cR r11.2.Fetched)]) (by kernel_rfl) (kernel_Play_ok _ _ e12) (by kernel_rfl) Y106p (fun _ => (by kernel_rfl)) (by simp) (by simp only [List.map_cons, List.map_nil, Elem.row_up, up_map] <;> rfl) (by kernel_rfl) ?_
   refine segs [8, 7] tabOk mixed 4000 (S := .leaf 0) (by kernel_rfl) ?_
   refine sk_leaf ?_
   refine cut_ok (by kernel_rfl) (τ := mk 67 [(2, .pv (.raw (.bool false))), (5, .ptr 0 0), (7, .ptr 1 0)] [(0, .box [.pv ((E5.ro r9.2.Device)), .pv ((E5.ro r9.2.Fetched)), .pv ((E30.ro r9.2.Tty.Lines)), .pv ((E5.ro r9.2.Tty.Edit)), .pv (.raw (.int .i64 r9.2.Lost)), .pv (.raw (.int .i64 r9.2.Taken))]), (1, .box [.pv ((E5.ro r11.2.Device)), .pv ((E5.ro r11.2.Fetched)), .pv ((E30.ro r11.2.Tty.Lines)), .pv ((E5.ro r11.2.Tty.Edit)), .pv (.raw (.int .i64 r11.2.Lost)), .pv (.raw (.int .i64 r11.2.Taken))])] [7]) (sub_ok (ρ := [(0, some 0), (1, some 16832)]) (l := [false = false, 0 = 0, 0 = 0, r9.2.Device.length = r9.2.Device.length, rowQ (E5.cR r9.2.Device) 1 0 r9.2.Device.length (fun i j => E5.cf (r9.2.Device.getD i E5.z) j), r9.2.Fetched.length = r9.2.Fetched.length, rowQ (E5.cR r9.2.Fetched) 1 0 r9.2.Fetched.length (fun i j => E5.cf (r9.2.Fetched.getD i E5.z) j), r9.2.Tty.Lines.length = r9.2.Tty.Lines.length, ∀ i, i < r9.2.Tty.Lines.length → ∀ j, j < 1 → E30.cf (r9.2.Tty.Lines.getD i E30.z) j = E30.cf (r9.2.Tty.Lines.getD i E30.z) j, r9.2.Tty.Edit.length = r9.2.Tty.Edit.length, ∀ i, i < r9.2.Tty.Edit.length → ∀ j, j < 1 → E5.cf (r9.2.Tty.Edit.getD i E5.z) j = E5.cf (r9.2.Tty.Edit.getD i E5.z) j, (r9.2.Lost : Int) = r9.2.Lost, (r9.2.Taken : Int) = r9.2.Taken, r11.2.Device.length = r11.2.Device.length, rowQ (E5.cR r11.2.Device) 1 0 r11.2.Device.length (fun i j => E5.cf (r11.2.Device.getD i E5.z) j), r11.2.Fetched.length = r11.2.Fetched.length, rowQ (E5.cR r11.2.Fetched) 1 0 r11.2.Fetched.length (fun i j => E5.cf (r11.2.Fetched.getD i E5.z) j), r11.2.Tty.Lines.length = r11.2.Tty.Lines.length, ∀ i, i < r11.2.Tty.Lines.length → ∀ j, j < 1 → E30.cf (r11.2.Tty.Lines.getD i E30.z) j = E30.cf (r11.2.Tty.Lines.getD i E30.z) j, r11.2.Tty.Edit.length = r11.2.Tty.Edit.length, ∀ i, i < r11.2.Tty.Edit.length → ∀ j, j < 1 → E5.cf (r11.2.Tty.Edit.getD i E5.z) j = E5.cf (r11.2.Tty.Edit.getD i E5.z) j, (r11.2.Lost : Int) = r11.2.Lost, (r11.2.Taken : Int) = r11.2.Taken]) (by kernel_rfl) ⟨rfl, rfl, rfl, (by first | rfl | exact Elem.sub_len _ (by omega) | omega | simp | (simp <;> omega)), E5.rowQ_all r9.2.Device rfl, (by first | rfl | exact Elem.sub_len _ (by omega) | omega | simp | (simp <;> omega)), E5.rowQ_all r9.2.Fetched rfl, rfl, fun _ _ _ _ => rfl, rfl, fun _ _ _ _ => rfl, rfl, rfl, (by first | rfl | exact Elem.sub_len _ (by omega) | omega | simp | (simp <;> omega)), E5.rowQ_all r11.2.Device rfl, (by first | rfl | exact Elem.sub_len _ (by omega) | omega | simp | (simp <;> omega)), E5.rowQ_all r11.2.Fetched rfl, rfl, fun _ _ _ _ => rfl, rfl, fun _ _ _ _ => rfl, rfl, rfl, trivial⟩) ?_
   refine segs [7] tabOk mixed 4000 (S := .leaf 0) (by kernel_rfl) ?_
   refine sk_leaf ?_
   refine cv_ok (d := 28) E5 (xs := r9.2.Device) rfl (fun _ => rfl) (by kernel_rfl) ?_
   refine segs [8, 7] tabOk mixed 4000 (S := .leaf 0) (by kernel_rfl) ?_
   refine sk_leaf ?_
   refine cv_ok (d := 31) E5 (xs := r11.2.Device) rfl (fun _ => rfl) (by kernel_rfl) ?_
   refine segs [8, 7] tabOk mixed 4000 (S := .and (((Y39 r9.2.Device r11.2.Device) = true → ((Y39 r9.2.Device r11.2.Device) = true))) (.leaf 0)) (by kernel_rfl) ?_
   refine sk_and (fun h => h) ?_
   refine sk_leaf ?_
   refine cvG_ok (d := 36) (g := ((bytesOf r9.2.Device).toList == (bytesOf r11.2.Device).toList)) (ws := [((bytesOf r9.2.Device).toList == (bytesOf r11.2.Device).toList) = true]) E5 (xs := r9.2.Fetched) rfl (fun _ => rfl) (by kernel_rfl) (fun hg => ⟨((by decide : ∀ y0 : Bool, ((y0 = true) → (y0 = true))) ((bytesOf r9.2.Device).toList == (bytesOf r11.2.Device).toList)) hg, trivial⟩) ?_
   refine segs [8, 7] tabOk mixed 4000 (S := .and (((Y39 r9.2.Device r11.2.Device) = true → ((Y39 r9.2.Device r11.2.Device) = true))) (.leaf 0)) (by kernel_rfl) ?_
   refine sk_and (fun h => h) ?_
   refine sk_leaf ?_
   refine cvG_ok (d := 39) (g := ((bytesOf r9.2.Device).toList == (bytesOf r11.2.Device).toList)) (ws := [((bytesOf r9.2.Device).toList == (bytesOf r11.2.Device).toList) = true]) E5 (xs := r11.2.Fetched) rfl (fun _ => rfl) (by kernel_rfl) (fun hg => ⟨((by decide : ∀ y0 : Bool, ((y0 = true) → (y0 = true))) ((bytesOf r9.2.Device).toList == (bytesOf r11.2.Device).toList)) hg, trivial⟩) ?_
   refine segs [8, 7] tabOk mixed 4000 (S := .and (((Y39 r9.2.Device r11.2.Device) = true → ((Y39 r9.2.Device r11.2.Device) = true))) (.and (((Y39 r9.2.Device r11.2.Device) = true → ((Y39 r9.2.Device r11.2.Device) = true))) (.and ((Y39 r9.2.Device r11.2.Device) = true → (Y39 r9.2.Device r11.2.Device) = true) (.and (((Y30 r9.2 r11.2) = true → ((Y30 r9.2 r11.2) = true))) (.and (((Y30 r9.2 r11.2) = true → ((Y30 r9.2 r11.2) = true))) (.leaf 0)))))) (by kernel_rfl) ?_
   refine sk_and (fun h => h) ?_
   refine sk_and (fun h => h) ?_
   refine sk_and (fun h => h) ?_
   refine sk_and (fun h => h) ?_
   refine sk_and (fun h => h) ?_
   refine sk_leaf ?_
   refine cvG_ok (d := 46) (g := (((bytesOf r9.2.Device).toList == (bytesOf r11.2.Device).toList) && ((bytesOf r9.2.Fetched).toList == (bytesOf r11.2.Fetched).toList))) (ws := [(((bytesOf r9.2.Device).toList == (bytesOf r11.2.Device).toList) && ((bytesOf r9.2.Fetched).toList == (bytesOf r11.2.Fetched).toList)) = true]) E5 (xs := r9.2.Tty.Edit) rfl (fun _ => rfl) (by kernel_rfl) (fun hg => ⟨((by decide : ∀ y0 : Bool, ((y0 = true) → (y0 = true))) (((bytesOf r9.2.Device).toList == (bytesOf r11.2.Device).toList) && ((bytesOf r9.2.Fetched).toList == (bytesOf r11.2.Fetched).toList))) hg, trivial⟩) ?_
   refine segs [8, 7] tabOk mixed 4000 (S := .and (((Y30 r9.2 r11.2) = true → ((Y30 r9.2 r11.2) = true))) (.and (((Y30 r9.2 r11.2) = true → ((Y30 r9.2 r11.2) = true))) (.leaf 0))) (by kernel_rfl) ?_
   refine sk_and (fun h => h) ?_
   refine sk_and (fun h => h) ?_
   refine sk_leaf ?_
   refine cvG_ok (d := 50) (g := (((bytesOf r9.2.Device).toList == (bytesOf r11.2.Device).toList) && ((bytesOf r9.2.Fetched).toList == (bytesOf r11.2.Fetched).toList))) (ws := [(((bytesOf r9.2.Device).toList == (bytesOf r11.2.Device).toList) && ((bytesOf r9.2.Fetched).toList == (bytesOf r11.2.Fetched).toList)) = true]) E5 (xs := r11.2.Tty.Edit) rfl (fun _ => rfl) (by kernel_rfl) (fun hg => ⟨((by decide : ∀ y0 : Bool, ((y0 = true) → (y0 = true))) (((bytesOf r9.2.Device).toList == (bytesOf r11.2.Device).toList) && ((bytesOf r9.2.Fetched).toList == (bytesOf r11.2.Fetched).toList))) hg, trivial⟩) ?_
   refine segs [8, 7] tabOk mixed 4000 (S := .and (((Y30 r9.2 r11.2) = true → ((Y30 r9.2 r11.2) = true))) (.and (((Y30 r9.2 r11.2) = true → ((Y30 r9.2 r11.2) = true))) (.and ((Y30 r9.2 r11.2) = true → (Y30 r9.2 r11.2) = true) (.and (((Y59 (Y30 r9.2 r11.2) r9.2 r11.2) = true → ((Y59 (Y30 r9.2 r11.2) r9.2 r11.2) = true))) (.and (((Y59 (Y30 r9.2 r11.2) r9.2 r11.2) = true → ((Y59 (Y30 r9.2 r11.2) r9.2 r11.2) = true))) (.and (((Y59 (Y30 r9.2 r11.2) r9.2 r11.2) = true → ((Y59 (Y30 r9.2 r11.2) r9.2 r11.2) = true))) (.and (((Y59 (Y30 r9.2 r11.2) r9.2 r11.2) = true → ((Y59 (Y30 r9.2 r11.2) r9.2 r11.2) = true))) (.and ((Y59 (Y30 r9.2 r11.2) r9.2 r11.2) = true → (Y59 (Y30 r9.2 r11.2) r9.2 r11.2) = true) (.and (((Y123 (Y59 (Y30 r9.2 r11.2) r9.2 r11.2) r9.2 r11.2) = true → ((Y123 (Y59 (Y30 r9.2 r11.2) r9.2 r11.2) r9.2 r11.2) = true))) (.and (((Y123 (Y59 (Y30 r9.2 r11.2) r9.2 r11.2) r9.2 r11.2) = true → ((Y123 (Y59 (Y30 r9.2 r11.2) r9.2 r11.2) r9.2 r11.2) = true))) (.and (((Y123 (Y59 (Y30 r9.2 r11.2) r9.2 r11.2) r9.2 r11.2) = true → ((Y123 (Y59 (Y30 r9.2 r11.2) r9.2 r11.2) r9.2 r11.2) = true))) (.and (((Y123 (Y59 (Y30 r9.2 r11.2) r9.2 r11.2) r9.2 r11.2) = true → ((Y123 (Y59 (Y30 r9.2 r11.2) r9.2 r11.2) r9.2 r11.2) = true))) (.and ((Y123 (Y59 (Y30 r9.2 r11.2) r9.2 r11.2) r9.2 r11.2) = true → (Y123 (Y59 (Y30 r9.2 r11.2) r9.2 r11.2) r9.2 r11.2) = true) (.leaf 0)))))))))))))) (by kernel_rfl) ?_
   refine sk_and (fun h => h) ?_
   refine sk_and (fun h => h) ?_
   refine sk_and (fun h => h) ?_
   refine sk_and (fun h => h) ?_
   refine sk_and (fun h => h) ?_
   refine sk_and (fun h => h) ?_
   refine sk_and (fun h => h) ?_
   refine sk_and (fun h => h) ?_
   refine sk_and (fun h => h) ?_
   refine sk_and (fun h => h) ?_
   refine sk_and (fun h => h) ?_
   refine sk_and (fun h => h) ?_
   refine sk_and (fun h => h) ?_
   refine sk_leaf ?_
   obtain rfl := some_ h
   exact end_ok [] Tryz.results3 (ps := [((((((bytesOf r9.2.Device).toList == (bytesOf r11.2.Device).toList) && ((bytesOf r9.2.Fetched).toList == (bytesOf r11.2.Fetched).toList)) && ((bytesOf r9.2.Tty.Edit).toList == (bytesOf r11.2.Tty.Edit).toList)) && ((r9.2.Lost : Int) == r11.2.Lost)) && ((r9.2.Taken : Int) == r11.2.Taken)) = ((((((bytesOf r9.2.Device).toList == (bytesOf r11.2.Device).toList) && ((bytesOf r9.2.Fetched).toList == (bytesOf r11.2.Fetched).toList)) && ((bytesOf r9.2.Tty.Edit).toList == (bytesOf r11.2.Tty.Edit).toList)) && ((r9.2.Lost : Int) == r11.2.Lost)) && ((r9.2.Taken : Int) == r11.2.Taken))]) (by kernel_rfl) ⟨rfl, trivial⟩ (fun _ => ⟨rfl, by simp⟩)
end Go.Proofs.YthmieigenefilaaGreatDoor
