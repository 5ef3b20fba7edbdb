import Derived.Test.YthmieigenefilaaGreatDoorQBYW5
set_option linter.unusedSimpArgs false
set_option linter.unusedVariables false
namespace Go.Proofs.YthmieigenefilaaGreatDoor
open Go Go.Ab
set_option maxHeartbeats 40000000
set_option maxRecDepth 100000
attribute [local irreducible] V VS runS Sk.Holds
def Y96 (x0 : Int) (x1 : Api_Uart) (x2 : List Api_Pin) : List Prop := [0 = 0, (x0 : Int) = x0, x1.In.length = x1.In.length, ∀ i, i < x1.In.length → ∀ j, j < 1 → E5.cf (x1.In.getD i E5.z) j = E5.cf (x1.In.getD i E5.z) j, x1.Out.length = x1.Out.length, ∀ i, i < x1.Out.length → ∀ j, j < 1 → E5.cf (x1.Out.getD i E5.z) j = E5.cf (x1.Out.getD i E5.z) j, (x1.Lost : Int) = x1.Lost, x1.Asks = x1.Asks, 0 = 0, x2.length = x2.length]
theorem Y96p {x0 : Int} {x1 : Api_Uart} {x2 : List Api_Pin} : allP (Y96 x0 x1 x2) := ⟨rfl, rfl, rfl, fun _ _ _ _ => rfl, rfl, fun _ _ _ _ => rfl, rfl, rfl, rfl, rfl, trivial⟩
def Y15 (x0 : KWh) : List Prop := [x0.fetched_.length = x0.fetched_.length, ∀ i, i < x0.fetched_.length → ∀ j, j < 1 → E5.cf (x0.fetched_.getD i E5.z) j = E5.cf (x0.fetched_.getD i E5.z) j, x0.tty_.Lines.length = x0.tty_.Lines.length, ∀ i, i < x0.tty_.Lines.length → ∀ j, j < 1 → E30.cf (x0.tty_.Lines.getD i E30.z) j = E30.cf (x0.tty_.Lines.getD i E30.z) j, x0.tty_.Edit.length = x0.tty_.Edit.length, ∀ i, i < x0.tty_.Edit.length → ∀ j, j < 1 → E5.cf (x0.tty_.Edit.getD i E5.z) j = E5.cf (x0.tty_.Edit.getD i E5.z) j, (x0.taken_ : Int) = x0.taken_, E52.cR x0.pins_ = E52.cR x0.pins_, AllPv (E52.cR x0.pins_)]
theorem Y15p {x0 : KWh} : allP (Y15 x0) := ⟨rfl, fun _ _ _ _ => rfl, rfl, fun _ _ _ _ => rfl, rfl, fun _ _ _ _ => rfl, rfl, rfl, (Elem.cR_pv _ _), trivial⟩
def Y59 (x0 : KWh) (x1 : Int) : List Prop := ((Y96 x1 x0.uart_ x0.pins_) ++ ((Y1 (x0.cores_ 0)) ++ ((Y1 (x0.cores_ 1)) ++ (Y15 x0))))
theorem Y59p {x0 : KWh} {x1 : Int} : allP (Y59 x0 x1) := (allP_append.2 ⟨Y96p, (allP_append.2 ⟨Y1p, (allP_append.2 ⟨Y1p, Y15p⟩)⟩)⟩)
def Y97 (x0 : Api_Uart) (x1 : List Api_Pin) : List Prop := [x0.In.length = x0.In.length, ∀ i, i < x0.In.length → ∀ j, j < 1 → E5.cf (x0.In.getD i E5.z) j = E5.cf (x0.In.getD i E5.z) j, x0.Out.length = x0.Out.length, ∀ i, i < x0.Out.length → ∀ j, j < 1 → E5.cf (x0.Out.getD i E5.z) j = E5.cf (x0.Out.getD i E5.z) j, (x0.Lost : Int) = x0.Lost, x0.Asks = x0.Asks, 0 = 0, x1.length = x1.length]
theorem Y97p {x0 : Api_Uart} {x1 : List Api_Pin} : allP (Y97 x0 x1) := ⟨rfl, fun _ _ _ _ => rfl, rfl, fun _ _ _ _ => rfl, rfl, rfl, rfl, rfl, trivial⟩
def Y61 (x0 : KWh) : List Prop := ((Y1 (x0.cores_ 0)) ++ ((Y1 (x0.cores_ 1)) ++ (Y15 x0)))
theorem Y61p {x0 : KWh} : allP (Y61 x0) := (allP_append.2 ⟨Y1p, (allP_append.2 ⟨Y1p, Y15p⟩)⟩)
theorem kw_level_o8_ok (a0 : KWh) (r : KWh) (h : kw_level_o8 a0 = some r) : MCalls Tryz.prog 62 [.ptr 0 0] [.box (Y11 a0 1), .row 52 7 (E52.cR a0.pins_)] 1 true (.tup []) [.box (Y11 r 1), .row 52 7 (E52.cR r.pins_)] := by
 unfold kw_level_o8 at h
 refine fnM_ok tabOk (fz := [64]) Tryz.func62 (by kernel_rfl) (by kernel_rfl) Tryz.ntmps62 (by simp) (by first | (simp; done) | exact Nat.le_of_ble_eq_true rfl) ?_
 refine sg (S := .br a0.uart_.Asks (.leaf 0) (.leaf 1)) ?_
 refine br_ h ?_ ?_ <;> clear h <;> intro c1 h
 ·refine sk_leaf ?_
  obtain ⟨r2, e3, h⟩ := bd_ h
  refine mcall_ok (d := some 8) (fn := 64) (ax := [.ptr 0 0, .pv (.raw (.int .i64 1))]) (hs := [(0, .box (Y11 r2 16897)), (16897, .row 52 7 (E52.cR r2.pins_))]) (del := [1]) (ps := (Y59 a0 1)) [(0, some 0), (1, some 1)] (by kernel_rfl) (kw_pin_o8_ok _ _ _ e3) (by kernel_rfl) Y59p (by kernel_rfl) (by simp only [Y0, Y11, Y53, Y94, List.cons_append, List.nil_append, List.append_nil, rB, rA, fl, mset_row, mset_box, mset_nil, mset_map, List.set_set]; kernel_rfl) (by kernel_rfl) ?_
  refine s0 ?_
  obtain rfl := some_ h
  exact endM_ok [(0, some 0), (1, some 16897)] Tryz.results62 (ps := ((Y97 r2.uart_ r2.pins_) ++ (Y61 r2))) (by kernel_rfl) (allP_append.2 ⟨Y97p, Y61p⟩) (fun hx => by cases hx)
 ·refine sk_leaf ?_
  obtain ⟨r4, e5, h⟩ := bd_ h
  refine mcall_ok (d := some 10) (fn := 64) (ax := [.ptr 0 0, .pv (.raw (.int .i64 2))]) (hs := [(0, .box (Y11 r4 17025)), (17025, .row 52 7 (E52.cR r4.pins_))]) (del := [1]) (ps := (Y59 a0 2)) [(0, some 0), (1, some 1)] (by kernel_rfl) (kw_pin_o8_ok _ _ _ e5) (by kernel_rfl) Y59p (by kernel_rfl) (by simp only [Y0, Y11, Y53, Y94, List.cons_append, List.nil_append, List.append_nil, rB, rA, fl, mset_row, mset_box, mset_nil, mset_map, List.set_set]; kernel_rfl) (by kernel_rfl) ?_
  refine s0 ?_
  obtain rfl := some_ h
  exact endM_ok [(0, some 0), (1, some 17025)] Tryz.results62 (ps := ((Y97 r4.uart_ r4.pins_) ++ (Y61 r4))) (by kernel_rfl) (allP_append.2 ⟨Y97p, Y61p⟩) (fun hx => by cases hx)
theorem kw_device_o8_ok (a0 : KWh) (a1 : Api_UartOp) (r : Int × Int × KWh) (h : kw_device_o8 a0 a1 = some r) : MCalls Tryz.prog 40 [.ptr 0 0, .agg [.pv (.raw (.int .i64 a1.Kind)), .pv (.raw (.int .u8 a1.Byte))]] [.box (Y11 a0 1), .row 52 7 (E52.cR a0.pins_)] 1 true (.tup [.pv (.raw (.int .u8 r.1)), .pv (.raw (.int .i64 r.2.1))]) [.box (Y11 r.2.2 1), .row 52 7 (E52.cR r.2.2.pins_)] := by
 unfold kw_device_o8 at h
 refine fnM_ok tabOk (fz := [62]) Tryz.func40 (by kernel_rfl) (by kernel_rfl) Tryz.ntmps40 (by simp) (by first | (simp; done) | exact Nat.le_of_ble_eq_true rfl) ?_
 refine s0 ?_
 obtain ⟨r1, e2, h⟩ := bd_ h
 refine call_ok (d := some 15) (fn := 61) (ax := [.agg (Y100 a0.uart_), .agg [.pv (.raw (.int .i64 a1.Kind)), .pv (.raw (.int .u8 a1.Byte))]]) (ps := [a0.uart_.In.length = a0.uart_.In.length, ∀ i, i < a0.uart_.In.length → ∀ j, j < 1 → E5.cf (a0.uart_.In.getD i E5.z) j = E5.cf (a0.uart_.In.getD i E5.z) j, a0.uart_.Out.length = a0.uart_.Out.length, ∀ i, i < a0.uart_.Out.length → ∀ j, j < 1 → E5.cf (a0.uart_.Out.getD i E5.z) j = E5.cf (a0.uart_.Out.getD i E5.z) j, (a0.uart_.Lost : Int) = a0.uart_.Lost, a0.uart_.Asks = a0.uart_.Asks, (a1.Kind : Int) = a1.Kind, (a1.Byte : Int) = a1.Byte]) (hb' := []) (by kernel_rfl) (uart_Step_ok _ _ _ e2) (by kernel_rfl) ⟨rfl, fun _ _ _ _ => rfl, rfl, fun _ _ _ _ => rfl, rfl, rfl, rfl, rfl, trivial⟩ (fun _ => (by kernel_rfl)) (by simp) rfl (by kernel_rfl) ?_
 refine sg (S := .br ((r1.2.2 : Int) == 0) (.leaf 0) (.leaf 1)) ?_
 refine br_ h ?_ ?_ <;> clear h <;> intro c3 h
 ·refine sk_leaf ?_
  obtain ⟨r4, e5, h⟩ := bd_ h
  refine mcall_ok (d := some 26) (fn := 62) (ax := [.ptr 0 0]) (hs := [(0, .box (Y11 r4 18049)), (18049, .row 52 7 (E52.cR r4.pins_))]) (del := [1]) (ps := ([0 = 0, r1.1.In.length = r1.1.In.length, ∀ i, i < r1.1.In.length → ∀ j, j < 1 → E5.cf (r1.1.In.getD i E5.z) j = E5.cf (r1.1.In.getD i E5.z) j, r1.1.Out.length = r1.1.Out.length, ∀ i, i < r1.1.Out.length → ∀ j, j < 1 → E5.cf (r1.1.Out.getD i E5.z) j = E5.cf (r1.1.Out.getD i E5.z) j, (r1.1.Lost : Int) = r1.1.Lost, r1.1.Asks = r1.1.Asks, 0 = 0, a0.pins_.length = a0.pins_.length] ++ (Y61 a0))) [(0, some 0), (1, some 1)] (by kernel_rfl) (kw_level_o8_ok _ _ e5) (by kernel_rfl) (allP_append.2 ⟨⟨rfl, rfl, fun _ _ _ _ => rfl, rfl, fun _ _ _ _ => rfl, rfl, rfl, rfl, rfl, trivial⟩, Y61p⟩) (by kernel_rfl) (by simp only [Y0, Y11, Y53, Y94, List.cons_append, List.nil_append, List.append_nil, rB, rA, fl, mset_row, mset_box, mset_nil, mset_map, List.set_set]; kernel_rfl) (by kernel_rfl) ?_
  refine s0 ?_
  obtain rfl := some_ h
  exact endM_ok [(0, some 0), (1, some 18049)] Tryz.results40 (ps := ([(r1.2.1 : Int) = r1.2.1, (r1.2.2 : Int) = r1.2.2, r4.uart_.In.length = r4.uart_.In.length, ∀ i, i < r4.uart_.In.length → ∀ j, j < 1 → E5.cf (r4.uart_.In.getD i E5.z) j = E5.cf (r4.uart_.In.getD i E5.z) j, r4.uart_.Out.length = r4.uart_.Out.length, ∀ i, i < r4.uart_.Out.length → ∀ j, j < 1 → E5.cf (r4.uart_.Out.getD i E5.z) j = E5.cf (r4.uart_.Out.getD i E5.z) j, (r4.uart_.Lost : Int) = r4.uart_.Lost, r4.uart_.Asks = r4.uart_.Asks, 0 = 0, r4.pins_.length = r4.pins_.length] ++ (Y61 r4))) (by kernel_rfl) (allP_append.2 ⟨⟨rfl, rfl, rfl, fun _ _ _ _ => rfl, rfl, fun _ _ _ _ => rfl, rfl, rfl, rfl, rfl, trivial⟩, Y61p⟩) (fun hx => by cases hx)
 ·cases h
def Y109 (x0 : Api_Core) : List AV := [.pv (.raw (.bool x0.On)), .pv ((E188.ro x0.Kept))]
def Y68 (x0 : Api_Core) (x1 : Nat) (x2 : Bool) : Bool := (((x0.Kept.getD x1 (⟨false, false⟩ : AFr)).On) && (!x2))
def Y113 (x0 : Bool) (x1 : Api_Core) (x2 : Nat) : Bool := ((!x0) && ((x1.Kept.getD x2 (⟨false, false⟩ : AFr)).Irq))
theorem nest_Right_ok (a0 : Api_Core) (r : Bool) (h : nest_Right a0 = some r) {al : Bool} : PCalls Tryz.prog 92 [.agg (Y109 a0)] al (.pv (.raw (.bool r))) [] := by
 unfold nest_Right at h
 refine fn_ok tabOk Tryz.func92 (by kernel_rfl) (by kernel_rfl) Tryz.ntmps92 (by simp) ?_
 refine sg (S := .br (decide ((((a0.Kept.length : Nat) : Int) : Int) > 400)) (.leaf 0) (.leaf 1)) ?_
 refine br_ h ?_ ?_ <;> clear h <;> intro c1 h
 ·cases h
 ·refine sk_leaf ?_
  refine len_ro (by kernel_rfl) 11 (s := 2) (n := a0.Kept.length) (c := fun i j => E188.cf (a0.Kept.getD i E188.z) j) (by kernel_rfl) ?_; intro hl1_0
  replace h : (fun (x : Nat × Bool × Nat) => nest_Right_l1 a0 x.1 x.2.1 x.2.2 = some r) (FUEL, true, 0) := h
  refine loop_ok (by kernel_rfl) (X := Nat × Bool × Nat) (fun x => nest_Right_l1 a0 x.1 x.2.1 x.2.2 = some r) (fun x => x.1) (fun x => mk 39 [(1, .ptr 0 0), (2, .pv (.raw (.bool false))), (3, .pv (.raw (.bool x.2.1))), (11, .pv ((E188.ro a0.Kept))), (12, .pv (.raw (.int .i64 ((a0.Kept.length : Nat) : Int)))), (13, .pv (.raw (.int .i64 ((x.2.2 : Nat) : Int))))] [(0, .box (Y109 a0))]) (FUEL, true, 0) h ?_ ?_
  ·exact sub_ok (ρ := [(0, some 16448)]) (l := [0 = 0, false = false, true = true, a0.Kept.length = a0.Kept.length, ∀ i, i < a0.Kept.length → ∀ j, j < 2 → E188.cf (a0.Kept.getD i E188.z) j = E188.cf (a0.Kept.getD i E188.z) j, (((a0.Kept.length : Nat) : Int) : Int) = ((a0.Kept.length : Nat) : Int), (0 : Int) = ((0 : Nat) : Int), a0.On = a0.On, a0.Kept.length = a0.Kept.length, ∀ i, i < a0.Kept.length → ∀ j, j < 2 → E188.cf (a0.Kept.getD i E188.z) j = E188.cf (a0.Kept.getD i E188.z) j]) (by kernel_rfl) ⟨rfl, rfl, rfl, rfl, fun _ _ _ _ => rfl, rfl, (by first | rfl | simp), rfl, rfl, fun _ _ _ _ => rfl, trivial⟩
  ·clear h; rintro ⟨n1, b2, k3⟩ h p1 hp1
   obtain _ | n1 := n1
   ·cases (show (none : Option (Bool)) = some r from h)
   have h : nest_Right_l1 a0 (n1 + 1) b2 k3 = some r := h
   unfold nest_Right_l1 at h
   refine sg (S := .br (decide ((((k3 : Nat) : Int) : Int) < ((a0.Kept.length : Nat) : Int))) (.and (0 ≤ (((k3 : Nat) : Int) : Int) ∧ ((k3 : Nat) : Int) < ((a0.Kept.length : Nat) : Int)) (.and ((((a0.Kept.getD k3 (⟨false, false⟩ : AFr)).On) = true → (((a0.Kept.getD k3 (⟨false, false⟩ : AFr)).On) = true))) (.and (((a0.Kept.getD k3 (⟨false, false⟩ : AFr)).On) = true → ((a0.Kept.getD k3 (⟨false, false⟩ : AFr)).On) = true) (.and (((!(Y68 a0 k3 b2)) = true → ((!(Y68 a0 k3 b2)) = true))) (.and (((!(Y68 a0 k3 b2)) = true → ((!(Y68 a0 k3 b2)) = true))) (.and (((Y113 (Y68 a0 k3 b2) a0 k3) = true → ((Y113 (Y68 a0 k3 b2) a0 k3) = true))) (.and (((Y113 (Y68 a0 k3 b2) a0 k3) = true → ((Y113 (Y68 a0 k3 b2) a0 k3) = true))) (.and (((!(Y68 a0 k3 b2)) = true → ((!(Y68 a0 k3 b2)) = true))) (.and (((!(Y68 a0 k3 b2)) = true → (((a0.Kept.getD k3 (⟨false, false⟩ : AFr)).Irq) = true → (Y113 (Y68 a0 k3 b2) a0 k3) = true))) (.and ((Y68 a0 k3 b2) = false → (!(Y68 a0 k3 b2)) = true) (.br ((((a0.Kept.getD k3 (⟨false, false⟩ : AFr)).On) && (!b2)) || (((a0.Kept.getD k3 (⟨false, false⟩ : AFr)).Irq) && (!((a0.Kept.getD k3 (⟨false, false⟩ : AFr)).On)))) (.leaf 0) (.leaf 1)))))))))))) (.and ((!a0.On) = false → (!(!a0.On)) = true) (.leaf 2))) ?_
   refine br_ h ?_ ?_ <;> clear h <;> intro c4 h
   ·refine sk_and ⟨Int.natCast_nonneg _, of_decide_eq_true c4⟩ ?_
    refine sk_and (fun h => h) ?_
    refine sk_and (fun h => h) ?_
    refine sk_and (fun h => h) ?_
    refine sk_and (fun h => h) ?_
    refine sk_and (fun h => h) ?_
    refine sk_and (fun h => h) ?_
    refine sk_and (fun h => h) ?_
    refine sk_and ((by decide : ∀ y0 y1 : Bool, ((y0 = true) → ((y1 = true) → ((y0 && y1) = true)))) (!(Y68 a0 k3 b2)) ((a0.Kept.getD k3 (⟨false, false⟩ : AFr)).Irq)) ?_
    refine sk_and ((by decide : ∀ y0 : Bool, ((y0 = false) → ((!y0) = true))) (Y68 a0 k3 b2)) ?_
    refine br_ h ?_ ?_ <;> clear h <;> intro c15 h
    ·cases h
    ·refine sk_leaf ?_
     refine back_ok (p := p1) (by kernel_rfl) (hp1 (n1, false, k3 + 1) _ h (Nat.lt_succ_self n1) ?_)
     exact sub_ok (ρ := [(0, some 0)]) (l := [0 = 0, false = false, false = false, a0.Kept.length = a0.Kept.length, ∀ i, i < a0.Kept.length → ∀ j, j < 2 → E188.cf (a0.Kept.getD i E188.z) j = E188.cf (a0.Kept.getD i E188.z) j, (((a0.Kept.length : Nat) : Int) : Int) = ((a0.Kept.length : Nat) : Int), ((IntKind.i64.wrap (((k3 : Nat) : Int) + 1)) : Int) = (((k3 + 1) : Nat) : Int), a0.On = a0.On, a0.Kept.length = a0.Kept.length, ∀ i, i < a0.Kept.length → ∀ j, j < 2 → E188.cf (a0.Kept.getD i E188.z) j = E188.cf (a0.Kept.getD i E188.z) j]) (by kernel_rfl) ⟨rfl, rfl, rfl, rfl, fun _ _ _ _ => rfl, rfl, (wrap_nat (Int.ofNat_lt.1 (of_decide_eq_true c4)) (by omega)), rfl, rfl, fun _ _ _ _ => rfl, trivial⟩
   ·refine sk_and ((by decide : ∀ y0 : Bool, ((y0 = false) → ((!y0) = true))) (!a0.On)) ?_
    refine sk_leaf ?_
    obtain rfl := some_ h
    exact end_ok [] Tryz.results92 (ps := [((!a0.On) || b2) = ((!a0.On) || b2)]) (by kernel_rfl) ⟨rfl, trivial⟩ (fun _ => ⟨rfl, by simp⟩)
set_option maxRecDepth 100000 in
theorem slices_Clone_api_Frame_ok (a0 r : List AFr) (h : slices_Clone_api_Frame a0 = some r) {al : Bool} : PCalls Tryz.prog 93 [.pv (E188.ro a0)] al (.row 0 2 0 r.length) [.row 188 2 (E188.cR r)] := by
 unfold slices_Clone_api_Frame at h
 obtain ⟨g, h⟩ := if_ h
 obtain rfl := some_ h
 refine fn_ok tabOk Tryz.func93 (by kernel_rfl) (by kernel_rfl) Tryz.ntmps93 (by simp) ?_
 refine segs [1] tabOk mixed 4000 (S := .leaf 0) (by kernel_rfl) ?_
 refine sk_leaf ?_
 refine nil_ok (d1 := 3) (d2 := 4) (s := 2) (n := a0.length) (c := fun i j => E188.cf (a0.getD i E188.z) j) tabOk (by kernel_rfl) ?_
 intro b hb
 refine sg (S := .br b (.leaf 0) (.leaf 1)) ?_
 refine sk_br ?_ ?_ <;> intro hc <;> refine sk_leaf ?_
 ·obtain rfl : a0 = [] := List.eq_nil_of_length_eq_zero (hb hc)
  exact end_ok [(0, none)] Tryz.results93 (ps := [0 = 0, 0 = 0, E188.cR [] = []]) (by kernel_rfl) ⟨rfl, rfl, rfl, trivial⟩ (fun _ => ⟨rfl, by simp only [List.mem_cons, List.not_mem_nil, or_false, forall_eq]; exact Elem.cR_bald E188_raw _⟩)
 ·refine bs_ok (d := 5) (e := 188) (s := 2) (n := 0) (cs := []) (cs' := E188.cR []) (by kernel_rfl) rfl (by kernel_rfl) ?_
  refine s0 ?_
  refine app_ok (d := 7) (e := 188) (s := 2) (b := 2) (x := .row 16704 2 0 0) (y := .pv (E188.ro a0)) E188 (xs := []) (ys := a0) (by kernel_rfl) rfl (.row 16704 [] 0 rfl (by kernel_rfl)) (.ro a0) ⟨by simp; omega, by simp; omega⟩ (by kernel_rfl) ?_
  refine s0 ?_
  exact end_ok [(0, some 16832)] Tryz.results93 (ps := [0 = 0, a0.length = a0.length, E188.cR a0 = E188.cR a0, AllPv (E188.cR a0)]) (by kernel_rfl) ⟨rfl, rfl, rfl, Elem.cR_pv _ _, trivial⟩ (fun _ => ⟨rfl, by simp only [List.mem_cons, List.not_mem_nil, or_false, forall_eq]; exact Elem.cR_bald E188_raw _⟩)
theorem nest_Step_ok (a0 : Api_Core) (a1 : Int) (r : Api_Core × Int) (h : nest_Step a0 a1 = some r) {al : Bool} : PCalls Tryz.prog 70 [.agg (Y109 a0), .pv (.raw (.int .i64 a1))] al (.tup [.agg [.pv (.raw (.bool r.1.On)), .row 0 2 0 r.1.Kept.length], .pv (.raw (.int .i64 r.2))]) [.row 188 2 (E188.cR r.1.Kept)] := by
 unfold nest_Step at h
 refine fn_ok tabOk Tryz.func70 (by kernel_rfl) (by kernel_rfl) Tryz.ntmps70 (by simp) ?_
 refine s0 ?_
 obtain ⟨r1, e2, h⟩ := bd_ h
 refine call_ok (d := some 12) (fn := 92) (ax := [.agg (Y109 a0)]) (ps := [a0.On = a0.On, a0.Kept.length = a0.Kept.length, ∀ i, i < a0.Kept.length → ∀ j, j < 2 → E188.cf (a0.Kept.getD i E188.z) j = E188.cf (a0.Kept.getD i E188.z) j]) (hb' := []) (by kernel_rfl) (nest_Right_ok _ _ e2 (al := true)) (by kernel_rfl) ⟨rfl, rfl, fun _ _ _ _ => rfl, trivial⟩ (fun _ => (by kernel_rfl)) (by simp) rfl (by kernel_rfl) ?_
 refine sg (S := .br (!r1) (.leaf 0) (.and (((!(decide ((a1 : Int) < 1))) = true → ((!(decide ((a1 : Int) < 1))) = true))) (.and ((decide ((a1 : Int) < 1)) = false → (!(decide ((a1 : Int) < 1))) = true) (.br ((decide ((a1 : Int) < 1)) || (decide ((a1 : Int) > 4))) (.leaf 1) (.and (((!((a1 : Int) == 1)) = true → ((!((a1 : Int) == 1)) = true))) (.and (((a1 : Int) == 1) = false → (!((a1 : Int) == 1)) = true) (.and (((((a1 : Int) == 1) || ((a1 : Int) == 3)) = true → ((((a1 : Int) == 1) || ((a1 : Int) == 3)) = true))) (.and ((((a1 : Int) == 1) || ((a1 : Int) == 3)) = true → (((a1 : Int) == 1) || ((a1 : Int) == 3)) = true) (.br ((((a1 : Int) == 1) || ((a1 : Int) == 3)) && ((((a0.Kept.length : Nat) : Int) : Int) == 400)) (.leaf 2) (.and ((((a1 : Int) == 3) = true → (((a1 : Int) == 3) = true))) (.and ((((a1 : Int) == 3) = true → (((a1 : Int) == 3) = true))) (.and (((a1 : Int) == 3) = true → ((a1 : Int) == 3) = true) (.br (((a1 : Int) == 3) && (!a0.On)) (.leaf 3) (.and (((!((a1 : Int) == 2)) = true → ((!((a1 : Int) == 2)) = true))) (.and (((a1 : Int) == 2) = false → (!((a1 : Int) == 2)) = true) (.and (((((a1 : Int) == 2) || ((a1 : Int) == 4)) = true → ((((a1 : Int) == 2) || ((a1 : Int) == 4)) = true))) (.and ((((a1 : Int) == 2) || ((a1 : Int) == 4)) = true → (((a1 : Int) == 2) || ((a1 : Int) == 4)) = true) (.br ((((a1 : Int) == 2) || ((a1 : Int) == 4)) && ((((a0.Kept.length : Nat) : Int) : Int) == 0)) (.leaf 4) (.and (((!((a1 : Int) == 2)) = true → ((!((a1 : Int) == 2)) = true))) (.and (((a1 : Int) == 2) = false → (!((a1 : Int) == 2)) = true) (.and (((((a1 : Int) == 2) || ((a1 : Int) == 4)) = true → ((((a1 : Int) == 2) || ((a1 : Int) == 4)) = true))) (.and (((((a1 : Int) == 2) || ((a1 : Int) == 4)) = true → ((((a1 : Int) == 2) || ((a1 : Int) == 4)) = true))) (.and (((((a1 : Int) == 2) || ((a1 : Int) == 4)) = true → ((((a1 : Int) == 2) || ((a1 : Int) == 4)) = true))) (.and (((((a1 : Int) == 2) || ((a1 : Int) == 4)) = true → ((((a1 : Int) == 2) || ((a1 : Int) == 4)) = true))) (.and (((((a1 : Int) == 2) || ((a1 : Int) == 4)) = true → (0 ≤ ((IntKind.i64.wrap (((a0.Kept.length : Nat) : Int) - 1)) : Int) ∧ (IntKind.i64.wrap (((a0.Kept.length : Nat) : Int) - 1)) < ((a0.Kept.length : Nat) : Int)))) (.and (((((a1 : Int) == 2) || ((a1 : Int) == 4)) = true → ((((a1 : Int) == 2) || ((a1 : Int) == 4)) = true))) (.and (((((a1 : Int) == 2) || ((a1 : Int) == 4)) = true → ((((a1 : Int) == 2) || ((a1 : Int) == 4)) = true))) (.and (((((a1 : Int) == 2) || ((a1 : Int) == 4)) = true → ((((a1 : Int) == 2) || ((a1 : Int) == 4)) = true))) (.and (((((a1 : Int) == 2) || ((a1 : Int) == 4)) = true → ((((a1 : Int) == 2) || ((a1 : Int) == 4)) = true))) (.and (((((a1 : Int) == 2) || ((a1 : Int) == 4)) = true → ((((a1 : Int) == 2) || ((a1 : Int) == 4)) = true))) (.and ((((a1 : Int) == 2) || ((a1 : Int) == 4)) = true → (((a1 : Int) == 2) || ((a1 : Int) == 4)) = true) (.br ((((a1 : Int) == 2) || ((a1 : Int) == 4)) && (((a0.Kept.getD (Int.toNat (IntKind.i64.wrap (((a0.Kept.length : Nat) : Int) - 1))) (⟨false, false⟩ : AFr)).Irq) != ((a1 : Int) == 4))) (.leaf 5) (.and (((!((a1 : Int) == 1)) = true → ((!((a1 : Int) == 1)) = true))) (.and (((a1 : Int) == 1) = false → (!((a1 : Int) == 1)) = true) (.br (((a1 : Int) == 1) || ((a1 : Int) == 3)) (.leaf 6) (.and (0 ≤ ((IntKind.i64.wrap (((a0.Kept.length : Nat) : Int) - 1)) : Int) ∧ (IntKind.i64.wrap (((a0.Kept.length : Nat) : Int) - 1)) < ((a0.Kept.length : Nat) : Int)) (.and (0 ≤ ((IntKind.i64.wrap (((a0.Kept.length : Nat) : Int) - 1)) : Int)) (.and ((Int.toNat (IntKind.i64.wrap (((a0.Kept.length : Nat) : Int) - 1))) ≤ a0.Kept.length) (.leaf 7))))))))))))))))))))))))))))))))))))))) ?_
 refine br_ h ?_ ?_ <;> clear h <;> intro c3 h
 ·cases h
 ·refine sk_and (fun h => h) ?_
  refine sk_and ((by decide : ∀ y0 : Bool, ((y0 = false) → ((!y0) = true))) (decide ((a1 : Int) < 1))) ?_
  refine br_ h ?_ ?_ <;> clear h <;> intro c6 h
  ·cases h
  ·refine sk_and (fun h => h) ?_
   refine sk_and ((by decide : ∀ y0 : Bool, ((y0 = false) → ((!y0) = true))) ((a1 : Int) == 1)) ?_
   refine sk_and (fun h => h) ?_
   refine sk_and (fun h => h) ?_
   refine br_ h ?_ ?_ <;> clear h <;> intro c11 h
   ·cases h
   ·refine sk_and (fun h => h) ?_
    refine sk_and (fun h => h) ?_
    refine sk_and (fun h => h) ?_
    refine br_ h ?_ ?_ <;> clear h <;> intro c15 h
    ·cases h
    ·refine sk_and (fun h => h) ?_
     refine sk_and ((by decide : ∀ y0 : Bool, ((y0 = false) → ((!y0) = true))) ((a1 : Int) == 2)) ?_
     refine sk_and (fun h => h) ?_
     refine sk_and (fun h => h) ?_
     refine br_ h ?_ ?_ <;> clear h <;> intro c20 h
     ·cases h
     ·refine sk_and (fun h => h) ?_
      refine sk_and ((by decide : ∀ y0 : Bool, ((y0 = false) → ((!y0) = true))) ((a1 : Int) == 2)) ?_
      refine sk_and (fun h => h) ?_
      refine sk_and (fun h => h) ?_
      refine sk_and (fun h => h) ?_
      refine sk_and (fun h => h) ?_
      refine gd_ h ?_; clear h; intro g27 h
      refine sk_and (fun h => h) ?_
      refine sk_and (fun h => h) ?_
      refine sk_and (fun h => h) ?_
      refine sk_and (fun h => h) ?_
      refine sk_and (fun h => h) ?_
      refine sk_and (fun h => h) ?_
      refine br_ h ?_ ?_ <;> clear h <;> intro c34 h
      ·cases h
      ·refine sk_and (fun h => h) ?_
       refine sk_and ((by decide : ∀ y0 : Bool, ((y0 = false) → ((!y0) = true))) ((a1 : Int) == 1)) ?_
       refine br_ h ?_ ?_ <;> clear h <;> intro c37 h
       ·refine sk_leaf ?_
        obtain ⟨r38, e39, h⟩ := bd_ h
        refine call_ok (d := some 84) (fn := 93) (ax := [.pv ((E188.ro a0.Kept))]) (ps := [a0.Kept.length = a0.Kept.length, ∀ i, i < a0.Kept.length → ∀ j, j < 2 → E188.cf (a0.Kept.getD i E188.z) j = E188.cf (a0.Kept.getD i E188.z) j]) (hb' := [.row 188 2 (E188.cR r38)]) (by kernel_rfl) (slices_Clone_api_Frame_ok _ _ e39 (al := true)) (by kernel_rfl) ⟨rfl, fun _ _ _ _ => rfl, trivial⟩ (fun _ => (by kernel_rfl)) (by simp) (by simp only [List.map_cons, List.map_nil, Elem.row_up, up_map] <;> rfl) (by kernel_rfl) ?_
        refine s0 ?_
        refine bs_ok (d := 90) (e := 188) (s := 2) (n := 1) (cs := [.pv (.raw (.bool a0.On)), .pv (.raw (.bool ((a1 : Int) == 3)))]) (cs' := E188.cR [(⟨a0.On, ((a1 : Int) == 3)⟩ : AFr)]) (by kernel_rfl) rfl (by kernel_rfl) ?_
        refine s0 ?_
        obtain ⟨g40, h⟩ := if_ h
        refine app_ok (d := 91) (e := 188) (s := 2) (b := 2) (x := .row 21760 2 0 r38.length) (y := .row 22144 2 0 1) E188 (xs := r38) (ys := [(⟨a0.On, ((a1 : Int) == 3)⟩ : AFr)]) (by kernel_rfl) rfl (.row 21760 r38 r38.length rfl (by kernel_rfl)) (.all 22144 188 [(⟨a0.On, ((a1 : Int) == 3)⟩ : AFr)] 1 rfl (by kernel_rfl)) g40 (by kernel_rfl) ?_
        refine s0 ?_
        obtain rfl := some_ h
        exact end_ok [(0, some 22208)] Tryz.results70 (ps := [false = false, 0 = 0, ((r38 ++ [(⟨a0.On, ((a1 : Int) == 3)⟩ : AFr)]).length) = (r38 ++ [(⟨a0.On, ((a1 : Int) == 3)⟩ : AFr)]).length, (0 : Int) = 0, E188.cR (r38 ++ [(⟨a0.On, ((a1 : Int) == 3)⟩ : AFr)]) = E188.cR (r38 ++ [(⟨a0.On, ((a1 : Int) == 3)⟩ : AFr)]), AllPv (E188.cR (r38 ++ [(⟨a0.On, ((a1 : Int) == 3)⟩ : AFr)]))]) (by kernel_rfl) ⟨rfl, rfl, rfl, rfl, rfl, (Elem.cR_pv _ _), trivial⟩ (fun _ => ⟨rfl, by simp only [List.mem_cons, List.not_mem_nil, or_false, forall_eq_or_imp, forall_eq]; exact Elem.cR_bald E188_raw _⟩)
       ·refine gd_ h ?_; clear h; intro g41 h
        refine gd_ h ?_; clear h; intro g42 h
        refine gd_ h ?_; clear h; intro g43 h
        refine sk_leaf ?_
        obtain ⟨r44, e45, h⟩ := bd_ h
        refine call_ok (d := some 105) (fn := 93) (ax := [.pv (.ro E188.s ((Int.toNat (IntKind.i64.wrap (((a0.Kept.length : Nat) : Int) - 1))) - 0) (fun i j => E188.cf (a0.Kept.getD (0 + i) E188.z) j))]) (ps := [((Int.toNat (IntKind.i64.wrap (((a0.Kept.length : Nat) : Int) - 1))) - 0) = ((a0.Kept.drop 0).take ((Int.toNat (IntKind.i64.wrap (((a0.Kept.length : Nat) : Int) - 1))) - 0)).length, ∀ i, i < ((Int.toNat (IntKind.i64.wrap (((a0.Kept.length : Nat) : Int) - 1))) - 0) → ∀ j, j < 2 → E188.cf (a0.Kept.getD (0 + i) E188.z) j = E188.cf (((a0.Kept.drop 0).take ((Int.toNat (IntKind.i64.wrap (((a0.Kept.length : Nat) : Int) - 1))) - 0)).getD i E188.z) j]) (hb' := [.row 188 2 (E188.cR r44)]) (by kernel_rfl) (slices_Clone_api_Frame_ok _ _ e45 (al := true)) (by kernel_rfl) ⟨(Elem.sub_len _ (by omega)), (Elem.sub_cf _ _ (by omega)), trivial⟩ (fun _ => (by kernel_rfl)) (by simp) (by simp only [List.map_cons, List.map_nil, Elem.row_up, up_map] <;> rfl) (by kernel_rfl) ?_
        refine s0 ?_
        obtain rfl := some_ h
        exact end_ok [(0, some 23104)] Tryz.results70 (ps := [((a0.Kept.getD (Int.toNat (IntKind.i64.wrap (((a0.Kept.length : Nat) : Int) - 1))) (⟨false, false⟩ : AFr)).On) = ((a0.Kept.getD (Int.toNat (IntKind.i64.wrap (((a0.Kept.length : Nat) : Int) - 1))) (⟨false, false⟩ : AFr)).On), 0 = 0, r44.length = r44.length, (0 : Int) = 0, E188.cR r44 = E188.cR r44, AllPv (E188.cR r44)]) (by kernel_rfl) ⟨rfl, rfl, rfl, rfl, rfl, (Elem.cR_pv _ _), trivial⟩ (fun _ => ⟨rfl, by simp only [List.mem_cons, List.not_mem_nil, or_false, forall_eq_or_imp, forall_eq]; exact Elem.cR_bald E188_raw _⟩)
end Go.Proofs.YthmieigenefilaaGreatDoor
