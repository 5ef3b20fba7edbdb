import Derived.Test.YthmieigenefilaaGreatDoorQBWW3
set_option linter.unusedSimpArgs false
set_option linter.unusedVariables false
namespace Go.Proofs.YthmieigenefilaaGreatDoor
open Go Go.Ab
set_option maxHeartbeats 40000000
set_option maxRecDepth 100000
attribute [local irreducible] V VS runS Sk.Holds
def Y67 (x0 : Api_Uart) (x1 : List Api_Pin) (x2 : Int) : List Prop := [0 = 0, (x2 : Int) = x2, x0.In.length = x0.In.length, ∀ i, i < x0.In.length → ∀ j, j < 1 → E5.cf (x0.In.getD i E5.z) j = E5.cf (x0.In.getD i E5.z) j, x0.Out.length = x0.Out.length, ∀ i, i < x0.Out.length → ∀ j, j < 1 → E5.cf (x0.Out.getD i E5.z) j = E5.cf (x0.Out.getD i E5.z) j, (x0.Lost : Int) = x0.Lost, x0.Asks = x0.Asks, 0 = 0, x1.length = x1.length]
theorem Y67p {x0 : Api_Uart} {x1 : List Api_Pin} {x2 : Int} : allP (Y67 x0 x1 x2) := ⟨rfl, rfl, rfl, fun _ _ _ _ => rfl, rfl, fun _ _ _ _ => rfl, rfl, rfl, rfl, rfl, trivial⟩
theorem kw_level_o8_ok (a0 : KWh) (r : KWh) (h : kw_level_o8 a0 = some r) : MCalls Tryz.prog 62 [.ptr 0 0] [.box (Y12 a0 1), .row 52 7 (E52.cR a0.pins_)] 1 true (.tup []) [.box (Y12 r 1), .row 52 7 (E52.cR r.pins_)] := by
 unfold kw_level_o8 at h
 refine fnM_ok tabOk (fz := [64]) Tryz.func62 (by kernel_rfl) (by kernel_rfl) Tryz.ntmps62 (by simp) (by first | (simp; done) | exact Nat.le_of_ble_eq_true rfl) ?_
 refine sg (S := .br a0.uart_.Asks (.leaf 0) (.leaf 1)) ?_
 refine br_ h ?_ ?_ <;> clear h <;> intro c1 h
 ·refine sk_leaf ?_
  obtain ⟨r2, e3, h⟩ := bd_ h
  refine mcall_ok (d := some 8) (fn := 64) (ax := [.ptr 0 0, .pv (.raw (.int .i64 1))]) (hs := [(0, .box (Y12 r2 16897)), (16897, .row 52 7 (E52.cR r2.pins_))]) (del := [1]) (ps := ((Y67 a0.uart_ a0.pins_ 1) ++ (Y13 a0))) [(0, some 0), (1, some 1)] (by kernel_rfl) (kw_pin_o8_ok _ _ _ e3) (by kernel_rfl) (allP_append.2 ⟨Y67p, Y13p⟩) (by kernel_rfl) (by simp only [Y0, Y12, Y43, Y71, List.cons_append, List.nil_append, List.append_nil, rB, rA, fl, mset_row, mset_box, mset_nil, mset_map, List.set_set]; kernel_rfl) (by kernel_rfl) ?_
  refine s0 ?_
  obtain rfl := some_ h
  exact endM_ok [(0, some 0), (1, some 16897)] Tryz.results62 (ps := ((Y69 r2.uart_ r2.pins_) ++ (Y13 r2))) (by kernel_rfl) (allP_append.2 ⟨Y69p, Y13p⟩) (fun hx => by cases hx)
 ·refine sk_leaf ?_
  obtain ⟨r4, e5, h⟩ := bd_ h
  refine mcall_ok (d := some 10) (fn := 64) (ax := [.ptr 0 0, .pv (.raw (.int .i64 2))]) (hs := [(0, .box (Y12 r4 17025)), (17025, .row 52 7 (E52.cR r4.pins_))]) (del := [1]) (ps := ((Y67 a0.uart_ a0.pins_ 2) ++ (Y13 a0))) [(0, some 0), (1, some 1)] (by kernel_rfl) (kw_pin_o8_ok _ _ _ e5) (by kernel_rfl) (allP_append.2 ⟨Y67p, Y13p⟩) (by kernel_rfl) (by simp only [Y0, Y12, Y43, Y71, List.cons_append, List.nil_append, List.append_nil, rB, rA, fl, mset_row, mset_box, mset_nil, mset_map, List.set_set]; kernel_rfl) (by kernel_rfl) ?_
  refine s0 ?_
  obtain rfl := some_ h
  exact endM_ok [(0, some 0), (1, some 17025)] Tryz.results62 (ps := ((Y69 r4.uart_ r4.pins_) ++ (Y13 r4))) (by kernel_rfl) (allP_append.2 ⟨Y69p, Y13p⟩) (fun hx => by cases hx)
def Y100 (x0 x1 : Int) (x2 : Api_Uart) (x3 : List Api_Pin) : List Prop := [(x0 : Int) = x0, (x1 : Int) = x1, x2.In.length = x2.In.length, ∀ i, i < x2.In.length → ∀ j, j < 1 → E5.cf (x2.In.getD i E5.z) j = E5.cf (x2.In.getD i E5.z) j, x2.Out.length = x2.Out.length, ∀ i, i < x2.Out.length → ∀ j, j < 1 → E5.cf (x2.Out.getD i E5.z) j = E5.cf (x2.Out.getD i E5.z) j, (x2.Lost : Int) = x2.Lost, x2.Asks = x2.Asks, 0 = 0, x3.length = x3.length]
theorem Y100p {x0 : Int} {x1 : Int} {x2 : Api_Uart} {x3 : List Api_Pin} : allP (Y100 x0 x1 x2 x3) := ⟨rfl, rfl, rfl, fun _ _ _ _ => rfl, rfl, fun _ _ _ _ => rfl, rfl, rfl, rfl, rfl, trivial⟩
theorem kw_device_o8_ok (a0 : KWh) (a1 : Api_UartOp) (r : Int × Int × KWh) (h : kw_device_o8 a0 a1 = some r) : MCalls Tryz.prog 40 [.ptr 0 0, .agg [.pv (.raw (.int .i64 a1.Kind)), .pv (.raw (.int .u8 a1.Byte))]] [.box (Y12 a0 1), .row 52 7 (E52.cR a0.pins_)] 1 true (.tup [.pv (.raw (.int .u8 r.1)), .pv (.raw (.int .i64 r.2.1))]) [.box (Y12 r.2.2 1), .row 52 7 (E52.cR r.2.2.pins_)] := by
 unfold kw_device_o8 at h
 refine fnM_ok tabOk (fz := [62]) Tryz.func40 (by kernel_rfl) (by kernel_rfl) Tryz.ntmps40 (by simp) (by first | (simp; done) | exact Nat.le_of_ble_eq_true rfl) ?_
 refine s0 ?_
 obtain ⟨r1, e2, h⟩ := bd_ h
 refine call_ok (d := some 15) (fn := 61) (ax := [.agg (Y103 a0.uart_), .agg [.pv (.raw (.int .i64 a1.Kind)), .pv (.raw (.int .u8 a1.Byte))]]) (ps := [a0.uart_.In.length = a0.uart_.In.length, ∀ i, i < a0.uart_.In.length → ∀ j, j < 1 → E5.cf (a0.uart_.In.getD i E5.z) j = E5.cf (a0.uart_.In.getD i E5.z) j, a0.uart_.Out.length = a0.uart_.Out.length, ∀ i, i < a0.uart_.Out.length → ∀ j, j < 1 → E5.cf (a0.uart_.Out.getD i E5.z) j = E5.cf (a0.uart_.Out.getD i E5.z) j, (a0.uart_.Lost : Int) = a0.uart_.Lost, a0.uart_.Asks = a0.uart_.Asks, (a1.Kind : Int) = a1.Kind, (a1.Byte : Int) = a1.Byte]) (hb' := []) (by kernel_rfl) (uart_Step_ok _ _ _ e2) (by kernel_rfl) ⟨rfl, fun _ _ _ _ => rfl, rfl, fun _ _ _ _ => rfl, rfl, rfl, rfl, rfl, trivial⟩ (fun _ => (by kernel_rfl)) (by simp) rfl (by kernel_rfl) ?_
 refine sg (S := .br ((r1.2.2 : Int) == 0) (.leaf 0) (.leaf 1)) ?_
 refine br_ h ?_ ?_ <;> clear h <;> intro c3 h
 ·refine sk_leaf ?_
  obtain ⟨r4, e5, h⟩ := bd_ h
  refine mcall_ok (d := some 26) (fn := 62) (ax := [.ptr 0 0]) (hs := [(0, .box (Y12 r4 18049)), (18049, .row 52 7 (E52.cR r4.pins_))]) (del := [1]) (ps := ([0 = 0, r1.1.In.length = r1.1.In.length, ∀ i, i < r1.1.In.length → ∀ j, j < 1 → E5.cf (r1.1.In.getD i E5.z) j = E5.cf (r1.1.In.getD i E5.z) j, r1.1.Out.length = r1.1.Out.length, ∀ i, i < r1.1.Out.length → ∀ j, j < 1 → E5.cf (r1.1.Out.getD i E5.z) j = E5.cf (r1.1.Out.getD i E5.z) j, (r1.1.Lost : Int) = r1.1.Lost, r1.1.Asks = r1.1.Asks, 0 = 0, a0.pins_.length = a0.pins_.length] ++ (Y13 a0))) [(0, some 0), (1, some 1)] (by kernel_rfl) (kw_level_o8_ok _ _ e5) (by kernel_rfl) (allP_append.2 ⟨⟨rfl, rfl, fun _ _ _ _ => rfl, rfl, fun _ _ _ _ => rfl, rfl, rfl, rfl, rfl, trivial⟩, Y13p⟩) (by kernel_rfl) (by simp only [Y0, Y12, Y43, Y71, List.cons_append, List.nil_append, List.append_nil, rB, rA, fl, mset_row, mset_box, mset_nil, mset_map, List.set_set]; kernel_rfl) (by kernel_rfl) ?_
  refine s0 ?_
  obtain rfl := some_ h
  exact endM_ok [(0, some 0), (1, some 18049)] Tryz.results40 (ps := ((Y100 r1.2.1 r1.2.2 r4.uart_ r4.pins_) ++ (Y13 r4))) (by kernel_rfl) (allP_append.2 ⟨Y100p, Y13p⟩) (fun hx => by cases hx)
 ·refine sk_leaf ?_
  obtain rfl := some_ h
  exact endM_ok [(0, some 0), (1, some 1)] Tryz.results40 (ps := ((Y100 r1.2.1 r1.2.2 a0.uart_ a0.pins_) ++ (Y13 a0))) (by kernel_rfl) (allP_append.2 ⟨Y100p, Y13p⟩) (fun hx => by cases hx)
def Y115 (x0 : Api_Core) : List AV := [.pv (.raw (.bool x0.On)), .pv ((E188.ro x0.Kept))]
def Y72 (x0 : Api_Core) (x1 : Nat) (x2 : Bool) : Bool := (((x0.Kept.getD x1 (⟨false, false⟩ : AFr)).On) && (!x2))
def Y123 (x0 : Bool) (x1 : Api_Core) (x2 : Nat) : Bool := ((!x0) && ((x1.Kept.getD x2 (⟨false, false⟩ : AFr)).Irq))
theorem nest_Right_ok (a0 : Api_Core) (r : Bool) (h : nest_Right a0 = some r) {al : Bool} : PCalls Tryz.prog 92 [.agg (Y115 a0)] al (.pv (.raw (.bool r))) [] := by
 unfold nest_Right at h
 refine fn_ok tabOk Tryz.func92 (by kernel_rfl) (by kernel_rfl) Tryz.ntmps92 (by simp) ?_
 refine sg (S := .br (decide ((((a0.Kept.length : Nat) : Int) : Int) > 400)) (.leaf 0) (.leaf 1)) ?_
 refine br_ h ?_ ?_ <;> clear h <;> intro c1 h
 ·refine sk_leaf ?_
  obtain rfl := some_ h
  exact end_ok [] Tryz.results92 (ps := [false = false]) (by kernel_rfl) ⟨rfl, trivial⟩ (fun _ => ⟨rfl, by simp⟩)
 ·refine sk_leaf ?_
  refine len_ro (by kernel_rfl) 11 (s := 2) (n := a0.Kept.length) (c := fun i j => E188.cf (a0.Kept.getD i E188.z) j) (by kernel_rfl) ?_; intro hl1_0
  replace h : (fun (x : Nat × Bool × Nat) => nest_Right_l1 a0 x.1 x.2.1 x.2.2 = some r) (FUEL, true, 0) := h
  refine loop_ok (by kernel_rfl) (X := Nat × Bool × Nat) (fun x => nest_Right_l1 a0 x.1 x.2.1 x.2.2 = some r) (fun x => x.1) (fun x => mk 39 [(1, .ptr 0 0), (2, .pv (.raw (.bool false))), (3, .pv (.raw (.bool x.2.1))), (11, .pv ((E188.ro a0.Kept))), (12, .pv (.raw (.int .i64 ((a0.Kept.length : Nat) : Int)))), (13, .pv (.raw (.int .i64 ((x.2.2 : Nat) : Int))))] [(0, .box (Y115 a0))]) (FUEL, true, 0) h ?_ ?_
  ·exact sub_ok (ρ := [(0, some 16448)]) (l := [0 = 0, false = false, true = true, a0.Kept.length = a0.Kept.length, ∀ i, i < a0.Kept.length → ∀ j, j < 2 → E188.cf (a0.Kept.getD i E188.z) j = E188.cf (a0.Kept.getD i E188.z) j, (((a0.Kept.length : Nat) : Int) : Int) = ((a0.Kept.length : Nat) : Int), (0 : Int) = ((0 : Nat) : Int), a0.On = a0.On, a0.Kept.length = a0.Kept.length, ∀ i, i < a0.Kept.length → ∀ j, j < 2 → E188.cf (a0.Kept.getD i E188.z) j = E188.cf (a0.Kept.getD i E188.z) j]) (by kernel_rfl) ⟨rfl, rfl, rfl, rfl, fun _ _ _ _ => rfl, rfl, (by first | rfl | simp), rfl, rfl, fun _ _ _ _ => rfl, trivial⟩
  ·clear h; rintro ⟨n1, b2, k3⟩ h p1 hp1
   obtain _ | n1 := n1
   ·cases (show (none : Option (Bool)) = some r from h)
   have h : nest_Right_l1 a0 (n1 + 1) b2 k3 = some r := h
   unfold nest_Right_l1 at h
   refine sg (S := .br (decide ((((k3 : Nat) : Int) : Int) < ((a0.Kept.length : Nat) : Int))) (.and (0 ≤ (((k3 : Nat) : Int) : Int) ∧ ((k3 : Nat) : Int) < ((a0.Kept.length : Nat) : Int)) (.and ((((a0.Kept.getD k3 (⟨false, false⟩ : AFr)).On) = true → (((a0.Kept.getD k3 (⟨false, false⟩ : AFr)).On) = true))) (.and (((a0.Kept.getD k3 (⟨false, false⟩ : AFr)).On) = true → ((a0.Kept.getD k3 (⟨false, false⟩ : AFr)).On) = true) (.and (((!(Y72 a0 k3 b2)) = true → ((!(Y72 a0 k3 b2)) = true))) (.and (((!(Y72 a0 k3 b2)) = true → ((!(Y72 a0 k3 b2)) = true))) (.and (((Y123 (Y72 a0 k3 b2) a0 k3) = true → ((Y123 (Y72 a0 k3 b2) a0 k3) = true))) (.and (((Y123 (Y72 a0 k3 b2) a0 k3) = true → ((Y123 (Y72 a0 k3 b2) a0 k3) = true))) (.and (((!(Y72 a0 k3 b2)) = true → ((!(Y72 a0 k3 b2)) = true))) (.and (((!(Y72 a0 k3 b2)) = true → (((a0.Kept.getD k3 (⟨false, false⟩ : AFr)).Irq) = true → (Y123 (Y72 a0 k3 b2) a0 k3) = true))) (.and ((Y72 a0 k3 b2) = false → (!(Y72 a0 k3 b2)) = true) (.br ((((a0.Kept.getD k3 (⟨false, false⟩ : AFr)).On) && (!b2)) || (((a0.Kept.getD k3 (⟨false, false⟩ : AFr)).Irq) && (!((a0.Kept.getD k3 (⟨false, false⟩ : AFr)).On)))) (.leaf 0) (.leaf 1)))))))))))) (.and ((!a0.On) = false → (!(!a0.On)) = true) (.leaf 2))) ?_
   refine br_ h ?_ ?_ <;> clear h <;> intro c4 h
   ·refine sk_and ⟨Int.natCast_nonneg _, of_decide_eq_true c4⟩ ?_
    refine sk_and (fun h => h) ?_
    refine sk_and (fun h => h) ?_
    refine sk_and (fun h => h) ?_
    refine sk_and (fun h => h) ?_
    refine sk_and (fun h => h) ?_
    refine sk_and (fun h => h) ?_
    refine sk_and (fun h => h) ?_
    refine sk_and ((by decide : ∀ y0 y1 : Bool, ((y0 = true) → ((y1 = true) → ((y0 && y1) = true)))) (!(Y72 a0 k3 b2)) ((a0.Kept.getD k3 (⟨false, false⟩ : AFr)).Irq)) ?_
    refine sk_and ((by decide : ∀ y0 : Bool, ((y0 = false) → ((!y0) = true))) (Y72 a0 k3 b2)) ?_
    refine br_ h ?_ ?_ <;> clear h <;> intro c15 h
    ·refine sk_leaf ?_
     obtain rfl := some_ h
     exact end_ok [] Tryz.results92 (ps := [false = false]) (by kernel_rfl) ⟨rfl, trivial⟩ (fun _ => ⟨rfl, by simp⟩)
    ·refine sk_leaf ?_
     refine back_ok (p := p1) (by kernel_rfl) (hp1 (n1, false, k3 + 1) _ h (Nat.lt_succ_self n1) ?_)
     exact sub_ok (ρ := [(0, some 0)]) (l := [0 = 0, false = false, false = false, a0.Kept.length = a0.Kept.length, ∀ i, i < a0.Kept.length → ∀ j, j < 2 → E188.cf (a0.Kept.getD i E188.z) j = E188.cf (a0.Kept.getD i E188.z) j, (((a0.Kept.length : Nat) : Int) : Int) = ((a0.Kept.length : Nat) : Int), ((IntKind.i64.wrap (((k3 : Nat) : Int) + 1)) : Int) = (((k3 + 1) : Nat) : Int), a0.On = a0.On, a0.Kept.length = a0.Kept.length, ∀ i, i < a0.Kept.length → ∀ j, j < 2 → E188.cf (a0.Kept.getD i E188.z) j = E188.cf (a0.Kept.getD i E188.z) j]) (by kernel_rfl) ⟨rfl, rfl, rfl, rfl, fun _ _ _ _ => rfl, rfl, (wrap_nat (Int.ofNat_lt.1 (of_decide_eq_true c4)) (by omega)), rfl, rfl, fun _ _ _ _ => rfl, trivial⟩
   ·refine sk_and ((by decide : ∀ y0 : Bool, ((y0 = false) → ((!y0) = true))) (!a0.On)) ?_
    refine sk_leaf ?_
    obtain rfl := some_ h
    exact end_ok [] Tryz.results92 (ps := [((!a0.On) || b2) = ((!a0.On) || b2)]) (by kernel_rfl) ⟨rfl, trivial⟩ (fun _ => ⟨rfl, by simp⟩)
set_option maxRecDepth 100000 in
theorem slices_Clone_api_Frame_ok (a0 r : List AFr) (h : slices_Clone_api_Frame a0 = some r) {al : Bool} : PCalls Tryz.prog 93 [.pv (E188.ro a0)] al (.row 0 2 0 r.length) [.row 188 2 (E188.cR r)] := by
 unfold slices_Clone_api_Frame at h
 obtain ⟨g, h⟩ := if_ h
 obtain rfl := some_ h
 refine fn_ok tabOk Tryz.func93 (by kernel_rfl) (by kernel_rfl) Tryz.ntmps93 (by simp) ?_
 refine segs [1] tabOk mixed 4000 (S := .leaf 0) (by kernel_rfl) ?_
 refine sk_leaf ?_
 refine nil_ok (d1 := 3) (d2 := 4) (s := 2) (n := a0.length) (c := fun i j => E188.cf (a0.getD i E188.z) j) tabOk (by kernel_rfl) ?_
 intro b hb
 refine sg (S := .br b (.leaf 0) (.leaf 1)) ?_
 refine sk_br ?_ ?_ <;> intro hc <;> refine sk_leaf ?_
 ·obtain rfl : a0 = [] := List.eq_nil_of_length_eq_zero (hb hc)
  exact end_ok [(0, none)] Tryz.results93 (ps := [0 = 0, 0 = 0, E188.cR [] = []]) (by kernel_rfl) ⟨rfl, rfl, rfl, trivial⟩ (fun _ => ⟨rfl, by simp only [List.mem_cons, List.not_mem_nil, or_false, forall_eq]; exact Elem.cR_bald E188_raw _⟩)
 ·refine bs_ok (d := 5) (e := 188) (s := 2) (n := 0) (cs := []) (cs' := E188.cR []) (by kernel_rfl) rfl (by kernel_rfl) ?_
  refine s0 ?_
  refine app_ok (d := 7) (e := 188) (s := 2) (b := 2) (x := .row 16704 2 0 0) (y := .pv (E188.ro a0)) E188 (xs := []) (ys := a0) (by kernel_rfl) rfl (.row 16704 [] 0 rfl (by kernel_rfl)) (.ro a0) ⟨by simpa using g, by simp; omega⟩ (by kernel_rfl) ?_
  refine s0 ?_
  exact end_ok [(0, some 16832)] Tryz.results93 (ps := [0 = 0, a0.length = a0.length, E188.cR a0 = E188.cR a0, AllPv (E188.cR a0)]) (by kernel_rfl) ⟨rfl, rfl, rfl, Elem.cR_pv _ _, trivial⟩ (fun _ => ⟨rfl, by simp only [List.mem_cons, List.not_mem_nil, or_false, forall_eq]; exact Elem.cR_bald E188_raw _⟩)
def Y99 (x0 : Int) : List Prop := [false = false, 0 = 0, ([] : List AFr).length = 0, (x0 : Int) = x0, E188.cR [] = []]
theorem Y99p {x0 : Int} : allP (Y99 x0) := ⟨rfl, rfl, rfl, rfl, rfl, trivial⟩
theorem nest_Step_ok (a0 : Api_Core) (a1 : Int) (r : Api_Core × Int) (h : nest_Step a0 a1 = some r) {al : Bool} : PCalls Tryz.prog 70 [.agg (Y115 a0), .pv (.raw (.int .i64 a1))] al (.tup [.agg [.pv (.raw (.bool r.1.On)), .row 0 2 0 r.1.Kept.length], .pv (.raw (.int .i64 r.2))]) [.row 188 2 (E188.cR r.1.Kept)] := by
 unfold nest_Step at h
 refine fn_ok tabOk Tryz.func70 (by kernel_rfl) (by kernel_rfl) Tryz.ntmps70 (by simp) ?_
 refine s0 ?_
 obtain ⟨r1, e2, h⟩ := bd_ h
 refine call_ok (d := some 12) (fn := 92) (ax := [.agg (Y115 a0)]) (ps := [a0.On = a0.On, a0.Kept.length = a0.Kept.length, ∀ i, i < a0.Kept.length → ∀ j, j < 2 → E188.cf (a0.Kept.getD i E188.z) j = E188.cf (a0.Kept.getD i E188.z) j]) (hb' := []) (by kernel_rfl) (nest_Right_ok _ _ e2 (al := true)) (by kernel_rfl) ⟨rfl, rfl, fun _ _ _ _ => rfl, trivial⟩ (fun _ => (by kernel_rfl)) (by simp) rfl (by kernel_rfl) ?_
 refine sg (S := .br (!r1) (.leaf 0) (.and (((!(decide ((a1 : Int) < 1))) = true → ((!(decide ((a1 : Int) < 1))) = true))) (.and ((decide ((a1 : Int) < 1)) = false → (!(decide ((a1 : Int) < 1))) = true) (.br ((decide ((a1 : Int) < 1)) || (decide ((a1 : Int) > 4))) (.leaf 1) (.and (((!((a1 : Int) == 1)) = true → ((!((a1 : Int) == 1)) = true))) (.and (((a1 : Int) == 1) = false → (!((a1 : Int) == 1)) = true) (.and (((((a1 : Int) == 1) || ((a1 : Int) == 3)) = true → ((((a1 : Int) == 1) || ((a1 : Int) == 3)) = true))) (.and ((((a1 : Int) == 1) || ((a1 : Int) == 3)) = true → (((a1 : Int) == 1) || ((a1 : Int) == 3)) = true) (.br ((((a1 : Int) == 1) || ((a1 : Int) == 3)) && ((((a0.Kept.length : Nat) : Int) : Int) == 400)) (.leaf 2) (.and ((((a1 : Int) == 3) = true → (((a1 : Int) == 3) = true))) (.and ((((a1 : Int) == 3) = true → (((a1 : Int) == 3) = true))) (.and (((a1 : Int) == 3) = true → ((a1 : Int) == 3) = true) (.br (((a1 : Int) == 3) && (!a0.On)) (.leaf 3) (.and (((!((a1 : Int) == 2)) = true → ((!((a1 : Int) == 2)) = true))) (.and (((a1 : Int) == 2) = false → (!((a1 : Int) == 2)) = true) (.and (((((a1 : Int) == 2) || ((a1 : Int) == 4)) = true → ((((a1 : Int) == 2) || ((a1 : Int) == 4)) = true))) (.and ((((a1 : Int) == 2) || ((a1 : Int) == 4)) = true → (((a1 : Int) == 2) || ((a1 : Int) == 4)) = true) (.br ((((a1 : Int) == 2) || ((a1 : Int) == 4)) && ((((a0.Kept.length : Nat) : Int) : Int) == 0)) (.leaf 4) (.and (((!((a1 : Int) == 2)) = true → ((!((a1 : Int) == 2)) = true))) (.and (((a1 : Int) == 2) = false → (!((a1 : Int) == 2)) = true) (.and (((((a1 : Int) == 2) || ((a1 : Int) == 4)) = true → ((((a1 : Int) == 2) || ((a1 : Int) == 4)) = true))) (.and (((((a1 : Int) == 2) || ((a1 : Int) == 4)) = true → ((((a1 : Int) == 2) || ((a1 : Int) == 4)) = true))) (.and (((((a1 : Int) == 2) || ((a1 : Int) == 4)) = true → ((((a1 : Int) == 2) || ((a1 : Int) == 4)) = true))) (.and (((((a1 : Int) == 2) || ((a1 : Int) == 4)) = true → ((((a1 : Int) == 2) || ((a1 : Int) == 4)) = true))) (.and (((((a1 : Int) == 2) || ((a1 : Int) == 4)) = true → (0 ≤ ((IntKind.i64.wrap (((a0.Kept.length : Nat) : Int) - 1)) : Int) ∧ (IntKind.i64.wrap (((a0.Kept.length : Nat) : Int) - 1)) < ((a0.Kept.length : Nat) : Int)))) (.and (((((a1 : Int) == 2) || ((a1 : Int) == 4)) = true → ((((a1 : Int) == 2) || ((a1 : Int) == 4)) = true))) (.and (((((a1 : Int) == 2) || ((a1 : Int) == 4)) = true → ((((a1 : Int) == 2) || ((a1 : Int) == 4)) = true))) (.and (((((a1 : Int) == 2) || ((a1 : Int) == 4)) = true → ((((a1 : Int) == 2) || ((a1 : Int) == 4)) = true))) (.and (((((a1 : Int) == 2) || ((a1 : Int) == 4)) = true → ((((a1 : Int) == 2) || ((a1 : Int) == 4)) = true))) (.and (((((a1 : Int) == 2) || ((a1 : Int) == 4)) = true → ((((a1 : Int) == 2) || ((a1 : Int) == 4)) = true))) (.and ((((a1 : Int) == 2) || ((a1 : Int) == 4)) = true → (((a1 : Int) == 2) || ((a1 : Int) == 4)) = true) (.br ((((a1 : Int) == 2) || ((a1 : Int) == 4)) && (((a0.Kept.getD (Int.toNat (IntKind.i64.wrap (((a0.Kept.length : Nat) : Int) - 1))) (⟨false, false⟩ : AFr)).Irq) != ((a1 : Int) == 4))) (.leaf 5) (.and (((!((a1 : Int) == 1)) = true → ((!((a1 : Int) == 1)) = true))) (.and (((a1 : Int) == 1) = false → (!((a1 : Int) == 1)) = true) (.br (((a1 : Int) == 1) || ((a1 : Int) == 3)) (.leaf 6) (.and (0 ≤ ((IntKind.i64.wrap (((a0.Kept.length : Nat) : Int) - 1)) : Int) ∧ (IntKind.i64.wrap (((a0.Kept.length : Nat) : Int) - 1)) < ((a0.Kept.length : Nat) : Int)) (.and (0 ≤ ((IntKind.i64.wrap (((a0.Kept.length : Nat) : Int) - 1)) : Int)) (.and ((Int.toNat (IntKind.i64.wrap (((a0.Kept.length : Nat) : Int) - 1))) ≤ a0.Kept.length) (.leaf 7))))))))))))))))))))))))))))))))))))))) ?_
 refine br_ h ?_ ?_ <;> clear h <;> intro c3 h
 ·refine sk_leaf ?_
  obtain rfl := some_ h
  exact end_ok [(0, none)] Tryz.results70 (ps := (Y99 1)) (by kernel_rfl) Y99p (fun _ => ⟨rfl, by simp only [List.mem_cons, List.not_mem_nil, or_false, forall_eq_or_imp, forall_eq]; exact Elem.cR_bald E188_raw _⟩)
 ·refine sk_and (fun h => h) ?_
  refine sk_and ((by decide : ∀ y0 : Bool, ((y0 = false) → ((!y0) = true))) (decide ((a1 : Int) < 1))) ?_
  refine br_ h ?_ ?_ <;> clear h <;> intro c6 h
  ·refine sk_leaf ?_
   obtain rfl := some_ h
   exact end_ok [(0, none)] Tryz.results70 (ps := (Y99 5)) (by kernel_rfl) Y99p (fun _ => ⟨rfl, by simp only [List.mem_cons, List.not_mem_nil, or_false, forall_eq_or_imp, forall_eq]; exact Elem.cR_bald E188_raw _⟩)
  ·refine sk_and (fun h => h) ?_
   refine sk_and ((by decide : ∀ y0 : Bool, ((y0 = false) → ((!y0) = true))) ((a1 : Int) == 1)) ?_
   refine sk_and (fun h => h) ?_
   refine sk_and (fun h => h) ?_
   refine br_ h ?_ ?_ <;> clear h <;> intro c11 h
   ·refine sk_leaf ?_
    obtain rfl := some_ h
    exact end_ok [(0, none)] Tryz.results70 (ps := (Y99 4)) (by kernel_rfl) Y99p (fun _ => ⟨rfl, by simp only [List.mem_cons, List.not_mem_nil, or_false, forall_eq_or_imp, forall_eq]; exact Elem.cR_bald E188_raw _⟩)
   ·refine sk_and (fun h => h) ?_
    refine sk_and (fun h => h) ?_
    refine sk_and (fun h => h) ?_
    refine br_ h ?_ ?_ <;> clear h <;> intro c15 h
    ·refine sk_leaf ?_
     obtain rfl := some_ h
     exact end_ok [(0, none)] Tryz.results70 (ps := (Y99 7)) (by kernel_rfl) Y99p (fun _ => ⟨rfl, by simp only [List.mem_cons, List.not_mem_nil, or_false, forall_eq_or_imp, forall_eq]; exact Elem.cR_bald E188_raw _⟩)
    ·refine sk_and (fun h => h) ?_
     refine sk_and ((by decide : ∀ y0 : Bool, ((y0 = false) → ((!y0) = true))) ((a1 : Int) == 2)) ?_
     refine sk_and (fun h => h) ?_
     refine sk_and (fun h => h) ?_
     refine br_ h ?_ ?_ <;> clear h <;> intro c20 h
     ·refine sk_leaf ?_
      obtain rfl := some_ h
      exact end_ok [(0, none)] Tryz.results70 (ps := (Y99 3)) (by kernel_rfl) Y99p (fun _ => ⟨rfl, by simp only [List.mem_cons, List.not_mem_nil, or_false, forall_eq_or_imp, forall_eq]; exact Elem.cR_bald E188_raw _⟩)
     ·refine sk_and (fun h => h) ?_
      refine sk_and ((by decide : ∀ y0 : Bool, ((y0 = false) → ((!y0) = true))) ((a1 : Int) == 2)) ?_
      refine sk_and (fun h => h) ?_
      refine sk_and (fun h => h) ?_
      refine sk_and (fun h => h) ?_
      refine sk_and (fun h => h) ?_
      refine gd_ h ?_; clear h; intro g27 h
      refine sk_and (fun h => h) ?_
      refine sk_and (fun h => h) ?_
      refine sk_and (fun h => h) ?_
      refine sk_and (fun h => h) ?_
      refine sk_and (fun h => h) ?_
      refine sk_and (fun h => h) ?_
      refine br_ h ?_ ?_ <;> clear h <;> intro c34 h
      ·refine sk_leaf ?_
       obtain rfl := some_ h
       exact end_ok [(0, none)] Tryz.results70 (ps := (Y99 8)) (by kernel_rfl) Y99p (fun _ => ⟨rfl, by simp only [List.mem_cons, List.not_mem_nil, or_false, forall_eq_or_imp, forall_eq]; exact Elem.cR_bald E188_raw _⟩)
      ·refine sk_and (fun h => h) ?_
       refine sk_and ((by decide : ∀ y0 : Bool, ((y0 = false) → ((!y0) = true))) ((a1 : Int) == 1)) ?_
       refine br_ h ?_ ?_ <;> clear h <;> intro c37 h
       ·refine sk_leaf ?_
        obtain ⟨r38, e39, h⟩ := bd_ h
        refine call_ok (d := some 84) (fn := 93) (ax := [.pv ((E188.ro a0.Kept))]) (ps := [a0.Kept.length = a0.Kept.length, ∀ i, i < a0.Kept.length → ∀ j, j < 2 → E188.cf (a0.Kept.getD i E188.z) j = E188.cf (a0.Kept.getD i E188.z) j]) (hb' := [.row 188 2 (E188.cR r38)]) (by kernel_rfl) (slices_Clone_api_Frame_ok _ _ e39 (al := true)) (by kernel_rfl) ⟨rfl, fun _ _ _ _ => rfl, trivial⟩ (fun _ => (by kernel_rfl)) (by simp) (by simp only [List.map_cons, List.map_nil, Elem.row_up, up_map] <;> rfl) (by kernel_rfl) ?_
        refine s0 ?_
        refine bs_ok (d := 90) (e := 188) (s := 2) (n := 1) (cs := [.pv (.raw (.bool a0.On)), .pv (.raw (.bool ((a1 : Int) == 3)))]) (cs' := E188.cR [(⟨a0.On, ((a1 : Int) == 3)⟩ : AFr)]) (by kernel_rfl) rfl (by kernel_rfl) ?_
        refine s0 ?_
        obtain ⟨g40, h⟩ := if_ h
        refine app_ok (d := 91) (e := 188) (s := 2) (b := 2) (x := .row 21760 2 0 r38.length) (y := .row 22144 2 0 1) E188 (xs := r38) (ys := [(⟨a0.On, ((a1 : Int) == 3)⟩ : AFr)]) (by kernel_rfl) rfl (.row 21760 r38 r38.length rfl (by kernel_rfl)) (.all 22144 188 [(⟨a0.On, ((a1 : Int) == 3)⟩ : AFr)] 1 rfl (by kernel_rfl)) g40 (by kernel_rfl) ?_
        refine s0 ?_
        obtain rfl := some_ h
        exact end_ok [(0, some 22208)] Tryz.results70 (ps := [false = false, 0 = 0, ((r38 ++ [(⟨a0.On, ((a1 : Int) == 3)⟩ : AFr)]).length) = (r38 ++ [(⟨a0.On, ((a1 : Int) == 3)⟩ : AFr)]).length, (0 : Int) = 0, E188.cR (r38 ++ [(⟨a0.On, ((a1 : Int) == 3)⟩ : AFr)]) = E188.cR (r38 ++ [(⟨a0.On, ((a1 : Int) == 3)⟩ : AFr)]), AllPv (E188.cR (r38 ++ [(⟨a0.On, ((a1 : Int) == 3)⟩ : AFr)]))]) (by kernel_rfl) ⟨rfl, rfl, rfl, rfl, rfl, (Elem.cR_pv _ _), trivial⟩ (fun _ => ⟨rfl, by simp only [List.mem_cons, List.not_mem_nil, or_false, forall_eq_or_imp, forall_eq]; exact Elem.cR_bald E188_raw _⟩)
       ·refine gd_ h ?_; clear h; intro g41 h
        refine gd_ h ?_; clear h; intro g42 h
        refine gd_ h ?_; clear h; intro g43 h
        refine sk_leaf ?_
        obtain ⟨r44, e45, h⟩ := bd_ h
        refine call_ok (d := some 105) (fn := 93) (ax := [.pv (.ro E188.s ((Int.toNat (IntKind.i64.wrap (((a0.Kept.length : Nat) : Int) - 1))) - 0) (fun i j => E188.cf (a0.Kept.getD (0 + i) E188.z) j))]) (ps := [((Int.toNat (IntKind.i64.wrap (((a0.Kept.length : Nat) : Int) - 1))) - 0) = ((a0.Kept.drop 0).take ((Int.toNat (IntKind.i64.wrap (((a0.Kept.length : Nat) : Int) - 1))) - 0)).length, ∀ i, i < ((Int.toNat (IntKind.i64.wrap (((a0.Kept.length : Nat) : Int) - 1))) - 0) → ∀ j, j < 2 → E188.cf (a0.Kept.getD (0 + i) E188.z) j = E188.cf (((a0.Kept.drop 0).take ((Int.toNat (IntKind.i64.wrap (((a0.Kept.length : Nat) : Int) - 1))) - 0)).getD i E188.z) j]) (hb' := [.row 188 2 (E188.cR r44)]) (by kernel_rfl) (slices_Clone_api_Frame_ok _ _ e45 (al := true)) (by kernel_rfl) ⟨(Elem.sub_len _ (by omega)), (Elem.sub_cf _ _ (by omega)), trivial⟩ (fun _ => (by kernel_rfl)) (by simp) (by simp only [List.map_cons, List.map_nil, Elem.row_up, up_map] <;> rfl) (by kernel_rfl) ?_
        refine s0 ?_
        obtain rfl := some_ h
        exact end_ok [(0, some 23104)] Tryz.results70 (ps := [((a0.Kept.getD (Int.toNat (IntKind.i64.wrap (((a0.Kept.length : Nat) : Int) - 1))) (⟨false, false⟩ : AFr)).On) = ((a0.Kept.getD (Int.toNat (IntKind.i64.wrap (((a0.Kept.length : Nat) : Int) - 1))) (⟨false, false⟩ : AFr)).On), 0 = 0, r44.length = r44.length, (0 : Int) = 0, E188.cR r44 = E188.cR r44, AllPv (E188.cR r44)]) (by kernel_rfl) ⟨rfl, rfl, rfl, rfl, rfl, (Elem.cR_pv _ _), trivial⟩ (fun _ => ⟨rfl, by simp only [List.mem_cons, List.not_mem_nil, or_false, forall_eq_or_imp, forall_eq]; exact Elem.cR_bald E188_raw _⟩)
def Y96 (x0 : KWh) (x1 : Nat) : List AV := [.pv ((E5.ro x0.uart_.In)), .pv ((E5.ro x0.uart_.Out)), .pv (.raw (.int .i64 x0.uart_.Lost)), .pv (.raw (.bool x0.uart_.Asks)), .row x1 7 0 x0.pins_.length]
def Y93 (x0 : Kernel_core) : List AV := [.pv (.raw (.int .u64 ((x0.local_.Asked) 0))), .pv (.raw (.int .u64 ((x0.local_.Asked) 1))), .pv (.raw (.int .u64 ((x0.local_.Asked) 2))), .pv (.raw (.int .u64 ((x0.local_.Asked) 3))), .pv (.raw (.int .u64 ((x0.local_.Served) 0))), .pv (.raw (.int .u64 ((x0.local_.Served) 1))), .pv (.raw (.int .u64 ((x0.local_.Served) 2))), .pv (.raw (.int .u64 ((x0.local_.Served) 3))), .pv (.raw (.int .i64 (x0.local_.Class))), .pv (.raw (.bool (x0.nest_.On))), .pv ((E188.ro (x0.nest_.Kept))), .pv (.raw (.bool (x0.serving_)))]
def Y29 (x0 : KWh) (x1 : Int) (x2 : Api_Core) : Nat → Kernel_core := (upd x0.cores_ (Int.toNat x1) (⟨(x0.cores_ (Int.toNat x1)).local_, x2, (x0.cores_ (Int.toNat x1)).serving_⟩ : Kernel_core))
def Y20 (x0 : KWh) : List AV := [.pv ((E5.ro x0.fetched_)), .pv ((E30.ro x0.tty_.Lines)), .pv ((E5.ro x0.tty_.Edit)), .pv (.raw (.int .i64 x0.taken_))]
def Y53 (x0 : KWh) (x1 : Nat) (x2 : Api_Core) : Nat → Kernel_core := (upd x0.cores_ x1 (⟨(x0.cores_ x1).local_, x2, (x0.cores_ x1).serving_⟩ : Kernel_core))
def Y101 (x0 : Int) (x1 : Api_Uart) (x2 : List Api_Pin) : List Prop := [(x0 : Int) = x0, x1.In.length = x1.In.length, ∀ i, i < x1.In.length → ∀ j, j < 1 → E5.cf (x1.In.getD i E5.z) j = E5.cf (x1.In.getD i E5.z) j, x1.Out.length = x1.Out.length, ∀ i, i < x1.Out.length → ∀ j, j < 1 → E5.cf (x1.Out.getD i E5.z) j = E5.cf (x1.Out.getD i E5.z) j, (x1.Lost : Int) = x1.Lost, x1.Asks = x1.Asks, 0 = 0, x2.length = x2.length]
theorem Y101p {x0 : Int} {x1 : Api_Uart} {x2 : List Api_Pin} : allP (Y101 x0 x1 x2) := ⟨rfl, rfl, fun _ _ _ _ => rfl, rfl, fun _ _ _ _ => rfl, rfl, rfl, rfl, rfl, trivial⟩
def Y92 (x0 : Kernel_core) : List Prop := [(((x0.local_.Asked) 0) : Int) = ((x0.local_.Asked) 0), (((x0.local_.Asked) 1) : Int) = ((x0.local_.Asked) 1), (((x0.local_.Asked) 2) : Int) = ((x0.local_.Asked) 2), (((x0.local_.Asked) 3) : Int) = ((x0.local_.Asked) 3), (((x0.local_.Served) 0) : Int) = ((x0.local_.Served) 0), (((x0.local_.Served) 1) : Int) = ((x0.local_.Served) 1), (((x0.local_.Served) 2) : Int) = ((x0.local_.Served) 2), (((x0.local_.Served) 3) : Int) = ((x0.local_.Served) 3), (x0.local_.Class : Int) = (x0.local_.Class), (x0.nest_.On) = (x0.nest_.On), (x0.nest_.Kept).length = (x0.nest_.Kept).length, ∀ i, i < (x0.nest_.Kept).length → ∀ j, j < 2 → E188.cf ((x0.nest_.Kept).getD i E188.z) j = E188.cf ((x0.nest_.Kept).getD i E188.z) j, (x0.serving_) = (x0.serving_)]
theorem Y92p {x0 : Kernel_core} : allP (Y92 x0) := ⟨rfl, rfl, rfl, rfl, rfl, rfl, rfl, rfl, rfl, rfl, rfl, fun _ _ _ _ => rfl, rfl, trivial⟩
def Y14 (x0 : KWh) : List Prop := [x0.fetched_.length = x0.fetched_.length, ∀ i, i < x0.fetched_.length → ∀ j, j < 1 → E5.cf (x0.fetched_.getD i E5.z) j = E5.cf (x0.fetched_.getD i E5.z) j, x0.tty_.Lines.length = x0.tty_.Lines.length, ∀ i, i < x0.tty_.Lines.length → ∀ j, j < 1 → E30.cf (x0.tty_.Lines.getD i E30.z) j = E30.cf (x0.tty_.Lines.getD i E30.z) j, x0.tty_.Edit.length = x0.tty_.Edit.length, ∀ i, i < x0.tty_.Edit.length → ∀ j, j < 1 → E5.cf (x0.tty_.Edit.getD i E5.z) j = E5.cf (x0.tty_.Edit.getD i E5.z) j, (x0.taken_ : Int) = x0.taken_, E52.cR x0.pins_ = E52.cR x0.pins_, AllPv (E52.cR x0.pins_)]
theorem Y14p {x0 : KWh} : allP (Y14 x0) := ⟨rfl, fun _ _ _ _ => rfl, rfl, fun _ _ _ _ => rfl, rfl, fun _ _ _ _ => rfl, rfl, rfl, (Elem.cR_pv _ _), trivial⟩
theorem kcd_ok (a0 : KWh) (k_a0 : Int) (a1 : Int) (r : Int × KWh) (h : kcd a0 k_a0 a1 = some r) : MCalls Tryz.prog 43 [.pix 0 (5 + (Int.toNat k_a0) * 12), .pv (.raw (.int .i64 a1))] [.box (Y12 a0 1), .row 52 7 (E52.cR a0.pins_)] 1 true (.pv (.raw (.int .i64 r.1))) [.box (Y12 r.2 1), .row 52 7 (E52.cR r.2.pins_)] := by
 unfold kcd at h
 refine fnM_ok tabOk (fz := []) Tryz.func43 (by kernel_rfl) (by kernel_rfl) Tryz.ntmps43 (by simp) (by first | (simp; done) | exact Nat.le_of_ble_eq_true rfl) ?_
 obtain ⟨g1, h⟩ := if_ h
 refine s0 ?_
 refine ldca_ok (d := 11) (id := 0) (off := ((5 + (Int.toNat k_a0) * 12) + 9)) (n := 2) (cs := (Y12 a0 1)) [.pv (.raw (.bool ((a0.cores_ (Int.toNat k_a0)).nest_.On))), .pv ((E188.ro ((a0.cores_ (Int.toNat k_a0)).nest_.Kept)))] (by kernel_rfl) (by kernel_rfl) (by simp only [Y0, Y12, Y43, Y71, List.length_append, rA_length, fl_length, List.length_cons, List.length_nil]; first | omega | (simp at * <;> omega) | (simp_all <;> omega)) (allLt (p := fun kk0 => (((Y12 a0 1) : List AV).drop (((5 + kk0 * 12) + 9))).take 2 = [.pv (.raw (.bool ((a0.cores_ kk0).nest_.On))), .pv ((E188.ro ((a0.cores_ kk0).nest_.Kept)))]) (m := 2) ⟨⟨trivial, rfl⟩, rfl⟩ (Int.toNat k_a0) (by first | omega | (simp at * <;> omega) | (simp_all <;> omega))) ?_
 refine s0 ?_
 obtain ⟨r2, e3, h⟩ := bd_ h
 refine callF_ok (d := some 13) (fn := 70) (ax := [.agg [.pv (.raw (.bool ((a0.cores_ (Int.toNat k_a0)).nest_.On))), .pv ((E188.ro ((a0.cores_ (Int.toNat k_a0)).nest_.Kept)))], .pv (.raw (.int .i64 a1))]) (args := [.agg [.pv (.raw (.bool (((a0.cores_ (Int.toNat k_a0)).nest_).On))), .pv ((E188.ro (((a0.cores_ (Int.toNat k_a0)).nest_).Kept)))], .pv (.raw (.int .i64 a1))]) (ps := [((a0.cores_ (Int.toNat k_a0)).nest_.On) = (((a0.cores_ (Int.toNat k_a0)).nest_).On), ((a0.cores_ (Int.toNat k_a0)).nest_.Kept).length = (((a0.cores_ (Int.toNat k_a0)).nest_).Kept).length, ∀ i, i < ((a0.cores_ (Int.toNat k_a0)).nest_.Kept).length → ∀ j, j < 2 → E188.cf (((a0.cores_ (Int.toNat k_a0)).nest_.Kept).getD i E188.z) j = E188.cf ((((a0.cores_ (Int.toNat k_a0)).nest_).Kept).getD i E188.z) j, (a1 : Int) = a1]) (hb' := [.row 188 2 (E188.cR r2.1.Kept)]) (ps2 := [r2.1.On = r2.1.On, r2.1.Kept.length = r2.1.Kept.length, rowQ (E188.cR r2.1.Kept) 2 0 r2.1.Kept.length (fun i j => E188.cf (r2.1.Kept.getD i E188.z) j), (r2.2 : Int) = r2.2]) (.tup [.agg (Y115 r2.1), .pv (.raw (.int .i64 r2.2))]) (by kernel_rfl) (nest_Step_ok _ _ _ e3 (al := true)) (by kernel_rfl) ⟨(by first | rfl | (simp; done) | omega | (simp <;> omega)), (by first | rfl | simp_all), (by intros; first | rfl | simp_all), rfl, trivial⟩ (fun _ => (by kernel_rfl)) (by simp) (by simp only [Y115, List.map_cons, List.map_nil, Elem.row_up, up_map] <;> rfl) (by kernel_rfl) (by kernel_rfl) ⟨rfl, (by first | rfl | exact Elem.sub_len _ (by omega) | omega | simp | (simp <;> omega)), E188.rowQ_all r2.1.Kept rfl, rfl, trivial⟩ ?_
 refine sg (S := .br ((r2.2 : Int) == 0) (.leaf 0) (.leaf 1)) ?_
 refine br_ h ?_ ?_ <;> clear h <;> intro c4 h
 ·refine sk_leaf ?_
  refine stc_ok (id := 0) (off := ((5 + (Int.toNat k_a0) * 12) + 9)) (vs := (Y115 r2.1)) (cs := (Y12 a0 1)) (((Y96 a0 1) ++ (Y93 ((Y29 a0 k_a0 r2.1) 0))) ++ ((Y0 ((Y29 a0 k_a0 r2.1) 1)) ++ (Y20 a0))) (by kernel_rfl) (by kernel_rfl) (by simp only [Y0, Y115, Y12, Y20, Y43, Y71, Y93, Y96, List.length_append, rA_length, fl_length, List.length_cons, List.length_nil]; first | omega | (simp at * <;> omega) | (simp_all <;> omega)) (allLt (p := fun kk0 => setCells (Y12 a0 1) (((5 + kk0 * 12) + 9)) (Y115 r2.1) = ((Y96 a0 1) ++ ((Y93 ((Y53 a0 kk0 r2.1) 0)) ++ ((Y93 ((Y53 a0 kk0 r2.1) 1)) ++ [.pv ((E5.ro a0.fetched_)), .pv ((E30.ro a0.tty_.Lines)), .pv ((E5.ro a0.tty_.Edit)), .pv (.raw (.int .i64 a0.taken_))])))) (m := 2) ⟨⟨trivial, rfl⟩, rfl⟩ (Int.toNat k_a0) (by first | omega | (simp at * <;> omega) | (simp_all <;> omega))) ?_
  refine s0 ?_
  obtain rfl := some_ h
  exact endM_ok [(0, some 0), (1, some 1)] Tryz.results43 (ps := (((Y101 r2.2 a0.uart_ a0.pins_) ++ (Y92 ((Y29 a0 k_a0 r2.1) 0))) ++ ((Y1 ((Y29 a0 k_a0 r2.1) 1)) ++ (Y14 a0)))) (by kernel_rfl) (allP_append.2 ⟨(allP_append.2 ⟨Y101p, Y92p⟩), (allP_append.2 ⟨Y1p, Y14p⟩)⟩) (fun hx => by cases hx)
 ·refine sk_leaf ?_
  obtain rfl := some_ h
  exact endM_ok [(0, some 0), (1, some 1)] Tryz.results43 (ps := ((Y101 r2.2 a0.uart_ a0.pins_) ++ (Y13 a0))) (by kernel_rfl) (allP_append.2 ⟨Y101p, Y13p⟩) (fun hx => by cases hx)
theorem tty_Right_1_ok (a0 : (List Int)) (r : Bool) (h : tty_Right_1 a0 = some r) {al : Bool} : PCalls Tryz.prog 91 [.pv ((E5.ro a0))] al (.pv (.raw (.bool r))) [] := by
 unfold tty_Right_1 at h
 refine fn_ok tabOk Tryz.func91 (by kernel_rfl) (by kernel_rfl) Tryz.ntmps91 (by simp) ?_
 refine s0 ?_
 obtain rfl := some_ h
 exact end_ok [] Tryz.results91 (ps := [(decide ((((a0.length : Nat) : Int) : Int) > 65)) = (decide ((((a0.length : Nat) : Int) : Int) > 65))]) (by kernel_rfl) ⟨rfl, trivial⟩ (fun _ => ⟨rfl, by simp⟩)
theorem slices_IndexFunc_slbyte_tty_Right_1_ok (a0 : (List (List Int))) (r : Int) (h : slices_IndexFunc_slbyte_tty_Right_1 a0 = some r) {al : Bool} : PCalls Tryz.prog 111 [.pv ((E30.ro a0)), .fn 91 []] al (.pv (.raw (.int .i64 r))) [] := by
 unfold slices_IndexFunc_slbyte_tty_Right_1 at h
 refine fn_ok tabOk Tryz.func111 (by kernel_rfl) (by kernel_rfl) Tryz.ntmps111 (by simp) ?_
 refine s0 ?_
 refine len_ro (by kernel_rfl) 0 (s := 1) (n := a0.length) (c := fun i j => E30.cf (a0.getD i E30.z) j) (by kernel_rfl) ?_; intro hl1_0
 replace h : (fun (x : Nat × Nat) => slices_IndexFunc_slbyte_tty_Right_1_l1 a0 x.1 x.2 = some r) (FUEL, 0) := h
 refine loop_ok (by kernel_rfl) (X := Nat × Nat) (fun x => slices_IndexFunc_slbyte_tty_Right_1_l1 a0 x.1 x.2 = some r) (fun x => x.1) (fun x => mk 19 [(0, .pv ((E30.ro a0))), (1, .fn 91 []), (4, .pv (.raw (.int .i64 0))), (7, .pv (.raw (.int .i64 ((a0.length : Nat) : Int)))), (8, .pv (.raw (.int .i64 ((x.2 : Nat) : Int))))] []) (FUEL, 0) h ?_ ?_
 ·exact sub_ok (ρ := []) (l := [a0.length = a0.length, ∀ i, i < a0.length → ∀ j, j < 1 → E30.cf (a0.getD i E30.z) j = E30.cf (a0.getD i E30.z) j, (0 : Int) = 0, (((a0.length : Nat) : Int) : Int) = ((a0.length : Nat) : Int), (0 : Int) = ((0 : Nat) : Int)]) (by kernel_rfl) ⟨rfl, fun _ _ _ _ => rfl, rfl, rfl, (by first | rfl | simp), trivial⟩
 ·clear h; rintro ⟨n1, k1⟩ h p1 hp1
  obtain _ | n1 := n1
  ·cases (show (none : Option (Int)) = some r from h)
  have h : slices_IndexFunc_slbyte_tty_Right_1_l1 a0 (n1 + 1) k1 = some r := h
  unfold slices_IndexFunc_slbyte_tty_Right_1_l1 at h
  refine sg (S := .br (decide ((((k1 : Nat) : Int) : Int) < ((a0.length : Nat) : Int))) (.and (0 ≤ (((k1 : Nat) : Int) : Int) ∧ ((k1 : Nat) : Int) < ((a0.length : Nat) : Int)) (.leaf 0)) (.leaf 1)) ?_
  refine br_ h ?_ ?_ <;> clear h <;> intro c2 h
  ·refine sk_and ⟨Int.natCast_nonneg _, of_decide_eq_true c2⟩ ?_
   refine sk_leaf ?_
   obtain ⟨r4, e5, h⟩ := bd_ h
   refine call_ok (d := some 16) (fn := 91) (ax := [.pv ((E5.ro (a0.getD k1 [])))]) (ps := [(a0.getD k1 []).length = (a0.getD k1 []).length, ∀ i, i < (a0.getD k1 []).length → ∀ j, j < 1 → E5.cf ((a0.getD k1 []).getD i E5.z) j = E5.cf ((a0.getD k1 []).getD i E5.z) j]) (hb' := []) (by kernel_rfl) (tty_Right_1_ok _ _ e5 (al := true)) (by kernel_rfl) ⟨rfl, fun _ _ _ _ => rfl, trivial⟩ (fun _ => (by kernel_rfl)) (by simp) rfl (by kernel_rfl) ?_
   refine sg (S := .br r4 (.leaf 0) (.leaf 1)) ?_
   refine br_ h ?_ ?_ <;> clear h <;> intro c6 h
   ·refine sk_leaf ?_
    obtain rfl := some_ h
    exact end_ok [] Tryz.results111 (ps := [(((k1 : Nat) : Int) : Int) = ((k1 : Nat) : Int)]) (by kernel_rfl) ⟨rfl, trivial⟩ (fun _ => ⟨rfl, by simp⟩)
   ·refine sk_leaf ?_
    refine back_ok (p := p1) (by kernel_rfl) (hp1 (n1, k1 + 1) _ h (Nat.lt_succ_self n1) ?_)
    exact sub_ok (ρ := []) (l := [a0.length = a0.length, ∀ i, i < a0.length → ∀ j, j < 1 → E30.cf (a0.getD i E30.z) j = E30.cf (a0.getD i E30.z) j, (0 : Int) = 0, (((a0.length : Nat) : Int) : Int) = ((a0.length : Nat) : Int), ((IntKind.i64.wrap (((k1 : Nat) : Int) + 1)) : Int) = (((k1 + 1) : Nat) : Int)]) (by kernel_rfl) ⟨rfl, fun _ _ _ _ => rfl, rfl, rfl, (wrap_nat (Int.ofNat_lt.1 (of_decide_eq_true c2)) (by omega)), trivial⟩
  ·refine sk_leaf ?_
   obtain rfl := some_ h
   exact end_ok [] Tryz.results111 (ps := [((-1) : Int) = (-1)]) (by kernel_rfl) ⟨rfl, trivial⟩ (fun _ => ⟨rfl, by simp⟩)
theorem slices_ContainsFunc_slbyte_tty_Right_1_ok (a0 : (List (List Int))) (r : Bool) (h : slices_ContainsFunc_slbyte_tty_Right_1 a0 = some r) {al : Bool} : PCalls Tryz.prog 90 [.pv ((E30.ro a0)), .fn 91 []] al (.pv (.raw (.bool r))) [] := by
 unfold slices_ContainsFunc_slbyte_tty_Right_1 at h
 refine fn_ok tabOk Tryz.func90 (by kernel_rfl) (by kernel_rfl) Tryz.ntmps90 (by simp) ?_
 refine s0 ?_
 obtain ⟨r1, e2, h⟩ := bd_ h
 refine call_ok (d := some 7) (fn := 111) (ax := [.pv ((E30.ro a0)), .fn 91 []]) (ps := [a0.length = a0.length, ∀ i, i < a0.length → ∀ j, j < 1 → E30.cf (a0.getD i E30.z) j = E30.cf (a0.getD i E30.z) j]) (hb' := []) (by kernel_rfl) (slices_IndexFunc_slbyte_tty_Right_1_ok _ _ e2 (al := false)) (by kernel_rfl) ⟨rfl, fun _ _ _ _ => rfl, trivial⟩ (fun hx => by cases hx) (by simp) rfl (by kernel_rfl) ?_
 refine s0 ?_
 obtain rfl := some_ h
 exact end_ok [] Tryz.results90 (ps := [(decide ((r1 : Int) ≥ 0)) = (decide ((r1 : Int) ≥ 0))]) (by kernel_rfl) ⟨rfl, trivial⟩ (fun _ => ⟨rfl, by simp⟩)
def Y84 (x0 : Api_Tty) : List AV := [.pv ((E30.ro x0.Lines)), .pv ((E5.ro x0.Edit))]
def Y77 (x0 : Api_Tty) : Bool := (decide ((((x0.Edit.length : Nat) : Int) : Int) ≤ 64))
def Y111 (x0 : Bool) (x1 : Api_Tty) : Bool := (x0 && (decide ((((x1.Lines.length : Nat) : Int) : Int) ≤ 400)))
theorem tty_Right_ok (a0 : Api_Tty) (r : Bool) (h : tty_Right a0 = some r) {al : Bool} : PCalls Tryz.prog 67 [.agg (Y84 a0)] al (.pv (.raw (.bool r))) [] := by
 unfold tty_Right at h
 refine fn_ok tabOk Tryz.func67 (by kernel_rfl) (by kernel_rfl) Tryz.ntmps67 (by simp) ?_
 refine sg (S := .and (((Y77 a0) = true → ((Y77 a0) = true))) (.and (((Y77 a0) = true → ((Y77 a0) = true))) (.and (((Y77 a0) = true → ((Y77 a0) = true))) (.and ((Y77 a0) = true → (Y77 a0) = true) (.and (((Y111 (Y77 a0) a0) = true → ((Y111 (Y77 a0) a0) = true))) (.leaf 0)))))) ?_
 refine sk_and (fun h => h) ?_
 refine sk_and (fun h => h) ?_
 refine sk_and (fun h => h) ?_
 refine sk_and (fun h => h) ?_
 refine sk_and (fun h => h) ?_
 refine sk_leaf ?_
 obtain ⟨r6, e7, h⟩ := bd_ h
 refine callG_ok (d := some 16) (fn := 90) (ax := [.pv ((E30.ro a0.Lines)), .fn 91 []]) (args := [.pv ((E30.ro a0.Lines)), .fn 91 []]) (g := ((decide ((((a0.Edit.length : Nat) : Int) : Int) ≤ 64)) && (decide ((((a0.Lines.length : Nat) : Int) : Int) ≤ 400)))) (ws := [((decide ((((a0.Edit.length : Nat) : Int) : Int) ≤ 64)) && (decide ((((a0.Lines.length : Nat) : Int) : Int) ≤ 400))) = true]) (ps := [a0.Lines.length = a0.Lines.length, ∀ i, i < a0.Lines.length → ∀ j, j < 1 → E30.cf (a0.Lines.getD i E30.z) j = E30.cf (a0.Lines.getD i E30.z) j]) (by kernel_rfl) (fun hg => ⟨((by decide : ∀ y0 : Bool, ((y0 = true) → (y0 = true))) ((decide ((((a0.Edit.length : Nat) : Int) : Int) ≤ 64)) && (decide ((((a0.Lines.length : Nat) : Int) : Int) ≤ 400)))) hg, trivial⟩) (fun hg => slices_ContainsFunc_slbyte_tty_Right_1_ok _ _ (by rw [hg] at e7; exact e7) (al := false)) (by kernel_rfl) (fun hg => ⟨rfl, fun _ _ _ _ => rfl, trivial⟩) (fun hx => by cases hx) ?_
 refine sg (S := .and (((Y111 (Y77 a0) a0) = true → ((Y111 (Y77 a0) a0) = true))) (.and ((Y111 (Y77 a0) a0) = true → (Y111 (Y77 a0) a0) = true) (.leaf 0))) ?_
 refine sk_and (fun h => h) ?_
 refine sk_and (fun h => h) ?_
 refine sk_leaf ?_
 obtain rfl := some_ h
 exact end_ok [] Tryz.results67 (ps := [(((decide ((((a0.Edit.length : Nat) : Int) : Int) ≤ 64)) && (decide ((((a0.Lines.length : Nat) : Int) : Int) ≤ 400))) && (!r6)) = (((decide ((((a0.Edit.length : Nat) : Int) : Int) ≤ 64)) && (decide ((((a0.Lines.length : Nat) : Int) : Int) ≤ 400))) && (!r6))]) (by kernel_rfl) ⟨rfl, trivial⟩ (fun _ => ⟨rfl, by simp⟩)
set_option maxRecDepth 100000 in
theorem slices_Clone_slbyte_ok (a0 r : List (List Int)) (h : slices_Clone_slbyte a0 = some r) : PCalls Tryz.prog 110 [.pv (E30.ro a0)] true (.row 0 1 0 r.length) [.row 30 1 (E30.cR r)] := by
 unfold slices_Clone_slbyte at h
 obtain ⟨g, h⟩ := if_ h
 obtain rfl := some_ h
 refine fn_ok tabOk Tryz.func110 (by kernel_rfl) (by kernel_rfl) Tryz.ntmps110 (by simp) ?_
 refine segs [1] tabOk mixed 4000 (S := .leaf 0) (by kernel_rfl) ?_
 refine sk_leaf ?_
 refine nil_ok (d1 := 3) (d2 := 4) (s := 1) (n := a0.length) (c := fun i j => E30.cf (a0.getD i E30.z) j) tabOk (by kernel_rfl) ?_
 intro b hb
 refine sg (S := .br b (.leaf 0) (.leaf 1)) ?_
 refine sk_br ?_ ?_ <;> intro hc <;> refine sk_leaf ?_
 ·obtain rfl : a0 = [] := List.eq_nil_of_length_eq_zero (hb hc)
  exact end_ok [(0, none)] Tryz.results110 (ps := [0 = 0, 0 = 0, E30.cR [] = []]) (by kernel_rfl) ⟨rfl, rfl, rfl, trivial⟩ (fun hx => by cases hx)
 ·refine bs_ok (d := 5) (e := 30) (s := 1) (n := 0) (cs := []) (cs' := E30.cR []) (by kernel_rfl) rfl (by kernel_rfl) ?_
  refine s0 ?_
  refine app_ok (d := 7) (e := 30) (s := 1) (b := 24) (x := .row 16704 1 0 0) (y := .pv (E30.ro a0)) E30 (xs := []) (ys := a0) (by kernel_rfl) rfl (.row 16704 [] 0 rfl (by kernel_rfl)) (.ro a0) ⟨by simpa using g, by simp; omega⟩ (by kernel_rfl) ?_
  refine s0 ?_
  exact end_ok [(0, some 16832)] Tryz.results110 (ps := [0 = 0, a0.length = a0.length, E30.cR a0 = E30.cR a0, AllPv (E30.cR a0)]) (by kernel_rfl) ⟨rfl, rfl, rfl, Elem.cR_pv _ _, trivial⟩ (fun hx => by cases hx)
theorem tty_told_roro_ok (a0 : Api_Tty) (a1 : (List Int)) (r : Api_Tty) (h : tty_told_roro a0 a1 = some r) : MCalls Tryz.prog 88 [.ptr 0 0, .pv ((E5.ro a1))] [.box (Y84 a0)] 1 true (.tup []) [.box [.row 1 1 0 r.Lines.length, .row 2 1 0 r.Edit.length], .row 30 1 (E30.cR r.Lines), .row 5 1 (E5.cR r.Edit)] := by
 unfold tty_told_roro at h
 refine fnM_ok tabOk (fz := []) Tryz.func88 (by kernel_rfl) (by kernel_rfl) Tryz.ntmps88 (by simp) (by first | (simp; done) | exact Nat.le_of_ble_eq_true rfl) ?_
 refine s0 ?_
 obtain ⟨r1, e2, h⟩ := bd_ h
 refine call_ok (d := some 9) (fn := 110) (ax := [.pv ((E30.ro a0.Lines))]) (ps := [a0.Lines.length = a0.Lines.length, ∀ i, i < a0.Lines.length → ∀ j, j < 1 → E30.cf (a0.Lines.getD i E30.z) j = E30.cf (a0.Lines.getD i E30.z) j]) (hb' := [.row 30 1 (E30.cR r1)]) (by kernel_rfl) (slices_Clone_slbyte_ok _ _ e2) (by kernel_rfl) ⟨rfl, fun _ _ _ _ => rfl, trivial⟩ (fun _ => (by kernel_rfl)) (by simp) (by simp only [List.map_cons, List.map_nil, Elem.row_up, up_map] <;> rfl) (by kernel_rfl) ?_
 refine s0 ?_
 obtain ⟨r3, e4, h⟩ := bd_ h
 refine call_ok (d := some 14) (fn := 22) (ax := [.pv ((E5.ro a0.Edit))]) (ps := (Y60 a0.Edit)) (hb' := [.row 5 1 (E5.cR r3)]) (by kernel_rfl) (slices_Clone_byte_ok _ _ e4 (al := true)) (by kernel_rfl) Y60p (fun _ => (by kernel_rfl)) (by simp) (by simp only [List.map_cons, List.map_nil, Elem.row_up, up_map] <;> rfl) (by kernel_rfl) ?_
 refine s0 ?_
 obtain ⟨g5, h⟩ := if_ h
 refine appF_ok (d := 16) (e := 5) (s := 1) (b := 1) (x := .row 17280 1 0 r3.length) (y := .pv ((E5.ro a1))) E5 (xs := r3) (ys := a1) (by kernel_rfl) rfl (.row 17280 r3 r3.length rfl (by kernel_rfl)) (.ro a1) g5 (by kernel_rfl) ?_
 refine s0 ?_
 refine bs_ok (d := 17) (e := 30) (s := 1) (n := 1) (cs := [.pv ((E5.ro (r3 ++ a1)))]) (cs' := E30.cR [(r3 ++ a1)]) (by kernel_rfl) rfl (by kernel_rfl) ?_
 refine s0 ?_
 obtain ⟨g6, h⟩ := if_ h
 refine app_ok (d := 18) (e := 30) (s := 1) (b := 24) (x := .row 16960 1 0 r1.length) (y := .row 17472 1 0 1) E30 (xs := r1) (ys := [(r3 ++ a1)]) (by kernel_rfl) rfl (.row 16960 r1 r1.length rfl (by kernel_rfl)) (.all 17472 30 [(r3 ++ a1)] 1 rfl (by kernel_rfl)) g6 (by kernel_rfl) ?_
 refine s0 ?_
 obtain rfl := some_ h
 exact endM_ok [(0, some 0), (1, some 17536), (2, none)] Tryz.results88 (ps := [0 = 0, ((r1 ++ [(r3 ++ a1)]).length) = (r1 ++ [(r3 ++ a1)]).length, 0 = 0, ([] : List Int).length = 0, E30.cR (r1 ++ [(r3 ++ a1)]) = E30.cR (r1 ++ [(r3 ++ a1)]), AllPv (E30.cR (r1 ++ [(r3 ++ a1)])), E5.cR [] = []]) (by kernel_rfl) ⟨rfl, rfl, rfl, rfl, rfl, (Elem.cR_pv _ _), rfl, trivial⟩ (fun hx => by cases hx)
set_option maxRecDepth 100000 in
theorem bytes_Clone_ok (a0 r : List Int) (h : bytes_Clone a0 = some r) {al : Bool} : PCalls Tryz.prog 69 [.pv (E5.ro a0)] al (.row 0 1 0 r.length) [.row 5 1 (E5.cR r)] := by
 unfold bytes_Clone at h
 obtain ⟨g, h⟩ := if_ h
 obtain rfl := some_ h
 refine fn_ok tabOk Tryz.func69 (by kernel_rfl) (by kernel_rfl) Tryz.ntmps69 (by simp) ?_
 refine segs [1] tabOk mixed 4000 (S := .leaf 0) (by kernel_rfl) ?_
 refine sk_leaf ?_
 refine nil_ok (d1 := 3) (d2 := 4) (s := 1) (n := a0.length) (c := fun i j => E5.cf (a0.getD i E5.z) j) tabOk (by kernel_rfl) ?_
 intro b hb
 refine sg (S := .br b (.leaf 0) (.leaf 1)) ?_
 refine sk_br ?_ ?_ <;> intro hc <;> refine sk_leaf ?_
 ·obtain rfl : a0 = [] := List.eq_nil_of_length_eq_zero (hb hc)
  exact end_ok [(0, none)] Tryz.results69 (ps := [0 = 0, 0 = 0, E5.cR [] = []]) (by kernel_rfl) ⟨rfl, rfl, rfl, trivial⟩ (fun _ => ⟨rfl, by simp only [List.mem_cons, List.not_mem_nil, or_false, forall_eq]; exact Elem.cR_bald E5_raw _⟩)
 ·refine bs_ok (d := 5) (e := 5) (s := 1) (n := 0) (cs := []) (cs' := E5.cR []) (by kernel_rfl) rfl (by kernel_rfl) ?_
  refine s0 ?_
  refine app_ok (d := 7) (e := 5) (s := 1) (b := 1) (x := .row 16704 1 0 0) (y := .pv (E5.ro a0)) E5 (xs := []) (ys := a0) (by kernel_rfl) rfl (.row 16704 [] 0 rfl (by kernel_rfl)) (.ro a0) ⟨by simpa using g, by simp; omega⟩ (by kernel_rfl) ?_
  refine s0 ?_
  exact end_ok [(0, some 16832)] Tryz.results69 (ps := [0 = 0, a0.length = a0.length, E5.cR a0 = E5.cR a0, AllPv (E5.cR a0)]) (by kernel_rfl) ⟨rfl, rfl, rfl, Elem.cR_pv _ _, trivial⟩ (fun _ => ⟨rfl, by simp only [List.mem_cons, List.not_mem_nil, or_false, forall_eq]; exact Elem.cR_bald E5_raw _⟩)
def Y105 : List AV := [.pv (.raw (.slice none 0 0)), .pv (.raw (.slice none 0 0))]
theorem tty_own_ok (a0 : Api_Tty) (r : Api_Tty) (h : tty_own a0 = some r) : PCalls Tryz.prog 68 [.agg (Y84 a0)] true (.agg [.row 0 1 0 r.Lines.length, .row 1 1 0 r.Edit.length]) [.row 30 1 (E30.cR r.Lines), .row 5 1 (E5.cR r.Edit)] := by
 unfold tty_own at h
 refine fn_ok tabOk Tryz.func68 (by kernel_rfl) (by kernel_rfl) Tryz.ntmps68 (by simp) ?_
 refine s0 ?_
 obtain ⟨r1, e2, h⟩ := bd_ h
 refine call_ok (d := some 8) (fn := 69) (ax := [.pv ((E5.ro a0.Edit))]) (ps := (Y60 a0.Edit)) (hb' := [.row 5 1 (E5.cR r1)]) (by kernel_rfl) (bytes_Clone_ok _ _ e2 (al := true)) (by kernel_rfl) Y60p (fun _ => (by kernel_rfl)) (by simp) (by simp only [List.map_cons, List.map_nil, Elem.row_up, up_map] <;> rfl) (by kernel_rfl) ?_
 refine s0 ?_
 refine len_ro (by kernel_rfl) 11 (s := 1) (n := a0.Lines.length) (c := fun i j => E30.cf (a0.Lines.getD i E30.z) j) (by kernel_rfl) ?_; intro hl1_0
 refine len_box (by kernel_rfl) 16448 1 (cs := (Y84 a0)) (by kernel_rfl) (s := 1) (n := a0.Edit.length) (c := fun i j => E5.cf (a0.Edit.getD i E5.z) j) rfl ?_; intro hl1_1
 refine len_row (by kernel_rfl) 16896 (e := 5) (s := 1) (n := r1.length) (cs := E5.cR r1) (by kernel_rfl) (Elem.cR_length _ _) ?_; intro hl1_2
 replace h : (fun (x : Nat × Nat × List (List Int)) => tty_own_l1 a0 r1 x.1 x.2.1 x.2.2 = some r) (FUEL, 0, ([] : List (List Int))) := h
 refine loop_ok (by kernel_rfl) (X := Nat × Nat × List (List Int)) (fun x => tty_own_l1 a0 r1 x.1 x.2.1 x.2.2 = some r) (fun x => x.1) (fun x => mk 26 [(2, .ptr 0 0), (3, .ptr 1 0), (11, .pv ((E30.ro a0.Lines))), (12, .pv (.raw (.int .i64 ((a0.Lines.length : Nat) : Int)))), (13, .pv (.raw (.int .i64 ((x.2.1 : Nat) : Int))))] [(0, .box Y105), (1, .box [.row 3 1 0 x.2.2.length, .row 2 1 0 r1.length]), (2, .row 5 1 (E5.cR r1)), (3, .row 30 1 (E30.cR x.2.2))]) (FUEL, 0, ([] : List (List Int))) h ?_ ?_
 ·exact sub_ok (ρ := [(0, some 16512), (1, some 16576), (2, some 16896), (3, none)]) (l := [0 = 0, 0 = 0, a0.Lines.length = a0.Lines.length, ∀ i, i < a0.Lines.length → ∀ j, j < 1 → E30.cf (a0.Lines.getD i E30.z) j = E30.cf (a0.Lines.getD i E30.z) j, (((a0.Lines.length : Nat) : Int) : Int) = ((a0.Lines.length : Nat) : Int), (0 : Int) = ((0 : Nat) : Int), 0 = 0, (([] : List (List Int)).length) = 0, 0 = 0, r1.length = r1.length, E5.cR r1 = E5.cR r1, AllPv (E5.cR r1), E30.cR ([] : List (List Int)) = []]) (by kernel_rfl) ⟨rfl, rfl, rfl, fun _ _ _ _ => rfl, rfl, (by first | rfl | simp), rfl, (by first | rfl | simp), rfl, rfl, rfl, (Elem.cR_pv _ _), rfl, trivial⟩
 ·clear h; rintro ⟨n1, k3, l4⟩ h p1 hp1
  obtain _ | n1 := n1
  ·cases (show (none : Option (Api_Tty)) = some r from h)
  have h : tty_own_l1 a0 r1 (n1 + 1) k3 l4 = some r := h
  unfold tty_own_l1 at h
  refine sg (S := .br (decide ((((k3 : Nat) : Int) : Int) < ((a0.Lines.length : Nat) : Int))) (.and (0 ≤ (((k3 : Nat) : Int) : Int) ∧ ((k3 : Nat) : Int) < ((a0.Lines.length : Nat) : Int)) (.leaf 0)) (.leaf 1)) ?_
  refine br_ h ?_ ?_ <;> clear h <;> intro c5 h
  ·refine sk_and ⟨Int.natCast_nonneg _, of_decide_eq_true c5⟩ ?_
   refine sk_leaf ?_
   obtain ⟨r7, e8, h⟩ := bd_ h
   refine callF_ok (d := some 20) (fn := 69) (ax := [.pv ((E5.ro (a0.Lines.getD k3 [])))]) (args := [.pv ((E5.ro (a0.Lines.getD k3 [])))]) (ps := [(a0.Lines.getD k3 []).length = (a0.Lines.getD k3 []).length, ∀ i, i < (a0.Lines.getD k3 []).length → ∀ j, j < 1 → E5.cf ((a0.Lines.getD k3 []).getD i E5.z) j = E5.cf ((a0.Lines.getD k3 []).getD i E5.z) j]) (hb' := [.row 5 1 (E5.cR r7)]) (ps2 := [r7.length = r7.length, rowQ (E5.cR r7) 1 0 r7.length (fun i j => E5.cf (r7.getD i E5.z) j)]) (.pv ((E5.ro r7))) (by kernel_rfl) (bytes_Clone_ok _ _ e8 (al := true)) (by kernel_rfl) ⟨rfl, fun _ _ _ _ => rfl, trivial⟩ (fun _ => (by kernel_rfl)) (by simp) (by simp only [List.map_cons, List.map_nil, Elem.row_up, up_map] <;> rfl) (by kernel_rfl) (by kernel_rfl) ⟨(by first | rfl | exact Elem.sub_len _ (by omega) | omega | simp | (simp <;> omega)), E5.rowQ_all r7 rfl, trivial⟩ ?_
   refine s0 ?_
   refine bs_ok (d := 21) (e := 30) (s := 1) (n := 1) (cs := [.pv ((E5.ro r7))]) (cs' := E30.cR [r7]) (by kernel_rfl) rfl (by kernel_rfl) ?_
   refine s0 ?_
   obtain ⟨g9, h⟩ := if_ h
   refine app_ok (d := 22) (e := 30) (s := 1) (b := 24) (x := .row 3 1 0 l4.length) (y := .row 17728 1 0 1) E30 (xs := l4) (ys := [r7]) (by kernel_rfl) rfl (.row 3 l4 l4.length rfl (by kernel_rfl)) (.all 17728 30 [r7] 1 rfl (by kernel_rfl)) g9 (by kernel_rfl) ?_
   refine s0 ?_
   refine back_ok (p := p1) (by kernel_rfl) (hp1 (n1, k3 + 1, (l4 ++ [r7])) _ h (Nat.lt_succ_self n1) ?_)
   exact sub_ok (ρ := (rI 0 0 3 ++ ([(3, some 17792)]))) (l := [0 = 0, 0 = 0, a0.Lines.length = a0.Lines.length, ∀ i, i < a0.Lines.length → ∀ j, j < 1 → E30.cf (a0.Lines.getD i E30.z) j = E30.cf (a0.Lines.getD i E30.z) j, (((a0.Lines.length : Nat) : Int) : Int) = ((a0.Lines.length : Nat) : Int), ((IntKind.i64.wrap (((k3 : Nat) : Int) + 1)) : Int) = (((k3 + 1) : Nat) : Int), 0 = 0, ((l4 ++ [r7]).length) = ((l4 ++ [r7]).length), 0 = 0, r1.length = r1.length, E5.cR r1 = E5.cR r1, AllPv (E5.cR r1), E30.cR (l4 ++ [r7]) = E30.cR (l4 ++ [r7]), AllPv (E30.cR (l4 ++ [r7]))]) (by kernel_rfl) ⟨rfl, rfl, rfl, fun _ _ _ _ => rfl, rfl, (wrap_nat (Int.ofNat_lt.1 (of_decide_eq_true c5)) (by omega)), rfl, rfl, rfl, rfl, rfl, (Elem.cR_pv _ _), rfl, (Elem.cR_pv _ _), trivial⟩
  ·refine sk_leaf ?_
   obtain rfl := some_ h
   exact end_ok [(0, some 3), (1, some 2)] Tryz.results68 (ps := [0 = 0, l4.length = l4.length, 0 = 0, r1.length = r1.length, E30.cR l4 = E30.cR l4, AllPv (E30.cR l4), E5.cR r1 = E5.cR r1, AllPv (E5.cR r1)]) (by kernel_rfl) ⟨rfl, rfl, rfl, rfl, rfl, (Elem.cR_pv _ _), rfl, (Elem.cR_pv _ _), trivial⟩ (fun hx => by cases hx)
theorem tty_word_ok (a0 : (List Int)) (r : Int) (h : tty_word a0 = some r) {al : Bool} : PCalls Tryz.prog 89 [.pv ((E5.ro a0))] al (.pv (.raw (.int .i64 r))) [] := by
 unfold tty_word at h
 refine fn_ok tabOk Tryz.func89 (by kernel_rfl) (by kernel_rfl) Tryz.ntmps89 (by simp) ?_
 refine s0 ?_
 refine len_ro (by kernel_rfl) 0 (s := 1) (n := a0.length) (c := fun i j => E5.cf (a0.getD i E5.z) j) (by kernel_rfl) ?_; intro hl1_0
 replace h : (fun (x : Nat × Int) => tty_word_l1 a0 x.1 x.2 = some r) (FUEL, ((a0.length : Nat) : Int)) := h
 refine loop_ok (by kernel_rfl) (X := Nat × Int) (fun x => tty_word_l1 a0 x.1 x.2 = some r) (fun x => x.1) (fun x => mk 31 [(0, .pv ((E5.ro a0))), (2, .pv (.raw (.int .i64 0))), (3, .pv (.raw (.int .i64 x.2)))] []) (FUEL, ((a0.length : Nat) : Int)) h ?_ ?_
 ·exact sub_ok (ρ := []) (l := [a0.length = a0.length, ∀ i, i < a0.length → ∀ j, j < 1 → E5.cf (a0.getD i E5.z) j = E5.cf (a0.getD i E5.z) j, (0 : Int) = 0, (((a0.length : Nat) : Int) : Int) = ((a0.length : Nat) : Int)]) (by kernel_rfl) ⟨rfl, fun _ _ _ _ => rfl, rfl, rfl, trivial⟩
 ·clear h; rintro ⟨n1, x1⟩ h p1 hp1
  obtain _ | n1 := n1
  ·cases (show (none : Option (Int)) = some r from h)
  have h : tty_word_l1 a0 (n1 + 1) x1 = some r := h
  unfold tty_word_l1 at h
  refine sg (S := .and (((decide ((x1 : Int) > 0)) = true → ((decide ((x1 : Int) > 0)) = true))) (.and (((decide ((x1 : Int) > 0)) = true → ((decide ((x1 : Int) > 0)) = true))) (.and (((decide ((x1 : Int) > 0)) = true → ((decide ((x1 : Int) > 0)) = true))) (.and (((decide ((x1 : Int) > 0)) = true → (0 ≤ ((IntKind.i64.wrap (x1 - 1)) : Int) ∧ (IntKind.i64.wrap (x1 - 1)) < ((a0.length : Nat) : Int)))) (.and (((decide ((x1 : Int) > 0)) = true → ((decide ((x1 : Int) > 0)) = true))) (.and (((decide ((x1 : Int) > 0)) = true → ((decide ((x1 : Int) > 0)) = true))) (.and ((decide ((x1 : Int) > 0)) = true → (decide ((x1 : Int) > 0)) = true) (.br ((decide ((x1 : Int) > 0)) && (((a0.getD (Int.toNat (IntKind.i64.wrap (x1 - 1))) 0) : Int) == 32)) (.leaf 0) (.leaf 1))))))))) ?_
  refine sk_and (fun h => h) ?_
  refine sk_and (fun h => h) ?_
  refine sk_and (fun h => h) ?_
  refine gd_ h ?_; clear h; intro g5 h
  refine sk_and (fun h => h) ?_
  refine sk_and (fun h => h) ?_
  refine sk_and (fun h => h) ?_
  refine br_ h ?_ ?_ <;> clear h <;> intro c9 h
  ·refine sk_leaf ?_
   refine back_ok (p := p1) (by kernel_rfl) (hp1 (n1, (IntKind.i64.wrap (x1 - 1))) _ h (Nat.lt_succ_self n1) ?_)
   exact sub_ok (ρ := []) (l := [a0.length = a0.length, ∀ i, i < a0.length → ∀ j, j < 1 → E5.cf (a0.getD i E5.z) j = E5.cf (a0.getD i E5.z) j, (0 : Int) = 0, ((IntKind.i64.wrap (x1 - 1)) : Int) = (IntKind.i64.wrap (x1 - 1))]) (by kernel_rfl) ⟨rfl, fun _ _ _ _ => rfl, rfl, rfl, trivial⟩
  ·refine sk_leaf ?_
   refine len_ro (by kernel_rfl) 0 (s := 1) (n := a0.length) (c := fun i j => E5.cf (a0.getD i E5.z) j) (by kernel_rfl) ?_; intro hl2_0
   replace h : (fun (x : Nat × Int) => tty_word_l2 a0 x1 x.1 x.2 = some r) (FUEL, x1) := h
   refine loop_ok (by kernel_rfl) (X := Nat × Int) (fun x => tty_word_l2 a0 x1 x.1 x.2 = some r) (fun x => x.1) (fun x => mk 31 [(0, .pv ((E5.ro a0))), (2, .pv (.raw (.int .i64 0))), (3, .pv (.raw (.int .i64 x.2)))] []) (FUEL, x1) h ?_ ?_
   ·exact sub_ok (ρ := []) (l := [a0.length = a0.length, ∀ i, i < a0.length → ∀ j, j < 1 → E5.cf (a0.getD i E5.z) j = E5.cf (a0.getD i E5.z) j, (0 : Int) = 0, (x1 : Int) = x1]) (by kernel_rfl) ⟨rfl, fun _ _ _ _ => rfl, rfl, rfl, trivial⟩
   ·clear h; rintro ⟨n2, x10⟩ h p2 hp2
    obtain _ | n2 := n2
    ·cases (show (none : Option (Int)) = some r from h)
    have h : tty_word_l2 a0 x1 (n2 + 1) x10 = some r := h
    unfold tty_word_l2 at h
    refine sg (S := .and (((decide ((x10 : Int) > 0)) = true → ((decide ((x10 : Int) > 0)) = true))) (.and (((decide ((x10 : Int) > 0)) = true → ((decide ((x10 : Int) > 0)) = true))) (.and (((decide ((x10 : Int) > 0)) = true → ((decide ((x10 : Int) > 0)) = true))) (.and (((decide ((x10 : Int) > 0)) = true → (0 ≤ ((IntKind.i64.wrap (x10 - 1)) : Int) ∧ (IntKind.i64.wrap (x10 - 1)) < ((a0.length : Nat) : Int)))) (.and (((decide ((x10 : Int) > 0)) = true → ((decide ((x10 : Int) > 0)) = true))) (.and (((decide ((x10 : Int) > 0)) = true → ((decide ((x10 : Int) > 0)) = true))) (.and ((decide ((x10 : Int) > 0)) = true → (decide ((x10 : Int) > 0)) = true) (.br ((decide ((x10 : Int) > 0)) && (((a0.getD (Int.toNat (IntKind.i64.wrap (x10 - 1))) 0) : Int) != 32)) (.leaf 0) (.leaf 1))))))))) ?_
    refine sk_and (fun h => h) ?_
    refine sk_and (fun h => h) ?_
    refine sk_and (fun h => h) ?_
    refine gd_ h ?_; clear h; intro g14 h
    refine sk_and (fun h => h) ?_
    refine sk_and (fun h => h) ?_
    refine sk_and (fun h => h) ?_
    refine br_ h ?_ ?_ <;> clear h <;> intro c18 h
    ·refine sk_leaf ?_
     refine back_ok (p := p2) (by kernel_rfl) (hp2 (n2, (IntKind.i64.wrap (x10 - 1))) _ h (Nat.lt_succ_self n2) ?_)
     exact sub_ok (ρ := []) (l := [a0.length = a0.length, ∀ i, i < a0.length → ∀ j, j < 1 → E5.cf (a0.getD i E5.z) j = E5.cf (a0.getD i E5.z) j, (0 : Int) = 0, ((IntKind.i64.wrap (x10 - 1)) : Int) = (IntKind.i64.wrap (x10 - 1))]) (by kernel_rfl) ⟨rfl, fun _ _ _ _ => rfl, rfl, rfl, trivial⟩
    ·refine sk_leaf ?_
     obtain rfl := some_ h
     exact end_ok [] Tryz.results89 (ps := [(x10 : Int) = x10]) (by kernel_rfl) ⟨rfl, trivial⟩ (fun _ => ⟨rfl, by simp⟩)
def Y59 (x0 : Api_Tty) : List Prop := [x0.Lines.length = x0.Lines.length, ∀ i, i < x0.Lines.length → ∀ j, j < 1 → E30.cf (x0.Lines.getD i E30.z) j = E30.cf (x0.Lines.getD i E30.z) j, x0.Edit.length = x0.Edit.length, ∀ i, i < x0.Edit.length → ∀ j, j < 1 → E5.cf (x0.Edit.getD i E5.z) j = E5.cf (x0.Edit.getD i E5.z) j]
theorem Y59p {x0 : Api_Tty} : allP (Y59 x0) := ⟨rfl, fun _ _ _ _ => rfl, rfl, fun _ _ _ _ => rfl, trivial⟩
def Y119 (x0 : Int) : List Prop := [0 = 0, ([] : List (List Int)).length = 0, 0 = 0, ([] : List Int).length = 0, (x0 : Int) = x0, E30.cR [] = [], E5.cR [] = []]
theorem Y119p {x0 : Int} : allP (Y119 x0) := ⟨rfl, rfl, rfl, rfl, rfl, rfl, rfl, trivial⟩
def Y121 (x0 : Api_Tty) (x1 : Int) : List Prop := [0 = 0, 0 = 0, (x1 : Int) = x1, x0.Lines.length = x0.Lines.length, rowQ (E30.cR x0.Lines) 1 0 x0.Lines.length (fun i j => E30.cf (x0.Lines.getD i E30.z) j), x0.Edit.length = x0.Edit.length, rowQ (E5.cR x0.Edit) 1 0 x0.Edit.length (fun i j => E5.cf (x0.Edit.getD i E5.z) j)]
def Y62 (x0 : Api_Tty) (x1 : Int) : List Prop := [0 = 0, x0.Lines.length = x0.Lines.length, 0 = 0, x0.Edit.length = x0.Edit.length, (x1 : Int) = x1, E30.cR x0.Lines = E30.cR x0.Lines, AllPv (E30.cR x0.Lines), E5.cR x0.Edit = E5.cR x0.Edit, AllPv (E5.cR x0.Edit)]
theorem Y62p {x0 : Api_Tty} {x1 : Int} : allP (Y62 x0 x1) := ⟨rfl, rfl, rfl, rfl, rfl, rfl, (Elem.cR_pv _ _), rfl, (Elem.cR_pv _ _), trivial⟩
def Y122 (x0 : Api_Tty) : List AV := [.pv ((E30.ro x0.Lines)), .pv ((E5.ro ((x0.Edit.drop 0).take ((Int.toNat (if (0 : Int) > (IntKind.i64.wrap (((x0.Edit.length : Nat) : Int) - 1)) then 0 else (IntKind.i64.wrap (((x0.Edit.length : Nat) : Int) - 1)))) - 0))))]
theorem tty_Key_ok (a0 : Api_Tty) (a1 : Int) (r : Api_Tty × Int) (h : tty_Key a0 a1 = some r) : PCalls Tryz.prog 66 [.agg (Y84 a0), .pv (.raw (.int .u8 a1))] true (.tup [.agg [.row 0 1 0 r.1.Lines.length, .row 1 1 0 r.1.Edit.length], .pv (.raw (.int .i64 r.2))]) [.row 30 1 (E30.cR r.1.Lines), .row 5 1 (E5.cR r.1.Edit)] := by
 unfold tty_Key at h
 refine fnZ_ok tabOk [88] Tryz.func66 (by kernel_rfl) (by kernel_rfl) Tryz.ntmps66 (by simp) ?_
 refine segs [20] tabOk mixed 4000 (S := .leaf 0) (by kernel_rfl) ?_
 refine sk_leaf ?_
 obtain ⟨r1, e2, h⟩ := bd_ h
 refine call_ok (d := some 9) (fn := 67) (ax := [.agg (Y84 a0)]) (ps := (Y59 a0)) (hb' := []) (by kernel_rfl) (tty_Right_ok _ _ e2 (al := true)) (by kernel_rfl) Y59p (fun _ => (by kernel_rfl)) (by simp) rfl (by kernel_rfl) ?_
 refine segs [20] tabOk mixed 4000 (S := .br (!r1) (.leaf 0) (.and (((!((a1 : Int) == 10)) = true → ((!((a1 : Int) == 10)) = true))) (.and (((a1 : Int) == 10) = false → (!((a1 : Int) == 10)) = true) (.and (((((a1 : Int) == 10) || ((a1 : Int) == 4)) = true → ((((a1 : Int) == 10) || ((a1 : Int) == 4)) = true))) (.and (((((a1 : Int) == 10) || ((a1 : Int) == 4)) = true → ((((a1 : Int) == 10) || ((a1 : Int) == 4)) = true))) (.and (((((a1 : Int) == 10) || ((a1 : Int) == 4)) = true → ((((a1 : Int) == 10) || ((a1 : Int) == 4)) = true))) (.and ((((a1 : Int) == 10) || ((a1 : Int) == 4)) = true → (((a1 : Int) == 10) || ((a1 : Int) == 4)) = true) (.br ((((a1 : Int) == 10) || ((a1 : Int) == 4)) && ((((a0.Lines.length : Nat) : Int) : Int) == 400)) (.leaf 1) (.br ((a1 : Int) == 10) (.leaf 2) (.br ((a1 : Int) == 4) (.leaf 3) (.br ((a1 : Int) == 8) (.and (0 ≤ ((if (0 : Int) > (IntKind.i64.wrap (((a0.Edit.length : Nat) : Int) - 1)) then 0 else (IntKind.i64.wrap (((a0.Edit.length : Nat) : Int) - 1))) : Int)) (.and ((Int.toNat (if (0 : Int) > (IntKind.i64.wrap (((a0.Edit.length : Nat) : Int) - 1)) then 0 else (IntKind.i64.wrap (((a0.Edit.length : Nat) : Int) - 1)))) ≤ a0.Edit.length) (.leaf 4))) (.br ((a1 : Int) == 21) (.leaf 5) (.br ((a1 : Int) == 23) (.leaf 6) (.br ((((a0.Edit.length : Nat) : Int) : Int) == 64) (.leaf 7) (.leaf 8))))))))))))))) (by kernel_rfl) ?_
 refine br_ h ?_ ?_ <;> clear h <;> intro c3 h
 ·refine sk_leaf ?_
  obtain rfl := some_ h
  exact end_ok [(0, none), (1, none)] Tryz.results66 (ps := (Y119 1)) (by kernel_rfl) Y119p (fun hx => by cases hx)
 ·refine sk_and (fun h => h) ?_
  refine sk_and ((by decide : ∀ y0 : Bool, ((y0 = false) → ((!y0) = true))) ((a1 : Int) == 10)) ?_
  refine sk_and (fun h => h) ?_
  refine sk_and (fun h => h) ?_
  refine sk_and (fun h => h) ?_
  refine sk_and (fun h => h) ?_
  refine br_ h ?_ ?_ <;> clear h <;> intro c10 h
  ·refine sk_leaf ?_
   obtain rfl := some_ h
   exact end_ok [(0, none), (1, none)] Tryz.results66 (ps := (Y119 4)) (by kernel_rfl) Y119p (fun hx => by cases hx)
  ·refine br_ h ?_ ?_ <;> clear h <;> intro c11 h
   ·refine sk_leaf ?_
    refine bsF_ok (d := 43) (e := 5) (s := 1) (n := 1) (cs := [.pv (.raw (.int .u8 a1))]) E5 [a1] (by kernel_rfl) rfl rfl rfl (by kernel_rfl) ?_
    refine segs [20] tabOk mixed 4000 (S := .leaf 0) (by kernel_rfl) ?_
    refine sk_leaf ?_
    obtain ⟨r12, e13, h⟩ := bd_ h
    refine mcall_ok (d := some 44) (fn := 88) (ax := [.ptr 16512 0, .pv ((E5.ro [a1]))]) (hs := [(16512, .box [.row 19201 1 0 r12.Lines.length, .row 19202 1 0 r12.Edit.length]), (19201, .row 30 1 (E30.cR r12.Lines)), (19202, .row 5 1 (E5.cR r12.Edit))]) (del := []) (ps := [0 = 0, [a1].length = [a1].length, ∀ i, i < [a1].length → ∀ j, j < 1 → E5.cf ([a1].getD i E5.z) j = E5.cf ([a1].getD i E5.z) j, a0.Lines.length = a0.Lines.length, ∀ i, i < a0.Lines.length → ∀ j, j < 1 → E30.cf (a0.Lines.getD i E30.z) j = E30.cf (a0.Lines.getD i E30.z) j, a0.Edit.length = a0.Edit.length, ∀ i, i < a0.Edit.length → ∀ j, j < 1 → E5.cf (a0.Edit.getD i E5.z) j = E5.cf (a0.Edit.getD i E5.z) j]) [(0, some 16512)] (by kernel_rfl) (tty_told_roro_ok _ _ _ e13) (by kernel_rfl) ⟨rfl, rfl, fun _ _ _ _ => rfl, rfl, fun _ _ _ _ => rfl, rfl, fun _ _ _ _ => rfl, trivial⟩ (by kernel_rfl) (by simp only [List.cons_append, List.nil_append, List.append_nil, rB, rA, fl, mset_row, mset_box, mset_nil, mset_map, List.set_set]; kernel_rfl) (by kernel_rfl) ?_
    refine segs [20] tabOk mixed 4000 (S := .leaf 0) (by kernel_rfl) ?_
    refine sk_leaf ?_
    refine cut_ok (by kernel_rfl) (τ := mk 71 [(2, .ptr 0 0), (4, .ptr 1 0), (5, .pv (.raw (.int .i64 0)))] [(0, .box (Y84 r12)), (1, .box Y105)] [88]) (sub_ok (ρ := [(0, some 16512), (1, some 16640)]) (l := (Y121 r12 0)) (by kernel_rfl) ⟨rfl, rfl, rfl, (by first | rfl | exact Elem.sub_len _ (by omega) | omega | simp | (simp <;> omega)), E30.rowQ_all r12.Lines rfl, (by first | rfl | exact Elem.sub_len _ (by omega) | omega | simp | (simp <;> omega)), E5.rowQ_all r12.Edit rfl, trivial⟩) ?_
    refine s0 ?_
    obtain ⟨r14, e15, h⟩ := bd_ h
    refine call_ok (d := some 70) (fn := 68) (ax := [.agg (Y84 r12)]) (ps := (Y59 r12)) (hb' := [.row 30 1 (E30.cR r14.Lines), .row 5 1 (E5.cR r14.Edit)]) (by kernel_rfl) (tty_own_ok _ _ e15) (by kernel_rfl) Y59p (fun _ => (by kernel_rfl)) (by simp) (by simp only [Y84, List.map_cons, List.map_nil, Elem.row_up, up_map] <;> rfl) (by kernel_rfl) ?_
    refine segs [20] tabOk mixed 4000 (S := .leaf 0) (by kernel_rfl) ?_
    refine sk_leaf ?_
    obtain rfl := some_ h
    exact end_ok [(0, some 20864), (1, some 20865)] Tryz.results66 (ps := (Y62 r14 0)) (by kernel_rfl) Y62p (fun hx => by cases hx)
   ·refine br_ h ?_ ?_ <;> clear h <;> intro c16 h
    ·refine sk_leaf ?_
     obtain ⟨r17, e18, h⟩ := bd_ h
     refine mcall_ok (d := some 47) (fn := 88) (ax := [.ptr 16512 0, .pv (.raw (.slice none 0 0))]) (hs := [(16512, .box [.row 19393 1 0 r17.Lines.length, .row 19394 1 0 r17.Edit.length]), (19393, .row 30 1 (E30.cR r17.Lines)), (19394, .row 5 1 (E5.cR r17.Edit))]) (del := []) (ps := [0 = 0, ([] : List Int).length = 0, a0.Lines.length = a0.Lines.length, ∀ i, i < a0.Lines.length → ∀ j, j < 1 → E30.cf (a0.Lines.getD i E30.z) j = E30.cf (a0.Lines.getD i E30.z) j, a0.Edit.length = a0.Edit.length, ∀ i, i < a0.Edit.length → ∀ j, j < 1 → E5.cf (a0.Edit.getD i E5.z) j = E5.cf (a0.Edit.getD i E5.z) j]) [(0, some 16512)] (by kernel_rfl) (tty_told_roro_ok _ _ _ e18) (by kernel_rfl) ⟨rfl, rfl, rfl, fun _ _ _ _ => rfl, rfl, fun _ _ _ _ => rfl, trivial⟩ (by kernel_rfl) (by simp only [List.cons_append, List.nil_append, List.append_nil, rB, rA, fl, mset_row, mset_box, mset_nil, mset_map, List.set_set]; kernel_rfl) (by kernel_rfl) ?_
     refine segs [20] tabOk mixed 4000 (S := .leaf 0) (by kernel_rfl) ?_
     refine sk_leaf ?_
     refine cut_ok (by kernel_rfl) (τ := mk 71 [(2, .ptr 0 0), (4, .ptr 1 0), (5, .pv (.raw (.int .i64 0)))] [(0, .box (Y84 r17)), (1, .box Y105)] [88]) (sub_ok (ρ := [(0, some 16512), (1, some 16640)]) (l := (Y121 r17 0)) (by kernel_rfl) ⟨rfl, rfl, rfl, (by first | rfl | exact Elem.sub_len _ (by omega) | omega | simp | (simp <;> omega)), E30.rowQ_all r17.Lines rfl, (by first | rfl | exact Elem.sub_len _ (by omega) | omega | simp | (simp <;> omega)), E5.rowQ_all r17.Edit rfl, trivial⟩) ?_
     refine s0 ?_
     obtain ⟨r19, e20, h⟩ := bd_ h
     refine call_ok (d := some 70) (fn := 68) (ax := [.agg (Y84 r17)]) (ps := (Y59 r17)) (hb' := [.row 30 1 (E30.cR r19.Lines), .row 5 1 (E5.cR r19.Edit)]) (by kernel_rfl) (tty_own_ok _ _ e20) (by kernel_rfl) Y59p (fun _ => (by kernel_rfl)) (by simp) (by simp only [Y84, List.map_cons, List.map_nil, Elem.row_up, up_map] <;> rfl) (by kernel_rfl) ?_
     refine segs [20] tabOk mixed 4000 (S := .leaf 0) (by kernel_rfl) ?_
     refine sk_leaf ?_
     obtain rfl := some_ h
     exact end_ok [(0, some 20864), (1, some 20865)] Tryz.results66 (ps := (Y62 r19 0)) (by kernel_rfl) Y62p (fun hx => by cases hx)
    ·refine br_ h ?_ ?_ <;> clear h <;> intro c21 h
     ·refine gd_ h ?_; clear h; intro g22 h
      refine gd_ h ?_; clear h; intro g23 h
      refine sk_leaf ?_
      refine cut_ok (by kernel_rfl) (τ := mk 71 [(2, .ptr 0 0), (4, .ptr 1 0), (5, .pv (.raw (.int .i64 0)))] [(0, .box (Y122 a0)), (1, .box Y105)] [88]) (sub_ok (ρ := [(0, some 16512), (1, some 16640)]) (l := [0 = 0, 0 = 0, (0 : Int) = 0, a0.Lines.length = a0.Lines.length, ∀ i, i < a0.Lines.length → ∀ j, j < 1 → E30.cf (a0.Lines.getD i E30.z) j = E30.cf (a0.Lines.getD i E30.z) j, ((Int.toNat (if (0 : Int) > (IntKind.i64.wrap (((a0.Edit.length : Nat) : Int) - 1)) then 0 else (IntKind.i64.wrap (((a0.Edit.length : Nat) : Int) - 1)))) - 0) = ((a0.Edit.drop 0).take ((Int.toNat (if (0 : Int) > (IntKind.i64.wrap (((a0.Edit.length : Nat) : Int) - 1)) then 0 else (IntKind.i64.wrap (((a0.Edit.length : Nat) : Int) - 1)))) - 0)).length, ∀ i, i < ((Int.toNat (if (0 : Int) > (IntKind.i64.wrap (((a0.Edit.length : Nat) : Int) - 1)) then 0 else (IntKind.i64.wrap (((a0.Edit.length : Nat) : Int) - 1)))) - 0) → ∀ j, j < 1 → E5.cf (a0.Edit.getD (0 + i) E5.z) j = E5.cf (((a0.Edit.drop 0).take ((Int.toNat (if (0 : Int) > (IntKind.i64.wrap (((a0.Edit.length : Nat) : Int) - 1)) then 0 else (IntKind.i64.wrap (((a0.Edit.length : Nat) : Int) - 1)))) - 0)).getD i E5.z) j]) (by kernel_rfl) ⟨rfl, rfl, rfl, rfl, fun _ _ _ _ => rfl, (Elem.sub_len _ (by omega)), (Elem.sub_cf _ _ (by omega)), trivial⟩) ?_
      refine s0 ?_
      obtain ⟨r24, e25, h⟩ := bd_ h
      refine call_ok (d := some 70) (fn := 68) (ax := [.agg (Y122 a0)]) (ps := [a0.Lines.length = a0.Lines.length, ∀ i, i < a0.Lines.length → ∀ j, j < 1 → E30.cf (a0.Lines.getD i E30.z) j = E30.cf (a0.Lines.getD i E30.z) j, ((a0.Edit.drop 0).take ((Int.toNat (if (0 : Int) > (IntKind.i64.wrap (((a0.Edit.length : Nat) : Int) - 1)) then 0 else (IntKind.i64.wrap (((a0.Edit.length : Nat) : Int) - 1)))) - 0)).length = ((a0.Edit.drop 0).take ((Int.toNat (if (0 : Int) > (IntKind.i64.wrap (((a0.Edit.length : Nat) : Int) - 1)) then 0 else (IntKind.i64.wrap (((a0.Edit.length : Nat) : Int) - 1)))) - 0)).length, ∀ i, i < ((a0.Edit.drop 0).take ((Int.toNat (if (0 : Int) > (IntKind.i64.wrap (((a0.Edit.length : Nat) : Int) - 1)) then 0 else (IntKind.i64.wrap (((a0.Edit.length : Nat) : Int) - 1)))) - 0)).length → ∀ j, j < 1 → E5.cf (((a0.Edit.drop 0).take ((Int.toNat (if (0 : Int) > (IntKind.i64.wrap (((a0.Edit.length : Nat) : Int) - 1)) then 0 else (IntKind.i64.wrap (((a0.Edit.length : Nat) : Int) - 1)))) - 0)).getD i E5.z) j = E5.cf (((a0.Edit.drop 0).take ((Int.toNat (if (0 : Int) > (IntKind.i64.wrap (((a0.Edit.length : Nat) : Int) - 1)) then 0 else (IntKind.i64.wrap (((a0.Edit.length : Nat) : Int) - 1)))) - 0)).getD i E5.z) j]) (hb' := [.row 30 1 (E30.cR r24.Lines), .row 5 1 (E5.cR r24.Edit)]) (by kernel_rfl) (tty_own_ok _ _ e25) (by kernel_rfl) ⟨rfl, fun _ _ _ _ => rfl, rfl, fun _ _ _ _ => rfl, trivial⟩ (fun _ => (by kernel_rfl)) (by simp) (by simp only [Y122, List.map_cons, List.map_nil, Elem.row_up, up_map] <;> rfl) (by kernel_rfl) ?_
      refine segs [20] tabOk mixed 4000 (S := .leaf 0) (by kernel_rfl) ?_
      refine sk_leaf ?_
      obtain rfl := some_ h
      exact end_ok [(0, some 20864), (1, some 20865)] Tryz.results66 (ps := (Y62 r24 0)) (by kernel_rfl) Y62p (fun hx => by cases hx)
     ·refine br_ h ?_ ?_ <;> clear h <;> intro c26 h
      ·refine sk_leaf ?_
       refine cut_ok (by kernel_rfl) (τ := mk 71 [(2, .ptr 0 0), (4, .ptr 1 0), (5, .pv (.raw (.int .i64 0)))] [(0, .box [.pv ((E30.ro a0.Lines)), .pv (.raw (.slice none 0 0))]), (1, .box Y105)] [88]) (sub_ok (ρ := [(0, some 16512), (1, some 16640)]) (l := [0 = 0, 0 = 0, (0 : Int) = 0, a0.Lines.length = a0.Lines.length, ∀ i, i < a0.Lines.length → ∀ j, j < 1 → E30.cf (a0.Lines.getD i E30.z) j = E30.cf (a0.Lines.getD i E30.z) j]) (by kernel_rfl) ⟨rfl, rfl, rfl, rfl, fun _ _ _ _ => rfl, trivial⟩) ?_
       refine s0 ?_
       obtain ⟨r27, e28, h⟩ := bd_ h
       refine call_ok (d := some 70) (fn := 68) (ax := [.agg [.pv ((E30.ro a0.Lines)), .pv (.raw (.slice none 0 0))]]) (ps := [a0.Lines.length = a0.Lines.length, ∀ i, i < a0.Lines.length → ∀ j, j < 1 → E30.cf (a0.Lines.getD i E30.z) j = E30.cf (a0.Lines.getD i E30.z) j, ([] : List Int).length = 0]) (hb' := [.row 30 1 (E30.cR r27.Lines), .row 5 1 (E5.cR r27.Edit)]) (by kernel_rfl) (tty_own_ok _ _ e28) (by kernel_rfl) ⟨rfl, fun _ _ _ _ => rfl, rfl, trivial⟩ (fun _ => (by kernel_rfl)) (by simp) (by simp only [List.map_cons, List.map_nil, Elem.row_up, up_map] <;> rfl) (by kernel_rfl) ?_
       refine segs [20] tabOk mixed 4000 (S := .leaf 0) (by kernel_rfl) ?_
       refine sk_leaf ?_
       obtain rfl := some_ h
       exact end_ok [(0, some 20864), (1, some 20865)] Tryz.results66 (ps := (Y62 r27 0)) (by kernel_rfl) Y62p (fun hx => by cases hx)
      ·refine br_ h ?_ ?_ <;> clear h <;> intro c29 h
       ·refine sk_leaf ?_
        obtain ⟨r30, e31, h⟩ := bd_ h
        refine call_ok (d := some 66) (fn := 89) (ax := [.pv ((E5.ro a0.Edit))]) (ps := (Y60 a0.Edit)) (hb' := []) (by kernel_rfl) (tty_word_ok _ _ e31 (al := true)) (by kernel_rfl) Y60p (fun _ => (by kernel_rfl)) (by simp) rfl (by kernel_rfl) ?_
        refine segs [20] tabOk mixed 4000 (S := .and (0 ≤ (r30 : Int)) (.and ((Int.toNat r30) ≤ a0.Edit.length) (.leaf 0))) (by kernel_rfl) ?_
        refine gd_ h ?_; clear h; intro g32 h
        refine gd_ h ?_; clear h; intro g33 h
        refine sk_leaf ?_
        refine cut_ok (by kernel_rfl) (τ := mk 71 [(2, .ptr 0 0), (4, .ptr 1 0), (5, .pv (.raw (.int .i64 0)))] [(0, .box [.pv ((E30.ro a0.Lines)), .pv ((E5.ro ((a0.Edit.drop 0).take ((Int.toNat r30) - 0))))]), (1, .box Y105)] [88]) (sub_ok (ρ := [(0, some 16512), (1, some 16640)]) (l := [0 = 0, 0 = 0, (0 : Int) = 0, a0.Lines.length = a0.Lines.length, ∀ i, i < a0.Lines.length → ∀ j, j < 1 → E30.cf (a0.Lines.getD i E30.z) j = E30.cf (a0.Lines.getD i E30.z) j, ((Int.toNat r30) - 0) = ((a0.Edit.drop 0).take ((Int.toNat r30) - 0)).length, ∀ i, i < ((Int.toNat r30) - 0) → ∀ j, j < 1 → E5.cf (a0.Edit.getD (0 + i) E5.z) j = E5.cf (((a0.Edit.drop 0).take ((Int.toNat r30) - 0)).getD i E5.z) j]) (by kernel_rfl) ⟨rfl, rfl, rfl, rfl, fun _ _ _ _ => rfl, (Elem.sub_len _ (by omega)), (Elem.sub_cf _ _ (by omega)), trivial⟩) ?_
        refine s0 ?_
        obtain ⟨r34, e35, h⟩ := bd_ h
        refine call_ok (d := some 70) (fn := 68) (ax := [.agg [.pv ((E30.ro a0.Lines)), .pv ((E5.ro ((a0.Edit.drop 0).take ((Int.toNat r30) - 0))))]]) (ps := [a0.Lines.length = a0.Lines.length, ∀ i, i < a0.Lines.length → ∀ j, j < 1 → E30.cf (a0.Lines.getD i E30.z) j = E30.cf (a0.Lines.getD i E30.z) j, ((a0.Edit.drop 0).take ((Int.toNat r30) - 0)).length = ((a0.Edit.drop 0).take ((Int.toNat r30) - 0)).length, ∀ i, i < ((a0.Edit.drop 0).take ((Int.toNat r30) - 0)).length → ∀ j, j < 1 → E5.cf (((a0.Edit.drop 0).take ((Int.toNat r30) - 0)).getD i E5.z) j = E5.cf (((a0.Edit.drop 0).take ((Int.toNat r30) - 0)).getD i E5.z) j]) (hb' := [.row 30 1 (E30.cR r34.Lines), .row 5 1 (E5.cR r34.Edit)]) (by kernel_rfl) (tty_own_ok _ _ e35) (by kernel_rfl) ⟨rfl, fun _ _ _ _ => rfl, rfl, fun _ _ _ _ => rfl, trivial⟩ (fun _ => (by kernel_rfl)) (by simp) (by simp only [List.map_cons, List.map_nil, Elem.row_up, up_map] <;> rfl) (by kernel_rfl) ?_
        refine segs [20] tabOk mixed 4000 (S := .leaf 0) (by kernel_rfl) ?_
        refine sk_leaf ?_
        obtain rfl := some_ h
        exact end_ok [(0, some 20864), (1, some 20865)] Tryz.results66 (ps := (Y62 r34 0)) (by kernel_rfl) Y62p (fun hx => by cases hx)
       ·refine br_ h ?_ ?_ <;> clear h <;> intro c36 h
        ·refine sk_leaf ?_
         obtain rfl := some_ h
         exact end_ok [(0, none), (1, none)] Tryz.results66 (ps := (Y119 4)) (by kernel_rfl) Y119p (fun hx => by cases hx)
        ·refine sk_leaf ?_
         obtain ⟨r37, e38, h⟩ := bd_ h
         refine call_ok (d := some 35) (fn := 69) (ax := [.pv ((E5.ro a0.Edit))]) (ps := (Y60 a0.Edit)) (hb' := [.row 5 1 (E5.cR r37)]) (by kernel_rfl) (bytes_Clone_ok _ _ e38 (al := true)) (by kernel_rfl) Y60p (fun _ => (by kernel_rfl)) (by simp) (by simp only [List.map_cons, List.map_nil, Elem.row_up, up_map] <;> rfl) (by kernel_rfl) ?_
         refine segs [20] tabOk mixed 4000 (S := .leaf 0) (by kernel_rfl) ?_
         refine sk_leaf ?_
         refine bs_ok (d := 37) (e := 5) (s := 1) (n := 1) (cs := [.pv (.raw (.int .u8 a1))]) (cs' := E5.cR [a1]) (by kernel_rfl) rfl (by kernel_rfl) ?_
         refine segs [20] tabOk mixed 4000 (S := .leaf 0) (by kernel_rfl) ?_
         refine sk_leaf ?_
         obtain ⟨g39, h⟩ := if_ h
         refine app_ok (d := 38) (e := 5) (s := 1) (b := 1) (x := .row 18624 1 0 r37.length) (y := .row 18752 1 0 1) E5 (xs := r37) (ys := [a1]) (by kernel_rfl) rfl (.row 18624 r37 r37.length rfl (by kernel_rfl)) (.all 18752 5 [a1] 1 rfl (by kernel_rfl)) g39 (by kernel_rfl) ?_
         refine segs [20] tabOk mixed 4000 (S := .leaf 0) (by kernel_rfl) ?_
         refine sk_leaf ?_
         refine cut_ok (by kernel_rfl) (τ := mk 71 [(2, .ptr 0 0), (4, .ptr 1 0), (5, .pv (.raw (.int .i64 0)))] [(0, .box [.pv ((E30.ro a0.Lines)), .pv ((E5.ro (r37 ++ [a1])))]), (1, .box Y105)] [88]) (sub_ok (ρ := [(0, some 16512), (1, some 16640)]) (l := [0 = 0, 0 = 0, (0 : Int) = 0, a0.Lines.length = a0.Lines.length, ∀ i, i < a0.Lines.length → ∀ j, j < 1 → E30.cf (a0.Lines.getD i E30.z) j = E30.cf (a0.Lines.getD i E30.z) j, ((r37 ++ [a1]).length) = (r37 ++ [a1]).length, rowQ (E5.cR (r37 ++ [a1])) 1 0 ((r37 ++ [a1]).length) (fun i j => E5.cf ((r37 ++ [a1]).getD i E5.z) j)]) (by kernel_rfl) ⟨rfl, rfl, rfl, rfl, fun _ _ _ _ => rfl, (by first | rfl | exact Elem.sub_len _ (by omega) | omega | simp | (simp <;> omega)), E5.rowQ_all (r37 ++ [a1]) rfl, trivial⟩) ?_
         refine s0 ?_
         obtain ⟨r40, e41, h⟩ := bd_ h
         refine call_ok (d := some 70) (fn := 68) (ax := [.agg [.pv ((E30.ro a0.Lines)), .pv ((E5.ro (r37 ++ [a1])))]]) (ps := [a0.Lines.length = a0.Lines.length, ∀ i, i < a0.Lines.length → ∀ j, j < 1 → E30.cf (a0.Lines.getD i E30.z) j = E30.cf (a0.Lines.getD i E30.z) j, (r37 ++ [a1]).length = (r37 ++ [a1]).length, ∀ i, i < (r37 ++ [a1]).length → ∀ j, j < 1 → E5.cf ((r37 ++ [a1]).getD i E5.z) j = E5.cf ((r37 ++ [a1]).getD i E5.z) j]) (hb' := [.row 30 1 (E30.cR r40.Lines), .row 5 1 (E5.cR r40.Edit)]) (by kernel_rfl) (tty_own_ok _ _ e41) (by kernel_rfl) ⟨rfl, fun _ _ _ _ => rfl, rfl, fun _ _ _ _ => rfl, trivial⟩ (fun _ => (by kernel_rfl)) (by simp) (by simp only [List.map_cons, List.map_nil, Elem.row_up, up_map] <;> rfl) (by kernel_rfl) ?_
         refine segs [20] tabOk mixed 4000 (S := .leaf 0) (by kernel_rfl) ?_
         refine sk_leaf ?_
         obtain rfl := some_ h
         exact end_ok [(0, some 20864), (1, some 20865)] Tryz.results66 (ps := (Y62 r40 0)) (by kernel_rfl) Y62p (fun hx => by cases hx)
end Go.Proofs.YthmieigenefilaaGreatDoor
