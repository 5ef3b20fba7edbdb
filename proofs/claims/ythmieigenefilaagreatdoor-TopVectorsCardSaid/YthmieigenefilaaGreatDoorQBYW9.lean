import Derived.Test.YthmieigenefilaaGreatDoorQBYW8
set_option linter.unusedSimpArgs false
set_option linter.unusedVariables false
namespace Go.Proofs.YthmieigenefilaaGreatDoor
open Go Go.Ab
set_option maxHeartbeats 40000000
set_option maxRecDepth 100000
attribute [local irreducible] V VS runS Sk.Holds
def Y65 (x0 : AKO) : Bool := (((x0.Kind : Int) != 1) && ((x0.Kind : Int) != 3))
def Y117 (x0 : Bool) (x1 : Int) : Bool := (x0 && !(decide ((x1 : Int) < 0)))
def Y43 (x0 : AKA) (x1 : KWh) : List Prop := ([(x0.Err : Int) = x0.Err, x0.Data.length = x0.Data.length, ∀ i, i < x0.Data.length → ∀ j, j < 1 → E5.cf (x0.Data.getD i E5.z) j = E5.cf (x0.Data.getD i E5.z) j, x1.uart_.In.length = x1.uart_.In.length, ∀ i, i < x1.uart_.In.length → ∀ j, j < 1 → E5.cf (x1.uart_.In.getD i E5.z) j = E5.cf (x1.uart_.In.getD i E5.z) j, x1.uart_.Out.length = x1.uart_.Out.length, ∀ i, i < x1.uart_.Out.length → ∀ j, j < 1 → E5.cf (x1.uart_.Out.getD i E5.z) j = E5.cf (x1.uart_.Out.getD i E5.z) j, (x1.uart_.Lost : Int) = x1.uart_.Lost, x1.uart_.Asks = x1.uart_.Asks, 0 = 0, x1.pins_.length = x1.pins_.length] ++ ((Y1 (x1.cores_ 0)) ++ ((Y1 (x1.cores_ 1)) ++ (Y15 x1))))
theorem Y43p {x0 : AKA} {x1 : KWh} : allP (Y43 x0 x1) := (allP_append.2 ⟨⟨rfl, rfl, fun _ _ _ _ => rfl, rfl, fun _ _ _ _ => rfl, rfl, fun _ _ _ _ => rfl, rfl, rfl, rfl, rfl, trivial⟩, (allP_append.2 ⟨Y1p, (allP_append.2 ⟨Y1p, Y15p⟩)⟩)⟩)
def Y82 (x0 x1 : Int) (x2 : Api_Uart) (x3 : List Api_Pin) : List Prop := [(5 + (Int.toNat x0) * 12) = (5 + (Int.toNat x0) * 12), (((mget x1 (mput 5 2 (mput 4 1 ([] : List (Int × Int))))).getD 0) : Int) = ((mget x1 (mput 5 2 (mput 4 1 ([] : List (Int × Int))))).getD 0), x2.In.length = x2.In.length, ∀ i, i < x2.In.length → ∀ j, j < 1 → E5.cf (x2.In.getD i E5.z) j = E5.cf (x2.In.getD i E5.z) j, x2.Out.length = x2.Out.length, ∀ i, i < x2.Out.length → ∀ j, j < 1 → E5.cf (x2.Out.getD i E5.z) j = E5.cf (x2.Out.getD i E5.z) j, (x2.Lost : Int) = x2.Lost, x2.Asks = x2.Asks, 0 = 0, x3.length = x3.length]
theorem Y82p {x0 : Int} {x1 : Int} {x2 : Api_Uart} {x3 : List Api_Pin} : allP (Y82 x0 x1 x2 x3) := ⟨rfl, rfl, rfl, fun _ _ _ _ => rfl, rfl, fun _ _ _ _ => rfl, rfl, rfl, rfl, rfl, trivial⟩
theorem kw_do_o8_ok (a0 : KWh) (a1 : AKO) (r : AKA × KWh) (h : kw_do_o8 a0 a1 = some r) : MCalls Tryz.prog 21 [.ptr 0 0, .agg [.pv (.raw (.int .i64 a1.Kind)), .pv (.raw (.int .i64 a1.Core)), .pv (.raw (.int .i64 a1.N)), .pv (.raw (.int .u8 a1.Byte))]] [.box (Y11 a0 1), .row 52 7 (E52.cR a0.pins_)] 1 true (.agg [.pv (.raw (.int .i64 r.1.Err)), .pv ((E5.ro r.1.Data))]) [.box (Y11 r.2 1), .row 52 7 (E52.cR r.2.pins_)] := by
 unfold kw_do_o8 at h
 refine fnM_ok tabOk (fz := [40, 41, 43]) Tryz.func21 (by kernel_rfl) (by kernel_rfl) Tryz.ntmps21 (by simp) (by first | (simp; done) | exact Nat.le_of_ble_eq_true rfl) ?_
 refine sg (S := .and (((!(decide ((a1.Kind : Int) < 1))) = true → ((!(decide ((a1.Kind : Int) < 1))) = true))) (.and (((!(decide ((a1.Kind : Int) < 1))) = true → ((!(decide ((a1.Kind : Int) < 1))) = true))) (.and ((decide ((a1.Kind : Int) < 1)) = false → (!(decide ((a1.Kind : Int) < 1))) = true) (.br ((decide ((a1.Kind : Int) < 1)) || (decide ((a1.Kind : Int) > 6))) (.leaf 0) (.and ((((a1.Kind : Int) != 1) = true → (((a1.Kind : Int) != 1) = true))) (.and ((((a1.Kind : Int) != 1) = true → (((a1.Kind : Int) != 1) = true))) (.and (((a1.Kind : Int) != 1) = true → ((a1.Kind : Int) != 1) = true) (.and (((Y65 a1) = true → ((Y65 a1) = true))) (.and (((Y65 a1) = true → ((Y65 a1) = true))) (.and (((Y65 a1) = true → ((Y65 a1) = true))) (.and (((Y117 (Y65 a1) a1.Core) = true → ((Y117 (Y65 a1) a1.Core) = true))) (.and (((Y117 (Y65 a1) a1.Core) = true → ((Y117 (Y65 a1) a1.Core) = true))) (.and (((Y65 a1) = true → ((Y65 a1) = true))) (.and (((Y65 a1) = true → ((decide ((a1.Core : Int) < 0)) = false → (Y117 (Y65 a1) a1.Core) = true))) (.and ((Y65 a1) = true → (Y65 a1) = true) (.br ((((a1.Kind : Int) != 1) && ((a1.Kind : Int) != 3)) && ((decide ((a1.Core : Int) < 0)) || (decide ((a1.Core : Int) ≥ 2)))) (.leaf 1) (.br ((a1.Kind : Int) == 1) (.leaf 2) (.br ((a1.Kind : Int) == 2) (.leaf 3) (.br ((a1.Kind : Int) == 3) (.leaf 4) (.br ((a1.Kind : Int) == 4) (.br ((a1.Kind : Int) == 4) (.and (0 ≤ (a1.Core : Int) ∧ a1.Core < ((2 : Nat) : Int)) (.leaf 5)) (.and (0 ≤ (0 : Int) ∧ 0 < ((a0.pins_.length : Nat) : Int)) (.leaf 6))) (.br ((a1.Kind : Int) == 5) (.and (0 ≤ (a1.Core : Int) ∧ a1.Core < ((2 : Nat) : Int)) (.leaf 7)) (.and (0 ≤ (0 : Int) ∧ 0 < ((a0.pins_.length : Nat) : Int)) (.leaf 8))))))))))))))))))))))) ?_
 refine sk_and (fun h => h) ?_
 refine sk_and (fun h => h) ?_
 refine sk_and ((by decide : ∀ y0 : Bool, ((y0 = false) → ((!y0) = true))) (decide ((a1.Kind : Int) < 1))) ?_
 refine br_ h ?_ ?_ <;> clear h <;> intro c4 h
 ·cases h
 ·refine sk_and (fun h => h) ?_
  refine sk_and (fun h => h) ?_
  refine sk_and (fun h => h) ?_
  refine sk_and (fun h => h) ?_
  refine sk_and (fun h => h) ?_
  refine sk_and (fun h => h) ?_
  refine sk_and (fun h => h) ?_
  refine sk_and (fun h => h) ?_
  refine sk_and (fun h => h) ?_
  refine sk_and ((by decide : ∀ y0 y1 : Bool, ((y0 = true) → ((y1 = false) → ((y0 && (!y1)) = true)))) (Y65 a1) (decide ((a1.Core : Int) < 0))) ?_
  refine sk_and (fun h => h) ?_
  refine br_ h ?_ ?_ <;> clear h <;> intro c18 h
  ·cases h
  ·refine br_ h ?_ ?_ <;> clear h <;> intro c21 h
   ·refine sk_leaf ?_
    obtain ⟨r22, e23, h⟩ := bd_ h
    refine mcall_ok (d := some 51) (fn := 40) (ax := [.ptr 0 0, .agg [.pv (.raw (.int .i64 1)), .pv (.raw (.int .u8 a1.Byte))]]) (hs := [(0, .box (Y11 r22.2.2 19649)), (19649, .row 52 7 (E52.cR r22.2.2.pins_))]) (del := [1]) (ps := ([0 = 0, (1 : Int) = 1, (a1.Byte : Int) = a1.Byte, a0.uart_.In.length = a0.uart_.In.length, ∀ i, i < a0.uart_.In.length → ∀ j, j < 1 → E5.cf (a0.uart_.In.getD i E5.z) j = E5.cf (a0.uart_.In.getD i E5.z) j, a0.uart_.Out.length = a0.uart_.Out.length, ∀ i, i < a0.uart_.Out.length → ∀ j, j < 1 → E5.cf (a0.uart_.Out.getD i E5.z) j = E5.cf (a0.uart_.Out.getD i E5.z) j, (a0.uart_.Lost : Int) = a0.uart_.Lost, a0.uart_.Asks = a0.uart_.Asks, 0 = 0, a0.pins_.length = a0.pins_.length] ++ (Y61 a0))) [(0, some 0), (1, some 1)] (by kernel_rfl) (kw_device_o8_ok _ _ _ e23) (by kernel_rfl) (allP_append.2 ⟨⟨rfl, rfl, rfl, rfl, fun _ _ _ _ => rfl, rfl, fun _ _ _ _ => rfl, rfl, rfl, rfl, rfl, trivial⟩, Y61p⟩) (by kernel_rfl) (by simp only [Y0, Y11, Y53, Y94, List.cons_append, List.nil_append, List.append_nil, rB, rA, fl, mset_row, mset_box, mset_nil, mset_map, List.set_set]; kernel_rfl) (by kernel_rfl) ?_
    refine s0 ?_
    obtain ⟨r24, e25, h⟩ := bd_ h
    refine call_ok (d := some 56) (fn := 39) (ax := [.pv (.raw (.int .i64 r22.2.1))]) (ps := [(r22.2.1 : Int) = r22.2.1]) (hb' := []) (by kernel_rfl) (kw_do_1_ok _ _ e25) (by kernel_rfl) ⟨rfl, trivial⟩ (fun _ => (by kernel_rfl)) (by simp) rfl (by kernel_rfl) ?_
    refine s0 ?_
    obtain rfl := some_ h
    exact endM_ok [(0, some 0), (1, some 19649)] Tryz.results21 (ps := (Y43 r24 r22.2.2)) (by kernel_rfl) Y43p (fun hx => by cases hx)
   ·refine br_ h ?_ ?_ <;> clear h <;> intro c26 h
    ·refine sk_leaf ?_
     obtain ⟨r27, e28, h⟩ := bd_ h
     refine mcall_ok (d := some 63) (fn := 41) (ax := [.ptr 0 0, .pv (.raw (.int .i64 a1.Core))]) (hs := [(0, .box (Y11 r27.2 20417)), (20417, .row 52 7 (E52.cR r27.2.pins_))]) (del := [1]) (ps := ((Y96 a1.Core a0.uart_ a0.pins_) ++ (Y61 a0))) [(0, some 0), (1, some 1)] (by kernel_rfl) (kw_run_o8_ok _ _ _ e28) (by kernel_rfl) (allP_append.2 ⟨Y96p, Y61p⟩) (by kernel_rfl) (by simp only [Y0, Y11, Y53, Y94, List.cons_append, List.nil_append, List.append_nil, rB, rA, fl, mset_row, mset_box, mset_nil, mset_map, List.set_set]; kernel_rfl) (by kernel_rfl) ?_
     refine s0 ?_
     obtain ⟨r29, e30, h⟩ := bd_ h
     refine call_ok (d := some 64) (fn := 39) (ax := [.pv (.raw (.int .i64 r27.1))]) (ps := [(r27.1 : Int) = r27.1]) (hb' := []) (by kernel_rfl) (kw_do_1_ok _ _ e30) (by kernel_rfl) ⟨rfl, trivial⟩ (fun _ => (by kernel_rfl)) (by simp) rfl (by kernel_rfl) ?_
     refine s0 ?_
     obtain rfl := some_ h
     exact endM_ok [(0, some 0), (1, some 20417)] Tryz.results21 (ps := (Y43 r29 r27.2)) (by kernel_rfl) Y43p (fun hx => by cases hx)
    ·refine br_ h ?_ ?_ <;> clear h <;> intro c31 h
     ·cases h
     ·refine br_ h ?_ ?_ <;> clear h <;> intro c35 h
      ·refine br_ h ?_ ?_ <;> clear h <;> intro c36 h
       ·refine gd_ h ?_; clear h; intro g37 h
        refine sk_leaf ?_
        refine ldc_ok (d := 99) (id := 0) (off := ((5 + (Int.toNat a1.Core) * 12) + 11)) (n := 1) (cs := (Y11 a0 1)) (.pv (.raw (.bool ((a0.cores_ (Int.toNat a1.Core)).serving_)))) (by kernel_rfl) (by kernel_rfl) (allLt (p := fun kk0 => ((Y11 a0 1) : List AV)[((5 + kk0 * 12) + 11)]? = some (.pv (.raw (.bool ((a0.cores_ kk0).serving_))))) (m := 2) ⟨⟨trivial, rfl⟩, rfl⟩ (Int.toNat a1.Core) (by first | omega | (simp at * <;> omega) | (simp_all <;> omega))) ?_
        refine sg (S := .br ((a0.cores_ (Int.toNat a1.Core)).serving_) (.leaf 0) (.leaf 1)) ?_
        refine br_ h ?_ ?_ <;> clear h <;> intro c38 h
        ·cases h
        ·refine sk_leaf ?_
         refine mk_ok (d := 104) (by kernel_rfl) (by kernel_rfl) ?_
         refine s0 ?_
         refine mu_ok (id := 23040) (ik := .i64) (kk := .i64) (kv := 4) (x := .pv (.raw (.int .i64 1))) (ks := mK ([] : List (Int × Int))) (ks' := mK (mput 4 1 ([] : List (Int × Int)))) (xs := E3.mX ([] : List (Int × Int))) (xs' := E3.mX (mput 4 1 ([] : List (Int × Int)))) (by kernel_rfl) (by kernel_rfl) (mK_ok _ _) rfl (mapPut_m E3 4 1 ([] : List (Int × Int))) ?_
         refine s0 ?_
         refine mu_ok (id := 23040) (ik := .i64) (kk := .i64) (kv := 5) (x := .pv (.raw (.int .i64 2))) (ks := mK (mput 4 1 ([] : List (Int × Int)))) (ks' := mK (mput 5 2 (mput 4 1 ([] : List (Int × Int))))) (xs := E3.mX (mput 4 1 ([] : List (Int × Int)))) (xs' := E3.mX (mput 5 2 (mput 4 1 ([] : List (Int × Int))))) (by kernel_rfl) (by kernel_rfl) (mK_ok _ _) rfl (mapPut_m E3 5 2 (mput 4 1 ([] : List (Int × Int)))) ?_
         refine s0 ?_
         refine lkm_ok (d := 108) (id := 23040) (kv := a1.Kind) (z := .pv (.raw (.int .i64 0))) E3 (m := (mput 5 2 (mput 4 1 ([] : List (Int × Int))))) (.pv (.raw (.int .i64 ((mget a1.Kind (mput 5 2 (mput 4 1 ([] : List (Int × Int))))).getD 0)))) (by kernel_rfl) (by kernel_rfl) rfl rfl ?_
         refine s0 ?_
         obtain ⟨r41, e42, h⟩ := bd_ h
         refine mcall_ok (d := some 109) (fn := 43) (ax := [.pix 0 (5 + (Int.toNat a1.Core) * 12), .pv (.raw (.int .i64 ((mget a1.Kind (mput 5 2 (mput 4 1 ([] : List (Int × Int))))).getD 0)))]) (hs := [(0, .box (Y11 r41.2 23361)), (23361, .row 52 7 (E52.cR r41.2.pins_))]) (del := [1]) (ps := ((Y82 a1.Core a1.Kind a0.uart_ a0.pins_) ++ (Y61 a0))) [(0, some 0), (1, some 1)] (by kernel_rfl) (kcd_ok _ _ _ _ e42) (by kernel_rfl) (allP_append.2 ⟨Y82p, Y61p⟩) (by kernel_rfl) (by simp only [Y0, Y11, Y53, Y94, List.cons_append, List.nil_append, List.append_nil, rB, rA, fl, mset_row, mset_box, mset_nil, mset_map, List.set_set]; kernel_rfl) (by kernel_rfl) ?_
         refine s0 ?_
         obtain ⟨r43, e44, h⟩ := bd_ h
         refine call_ok (d := some 110) (fn := 39) (ax := [.pv (.raw (.int .i64 r41.1))]) (ps := [(r41.1 : Int) = r41.1]) (hb' := []) (by kernel_rfl) (kw_do_1_ok _ _ e44) (by kernel_rfl) ⟨rfl, trivial⟩ (fun _ => (by kernel_rfl)) (by simp) rfl (by kernel_rfl) ?_
         refine s0 ?_
         obtain rfl := some_ h
         exact endM_ok [(0, some 0), (1, some 23361)] Tryz.results21 (ps := (Y43 r43 r41.2)) (by kernel_rfl) Y43p (fun hx => by cases hx)
       ·cases h
      ·refine br_ h ?_ ?_ <;> clear h <;> intro c46 h
       ·refine gd_ h ?_; clear h; intro g47 h
        refine sk_leaf ?_
        refine ldc_ok (d := 99) (id := 0) (off := ((5 + (Int.toNat a1.Core) * 12) + 11)) (n := 1) (cs := (Y11 a0 1)) (.pv (.raw (.bool ((a0.cores_ (Int.toNat a1.Core)).serving_)))) (by kernel_rfl) (by kernel_rfl) (allLt (p := fun kk0 => ((Y11 a0 1) : List AV)[((5 + kk0 * 12) + 11)]? = some (.pv (.raw (.bool ((a0.cores_ kk0).serving_))))) (m := 2) ⟨⟨trivial, rfl⟩, rfl⟩ (Int.toNat a1.Core) (by first | omega | (simp at * <;> omega) | (simp_all <;> omega))) ?_
        refine sg (S := .br ((a0.cores_ (Int.toNat a1.Core)).serving_) (.leaf 0) (.leaf 1)) ?_
        refine br_ h ?_ ?_ <;> clear h <;> intro c48 h
        ·cases h
        ·refine sk_leaf ?_
         refine mk_ok (d := 104) (by kernel_rfl) (by kernel_rfl) ?_
         refine s0 ?_
         refine mu_ok (id := 23040) (ik := .i64) (kk := .i64) (kv := 4) (x := .pv (.raw (.int .i64 1))) (ks := mK ([] : List (Int × Int))) (ks' := mK (mput 4 1 ([] : List (Int × Int)))) (xs := E3.mX ([] : List (Int × Int))) (xs' := E3.mX (mput 4 1 ([] : List (Int × Int)))) (by kernel_rfl) (by kernel_rfl) (mK_ok _ _) rfl (mapPut_m E3 4 1 ([] : List (Int × Int))) ?_
         refine s0 ?_
         refine mu_ok (id := 23040) (ik := .i64) (kk := .i64) (kv := 5) (x := .pv (.raw (.int .i64 2))) (ks := mK (mput 4 1 ([] : List (Int × Int)))) (ks' := mK (mput 5 2 (mput 4 1 ([] : List (Int × Int))))) (xs := E3.mX (mput 4 1 ([] : List (Int × Int)))) (xs' := E3.mX (mput 5 2 (mput 4 1 ([] : List (Int × Int))))) (by kernel_rfl) (by kernel_rfl) (mK_ok _ _) rfl (mapPut_m E3 5 2 (mput 4 1 ([] : List (Int × Int)))) ?_
         refine s0 ?_
         refine lkm_ok (d := 108) (id := 23040) (kv := a1.Kind) (z := .pv (.raw (.int .i64 0))) E3 (m := (mput 5 2 (mput 4 1 ([] : List (Int × Int))))) (.pv (.raw (.int .i64 ((mget a1.Kind (mput 5 2 (mput 4 1 ([] : List (Int × Int))))).getD 0)))) (by kernel_rfl) (by kernel_rfl) rfl rfl ?_
         refine s0 ?_
         obtain ⟨r51, e52, h⟩ := bd_ h
         refine mcall_ok (d := some 109) (fn := 43) (ax := [.pix 0 (5 + (Int.toNat a1.Core) * 12), .pv (.raw (.int .i64 ((mget a1.Kind (mput 5 2 (mput 4 1 ([] : List (Int × Int))))).getD 0)))]) (hs := [(0, .box (Y11 r51.2 23361)), (23361, .row 52 7 (E52.cR r51.2.pins_))]) (del := [1]) (ps := ((Y82 a1.Core a1.Kind a0.uart_ a0.pins_) ++ (Y61 a0))) [(0, some 0), (1, some 1)] (by kernel_rfl) (kcd_ok _ _ _ _ e52) (by kernel_rfl) (allP_append.2 ⟨Y82p, Y61p⟩) (by kernel_rfl) (by simp only [Y0, Y11, Y53, Y94, List.cons_append, List.nil_append, List.append_nil, rB, rA, fl, mset_row, mset_box, mset_nil, mset_map, List.set_set]; kernel_rfl) (by kernel_rfl) ?_
         refine s0 ?_
         obtain ⟨r53, e54, h⟩ := bd_ h
         refine call_ok (d := some 110) (fn := 39) (ax := [.pv (.raw (.int .i64 r51.1))]) (ps := [(r51.1 : Int) = r51.1]) (hb' := []) (by kernel_rfl) (kw_do_1_ok _ _ e54) (by kernel_rfl) ⟨rfl, trivial⟩ (fun _ => (by kernel_rfl)) (by simp) rfl (by kernel_rfl) ?_
         refine s0 ?_
         obtain rfl := some_ h
         exact endM_ok [(0, some 0), (1, some 23361)] Tryz.results21 (ps := (Y43 r53 r51.2)) (by kernel_rfl) Y43p (fun hx => by cases hx)
       ·cases h
end Go.Proofs.YthmieigenefilaaGreatDoor
