import Derived.Test.YthmieigenefilaaGreatDoorQBYW6
set_option linter.unusedSimpArgs false
set_option linter.unusedVariables false
namespace Go.Proofs.YthmieigenefilaaGreatDoor
open Go Go.Ab
set_option maxHeartbeats 40000000
set_option maxRecDepth 100000
attribute [local irreducible] V VS runS Sk.Holds
def Y93 (x0 : KWh) (x1 : Nat) : List AV := [.pv ((E5.ro x0.uart_.In)), .pv ((E5.ro x0.uart_.Out)), .pv (.raw (.int .i64 x0.uart_.Lost)), .pv (.raw (.bool x0.uart_.Asks)), .row x1 7 0 x0.pins_.length]
def Y89 (x0 : Kernel_core) : List AV := [.pv (.raw (.int .u64 ((x0.local_.Asked) 0))), .pv (.raw (.int .u64 ((x0.local_.Asked) 1))), .pv (.raw (.int .u64 ((x0.local_.Asked) 2))), .pv (.raw (.int .u64 ((x0.local_.Asked) 3))), .pv (.raw (.int .u64 ((x0.local_.Served) 0))), .pv (.raw (.int .u64 ((x0.local_.Served) 1))), .pv (.raw (.int .u64 ((x0.local_.Served) 2))), .pv (.raw (.int .u64 ((x0.local_.Served) 3))), .pv (.raw (.int .i64 (x0.local_.Class))), .pv (.raw (.bool (x0.nest_.On))), .pv ((E188.ro (x0.nest_.Kept))), .pv (.raw (.bool (x0.serving_)))]
def Y18 (x0 : KWh) : List AV := [.pv ((E5.ro x0.fetched_)), .pv ((E30.ro x0.tty_.Lines)), .pv ((E5.ro x0.tty_.Edit)), .pv (.raw (.int .i64 x0.taken_))]
def Y57 (x0 : Nat → Kernel_core) (x1 : KWh) (x2 : Nat) : List AV := (((Y93 x1 x2) ++ (Y89 (x0 0))) ++ ((Y0 (x0 1)) ++ (Y18 x1)))
def Y25 (x0 : KWh) (x1 : Int) (x2 : Api_Core) : Nat → Kernel_core := (upd x0.cores_ (Int.toNat x1) (⟨(x0.cores_ (Int.toNat x1)).local_, x2, (x0.cores_ (Int.toNat x1)).serving_⟩ : Kernel_core))
def Y49 (x0 : KWh) (x1 : Nat) (x2 : Api_Core) : Nat → Kernel_core := (upd x0.cores_ x1 (⟨(x0.cores_ x1).local_, x2, (x0.cores_ x1).serving_⟩ : Kernel_core))
def Y88 (x0 : Kernel_core) : List Prop := [(((x0.local_.Asked) 0) : Int) = ((x0.local_.Asked) 0), (((x0.local_.Asked) 1) : Int) = ((x0.local_.Asked) 1), (((x0.local_.Asked) 2) : Int) = ((x0.local_.Asked) 2), (((x0.local_.Asked) 3) : Int) = ((x0.local_.Asked) 3), (((x0.local_.Served) 0) : Int) = ((x0.local_.Served) 0), (((x0.local_.Served) 1) : Int) = ((x0.local_.Served) 1), (((x0.local_.Served) 2) : Int) = ((x0.local_.Served) 2), (((x0.local_.Served) 3) : Int) = ((x0.local_.Served) 3), (x0.local_.Class : Int) = (x0.local_.Class), (x0.nest_.On) = (x0.nest_.On), (x0.nest_.Kept).length = (x0.nest_.Kept).length, ∀ i, i < (x0.nest_.Kept).length → ∀ j, j < 2 → E188.cf ((x0.nest_.Kept).getD i E188.z) j = E188.cf ((x0.nest_.Kept).getD i E188.z) j, (x0.serving_) = (x0.serving_)]
theorem Y88p {x0 : Kernel_core} : allP (Y88 x0) := ⟨rfl, rfl, rfl, rfl, rfl, rfl, rfl, rfl, rfl, rfl, rfl, fun _ _ _ _ => rfl, rfl, trivial⟩
theorem kcd_ok (a0 : KWh) (k_a0 : Int) (a1 : Int) (r : Int × KWh) (h : kcd a0 k_a0 a1 = some r) : MCalls Tryz.prog 43 [.pix 0 (5 + (Int.toNat k_a0) * 12), .pv (.raw (.int .i64 a1))] [.box (Y11 a0 1), .row 52 7 (E52.cR a0.pins_)] 1 true (.pv (.raw (.int .i64 r.1))) [.box (Y11 r.2 1), .row 52 7 (E52.cR r.2.pins_)] := by
 unfold kcd at h
 refine fnM_ok tabOk (fz := []) Tryz.func43 (by kernel_rfl) (by kernel_rfl) Tryz.ntmps43 (by simp) (by first | (simp; done) | exact Nat.le_of_ble_eq_true rfl) ?_
 obtain ⟨g1, h⟩ := if_ h
 refine s0 ?_
 refine ldca_ok (d := 11) (id := 0) (off := ((5 + (Int.toNat k_a0) * 12) + 9)) (n := 2) (cs := (Y11 a0 1)) [.pv (.raw (.bool ((a0.cores_ (Int.toNat k_a0)).nest_.On))), .pv ((E188.ro ((a0.cores_ (Int.toNat k_a0)).nest_.Kept)))] (by kernel_rfl) (by kernel_rfl) (by simp only [Y0, Y11, Y53, Y94, List.length_append, rA_length, fl_length, List.length_cons, List.length_nil]; first | omega | (simp at * <;> omega) | (simp_all <;> omega)) (allLt (p := fun kk0 => (((Y11 a0 1) : List AV).drop (((5 + kk0 * 12) + 9))).take 2 = [.pv (.raw (.bool ((a0.cores_ kk0).nest_.On))), .pv ((E188.ro ((a0.cores_ kk0).nest_.Kept)))]) (m := 2) ⟨⟨trivial, rfl⟩, rfl⟩ (Int.toNat k_a0) (by first | omega | (simp at * <;> omega) | (simp_all <;> omega))) ?_
 refine s0 ?_
 obtain ⟨r2, e3, h⟩ := bd_ h
 refine callF_ok (d := some 13) (fn := 70) (ax := [.agg [.pv (.raw (.bool ((a0.cores_ (Int.toNat k_a0)).nest_.On))), .pv ((E188.ro ((a0.cores_ (Int.toNat k_a0)).nest_.Kept)))], .pv (.raw (.int .i64 a1))]) (args := [.agg [.pv (.raw (.bool (((a0.cores_ (Int.toNat k_a0)).nest_).On))), .pv ((E188.ro (((a0.cores_ (Int.toNat k_a0)).nest_).Kept)))], .pv (.raw (.int .i64 a1))]) (ps := [((a0.cores_ (Int.toNat k_a0)).nest_.On) = (((a0.cores_ (Int.toNat k_a0)).nest_).On), ((a0.cores_ (Int.toNat k_a0)).nest_.Kept).length = (((a0.cores_ (Int.toNat k_a0)).nest_).Kept).length, ∀ i, i < ((a0.cores_ (Int.toNat k_a0)).nest_.Kept).length → ∀ j, j < 2 → E188.cf (((a0.cores_ (Int.toNat k_a0)).nest_.Kept).getD i E188.z) j = E188.cf ((((a0.cores_ (Int.toNat k_a0)).nest_).Kept).getD i E188.z) j, (a1 : Int) = a1]) (hb' := [.row 188 2 (E188.cR r2.1.Kept)]) (ps2 := [r2.1.On = r2.1.On, r2.1.Kept.length = r2.1.Kept.length, rowQ (E188.cR r2.1.Kept) 2 0 r2.1.Kept.length (fun i j => E188.cf (r2.1.Kept.getD i E188.z) j), (r2.2 : Int) = r2.2]) (.tup [.agg (Y109 r2.1), .pv (.raw (.int .i64 r2.2))]) (by kernel_rfl) (nest_Step_ok _ _ _ e3 (al := true)) (by kernel_rfl) ⟨(by first | rfl | (simp; done) | omega | (simp <;> omega)), (by first | rfl | simp_all), (by intros; first | rfl | simp_all), rfl, trivial⟩ (fun _ => (by kernel_rfl)) (by simp) (by simp only [Y109, List.map_cons, List.map_nil, Elem.row_up, up_map] <;> rfl) (by kernel_rfl) (by kernel_rfl) ⟨rfl, (by first | rfl | exact Elem.sub_len _ (by omega) | omega | simp | (simp <;> omega)), E188.rowQ_all r2.1.Kept rfl, rfl, trivial⟩ ?_
 refine sg (S := .br ((r2.2 : Int) == 0) (.leaf 0) (.leaf 1)) ?_
 refine br_ h ?_ ?_ <;> clear h <;> intro c4 h
 ·refine sk_leaf ?_
  refine stc_ok (id := 0) (off := ((5 + (Int.toNat k_a0) * 12) + 9)) (vs := (Y109 r2.1)) (cs := (Y11 a0 1)) (Y57 (Y25 a0 k_a0 r2.1) a0 1) (by kernel_rfl) (by kernel_rfl) (by simp only [Y0, Y109, Y11, Y18, Y53, Y57, Y89, Y93, Y94, List.length_append, rA_length, fl_length, List.length_cons, List.length_nil]; first | omega | (simp at * <;> omega) | (simp_all <;> omega)) (allLt (p := fun kk0 => setCells (Y11 a0 1) (((5 + kk0 * 12) + 9)) (Y109 r2.1) = ((Y93 a0 1) ++ ((Y89 ((Y49 a0 kk0 r2.1) 0)) ++ ((Y89 ((Y49 a0 kk0 r2.1) 1)) ++ (Y94 a0))))) (m := 2) ⟨⟨trivial, rfl⟩, rfl⟩ (Int.toNat k_a0) (by first | omega | (simp at * <;> omega) | (simp_all <;> omega))) ?_
  refine s0 ?_
  obtain rfl := some_ h
  exact endM_ok [(0, some 0), (1, some 1)] Tryz.results43 (ps := (([(r2.2 : Int) = r2.2, a0.uart_.In.length = a0.uart_.In.length, ∀ i, i < a0.uart_.In.length → ∀ j, j < 1 → E5.cf (a0.uart_.In.getD i E5.z) j = E5.cf (a0.uart_.In.getD i E5.z) j, a0.uart_.Out.length = a0.uart_.Out.length, ∀ i, i < a0.uart_.Out.length → ∀ j, j < 1 → E5.cf (a0.uart_.Out.getD i E5.z) j = E5.cf (a0.uart_.Out.getD i E5.z) j, (a0.uart_.Lost : Int) = a0.uart_.Lost, a0.uart_.Asks = a0.uart_.Asks, 0 = 0, a0.pins_.length = a0.pins_.length] ++ (Y88 ((Y25 a0 k_a0 r2.1) 0))) ++ ((Y1 ((Y25 a0 k_a0 r2.1) 1)) ++ (Y15 a0)))) (by kernel_rfl) (allP_append.2 ⟨(allP_append.2 ⟨⟨rfl, rfl, fun _ _ _ _ => rfl, rfl, fun _ _ _ _ => rfl, rfl, rfl, rfl, rfl, trivial⟩, Y88p⟩), (allP_append.2 ⟨Y1p, Y15p⟩)⟩) (fun hx => by cases hx)
 ·cases h
theorem tty_Right_1_ok (a0 : (List Int)) (r : Bool) (h : tty_Right_1 a0 = some r) {al : Bool} : PCalls Tryz.prog 91 [.pv ((E5.ro a0))] al (.pv (.raw (.bool r))) [] := by
 unfold tty_Right_1 at h
 refine fn_ok tabOk Tryz.func91 (by kernel_rfl) (by kernel_rfl) Tryz.ntmps91 (by simp) ?_
 refine s0 ?_
 obtain rfl := some_ h
 exact end_ok [] Tryz.results91 (ps := [(decide ((((a0.length : Nat) : Int) : Int) > 65)) = (decide ((((a0.length : Nat) : Int) : Int) > 65))]) (by kernel_rfl) ⟨rfl, trivial⟩ (fun _ => ⟨rfl, by simp⟩)
theorem slices_IndexFunc_slbyte_tty_Right_1_ok (a0 : (List (List Int))) (r : Int) (h : slices_IndexFunc_slbyte_tty_Right_1 a0 = some r) {al : Bool} : PCalls Tryz.prog 111 [.pv ((E30.ro a0)), .fn 91 []] al (.pv (.raw (.int .i64 r))) [] := by
 unfold slices_IndexFunc_slbyte_tty_Right_1 at h
 refine fn_ok tabOk Tryz.func111 (by kernel_rfl) (by kernel_rfl) Tryz.ntmps111 (by simp) ?_
 refine s0 ?_
 refine len_ro (by kernel_rfl) 0 (s := 1) (n := a0.length) (c := fun i j => E30.cf (a0.getD i E30.z) j) (by kernel_rfl) ?_; intro hl1_0
 replace h : (fun (x : Nat × Nat) => slices_IndexFunc_slbyte_tty_Right_1_l1 a0 x.1 x.2 = some r) (FUEL, 0) := h
 refine loop_ok (by kernel_rfl) (X := Nat × Nat) (fun x => slices_IndexFunc_slbyte_tty_Right_1_l1 a0 x.1 x.2 = some r) (fun x => x.1) (fun x => mk 19 [(0, .pv ((E30.ro a0))), (1, .fn 91 []), (4, .pv (.raw (.int .i64 0))), (7, .pv (.raw (.int .i64 ((a0.length : Nat) : Int)))), (8, .pv (.raw (.int .i64 ((x.2 : Nat) : Int))))] []) (FUEL, 0) h ?_ ?_
 ·exact sub_ok (ρ := []) (l := [a0.length = a0.length, ∀ i, i < a0.length → ∀ j, j < 1 → E30.cf (a0.getD i E30.z) j = E30.cf (a0.getD i E30.z) j, (0 : Int) = 0, (((a0.length : Nat) : Int) : Int) = ((a0.length : Nat) : Int), (0 : Int) = ((0 : Nat) : Int)]) (by kernel_rfl) ⟨rfl, fun _ _ _ _ => rfl, rfl, rfl, (by first | rfl | simp), trivial⟩
 ·clear h; rintro ⟨n1, k1⟩ h p1 hp1
  obtain _ | n1 := n1
  ·cases (show (none : Option (Int)) = some r from h)
  have h : slices_IndexFunc_slbyte_tty_Right_1_l1 a0 (n1 + 1) k1 = some r := h
  unfold slices_IndexFunc_slbyte_tty_Right_1_l1 at h
  refine sg (S := .br (decide ((((k1 : Nat) : Int) : Int) < ((a0.length : Nat) : Int))) (.and (0 ≤ (((k1 : Nat) : Int) : Int) ∧ ((k1 : Nat) : Int) < ((a0.length : Nat) : Int)) (.leaf 0)) (.leaf 1)) ?_
  refine br_ h ?_ ?_ <;> clear h <;> intro c2 h
  ·refine sk_and ⟨Int.natCast_nonneg _, of_decide_eq_true c2⟩ ?_
   refine sk_leaf ?_
   obtain ⟨r4, e5, h⟩ := bd_ h
   refine call_ok (d := some 16) (fn := 91) (ax := [.pv ((E5.ro (a0.getD k1 [])))]) (ps := [(a0.getD k1 []).length = (a0.getD k1 []).length, ∀ i, i < (a0.getD k1 []).length → ∀ j, j < 1 → E5.cf ((a0.getD k1 []).getD i E5.z) j = E5.cf ((a0.getD k1 []).getD i E5.z) j]) (hb' := []) (by kernel_rfl) (tty_Right_1_ok _ _ e5 (al := true)) (by kernel_rfl) ⟨rfl, fun _ _ _ _ => rfl, trivial⟩ (fun _ => (by kernel_rfl)) (by simp) rfl (by kernel_rfl) ?_
   refine sg (S := .br r4 (.leaf 0) (.leaf 1)) ?_
   refine br_ h ?_ ?_ <;> clear h <;> intro c6 h
   ·refine sk_leaf ?_
    obtain rfl := some_ h
    exact end_ok [] Tryz.results111 (ps := [(((k1 : Nat) : Int) : Int) = ((k1 : Nat) : Int)]) (by kernel_rfl) ⟨rfl, trivial⟩ (fun _ => ⟨rfl, by simp⟩)
   ·refine sk_leaf ?_
    refine back_ok (p := p1) (by kernel_rfl) (hp1 (n1, k1 + 1) _ h (Nat.lt_succ_self n1) ?_)
    exact sub_ok (ρ := []) (l := [a0.length = a0.length, ∀ i, i < a0.length → ∀ j, j < 1 → E30.cf (a0.getD i E30.z) j = E30.cf (a0.getD i E30.z) j, (0 : Int) = 0, (((a0.length : Nat) : Int) : Int) = ((a0.length : Nat) : Int), ((IntKind.i64.wrap (((k1 : Nat) : Int) + 1)) : Int) = (((k1 + 1) : Nat) : Int)]) (by kernel_rfl) ⟨rfl, fun _ _ _ _ => rfl, rfl, rfl, (wrap_nat (Int.ofNat_lt.1 (of_decide_eq_true c2)) (by omega)), trivial⟩
  ·refine sk_leaf ?_
   obtain rfl := some_ h
   exact end_ok [] Tryz.results111 (ps := [((-1) : Int) = (-1)]) (by kernel_rfl) ⟨rfl, trivial⟩ (fun _ => ⟨rfl, by simp⟩)
theorem slices_ContainsFunc_slbyte_tty_Right_1_ok (a0 : (List (List Int))) (r : Bool) (h : slices_ContainsFunc_slbyte_tty_Right_1 a0 = some r) {al : Bool} : PCalls Tryz.prog 90 [.pv ((E30.ro a0)), .fn 91 []] al (.pv (.raw (.bool r))) [] := by
 unfold slices_ContainsFunc_slbyte_tty_Right_1 at h
 refine fn_ok tabOk Tryz.func90 (by kernel_rfl) (by kernel_rfl) Tryz.ntmps90 (by simp) ?_
 refine s0 ?_
 obtain ⟨r1, e2, h⟩ := bd_ h
 refine call_ok (d := some 7) (fn := 111) (ax := [.pv ((E30.ro a0)), .fn 91 []]) (ps := [a0.length = a0.length, ∀ i, i < a0.length → ∀ j, j < 1 → E30.cf (a0.getD i E30.z) j = E30.cf (a0.getD i E30.z) j]) (hb' := []) (by kernel_rfl) (slices_IndexFunc_slbyte_tty_Right_1_ok _ _ e2 (al := false)) (by kernel_rfl) ⟨rfl, fun _ _ _ _ => rfl, trivial⟩ (fun hx => by cases hx) (by simp) rfl (by kernel_rfl) ?_
 refine s0 ?_
 obtain rfl := some_ h
 exact end_ok [] Tryz.results90 (ps := [(decide ((r1 : Int) ≥ 0)) = (decide ((r1 : Int) ≥ 0))]) (by kernel_rfl) ⟨rfl, trivial⟩ (fun _ => ⟨rfl, by simp⟩)
def Y114 (x0 : Api_Tty) : List AV := [.pv ((E30.ro x0.Lines)), .pv ((E5.ro x0.Edit))]
def Y74 (x0 : Api_Tty) : Bool := (decide ((((x0.Edit.length : Nat) : Int) : Int) ≤ 64))
def Y108 (x0 : Bool) (x1 : Api_Tty) : Bool := (x0 && (decide ((((x1.Lines.length : Nat) : Int) : Int) ≤ 400)))
theorem tty_Right_ok (a0 : Api_Tty) (r : Bool) (h : tty_Right a0 = some r) {al : Bool} : PCalls Tryz.prog 67 [.agg (Y114 a0)] al (.pv (.raw (.bool r))) [] := by
 unfold tty_Right at h
 refine fn_ok tabOk Tryz.func67 (by kernel_rfl) (by kernel_rfl) Tryz.ntmps67 (by simp) ?_
 refine sg (S := .and (((Y74 a0) = true → ((Y74 a0) = true))) (.and (((Y74 a0) = true → ((Y74 a0) = true))) (.and (((Y74 a0) = true → ((Y74 a0) = true))) (.and ((Y74 a0) = true → (Y74 a0) = true) (.and (((Y108 (Y74 a0) a0) = true → ((Y108 (Y74 a0) a0) = true))) (.leaf 0)))))) ?_
 refine sk_and (fun h => h) ?_
 refine sk_and (fun h => h) ?_
 refine sk_and (fun h => h) ?_
 refine sk_and (fun h => h) ?_
 refine sk_and (fun h => h) ?_
 refine sk_leaf ?_
 obtain ⟨r6, e7, h⟩ := bd_ h
 refine callG_ok (d := some 16) (fn := 90) (ax := [.pv ((E30.ro a0.Lines)), .fn 91 []]) (args := [.pv ((E30.ro a0.Lines)), .fn 91 []]) (g := ((decide ((((a0.Edit.length : Nat) : Int) : Int) ≤ 64)) && (decide ((((a0.Lines.length : Nat) : Int) : Int) ≤ 400)))) (ws := [((decide ((((a0.Edit.length : Nat) : Int) : Int) ≤ 64)) && (decide ((((a0.Lines.length : Nat) : Int) : Int) ≤ 400))) = true]) (ps := [a0.Lines.length = a0.Lines.length, ∀ i, i < a0.Lines.length → ∀ j, j < 1 → E30.cf (a0.Lines.getD i E30.z) j = E30.cf (a0.Lines.getD i E30.z) j]) (by kernel_rfl) (fun hg => ⟨((by decide : ∀ y0 : Bool, ((y0 = true) → (y0 = true))) ((decide ((((a0.Edit.length : Nat) : Int) : Int) ≤ 64)) && (decide ((((a0.Lines.length : Nat) : Int) : Int) ≤ 400)))) hg, trivial⟩) (fun hg => slices_ContainsFunc_slbyte_tty_Right_1_ok _ _ (by rw [hg] at e7; exact e7) (al := false)) (by kernel_rfl) (fun hg => ⟨rfl, fun _ _ _ _ => rfl, trivial⟩) (fun hx => by cases hx) ?_
 refine sg (S := .and (((Y108 (Y74 a0) a0) = true → ((Y108 (Y74 a0) a0) = true))) (.and ((Y108 (Y74 a0) a0) = true → (Y108 (Y74 a0) a0) = true) (.leaf 0))) ?_
 refine sk_and (fun h => h) ?_
 refine sk_and (fun h => h) ?_
 refine sk_leaf ?_
 obtain rfl := some_ h
 exact end_ok [] Tryz.results67 (ps := [(((decide ((((a0.Edit.length : Nat) : Int) : Int) ≤ 64)) && (decide ((((a0.Lines.length : Nat) : Int) : Int) ≤ 400))) && (!r6)) = (((decide ((((a0.Edit.length : Nat) : Int) : Int) ≤ 64)) && (decide ((((a0.Lines.length : Nat) : Int) : Int) ≤ 400))) && (!r6))]) (by kernel_rfl) ⟨rfl, trivial⟩ (fun _ => ⟨rfl, by simp⟩)
set_option maxRecDepth 100000 in
theorem bytes_Clone_ok (a0 r : List Int) (h : bytes_Clone a0 = some r) {al : Bool} : PCalls Tryz.prog 69 [.pv (E5.ro a0)] al (.row 0 1 0 r.length) [.row 5 1 (E5.cR r)] := by
 unfold bytes_Clone at h
 obtain ⟨g, h⟩ := if_ h
 obtain rfl := some_ h
 refine fn_ok tabOk Tryz.func69 (by kernel_rfl) (by kernel_rfl) Tryz.ntmps69 (by simp) ?_
 refine segs [1] tabOk mixed 4000 (S := .leaf 0) (by kernel_rfl) ?_
 refine sk_leaf ?_
 refine nil_ok (d1 := 3) (d2 := 4) (s := 1) (n := a0.length) (c := fun i j => E5.cf (a0.getD i E5.z) j) tabOk (by kernel_rfl) ?_
 intro b hb
 refine sg (S := .br b (.leaf 0) (.leaf 1)) ?_
 refine sk_br ?_ ?_ <;> intro hc <;> refine sk_leaf ?_
 ·obtain rfl : a0 = [] := List.eq_nil_of_length_eq_zero (hb hc)
  exact end_ok [(0, none)] Tryz.results69 (ps := [0 = 0, 0 = 0, E5.cR [] = []]) (by kernel_rfl) ⟨rfl, rfl, rfl, trivial⟩ (fun _ => ⟨rfl, by simp only [List.mem_cons, List.not_mem_nil, or_false, forall_eq]; exact Elem.cR_bald E5_raw _⟩)
 ·refine bs_ok (d := 5) (e := 5) (s := 1) (n := 0) (cs := []) (cs' := E5.cR []) (by kernel_rfl) rfl (by kernel_rfl) ?_
  refine s0 ?_
  refine app_ok (d := 7) (e := 5) (s := 1) (b := 1) (x := .row 16704 1 0 0) (y := .pv (E5.ro a0)) E5 (xs := []) (ys := a0) (by kernel_rfl) rfl (.row 16704 [] 0 rfl (by kernel_rfl)) (.ro a0) ⟨by simp; omega, by simp; omega⟩ (by kernel_rfl) ?_
  refine s0 ?_
  exact end_ok [(0, some 16832)] Tryz.results69 (ps := [0 = 0, a0.length = a0.length, E5.cR a0 = E5.cR a0, AllPv (E5.cR a0)]) (by kernel_rfl) ⟨rfl, rfl, rfl, Elem.cR_pv _ _, trivial⟩ (fun _ => ⟨rfl, by simp only [List.mem_cons, List.not_mem_nil, or_false, forall_eq]; exact Elem.cR_bald E5_raw _⟩)
theorem tty_own_ok (a0 : Api_Tty) (r : Api_Tty) (h : tty_own a0 = some r) : PCalls Tryz.prog 68 [.agg (Y114 a0)] true (.agg [.row 0 1 0 r.Lines.length, .row 1 1 0 r.Edit.length]) [.row 30 1 (E30.cR r.Lines), .row 5 1 (E5.cR r.Edit)] := by
 unfold tty_own at h
 refine fn_ok tabOk Tryz.func68 (by kernel_rfl) (by kernel_rfl) Tryz.ntmps68 (by simp) ?_
 refine s0 ?_
 obtain ⟨r1, e2, h⟩ := bd_ h
 refine call_ok (d := some 8) (fn := 69) (ax := [.pv ((E5.ro a0.Edit))]) (ps := (Y69 a0.Edit)) (hb' := [.row 5 1 (E5.cR r1)]) (by kernel_rfl) (bytes_Clone_ok _ _ e2 (al := true)) (by kernel_rfl) Y69p (fun _ => (by kernel_rfl)) (by simp) (by simp only [List.map_cons, List.map_nil, Elem.row_up, up_map] <;> rfl) (by kernel_rfl) ?_
 refine s0 ?_
 refine len_ro (by kernel_rfl) 11 (s := 1) (n := a0.Lines.length) (c := fun i j => E30.cf (a0.Lines.getD i E30.z) j) (by kernel_rfl) ?_; intro hl1_0
 refine len_box (by kernel_rfl) 16448 1 (cs := (Y114 a0)) (by kernel_rfl) (s := 1) (n := a0.Edit.length) (c := fun i j => E5.cf (a0.Edit.getD i E5.z) j) rfl ?_; intro hl1_1
 refine len_row (by kernel_rfl) 16896 (e := 5) (s := 1) (n := r1.length) (cs := E5.cR r1) (by kernel_rfl) (Elem.cR_length _ _) ?_; intro hl1_2
 replace h : (fun (x : Nat) => tty_own_l1 a0 r1 x = some r) (FUEL) := h
 refine loop_ok (by kernel_rfl) (X := Nat) (fun x => tty_own_l1 a0 r1 x = some r) (fun x => x) (fun x => mk 26 [(2, .ptr 0 0), (3, .ptr 1 0), (11, .pv ((E30.ro a0.Lines))), (12, .pv (.raw (.int .i64 ((a0.Lines.length : Nat) : Int)))), (13, .pv (.raw (.int .i64 0)))] [(0, .box [.pv (.raw (.slice none 0 0)), .pv (.raw (.slice none 0 0))]), (1, .box [.pv (.raw (.slice none 0 0)), .row 2 1 0 r1.length]), (2, .row 5 1 (E5.cR r1))]) (FUEL) h ?_ ?_
 ·exact sub_ok (ρ := [(0, some 16512), (1, some 16576), (2, some 16896)]) (l := [0 = 0, 0 = 0, a0.Lines.length = a0.Lines.length, ∀ i, i < a0.Lines.length → ∀ j, j < 1 → E30.cf (a0.Lines.getD i E30.z) j = E30.cf (a0.Lines.getD i E30.z) j, (((a0.Lines.length : Nat) : Int) : Int) = ((a0.Lines.length : Nat) : Int), (0 : Int) = 0, 0 = 0, r1.length = r1.length, E5.cR r1 = E5.cR r1, AllPv (E5.cR r1)]) (by kernel_rfl) ⟨rfl, rfl, rfl, fun _ _ _ _ => rfl, rfl, rfl, rfl, rfl, rfl, (Elem.cR_pv _ _), trivial⟩
 ·clear h; rintro n1 h p1 hp1
  obtain _ | n1 := n1
  ·cases (show (none : Option (Api_Tty)) = some r from h)
  have h : tty_own_l1 a0 r1 (n1 + 1)  = some r := h
  unfold tty_own_l1 at h
  refine sg (S := .br (decide ((0 : Int) < ((a0.Lines.length : Nat) : Int))) (.and (0 ≤ (0 : Int) ∧ 0 < ((a0.Lines.length : Nat) : Int)) (.leaf 0)) (.leaf 1)) ?_
  refine br_ h ?_ ?_ <;> clear h <;> intro c3 h
  ·cases h
  ·refine sk_leaf ?_
   obtain rfl := some_ h
   exact end_ok [(0, none), (1, some 2)] Tryz.results68 (ps := [0 = 0, ([] : List (List Int)).length = 0, 0 = 0, r1.length = r1.length, E30.cR [] = [], E5.cR r1 = E5.cR r1, AllPv (E5.cR r1)]) (by kernel_rfl) ⟨rfl, rfl, rfl, rfl, rfl, rfl, (Elem.cR_pv _ _), trivial⟩ (fun hx => by cases hx)
theorem tty_Key_ok (a0 : Api_Tty) (a1 : Int) (r : Api_Tty × Int) (h : tty_Key a0 a1 = some r) : PCalls Tryz.prog 66 [.agg (Y114 a0), .pv (.raw (.int .u8 a1))] true (.tup [.agg [.row 0 1 0 r.1.Lines.length, .row 1 1 0 r.1.Edit.length], .pv (.raw (.int .i64 r.2))]) [.row 30 1 (E30.cR r.1.Lines), .row 5 1 (E5.cR r.1.Edit)] := by
 unfold tty_Key at h
 refine fnZ_ok tabOk [88] Tryz.func66 (by kernel_rfl) (by kernel_rfl) Tryz.ntmps66 (by simp) ?_
 refine s0 ?_
 obtain ⟨r1, e2, h⟩ := bd_ h
 refine call_ok (d := some 9) (fn := 67) (ax := [.agg (Y114 a0)]) (ps := [a0.Lines.length = a0.Lines.length, ∀ i, i < a0.Lines.length → ∀ j, j < 1 → E30.cf (a0.Lines.getD i E30.z) j = E30.cf (a0.Lines.getD i E30.z) j, a0.Edit.length = a0.Edit.length, ∀ i, i < a0.Edit.length → ∀ j, j < 1 → E5.cf (a0.Edit.getD i E5.z) j = E5.cf (a0.Edit.getD i E5.z) j]) (hb' := []) (by kernel_rfl) (tty_Right_ok _ _ e2 (al := true)) (by kernel_rfl) ⟨rfl, fun _ _ _ _ => rfl, rfl, fun _ _ _ _ => rfl, trivial⟩ (fun _ => (by kernel_rfl)) (by simp) rfl (by kernel_rfl) ?_
 refine sg (S := .br (!r1) (.leaf 0) (.and (((!((a1 : Int) == 10)) = true → ((!((a1 : Int) == 10)) = true))) (.and (((a1 : Int) == 10) = false → (!((a1 : Int) == 10)) = true) (.and (((((a1 : Int) == 10) || ((a1 : Int) == 4)) = true → ((((a1 : Int) == 10) || ((a1 : Int) == 4)) = true))) (.and (((((a1 : Int) == 10) || ((a1 : Int) == 4)) = true → ((((a1 : Int) == 10) || ((a1 : Int) == 4)) = true))) (.and (((((a1 : Int) == 10) || ((a1 : Int) == 4)) = true → ((((a1 : Int) == 10) || ((a1 : Int) == 4)) = true))) (.and ((((a1 : Int) == 10) || ((a1 : Int) == 4)) = true → (((a1 : Int) == 10) || ((a1 : Int) == 4)) = true) (.br ((((a1 : Int) == 10) || ((a1 : Int) == 4)) && ((((a0.Lines.length : Nat) : Int) : Int) == 400)) (.leaf 1) (.br ((a1 : Int) == 10) (.leaf 2) (.br ((a1 : Int) == 4) (.leaf 3) (.br ((a1 : Int) == 8) (.and (0 ≤ ((if (0 : Int) > (IntKind.i64.wrap (((a0.Edit.length : Nat) : Int) - 1)) then 0 else (IntKind.i64.wrap (((a0.Edit.length : Nat) : Int) - 1))) : Int)) (.and ((Int.toNat (if (0 : Int) > (IntKind.i64.wrap (((a0.Edit.length : Nat) : Int) - 1)) then 0 else (IntKind.i64.wrap (((a0.Edit.length : Nat) : Int) - 1)))) ≤ a0.Edit.length) (.leaf 4))) (.br ((a1 : Int) == 21) (.leaf 5) (.br ((a1 : Int) == 23) (.leaf 6) (.br ((((a0.Edit.length : Nat) : Int) : Int) == 64) (.leaf 7) (.leaf 8))))))))))))))) ?_
 refine br_ h ?_ ?_ <;> clear h <;> intro c3 h
 ·cases h
 ·refine sk_and (fun h => h) ?_
  refine sk_and ((by decide : ∀ y0 : Bool, ((y0 = false) → ((!y0) = true))) ((a1 : Int) == 10)) ?_
  refine sk_and (fun h => h) ?_
  refine sk_and (fun h => h) ?_
  refine sk_and (fun h => h) ?_
  refine sk_and (fun h => h) ?_
  refine br_ h ?_ ?_ <;> clear h <;> intro c10 h
  ·cases h
  ·refine br_ h ?_ ?_ <;> clear h <;> intro c11 h
   ·cases h
   ·refine br_ h ?_ ?_ <;> clear h <;> intro c12 h
    ·cases h
    ·refine br_ h ?_ ?_ <;> clear h <;> intro c15 h
     ·cases h
     ·refine br_ h ?_ ?_ <;> clear h <;> intro c20 h
      ·cases h
      ·refine br_ h ?_ ?_ <;> clear h <;> intro c23 h
       ·cases h
       ·refine br_ h ?_ ?_ <;> clear h <;> intro c30 h
        ·cases h
        ·refine sk_leaf ?_
         obtain ⟨r31, e32, h⟩ := bd_ h
         refine call_ok (d := some 35) (fn := 69) (ax := [.pv ((E5.ro a0.Edit))]) (ps := (Y69 a0.Edit)) (hb' := [.row 5 1 (E5.cR r31)]) (by kernel_rfl) (bytes_Clone_ok _ _ e32 (al := true)) (by kernel_rfl) Y69p (fun _ => (by kernel_rfl)) (by simp) (by simp only [List.map_cons, List.map_nil, Elem.row_up, up_map] <;> rfl) (by kernel_rfl) ?_
         refine s0 ?_
         refine bs_ok (d := 37) (e := 5) (s := 1) (n := 1) (cs := [.pv (.raw (.int .u8 a1))]) (cs' := E5.cR [a1]) (by kernel_rfl) rfl (by kernel_rfl) ?_
         refine s0 ?_
         obtain ⟨g33, h⟩ := if_ h
         refine appF_ok (d := 38) (e := 5) (s := 1) (b := 1) (x := .row 18624 1 0 r31.length) (y := .row 18752 1 0 1) E5 (xs := r31) (ys := [a1]) (by kernel_rfl) rfl (.row 18624 r31 r31.length rfl (by kernel_rfl)) (.all 18752 5 [a1] 1 rfl (by kernel_rfl)) g33 (by kernel_rfl) ?_
         refine s0 ?_
         obtain ⟨r34, e35, h⟩ := bd_ h
         refine call_ok (d := some 70) (fn := 68) (ax := [.agg [.pv ((E30.ro a0.Lines)), .pv ((E5.ro (r31 ++ [a1])))]]) (ps := [a0.Lines.length = a0.Lines.length, ∀ i, i < a0.Lines.length → ∀ j, j < 1 → E30.cf (a0.Lines.getD i E30.z) j = E30.cf (a0.Lines.getD i E30.z) j, (r31 ++ [a1]).length = (r31 ++ [a1]).length, ∀ i, i < (r31 ++ [a1]).length → ∀ j, j < 1 → E5.cf ((r31 ++ [a1]).getD i E5.z) j = E5.cf ((r31 ++ [a1]).getD i E5.z) j]) (hb' := [.row 30 1 (E30.cR r34.Lines), .row 5 1 (E5.cR r34.Edit)]) (by kernel_rfl) (tty_own_ok _ _ e35) (by kernel_rfl) ⟨rfl, fun _ _ _ _ => rfl, rfl, fun _ _ _ _ => rfl, trivial⟩ (fun _ => (by kernel_rfl)) (by simp) (by simp only [List.map_cons, List.map_nil, Elem.row_up, up_map] <;> rfl) (by kernel_rfl) ?_
         refine s0 ?_
         obtain rfl := some_ h
         exact end_ok [(0, some 20864), (1, some 20865)] Tryz.results66 (ps := [0 = 0, r34.Lines.length = r34.Lines.length, 0 = 0, r34.Edit.length = r34.Edit.length, (0 : Int) = 0, E30.cR r34.Lines = E30.cR r34.Lines, AllPv (E30.cR r34.Lines), E5.cR r34.Edit = E5.cR r34.Edit, AllPv (E5.cR r34.Edit)]) (by kernel_rfl) ⟨rfl, rfl, rfl, rfl, rfl, rfl, (Elem.cR_pv _ _), rfl, (Elem.cR_pv _ _), trivial⟩ (fun hx => by cases hx)
end Go.Proofs.YthmieigenefilaaGreatDoor
