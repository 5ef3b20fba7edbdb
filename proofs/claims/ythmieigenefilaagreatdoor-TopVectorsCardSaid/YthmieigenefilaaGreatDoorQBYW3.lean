import Derived.Test.YthmieigenefilaaGreatDoorQBYW2
set_option linter.unusedSimpArgs false
set_option linter.unusedVariables false
namespace Go.Proofs.YthmieigenefilaaGreatDoor
open Go Go.Ab
set_option maxHeartbeats 40000000
set_option maxRecDepth 100000
attribute [local irreducible] V VS runS Sk.Holds
theorem bits_fits_ok (a0 : Int) (r : Bool) (h : bits_fits a0 = some r) {al : Bool} : PCalls Tryz.prog 28 [.pv (.raw (.int .i64 a0))] al (.pv (.raw (.bool r))) [] := by
 unfold bits_fits at h
 refine fn_ok tabOk Tryz.func28 (by kernel_rfl) (by kernel_rfl) Tryz.ntmps28 (by simp) ?_
 refine sg (S := .and (((decide ((a0 : Int) ≥ 0)) = true → ((decide ((a0 : Int) ≥ 0)) = true))) (.and ((decide ((a0 : Int) ≥ 0)) = true → (decide ((a0 : Int) ≥ 0)) = true) (.leaf 0))) ?_
 refine sk_and (fun h => h) ?_
 refine sk_and (fun h => h) ?_
 refine sk_leaf ?_
 obtain rfl := some_ h
 exact end_ok [] Tryz.results28 (ps := [((decide ((a0 : Int) ≥ 0)) && (decide ((a0 : Int) < 256))) = ((decide ((a0 : Int) ≥ 0)) && (decide ((a0 : Int) < 256)))]) (by kernel_rfl) ⟨rfl, trivial⟩ (fun _ => ⟨rfl, by simp⟩)
theorem bits_TrailingZeros64_ok (a0 : Int) (r : Int) (h : bits_TrailingZeros64 a0 = some r) {al : Bool} : PCalls Tryz.prog 122 [.pv (.raw (.int .u64 a0))] al (.pv (.raw (.int .i64 r))) [] := by
 unfold bits_TrailingZeros64 at h
 obtain ⟨g, h⟩ := if_ h
 obtain rfl := some_ h
 obtain ⟨n, rfl⟩ : ∃ n : Nat, a0 = n := ⟨a0.toNat, by omega⟩
 refine raw_pcalls (xs := [.int .u64 (n : Int)]) ⟨_, Tryz.func122, by kernel_rfl, by kernel_rfl⟩ fun w hgo => ?_
 exact Tryz.bits_TrailingZeros64 n w (by omega) (fun _ => gok_bruijn hgo (by kernel_rfl))
def Y28 (x0 : (Nat → Int)) : List AV := [.pv (.raw (.int .u64 (x0 0))), .pv (.raw (.int .u64 (x0 1))), .pv (.raw (.int .u64 (x0 2))), .pv (.raw (.int .u64 (x0 3)))]
def Y112 (x0 : (Nat → Int)) (x1 : Int) : List AV := [.pv (.raw (.int .u64 (bitsOf .andNot .u64 (x0 (Int.toNat (IntKind.i64.wrap (Int.tdiv (if (0 : Int) > x1 then 0 else x1) 64)))) (IntKind.u64.wrap ((IntKind.u64.wrap (1 * 2 ^ (min (Int.toNat (Int.tmod (if (0 : Int) > x1 then 0 else x1) 64)) IntKind.u64.bits))) - 1)))))]
def Y38 (x0 : Nat → Int) : List AV := [.pv (.raw (.int .u64 (x0 0))), .pv (.raw (.int .u64 (x0 1))), .pv (.raw (.int .u64 (x0 2))), .pv (.raw (.int .u64 (x0 3)))]
def Y13 (x0 : (Nat → Int)) (x1 : Int) : Nat → Int := (upd x0 (Int.toNat (IntKind.i64.wrap (Int.tdiv (if (0 : Int) > x1 then 0 else x1) 64))) (bitsOf .andNot .u64 (x0 (Int.toNat (IntKind.i64.wrap (Int.tdiv (if (0 : Int) > x1 then 0 else x1) 64)))) (IntKind.u64.wrap ((IntKind.u64.wrap (1 * 2 ^ (min (Int.toNat (Int.tmod (if (0 : Int) > x1 then 0 else x1) 64)) IntKind.u64.bits))) - 1))))
def Y106 (x0 : Nat → Int) : List AV := [.pv (.raw (.int .u64 (x0 0))), .pv (.raw (.int .u64 (x0 1))), .pv (.raw (.int .u64 (x0 2))), .pv (.raw (.int .u64 (x0 3)))]
def Y75 (x0 : (Nat → Int)) (x1 : Nat) (x2 : Int) : Nat → Int := (upd x0 x1 (bitsOf .andNot .u64 (x0 (Int.toNat (IntKind.i64.wrap (Int.tdiv (if (0 : Int) > x2 then 0 else x2) 64)))) (IntKind.u64.wrap ((IntKind.u64.wrap (1 * 2 ^ (min (Int.toNat (Int.tmod (if (0 : Int) > x2 then 0 else x2) 64)) IntKind.u64.bits))) - 1))))
theorem bits_Next_ok (a0 : (Nat → Int)) (a1 : Int) (r : Int) (h : bits_Next a0 a1 = some r) {al : Bool} : PCalls Tryz.prog 108 [.agg (Y28 a0), .pv (.raw (.int .i64 a1))] al (.pv (.raw (.int .i64 r))) [] := by
 unfold bits_Next at h
 refine fn_ok tabOk Tryz.func108 (by kernel_rfl) (by kernel_rfl) Tryz.ntmps108 (by simp) ?_
 refine s0 ?_
 obtain ⟨r1, e2, h⟩ := bd_ h
 refine call_ok (d := some 9) (fn := 28) (ax := [.pv (.raw (.int .i64 (if (0 : Int) > a1 then 0 else a1)))]) (ps := [((if (0 : Int) > a1 then 0 else a1) : Int) = (if (0 : Int) > a1 then 0 else a1)]) (hb' := []) (by kernel_rfl) (bits_fits_ok _ _ e2 (al := true)) (by kernel_rfl) ⟨rfl, trivial⟩ (fun _ => (by kernel_rfl)) (by simp) rfl (by kernel_rfl) ?_
 refine sg (S := .br (!r1) (.leaf 0) (.and ((64 : Int) ≠ 0) (.and (0 ≤ ((IntKind.i64.wrap (Int.tdiv (if (0 : Int) > a1 then 0 else a1) 64)) : Int) ∧ (IntKind.i64.wrap (Int.tdiv (if (0 : Int) > a1 then 0 else a1) 64)) < ((4 : Nat) : Int)) (.leaf 1)))) ?_
 refine br_ h ?_ ?_ <;> clear h <;> intro c3 h
 ·refine sk_leaf ?_
  obtain rfl := some_ h
  exact end_ok [] Tryz.results108 (ps := [((-1) : Int) = (-1)]) (by kernel_rfl) ⟨rfl, trivial⟩ (fun _ => ⟨rfl, by simp⟩)
 ·refine sk_and (by decide) ?_
  refine gd_ h ?_; clear h; intro g5 h
  refine sk_leaf ?_
  refine ldc_ok (d := 14) (id := 16512) (off := (0 + (Int.toNat (IntKind.i64.wrap (Int.tdiv (if (0 : Int) > a1 then 0 else a1) 64))) * 1)) (n := 1) (cs := (Y28 a0)) (.pv (.raw (.int .u64 (a0 (Int.toNat (IntKind.i64.wrap (Int.tdiv (if (0 : Int) > a1 then 0 else a1) 64))))))) (by kernel_rfl) (by kernel_rfl) (allLt (p := fun kk0 => ((Y28 a0) : List AV)[(0 + kk0 * 1)]? = some (.pv (.raw (.int .u64 (a0 kk0))))) (m := 4) ⟨⟨⟨⟨trivial, rfl⟩, rfl⟩, rfl⟩, rfl⟩ (Int.toNat (IntKind.i64.wrap (Int.tdiv (if (0 : Int) > a1 then 0 else a1) 64))) (by first | omega | (simp at * <;> omega) | (simp_all <;> omega))) ?_
  refine sg (S := .and ((64 : Int) ≠ 0) (.and (0 ≤ ((Int.tmod (if (0 : Int) > a1 then 0 else a1) 64) : Int)) (.and (0 ≤ ((IntKind.i64.wrap (Int.tdiv (if (0 : Int) > a1 then 0 else a1) 64)) : Int) ∧ (IntKind.i64.wrap (Int.tdiv (if (0 : Int) > a1 then 0 else a1) 64)) < ((4 : Nat) : Int)) (.leaf 0)))) ?_
  refine sk_and (by decide) ?_
  refine gd_ h ?_; clear h; intro g7 h
  refine gd_ h ?_; clear h; intro g8 h
  refine sk_leaf ?_
  refine stc_ok (id := 16512) (off := (0 + (Int.toNat (IntKind.i64.wrap (Int.tdiv (if (0 : Int) > a1 then 0 else a1) 64))) * 1)) (vs := (Y112 a0 a1)) (cs := (Y28 a0)) (Y38 (Y13 a0 a1)) (by kernel_rfl) (by kernel_rfl) (by simp only [Y106, Y112, Y28, Y38, List.length_append, rA_length, fl_length, List.length_cons, List.length_nil]; first | omega | (simp at * <;> omega) | (simp_all <;> omega)) (allLt (p := fun kk0 => setCells (Y28 a0) ((0 + kk0 * 1)) (Y112 a0 a1) = (Y106 (Y75 a0 kk0 a1))) (m := 4) ⟨⟨⟨⟨trivial, rfl⟩, rfl⟩, rfl⟩, rfl⟩ (Int.toNat (IntKind.i64.wrap (Int.tdiv (if (0 : Int) > a1 then 0 else a1) 64))) (by first | omega | (simp at * <;> omega) | (simp_all <;> omega))) ?_
  refine sg (S := .and ((64 : Int) ≠ 0) (.leaf 0)) ?_
  refine sk_and (by decide) ?_
  refine sk_leaf ?_
  replace h : (fun (x : Nat × Int) => bits_Next_l1 a0 a1 x.1 x.2 = some r) (FUEL, (IntKind.i64.wrap (Int.tdiv (if (0 : Int) > a1 then 0 else a1) 64))) := h
  refine loop_ok (by kernel_rfl) (X := Nat × Int) (fun x => bits_Next_l1 a0 a1 x.1 x.2 = some r) (fun x => x.1) (fun x => mk 38 [(2, .ptr 0 0), (4, .pv (.raw (.int .i64 0))), (5, .pv (.raw (.int .i64 x.2)))] [(0, .box (Y38 (Y13 a0 a1)))]) (FUEL, (IntKind.i64.wrap (Int.tdiv (if (0 : Int) > a1 then 0 else a1) 64))) h ?_ ?_
  ·exact sub_ok (ρ := [(0, some 16512)]) (l := [0 = 0, (0 : Int) = 0, ((IntKind.i64.wrap (Int.tdiv (if (0 : Int) > a1 then 0 else a1) 64)) : Int) = (IntKind.i64.wrap (Int.tdiv (if (0 : Int) > a1 then 0 else a1) 64)), (((Y13 a0 a1) 0) : Int) = ((Y13 a0 a1) 0), (((Y13 a0 a1) 1) : Int) = ((Y13 a0 a1) 1), (((Y13 a0 a1) 2) : Int) = ((Y13 a0 a1) 2), (((Y13 a0 a1) 3) : Int) = ((Y13 a0 a1) 3)]) (by kernel_rfl) ⟨rfl, rfl, rfl, rfl, rfl, rfl, rfl, trivial⟩
  ·clear h; rintro ⟨n1, x10⟩ h p1 hp1
   obtain _ | n1 := n1
   ·cases (show (none : Option (Int)) = some r from h)
   have h : bits_Next_l1 a0 a1 (n1 + 1) x10 = some r := h
   unfold bits_Next_l1 at h
   refine sg (S := .br (decide ((x10 : Int) < 4)) (.and (0 ≤ (x10 : Int) ∧ x10 < ((4 : Nat) : Int)) (.leaf 0)) (.leaf 1)) ?_
   refine br_ h ?_ ?_ <;> clear h <;> intro c11 h
   ·refine gd_ h ?_; clear h; intro g12 h
    refine sk_leaf ?_
    refine ldc_ok (d := 29) (id := 0) (off := (0 + (Int.toNat x10) * 1)) (n := 1) (cs := (Y38 (Y13 a0 a1))) (.pv (.raw (.int .u64 ((Y13 a0 a1) (Int.toNat x10))))) (by kernel_rfl) (by kernel_rfl) (allLt (p := fun kk0 => ((Y38 (Y13 a0 a1)) : List AV)[(0 + kk0 * 1)]? = some (.pv (.raw (.int .u64 ((Y13 a0 a1) kk0))))) (m := 4) ⟨⟨⟨⟨trivial, rfl⟩, rfl⟩, rfl⟩, rfl⟩ (Int.toNat x10) (by first | omega | (simp at * <;> omega) | (simp_all <;> omega))) ?_
    refine sg (S := .br ((((Y13 a0 a1) (Int.toNat x10)) : Int) != 0) (.and (0 ≤ (x10 : Int) ∧ x10 < ((4 : Nat) : Int)) (.leaf 0)) (.leaf 1)) ?_
    refine br_ h ?_ ?_ <;> clear h <;> intro c13 h
    ·refine gd_ h ?_; clear h; intro g14 h
     refine sk_leaf ?_
     refine ldc_ok (d := 35) (id := 0) (off := (0 + (Int.toNat x10) * 1)) (n := 1) (cs := (Y38 (Y13 a0 a1))) (.pv (.raw (.int .u64 ((Y13 a0 a1) (Int.toNat x10))))) (by kernel_rfl) (by kernel_rfl) (allLt (p := fun kk0 => ((Y38 (Y13 a0 a1)) : List AV)[(0 + kk0 * 1)]? = some (.pv (.raw (.int .u64 ((Y13 a0 a1) kk0))))) (m := 4) ⟨⟨⟨⟨trivial, rfl⟩, rfl⟩, rfl⟩, rfl⟩ (Int.toNat x10) (by first | omega | (simp at * <;> omega) | (simp_all <;> omega))) ?_
     refine s0 ?_
     obtain ⟨r15, e16, h⟩ := bd_ h
     refine call_ok (d := some 36) (fn := 122) (ax := [.pv (.raw (.int .u64 ((Y13 a0 a1) (Int.toNat x10))))]) (ps := [(((Y13 a0 a1) (Int.toNat x10)) : Int) = ((Y13 a0 a1) (Int.toNat x10))]) (hb' := []) (by kernel_rfl) (bits_TrailingZeros64_ok _ _ e16 (al := true)) (by kernel_rfl) ⟨rfl, trivial⟩ (fun _ => (by kernel_rfl)) (by simp) rfl (by kernel_rfl) ?_
     refine s0 ?_
     obtain rfl := some_ h
     exact end_ok [] Tryz.results108 (ps := [((IntKind.i64.wrap ((IntKind.i64.wrap (64 * x10)) + r15)) : Int) = (IntKind.i64.wrap ((IntKind.i64.wrap (64 * x10)) + r15))]) (by kernel_rfl) ⟨rfl, trivial⟩ (fun _ => ⟨rfl, by simp⟩)
    ·refine sk_leaf ?_
     refine back_ok (p := p1) (by kernel_rfl) (hp1 (n1, (IntKind.i64.wrap (x10 + 1))) _ h (Nat.lt_succ_self n1) ?_)
     exact sub_ok (ρ := [(0, some 0)]) (l := [0 = 0, (0 : Int) = 0, ((IntKind.i64.wrap (x10 + 1)) : Int) = (IntKind.i64.wrap (x10 + 1)), (((Y13 a0 a1) 0) : Int) = ((Y13 a0 a1) 0), (((Y13 a0 a1) 1) : Int) = ((Y13 a0 a1) 1), (((Y13 a0 a1) 2) : Int) = ((Y13 a0 a1) 2), (((Y13 a0 a1) 3) : Int) = ((Y13 a0 a1) 3)]) (by kernel_rfl) ⟨rfl, rfl, rfl, rfl, rfl, rfl, rfl, trivial⟩
   ·refine sk_leaf ?_
    obtain rfl := some_ h
    exact end_ok [] Tryz.results108 (ps := [((-1) : Int) = (-1)]) (by kernel_rfl) ⟨rfl, trivial⟩ (fun _ => ⟨rfl, by simp⟩)
theorem apic_class_ok (a0 : Int) (r : Int) (h : apic_class a0 = some r) {al : Bool} : PCalls Tryz.prog 86 [.pv (.raw (.int .i64 a0))] al (.pv (.raw (.int .i64 r))) [] := by
 unfold apic_class at h
 refine fn_ok tabOk Tryz.func86 (by kernel_rfl) (by kernel_rfl) Tryz.ntmps86 (by simp) ?_
 refine sg (S := .and ((16 : Int) ≠ 0) (.leaf 0)) ?_
 refine sk_and (by decide) ?_
 refine sk_leaf ?_
 obtain rfl := some_ h
 exact end_ok [] Tryz.results86 (ps := [((IntKind.i64.wrap (Int.tdiv a0 16)) : Int) = (IntKind.i64.wrap (Int.tdiv a0 16))]) (by kernel_rfl) ⟨rfl, trivial⟩ (fun _ => ⟨rfl, by simp⟩)
def Y23 (x0 : ALo) : List AV := [.pv (.raw (.int .u64 (x0.Asked 0))), .pv (.raw (.int .u64 (x0.Asked 1))), .pv (.raw (.int .u64 (x0.Asked 2))), .pv (.raw (.int .u64 (x0.Asked 3))), .pv (.raw (.int .u64 (x0.Served 0))), .pv (.raw (.int .u64 (x0.Served 1))), .pv (.raw (.int .u64 (x0.Served 2))), .pv (.raw (.int .u64 (x0.Served 3))), .pv (.raw (.int .i64 x0.Class))]
def Y63 (x0 : Nat → Int) (x1 : Int) : List Prop := [((x0 0) : Int) = (x0 0), ((x0 1) : Int) = (x0 1), ((x0 2) : Int) = (x0 2), ((x0 3) : Int) = (x0 3), (x1 : Int) = x1]
theorem Y63p {x0 : Nat → Int} {x1 : Int} : allP (Y63 x0 x1) := ⟨rfl, rfl, rfl, rfl, rfl, trivial⟩
def Y55 (x0 : ALo) : Bool := ((decide ((x0.Class : Int) ≥ 0)) && (decide ((x0.Class : Int) ≤ 15)))
theorem apic_Right_ok (a0 : ALo) (r : Bool) (h : apic_Right a0 = some r) {al : Bool} : PCalls Tryz.prog 84 [.agg (Y23 a0)] al (.pv (.raw (.bool r))) [] := by
 unfold apic_Right at h
 refine fn_ok tabOk Tryz.func84 (by kernel_rfl) (by kernel_rfl) Tryz.ntmps84 (by simp) ?_
 refine s0 ?_
 obtain ⟨r1, e2, h⟩ := bd_ h
 refine call_ok (d := some 7) (fn := 108) (ax := [.agg (Y38 a0.Served), .pv (.raw (.int .i64 0))]) (ps := (Y63 a0.Served 0)) (hb' := []) (by kernel_rfl) (bits_Next_ok _ _ _ e2 (al := true)) (by kernel_rfl) Y63p (fun _ => (by kernel_rfl)) (by simp) rfl (by kernel_rfl) ?_
 refine s0 ?_
 replace h : (fun (x : Nat × Int × Int) => apic_Right_l1 a0 r1 x.1 x.2.1 x.2.2 = some r) (FUEL, (-1), r1) := h
 refine loop_ok (by kernel_rfl) (X := Nat × Int × Int) (fun x => apic_Right_l1 a0 r1 x.1 x.2.1 x.2.2 = some r) (fun x => x.1) (fun x => mk 45 [(1, .ptr 0 0), (2, .pv (.raw (.bool false))), (3, .pv (.raw (.int .i64 x.2.1))), (4, .pv (.raw (.int .i64 x.2.2)))] [(0, .box (Y23 a0))]) (FUEL, (-1), r1) h ?_ ?_
 ·exact sub_ok (ρ := [(0, some 16448)]) (l := [0 = 0, false = false, ((-1) : Int) = (-1), (r1 : Int) = r1, ((a0.Asked 0) : Int) = (a0.Asked 0), ((a0.Asked 1) : Int) = (a0.Asked 1), ((a0.Asked 2) : Int) = (a0.Asked 2), ((a0.Asked 3) : Int) = (a0.Asked 3), ((a0.Served 0) : Int) = (a0.Served 0), ((a0.Served 1) : Int) = (a0.Served 1), ((a0.Served 2) : Int) = (a0.Served 2), ((a0.Served 3) : Int) = (a0.Served 3), (a0.Class : Int) = a0.Class]) (by kernel_rfl) ⟨rfl, rfl, rfl, rfl, rfl, rfl, rfl, rfl, rfl, rfl, rfl, rfl, rfl, trivial⟩
 ·clear h; rintro ⟨n1, x3, x4⟩ h p1 hp1
  obtain _ | n1 := n1
  ·cases (show (none : Option (Bool)) = some r from h)
  have h : apic_Right_l1 a0 r1 (n1 + 1) x3 x4 = some r := h
  unfold apic_Right_l1 at h
  refine sg (S := .br (decide ((x4 : Int) ≥ 0)) (.leaf 0) (.and (((decide ((a0.Class : Int) ≥ 0)) = true → ((decide ((a0.Class : Int) ≥ 0)) = true))) (.and (((decide ((a0.Class : Int) ≥ 0)) = true → ((decide ((a0.Class : Int) ≥ 0)) = true))) (.and ((decide ((a0.Class : Int) ≥ 0)) = true → (decide ((a0.Class : Int) ≥ 0)) = true) (.and (((Y55 a0) = true → ((Y55 a0) = true))) (.leaf 1)))))) ?_
  refine br_ h ?_ ?_ <;> clear h <;> intro c5 h
  ·refine sk_leaf ?_
   obtain ⟨r6, e7, h⟩ := bd_ h
   refine call_ok (d := some 16) (fn := 86) (ax := [.pv (.raw (.int .i64 x4))]) (ps := [(x4 : Int) = x4]) (hb' := []) (by kernel_rfl) (apic_class_ok _ _ e7 (al := true)) (by kernel_rfl) ⟨rfl, trivial⟩ (fun _ => (by kernel_rfl)) (by simp) rfl (by kernel_rfl) ?_
   refine sg (S := .and (((!((r6 : Int) == x3)) = true → ((!((r6 : Int) == x3)) = true))) (.and (((r6 : Int) == x3) = false → (!((r6 : Int) == x3)) = true) (.br (((r6 : Int) == x3) || (decide ((x4 : Int) < 32))) (.leaf 0) (.leaf 1)))) ?_
   refine sk_and (fun h => h) ?_
   refine sk_and ((by decide : ∀ y0 : Bool, ((y0 = false) → ((!y0) = true))) ((r6 : Int) == x3)) ?_
   refine br_ h ?_ ?_ <;> clear h <;> intro c10 h
   ·cases h
   ·refine sk_leaf ?_
    obtain ⟨r11, e12, h⟩ := bd_ h
    refine call_ok (d := some 24) (fn := 86) (ax := [.pv (.raw (.int .i64 x4))]) (ps := [(x4 : Int) = x4]) (hb' := []) (by kernel_rfl) (apic_class_ok _ _ e12 (al := true)) (by kernel_rfl) ⟨rfl, trivial⟩ (fun _ => (by kernel_rfl)) (by simp) rfl (by kernel_rfl) ?_
    refine s0 ?_
    obtain ⟨r13, e14, h⟩ := bd_ h
    refine call_ok (d := some 14) (fn := 108) (ax := [.agg (Y38 a0.Served), .pv (.raw (.int .i64 (IntKind.i64.wrap (x4 + 1))))]) (ps := [((a0.Served 0) : Int) = (a0.Served 0), ((a0.Served 1) : Int) = (a0.Served 1), ((a0.Served 2) : Int) = (a0.Served 2), ((a0.Served 3) : Int) = (a0.Served 3), ((IntKind.i64.wrap (x4 + 1)) : Int) = (IntKind.i64.wrap (x4 + 1))]) (hb' := []) (by kernel_rfl) (bits_Next_ok _ _ _ e14 (al := true)) (by kernel_rfl) ⟨rfl, rfl, rfl, rfl, rfl, trivial⟩ (fun _ => (by kernel_rfl)) (by simp) rfl (by kernel_rfl) ?_
    refine s0 ?_
    refine back_ok (p := p1) (by kernel_rfl) (hp1 (n1, r11, r13) _ h (Nat.lt_succ_self n1) ?_)
    exact sub_ok (ρ := [(0, some 0)]) (l := [0 = 0, false = false, (r11 : Int) = r11, (r13 : Int) = r13, ((a0.Asked 0) : Int) = (a0.Asked 0), ((a0.Asked 1) : Int) = (a0.Asked 1), ((a0.Asked 2) : Int) = (a0.Asked 2), ((a0.Asked 3) : Int) = (a0.Asked 3), ((a0.Served 0) : Int) = (a0.Served 0), ((a0.Served 1) : Int) = (a0.Served 1), ((a0.Served 2) : Int) = (a0.Served 2), ((a0.Served 3) : Int) = (a0.Served 3), (a0.Class : Int) = a0.Class]) (by kernel_rfl) ⟨rfl, rfl, rfl, rfl, rfl, rfl, rfl, rfl, rfl, rfl, rfl, rfl, rfl, trivial⟩
  ·refine sk_and (fun h => h) ?_
   refine sk_and (fun h => h) ?_
   refine sk_and (fun h => h) ?_
   refine sk_and (fun h => h) ?_
   refine sk_leaf ?_
   obtain ⟨r19, e20, h⟩ := bd_ h
   refine callG_ok (d := some 36) (fn := 108) (ax := [.agg (Y38 a0.Asked), .pv (.raw (.int .i64 0))]) (args := [.agg (Y38 a0.Asked), .pv (.raw (.int .i64 0))]) (g := ((decide ((a0.Class : Int) ≥ 0)) && (decide ((a0.Class : Int) ≤ 15)))) (ws := [((decide ((a0.Class : Int) ≥ 0)) && (decide ((a0.Class : Int) ≤ 15))) = true]) (ps := (Y63 a0.Asked 0)) (by kernel_rfl) (fun hg => ⟨((by decide : ∀ y0 : Bool, ((y0 = true) → (y0 = true))) ((decide ((a0.Class : Int) ≥ 0)) && (decide ((a0.Class : Int) ≤ 15)))) hg, trivial⟩) (fun hg => bits_Next_ok _ _ _ (by rw [hg] at e20; exact e20) (al := true)) (by kernel_rfl) (fun hg => ⟨rfl, rfl, rfl, rfl, rfl, trivial⟩) (fun _ => (by kernel_rfl)) ?_
   refine sg (S := .and (((Y55 a0) = true → ((Y55 a0) = true))) (.and (((Y55 a0) = true → ((Y55 a0) = true))) (.and ((((Y55 a0) && !(decide ((r19 : Int) < 0))) = true → (((Y55 a0) && !(decide ((r19 : Int) < 0))) = true))) (.leaf 0)))) ?_
   refine sk_and (fun h => h) ?_
   refine sk_and (fun h => h) ?_
   refine sk_and (fun h => h) ?_
   refine sk_leaf ?_
   obtain ⟨r24, e25, h⟩ := bd_ h
   refine callG_ok (d := some 41) (fn := 108) (ax := [.agg (Y38 a0.Asked), .pv (.raw (.int .i64 0))]) (args := [.agg (Y38 a0.Asked), .pv (.raw (.int .i64 0))]) (g := (((decide ((a0.Class : Int) ≥ 0)) && (decide ((a0.Class : Int) ≤ 15))) && !(decide ((r19 : Int) < 0)))) (ws := [(((decide ((a0.Class : Int) ≥ 0)) && (decide ((a0.Class : Int) ≤ 15))) && !(decide ((r19 : Int) < 0))) = true]) (ps := (Y63 a0.Asked 0)) (by kernel_rfl) (fun hg => ⟨((by decide : ∀ y0 : Bool, ((y0 = true) → (y0 = true))) (((decide ((a0.Class : Int) ≥ 0)) && (decide ((a0.Class : Int) ≤ 15))) && !(decide ((r19 : Int) < 0)))) hg, trivial⟩) (fun hg => bits_Next_ok _ _ _ (by rw [hg] at e25; exact e25) (al := true)) (by kernel_rfl) (fun hg => ⟨rfl, rfl, rfl, rfl, rfl, trivial⟩) (fun _ => (by kernel_rfl)) ?_
   refine sg (S := .and ((((Y55 a0) && !(decide ((r19 : Int) < 0))) = true → (((Y55 a0) && !(decide ((r19 : Int) < 0))) = true))) (.and (((Y55 a0) = true → ((Y55 a0) = true))) (.and (((Y55 a0) = true → ((decide ((r19 : Int) < 0)) = false → ((Y55 a0) && !(decide ((r19 : Int) < 0))) = true))) (.and ((Y55 a0) = true → (Y55 a0) = true) (.leaf 0))))) ?_
   refine sk_and (fun h => h) ?_
   refine sk_and (fun h => h) ?_
   refine sk_and ((by decide : ∀ y0 y1 : Bool, ((y0 = true) → ((y1 = false) → ((y0 && (!y1)) = true)))) (Y55 a0) (decide ((r19 : Int) < 0))) ?_
   refine sk_and (fun h => h) ?_
   refine sk_leaf ?_
   obtain rfl := some_ h
   exact end_ok [] Tryz.results84 (ps := [(((decide ((a0.Class : Int) ≥ 0)) && (decide ((a0.Class : Int) ≤ 15))) && ((decide ((r19 : Int) < 0)) || (decide ((r24 : Int) ≥ 32)))) = (((decide ((a0.Class : Int) ≥ 0)) && (decide ((a0.Class : Int) ≤ 15))) && ((decide ((r19 : Int) < 0)) || (decide ((r24 : Int) ≥ 32))))]) (by kernel_rfl) ⟨rfl, trivial⟩ (fun _ => ⟨rfl, by simp⟩)
def Y42 (x0 : (Nat → Int)) (x1 : Int) : Nat → Int := (upd x0 (Int.toNat (IntKind.i64.wrap (Int.tdiv x1 64))) (bitsOf .or .u64 (x0 (Int.toNat (IntKind.i64.wrap (Int.tdiv x1 64)))) (IntKind.u64.wrap (1 * 2 ^ (min (Int.toNat (Int.tmod x1 64)) IntKind.u64.bits)))))
def Y118 (x0 : Nat → Int) : List AV := [.pv (.raw (.int .u64 (x0 0))), .pv (.raw (.int .u64 (x0 1))), .pv (.raw (.int .u64 (x0 2))), .pv (.raw (.int .u64 (x0 3)))]
def Y99 (x0 : (Nat → Int)) (x1 : Nat) (x2 : Int) : Nat → Int := (upd x0 x1 (bitsOf .or .u64 (x0 (Int.toNat (IntKind.i64.wrap (Int.tdiv x2 64)))) (IntKind.u64.wrap (1 * 2 ^ (min (Int.toNat (Int.tmod x2 64)) IntKind.u64.bits)))))
def Y92 (x0 : Nat → Int) : List Prop := [((x0 0) : Int) = (x0 0), ((x0 1) : Int) = (x0 1), ((x0 2) : Int) = (x0 2), ((x0 3) : Int) = (x0 3)]
theorem Y92p {x0 : Nat → Int} : allP (Y92 x0) := ⟨rfl, rfl, rfl, rfl, trivial⟩
theorem bits_With_ok (a0 : (Nat → Int)) (a1 : Int) (r : (Nat → Int)) (h : bits_With a0 a1 = some r) {al : Bool} : PCalls Tryz.prog 14 [.agg (Y28 a0), .pv (.raw (.int .i64 a1))] al (.agg [.pv (.raw (.int .u64 (r 0))), .pv (.raw (.int .u64 (r 1))), .pv (.raw (.int .u64 (r 2))), .pv (.raw (.int .u64 (r 3)))]) [] := by
 unfold bits_With at h
 refine fn_ok tabOk Tryz.func14 (by kernel_rfl) (by kernel_rfl) Tryz.ntmps14 (by simp) ?_
 refine s0 ?_
 obtain ⟨r1, e2, h⟩ := bd_ h
 refine call_ok (d := some 6) (fn := 28) (ax := [.pv (.raw (.int .i64 a1))]) (ps := [(a1 : Int) = a1]) (hb' := []) (by kernel_rfl) (bits_fits_ok _ _ e2 (al := true)) (by kernel_rfl) ⟨rfl, trivial⟩ (fun _ => (by kernel_rfl)) (by simp) rfl (by kernel_rfl) ?_
 refine sg (S := .br r1 (.and ((64 : Int) ≠ 0) (.and (0 ≤ ((IntKind.i64.wrap (Int.tdiv a1 64)) : Int) ∧ (IntKind.i64.wrap (Int.tdiv a1 64)) < ((4 : Nat) : Int)) (.leaf 0))) (.leaf 1)) ?_
 refine br_ h ?_ ?_ <;> clear h <;> intro c3 h
 ·refine sk_and (by decide) ?_
  refine gd_ h ?_; clear h; intro g5 h
  refine sk_leaf ?_
  refine ldc_ok (d := 10) (id := 16512) (off := (0 + (Int.toNat (IntKind.i64.wrap (Int.tdiv a1 64))) * 1)) (n := 1) (cs := (Y28 a0)) (.pv (.raw (.int .u64 (a0 (Int.toNat (IntKind.i64.wrap (Int.tdiv a1 64))))))) (by kernel_rfl) (by kernel_rfl) (allLt (p := fun kk0 => ((Y28 a0) : List AV)[(0 + kk0 * 1)]? = some (.pv (.raw (.int .u64 (a0 kk0))))) (m := 4) ⟨⟨⟨⟨trivial, rfl⟩, rfl⟩, rfl⟩, rfl⟩ (Int.toNat (IntKind.i64.wrap (Int.tdiv a1 64))) (by first | omega | (simp at * <;> omega) | (simp_all <;> omega))) ?_
  refine sg (S := .and ((64 : Int) ≠ 0) (.and (0 ≤ ((Int.tmod a1 64) : Int)) (.and (0 ≤ ((IntKind.i64.wrap (Int.tdiv a1 64)) : Int) ∧ (IntKind.i64.wrap (Int.tdiv a1 64)) < ((4 : Nat) : Int)) (.leaf 0)))) ?_
  refine sk_and (by decide) ?_
  refine gd_ h ?_; clear h; intro g7 h
  refine gd_ h ?_; clear h; intro g8 h
  refine sk_leaf ?_
  refine stc_ok (id := 16512) (off := (0 + (Int.toNat (IntKind.i64.wrap (Int.tdiv a1 64))) * 1)) (vs := [.pv (.raw (.int .u64 (bitsOf .or .u64 (a0 (Int.toNat (IntKind.i64.wrap (Int.tdiv a1 64)))) (IntKind.u64.wrap (1 * 2 ^ (min (Int.toNat (Int.tmod a1 64)) IntKind.u64.bits))))))]) (cs := (Y28 a0)) (Y106 (Y42 a0 a1)) (by kernel_rfl) (by kernel_rfl) (by simp only [Y106, Y118, Y28, List.length_append, rA_length, fl_length, List.length_cons, List.length_nil]; first | omega | (simp at * <;> omega) | (simp_all <;> omega)) (allLt (p := fun kk0 => setCells (Y28 a0) ((0 + kk0 * 1)) [.pv (.raw (.int .u64 (bitsOf .or .u64 (a0 (Int.toNat (IntKind.i64.wrap (Int.tdiv a1 64)))) (IntKind.u64.wrap (1 * 2 ^ (min (Int.toNat (Int.tmod a1 64)) IntKind.u64.bits))))))] = (Y118 (Y99 a0 kk0 a1))) (m := 4) ⟨⟨⟨⟨trivial, rfl⟩, rfl⟩, rfl⟩, rfl⟩ (Int.toNat (IntKind.i64.wrap (Int.tdiv a1 64))) (by first | omega | (simp at * <;> omega) | (simp_all <;> omega))) ?_
  refine s0 ?_
  obtain rfl := some_ h
  exact end_ok [] Tryz.results14 (ps := (Y92 (Y42 a0 a1))) (by kernel_rfl) Y92p (fun _ => ⟨rfl, by simp⟩)
 ·refine sk_leaf ?_
  obtain rfl := some_ h
  exact end_ok [] Tryz.results14 (ps := [((a0 0) : Int) = (a0 0), ((a0 1) : Int) = (a0 1), ((a0 2) : Int) = (a0 2), ((a0 3) : Int) = (a0 3)]) (by kernel_rfl) ⟨rfl, rfl, rfl, rfl, trivial⟩ (fun _ => ⟨rfl, by simp⟩)
theorem bits_LeadingZeros64_ok (a0 : Int) (r : Int) (h : bits_LeadingZeros64 a0 = some r) {al : Bool} : PCalls Tryz.prog 109 [.pv (.raw (.int .u64 a0))] al (.pv (.raw (.int .i64 r))) [] := by
 unfold bits_LeadingZeros64 at h
 obtain ⟨g, h⟩ := if_ h
 obtain rfl := some_ h
 exact raw_pcalls (xs := [.int .u64 a0]) ⟨_, Tryz.func109, by kernel_rfl, by kernel_rfl⟩ fun w hgo => Tryz.bits_LeadingZeros64 a0 w (by omega) (by omega)
theorem bits_Top_ok (a0 : (Nat → Int)) (r : Int) (h : bits_Top a0 = some r) {al : Bool} : PCalls Tryz.prog 85 [.agg (Y28 a0)] al (.pv (.raw (.int .i64 r))) [] := by
 unfold bits_Top at h
 refine fn_ok tabOk Tryz.func85 (by kernel_rfl) (by kernel_rfl) Tryz.ntmps85 (by simp) ?_
 refine s0 ?_
 replace h : (fun (x : Nat × Int) => bits_Top_l1 a0 x.1 x.2 = some r) (FUEL, 3) := h
 refine loop_ok (by kernel_rfl) (X := Nat × Int) (fun x => bits_Top_l1 a0 x.1 x.2 = some r) (fun x => x.1) (fun x => mk 20 [(1, .ptr 0 0), (2, .pv (.raw (.int .i64 0))), (3, .pv (.raw (.int .i64 x.2)))] [(0, .box (Y28 a0))]) (FUEL, 3) h ?_ ?_
 ·exact sub_ok (ρ := [(0, some 16448)]) (l := [0 = 0, (0 : Int) = 0, (3 : Int) = 3, ((a0 0) : Int) = (a0 0), ((a0 1) : Int) = (a0 1), ((a0 2) : Int) = (a0 2), ((a0 3) : Int) = (a0 3)]) (by kernel_rfl) ⟨rfl, rfl, rfl, rfl, rfl, rfl, rfl, trivial⟩
 ·clear h; rintro ⟨n1, x1⟩ h p1 hp1
  obtain _ | n1 := n1
  ·cases (show (none : Option (Int)) = some r from h)
  have h : bits_Top_l1 a0 (n1 + 1) x1 = some r := h
  unfold bits_Top_l1 at h
  refine sg (S := .br (decide ((x1 : Int) ≥ 0)) (.and (0 ≤ (x1 : Int) ∧ x1 < ((4 : Nat) : Int)) (.leaf 0)) (.leaf 1)) ?_
  refine br_ h ?_ ?_ <;> clear h <;> intro c2 h
  ·refine gd_ h ?_; clear h; intro g3 h
   refine sk_leaf ?_
   refine ldc_ok (d := 10) (id := 0) (off := (0 + (Int.toNat x1) * 1)) (n := 1) (cs := (Y28 a0)) (.pv (.raw (.int .u64 (a0 (Int.toNat x1))))) (by kernel_rfl) (by kernel_rfl) (allLt (p := fun kk0 => ((Y28 a0) : List AV)[(0 + kk0 * 1)]? = some (.pv (.raw (.int .u64 (a0 kk0))))) (m := 4) ⟨⟨⟨⟨trivial, rfl⟩, rfl⟩, rfl⟩, rfl⟩ (Int.toNat x1) (by first | omega | (simp at * <;> omega) | (simp_all <;> omega))) ?_
   refine sg (S := .br (((a0 (Int.toNat x1)) : Int) != 0) (.and (0 ≤ (x1 : Int) ∧ x1 < ((4 : Nat) : Int)) (.leaf 0)) (.leaf 1)) ?_
   refine br_ h ?_ ?_ <;> clear h <;> intro c4 h
   ·refine gd_ h ?_; clear h; intro g5 h
    refine sk_leaf ?_
    refine ldc_ok (d := 17) (id := 0) (off := (0 + (Int.toNat x1) * 1)) (n := 1) (cs := (Y28 a0)) (.pv (.raw (.int .u64 (a0 (Int.toNat x1))))) (by kernel_rfl) (by kernel_rfl) (allLt (p := fun kk0 => ((Y28 a0) : List AV)[(0 + kk0 * 1)]? = some (.pv (.raw (.int .u64 (a0 kk0))))) (m := 4) ⟨⟨⟨⟨trivial, rfl⟩, rfl⟩, rfl⟩, rfl⟩ (Int.toNat x1) (by first | omega | (simp at * <;> omega) | (simp_all <;> omega))) ?_
    refine s0 ?_
    obtain ⟨r6, e7, h⟩ := bd_ h
    refine call_ok (d := some 18) (fn := 109) (ax := [.pv (.raw (.int .u64 (a0 (Int.toNat x1))))]) (ps := [((a0 (Int.toNat x1)) : Int) = (a0 (Int.toNat x1))]) (hb' := []) (by kernel_rfl) (bits_LeadingZeros64_ok _ _ e7 (al := true)) (by kernel_rfl) ⟨rfl, trivial⟩ (fun _ => (by kernel_rfl)) (by simp) rfl (by kernel_rfl) ?_
    refine s0 ?_
    obtain rfl := some_ h
    exact end_ok [] Tryz.results85 (ps := [((IntKind.i64.wrap ((IntKind.i64.wrap ((IntKind.i64.wrap (64 * x1)) + 63)) - r6)) : Int) = (IntKind.i64.wrap ((IntKind.i64.wrap ((IntKind.i64.wrap (64 * x1)) + 63)) - r6))]) (by kernel_rfl) ⟨rfl, trivial⟩ (fun _ => ⟨rfl, by simp⟩)
   ·refine sk_leaf ?_
    refine back_ok (p := p1) (by kernel_rfl) (hp1 (n1, (IntKind.i64.wrap (x1 - 1))) _ h (Nat.lt_succ_self n1) ?_)
    exact sub_ok (ρ := [(0, some 0)]) (l := [0 = 0, (0 : Int) = 0, ((IntKind.i64.wrap (x1 - 1)) : Int) = (IntKind.i64.wrap (x1 - 1)), ((a0 0) : Int) = (a0 0), ((a0 1) : Int) = (a0 1), ((a0 2) : Int) = (a0 2), ((a0 3) : Int) = (a0 3)]) (by kernel_rfl) ⟨rfl, rfl, rfl, rfl, rfl, rfl, rfl, trivial⟩
  ·refine sk_leaf ?_
   obtain rfl := some_ h
   exact end_ok [] Tryz.results85 (ps := [((-1) : Int) = (-1)]) (by kernel_rfl) ⟨rfl, trivial⟩ (fun _ => ⟨rfl, by simp⟩)
theorem apic_level_ok (a0 : ALo) (r : Int) (h : apic_level a0 = some r) {al : Bool} : PCalls Tryz.prog 87 [.agg (Y23 a0)] al (.pv (.raw (.int .i64 r))) [] := by
 unfold apic_level at h
 refine fn_ok tabOk Tryz.func87 (by kernel_rfl) (by kernel_rfl) Tryz.ntmps87 (by simp) ?_
 refine s0 ?_
 obtain ⟨r1, e2, h⟩ := bd_ h
 refine call_ok (d := some 7) (fn := 85) (ax := [.agg (Y38 a0.Served)]) (ps := (Y92 a0.Served)) (hb' := []) (by kernel_rfl) (bits_Top_ok _ _ e2 (al := true)) (by kernel_rfl) Y92p (fun _ => (by kernel_rfl)) (by simp) rfl (by kernel_rfl) ?_
 refine s0 ?_
 obtain ⟨r3, e4, h⟩ := bd_ h
 refine call_ok (d := some 9) (fn := 86) (ax := [.pv (.raw (.int .i64 (if (0 : Int) > r1 then 0 else r1)))]) (ps := [((if (0 : Int) > r1 then 0 else r1) : Int) = (if (0 : Int) > r1 then 0 else r1)]) (hb' := []) (by kernel_rfl) (apic_class_ok _ _ e4 (al := true)) (by kernel_rfl) ⟨rfl, trivial⟩ (fun _ => (by kernel_rfl)) (by simp) rfl (by kernel_rfl) ?_
 refine s0 ?_
 obtain rfl := some_ h
 exact end_ok [] Tryz.results87 (ps := [((if (r3 : Int) > a0.Class then r3 else a0.Class) : Int) = (if (r3 : Int) > a0.Class then r3 else a0.Class)]) (by kernel_rfl) ⟨rfl, trivial⟩ (fun _ => ⟨rfl, by simp⟩)
end Go.Proofs.YthmieigenefilaaGreatDoor
