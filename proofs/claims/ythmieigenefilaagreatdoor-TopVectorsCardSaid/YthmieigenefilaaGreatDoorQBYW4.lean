import Derived.Test.YthmieigenefilaaGreatDoorQBYW3
set_option linter.unusedSimpArgs false
set_option linter.unusedVariables false
namespace Go.Proofs.YthmieigenefilaaGreatDoor
open Go Go.Ab
set_option maxHeartbeats 40000000
set_option maxRecDepth 100000
attribute [local irreducible] V VS runS Sk.Holds
def Y64 (x0 : ALo) : List Prop := [((x0.Asked 0) : Int) = (x0.Asked 0), ((x0.Asked 1) : Int) = (x0.Asked 1), ((x0.Asked 2) : Int) = (x0.Asked 2), ((x0.Asked 3) : Int) = (x0.Asked 3), ((x0.Served 0) : Int) = (x0.Served 0), ((x0.Served 1) : Int) = (x0.Served 1), ((x0.Served 2) : Int) = (x0.Served 2), ((x0.Served 3) : Int) = (x0.Served 3), (x0.Class : Int) = x0.Class]
theorem Y64p {x0 : ALo} : allP (Y64 x0) := ⟨rfl, rfl, rfl, rfl, rfl, rfl, rfl, rfl, rfl, trivial⟩
theorem apic_Would_ok (a0 : ALo) (r : Int) (h : apic_Would a0 = some r) {al : Bool} : PCalls Tryz.prog 65 [.agg (Y23 a0)] al (.pv (.raw (.int .i64 r))) [] := by
 unfold apic_Would at h
 refine fn_ok tabOk Tryz.func65 (by kernel_rfl) (by kernel_rfl) Tryz.ntmps65 (by simp) ?_
 refine s0 ?_
 obtain ⟨r1, e2, h⟩ := bd_ h
 refine call_ok (d := some 6) (fn := 85) (ax := [.agg (Y38 a0.Asked)]) (ps := (Y92 a0.Asked)) (hb' := []) (by kernel_rfl) (bits_Top_ok _ _ e2 (al := true)) (by kernel_rfl) Y92p (fun _ => (by kernel_rfl)) (by simp) rfl (by kernel_rfl) ?_
 refine s0 ?_
 obtain ⟨r3, e4, h⟩ := bd_ h
 refine call_ok (d := some 8) (fn := 84) (ax := [.agg (Y23 a0)]) (ps := (Y64 a0)) (hb' := []) (by kernel_rfl) (apic_Right_ok _ _ e4 (al := true)) (by kernel_rfl) Y64p (fun _ => (by kernel_rfl)) (by simp) rfl (by kernel_rfl) ?_
 refine sg (S := .and ((r3 = true → (r3 = true))) (.and (r3 = true → r3 = true) (.leaf 0))) ?_
 refine sk_and (fun h => h) ?_
 refine sk_and (fun h => h) ?_
 refine sk_leaf ?_
 obtain ⟨r7, e8, h⟩ := bd_ h
 refine callG_ok (d := some 15) (fn := 86) (ax := [.pv (.raw (.int .i64 r1))]) (args := [.pv (.raw (.int .i64 r1))]) (g := (r3 && (decide ((r1 : Int) ≥ 0)))) (ws := [(r3 && (decide ((r1 : Int) ≥ 0))) = true]) (ps := [(r1 : Int) = r1]) (by kernel_rfl) (fun hg => ⟨((by decide : ∀ y0 : Bool, ((y0 = true) → (y0 = true))) (r3 && (decide ((r1 : Int) ≥ 0)))) hg, trivial⟩) (fun hg => apic_class_ok _ _ (by rw [hg] at e8; exact e8) (al := true)) (by kernel_rfl) (fun hg => ⟨rfl, trivial⟩) (fun _ => (by kernel_rfl)) ?_
 refine s0 ?_
 obtain ⟨r9, e10, h⟩ := bd_ h
 refine callG_ok (d := some 17) (fn := 87) (ax := [.agg (Y23 a0)]) (args := [.agg (Y23 a0)]) (g := (r3 && (decide ((r1 : Int) ≥ 0)))) (ws := [(r3 && (decide ((r1 : Int) ≥ 0))) = true]) (ps := (Y64 a0)) (by kernel_rfl) (fun hg => ⟨((by decide : ∀ y0 : Bool, ((y0 = true) → (y0 = true))) (r3 && (decide ((r1 : Int) ≥ 0)))) hg, trivial⟩) (fun hg => apic_level_ok _ _ (by rw [hg] at e10; exact e10) (al := true)) (by kernel_rfl) (fun hg => ⟨rfl, rfl, rfl, rfl, rfl, rfl, rfl, rfl, rfl, trivial⟩) (fun _ => (by kernel_rfl)) ?_
 refine sg (S := .and (((r3 && (decide ((r1 : Int) ≥ 0))) = true → ((r3 && (decide ((r1 : Int) ≥ 0))) = true))) (.and (((r3 && (decide ((r1 : Int) ≥ 0))) = true → ((r3 && (decide ((r1 : Int) ≥ 0))) = true))) (.and ((r3 && (decide ((r1 : Int) ≥ 0))) = true → (r3 && (decide ((r1 : Int) ≥ 0))) = true) (.br ((r3 && (decide ((r1 : Int) ≥ 0))) && (decide ((r7 : Int) > r9))) (.leaf 0) (.leaf 1))))) ?_
 refine sk_and (fun h => h) ?_
 refine sk_and (fun h => h) ?_
 refine sk_and (fun h => h) ?_
 refine br_ h ?_ ?_ <;> clear h <;> intro c14 h
 ·refine sk_leaf ?_
  obtain rfl := some_ h
  exact end_ok [] Tryz.results65 (ps := [(r1 : Int) = r1]) (by kernel_rfl) ⟨rfl, trivial⟩ (fun _ => ⟨rfl, by simp⟩)
 ·refine sk_leaf ?_
  obtain rfl := some_ h
  exact end_ok [] Tryz.results65 (ps := [((-1) : Int) = (-1)]) (by kernel_rfl) ⟨rfl, trivial⟩ (fun _ => ⟨rfl, by simp⟩)
def Y40 (x0 : (Nat → Int)) (x1 : Int) : Nat → Int := (upd x0 (Int.toNat (IntKind.i64.wrap (Int.tdiv x1 64))) (bitsOf .andNot .u64 (x0 (Int.toNat (IntKind.i64.wrap (Int.tdiv x1 64)))) (IntKind.u64.wrap (1 * 2 ^ (min (Int.toNat (Int.tmod x1 64)) IntKind.u64.bits)))))
def Y98 (x0 : (Nat → Int)) (x1 : Nat) (x2 : Int) : Nat → Int := (upd x0 x1 (bitsOf .andNot .u64 (x0 (Int.toNat (IntKind.i64.wrap (Int.tdiv x2 64)))) (IntKind.u64.wrap (1 * 2 ^ (min (Int.toNat (Int.tmod x2 64)) IntKind.u64.bits)))))
theorem bits_Without_ok (a0 : (Nat → Int)) (a1 : Int) (r : (Nat → Int)) (h : bits_Without a0 a1 = some r) {al : Bool} : PCalls Tryz.prog 73 [.agg (Y28 a0), .pv (.raw (.int .i64 a1))] al (.agg [.pv (.raw (.int .u64 (r 0))), .pv (.raw (.int .u64 (r 1))), .pv (.raw (.int .u64 (r 2))), .pv (.raw (.int .u64 (r 3)))]) [] := by
 unfold bits_Without at h
 refine fn_ok tabOk Tryz.func73 (by kernel_rfl) (by kernel_rfl) Tryz.ntmps73 (by simp) ?_
 refine s0 ?_
 obtain ⟨r1, e2, h⟩ := bd_ h
 refine call_ok (d := some 6) (fn := 28) (ax := [.pv (.raw (.int .i64 a1))]) (ps := [(a1 : Int) = a1]) (hb' := []) (by kernel_rfl) (bits_fits_ok _ _ e2 (al := true)) (by kernel_rfl) ⟨rfl, trivial⟩ (fun _ => (by kernel_rfl)) (by simp) rfl (by kernel_rfl) ?_
 refine sg (S := .br r1 (.and ((64 : Int) ≠ 0) (.and (0 ≤ ((IntKind.i64.wrap (Int.tdiv a1 64)) : Int) ∧ (IntKind.i64.wrap (Int.tdiv a1 64)) < ((4 : Nat) : Int)) (.leaf 0))) (.leaf 1)) ?_
 refine br_ h ?_ ?_ <;> clear h <;> intro c3 h
 ·refine sk_and (by decide) ?_
  refine gd_ h ?_; clear h; intro g5 h
  refine sk_leaf ?_
  refine ldc_ok (d := 10) (id := 16512) (off := (0 + (Int.toNat (IntKind.i64.wrap (Int.tdiv a1 64))) * 1)) (n := 1) (cs := (Y28 a0)) (.pv (.raw (.int .u64 (a0 (Int.toNat (IntKind.i64.wrap (Int.tdiv a1 64))))))) (by kernel_rfl) (by kernel_rfl) (allLt (p := fun kk0 => ((Y28 a0) : List AV)[(0 + kk0 * 1)]? = some (.pv (.raw (.int .u64 (a0 kk0))))) (m := 4) ⟨⟨⟨⟨trivial, rfl⟩, rfl⟩, rfl⟩, rfl⟩ (Int.toNat (IntKind.i64.wrap (Int.tdiv a1 64))) (by first | omega | (simp at * <;> omega) | (simp_all <;> omega))) ?_
  refine sg (S := .and ((64 : Int) ≠ 0) (.and (0 ≤ ((Int.tmod a1 64) : Int)) (.and (0 ≤ ((IntKind.i64.wrap (Int.tdiv a1 64)) : Int) ∧ (IntKind.i64.wrap (Int.tdiv a1 64)) < ((4 : Nat) : Int)) (.leaf 0)))) ?_
  refine sk_and (by decide) ?_
  refine gd_ h ?_; clear h; intro g7 h
  refine gd_ h ?_; clear h; intro g8 h
  refine sk_leaf ?_
  refine stc_ok (id := 16512) (off := (0 + (Int.toNat (IntKind.i64.wrap (Int.tdiv a1 64))) * 1)) (vs := [.pv (.raw (.int .u64 (bitsOf .andNot .u64 (a0 (Int.toNat (IntKind.i64.wrap (Int.tdiv a1 64)))) (IntKind.u64.wrap (1 * 2 ^ (min (Int.toNat (Int.tmod a1 64)) IntKind.u64.bits))))))]) (cs := (Y28 a0)) (Y106 (Y40 a0 a1)) (by kernel_rfl) (by kernel_rfl) (by simp only [Y106, Y118, Y28, List.length_append, rA_length, fl_length, List.length_cons, List.length_nil]; first | omega | (simp at * <;> omega) | (simp_all <;> omega)) (allLt (p := fun kk0 => setCells (Y28 a0) ((0 + kk0 * 1)) [.pv (.raw (.int .u64 (bitsOf .andNot .u64 (a0 (Int.toNat (IntKind.i64.wrap (Int.tdiv a1 64)))) (IntKind.u64.wrap (1 * 2 ^ (min (Int.toNat (Int.tmod a1 64)) IntKind.u64.bits))))))] = (Y118 (Y98 a0 kk0 a1))) (m := 4) ⟨⟨⟨⟨trivial, rfl⟩, rfl⟩, rfl⟩, rfl⟩ (Int.toNat (IntKind.i64.wrap (Int.tdiv a1 64))) (by first | omega | (simp at * <;> omega) | (simp_all <;> omega))) ?_
  refine s0 ?_
  obtain rfl := some_ h
  exact end_ok [] Tryz.results73 (ps := (Y92 (Y40 a0 a1))) (by kernel_rfl) Y92p (fun _ => ⟨rfl, by simp⟩)
 ·refine sk_leaf ?_
  obtain rfl := some_ h
  exact end_ok [] Tryz.results73 (ps := [((a0 0) : Int) = (a0 0), ((a0 1) : Int) = (a0 1), ((a0 2) : Int) = (a0 2), ((a0 3) : Int) = (a0 3)]) (by kernel_rfl) ⟨rfl, rfl, rfl, rfl, trivial⟩ (fun _ => ⟨rfl, by simp⟩)
theorem apic_Step_ok (a0 : ALo) (a1 : ALoOp) (r : ALo × Int × Int) (h : apic_Step a0 a1 = some r) {al : Bool} : PCalls Tryz.prog 63 [.agg (Y23 a0), .agg [.pv (.raw (.int .i64 a1.Kind)), .pv (.raw (.int .i64 a1.N))]] al (.tup [.agg (Y23 r.1), .pv (.raw (.int .i64 r.2.1)), .pv (.raw (.int .i64 r.2.2))]) [] := by
 unfold apic_Step at h
 refine fn_ok tabOk Tryz.func63 (by kernel_rfl) (by kernel_rfl) Tryz.ntmps63 (by simp) ?_
 refine s0 ?_
 obtain ⟨r1, e2, h⟩ := bd_ h
 refine call_ok (d := some 10) (fn := 84) (ax := [.agg (Y23 a0)]) (ps := (Y64 a0)) (hb' := []) (by kernel_rfl) (apic_Right_ok _ _ e2 (al := true)) (by kernel_rfl) Y64p (fun _ => (by kernel_rfl)) (by simp) rfl (by kernel_rfl) ?_
 refine sg (S := .br (!r1) (.leaf 0) (.br ((a1.Kind : Int) == 1) (.and (((!(decide ((a1.N : Int) < 32))) = true → ((!(decide ((a1.N : Int) < 32))) = true))) (.and (((!(decide ((a1.N : Int) < 32))) = true → ((!(decide ((a1.N : Int) < 32))) = true))) (.and ((decide ((a1.N : Int) < 32)) = false → (!(decide ((a1.N : Int) < 32))) = true) (.br ((decide ((a1.N : Int) < 32)) || (decide ((a1.N : Int) ≥ 256))) (.leaf 1) (.leaf 2))))) (.br ((a1.Kind : Int) == 2) (.leaf 3) (.br ((a1.Kind : Int) == 3) (.leaf 4) (.br ((a1.Kind : Int) == 4) (.and (((!(decide ((a1.N : Int) < 0))) = true → ((!(decide ((a1.N : Int) < 0))) = true))) (.and (((!(decide ((a1.N : Int) < 0))) = true → ((!(decide ((a1.N : Int) < 0))) = true))) (.and ((decide ((a1.N : Int) < 0)) = false → (!(decide ((a1.N : Int) < 0))) = true) (.br ((decide ((a1.N : Int) < 0)) || (decide ((a1.N : Int) > 15))) (.leaf 5) (.leaf 6))))) (.leaf 7)))))) ?_
 refine br_ h ?_ ?_ <;> clear h <;> intro c3 h
 ·cases h
 ·refine br_ h ?_ ?_ <;> clear h <;> intro c6 h
  ·refine sk_and (fun h => h) ?_
   refine sk_and (fun h => h) ?_
   refine sk_and ((by decide : ∀ y0 : Bool, ((y0 = false) → ((!y0) = true))) (decide ((a1.N : Int) < 32))) ?_
   refine br_ h ?_ ?_ <;> clear h <;> intro c10 h
   ·cases h
   ·refine sk_leaf ?_
    obtain ⟨r13, e14, h⟩ := bd_ h
    refine call_ok (d := some 43) (fn := 14) (ax := [.agg (Y38 a0.Asked), .pv (.raw (.int .i64 a1.N))]) (ps := (Y63 a0.Asked a1.N)) (hb' := []) (by kernel_rfl) (bits_With_ok _ _ _ e14 (al := true)) (by kernel_rfl) Y63p (fun _ => (by kernel_rfl)) (by simp) rfl (by kernel_rfl) ?_
    refine s0 ?_
    obtain rfl := some_ h
    exact end_ok [] Tryz.results63 (ps := [((r13 0) : Int) = (r13 0), ((r13 1) : Int) = (r13 1), ((r13 2) : Int) = (r13 2), ((r13 3) : Int) = (r13 3), ((a0.Served 0) : Int) = (a0.Served 0), ((a0.Served 1) : Int) = (a0.Served 1), ((a0.Served 2) : Int) = (a0.Served 2), ((a0.Served 3) : Int) = (a0.Served 3), (a0.Class : Int) = a0.Class, ((-1) : Int) = (-1), (0 : Int) = 0]) (by kernel_rfl) ⟨rfl, rfl, rfl, rfl, rfl, rfl, rfl, rfl, rfl, rfl, rfl, trivial⟩ (fun _ => ⟨rfl, by simp⟩)
  ·refine br_ h ?_ ?_ <;> clear h <;> intro c15 h
   ·refine sk_leaf ?_
    obtain ⟨r16, e17, h⟩ := bd_ h
    refine call_ok (d := some 48) (fn := 65) (ax := [.agg (Y23 a0)]) (ps := (Y64 a0)) (hb' := []) (by kernel_rfl) (apic_Would_ok _ _ e17 (al := true)) (by kernel_rfl) Y64p (fun _ => (by kernel_rfl)) (by simp) rfl (by kernel_rfl) ?_
    refine sg (S := .br (decide ((r16 : Int) < 0)) (.leaf 0) (.leaf 1)) ?_
    refine br_ h ?_ ?_ <;> clear h <;> intro c18 h
    ·cases h
    ·refine sk_leaf ?_
     obtain ⟨r21, e22, h⟩ := bd_ h
     refine call_ok (d := some 59) (fn := 73) (ax := [.agg (Y38 a0.Asked), .pv (.raw (.int .i64 r16))]) (ps := (Y63 a0.Asked r16)) (hb' := []) (by kernel_rfl) (bits_Without_ok _ _ _ e22 (al := true)) (by kernel_rfl) Y63p (fun _ => (by kernel_rfl)) (by simp) rfl (by kernel_rfl) ?_
     refine s0 ?_
     obtain ⟨r23, e24, h⟩ := bd_ h
     refine call_ok (d := some 63) (fn := 14) (ax := [.agg (Y38 a0.Served), .pv (.raw (.int .i64 r16))]) (ps := (Y63 a0.Served r16)) (hb' := []) (by kernel_rfl) (bits_With_ok _ _ _ e24 (al := true)) (by kernel_rfl) Y63p (fun _ => (by kernel_rfl)) (by simp) rfl (by kernel_rfl) ?_
     refine s0 ?_
     obtain rfl := some_ h
     exact end_ok [] Tryz.results63 (ps := [((r21 0) : Int) = (r21 0), ((r21 1) : Int) = (r21 1), ((r21 2) : Int) = (r21 2), ((r21 3) : Int) = (r21 3), ((r23 0) : Int) = (r23 0), ((r23 1) : Int) = (r23 1), ((r23 2) : Int) = (r23 2), ((r23 3) : Int) = (r23 3), (a0.Class : Int) = a0.Class, (r16 : Int) = r16, (0 : Int) = 0]) (by kernel_rfl) ⟨rfl, rfl, rfl, rfl, rfl, rfl, rfl, rfl, rfl, rfl, rfl, trivial⟩ (fun _ => ⟨rfl, by simp⟩)
   ·refine br_ h ?_ ?_ <;> clear h <;> intro c25 h
    ·refine sk_leaf ?_
     obtain ⟨r26, e27, h⟩ := bd_ h
     refine call_ok (d := some 70) (fn := 85) (ax := [.agg (Y38 a0.Served)]) (ps := (Y92 a0.Served)) (hb' := []) (by kernel_rfl) (bits_Top_ok _ _ e27 (al := true)) (by kernel_rfl) Y92p (fun _ => (by kernel_rfl)) (by simp) rfl (by kernel_rfl) ?_
     refine sg (S := .br (decide ((r26 : Int) < 0)) (.leaf 0) (.leaf 1)) ?_
     refine br_ h ?_ ?_ <;> clear h <;> intro c28 h
     ·cases h
     ·refine sk_leaf ?_
      obtain ⟨r31, e32, h⟩ := bd_ h
      refine call_ok (d := some 81) (fn := 73) (ax := [.agg (Y38 a0.Served), .pv (.raw (.int .i64 r26))]) (ps := (Y63 a0.Served r26)) (hb' := []) (by kernel_rfl) (bits_Without_ok _ _ _ e32 (al := true)) (by kernel_rfl) Y63p (fun _ => (by kernel_rfl)) (by simp) rfl (by kernel_rfl) ?_
      refine s0 ?_
      obtain rfl := some_ h
      exact end_ok [] Tryz.results63 (ps := [((a0.Asked 0) : Int) = (a0.Asked 0), ((a0.Asked 1) : Int) = (a0.Asked 1), ((a0.Asked 2) : Int) = (a0.Asked 2), ((a0.Asked 3) : Int) = (a0.Asked 3), ((r31 0) : Int) = (r31 0), ((r31 1) : Int) = (r31 1), ((r31 2) : Int) = (r31 2), ((r31 3) : Int) = (r31 3), (a0.Class : Int) = a0.Class, (r26 : Int) = r26, (0 : Int) = 0]) (by kernel_rfl) ⟨rfl, rfl, rfl, rfl, rfl, rfl, rfl, rfl, rfl, rfl, rfl, trivial⟩ (fun _ => ⟨rfl, by simp⟩)
    ·cases h
end Go.Proofs.YthmieigenefilaaGreatDoor
