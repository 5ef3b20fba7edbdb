/- The functions do as their models: printed by program. -/
import Derived.Test.YtdfgmloipigmfaaDoorQVAT
import Derived.Test.YtdfgmloipigmfaaDoorQVAM
import Derived.Test.YtdfgmloipigmfaaDoorAbYh
import Derived.Test.YtdfgmloipigmfaaDoorAbYc
import Derived.Test.YtdfgmloipigmfaaDoorAbYk
import Derived.Test.YtdfgmloipigmfaaDoorQVAS
set_option linter.unusedSimpArgs false
set_option linter.unusedVariables false
namespace Go.Proofs.YtdfgmloipigmfaaDoor
open Go Go.Ab
theorem mixed : Tryd.prog.follows .mixedOrders = true := by kernel_rfl
def E3 : Elem Int := { s := 1, cf := fun x j => match j with | _ => .raw (.int .i64 x), z := 0 }
theorem E3_raw : E3.Raw := by
  intro x j
  exact ⟨_, rfl⟩
def E26 : Elem Int := { s := 1, cf := fun x j => match j with | _ => .raw (.int .i64 x), z := 0 }
theorem E26_raw : E26.Raw := by
  intro x j
  exact ⟨_, rfl⟩
def E31 : Elem Api_Slot := { s := 2, cf := fun x j => match j with | 0 => .raw (.int .i64 x.Core) | _ => .raw (.int .i64 x.Vec), z := (⟨0, 0⟩ : Api_Slot) }
theorem E31_raw : E31.Raw := by
  intro x j
  match j with
  | 0 => exact ⟨_, rfl⟩
  | n + 1 => exact ⟨_, rfl⟩
def E34 : Elem Api_VecOp := { s := 3, cf := fun x j => match j with | 0 => .raw (.int .i64 x.Kind) | 1 => .raw (.int .i64 x.Line) | _ => .raw (.int .i64 x.Mask), z := (⟨0, 0, 0⟩ : Api_VecOp) }
theorem E34_raw : E34.Raw := by
  intro x j
  match j with
  | 0 => exact ⟨_, rfl⟩
  | 1 => exact ⟨_, rfl⟩
  | n + 2 => exact ⟨_, rfl⟩
def E49 : Elem (Nat → Int) := { s := 4, cf := fun x j => match j with | 0 => .raw (.int .u64 (x 0)) | 1 => .raw (.int .u64 (x 1)) | 2 => .raw (.int .u64 (x 2)) | _ => .raw (.int .u64 (x 3)), z := (fun (_ : Nat) => (0 : Int)) }
theorem E49_raw : E49.Raw := by
  intro x j
  match j with
  | 0 => exact ⟨_, rfl⟩
  | 1 => exact ⟨_, rfl⟩
  | 2 => exact ⟨_, rfl⟩
  | n + 3 => exact ⟨_, rfl⟩
def E40 : Elem Vector_table := { s := 3, cf := fun x j => match j with | 0 => .raw (.int .i64 x.cores_) | 1 => (E31.ro x.of_) | _ => (E49.ro x.taken_), z := (⟨0, [], []⟩ : Vector_table) }
def Key31 : Key Api_Slot := ⟨fun x => [x.Core, x.Vec], 2, fun _ => rfl, by intro x y h; cases x; cases y; simp_all⟩
set_option maxHeartbeats 40000000
set_option maxRecDepth 100000
theorem sg {Q : Exit → AS → Prop} {σ : AS} {k : List Fr} {S : Sk} (h : S.Holds fun j => V Tryd.prog tab Q ((runS tab [] 4000 σ k).get j)) (hs : (runS tab [] 4000 σ k).sk 0 = S := by kernel_rfl) : VS Tryd.prog tab Q k .normal σ := segs [] tabOk mixed 4000 hs h
theorem s0 {Q : Exit → AS → Prop} {σ : AS} {k : List Fr} (h : V Tryd.prog tab Q ((runS tab [] 4000 σ k).get 0)) (hs : (runS tab [] 4000 σ k).sk 0 = .leaf 0 := by kernel_rfl) : VS Tryd.prog tab Q k .normal σ := segs [] tabOk mixed 4000 hs (sk_leaf h)
attribute [local irreducible] V VS runS Sk.Holds

theorem bits_fits_ok (a0 : Int) (r : Bool) (h : bits_fits a0 = some r) {al : Bool} : PCalls Tryd.prog 19 [.pv (.raw (.int .i64 a0))] al (.pv (.raw (.bool r))) [] := by
  unfold bits_fits at h
  refine fn_ok tabOk Tryd.func19 (by kernel_rfl) (by kernel_rfl) Tryd.ntmps19 (by simp) ?_
  refine sg (S := .and (((decide ((a0 : Int) ≥ 0)) = true → ((decide ((a0 : Int) ≥ 0)) = true))) (.and ((decide ((a0 : Int) ≥ 0)) = true → (decide ((a0 : Int) ≥ 0)) = true) (.leaf 0))) ?_
  refine sk_and (fun h => h) ?_
  refine sk_and (fun h => h) ?_
  refine sk_leaf ?_
  obtain rfl := some_ h
  exact end_ok [] Tryd.results19 (ps := [((decide ((a0 : Int) ≥ 0)) && (decide ((a0 : Int) < 256))) = ((decide ((a0 : Int) ≥ 0)) && (decide ((a0 : Int) < 256)))]) (by kernel_rfl) ⟨rfl, trivial⟩ (fun _ => ⟨rfl, by simp⟩)

theorem tabs_eq : tabsOf Tryd.prog = [(0, Lib.deBruijn64tab)] := by kernel_rfl
theorem bits_TrailingZeros64_ok (a0 : Int) (r : Int) (h : bits_TrailingZeros64 a0 = some r) {al : Bool} : PCalls Tryd.prog 21 [.pv (.raw (.int .u64 a0))] al (.pv (.raw (.int .i64 r))) [] := by
  unfold bits_TrailingZeros64 at h
  obtain ⟨g, h⟩ := if_ h
  obtain rfl := some_ h
  obtain ⟨n, rfl⟩ : ∃ n : Nat, a0 = n := ⟨a0.toNat, by omega⟩
  refine raw_pcalls (xs := [.int .u64 (n : Int)]) ⟨_, Tryd.func21, by kernel_rfl, by kernel_rfl⟩ fun w hgo => ?_
  exact Tryd.bits_TrailingZeros64 n w (by omega) (fun _ => fun j hj => (hgo (0, Lib.deBruijn64tab) (by rw [tabs_eq]; exact List.mem_cons_self ..)).2 j hj)

def Y3 (x0 : (Nat → Int)) : List AV := [.pv (.raw (.int .u64 (x0 0))), .pv (.raw (.int .u64 (x0 1))), .pv (.raw (.int .u64 (x0 2))), .pv (.raw (.int .u64 (x0 3)))]
def Y21 (x0 : (Nat → Int)) (x1 : Int) : List AV := [.pv (.raw (.int .u64 (bitsOf .andNot .u64 (x0 (Int.toNat (IntKind.i64.wrap (Int.tdiv (if (0 : Int) > x1 then 0 else x1) 64)))) (IntKind.u64.wrap ((IntKind.u64.wrap (1 * 2 ^ (min (Int.toNat (Int.tmod (if (0 : Int) > x1 then 0 else x1) 64)) IntKind.u64.bits))) - 1)))))]
def Y11 (x0 : Nat → Int) : List AV := [.pv (.raw (.int .u64 (x0 0))), .pv (.raw (.int .u64 (x0 1))), .pv (.raw (.int .u64 (x0 2))), .pv (.raw (.int .u64 (x0 3)))]
def Y0 (x0 : (Nat → Int)) (x1 : Int) : Nat → Int := (upd x0 (Int.toNat (IntKind.i64.wrap (Int.tdiv (if (0 : Int) > x1 then 0 else x1) 64))) (bitsOf .andNot .u64 (x0 (Int.toNat (IntKind.i64.wrap (Int.tdiv (if (0 : Int) > x1 then 0 else x1) 64)))) (IntKind.u64.wrap ((IntKind.u64.wrap (1 * 2 ^ (min (Int.toNat (Int.tmod (if (0 : Int) > x1 then 0 else x1) 64)) IntKind.u64.bits))) - 1))))
def Y17 (x0 : Nat → Int) : List AV := [.pv (.raw (.int .u64 (x0 0))), .pv (.raw (.int .u64 (x0 1))), .pv (.raw (.int .u64 (x0 2))), .pv (.raw (.int .u64 (x0 3)))]
def Y12 (x0 : (Nat → Int)) (x1 : Nat) (x2 : Int) : Nat → Int := (upd x0 x1 (bitsOf .andNot .u64 (x0 (Int.toNat (IntKind.i64.wrap (Int.tdiv (if (0 : Int) > x2 then 0 else x2) 64)))) (IntKind.u64.wrap ((IntKind.u64.wrap (1 * 2 ^ (min (Int.toNat (Int.tmod (if (0 : Int) > x2 then 0 else x2) 64)) IntKind.u64.bits))) - 1))))
theorem bits_Next_ok (a0 : (Nat → Int)) (a1 : Int) (r : Int) (h : bits_Next a0 a1 = some r) {al : Bool} : PCalls Tryd.prog 20 [.agg (Y3 a0), .pv (.raw (.int .i64 a1))] al (.pv (.raw (.int .i64 r))) [] := by
  unfold bits_Next at h
  refine fn_ok tabOk Tryd.func20 (by kernel_rfl) (by kernel_rfl) Tryd.ntmps20 (by simp) ?_
  refine s0 ?_
  obtain ⟨r1, e2, h⟩ := bd_ h
  refine call_ok (d := some 9) (fn := 19) (ax := [.pv (.raw (.int .i64 (if (0 : Int) > a1 then 0 else a1)))]) (ps := [((if (0 : Int) > a1 then 0 else a1) : Int) = (if (0 : Int) > a1 then 0 else a1)]) (hb' := []) (by kernel_rfl) (bits_fits_ok _ _ e2 (al := true)) (by kernel_rfl) ⟨rfl, trivial⟩ (fun _ => (by kernel_rfl)) (by simp) rfl (by kernel_rfl) ?_
  refine sg (S := .br (!r1) (.leaf 0) (.and ((64 : Int) ≠ 0) (.and (0 ≤ ((IntKind.i64.wrap (Int.tdiv (if (0 : Int) > a1 then 0 else a1) 64)) : Int) ∧ (IntKind.i64.wrap (Int.tdiv (if (0 : Int) > a1 then 0 else a1) 64)) < ((4 : Nat) : Int)) (.leaf 1)))) ?_
  refine br_ h ?_ ?_ <;> clear h <;> intro c3 h
  · refine sk_leaf ?_
    obtain rfl := some_ h
    exact end_ok [] Tryd.results20 (ps := [((-1) : Int) = (-1)]) (by kernel_rfl) ⟨rfl, trivial⟩ (fun _ => ⟨rfl, by simp⟩)
  · refine sk_and (by decide) ?_
    refine gd_ h ?_; clear h; intro g5 h
    refine sk_leaf ?_
    refine ldc_ok (d := 14) (id := 16512) (off := (0 + (Int.toNat (IntKind.i64.wrap (Int.tdiv (if (0 : Int) > a1 then 0 else a1) 64))) * 1)) (n := 1) (cs := (Y3 a0)) (.pv (.raw (.int .u64 (a0 (Int.toNat (IntKind.i64.wrap (Int.tdiv (if (0 : Int) > a1 then 0 else a1) 64))))))) (by kernel_rfl) (by kernel_rfl) (allLt (p := fun kk0 => ((Y3 a0) : List AV)[(0 + kk0 * 1)]? = some (.pv (.raw (.int .u64 (a0 kk0))))) (m := 4) ⟨⟨⟨⟨trivial, rfl⟩, rfl⟩, rfl⟩, rfl⟩ (Int.toNat (IntKind.i64.wrap (Int.tdiv (if (0 : Int) > a1 then 0 else a1) 64))) (by first | omega | (simp at * <;> omega) | (simp_all <;> omega))) ?_
    refine sg (S := .and ((64 : Int) ≠ 0) (.and (0 ≤ ((Int.tmod (if (0 : Int) > a1 then 0 else a1) 64) : Int)) (.and (0 ≤ ((IntKind.i64.wrap (Int.tdiv (if (0 : Int) > a1 then 0 else a1) 64)) : Int) ∧ (IntKind.i64.wrap (Int.tdiv (if (0 : Int) > a1 then 0 else a1) 64)) < ((4 : Nat) : Int)) (.leaf 0)))) ?_
    refine sk_and (by decide) ?_
    refine gd_ h ?_; clear h; intro g7 h
    refine gd_ h ?_; clear h; intro g8 h
    refine sk_leaf ?_
    refine stc_ok (id := 16512) (off := (0 + (Int.toNat (IntKind.i64.wrap (Int.tdiv (if (0 : Int) > a1 then 0 else a1) 64))) * 1)) (vs := (Y21 a0 a1)) (cs := (Y3 a0)) (Y11 (Y0 a0 a1)) (by kernel_rfl) (by kernel_rfl) (by simp only [Y11, Y17, Y21, Y3, List.length_append, rA_length, fl_length, List.length_cons, List.length_nil]; first | omega | (simp at * <;> omega) | (simp_all <;> omega)) (allLt (p := fun kk0 => setCells (Y3 a0) ((0 + kk0 * 1)) (Y21 a0 a1) = (Y17 (Y12 a0 kk0 a1))) (m := 4) ⟨⟨⟨⟨trivial, rfl⟩, rfl⟩, rfl⟩, rfl⟩ (Int.toNat (IntKind.i64.wrap (Int.tdiv (if (0 : Int) > a1 then 0 else a1) 64))) (by first | omega | (simp at * <;> omega) | (simp_all <;> omega))) ?_
    refine sg (S := .and ((64 : Int) ≠ 0) (.leaf 0)) ?_
    refine sk_and (by decide) ?_
    refine sk_leaf ?_
    replace h : (fun (x : Nat × Int) => bits_Next_l1 a0 a1 x.1 x.2 = some r) (FUEL, (IntKind.i64.wrap (Int.tdiv (if (0 : Int) > a1 then 0 else a1) 64))) := h
    refine loop_ok (by kernel_rfl) (X := Nat × Int) (fun x => bits_Next_l1 a0 a1 x.1 x.2 = some r) (fun x => x.1) (fun x => mk 38 [(2, .ptr 0 0), (4, .pv (.raw (.int .i64 0))), (5, .pv (.raw (.int .i64 x.2)))] [(0, .box (Y11 (Y0 a0 a1)))]) (FUEL, (IntKind.i64.wrap (Int.tdiv (if (0 : Int) > a1 then 0 else a1) 64))) h ?_ ?_
    · exact sub_ok (ρ := [(0, some 16512)]) (l := [0 = 0, (0 : Int) = 0, ((IntKind.i64.wrap (Int.tdiv (if (0 : Int) > a1 then 0 else a1) 64)) : Int) = (IntKind.i64.wrap (Int.tdiv (if (0 : Int) > a1 then 0 else a1) 64)), (((Y0 a0 a1) 0) : Int) = ((Y0 a0 a1) 0), (((Y0 a0 a1) 1) : Int) = ((Y0 a0 a1) 1), (((Y0 a0 a1) 2) : Int) = ((Y0 a0 a1) 2), (((Y0 a0 a1) 3) : Int) = ((Y0 a0 a1) 3)]) (by kernel_rfl) ⟨rfl, rfl, rfl, rfl, rfl, rfl, rfl, trivial⟩
    · clear h; rintro ⟨n1, x10⟩ h p1 hp1
      obtain _ | n1 := n1
      · cases (show (none : Option (Int)) = some r from h)
      have h : bits_Next_l1 a0 a1 (n1 + 1) x10 = some r := h
      unfold bits_Next_l1 at h
      refine sg (S := .br (decide ((x10 : Int) < 4)) (.and (0 ≤ (x10 : Int) ∧ x10 < ((4 : Nat) : Int)) (.leaf 0)) (.leaf 1)) ?_
      refine br_ h ?_ ?_ <;> clear h <;> intro c11 h
      · refine gd_ h ?_; clear h; intro g12 h
        refine sk_leaf ?_
        refine ldc_ok (d := 29) (id := 0) (off := (0 + (Int.toNat x10) * 1)) (n := 1) (cs := (Y11 (Y0 a0 a1))) (.pv (.raw (.int .u64 ((Y0 a0 a1) (Int.toNat x10))))) (by kernel_rfl) (by kernel_rfl) (allLt (p := fun kk0 => ((Y11 (Y0 a0 a1)) : List AV)[(0 + kk0 * 1)]? = some (.pv (.raw (.int .u64 ((Y0 a0 a1) kk0))))) (m := 4) ⟨⟨⟨⟨trivial, rfl⟩, rfl⟩, rfl⟩, rfl⟩ (Int.toNat x10) (by first | omega | (simp at * <;> omega) | (simp_all <;> omega))) ?_
        refine sg (S := .br ((((Y0 a0 a1) (Int.toNat x10)) : Int) != 0) (.and (0 ≤ (x10 : Int) ∧ x10 < ((4 : Nat) : Int)) (.leaf 0)) (.leaf 1)) ?_
        refine br_ h ?_ ?_ <;> clear h <;> intro c13 h
        · refine gd_ h ?_; clear h; intro g14 h
          refine sk_leaf ?_
          refine ldc_ok (d := 35) (id := 0) (off := (0 + (Int.toNat x10) * 1)) (n := 1) (cs := (Y11 (Y0 a0 a1))) (.pv (.raw (.int .u64 ((Y0 a0 a1) (Int.toNat x10))))) (by kernel_rfl) (by kernel_rfl) (allLt (p := fun kk0 => ((Y11 (Y0 a0 a1)) : List AV)[(0 + kk0 * 1)]? = some (.pv (.raw (.int .u64 ((Y0 a0 a1) kk0))))) (m := 4) ⟨⟨⟨⟨trivial, rfl⟩, rfl⟩, rfl⟩, rfl⟩ (Int.toNat x10) (by first | omega | (simp at * <;> omega) | (simp_all <;> omega))) ?_
          refine s0 ?_
          obtain ⟨r15, e16, h⟩ := bd_ h
          refine call_ok (d := some 36) (fn := 21) (ax := [.pv (.raw (.int .u64 ((Y0 a0 a1) (Int.toNat x10))))]) (ps := [(((Y0 a0 a1) (Int.toNat x10)) : Int) = ((Y0 a0 a1) (Int.toNat x10))]) (hb' := []) (by kernel_rfl) (bits_TrailingZeros64_ok _ _ e16 (al := true)) (by kernel_rfl) ⟨rfl, trivial⟩ (fun _ => (by kernel_rfl)) (by simp) rfl (by kernel_rfl) ?_
          refine s0 ?_
          obtain rfl := some_ h
          exact end_ok [] Tryd.results20 (ps := [((IntKind.i64.wrap ((IntKind.i64.wrap (64 * x10)) + r15)) : Int) = (IntKind.i64.wrap ((IntKind.i64.wrap (64 * x10)) + r15))]) (by kernel_rfl) ⟨rfl, trivial⟩ (fun _ => ⟨rfl, by simp⟩)
        · refine sk_leaf ?_
          refine back_ok (p := p1) (by kernel_rfl) (hp1 (n1, (IntKind.i64.wrap (x10 + 1))) _ h (Nat.lt_succ_self n1) ?_)
          exact sub_ok (ρ := [(0, some 0)]) (l := [0 = 0, (0 : Int) = 0, ((IntKind.i64.wrap (x10 + 1)) : Int) = (IntKind.i64.wrap (x10 + 1)), (((Y0 a0 a1) 0) : Int) = ((Y0 a0 a1) 0), (((Y0 a0 a1) 1) : Int) = ((Y0 a0 a1) 1), (((Y0 a0 a1) 2) : Int) = ((Y0 a0 a1) 2), (((Y0 a0 a1) 3) : Int) = ((Y0 a0 a1) 3)]) (by kernel_rfl) ⟨rfl, rfl, rfl, rfl, rfl, rfl, rfl, trivial⟩
      · refine sk_leaf ?_
        obtain rfl := some_ h
        exact end_ok [] Tryd.results20 (ps := [((-1) : Int) = (-1)]) (by kernel_rfl) ⟨rfl, trivial⟩ (fun _ => ⟨rfl, by simp⟩)

theorem bits_All_ok (a0 : (Nat → Int)) (r : (List Int)) (h : bits_All a0 = some r) {al : Bool} : PCalls Tryd.prog 17 [.agg (Y3 a0)] al (.row 0 1 0 r.length) [.row 3 1 (E3.cR r)] := by
  unfold bits_All at h
  refine fn_ok tabOk Tryd.func17 (by kernel_rfl) (by kernel_rfl) Tryd.ntmps17 (by simp) ?_
  refine s0 ?_
  obtain ⟨r1, e2, h⟩ := bd_ h
  refine call_ok (d := some 6) (fn := 20) (ax := [.agg (Y3 a0), .pv (.raw (.int .i64 0))]) (ps := [((a0 0) : Int) = (a0 0), ((a0 1) : Int) = (a0 1), ((a0 2) : Int) = (a0 2), ((a0 3) : Int) = (a0 3), (0 : Int) = 0]) (hb' := []) (by kernel_rfl) (bits_Next_ok _ _ _ e2 (al := true)) (by kernel_rfl) ⟨rfl, rfl, rfl, rfl, rfl, trivial⟩ (fun _ => (by kernel_rfl)) (by simp) rfl (by kernel_rfl) ?_
  refine s0 ?_
  replace h : (fun (x : Nat × List Int × Int) => bits_All_l1 a0 r1 x.1 x.2.1 x.2.2 = some r) (FUEL, ([] : List Int), r1) := h
  refine loop_ok (by kernel_rfl) (X := Nat × List Int × Int) (fun x => bits_All_l1 a0 r1 x.1 x.2.1 x.2.2 = some r) (fun x => x.1) (fun x => mk 18 [(1, .ptr 0 0), (2, .pv (.raw (.slice none 0 0))), (3, .row 1 1 0 x.2.1.length), (4, .pv (.raw (.int .i64 x.2.2)))] [(0, .box (Y3 a0)), (1, .row 3 1 (E3.cR x.2.1))]) (FUEL, ([] : List Int), r1) h ?_ ?_
  · exact sub_ok (ρ := [(0, some 16448), (1, none)]) (l := [0 = 0, 0 = 0, (([] : List Int).length) = 0, (r1 : Int) = r1, ((a0 0) : Int) = (a0 0), ((a0 1) : Int) = (a0 1), ((a0 2) : Int) = (a0 2), ((a0 3) : Int) = (a0 3), E3.cR ([] : List Int) = []]) (by kernel_rfl) ⟨rfl, rfl, (by first | rfl | simp), rfl, rfl, rfl, rfl, rfl, rfl, trivial⟩
  · clear h; rintro ⟨n1, l3, x4⟩ h p1 hp1
    obtain _ | n1 := n1
    · cases (show (none : Option ((List Int))) = some r from h)
    have h : bits_All_l1 a0 r1 (n1 + 1) l3 x4 = some r := h
    unfold bits_All_l1 at h
    refine sg (S := .br (decide ((x4 : Int) ≥ 0)) (.leaf 0) (.leaf 1)) ?_
    refine br_ h ?_ ?_ <;> clear h <;> intro c5 h
    · refine sk_leaf ?_
      refine bs_ok (d := 15) (e := 3) (s := 1) (n := 1) (cs := [.pv (.raw (.int .i64 x4))]) (cs' := E3.cR [x4]) (by kernel_rfl) rfl (by kernel_rfl) ?_
      refine s0 ?_
      obtain ⟨g6, h⟩ := if_ h
      refine app_ok (d := 16) (e := 3) (s := 1) (b := 8) (x := .row 1 1 0 l3.length) (y := .row 17344 1 0 1) E3 (xs := l3) (ys := [x4]) (by kernel_rfl) rfl (.row 1 l3 l3.length rfl (by kernel_rfl)) (.all 17344 3 [x4] 1 rfl (by kernel_rfl)) g6 (by kernel_rfl) ?_
      refine s0 ?_
      obtain ⟨r7, e8, h⟩ := bd_ h
      refine call_ok (d := some 12) (fn := 20) (ax := [.agg (Y3 a0), .pv (.raw (.int .i64 (IntKind.i64.wrap (x4 + 1))))]) (ps := [((a0 0) : Int) = (a0 0), ((a0 1) : Int) = (a0 1), ((a0 2) : Int) = (a0 2), ((a0 3) : Int) = (a0 3), ((IntKind.i64.wrap (x4 + 1)) : Int) = (IntKind.i64.wrap (x4 + 1))]) (hb' := []) (by kernel_rfl) (bits_Next_ok _ _ _ e8 (al := true)) (by kernel_rfl) ⟨rfl, rfl, rfl, rfl, rfl, trivial⟩ (fun _ => (by kernel_rfl)) (by simp) rfl (by kernel_rfl) ?_
      refine s0 ?_
      refine back_ok (p := p1) (by kernel_rfl) (hp1 (n1, (l3 ++ [x4]), r7) _ h (Nat.lt_succ_self n1) ?_)
      exact sub_ok (ρ := [(0, some 0), (1, some 17408)]) (l := [0 = 0, 0 = 0, ((l3 ++ [x4]).length) = ((l3 ++ [x4]).length), (r7 : Int) = r7, ((a0 0) : Int) = (a0 0), ((a0 1) : Int) = (a0 1), ((a0 2) : Int) = (a0 2), ((a0 3) : Int) = (a0 3), E3.cR (l3 ++ [x4]) = E3.cR (l3 ++ [x4]), AllPv (E3.cR (l3 ++ [x4]))]) (by kernel_rfl) ⟨rfl, rfl, rfl, rfl, rfl, rfl, rfl, rfl, rfl, (Elem.cR_pv _ _), trivial⟩
    · refine sk_leaf ?_
      obtain rfl := some_ h
      exact end_ok [(0, some 1)] Tryd.results17 (ps := [0 = 0, l3.length = l3.length, E3.cR l3 = E3.cR l3, AllPv (E3.cR l3)]) (by kernel_rfl) ⟨rfl, rfl, rfl, (Elem.cR_pv _ _), trivial⟩ (fun _ => ⟨rfl, by simp only [List.mem_cons, List.not_mem_nil, or_false, forall_eq_or_imp, forall_eq]; exact Elem.cR_bald E3_raw _⟩)

def Y19 (x0 : List (Nat → Int)) (x1 : Int) : List AV := [.pv (.raw (.int .u64 ((x0.getD (Int.toNat x1) (fun (_ : Nat) => (0 : Int))) 0))), .pv (.raw (.int .u64 ((x0.getD (Int.toNat x1) (fun (_ : Nat) => (0 : Int))) 1))), .pv (.raw (.int .u64 ((x0.getD (Int.toNat x1) (fun (_ : Nat) => (0 : Int))) 2))), .pv (.raw (.int .u64 ((x0.getD (Int.toNat x1) (fun (_ : Nat) => (0 : Int))) 3)))]
theorem vector_table_load_ok (a0 : Vector_table) (a1 : Int) (r : Int) (h : vector_table_load a0 a1 = some r) {al : Bool} : PCalls Tryd.prog 13 [.roat 3 (fun j => E40.cf a0 j), .pv (.raw (.int .i64 a1))] al (.pv (.raw (.int .i64 r))) [] := by
  unfold vector_table_load at h
  refine fn_ok tabOk Tryd.func13 (by kernel_rfl) (by kernel_rfl) Tryd.ntmps13 (by simp) ?_
  refine sg (S := .and (0 ≤ (a1 : Int) ∧ a1 < ((a0.taken_.length : Nat) : Int)) (.leaf 0)) ?_
  refine gd_ h ?_; clear h; intro g1 h
  refine sk_leaf ?_
  obtain ⟨r2, e3, h⟩ := bd_ h
  refine call_ok (d := some 12) (fn := 17) (ax := [.agg (Y19 a0.taken_ a1)]) (ps := [(((a0.taken_.getD (Int.toNat a1) (fun (_ : Nat) => (0 : Int))) 0) : Int) = ((a0.taken_.getD (Int.toNat a1) (fun (_ : Nat) => (0 : Int))) 0), (((a0.taken_.getD (Int.toNat a1) (fun (_ : Nat) => (0 : Int))) 1) : Int) = ((a0.taken_.getD (Int.toNat a1) (fun (_ : Nat) => (0 : Int))) 1), (((a0.taken_.getD (Int.toNat a1) (fun (_ : Nat) => (0 : Int))) 2) : Int) = ((a0.taken_.getD (Int.toNat a1) (fun (_ : Nat) => (0 : Int))) 2), (((a0.taken_.getD (Int.toNat a1) (fun (_ : Nat) => (0 : Int))) 3) : Int) = ((a0.taken_.getD (Int.toNat a1) (fun (_ : Nat) => (0 : Int))) 3)]) (hb' := [.row 3 1 (E3.cR r2)]) (by kernel_rfl) (bits_All_ok _ _ e3 (al := true)) (by kernel_rfl) ⟨rfl, rfl, rfl, rfl, trivial⟩ (fun _ => (by kernel_rfl)) (by simp) (by simp only [Y19, List.map_cons, List.map_nil, Elem.row_up, up_map] <;> rfl) (by kernel_rfl) ?_
  refine s0 ?_
  obtain rfl := some_ h
  exact end_ok [] Tryd.results13 (ps := [(((r2.length : Nat) : Int) : Int) = ((r2.length : Nat) : Int)]) (by kernel_rfl) ⟨rfl, trivial⟩ (fun _ => ⟨rfl, by simp⟩)

def Y7 (x0 x1 : Int) : Bool := (((bitsOf .and .i64 (Int.fdiv x0 (2 ^ (min (Int.toNat x1) IntKind.i64.bits))) 1) : Int) == 1)
def Y13 (x0 : Vector_table) (x1 : Int) : List Prop := [(x0.cores_ : Int) = x0.cores_, x0.of_.length = x0.of_.length, ∀ i, i < x0.of_.length → ∀ j, j < 2 → E31.cf (x0.of_.getD i E31.z) j = E31.cf (x0.of_.getD i E31.z) j, x0.taken_.length = x0.taken_.length, ∀ i, i < x0.taken_.length → ∀ j, j < 4 → E49.cf (x0.taken_.getD i E49.z) j = E49.cf (x0.taken_.getD i E49.z) j, (x1 : Int) = x1]
def Y16 (x0 : Bool) (x1 x2 x3 : Int) : Bool := ((x0 && ((x1 : Int) != x2)) && (decide ((x3 : Int) < 224)))
def Y20 (x0 x1 x2 x3 x4 : Int) : List Prop := [((((((bitsOf .and .i64 (Int.fdiv x0 (2 ^ (min (Int.toNat x1) IntKind.i64.bits))) 1) : Int) == 1) && ((x1 : Int) != x2)) && (decide ((x3 : Int) < 224))) && !(decide ((x4 : Int) < 0))) = true, ((((((bitsOf .and .i64 (Int.fdiv x0 (2 ^ (min (Int.toNat x1) IntKind.i64.bits))) 1) : Int) == 1) && ((x1 : Int) != x2)) && (decide ((x3 : Int) < 224))) && !(decide ((x4 : Int) < 0))) = true]
theorem vector_table_best_ok (a0 : Vector_table) (a1 : Int) (a2 : Int) (r : Int) (h : vector_table_best a0 a1 a2 = some r) {al : Bool} : PCalls Tryd.prog 10 [.roat 3 (fun j => E40.cf a0 j), .pv (.raw (.int .i64 a1)), .pv (.raw (.int .i64 a2))] al (.pv (.raw (.int .i64 r))) [] := by
  unfold vector_table_best at h
  refine fn_ok tabOk Tryd.func10 (by kernel_rfl) (by kernel_rfl) Tryd.ntmps10 (by simp) ?_
  refine s0 ?_
  replace h : (fun (x : Nat × Int × Int) => vector_table_best_l1 a0 a1 a2 x.1 x.2.1 x.2.2 = some r) (FUEL, (-1), 0) := h
  refine loop_ok (by kernel_rfl) (X := Nat × Int × Int) (fun x => vector_table_best_l1 a0 a1 a2 x.1 x.2.1 x.2.2 = some r) (fun x => x.1) (fun x => mk 48 [(0, .roat 3 (fun j => E40.cf a0 j)), (1, .pv (.raw (.int .i64 a1))), (2, .pv (.raw (.int .i64 a2))), (6, .pv (.raw (.int .i64 0))), (7, .pv (.raw (.int .i64 x.2.1))), (12, .pv (.raw (.int .i64 a0.cores_))), (13, .pv (.raw (.int .i64 x.2.2)))] []) (FUEL, (-1), 0) h ?_ ?_
  · exact sub_ok (ρ := []) (l := [(a0.cores_ : Int) = a0.cores_, a0.of_.length = a0.of_.length, ∀ i, i < a0.of_.length → ∀ j, j < 2 → E31.cf (a0.of_.getD i E31.z) j = E31.cf (a0.of_.getD i E31.z) j, a0.taken_.length = a0.taken_.length, ∀ i, i < a0.taken_.length → ∀ j, j < 4 → E49.cf (a0.taken_.getD i E49.z) j = E49.cf (a0.taken_.getD i E49.z) j, (a1 : Int) = a1, (a2 : Int) = a2, (0 : Int) = 0, ((-1) : Int) = (-1), (a0.cores_ : Int) = a0.cores_, (0 : Int) = 0]) (by kernel_rfl) ⟨rfl, rfl, fun _ _ _ _ => rfl, rfl, fun _ _ _ _ => rfl, rfl, rfl, rfl, rfl, rfl, rfl, trivial⟩
  · clear h; rintro ⟨n1, x1, x2⟩ h p1 hp1
    obtain _ | n1 := n1
    · cases (show (none : Option (Int)) = some r from h)
    have h : vector_table_best_l1 a0 a1 a2 (n1 + 1) x1 x2 = some r := h
    unfold vector_table_best_l1 at h
    refine sg (S := .br (decide ((x2 : Int) < a0.cores_)) (.and (0 ≤ (x2 : Int)) (.and (((Y7 a1 x2) = true → ((Y7 a1 x2) = true))) (.and (((Y7 a1 x2) = true → ((Y7 a1 x2) = true))) (.and ((Y7 a1 x2) = true → (Y7 a1 x2) = true) (.leaf 0))))) (.leaf 1)) ?_
    refine br_ h ?_ ?_ <;> clear h <;> intro c3 h
    · refine gd_ h ?_; clear h; intro g4 h
      refine sk_and (fun h => h) ?_
      refine sk_and (fun h => h) ?_
      refine sk_and (fun h => h) ?_
      refine sk_leaf ?_
      obtain ⟨r8, e9, h⟩ := bd_ h
      refine callG_ok (d := some 29) (fn := 13) (ax := [.roat 3 (fun j => E40.cf a0 j), .pv (.raw (.int .i64 x2))]) (args := [.roat 3 (fun j => E40.cf a0 j), .pv (.raw (.int .i64 x2))]) (g := ((((bitsOf .and .i64 (Int.fdiv a1 (2 ^ (min (Int.toNat x2) IntKind.i64.bits))) 1) : Int) == 1) && ((x2 : Int) != a2))) (ws := [((((bitsOf .and .i64 (Int.fdiv a1 (2 ^ (min (Int.toNat x2) IntKind.i64.bits))) 1) : Int) == 1) && ((x2 : Int) != a2)) = true, ((((bitsOf .and .i64 (Int.fdiv a1 (2 ^ (min (Int.toNat x2) IntKind.i64.bits))) 1) : Int) == 1) && ((x2 : Int) != a2)) = true]) (ps := (Y13 a0 x2)) (by kernel_rfl) (fun hg => ⟨((by decide : ∀ y0 : Bool, ((y0 = true) → (y0 = true))) ((((bitsOf .and .i64 (Int.fdiv a1 (2 ^ (min (Int.toNat x2) IntKind.i64.bits))) 1) : Int) == 1) && ((x2 : Int) != a2))) hg, ((by decide : ∀ y0 : Bool, ((y0 = true) → (y0 = true))) ((((bitsOf .and .i64 (Int.fdiv a1 (2 ^ (min (Int.toNat x2) IntKind.i64.bits))) 1) : Int) == 1) && ((x2 : Int) != a2))) hg, trivial⟩) (fun hg => vector_table_load_ok _ _ _ (by rw [hg] at e9; exact e9) (al := false)) (by kernel_rfl) (fun hg => ⟨rfl, rfl, fun _ _ _ _ => rfl, rfl, fun _ _ _ _ => rfl, rfl, trivial⟩) (fun hx => by cases hx) ?_
      refine sg (S := .and ((((Y7 a1 x2) && ((x2 : Int) != a2)) = true → (((Y7 a1 x2) && ((x2 : Int) != a2)) = true))) (.and (((Y7 a1 x2) && ((x2 : Int) != a2)) = true → ((Y7 a1 x2) && ((x2 : Int) != a2)) = true) (.and (((Y16 (Y7 a1 x2) x2 a2 r8) = true → ((Y16 (Y7 a1 x2) x2 a2 r8) = true))) (.and (((Y16 (Y7 a1 x2) x2 a2 r8) = true → ((Y16 (Y7 a1 x2) x2 a2 r8) = true))) (.leaf 0))))) ?_
      refine sk_and (fun h => h) ?_
      refine sk_and (fun h => h) ?_
      refine sk_and (fun h => h) ?_
      refine sk_and (fun h => h) ?_
      refine sk_leaf ?_
      obtain ⟨r14, e15, h⟩ := bd_ h
      refine callG_ok (d := some 38) (fn := 13) (ax := [.roat 3 (fun j => E40.cf a0 j), .pv (.raw (.int .i64 x2))]) (args := [.roat 3 (fun j => E40.cf a0 j), .pv (.raw (.int .i64 x2))]) (g := ((((((bitsOf .and .i64 (Int.fdiv a1 (2 ^ (min (Int.toNat x2) IntKind.i64.bits))) 1) : Int) == 1) && ((x2 : Int) != a2)) && (decide ((r8 : Int) < 224))) && !(decide ((x1 : Int) < 0)))) (ws := (Y20 a1 x2 a2 r8 x1)) (ps := (Y13 a0 x2)) (by kernel_rfl) (fun hg => ⟨((by decide : ∀ y0 : Bool, ((y0 = true) → (y0 = true))) ((((((bitsOf .and .i64 (Int.fdiv a1 (2 ^ (min (Int.toNat x2) IntKind.i64.bits))) 1) : Int) == 1) && ((x2 : Int) != a2)) && (decide ((r8 : Int) < 224))) && !(decide ((x1 : Int) < 0)))) hg, ((by decide : ∀ y0 : Bool, ((y0 = true) → (y0 = true))) ((((((bitsOf .and .i64 (Int.fdiv a1 (2 ^ (min (Int.toNat x2) IntKind.i64.bits))) 1) : Int) == 1) && ((x2 : Int) != a2)) && (decide ((r8 : Int) < 224))) && !(decide ((x1 : Int) < 0)))) hg, trivial⟩) (fun hg => vector_table_load_ok _ _ _ (by rw [hg] at e15; exact e15) (al := false)) (by kernel_rfl) (fun hg => ⟨rfl, rfl, fun _ _ _ _ => rfl, rfl, fun _ _ _ _ => rfl, rfl, trivial⟩) (fun hx => by cases hx) ?_
      refine s0 ?_
      obtain ⟨r16, e17, h⟩ := bd_ h
      refine callG_ok (d := some 41) (fn := 13) (ax := [.roat 3 (fun j => E40.cf a0 j), .pv (.raw (.int .i64 x1))]) (args := [.roat 3 (fun j => E40.cf a0 j), .pv (.raw (.int .i64 x1))]) (g := ((((((bitsOf .and .i64 (Int.fdiv a1 (2 ^ (min (Int.toNat x2) IntKind.i64.bits))) 1) : Int) == 1) && ((x2 : Int) != a2)) && (decide ((r8 : Int) < 224))) && !(decide ((x1 : Int) < 0)))) (ws := (Y20 a1 x2 a2 r8 x1)) (ps := (Y13 a0 x1)) (by kernel_rfl) (fun hg => ⟨((by decide : ∀ y0 : Bool, ((y0 = true) → (y0 = true))) ((((((bitsOf .and .i64 (Int.fdiv a1 (2 ^ (min (Int.toNat x2) IntKind.i64.bits))) 1) : Int) == 1) && ((x2 : Int) != a2)) && (decide ((r8 : Int) < 224))) && !(decide ((x1 : Int) < 0)))) hg, ((by decide : ∀ y0 : Bool, ((y0 = true) → (y0 = true))) ((((((bitsOf .and .i64 (Int.fdiv a1 (2 ^ (min (Int.toNat x2) IntKind.i64.bits))) 1) : Int) == 1) && ((x2 : Int) != a2)) && (decide ((r8 : Int) < 224))) && !(decide ((x1 : Int) < 0)))) hg, trivial⟩) (fun hg => vector_table_load_ok _ _ _ (by rw [hg] at e17; exact e17) (al := false)) (by kernel_rfl) (fun hg => ⟨rfl, rfl, fun _ _ _ _ => rfl, rfl, fun _ _ _ _ => rfl, rfl, trivial⟩) (fun hx => by cases hx) ?_
      refine sg (S := .and ((((Y16 (Y7 a1 x2) x2 a2 r8) && !(decide ((x1 : Int) < 0))) = true → (((Y16 (Y7 a1 x2) x2 a2 r8) && !(decide ((x1 : Int) < 0))) = true))) (.and ((((Y16 (Y7 a1 x2) x2 a2 r8) && !(decide ((x1 : Int) < 0))) = true → (((Y16 (Y7 a1 x2) x2 a2 r8) && !(decide ((x1 : Int) < 0))) = true))) (.and (((Y16 (Y7 a1 x2) x2 a2 r8) = true → ((Y16 (Y7 a1 x2) x2 a2 r8) = true))) (.and (((Y16 (Y7 a1 x2) x2 a2 r8) = true → ((decide ((x1 : Int) < 0)) = false → ((Y16 (Y7 a1 x2) x2 a2 r8) && !(decide ((x1 : Int) < 0))) = true))) (.and ((Y16 (Y7 a1 x2) x2 a2 r8) = true → (Y16 (Y7 a1 x2) x2 a2 r8) = true) (.br ((((((bitsOf .and .i64 (Int.fdiv a1 (2 ^ (min (Int.toNat x2) IntKind.i64.bits))) 1) : Int) == 1) && ((x2 : Int) != a2)) && (decide ((r8 : Int) < 224))) && ((decide ((x1 : Int) < 0)) || (decide ((r14 : Int) < r16)))) (.leaf 0) (.leaf 1))))))) ?_
      refine sk_and (fun h => h) ?_
      refine sk_and (fun h => h) ?_
      refine sk_and (fun h => h) ?_
      refine sk_and ((by decide : ∀ y0 y1 : Bool, ((y0 = true) → ((y1 = false) → ((y0 && (!y1)) = true)))) (Y16 (Y7 a1 x2) x2 a2 r8) (decide ((x1 : Int) < 0))) ?_
      refine sk_and (fun h => h) ?_
      refine br_ h ?_ ?_ <;> clear h <;> intro c23 h
      · refine sk_leaf ?_
        refine back_ok (p := p1) (by kernel_rfl) (hp1 (n1, x2, (IntKind.i64.wrap (x2 + 1))) _ h (Nat.lt_succ_self n1) ?_)
        exact sub_ok (ρ := []) (l := [(a0.cores_ : Int) = a0.cores_, a0.of_.length = a0.of_.length, ∀ i, i < a0.of_.length → ∀ j, j < 2 → E31.cf (a0.of_.getD i E31.z) j = E31.cf (a0.of_.getD i E31.z) j, a0.taken_.length = a0.taken_.length, ∀ i, i < a0.taken_.length → ∀ j, j < 4 → E49.cf (a0.taken_.getD i E49.z) j = E49.cf (a0.taken_.getD i E49.z) j, (a1 : Int) = a1, (a2 : Int) = a2, (0 : Int) = 0, (x2 : Int) = x2, (a0.cores_ : Int) = a0.cores_, ((IntKind.i64.wrap (x2 + 1)) : Int) = (IntKind.i64.wrap (x2 + 1))]) (by kernel_rfl) ⟨rfl, rfl, fun _ _ _ _ => rfl, rfl, fun _ _ _ _ => rfl, rfl, rfl, rfl, rfl, rfl, rfl, trivial⟩
      · refine sk_leaf ?_
        refine back_ok (p := p1) (by kernel_rfl) (hp1 (n1, x1, (IntKind.i64.wrap (x2 + 1))) _ h (Nat.lt_succ_self n1) ?_)
        exact sub_ok (ρ := []) (l := [(a0.cores_ : Int) = a0.cores_, a0.of_.length = a0.of_.length, ∀ i, i < a0.of_.length → ∀ j, j < 2 → E31.cf (a0.of_.getD i E31.z) j = E31.cf (a0.of_.getD i E31.z) j, a0.taken_.length = a0.taken_.length, ∀ i, i < a0.taken_.length → ∀ j, j < 4 → E49.cf (a0.taken_.getD i E49.z) j = E49.cf (a0.taken_.getD i E49.z) j, (a1 : Int) = a1, (a2 : Int) = a2, (0 : Int) = 0, (x1 : Int) = x1, (a0.cores_ : Int) = a0.cores_, ((IntKind.i64.wrap (x2 + 1)) : Int) = (IntKind.i64.wrap (x2 + 1))]) (by kernel_rfl) ⟨rfl, rfl, fun _ _ _ _ => rfl, rfl, fun _ _ _ _ => rfl, rfl, rfl, rfl, rfl, rfl, rfl, trivial⟩
    · refine sk_leaf ?_
      obtain rfl := some_ h
      exact end_ok [] Tryd.results10 (ps := [(x1 : Int) = x1]) (by kernel_rfl) ⟨rfl, trivial⟩ (fun _ => ⟨rfl, by simp⟩)

theorem bits_Has_ok (a0 : (Nat → Int)) (a1 : Int) (r : Bool) (h : bits_Has a0 a1 = some r) {al : Bool} : PCalls Tryd.prog 18 [.agg (Y3 a0), .pv (.raw (.int .i64 a1))] al (.pv (.raw (.bool r))) [] := by
  unfold bits_Has at h
  refine fn_ok tabOk Tryd.func18 (by kernel_rfl) (by kernel_rfl) Tryd.ntmps18 (by simp) ?_
  refine s0 ?_
  obtain ⟨r1, e2, h⟩ := bd_ h
  refine call_ok (d := some 6) (fn := 19) (ax := [.pv (.raw (.int .i64 a1))]) (ps := [(a1 : Int) = a1]) (hb' := []) (by kernel_rfl) (bits_fits_ok _ _ e2 (al := true)) (by kernel_rfl) ⟨rfl, trivial⟩ (fun _ => (by kernel_rfl)) (by simp) rfl (by kernel_rfl) ?_
  refine sg (S := .and ((r1 = true → (r1 = true))) (.and ((r1 = true → ((64 : Int) ≠ 0))) (.and ((r1 = true → (r1 = true))) (.and ((r1 = true → (0 ≤ ((IntKind.i64.wrap (Int.tdiv a1 64)) : Int) ∧ (IntKind.i64.wrap (Int.tdiv a1 64)) < ((4 : Nat) : Int)))) (.leaf 0))))) ?_
  refine sk_and (fun h => h) ?_
  refine sk_and (fun _ => by decide) ?_
  refine sk_and (fun h => h) ?_
  refine gd_ h ?_; clear h; intro g6 h
  refine sk_leaf ?_
  refine ldcG_ok (d := 11) (id := 16512) (off := (0 + (Int.toNat (IntKind.i64.wrap (Int.tdiv a1 64))) * 1)) (n := 1) (g := r1) (ws := [r1 = true]) (cs := (Y3 a0)) (.raw (.int .u64 (a0 (Int.toNat (IntKind.i64.wrap (Int.tdiv a1 64)))))) (by kernel_rfl) (fun hg => ⟨((by decide : ∀ y0 : Bool, ((y0 = true) → (y0 = true))) r1) hg, trivial⟩) (by kernel_rfl) (fun hg => (allLt (p := fun kk0 => ((Y3 a0) : List AV)[(0 + kk0 * 1)]? = some (.pv (.raw (.int .u64 (a0 kk0))))) (m := 4) ⟨⟨⟨⟨trivial, rfl⟩, rfl⟩, rfl⟩, rfl⟩ (Int.toNat (IntKind.i64.wrap (Int.tdiv a1 64))) (by first | omega | (simp at * <;> omega) | (simp_all <;> omega)))) ?_
  refine sg (S := .and ((r1 = true → (r1 = true))) (.and ((r1 = true → ((64 : Int) ≠ 0))) (.and ((r1 = true → (r1 = true))) (.and ((r1 = true → (r1 = true))) (.and ((r1 = true → (0 ≤ ((Int.tmod a1 64) : Int)))) (.and ((r1 = true → (r1 = true))) (.and ((r1 = true → (r1 = true))) (.and (r1 = true → r1 = true) (.leaf 0))))))))) ?_
  refine sk_and (fun h => h) ?_
  refine sk_and (fun _ => by decide) ?_
  refine sk_and (fun h => h) ?_
  refine sk_and (fun h => h) ?_
  refine gd_ h ?_; clear h; intro g11 h
  refine sk_and (fun h => h) ?_
  refine sk_and (fun h => h) ?_
  refine sk_and (fun h => h) ?_
  refine sk_leaf ?_
  obtain rfl := some_ h
  exact end_ok [] Tryd.results18 (ps := [(r1 && (((bitsOf .and .u64 (Int.fdiv (a0 (Int.toNat (IntKind.i64.wrap (Int.tdiv a1 64)))) (2 ^ (min (Int.toNat (Int.tmod a1 64)) IntKind.u64.bits))) 1) : Int) == 1)) = (r1 && (((bitsOf .and .u64 (Int.fdiv (a0 (Int.toNat (IntKind.i64.wrap (Int.tdiv a1 64)))) (2 ^ (min (Int.toNat (Int.tmod a1 64)) IntKind.u64.bits))) 1) : Int) == 1))]) (by kernel_rfl) ⟨rfl, trivial⟩ (fun _ => ⟨rfl, by simp⟩)

end Go.Proofs.YtdfgmloipigmfaaDoor
