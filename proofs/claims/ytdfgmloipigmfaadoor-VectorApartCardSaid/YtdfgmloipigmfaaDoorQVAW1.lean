/- The functions do as their models: printed by program. -/
import Derived.Test.YtdfgmloipigmfaaDoorQVAW0
set_option linter.unusedSimpArgs false
set_option linter.unusedVariables false
namespace Go.Proofs.YtdfgmloipigmfaaDoor
open Go Go.Ab
set_option maxHeartbeats 40000000
set_option maxRecDepth 100000
attribute [local irreducible] V VS runS Sk.Holds

theorem vector_table_least_ok (a0 : Vector_table) (a1 : Int) (r : Int) (h : vector_table_least a0 a1 = some r) {al : Bool} : PCalls Tryd.prog 14 [.roat 3 (fun j => E40.cf a0 j), .pv (.raw (.int .i64 a1))] al (.pv (.raw (.int .i64 r))) [] := by
  unfold vector_table_least at h
  refine fn_ok tabOk Tryd.func14 (by kernel_rfl) (by kernel_rfl) Tryd.ntmps14 (by simp) ?_
  refine s0 ?_
  replace h : (fun (x : Nat × Int) => vector_table_least_l1 a0 a1 x.1 x.2 = some r) (FUEL, 32) := h
  refine loop_ok (by kernel_rfl) (X := Nat × Int) (fun x => vector_table_least_l1 a0 a1 x.1 x.2 = some r) (fun x => x.1) (fun x => mk 18 [(0, .roat 3 (fun j => E40.cf a0 j)), (1, .pv (.raw (.int .i64 a1))), (4, .pv (.raw (.int .i64 0))), (5, .pv (.raw (.int .i64 x.2)))] []) (FUEL, 32) h ?_ ?_
  · exact sub_ok (ρ := []) (l := [(a0.cores_ : Int) = a0.cores_, a0.of_.length = a0.of_.length, ∀ i, i < a0.of_.length → ∀ j, j < 2 → E31.cf (a0.of_.getD i E31.z) j = E31.cf (a0.of_.getD i E31.z) j, a0.taken_.length = a0.taken_.length, ∀ i, i < a0.taken_.length → ∀ j, j < 4 → E49.cf (a0.taken_.getD i E49.z) j = E49.cf (a0.taken_.getD i E49.z) j, (a1 : Int) = a1, (0 : Int) = 0, (32 : Int) = 32]) (by kernel_rfl) ⟨rfl, rfl, fun _ _ _ _ => rfl, rfl, fun _ _ _ _ => rfl, rfl, rfl, rfl, trivial⟩
  · clear h; rintro ⟨n1, x1⟩ h p1 hp1
    obtain _ | n1 := n1
    · cases (show (none : Option (Int)) = some r from h)
    have h : vector_table_least_l1 a0 a1 (n1 + 1) x1 = some r := h
    unfold vector_table_least_l1 at h
    refine sg (S := .and (0 ≤ (a1 : Int) ∧ a1 < ((a0.taken_.length : Nat) : Int)) (.leaf 0)) ?_
    refine gd_ h ?_; clear h; intro g2 h
    refine sk_leaf ?_
    obtain ⟨r3, e4, h⟩ := bd_ h
    refine call_ok (d := some 14) (fn := 18) (ax := [.agg (Y19 a0.taken_ a1), .pv (.raw (.int .i64 x1))]) (ps := [(((a0.taken_.getD (Int.toNat a1) (fun (_ : Nat) => (0 : Int))) 0) : Int) = ((a0.taken_.getD (Int.toNat a1) (fun (_ : Nat) => (0 : Int))) 0), (((a0.taken_.getD (Int.toNat a1) (fun (_ : Nat) => (0 : Int))) 1) : Int) = ((a0.taken_.getD (Int.toNat a1) (fun (_ : Nat) => (0 : Int))) 1), (((a0.taken_.getD (Int.toNat a1) (fun (_ : Nat) => (0 : Int))) 2) : Int) = ((a0.taken_.getD (Int.toNat a1) (fun (_ : Nat) => (0 : Int))) 2), (((a0.taken_.getD (Int.toNat a1) (fun (_ : Nat) => (0 : Int))) 3) : Int) = ((a0.taken_.getD (Int.toNat a1) (fun (_ : Nat) => (0 : Int))) 3), (x1 : Int) = x1]) (hb' := []) (by kernel_rfl) (bits_Has_ok _ _ _ e4 (al := true)) (by kernel_rfl) ⟨rfl, rfl, rfl, rfl, rfl, trivial⟩ (fun _ => (by kernel_rfl)) (by simp) rfl (by kernel_rfl) ?_
    refine sg (S := .br r3 (.leaf 0) (.leaf 1)) ?_
    refine br_ h ?_ ?_ <;> clear h <;> intro c5 h
    · refine sk_leaf ?_
      refine back_ok (p := p1) (by kernel_rfl) (hp1 (n1, (IntKind.i64.wrap (x1 + 1))) _ h (Nat.lt_succ_self n1) ?_)
      exact sub_ok (ρ := []) (l := [(a0.cores_ : Int) = a0.cores_, a0.of_.length = a0.of_.length, ∀ i, i < a0.of_.length → ∀ j, j < 2 → E31.cf (a0.of_.getD i E31.z) j = E31.cf (a0.of_.getD i E31.z) j, a0.taken_.length = a0.taken_.length, ∀ i, i < a0.taken_.length → ∀ j, j < 4 → E49.cf (a0.taken_.getD i E49.z) j = E49.cf (a0.taken_.getD i E49.z) j, (a1 : Int) = a1, (0 : Int) = 0, ((IntKind.i64.wrap (x1 + 1)) : Int) = (IntKind.i64.wrap (x1 + 1))]) (by kernel_rfl) ⟨rfl, rfl, fun _ _ _ _ => rfl, rfl, fun _ _ _ _ => rfl, rfl, rfl, rfl, trivial⟩
    · refine sk_leaf ?_
      obtain rfl := some_ h
      exact end_ok [] Tryd.results14 (ps := [(x1 : Int) = x1]) (by kernel_rfl) ⟨rfl, trivial⟩ (fun _ => ⟨rfl, by simp⟩)

def Y5 (x0 : (Nat → Int)) (x1 : Int) : Nat → Int := (upd x0 (Int.toNat (IntKind.i64.wrap (Int.tdiv x1 64))) (bitsOf .or .u64 (x0 (Int.toNat (IntKind.i64.wrap (Int.tdiv x1 64)))) (IntKind.u64.wrap (1 * 2 ^ (min (Int.toNat (Int.tmod x1 64)) IntKind.u64.bits)))))
def Y18 (x0 : (Nat → Int)) (x1 : Nat) (x2 : Int) : Nat → Int := (upd x0 x1 (bitsOf .or .u64 (x0 (Int.toNat (IntKind.i64.wrap (Int.tdiv x2 64)))) (IntKind.u64.wrap (1 * 2 ^ (min (Int.toNat (Int.tmod x2 64)) IntKind.u64.bits)))))
def Y22 (x0 : Nat → Int) : List Prop := [((x0 0) : Int) = (x0 0), ((x0 1) : Int) = (x0 1), ((x0 2) : Int) = (x0 2), ((x0 3) : Int) = (x0 3)]
theorem Y22p {x0 : Nat → Int} : allP (Y22 x0) := ⟨rfl, rfl, rfl, rfl, trivial⟩
theorem bits_With_ok (a0 : (Nat → Int)) (a1 : Int) (r : (Nat → Int)) (h : bits_With a0 a1 = some r) {al : Bool} : PCalls Tryd.prog 15 [.agg (Y3 a0), .pv (.raw (.int .i64 a1))] al (.agg [.pv (.raw (.int .u64 (r 0))), .pv (.raw (.int .u64 (r 1))), .pv (.raw (.int .u64 (r 2))), .pv (.raw (.int .u64 (r 3)))]) [] := by
  unfold bits_With at h
  refine fn_ok tabOk Tryd.func15 (by kernel_rfl) (by kernel_rfl) Tryd.ntmps15 (by simp) ?_
  refine s0 ?_
  obtain ⟨r1, e2, h⟩ := bd_ h
  refine call_ok (d := some 6) (fn := 19) (ax := [.pv (.raw (.int .i64 a1))]) (ps := [(a1 : Int) = a1]) (hb' := []) (by kernel_rfl) (bits_fits_ok _ _ e2 (al := true)) (by kernel_rfl) ⟨rfl, trivial⟩ (fun _ => (by kernel_rfl)) (by simp) rfl (by kernel_rfl) ?_
  refine sg (S := .br r1 (.and ((64 : Int) ≠ 0) (.and (0 ≤ ((IntKind.i64.wrap (Int.tdiv a1 64)) : Int) ∧ (IntKind.i64.wrap (Int.tdiv a1 64)) < ((4 : Nat) : Int)) (.leaf 0))) (.leaf 1)) ?_
  refine br_ h ?_ ?_ <;> clear h <;> intro c3 h
  · refine sk_and (by decide) ?_
    refine gd_ h ?_; clear h; intro g5 h
    refine sk_leaf ?_
    refine ldc_ok (d := 10) (id := 16512) (off := (0 + (Int.toNat (IntKind.i64.wrap (Int.tdiv a1 64))) * 1)) (n := 1) (cs := (Y3 a0)) (.pv (.raw (.int .u64 (a0 (Int.toNat (IntKind.i64.wrap (Int.tdiv a1 64))))))) (by kernel_rfl) (by kernel_rfl) (allLt (p := fun kk0 => ((Y3 a0) : List AV)[(0 + kk0 * 1)]? = some (.pv (.raw (.int .u64 (a0 kk0))))) (m := 4) ⟨⟨⟨⟨trivial, rfl⟩, rfl⟩, rfl⟩, rfl⟩ (Int.toNat (IntKind.i64.wrap (Int.tdiv a1 64))) (by first | omega | (simp at * <;> omega) | (simp_all <;> omega))) ?_
    refine sg (S := .and ((64 : Int) ≠ 0) (.and (0 ≤ ((Int.tmod a1 64) : Int)) (.and (0 ≤ ((IntKind.i64.wrap (Int.tdiv a1 64)) : Int) ∧ (IntKind.i64.wrap (Int.tdiv a1 64)) < ((4 : Nat) : Int)) (.leaf 0)))) ?_
    refine sk_and (by decide) ?_
    refine gd_ h ?_; clear h; intro g7 h
    refine gd_ h ?_; clear h; intro g8 h
    refine sk_leaf ?_
    refine stc_ok (id := 16512) (off := (0 + (Int.toNat (IntKind.i64.wrap (Int.tdiv a1 64))) * 1)) (vs := [.pv (.raw (.int .u64 (bitsOf .or .u64 (a0 (Int.toNat (IntKind.i64.wrap (Int.tdiv a1 64)))) (IntKind.u64.wrap (1 * 2 ^ (min (Int.toNat (Int.tmod a1 64)) IntKind.u64.bits))))))]) (cs := (Y3 a0)) (Y17 (Y5 a0 a1)) (by kernel_rfl) (by kernel_rfl) (by simp only [Y17, Y3, List.length_append, rA_length, fl_length, List.length_cons, List.length_nil]; first | omega | (simp at * <;> omega) | (simp_all <;> omega)) (allLt (p := fun kk0 => setCells (Y3 a0) ((0 + kk0 * 1)) [.pv (.raw (.int .u64 (bitsOf .or .u64 (a0 (Int.toNat (IntKind.i64.wrap (Int.tdiv a1 64)))) (IntKind.u64.wrap (1 * 2 ^ (min (Int.toNat (Int.tmod a1 64)) IntKind.u64.bits))))))] = [.pv (.raw (.int .u64 ((Y18 a0 kk0 a1) 0))), .pv (.raw (.int .u64 ((Y18 a0 kk0 a1) 1))), .pv (.raw (.int .u64 ((Y18 a0 kk0 a1) 2))), .pv (.raw (.int .u64 ((Y18 a0 kk0 a1) 3)))]) (m := 4) ⟨⟨⟨⟨trivial, rfl⟩, rfl⟩, rfl⟩, rfl⟩ (Int.toNat (IntKind.i64.wrap (Int.tdiv a1 64))) (by first | omega | (simp at * <;> omega) | (simp_all <;> omega))) ?_
    refine s0 ?_
    obtain rfl := some_ h
    exact end_ok [] Tryd.results15 (ps := (Y22 (Y5 a0 a1))) (by kernel_rfl) Y22p (fun _ => ⟨rfl, by simp⟩)
  · refine sk_leaf ?_
    obtain rfl := some_ h
    exact end_ok [] Tryd.results15 (ps := [((a0 0) : Int) = (a0 0), ((a0 1) : Int) = (a0 1), ((a0 2) : Int) = (a0 2), ((a0 3) : Int) = (a0 3)]) (by kernel_rfl) ⟨rfl, rfl, rfl, rfl, trivial⟩ (fun _ => ⟨rfl, by simp⟩)

def Y10 (x0 : Vector_table) (x1 x2 : Nat) : List AV := [.pv (.raw (.int .i64 x0.cores_)), .row x1 2 0 x0.of_.length, .row x2 4 0 x0.taken_.length]
theorem vector_table_take_ok (a0 : Vector_table) (a1 : Int) (a2 : Int) (r : Vector_table) (h : vector_table_take a0 a1 a2 = some r) {al : Bool} : MCalls Tryd.prog 11 [.ptr 0 0, .pv (.raw (.int .i64 a1)), .pv (.raw (.int .i64 a2))] [.box (Y10 a0 1 2), .row 31 2 (E31.cR a0.of_), .row 49 4 (E49.cR a0.taken_)] 1 al (.tup []) [.box (Y10 r 1 2), .row 31 2 (E31.cR r.of_), .row 49 4 (E49.cR r.taken_)] := by
  unfold vector_table_take at h
  refine fnM_ok tabOk (fz := []) Tryd.func11 (by kernel_rfl) (by kernel_rfl) Tryd.ntmps11 (by simp) (by first | (simp; done) | exact Nat.le_of_ble_eq_true rfl) ?_
  refine s0 ?_
  obtain ⟨r1, e2, h⟩ := bd_ h
  refine call_ok (d := some 10) (fn := 14) (ax := [.ptr 0 0, .pv (.raw (.int .i64 a2))]) (ps := [(a0.cores_ : Int) = a0.cores_, a0.of_.length = a0.of_.length, rowQ (E31.cR a0.of_) 2 0 a0.of_.length (fun i j => E31.cf (a0.of_.getD i E31.z) j), a0.taken_.length = a0.taken_.length, rowQ (E49.cR a0.taken_) 4 0 a0.taken_.length (fun i j => E49.cf (a0.taken_.getD i E49.z) j), (a2 : Int) = a2]) (hb' := []) (by kernel_rfl) (vector_table_least_ok _ _ _ e2 (al := false)) (by kernel_rfl) ⟨rfl, (by first | rfl | exact Elem.sub_len _ (by omega) | omega | simp | (simp <;> omega)), E31.rowQ_all a0.of_ rfl, (by first | rfl | exact Elem.sub_len _ (by omega) | omega | simp | (simp <;> omega)), E49.rowQ_all a0.taken_ rfl, rfl, trivial⟩ (fun hx => by cases hx) (by simp) rfl (by kernel_rfl) ?_
  refine sg (S := .and (0 ≤ (a1 : Int) ∧ a1 < ((a0.of_.length : Nat) : Int)) (.leaf 0)) ?_
  refine gd_ h ?_; clear h; intro g3 h
  refine sk_leaf ?_
  refine st_ok (id := 1) (i := (0 + (Int.toNat a1))) (j := 0) (e := 31) (vs := [.pv (.raw (.int .i64 a2)), .pv (.raw (.int .i64 r1))]) E31 (xs := a0.of_) (⟨a2, r1⟩ : Api_Slot) (by kernel_rfl) (by kernel_rfl) (by first | omega | (simp at * <;> omega) | (simp_all <;> omega)) (by exact Nat.le_of_ble_eq_true rfl) rfl ?_
  refine sg (S := .and (0 ≤ (a2 : Int) ∧ a2 < ((a0.taken_.length : Nat) : Int)) (.leaf 0)) ?_
  refine gd_ h ?_; clear h; intro g4 h
  refine sk_leaf ?_
  refine lda_ok (d := 30) (id := 2) (i := (0 + (Int.toNat a2))) (e := 49) (n := 4) E49 (xs := a0.taken_) (by kernel_rfl) (by kernel_rfl) (by first | omega | (simp at * <;> omega) | (simp_all <;> omega)) rfl ?_
  refine s0 ?_
  obtain ⟨r5, e6, h⟩ := bd_ h
  refine call_ok (d := some 33) (fn := 15) (ax := [.agg [.pv (.raw (.int .u64 ((a0.taken_.getD (0 + (Int.toNat a2)) (fun (_ : Nat) => (0 : Int))) 0))), .pv (.raw (.int .u64 ((a0.taken_.getD (0 + (Int.toNat a2)) (fun (_ : Nat) => (0 : Int))) 1))), .pv (.raw (.int .u64 ((a0.taken_.getD (0 + (Int.toNat a2)) (fun (_ : Nat) => (0 : Int))) 2))), .pv (.raw (.int .u64 ((a0.taken_.getD (0 + (Int.toNat a2)) (fun (_ : Nat) => (0 : Int))) 3)))], .pv (.raw (.int .i64 r1))]) (ps := [(((a0.taken_.getD (0 + (Int.toNat a2)) (fun (_ : Nat) => (0 : Int))) 0) : Int) = ((a0.taken_.getD (0 + (Int.toNat a2)) (fun (_ : Nat) => (0 : Int))) 0), (((a0.taken_.getD (0 + (Int.toNat a2)) (fun (_ : Nat) => (0 : Int))) 1) : Int) = ((a0.taken_.getD (0 + (Int.toNat a2)) (fun (_ : Nat) => (0 : Int))) 1), (((a0.taken_.getD (0 + (Int.toNat a2)) (fun (_ : Nat) => (0 : Int))) 2) : Int) = ((a0.taken_.getD (0 + (Int.toNat a2)) (fun (_ : Nat) => (0 : Int))) 2), (((a0.taken_.getD (0 + (Int.toNat a2)) (fun (_ : Nat) => (0 : Int))) 3) : Int) = ((a0.taken_.getD (0 + (Int.toNat a2)) (fun (_ : Nat) => (0 : Int))) 3), (r1 : Int) = r1]) (hb' := []) (by kernel_rfl) (bits_With_ok _ _ _ e6 (al := true)) (by kernel_rfl) ⟨rfl, rfl, rfl, rfl, rfl, trivial⟩ (fun _ => (by kernel_rfl)) (by simp) rfl (by kernel_rfl) ?_
  refine sg (S := .and (0 ≤ (a2 : Int) ∧ a2 < ((a0.taken_.length : Nat) : Int)) (.leaf 0)) ?_
  refine gd_ h ?_; clear h; intro g7 h
  refine sk_leaf ?_
  refine st_ok (id := 2) (i := (0 + (Int.toNat a2))) (j := 0) (e := 49) (vs := (Y3 r5)) E49 (xs := a0.taken_) r5 (by kernel_rfl) (by kernel_rfl) (by first | omega | (simp at * <;> omega) | (simp_all <;> omega)) (by exact Nat.le_of_ble_eq_true rfl) rfl ?_
  refine s0 ?_
  obtain rfl := some_ h
  exact endM_ok (rI 0 0 3) Tryd.results11 (ps := [(a0.cores_ : Int) = a0.cores_, 0 = 0, a0.of_.length = (a0.of_.set (0 + (Int.toNat a1)) (⟨a2, r1⟩ : Api_Slot)).length, 0 = 0, a0.taken_.length = (a0.taken_.set (0 + (Int.toNat a2)) r5).length, E31.cR (a0.of_.set (0 + (Int.toNat a1)) (⟨a2, r1⟩ : Api_Slot)) = E31.cR (a0.of_.set (0 + (Int.toNat a1)) (⟨a2, r1⟩ : Api_Slot)), AllPv (E31.cR (a0.of_.set (0 + (Int.toNat a1)) (⟨a2, r1⟩ : Api_Slot))), E49.cR (a0.taken_.set (0 + (Int.toNat a2)) r5) = E49.cR (a0.taken_.set (0 + (Int.toNat a2)) r5), AllPv (E49.cR (a0.taken_.set (0 + (Int.toNat a2)) r5))]) (by kernel_rfl) ⟨rfl, rfl, (by first | rfl | simp), rfl, (by first | rfl | simp), rfl, (Elem.cR_pv _ _), rfl, (Elem.cR_pv _ _), trivial⟩ (fun _ => ⟨rfl, by simp only [List.mem_cons, List.not_mem_nil, or_false, forall_eq_or_imp, forall_eq]; exact ⟨rfl, Elem.cR_bald E31_raw _, Elem.cR_bald E49_raw _⟩⟩)

def Y4 (x0 : (Nat → Int)) (x1 : Int) : Nat → Int := (upd x0 (Int.toNat (IntKind.i64.wrap (Int.tdiv x1 64))) (bitsOf .andNot .u64 (x0 (Int.toNat (IntKind.i64.wrap (Int.tdiv x1 64)))) (IntKind.u64.wrap (1 * 2 ^ (min (Int.toNat (Int.tmod x1 64)) IntKind.u64.bits)))))
def Y15 (x0 : (Nat → Int)) (x1 : Nat) (x2 : Int) : Nat → Int := (upd x0 x1 (bitsOf .andNot .u64 (x0 (Int.toNat (IntKind.i64.wrap (Int.tdiv x2 64)))) (IntKind.u64.wrap (1 * 2 ^ (min (Int.toNat (Int.tmod x2 64)) IntKind.u64.bits)))))
theorem bits_Without_ok (a0 : (Nat → Int)) (a1 : Int) (r : (Nat → Int)) (h : bits_Without a0 a1 = some r) {al : Bool} : PCalls Tryd.prog 16 [.agg (Y3 a0), .pv (.raw (.int .i64 a1))] al (.agg [.pv (.raw (.int .u64 (r 0))), .pv (.raw (.int .u64 (r 1))), .pv (.raw (.int .u64 (r 2))), .pv (.raw (.int .u64 (r 3)))]) [] := by
  unfold bits_Without at h
  refine fn_ok tabOk Tryd.func16 (by kernel_rfl) (by kernel_rfl) Tryd.ntmps16 (by simp) ?_
  refine s0 ?_
  obtain ⟨r1, e2, h⟩ := bd_ h
  refine call_ok (d := some 6) (fn := 19) (ax := [.pv (.raw (.int .i64 a1))]) (ps := [(a1 : Int) = a1]) (hb' := []) (by kernel_rfl) (bits_fits_ok _ _ e2 (al := true)) (by kernel_rfl) ⟨rfl, trivial⟩ (fun _ => (by kernel_rfl)) (by simp) rfl (by kernel_rfl) ?_
  refine sg (S := .br r1 (.and ((64 : Int) ≠ 0) (.and (0 ≤ ((IntKind.i64.wrap (Int.tdiv a1 64)) : Int) ∧ (IntKind.i64.wrap (Int.tdiv a1 64)) < ((4 : Nat) : Int)) (.leaf 0))) (.leaf 1)) ?_
  refine br_ h ?_ ?_ <;> clear h <;> intro c3 h
  · refine sk_and (by decide) ?_
    refine gd_ h ?_; clear h; intro g5 h
    refine sk_leaf ?_
    refine ldc_ok (d := 10) (id := 16512) (off := (0 + (Int.toNat (IntKind.i64.wrap (Int.tdiv a1 64))) * 1)) (n := 1) (cs := (Y3 a0)) (.pv (.raw (.int .u64 (a0 (Int.toNat (IntKind.i64.wrap (Int.tdiv a1 64))))))) (by kernel_rfl) (by kernel_rfl) (allLt (p := fun kk0 => ((Y3 a0) : List AV)[(0 + kk0 * 1)]? = some (.pv (.raw (.int .u64 (a0 kk0))))) (m := 4) ⟨⟨⟨⟨trivial, rfl⟩, rfl⟩, rfl⟩, rfl⟩ (Int.toNat (IntKind.i64.wrap (Int.tdiv a1 64))) (by first | omega | (simp at * <;> omega) | (simp_all <;> omega))) ?_
    refine sg (S := .and ((64 : Int) ≠ 0) (.and (0 ≤ ((Int.tmod a1 64) : Int)) (.and (0 ≤ ((IntKind.i64.wrap (Int.tdiv a1 64)) : Int) ∧ (IntKind.i64.wrap (Int.tdiv a1 64)) < ((4 : Nat) : Int)) (.leaf 0)))) ?_
    refine sk_and (by decide) ?_
    refine gd_ h ?_; clear h; intro g7 h
    refine gd_ h ?_; clear h; intro g8 h
    refine sk_leaf ?_
    refine stc_ok (id := 16512) (off := (0 + (Int.toNat (IntKind.i64.wrap (Int.tdiv a1 64))) * 1)) (vs := [.pv (.raw (.int .u64 (bitsOf .andNot .u64 (a0 (Int.toNat (IntKind.i64.wrap (Int.tdiv a1 64)))) (IntKind.u64.wrap (1 * 2 ^ (min (Int.toNat (Int.tmod a1 64)) IntKind.u64.bits))))))]) (cs := (Y3 a0)) (Y17 (Y4 a0 a1)) (by kernel_rfl) (by kernel_rfl) (by simp only [Y17, Y3, List.length_append, rA_length, fl_length, List.length_cons, List.length_nil]; first | omega | (simp at * <;> omega) | (simp_all <;> omega)) (allLt (p := fun kk0 => setCells (Y3 a0) ((0 + kk0 * 1)) [.pv (.raw (.int .u64 (bitsOf .andNot .u64 (a0 (Int.toNat (IntKind.i64.wrap (Int.tdiv a1 64)))) (IntKind.u64.wrap (1 * 2 ^ (min (Int.toNat (Int.tmod a1 64)) IntKind.u64.bits))))))] = (Y17 (Y15 a0 kk0 a1))) (m := 4) ⟨⟨⟨⟨trivial, rfl⟩, rfl⟩, rfl⟩, rfl⟩ (Int.toNat (IntKind.i64.wrap (Int.tdiv a1 64))) (by first | omega | (simp at * <;> omega) | (simp_all <;> omega))) ?_
    refine s0 ?_
    obtain rfl := some_ h
    exact end_ok [] Tryd.results16 (ps := (Y22 (Y4 a0 a1))) (by kernel_rfl) Y22p (fun _ => ⟨rfl, by simp⟩)
  · refine sk_leaf ?_
    obtain rfl := some_ h
    exact end_ok [] Tryd.results16 (ps := [((a0 0) : Int) = (a0 0), ((a0 1) : Int) = (a0 1), ((a0 2) : Int) = (a0 2), ((a0 3) : Int) = (a0 3)]) (by kernel_rfl) ⟨rfl, rfl, rfl, rfl, trivial⟩ (fun _ => ⟨rfl, by simp⟩)

theorem vector_table_give_ok (a0 : Vector_table) (a1 : Int) (r : Vector_table) (h : vector_table_give a0 a1 = some r) {al : Bool} : MCalls Tryd.prog 12 [.ptr 0 0, .pv (.raw (.int .i64 a1))] [.box (Y10 a0 1 2), .row 31 2 (E31.cR a0.of_), .row 49 4 (E49.cR a0.taken_)] 1 al (.tup []) [.box (Y10 r 1 2), .row 31 2 (E31.cR r.of_), .row 49 4 (E49.cR r.taken_)] := by
  unfold vector_table_give at h
  refine fnM_ok tabOk (fz := []) Tryd.func12 (by kernel_rfl) (by kernel_rfl) Tryd.ntmps12 (by simp) (by first | (simp; done) | exact Nat.le_of_ble_eq_true rfl) ?_
  refine sg (S := .and (0 ≤ (a1 : Int) ∧ a1 < ((a0.of_.length : Nat) : Int)) (.leaf 0)) ?_
  refine gd_ h ?_; clear h; intro g1 h
  refine sk_leaf ?_
  refine lda_ok (d := 11) (id := 1) (i := (0 + (Int.toNat a1))) (e := 31) (n := 2) E31 (xs := a0.of_) (by kernel_rfl) (by kernel_rfl) (by first | omega | (simp at * <;> omega) | (simp_all <;> omega)) rfl ?_
  refine sg (S := .and (0 ≤ ((a0.of_.getD (0 + (Int.toNat a1)) (⟨0, 0⟩ : Api_Slot)).Core : Int) ∧ ((a0.of_.getD (0 + (Int.toNat a1)) (⟨0, 0⟩ : Api_Slot)).Core) < ((a0.taken_.length : Nat) : Int)) (.leaf 0)) ?_
  refine gd_ h ?_; clear h; intro g2 h
  refine sk_leaf ?_
  refine lda_ok (d := 25) (id := 2) (i := (0 + (Int.toNat ((a0.of_.getD (0 + (Int.toNat a1)) (⟨0, 0⟩ : Api_Slot)).Core)))) (e := 49) (n := 4) E49 (xs := a0.taken_) (by kernel_rfl) (by kernel_rfl) (by first | omega | (simp at * <;> omega) | (simp_all <;> omega)) rfl ?_
  refine s0 ?_
  obtain ⟨r3, e4, h⟩ := bd_ h
  refine call_ok (d := some 28) (fn := 16) (ax := [.agg [.pv (.raw (.int .u64 ((a0.taken_.getD (0 + (Int.toNat ((a0.of_.getD (0 + (Int.toNat a1)) (⟨0, 0⟩ : Api_Slot)).Core))) (fun (_ : Nat) => (0 : Int))) 0))), .pv (.raw (.int .u64 ((a0.taken_.getD (0 + (Int.toNat ((a0.of_.getD (0 + (Int.toNat a1)) (⟨0, 0⟩ : Api_Slot)).Core))) (fun (_ : Nat) => (0 : Int))) 1))), .pv (.raw (.int .u64 ((a0.taken_.getD (0 + (Int.toNat ((a0.of_.getD (0 + (Int.toNat a1)) (⟨0, 0⟩ : Api_Slot)).Core))) (fun (_ : Nat) => (0 : Int))) 2))), .pv (.raw (.int .u64 ((a0.taken_.getD (0 + (Int.toNat ((a0.of_.getD (0 + (Int.toNat a1)) (⟨0, 0⟩ : Api_Slot)).Core))) (fun (_ : Nat) => (0 : Int))) 3)))], .pv (.raw (.int .i64 ((a0.of_.getD (0 + (Int.toNat a1)) (⟨0, 0⟩ : Api_Slot)).Vec)))]) (ps := [(((a0.taken_.getD (0 + (Int.toNat ((a0.of_.getD (0 + (Int.toNat a1)) (⟨0, 0⟩ : Api_Slot)).Core))) (fun (_ : Nat) => (0 : Int))) 0) : Int) = ((a0.taken_.getD (0 + (Int.toNat ((a0.of_.getD (0 + (Int.toNat a1)) (⟨0, 0⟩ : Api_Slot)).Core))) (fun (_ : Nat) => (0 : Int))) 0), (((a0.taken_.getD (0 + (Int.toNat ((a0.of_.getD (0 + (Int.toNat a1)) (⟨0, 0⟩ : Api_Slot)).Core))) (fun (_ : Nat) => (0 : Int))) 1) : Int) = ((a0.taken_.getD (0 + (Int.toNat ((a0.of_.getD (0 + (Int.toNat a1)) (⟨0, 0⟩ : Api_Slot)).Core))) (fun (_ : Nat) => (0 : Int))) 1), (((a0.taken_.getD (0 + (Int.toNat ((a0.of_.getD (0 + (Int.toNat a1)) (⟨0, 0⟩ : Api_Slot)).Core))) (fun (_ : Nat) => (0 : Int))) 2) : Int) = ((a0.taken_.getD (0 + (Int.toNat ((a0.of_.getD (0 + (Int.toNat a1)) (⟨0, 0⟩ : Api_Slot)).Core))) (fun (_ : Nat) => (0 : Int))) 2), (((a0.taken_.getD (0 + (Int.toNat ((a0.of_.getD (0 + (Int.toNat a1)) (⟨0, 0⟩ : Api_Slot)).Core))) (fun (_ : Nat) => (0 : Int))) 3) : Int) = ((a0.taken_.getD (0 + (Int.toNat ((a0.of_.getD (0 + (Int.toNat a1)) (⟨0, 0⟩ : Api_Slot)).Core))) (fun (_ : Nat) => (0 : Int))) 3), ((a0.of_.getD (0 + (Int.toNat a1)) (⟨0, 0⟩ : Api_Slot)).Vec : Int) = ((a0.of_.getD (0 + (Int.toNat a1)) (⟨0, 0⟩ : Api_Slot)).Vec)]) (hb' := []) (by kernel_rfl) (bits_Without_ok _ _ _ e4 (al := true)) (by kernel_rfl) ⟨rfl, rfl, rfl, rfl, (by first | rfl | (simp; done) | omega | (simp <;> omega)), trivial⟩ (fun _ => (by kernel_rfl)) (by simp) rfl (by kernel_rfl) ?_
  refine sg (S := .and (0 ≤ ((a0.of_.getD (0 + (Int.toNat a1)) (⟨0, 0⟩ : Api_Slot)).Core : Int) ∧ ((a0.of_.getD (0 + (Int.toNat a1)) (⟨0, 0⟩ : Api_Slot)).Core) < ((a0.taken_.length : Nat) : Int)) (.leaf 0)) ?_
  refine gd_ h ?_; clear h; intro g5 h
  refine sk_leaf ?_
  refine st_ok (id := 2) (i := (0 + (Int.toNat ((a0.of_.getD (0 + (Int.toNat a1)) (⟨0, 0⟩ : Api_Slot)).Core)))) (j := 0) (e := 49) (vs := (Y3 r3)) E49 (xs := a0.taken_) r3 (by kernel_rfl) (by kernel_rfl) (by first | omega | (simp at * <;> omega) | (simp_all <;> omega)) (by exact Nat.le_of_ble_eq_true rfl) rfl ?_
  refine sg (S := .and (0 ≤ (a1 : Int) ∧ a1 < ((a0.of_.length : Nat) : Int)) (.leaf 0)) ?_
  refine gd_ h ?_; clear h; intro g6 h
  refine sk_leaf ?_
  refine st_ok (id := 1) (i := (0 + (Int.toNat a1))) (j := 0) (e := 31) (vs := [.pv (.raw (.int .i64 0)), .pv (.raw (.int .i64 0))]) E31 (xs := a0.of_) (⟨0, 0⟩ : Api_Slot) (by kernel_rfl) (by kernel_rfl) (by first | omega | (simp at * <;> omega) | (simp_all <;> omega)) (by exact Nat.le_of_ble_eq_true rfl) rfl ?_
  refine s0 ?_
  obtain rfl := some_ h
  exact endM_ok (rI 0 0 3) Tryd.results12 (ps := [(a0.cores_ : Int) = a0.cores_, 0 = 0, a0.of_.length = (a0.of_.set (0 + (Int.toNat a1)) (⟨0, 0⟩ : Api_Slot)).length, 0 = 0, a0.taken_.length = (a0.taken_.set (0 + (Int.toNat ((a0.of_.getD (0 + (Int.toNat a1)) (⟨0, 0⟩ : Api_Slot)).Core))) r3).length, E31.cR (a0.of_.set (0 + (Int.toNat a1)) (⟨0, 0⟩ : Api_Slot)) = E31.cR (a0.of_.set (0 + (Int.toNat a1)) (⟨0, 0⟩ : Api_Slot)), AllPv (E31.cR (a0.of_.set (0 + (Int.toNat a1)) (⟨0, 0⟩ : Api_Slot))), E49.cR (a0.taken_.set (0 + (Int.toNat ((a0.of_.getD (0 + (Int.toNat a1)) (⟨0, 0⟩ : Api_Slot)).Core))) r3) = E49.cR (a0.taken_.set (0 + (Int.toNat ((a0.of_.getD (0 + (Int.toNat a1)) (⟨0, 0⟩ : Api_Slot)).Core))) r3), AllPv (E49.cR (a0.taken_.set (0 + (Int.toNat ((a0.of_.getD (0 + (Int.toNat a1)) (⟨0, 0⟩ : Api_Slot)).Core))) r3))]) (by kernel_rfl) ⟨rfl, rfl, (by first | rfl | simp), rfl, (by first | rfl | simp), rfl, (Elem.cR_pv _ _), rfl, (Elem.cR_pv _ _), trivial⟩ (fun _ => ⟨rfl, by simp only [List.mem_cons, List.not_mem_nil, or_false, forall_eq_or_imp, forall_eq]; exact ⟨rfl, Elem.cR_bald E31_raw _, Elem.cR_bald E49_raw _⟩⟩)

def Y6 (x0 : Vector_table) (x1 : Int) : List Prop := [(x1 : Int) = x1, (x0.cores_ : Int) = x0.cores_, 0 = 0, x0.of_.length = x0.of_.length, 0 = 0, x0.taken_.length = x0.taken_.length, E31.cR x0.of_ = E31.cR x0.of_, AllPv (E31.cR x0.of_), E49.cR x0.taken_ = E49.cR x0.taken_, AllPv (E49.cR x0.taken_)]
theorem Y6p {x0 : Vector_table} {x1 : Int} : allP (Y6 x0 x1) := ⟨rfl, rfl, rfl, rfl, rfl, rfl, rfl, (Elem.cR_pv _ _), rfl, (Elem.cR_pv _ _), trivial⟩
def Y23 (x0 : Api_VecOp) (x1 : Int) (x2 : Vector_table) : List Prop := [0 = 0, (x0.Line : Int) = x0.Line, (x1 : Int) = x1, (x2.cores_ : Int) = x2.cores_, 0 = 0, x2.of_.length = x2.of_.length, 0 = 0, x2.taken_.length = x2.taken_.length, E31.cR x2.of_ = E31.cR x2.of_, AllPv (E31.cR x2.of_), E49.cR x2.taken_ = E49.cR x2.taken_, AllPv (E49.cR x2.taken_)]
theorem Y23p {x0 : Api_VecOp} {x1 : Int} {x2 : Vector_table} : allP (Y23 x0 x1 x2) := ⟨rfl, rfl, rfl, rfl, rfl, rfl, rfl, rfl, rfl, (Elem.cR_pv _ _), rfl, (Elem.cR_pv _ _), trivial⟩
theorem vector_table_do_ok (a0 : Vector_table) (a1 : Api_VecOp) (r : Int × Vector_table) (h : vector_table_do a0 a1 = some r) {al : Bool} : MCalls Tryd.prog 8 [.ptr 0 0, .agg [.pv (.raw (.int .i64 a1.Kind)), .pv (.raw (.int .i64 a1.Line)), .pv (.raw (.int .i64 a1.Mask))]] [.box (Y10 a0 1 2), .row 31 2 (E31.cR a0.of_), .row 49 4 (E49.cR a0.taken_)] 1 al (.pv (.raw (.int .i64 r.1))) [.box (Y10 r.2 1 2), .row 31 2 (E31.cR r.2.of_), .row 49 4 (E49.cR r.2.taken_)] := by
  unfold vector_table_do at h
  refine fnM_ok tabOk (fz := [11, 12]) Tryd.func8 (by kernel_rfl) (by kernel_rfl) Tryd.ntmps8 (by simp) (by first | (simp; done) | exact Nat.le_of_ble_eq_true rfl) ?_
  refine sg (S := .and (((!(decide ((a1.Kind : Int) < 1))) = true → ((!(decide ((a1.Kind : Int) < 1))) = true))) (.and (((!(decide ((a1.Kind : Int) < 1))) = true → ((!(decide ((a1.Kind : Int) < 1))) = true))) (.and ((decide ((a1.Kind : Int) < 1)) = false → (!(decide ((a1.Kind : Int) < 1))) = true) (.br ((decide ((a1.Kind : Int) < 1)) || (decide ((a1.Kind : Int) > 3))) (.leaf 0) (.and (((!(decide ((a1.Line : Int) < 0))) = true → ((!(decide ((a1.Line : Int) < 0))) = true))) (.and (((!(decide ((a1.Line : Int) < 0))) = true → ((!(decide ((a1.Line : Int) < 0))) = true))) (.and (((!(decide ((a1.Line : Int) < 0))) = true → ((!(decide ((a1.Line : Int) < 0))) = true))) (.and (((!(decide ((a1.Line : Int) < 0))) = true → ((!(decide ((a1.Line : Int) < 0))) = true))) (.and (((!(decide ((a1.Line : Int) < 0))) = true → ((!(decide ((a1.Line : Int) < 0))) = true))) (.and (((!(decide ((a1.Line : Int) < 0))) = true → ((!(decide ((a1.Line : Int) < 0))) = true))) (.and (((!(decide ((a1.Line : Int) < 0))) = true → ((!(decide ((a1.Line : Int) < 0))) = true))) (.and ((decide ((a1.Line : Int) < 0)) = false → (!(decide ((a1.Line : Int) < 0))) = true) (.br ((decide ((a1.Line : Int) < 0)) || (decide ((a1.Line : Int) ≥ ((a0.of_.length : Nat) : Int)))) (.leaf 1) (.and (0 ≤ (a1.Line : Int) ∧ a1.Line < ((a0.of_.length : Nat) : Int)) (.leaf 2))))))))))))))) ?_
  refine sk_and (fun h => h) ?_
  refine sk_and (fun h => h) ?_
  refine sk_and ((by decide : ∀ y0 : Bool, ((y0 = false) → ((!y0) = true))) (decide ((a1.Kind : Int) < 1))) ?_
  refine br_ h ?_ ?_ <;> clear h <;> intro c4 h
  · refine sk_leaf ?_
    obtain rfl := some_ h
    exact endM_ok (rI 0 0 3) Tryd.results8 (ps := (Y6 a0 5)) (by kernel_rfl) Y6p (fun _ => ⟨rfl, by simp only [List.mem_cons, List.not_mem_nil, or_false, forall_eq_or_imp, forall_eq]; exact ⟨rfl, Elem.cR_bald E31_raw _, Elem.cR_bald E49_raw _⟩⟩)
  · refine sk_and (fun h => h) ?_
    refine sk_and (fun h => h) ?_
    refine sk_and (fun h => h) ?_
    refine sk_and (fun h => h) ?_
    refine sk_and (fun h => h) ?_
    refine sk_and (fun h => h) ?_
    refine sk_and (fun h => h) ?_
    refine sk_and ((by decide : ∀ y0 : Bool, ((y0 = false) → ((!y0) = true))) (decide ((a1.Line : Int) < 0))) ?_
    refine br_ h ?_ ?_ <;> clear h <;> intro c13 h
    · refine sk_leaf ?_
      obtain rfl := some_ h
      exact endM_ok (rI 0 0 3) Tryd.results8 (ps := (Y6 a0 2)) (by kernel_rfl) Y6p (fun _ => ⟨rfl, by simp only [List.mem_cons, List.not_mem_nil, or_false, forall_eq_or_imp, forall_eq]; exact ⟨rfl, Elem.cR_bald E31_raw _, Elem.cR_bald E49_raw _⟩⟩)
    · refine gd_ h ?_; clear h; intro g14 h
      refine sk_leaf ?_
      refine ld_ok (d := 42) (id := 1) (i := (0 + (Int.toNat a1.Line))) (j := 1) (e := 31) (n := 1) E31 (xs := a0.of_) (by kernel_rfl) (by kernel_rfl) (by first | omega | (simp at * <;> omega) | (simp_all <;> omega)) (by exact Nat.le_of_ble_eq_true rfl) ?_
      refine sg (S := .br (((a1.Kind : Int) == 1) == (decide (((a0.of_.getD (0 + (Int.toNat a1.Line)) (⟨0, 0⟩ : Api_Slot)).Vec : Int) > 0))) (.br ((a1.Kind : Int) == 1) (.leaf 0) (.leaf 1)) (.br ((a1.Kind : Int) == 1) (.leaf 2) (.br ((a1.Kind : Int) == 2) (.leaf 3) (.br ((a1.Kind : Int) == 3) (.and (0 ≤ (a1.Line : Int) ∧ a1.Line < ((a0.of_.length : Nat) : Int)) (.leaf 4)) (.leaf 5))))) ?_
      refine br_ h ?_ ?_ <;> clear h <;> intro c15 h
      · refine br_ h ?_ ?_ <;> clear h <;> intro c16 h
        · refine sk_leaf ?_
          obtain rfl := some_ h
          exact endM_ok (rI 0 0 3) Tryd.results8 (ps := (Y6 a0 6)) (by kernel_rfl) Y6p (fun _ => ⟨rfl, by simp only [List.mem_cons, List.not_mem_nil, or_false, forall_eq_or_imp, forall_eq]; exact ⟨rfl, Elem.cR_bald E31_raw _, Elem.cR_bald E49_raw _⟩⟩)
        · refine sk_leaf ?_
          obtain rfl := some_ h
          exact endM_ok (rI 0 0 3) Tryd.results8 (ps := (Y6 a0 3)) (by kernel_rfl) Y6p (fun _ => ⟨rfl, by simp only [List.mem_cons, List.not_mem_nil, or_false, forall_eq_or_imp, forall_eq]; exact ⟨rfl, Elem.cR_bald E31_raw _, Elem.cR_bald E49_raw _⟩⟩)
      · refine br_ h ?_ ?_ <;> clear h <;> intro c17 h
        · refine sk_leaf ?_
          obtain ⟨r18, e19, h⟩ := bd_ h
          refine call_ok (d := some 55) (fn := 10) (ax := [.ptr 0 0, .pv (.raw (.int .i64 a1.Mask)), .pv (.raw (.int .i64 (-1)))]) (ps := [(a0.cores_ : Int) = a0.cores_, a0.of_.length = a0.of_.length, rowQ (E31.cR a0.of_) 2 0 a0.of_.length (fun i j => E31.cf (a0.of_.getD i E31.z) j), a0.taken_.length = a0.taken_.length, rowQ (E49.cR a0.taken_) 4 0 a0.taken_.length (fun i j => E49.cf (a0.taken_.getD i E49.z) j), (a1.Mask : Int) = a1.Mask, ((-1) : Int) = (-1)]) (hb' := []) (by kernel_rfl) (vector_table_best_ok _ _ _ _ e19 (al := false)) (by kernel_rfl) ⟨rfl, (by first | rfl | exact Elem.sub_len _ (by omega) | omega | simp | (simp <;> omega)), E31.rowQ_all a0.of_ rfl, (by first | rfl | exact Elem.sub_len _ (by omega) | omega | simp | (simp <;> omega)), E49.rowQ_all a0.taken_ rfl, rfl, rfl, trivial⟩ (fun hx => by cases hx) (by simp) rfl (by kernel_rfl) ?_
          refine sg (S := .br (decide ((r18 : Int) < 0)) (.leaf 0) (.leaf 1)) ?_
          refine br_ h ?_ ?_ <;> clear h <;> intro c20 h
          · refine sk_leaf ?_
            obtain rfl := some_ h
            exact endM_ok (rI 0 0 3) Tryd.results8 (ps := (Y6 a0 4)) (by kernel_rfl) Y6p (fun _ => ⟨rfl, by simp only [List.mem_cons, List.not_mem_nil, or_false, forall_eq_or_imp, forall_eq]; exact ⟨rfl, Elem.cR_bald E31_raw _, Elem.cR_bald E49_raw _⟩⟩)
          · refine sk_leaf ?_
            obtain ⟨r21, e22, h⟩ := bd_ h
            refine mcall_ok (d := some 62) (fn := 11) (ax := [.ptr 0 0, .pv (.raw (.int .i64 a1.Line)), .pv (.raw (.int .i64 r18))]) (hs := [(0, .box (Y10 r21 20353 20354)), (20353, .row 31 2 (E31.cR r21.of_)), (20354, .row 49 4 (E49.cR r21.taken_))]) (del := [1, 2]) (ps := (Y23 a1 r18 a0)) (rI 0 0 3) (by kernel_rfl) (vector_table_take_ok _ _ _ _ e22 (al := true)) (by kernel_rfl) Y23p (by kernel_rfl) (by simp only [Y10, List.cons_append, List.nil_append, List.append_nil, rB, rA, fl, mset_row, mset_box, mset_nil, mset_map, List.set_set]; kernel_rfl) (by kernel_rfl) ?_
            refine s0 ?_
            obtain rfl := some_ h
            exact endM_ok [(0, some 0), (1, some 20353), (2, some 20354)] Tryd.results8 (ps := (Y6 r21 0)) (by kernel_rfl) Y6p (fun _ => ⟨rfl, by simp only [List.mem_cons, List.not_mem_nil, or_false, forall_eq_or_imp, forall_eq]; exact ⟨rfl, Elem.cR_bald E31_raw _, Elem.cR_bald E49_raw _⟩⟩)
        · refine br_ h ?_ ?_ <;> clear h <;> intro c23 h
          · refine sk_leaf ?_
            obtain ⟨r24, e25, h⟩ := bd_ h
            refine mcall_ok (d := some 68) (fn := 12) (ax := [.ptr 0 0, .pv (.raw (.int .i64 a1.Line))]) (hs := [(0, .box (Y10 r24 20737 20738)), (20737, .row 31 2 (E31.cR r24.of_)), (20738, .row 49 4 (E49.cR r24.taken_))]) (del := [1, 2]) (ps := [0 = 0, (a1.Line : Int) = a1.Line, (a0.cores_ : Int) = a0.cores_, 0 = 0, a0.of_.length = a0.of_.length, 0 = 0, a0.taken_.length = a0.taken_.length, E31.cR a0.of_ = E31.cR a0.of_, AllPv (E31.cR a0.of_), E49.cR a0.taken_ = E49.cR a0.taken_, AllPv (E49.cR a0.taken_)]) (rI 0 0 3) (by kernel_rfl) (vector_table_give_ok _ _ _ e25 (al := true)) (by kernel_rfl) ⟨rfl, rfl, rfl, rfl, rfl, rfl, rfl, rfl, (Elem.cR_pv _ _), rfl, (Elem.cR_pv _ _), trivial⟩ (by kernel_rfl) (by simp only [Y10, List.cons_append, List.nil_append, List.append_nil, rB, rA, fl, mset_row, mset_box, mset_nil, mset_map, List.set_set]; kernel_rfl) (by kernel_rfl) ?_
            refine s0 ?_
            obtain rfl := some_ h
            exact endM_ok [(0, some 0), (1, some 20737), (2, some 20738)] Tryd.results8 (ps := (Y6 r24 0)) (by kernel_rfl) Y6p (fun _ => ⟨rfl, by simp only [List.mem_cons, List.not_mem_nil, or_false, forall_eq_or_imp, forall_eq]; exact ⟨rfl, Elem.cR_bald E31_raw _, Elem.cR_bald E49_raw _⟩⟩)
          · refine br_ h ?_ ?_ <;> clear h <;> intro c26 h
            · refine gd_ h ?_; clear h; intro g27 h
              refine sk_leaf ?_
              refine ld_ok (d := 82) (id := 1) (i := (0 + (Int.toNat a1.Line))) (j := 0) (e := 31) (n := 1) E31 (xs := a0.of_) (by kernel_rfl) (by kernel_rfl) (by first | omega | (simp at * <;> omega) | (simp_all <;> omega)) (by exact Nat.le_of_ble_eq_true rfl) ?_
              refine s0 ?_
              obtain ⟨r28, e29, h⟩ := bd_ h
              refine call_ok (d := some 83) (fn := 10) (ax := [.ptr 0 0, .pv (.raw (.int .i64 a1.Mask)), .pv (.raw (.int .i64 ((a0.of_.getD (0 + (Int.toNat a1.Line)) (⟨0, 0⟩ : Api_Slot)).Core)))]) (ps := [(a0.cores_ : Int) = a0.cores_, a0.of_.length = a0.of_.length, rowQ (E31.cR a0.of_) 2 0 a0.of_.length (fun i j => E31.cf (a0.of_.getD i E31.z) j), a0.taken_.length = a0.taken_.length, rowQ (E49.cR a0.taken_) 4 0 a0.taken_.length (fun i j => E49.cf (a0.taken_.getD i E49.z) j), (a1.Mask : Int) = a1.Mask, ((a0.of_.getD (0 + (Int.toNat a1.Line)) (⟨0, 0⟩ : Api_Slot)).Core : Int) = ((a0.of_.getD (0 + (Int.toNat a1.Line)) (⟨0, 0⟩ : Api_Slot)).Core)]) (hb' := []) (by kernel_rfl) (vector_table_best_ok _ _ _ _ e29 (al := false)) (by kernel_rfl) ⟨rfl, (by first | rfl | exact Elem.sub_len _ (by omega) | omega | simp | (simp <;> omega)), E31.rowQ_all a0.of_ rfl, (by first | rfl | exact Elem.sub_len _ (by omega) | omega | simp | (simp <;> omega)), E49.rowQ_all a0.taken_ rfl, rfl, (by first | rfl | (simp; done) | omega | (simp <;> omega)), trivial⟩ (fun hx => by cases hx) (by simp) rfl (by kernel_rfl) ?_
              refine sg (S := .br (decide ((r28 : Int) < 0)) (.leaf 0) (.leaf 1)) ?_
              refine br_ h ?_ ?_ <;> clear h <;> intro c30 h
              · refine sk_leaf ?_
                obtain rfl := some_ h
                exact endM_ok (rI 0 0 3) Tryd.results8 (ps := (Y6 a0 4)) (by kernel_rfl) Y6p (fun _ => ⟨rfl, by simp only [List.mem_cons, List.not_mem_nil, or_false, forall_eq_or_imp, forall_eq]; exact ⟨rfl, Elem.cR_bald E31_raw _, Elem.cR_bald E49_raw _⟩⟩)
              · refine sk_leaf ?_
                obtain ⟨r31, e32, h⟩ := bd_ h
                refine mcall_ok (d := some 89) (fn := 12) (ax := [.ptr 0 0, .pv (.raw (.int .i64 a1.Line))]) (hs := [(0, .box (Y10 r31 22081 22082)), (22081, .row 31 2 (E31.cR r31.of_)), (22082, .row 49 4 (E49.cR r31.taken_))]) (del := [1, 2]) (ps := [0 = 0, (a1.Line : Int) = a1.Line, (a0.cores_ : Int) = a0.cores_, 0 = 0, a0.of_.length = a0.of_.length, 0 = 0, a0.taken_.length = a0.taken_.length, E31.cR a0.of_ = E31.cR a0.of_, AllPv (E31.cR a0.of_), E49.cR a0.taken_ = E49.cR a0.taken_, AllPv (E49.cR a0.taken_)]) (rI 0 0 3) (by kernel_rfl) (vector_table_give_ok _ _ _ e32 (al := true)) (by kernel_rfl) ⟨rfl, rfl, rfl, rfl, rfl, rfl, rfl, rfl, (Elem.cR_pv _ _), rfl, (Elem.cR_pv _ _), trivial⟩ (by kernel_rfl) (by simp only [Y10, List.cons_append, List.nil_append, List.append_nil, rB, rA, fl, mset_row, mset_box, mset_nil, mset_map, List.set_set]; kernel_rfl) (by kernel_rfl) ?_
                refine s0 ?_
                obtain ⟨r33, e34, h⟩ := bd_ h
                refine mcall_ok (d := some 94) (fn := 11) (ax := [.ptr 0 0, .pv (.raw (.int .i64 a1.Line)), .pv (.raw (.int .i64 r28))]) (hs := [(0, .box (Y10 r33 22401 22402)), (22401, .row 31 2 (E31.cR r33.of_)), (22402, .row 49 4 (E49.cR r33.taken_))]) (del := [22081, 22082]) (ps := (Y23 a1 r28 r31)) [(0, some 0), (1, some 22081), (2, some 22082)] (by kernel_rfl) (vector_table_take_ok _ _ _ _ e34 (al := true)) (by kernel_rfl) Y23p (by kernel_rfl) (by simp only [Y10, List.cons_append, List.nil_append, List.append_nil, rB, rA, fl, mset_row, mset_box, mset_nil, mset_map, List.set_set]; kernel_rfl) (by kernel_rfl) ?_
                refine s0 ?_
                obtain rfl := some_ h
                exact endM_ok [(0, some 0), (1, some 22401), (2, some 22402)] Tryd.results8 (ps := (Y6 r33 0)) (by kernel_rfl) Y6p (fun _ => ⟨rfl, by simp only [List.mem_cons, List.not_mem_nil, or_false, forall_eq_or_imp, forall_eq]; exact ⟨rfl, Elem.cR_bald E31_raw _, Elem.cR_bald E49_raw _⟩⟩)
            · refine sk_leaf ?_
              obtain rfl := some_ h
              exact endM_ok (rI 0 0 3) Tryd.results8 (ps := (Y6 a0 0)) (by kernel_rfl) Y6p (fun _ => ⟨rfl, by simp only [List.mem_cons, List.not_mem_nil, or_false, forall_eq_or_imp, forall_eq]; exact ⟨rfl, Elem.cR_bald E31_raw _, Elem.cR_bald E49_raw _⟩⟩)

set_option maxRecDepth 100000 in
theorem slices_Clone_api_Slot_ok (a0 r : List Api_Slot) (h : slices_Clone_api_Slot a0 = some r) {al : Bool} : PCalls Tryd.prog 9 [.pv (E31.ro a0)] al (.row 0 2 0 r.length) [.row 31 2 (E31.cR r)] := by
  unfold slices_Clone_api_Slot at h
  obtain ⟨g, h⟩ := if_ h
  obtain rfl := some_ h
  refine fn_ok tabOk Tryd.func9 (by kernel_rfl) (by kernel_rfl) Tryd.ntmps9 (by simp) ?_
  refine segs [1] tabOk mixed 4000 (S := .leaf 0) (by kernel_rfl) ?_
  refine sk_leaf ?_
  refine nil_ok (d1 := 3) (d2 := 4) (s := 2) (n := a0.length) (c := fun i j => E31.cf (a0.getD i E31.z) j) tabOk (by kernel_rfl) ?_
  intro b hb
  refine sg (S := .br b (.leaf 0) (.leaf 1)) ?_
  refine sk_br ?_ ?_ <;> intro hc <;> refine sk_leaf ?_
  · obtain rfl : a0 = [] := List.eq_nil_of_length_eq_zero (hb hc)
    exact end_ok [(0, none)] Tryd.results9 (ps := [0 = 0, 0 = 0, E31.cR [] = []]) (by kernel_rfl) ⟨rfl, rfl, rfl, trivial⟩ (fun _ => ⟨rfl, by simp only [List.mem_cons, List.not_mem_nil, or_false, forall_eq]; exact Elem.cR_bald E31_raw _⟩)
  · refine bs_ok (d := 5) (e := 31) (s := 2) (n := 0) (cs := []) (cs' := E31.cR []) (by kernel_rfl) rfl (by kernel_rfl) ?_
    refine s0 ?_
    refine app_ok (d := 7) (e := 31) (s := 2) (b := 16) (x := .row 16704 2 0 0) (y := .pv (E31.ro a0)) E31 (xs := []) (ys := a0) (by kernel_rfl) rfl (.row 16704 [] 0 rfl (by kernel_rfl)) (.ro a0) ⟨by simpa using g, by simp; omega⟩ (by kernel_rfl) ?_
    refine s0 ?_
    exact end_ok [(0, some 16832)] Tryd.results9 (ps := [0 = 0, a0.length = a0.length, E31.cR a0 = E31.cR a0, AllPv (E31.cR a0)]) (by kernel_rfl) ⟨rfl, rfl, rfl, Elem.cR_pv _ _, trivial⟩ (fun _ => ⟨rfl, by simp only [List.mem_cons, List.not_mem_nil, or_false, forall_eq]; exact Elem.cR_bald E31_raw _⟩)

end Go.Proofs.YtdfgmloipigmfaaDoor
