/- The functions do as their models: printed by program. -/
import Derived.Test.YtcbknmjbhjbifaaQWT
import Derived.Test.YtcbknmjbhjbifaaQWM
import Derived.Test.YtcbknmjbhjbifaaAbYh
import Derived.Test.YtcbknmjbhjbifaaQWS
set_option linter.unusedSimpArgs false
set_option linter.unusedVariables false
namespace Go.Proofs.Ytcbknmjbhjbifaa
open Go Go.Ab
theorem mixed : Try.prog.follows .mixedOrders = true := by kernel_rfl
def E3 : Elem Int := { s := 1, cf := fun x j => match j with | _ => .raw (.int .i64 x), z := 0 }
theorem E3_raw : E3.Raw := by
  intro x j
  exact ⟨_, rfl⟩
def E31 : Elem Int := { s := 1, cf := fun x j => match j with | _ => .raw (.int .i64 x), z := 0 }
theorem E31_raw : E31.Raw := by
  intro x j
  exact ⟨_, rfl⟩
def E52 : Elem Api_WorkOp := { s := 2, cf := fun x j => match j with | 0 => .raw (.int .i64 x.Kind) | _ => .raw (.int .i64 x.Item), z := (⟨0, 0⟩ : Api_WorkOp) }
theorem E52_raw : E52.Raw := by
  intro x j
  match j with
  | 0 => exact ⟨_, rfl⟩
  | n + 1 => exact ⟨_, rfl⟩
def E81 : Elem Work_queue := { s := 3, cf := fun x j => match j with | 0 => (E3.ro x.waits_) | 1 => .raw (.int .i64 x.begun_) | _ => (E3.ro x.done_), z := (⟨[], 0, []⟩ : Work_queue) }
attribute [local irreducible] V VS runS Sk.Holds

set_option maxHeartbeats 40000000 in
set_option maxRecDepth 100000 in
theorem slices_Index_int_ok (a0 : (List Int)) (a1 : Int) (r : Int) (h : slices_Index_int a0 a1 = some r) {al : Bool} : PCalls Try.prog 39 [.pv ((E3.ro a0)), .pv (.raw (.int .i64 a1))] al (.pv (.raw (.int .i64 r))) [] := by
  unfold slices_Index_int at h
  refine fn_ok tabOk Try.func39 (by as_aux_lemma => kernel_rfl) (by as_aux_lemma => kernel_rfl) Try.ntmps39 (by simp) ?_
  refine segs [] tabOk mixed 4000 (S := .leaf 0) (by as_aux_lemma => kernel_rfl) ?_
  refine sk_leaf ?_
  refine len_ro (by as_aux_lemma => kernel_rfl) 0 (s := 1) (n := a0.length) (c := fun i j => E3.cf (a0.getD i E3.z) j) (by as_aux_lemma => kernel_rfl) ?_; intro hl1_0
  replace h : (fun (x : Nat × Nat) => slices_Index_int_l1 a0 a1 x.1 x.2 = some r) (FUEL, 0) := h
  refine loop_ok (by as_aux_lemma => kernel_rfl) (X := Nat × Nat) (fun x => slices_Index_int_l1 a0 a1 x.1 x.2 = some r) (fun x => x.1) (fun x => mk 19 [(0, .pv ((E3.ro a0))), (1, .pv (.raw (.int .i64 a1))), (4, .pv (.raw (.int .i64 0))), (7, .pv (.raw (.int .i64 ((a0.length : Nat) : Int)))), (8, .pv (.raw (.int .i64 ((x.2 : Nat) : Int))))] []) (FUEL, 0) h ?_ ?_
  · exact sub_ok (ρ := []) (l := [a0.length = a0.length, ∀ i, i < a0.length → ∀ j, j < 1 → E3.cf (a0.getD i E3.z) j = E3.cf (a0.getD i E3.z) j, (a1 : Int) = a1, (0 : Int) = 0, (((a0.length : Nat) : Int) : Int) = ((a0.length : Nat) : Int), (0 : Int) = ((0 : Nat) : Int)]) (by as_aux_lemma => kernel_rfl) ⟨rfl, fun _ _ _ _ => rfl, rfl, rfl, rfl, (by first | rfl | simp), trivial⟩
  · clear h; rintro ⟨n1, k1⟩ h p1 hp1
    obtain _ | n1 := n1
    · cases (show (none : Option (Int)) = some r from h)
    have h : slices_Index_int_l1 a0 a1 (n1 + 1) k1 = some r := h
    unfold slices_Index_int_l1 at h
    refine segs [] tabOk mixed 4000 (S := .br (decide ((((k1 : Nat) : Int) : Int) < ((a0.length : Nat) : Int))) (.and (0 ≤ (((k1 : Nat) : Int) : Int) ∧ ((k1 : Nat) : Int) < ((a0.length : Nat) : Int)) (.br ((a1 : Int) == (a0.getD k1 0)) (.leaf 0) (.leaf 1))) (.leaf 2)) (by as_aux_lemma => kernel_rfl) ?_
    refine br_ h ?_ ?_ <;> clear h <;> intro c2 h
    · refine sk_and ⟨Int.natCast_nonneg _, of_decide_eq_true c2⟩ ?_
      refine br_ h ?_ ?_ <;> clear h <;> intro c4 h
      · refine sk_leaf ?_
        obtain rfl := some_ h
        exact end_ok [] Try.results39 (ps := [(((k1 : Nat) : Int) : Int) = ((k1 : Nat) : Int)]) (by as_aux_lemma => kernel_rfl) ⟨rfl, trivial⟩ (fun _ => ⟨rfl, by simp⟩)
      · refine sk_leaf ?_
        refine back_ok (p := p1) (by as_aux_lemma => kernel_rfl) (hp1 (n1, k1 + 1) _ h (Nat.lt_succ_self n1) ?_)
        exact sub_ok (ρ := []) (l := [a0.length = a0.length, ∀ i, i < a0.length → ∀ j, j < 1 → E3.cf (a0.getD i E3.z) j = E3.cf (a0.getD i E3.z) j, (a1 : Int) = a1, (0 : Int) = 0, (((a0.length : Nat) : Int) : Int) = ((a0.length : Nat) : Int), ((IntKind.i64.wrap (((k1 : Nat) : Int) + 1)) : Int) = (((k1 + 1) : Nat) : Int)]) (by as_aux_lemma => kernel_rfl) ⟨rfl, fun _ _ _ _ => rfl, rfl, rfl, rfl, (wrap_nat (Int.ofNat_lt.1 (of_decide_eq_true c2)) (by omega)), trivial⟩
    · refine sk_leaf ?_
      obtain rfl := some_ h
      exact end_ok [] Try.results39 (ps := [((-1) : Int) = (-1)]) (by as_aux_lemma => kernel_rfl) ⟨rfl, trivial⟩ (fun _ => ⟨rfl, by simp⟩)

set_option maxHeartbeats 40000000 in
set_option maxRecDepth 100000 in
theorem slices_Contains_int_ok (a0 : (List Int)) (a1 : Int) (r : Bool) (h : slices_Contains_int a0 a1 = some r) {al : Bool} : PCalls Try.prog 20 [.pv ((E3.ro a0)), .pv (.raw (.int .i64 a1))] al (.pv (.raw (.bool r))) [] := by
  unfold slices_Contains_int at h
  refine fn_ok tabOk Try.func20 (by as_aux_lemma => kernel_rfl) (by as_aux_lemma => kernel_rfl) Try.ntmps20 (by simp) ?_
  refine segs [] tabOk mixed 4000 (S := .leaf 0) (by as_aux_lemma => kernel_rfl) ?_
  refine sk_leaf ?_
  obtain ⟨r1, e2, h⟩ := bd_ h
  refine call_ok (d := some 7) (fn := 39) (ax := [.pv ((E3.ro a0)), .pv (.raw (.int .i64 a1))]) (args := [.pv ((E3.ro a0)), .pv (.raw (.int .i64 a1))]) (ps := [a0.length = a0.length, ∀ i, i < a0.length → ∀ j, j < 1 → E3.cf (a0.getD i E3.z) j = E3.cf (a0.getD i E3.z) j, (a1 : Int) = a1]) (hb' := []) (by as_aux_lemma => kernel_rfl) (slices_Index_int_ok _ _ _ e2 (al := true)) (by as_aux_lemma => kernel_rfl) ⟨rfl, fun _ _ _ _ => rfl, rfl, trivial⟩ (fun _ => (by as_aux_lemma => kernel_rfl)) (by simp) rfl (by as_aux_lemma => kernel_rfl) ?_
  refine segs [] tabOk mixed 4000 (S := .leaf 0) (by as_aux_lemma => kernel_rfl) ?_
  refine sk_leaf ?_
  obtain rfl := some_ h
  exact end_ok [] Try.results20 (ps := [(decide ((r1 : Int) ≥ 0)) = (decide ((r1 : Int) ≥ 0))]) (by as_aux_lemma => kernel_rfl) ⟨rfl, trivial⟩ (fun _ => ⟨rfl, by simp⟩)

set_option maxHeartbeats 40000000 in
set_option maxRecDepth 100000 in
theorem work_queue_begin_ok (a0 : Work_queue) (r : Int × Work_queue) (h : work_queue_begin a0 = some r) {al : Bool} : MCalls Try.prog 50 [.ptr 0 0] [.box [.row 1 1 0 a0.waits_.length, .pv (.raw (.int .i64 a0.begun_)), .row 2 1 0 a0.done_.length], .row 3 1 (E3.cR a0.waits_), .row 3 1 (E3.cR a0.done_)] 1 al (.pv (.raw (.int .i64 r.1))) [.box [.row 1 1 0 r.2.waits_.length, .pv (.raw (.int .i64 r.2.begun_)), .row 2 1 0 r.2.done_.length], .row 3 1 (E3.cR r.2.waits_), .row 3 1 (E3.cR r.2.done_)] := by
  unfold work_queue_begin at h
  refine fnM_ok tabOk (fz := []) Try.func50 (by as_aux_lemma => kernel_rfl) (by as_aux_lemma => kernel_rfl) Try.ntmps50 (by simp) (by simp) ?_
  refine segs [] tabOk mixed 4000 (S := .br (decide ((a0.begun_ : Int) ≥ 0)) (.leaf 0) (.br ((((a0.waits_.length : Nat) : Int) : Int) == 0) (.leaf 1) (.and (0 ≤ (0 : Int) ∧ 0 < ((a0.waits_.length : Nat) : Int)) (.leaf 2)))) (by as_aux_lemma => kernel_rfl) ?_
  refine br_ h ?_ ?_ <;> clear h <;> intro c1 h
  · refine sk_leaf ?_
    obtain rfl := some_ h
    exact endM_ok [(0, some 0), (1, some 1), (2, some 2)] Try.results50 (ps := [(6 : Int) = 6, 0 = 0, a0.waits_.length = a0.waits_.length, (a0.begun_ : Int) = a0.begun_, 0 = 0, a0.done_.length = a0.done_.length, E3.cR a0.waits_ = E3.cR a0.waits_, AllPv (E3.cR a0.waits_), E3.cR a0.done_ = E3.cR a0.done_, AllPv (E3.cR a0.done_)]) (by as_aux_lemma => kernel_rfl) ⟨rfl, rfl, (by first | rfl | simp), rfl, rfl, (by first | rfl | simp), rfl, (Elem.cR_pv _ _), rfl, (Elem.cR_pv _ _), trivial⟩ (fun _ => ⟨rfl, by simp only [List.mem_cons, List.not_mem_nil, or_false, forall_eq_or_imp, forall_eq]; exact ⟨rfl, Elem.cR_bald E3_raw _, Elem.cR_bald E3_raw _⟩⟩)
  · refine br_ h ?_ ?_ <;> clear h <;> intro c2 h
    · refine sk_leaf ?_
      obtain rfl := some_ h
      exact endM_ok [(0, some 0), (1, some 1), (2, some 2)] Try.results50 (ps := [(3 : Int) = 3, 0 = 0, a0.waits_.length = a0.waits_.length, (a0.begun_ : Int) = a0.begun_, 0 = 0, a0.done_.length = a0.done_.length, E3.cR a0.waits_ = E3.cR a0.waits_, AllPv (E3.cR a0.waits_), E3.cR a0.done_ = E3.cR a0.done_, AllPv (E3.cR a0.done_)]) (by as_aux_lemma => kernel_rfl) ⟨rfl, rfl, (by first | rfl | simp), rfl, rfl, (by first | rfl | simp), rfl, (Elem.cR_pv _ _), rfl, (Elem.cR_pv _ _), trivial⟩ (fun _ => ⟨rfl, by simp only [List.mem_cons, List.not_mem_nil, or_false, forall_eq_or_imp, forall_eq]; exact ⟨rfl, Elem.cR_bald E3_raw _, Elem.cR_bald E3_raw _⟩⟩)
    · refine gd_ h ?_; clear h; intro g3 h
      refine sk_leaf ?_
      refine ld_ok (d := 23) (id := 1) (i := (0 + 0)) (j := 0) (e := 3) (n := 1) E3 (xs := a0.waits_) (by as_aux_lemma => kernel_rfl) (by as_aux_lemma => kernel_rfl) (by first | omega | (simp at * <;> omega) | (simp_all <;> omega)) (by exact Nat.le_of_ble_eq_true rfl) ?_
      refine segs [] tabOk mixed 4000 (S := .and (0 ≤ (1 : Int)) (.and (1 ≤ a0.waits_.length) (.leaf 0))) (by as_aux_lemma => kernel_rfl) ?_
      refine sk_and (by decide) ?_
      refine gd_ h ?_; clear h; intro g5 h
      refine sk_leaf ?_
      obtain rfl := some_ h
      exact endR_ok E3 (xs := a0.waits_) 1 (0 + 1) 16912 (a0.waits_.length - 1) 3 1 rfl (by as_aux_lemma => kernel_rfl) (by first | omega | (simp at * <;> omega) | (simp_all <;> omega)) (by as_aux_lemma => kernel_rfl) [(0, some 0), (1, some 16912), (2, some 2)] Try.results50 (ps := [(0 : Int) = 0, 0 = 0, (a0.waits_.length - 1) = ((a0.waits_.drop (0 + 1)).take (a0.waits_.length - 1)).length, ((a0.waits_.getD (0 + 0) 0) : Int) = (a0.waits_.getD (0 + 0) 0), 0 = 0, a0.done_.length = a0.done_.length, E3.cR ((a0.waits_.drop (0 + 1)).take (a0.waits_.length - 1)) = E3.cR ((a0.waits_.drop (0 + 1)).take (a0.waits_.length - 1)), AllPv (E3.cR ((a0.waits_.drop (0 + 1)).take (a0.waits_.length - 1))), E3.cR a0.done_ = E3.cR a0.done_, AllPv (E3.cR a0.done_)]) (by as_aux_lemma => kernel_rfl) ⟨rfl, rfl, (by first | (simp; done) | (simp <;> omega) | (simp at * <;> omega)), rfl, rfl, (by first | rfl | simp), rfl, (Elem.cR_pv _ _), rfl, (Elem.cR_pv _ _), trivial⟩ (fun _ => ⟨rfl, by simp only [List.mem_cons, List.not_mem_nil, or_false, forall_eq_or_imp, forall_eq]; exact ⟨rfl, Elem.cR_bald E3_raw _, Elem.cR_bald E3_raw _⟩⟩)

set_option maxHeartbeats 40000000 in
set_option maxRecDepth 100000 in
theorem work_queue_end_ok (a0 : Work_queue) (r : Int × Work_queue) (h : work_queue_end a0 = some r) {al : Bool} : MCalls Try.prog 51 [.ptr 0 0] [.box [.row 1 1 0 a0.waits_.length, .pv (.raw (.int .i64 a0.begun_)), .row 2 1 0 a0.done_.length], .row 3 1 (E3.cR a0.waits_), .row 3 1 (E3.cR a0.done_)] 1 al (.pv (.raw (.int .i64 r.1))) [.box [.row 1 1 0 r.2.waits_.length, .pv (.raw (.int .i64 r.2.begun_)), .row 2 1 0 r.2.done_.length], .row 3 1 (E3.cR r.2.waits_), .row 3 1 (E3.cR r.2.done_)] := by
  unfold work_queue_end at h
  refine fnM_ok tabOk (fz := []) Try.func51 (by as_aux_lemma => kernel_rfl) (by as_aux_lemma => kernel_rfl) Try.ntmps51 (by simp) (by simp) ?_
  refine segs [] tabOk mixed 4000 (S := .br (decide ((a0.begun_ : Int) < 0)) (.leaf 0) (.leaf 1)) (by as_aux_lemma => kernel_rfl) ?_
  refine br_ h ?_ ?_ <;> clear h <;> intro c1 h
  · refine sk_leaf ?_
    obtain rfl := some_ h
    exact endM_ok [(0, some 0), (1, some 1), (2, some 2)] Try.results51 (ps := [(3 : Int) = 3, 0 = 0, a0.waits_.length = a0.waits_.length, (a0.begun_ : Int) = a0.begun_, 0 = 0, a0.done_.length = a0.done_.length, E3.cR a0.waits_ = E3.cR a0.waits_, AllPv (E3.cR a0.waits_), E3.cR a0.done_ = E3.cR a0.done_, AllPv (E3.cR a0.done_)]) (by as_aux_lemma => kernel_rfl) ⟨rfl, rfl, (by first | rfl | simp), rfl, rfl, (by first | rfl | simp), rfl, (Elem.cR_pv _ _), rfl, (Elem.cR_pv _ _), trivial⟩ (fun _ => ⟨rfl, by simp only [List.mem_cons, List.not_mem_nil, or_false, forall_eq_or_imp, forall_eq]; exact ⟨rfl, Elem.cR_bald E3_raw _, Elem.cR_bald E3_raw _⟩⟩)
  · refine sk_leaf ?_
    refine bs_ok (d := 17) (e := 3) (s := 1) (n := 1) (cs := [.pv (.raw (.int .i64 a0.begun_))]) (cs' := E3.cR [a0.begun_]) (by as_aux_lemma => kernel_rfl) rfl (by as_aux_lemma => kernel_rfl) ?_
    refine segs [] tabOk mixed 4000 (S := .leaf 0) (by as_aux_lemma => kernel_rfl) ?_
    refine sk_leaf ?_
    obtain ⟨g2, h⟩ := if_ h
    refine app_ok (d := 18) (e := 3) (s := 1) (b := 8) (x := .row 2 1 0 a0.done_.length) (y := .row 16656 1 0 1) E3 (xs := a0.done_) (ys := [a0.begun_]) (by as_aux_lemma => kernel_rfl) rfl (.row 2 a0.done_ a0.done_.length rfl (by as_aux_lemma => kernel_rfl)) (.all 16656 3 [a0.begun_] 1 rfl (by as_aux_lemma => kernel_rfl)) g2 (by as_aux_lemma => kernel_rfl) ?_
    refine segs [] tabOk mixed 4000 (S := .leaf 0) (by as_aux_lemma => kernel_rfl) ?_
    refine sk_leaf ?_
    obtain rfl := some_ h
    exact endM_ok [(0, some 0), (1, some 1), (2, some 16672)] Try.results51 (ps := [(0 : Int) = 0, 0 = 0, a0.waits_.length = a0.waits_.length, ((-1) : Int) = (-1), 0 = 0, ((a0.done_ ++ [a0.begun_]).length) = (a0.done_ ++ [a0.begun_]).length, E3.cR a0.waits_ = E3.cR a0.waits_, AllPv (E3.cR a0.waits_), E3.cR (a0.done_ ++ [a0.begun_]) = E3.cR (a0.done_ ++ [a0.begun_]), AllPv (E3.cR (a0.done_ ++ [a0.begun_]))]) (by as_aux_lemma => kernel_rfl) ⟨rfl, rfl, (by first | rfl | simp), rfl, rfl, (by first | rfl | simp), rfl, (Elem.cR_pv _ _), rfl, (Elem.cR_pv _ _), trivial⟩ (fun _ => ⟨rfl, by simp only [List.mem_cons, List.not_mem_nil, or_false, forall_eq_or_imp, forall_eq]; exact ⟨rfl, Elem.cR_bald E3_raw _, Elem.cR_bald E3_raw _⟩⟩)

set_option maxRecDepth 100000 in
theorem slices_Clone_int_ok (a0 r : List Int) (h : slices_Clone_int a0 = some r) {al : Bool} : PCalls Try.prog 26 [.pv (E3.ro a0)] al (.row 0 1 0 r.length) [.row 3 1 (E3.cR r)] := by
  unfold slices_Clone_int at h
  obtain ⟨g, h⟩ := if_ h
  obtain rfl := some_ h
  refine fn_ok tabOk Try.func26 (by as_aux_lemma => kernel_rfl) (by as_aux_lemma => kernel_rfl) Try.ntmps26 (by simp) ?_
  refine segs [1] tabOk mixed 4000 (S := .leaf 0) (by as_aux_lemma => kernel_rfl) ?_
  refine sk_leaf ?_
  refine nil_ok (d1 := 3) (d2 := 4) (s := 1) (n := a0.length) (c := fun i j => E3.cf (a0.getD i E3.z) j) tabOk (by as_aux_lemma => kernel_rfl) ?_
  intro b hb
  refine segs [] tabOk mixed 4000 (S := .br b (.leaf 0) (.leaf 1)) (by as_aux_lemma => kernel_rfl) ?_
  refine sk_br ?_ ?_ <;> intro hc <;> refine sk_leaf ?_
  · obtain rfl : a0 = [] := List.eq_nil_of_length_eq_zero (hb hc)
    exact end_ok [(0, none)] Try.results26 (ps := [0 = 0, 0 = 0, E3.cR [] = []]) (by as_aux_lemma => kernel_rfl) ⟨rfl, rfl, rfl, trivial⟩ (fun _ => ⟨rfl, by simp only [List.mem_cons, List.not_mem_nil, or_false, forall_eq]; exact Elem.cR_bald E3_raw _⟩)
  · refine bs_ok (d := 5) (e := 3) (s := 1) (n := 0) (cs := []) (cs' := E3.cR []) (by as_aux_lemma => kernel_rfl) rfl (by as_aux_lemma => kernel_rfl) ?_
    refine segs [] tabOk mixed 4000 (S := .leaf 0) (by as_aux_lemma => kernel_rfl) ?_
    refine sk_leaf ?_
    refine app_ok (d := 7) (e := 3) (s := 1) (b := 8) (x := .row 16464 1 0 0) (y := .pv (E3.ro a0)) E3 (xs := []) (ys := a0) (by as_aux_lemma => kernel_rfl) rfl (.row 16464 [] 0 rfl (by as_aux_lemma => kernel_rfl)) (.ro a0) ⟨by simpa using g, by simp; omega⟩ (by as_aux_lemma => kernel_rfl) ?_
    refine segs [] tabOk mixed 4000 (S := .leaf 0) (by as_aux_lemma => kernel_rfl) ?_
    refine sk_leaf ?_
    exact end_ok [(0, some 16496)] Try.results26 (ps := [0 = 0, a0.length = a0.length, E3.cR a0 = E3.cR a0, AllPv (E3.cR a0)]) (by as_aux_lemma => kernel_rfl) ⟨rfl, rfl, rfl, Elem.cR_pv _ _, trivial⟩ (fun _ => ⟨rfl, by simp only [List.mem_cons, List.not_mem_nil, or_false, forall_eq]; exact Elem.cR_bald E3_raw _⟩)

theorem slices_Delete_int_ok (a0 : List Int) (a1 a2 : Int) (r : List Int) (h : slices_Delete_int a0 a1 a2 = some r) {al : Bool} : MCalls Try.prog 52 [.row 0 1 0 a0.length, .pv (.raw (.int .i64 a1)), .pv (.raw (.int .i64 a2))] [.row 3 1 (E3.cR a0)] 0 al (.row 0 1 0 r.length) [.row 3 1 (E3.cR r)] := by
  unfold slices_Delete_int at h
  obtain ⟨g, h⟩ := if_ h
  obtain rfl := some_ h
  obtain ⟨i, rfl⟩ : ∃ i : Nat, a1 = i := ⟨a1.toNat, by omega⟩
  obtain ⟨j, rfl⟩ : ∃ j : Nat, a2 = j := ⟨a2.toNat, by omega⟩
  simp only [Int.toNat_natCast]
  refine inplace_mcalls (rest := [.int .i64 i, .int .i64 j]) (pad := List.replicate (j - i) 0) ⟨_, Try.func52, by kernel_rfl, by kernel_rfl⟩ rfl (fun _ => rfl) (by simp; omega) (fun hx a c w => ?_) (fun g0 o0 c w hx hc hm h1 h2 => ?_)
  · subst hx
    simp only [List.length_nil] at g
    obtain rfl : i = 0 := by omega
    obtain rfl : j = 0 := by omega
    exact Try.slices_Delete_int_empty a c w
  · have := Try.slices_Delete_int_cells g0 o0 a0.length c i j a0 w (Nat.le_refl _) hc hm (by omega) (by omega) h1 h2
    have e1 : a0.length - (j - i) = (a0.take i ++ a0.drop j).length := by simp; omega
    rw [List.take_length, e1] at this
    exact this

set_option maxHeartbeats 40000000 in
set_option maxRecDepth 100000 in
theorem work_queue_busy_ok (a0 : Work_queue) (a1 : Int) (r : Bool) (h : work_queue_busy a0 a1 = some r) {al : Bool} : PCalls Try.prog 53 [.roat 3 (fun j => E81.cf a0 j), .pv (.raw (.int .i64 a1))] al (.pv (.raw (.bool r))) [] := by
  unfold work_queue_busy at h
  refine fn_ok tabOk Try.func53 (by as_aux_lemma => kernel_rfl) (by as_aux_lemma => kernel_rfl) Try.ntmps53 (by simp) ?_
  refine segs [] tabOk mixed 4000 (S := .and (((!((a0.begun_ : Int) == a1)) = true → ((!((a0.begun_ : Int) == a1)) = true))) (.and (((!((a0.begun_ : Int) == a1)) = true → ((!((a0.begun_ : Int) == a1)) = true))) (.and (((!((a0.begun_ : Int) == a1)) = true → ((!((a0.begun_ : Int) == a1)) = true))) (.leaf 0)))) (by as_aux_lemma => kernel_rfl) ?_
  refine sk_and ((by decide : ∀ y0 : Bool, ((y0 = true) → (y0 = true))) (!((a0.begun_ : Int) == a1))) ?_
  refine sk_and ((by decide : ∀ y0 : Bool, ((y0 = true) → (y0 = true))) (!((a0.begun_ : Int) == a1))) ?_
  refine sk_and ((by decide : ∀ y0 : Bool, ((y0 = true) → (y0 = true))) (!((a0.begun_ : Int) == a1))) ?_
  refine sk_leaf ?_
  obtain ⟨r4, e5, h⟩ := bd_ h
  refine callG_ok (d := some 17) (fn := 20) (ax := [.pv ((E3.ro a0.waits_)), .pv (.raw (.int .i64 a1))]) (args := [.pv ((E3.ro a0.waits_)), .pv (.raw (.int .i64 a1))]) (g := (!((a0.begun_ : Int) == a1))) (ws := [(!((a0.begun_ : Int) == a1)) = true, (!((a0.begun_ : Int) == a1)) = true]) (ps := [a0.waits_.length = a0.waits_.length, ∀ i, i < a0.waits_.length → ∀ j, j < 1 → E3.cf (a0.waits_.getD i E3.z) j = E3.cf (a0.waits_.getD i E3.z) j, (a1 : Int) = a1]) (by as_aux_lemma => kernel_rfl) (fun hg => ⟨((by decide : ∀ y0 : Bool, ((y0 = true) → (y0 = true))) (!((a0.begun_ : Int) == a1))) hg, ((by decide : ∀ y0 : Bool, ((y0 = true) → (y0 = true))) (!((a0.begun_ : Int) == a1))) hg, trivial⟩) (fun hg => slices_Contains_int_ok _ _ _ (by rw [hg] at e5; exact e5) (al := true)) (by as_aux_lemma => kernel_rfl) (fun hg => ⟨rfl, fun _ _ _ _ => rfl, rfl, trivial⟩) (fun _ => (by as_aux_lemma => kernel_rfl)) ?_
  refine segs [] tabOk mixed 4000 (S := .and (((a0.begun_ : Int) == a1) = false → (!((a0.begun_ : Int) == a1)) = true) (.leaf 0)) (by as_aux_lemma => kernel_rfl) ?_
  refine sk_and ((by decide : ∀ y0 : Bool, ((y0 = false) → ((!y0) = true))) ((a0.begun_ : Int) == a1)) ?_
  refine sk_leaf ?_
  obtain rfl := some_ h
  exact end_ok [] Try.results53 (ps := [(((a0.begun_ : Int) == a1) || r4) = (((a0.begun_ : Int) == a1) || r4)]) (by as_aux_lemma => kernel_rfl) ⟨rfl, trivial⟩ (fun _ => ⟨rfl, by simp⟩)

set_option maxHeartbeats 40000000 in
set_option maxRecDepth 100000 in
theorem work_queue_do_ok (a0 : Work_queue) (a1 : Api_WorkOp) (r : Int × Work_queue) (h : work_queue_do a0 a1 = some r) {al : Bool} : MCalls Try.prog 41 [.ptr 0 0, .agg [.pv (.raw (.int .i64 a1.Kind)), .pv (.raw (.int .i64 a1.Item))]] [.box [.row 1 1 0 a0.waits_.length, .pv (.raw (.int .i64 a0.begun_)), .row 2 1 0 a0.done_.length], .row 3 1 (E3.cR a0.waits_), .row 3 1 (E3.cR a0.done_)] 1 al (.pv (.raw (.int .i64 r.1))) [.box [.row 1 1 0 r.2.waits_.length, .pv (.raw (.int .i64 r.2.begun_)), .row 2 1 0 r.2.done_.length], .row 3 1 (E3.cR r.2.waits_), .row 3 1 (E3.cR r.2.done_)] := by
  unfold work_queue_do at h
  refine fnM_ok tabOk (fz := [50, 51, 52]) Try.func41 (by as_aux_lemma => kernel_rfl) (by as_aux_lemma => kernel_rfl) Try.ntmps41 (by simp) (by simp) ?_
  refine segs [] tabOk mixed 4000 (S := .and (((!(decide ((a1.Kind : Int) < 1))) = true → ((!(decide ((a1.Kind : Int) < 1))) = true))) (.and (((!(decide ((a1.Kind : Int) < 1))) = true → ((!(decide ((a1.Kind : Int) < 1))) = true))) (.and ((decide ((a1.Kind : Int) < 1)) = false → (!(decide ((a1.Kind : Int) < 1))) = true) (.br ((decide ((a1.Kind : Int) < 1)) || (decide ((a1.Kind : Int) > 5))) (.leaf 0) (.and ((((a1.Kind : Int) != 2) = true → (((a1.Kind : Int) != 2) = true))) (.and ((((a1.Kind : Int) != 2) = true → (((a1.Kind : Int) != 2) = true))) (.and (((a1.Kind : Int) != 2) = true → ((a1.Kind : Int) != 2) = true) (.and (((((a1.Kind : Int) != 2) && ((a1.Kind : Int) != 3)) = true → ((((a1.Kind : Int) != 2) && ((a1.Kind : Int) != 3)) = true))) (.and (((((a1.Kind : Int) != 2) && ((a1.Kind : Int) != 3)) = true → ((((a1.Kind : Int) != 2) && ((a1.Kind : Int) != 3)) = true))) (.and (((((a1.Kind : Int) != 2) && ((a1.Kind : Int) != 3)) = true → ((((a1.Kind : Int) != 2) && ((a1.Kind : Int) != 3)) = true))) (.and ((((((a1.Kind : Int) != 2) && ((a1.Kind : Int) != 3)) && !(decide ((a1.Item : Int) < 0))) = true → (((((a1.Kind : Int) != 2) && ((a1.Kind : Int) != 3)) && !(decide ((a1.Item : Int) < 0))) = true))) (.and ((((((a1.Kind : Int) != 2) && ((a1.Kind : Int) != 3)) && !(decide ((a1.Item : Int) < 0))) = true → (((((a1.Kind : Int) != 2) && ((a1.Kind : Int) != 3)) && !(decide ((a1.Item : Int) < 0))) = true))) (.and (((((a1.Kind : Int) != 2) && ((a1.Kind : Int) != 3)) = true → ((((a1.Kind : Int) != 2) && ((a1.Kind : Int) != 3)) = true))) (.and (((((a1.Kind : Int) != 2) && ((a1.Kind : Int) != 3)) = true → ((decide ((a1.Item : Int) < 0)) = false → ((((a1.Kind : Int) != 2) && ((a1.Kind : Int) != 3)) && !(decide ((a1.Item : Int) < 0))) = true))) (.and ((((a1.Kind : Int) != 2) && ((a1.Kind : Int) != 3)) = true → (((a1.Kind : Int) != 2) && ((a1.Kind : Int) != 3)) = true) (.br ((((a1.Kind : Int) != 2) && ((a1.Kind : Int) != 3)) && ((decide ((a1.Item : Int) < 0)) || (decide ((a1.Item : Int) > 99)))) (.leaf 1) (.br ((a1.Kind : Int) == 1) (.leaf 2) (.br ((a1.Kind : Int) == 2) (.leaf 3) (.br ((a1.Kind : Int) == 3) (.leaf 4) (.br ((a1.Kind : Int) == 4) (.leaf 5) (.br ((a1.Kind : Int) == 5) (.leaf 6) (.leaf 7)))))))))))))))))))))) (by as_aux_lemma => kernel_rfl) ?_
  refine sk_and ((by decide : ∀ y0 : Bool, ((y0 = true) → (y0 = true))) (!(decide ((a1.Kind : Int) < 1)))) ?_
  refine sk_and ((by decide : ∀ y0 : Bool, ((y0 = true) → (y0 = true))) (!(decide ((a1.Kind : Int) < 1)))) ?_
  refine sk_and ((by decide : ∀ y0 : Bool, ((y0 = false) → ((!y0) = true))) (decide ((a1.Kind : Int) < 1))) ?_
  refine br_ h ?_ ?_ <;> clear h <;> intro c4 h
  · refine sk_leaf ?_
    obtain rfl := some_ h
    exact endM_ok [(0, some 0), (1, some 1), (2, some 2)] Try.results41 (ps := [(5 : Int) = 5, 0 = 0, a0.waits_.length = a0.waits_.length, (a0.begun_ : Int) = a0.begun_, 0 = 0, a0.done_.length = a0.done_.length, E3.cR a0.waits_ = E3.cR a0.waits_, AllPv (E3.cR a0.waits_), E3.cR a0.done_ = E3.cR a0.done_, AllPv (E3.cR a0.done_)]) (by as_aux_lemma => kernel_rfl) ⟨rfl, rfl, (by first | rfl | simp), rfl, rfl, (by first | rfl | simp), rfl, (Elem.cR_pv _ _), rfl, (Elem.cR_pv _ _), trivial⟩ (fun _ => ⟨rfl, by simp only [List.mem_cons, List.not_mem_nil, or_false, forall_eq_or_imp, forall_eq]; exact ⟨rfl, Elem.cR_bald E3_raw _, Elem.cR_bald E3_raw _⟩⟩)
  · refine sk_and ((by decide : ∀ y0 : Bool, ((y0 = true) → (y0 = true))) ((a1.Kind : Int) != 2)) ?_
    refine sk_and ((by decide : ∀ y0 : Bool, ((y0 = true) → (y0 = true))) ((a1.Kind : Int) != 2)) ?_
    refine sk_and ((by decide : ∀ y0 : Bool, ((y0 = true) → (y0 = true))) ((a1.Kind : Int) != 2)) ?_
    refine sk_and ((by decide : ∀ y0 : Bool, ((y0 = true) → (y0 = true))) (((a1.Kind : Int) != 2) && ((a1.Kind : Int) != 3))) ?_
    refine sk_and ((by decide : ∀ y0 : Bool, ((y0 = true) → (y0 = true))) (((a1.Kind : Int) != 2) && ((a1.Kind : Int) != 3))) ?_
    refine sk_and ((by decide : ∀ y0 : Bool, ((y0 = true) → (y0 = true))) (((a1.Kind : Int) != 2) && ((a1.Kind : Int) != 3))) ?_
    refine sk_and ((by decide : ∀ y0 : Bool, ((y0 = true) → (y0 = true))) ((((a1.Kind : Int) != 2) && ((a1.Kind : Int) != 3)) && !(decide ((a1.Item : Int) < 0)))) ?_
    refine sk_and ((by decide : ∀ y0 : Bool, ((y0 = true) → (y0 = true))) ((((a1.Kind : Int) != 2) && ((a1.Kind : Int) != 3)) && !(decide ((a1.Item : Int) < 0)))) ?_
    refine sk_and ((by decide : ∀ y0 : Bool, ((y0 = true) → (y0 = true))) (((a1.Kind : Int) != 2) && ((a1.Kind : Int) != 3))) ?_
    refine sk_and ((by decide : ∀ y0 y1 : Bool, ((y0 = true) → ((y1 = false) → ((y0 && (!y1)) = true)))) (((a1.Kind : Int) != 2) && ((a1.Kind : Int) != 3)) (decide ((a1.Item : Int) < 0))) ?_
    refine sk_and ((by decide : ∀ y0 : Bool, ((y0 = true) → (y0 = true))) (((a1.Kind : Int) != 2) && ((a1.Kind : Int) != 3))) ?_
    refine br_ h ?_ ?_ <;> clear h <;> intro c16 h
    · refine sk_leaf ?_
      obtain rfl := some_ h
      exact endM_ok [(0, some 0), (1, some 1), (2, some 2)] Try.results41 (ps := [(2 : Int) = 2, 0 = 0, a0.waits_.length = a0.waits_.length, (a0.begun_ : Int) = a0.begun_, 0 = 0, a0.done_.length = a0.done_.length, E3.cR a0.waits_ = E3.cR a0.waits_, AllPv (E3.cR a0.waits_), E3.cR a0.done_ = E3.cR a0.done_, AllPv (E3.cR a0.done_)]) (by as_aux_lemma => kernel_rfl) ⟨rfl, rfl, (by first | rfl | simp), rfl, rfl, (by first | rfl | simp), rfl, (Elem.cR_pv _ _), rfl, (Elem.cR_pv _ _), trivial⟩ (fun _ => ⟨rfl, by simp only [List.mem_cons, List.not_mem_nil, or_false, forall_eq_or_imp, forall_eq]; exact ⟨rfl, Elem.cR_bald E3_raw _, Elem.cR_bald E3_raw _⟩⟩)
    · refine br_ h ?_ ?_ <;> clear h <;> intro c17 h
      · refine sk_leaf ?_
        obtain ⟨r18, e19, h⟩ := bd_ h
        refine call_ok (d := some 44) (fn := 20) (ax := [.row 1 1 0 a0.waits_.length, .pv (.raw (.int .i64 a1.Item))]) (args := [.pv ((E3.ro a0.waits_)), .pv (.raw (.int .i64 a1.Item))]) (ps := [a0.waits_.length = a0.waits_.length, rowQ (E3.cR a0.waits_) 1 0 a0.waits_.length (fun i j => E3.cf (a0.waits_.getD i E3.z) j), (a1.Item : Int) = a1.Item]) (hb' := []) (by as_aux_lemma => kernel_rfl) (slices_Contains_int_ok _ _ _ e19 (al := false)) (by as_aux_lemma => kernel_rfl) ⟨(by first | rfl | exact Elem.sub_len _ (by omega) | simp | (simp <;> omega)), E3.rowQ_all a0.waits_ rfl, rfl, trivial⟩ (fun hx => by cases hx) (by simp) rfl (by as_aux_lemma => kernel_rfl) ?_
        refine segs [] tabOk mixed 4000 (S := .br r18 (.leaf 0) (.leaf 1)) (by as_aux_lemma => kernel_rfl) ?_
        refine br_ h ?_ ?_ <;> clear h <;> intro c20 h
        · refine sk_leaf ?_
          obtain rfl := some_ h
          exact endM_ok [(0, some 0), (1, some 1), (2, some 2)] Try.results41 (ps := [(6 : Int) = 6, 0 = 0, a0.waits_.length = a0.waits_.length, (a0.begun_ : Int) = a0.begun_, 0 = 0, a0.done_.length = a0.done_.length, E3.cR a0.waits_ = E3.cR a0.waits_, AllPv (E3.cR a0.waits_), E3.cR a0.done_ = E3.cR a0.done_, AllPv (E3.cR a0.done_)]) (by as_aux_lemma => kernel_rfl) ⟨rfl, rfl, (by first | rfl | simp), rfl, rfl, (by first | rfl | simp), rfl, (Elem.cR_pv _ _), rfl, (Elem.cR_pv _ _), trivial⟩ (fun _ => ⟨rfl, by simp only [List.mem_cons, List.not_mem_nil, or_false, forall_eq_or_imp, forall_eq]; exact ⟨rfl, Elem.cR_bald E3_raw _, Elem.cR_bald E3_raw _⟩⟩)
        · refine sk_leaf ?_
          refine bs_ok (d := 52) (e := 3) (s := 1) (n := 1) (cs := [.pv (.raw (.int .i64 a1.Item))]) (cs' := E3.cR [a1.Item]) (by as_aux_lemma => kernel_rfl) rfl (by as_aux_lemma => kernel_rfl) ?_
          refine segs [] tabOk mixed 4000 (S := .leaf 0) (by as_aux_lemma => kernel_rfl) ?_
          refine sk_leaf ?_
          obtain ⟨g21, h⟩ := if_ h
          refine app_ok (d := 53) (e := 3) (s := 1) (b := 8) (x := .row 1 1 0 a0.waits_.length) (y := .row 17216 1 0 1) E3 (xs := a0.waits_) (ys := [a1.Item]) (by as_aux_lemma => kernel_rfl) rfl (.row 1 a0.waits_ a0.waits_.length rfl (by as_aux_lemma => kernel_rfl)) (.all 17216 3 [a1.Item] 1 rfl (by as_aux_lemma => kernel_rfl)) g21 (by as_aux_lemma => kernel_rfl) ?_
          refine segs [] tabOk mixed 4000 (S := .leaf 0) (by as_aux_lemma => kernel_rfl) ?_
          refine sk_leaf ?_
          obtain rfl := some_ h
          exact endM_ok [(0, some 0), (1, some 17232), (2, some 2)] Try.results41 (ps := [(0 : Int) = 0, 0 = 0, ((a0.waits_ ++ [a1.Item]).length) = (a0.waits_ ++ [a1.Item]).length, (a0.begun_ : Int) = a0.begun_, 0 = 0, a0.done_.length = a0.done_.length, E3.cR (a0.waits_ ++ [a1.Item]) = E3.cR (a0.waits_ ++ [a1.Item]), AllPv (E3.cR (a0.waits_ ++ [a1.Item])), E3.cR a0.done_ = E3.cR a0.done_, AllPv (E3.cR a0.done_)]) (by as_aux_lemma => kernel_rfl) ⟨rfl, rfl, (by first | rfl | simp), rfl, rfl, (by first | rfl | simp), rfl, (Elem.cR_pv _ _), rfl, (Elem.cR_pv _ _), trivial⟩ (fun _ => ⟨rfl, by simp only [List.mem_cons, List.not_mem_nil, or_false, forall_eq_or_imp, forall_eq]; exact ⟨rfl, Elem.cR_bald E3_raw _, Elem.cR_bald E3_raw _⟩⟩)
      · refine br_ h ?_ ?_ <;> clear h <;> intro c22 h
        · refine sk_leaf ?_
          obtain ⟨r23, e24, h⟩ := bd_ h
          refine mcall_ok (d := some 59) (fn := 50) (ax := [.ptr 0 0]) (hs := [(0, .box [.row 17329 1 0 r23.2.waits_.length, .pv (.raw (.int .i64 r23.2.begun_)), .row 17330 1 0 r23.2.done_.length]), (17329, .row 3 1 (E3.cR r23.2.waits_)), (17330, .row 3 1 (E3.cR r23.2.done_))]) (del := [1, 2]) (ps := [0 = 0, 0 = 0, a0.waits_.length = a0.waits_.length, (a0.begun_ : Int) = a0.begun_, 0 = 0, a0.done_.length = a0.done_.length, E3.cR a0.waits_ = E3.cR a0.waits_, AllPv (E3.cR a0.waits_), E3.cR a0.done_ = E3.cR a0.done_, AllPv (E3.cR a0.done_)]) [(0, some 0), (1, some 1), (2, some 2)] (by as_aux_lemma => kernel_rfl) (work_queue_begin_ok _ _ e24 (al := true)) (by as_aux_lemma => kernel_rfl) ⟨rfl, rfl, rfl, rfl, rfl, rfl, rfl, (Elem.cR_pv _ _), rfl, (Elem.cR_pv _ _), trivial⟩ (by as_aux_lemma => kernel_rfl) (by simp only [mset_row, mset_box, mset_nil, List.set_set]; kernel_rfl) (by as_aux_lemma => kernel_rfl) ?_
          refine segs [] tabOk mixed 4000 (S := .leaf 0) (by as_aux_lemma => kernel_rfl) ?_
          refine sk_leaf ?_
          obtain rfl := some_ h
          exact endM_ok [(0, some 0), (1, some 17329), (2, some 17330)] Try.results41 (ps := [(r23.1 : Int) = r23.1, 0 = 0, r23.2.waits_.length = r23.2.waits_.length, (r23.2.begun_ : Int) = r23.2.begun_, 0 = 0, r23.2.done_.length = r23.2.done_.length, E3.cR r23.2.waits_ = E3.cR r23.2.waits_, AllPv (E3.cR r23.2.waits_), E3.cR r23.2.done_ = E3.cR r23.2.done_, AllPv (E3.cR r23.2.done_)]) (by as_aux_lemma => kernel_rfl) ⟨rfl, rfl, (by first | rfl | simp), rfl, rfl, (by first | rfl | simp), rfl, (Elem.cR_pv _ _), rfl, (Elem.cR_pv _ _), trivial⟩ (fun _ => ⟨rfl, by simp only [List.mem_cons, List.not_mem_nil, or_false, forall_eq_or_imp, forall_eq]; exact ⟨rfl, Elem.cR_bald E3_raw _, Elem.cR_bald E3_raw _⟩⟩)
        · refine br_ h ?_ ?_ <;> clear h <;> intro c25 h
          · refine sk_leaf ?_
            obtain ⟨r26, e27, h⟩ := bd_ h
            refine mcall_ok (d := some 63) (fn := 51) (ax := [.ptr 0 0]) (hs := [(0, .box [.row 17393 1 0 r26.2.waits_.length, .pv (.raw (.int .i64 r26.2.begun_)), .row 17394 1 0 r26.2.done_.length]), (17393, .row 3 1 (E3.cR r26.2.waits_)), (17394, .row 3 1 (E3.cR r26.2.done_))]) (del := [1, 2]) (ps := [0 = 0, 0 = 0, a0.waits_.length = a0.waits_.length, (a0.begun_ : Int) = a0.begun_, 0 = 0, a0.done_.length = a0.done_.length, E3.cR a0.waits_ = E3.cR a0.waits_, AllPv (E3.cR a0.waits_), E3.cR a0.done_ = E3.cR a0.done_, AllPv (E3.cR a0.done_)]) [(0, some 0), (1, some 1), (2, some 2)] (by as_aux_lemma => kernel_rfl) (work_queue_end_ok _ _ e27 (al := true)) (by as_aux_lemma => kernel_rfl) ⟨rfl, rfl, rfl, rfl, rfl, rfl, rfl, (Elem.cR_pv _ _), rfl, (Elem.cR_pv _ _), trivial⟩ (by as_aux_lemma => kernel_rfl) (by simp only [mset_row, mset_box, mset_nil, List.set_set]; kernel_rfl) (by as_aux_lemma => kernel_rfl) ?_
            refine segs [] tabOk mixed 4000 (S := .leaf 0) (by as_aux_lemma => kernel_rfl) ?_
            refine sk_leaf ?_
            obtain rfl := some_ h
            exact endM_ok [(0, some 0), (1, some 17393), (2, some 17394)] Try.results41 (ps := [(r26.1 : Int) = r26.1, 0 = 0, r26.2.waits_.length = r26.2.waits_.length, (r26.2.begun_ : Int) = r26.2.begun_, 0 = 0, r26.2.done_.length = r26.2.done_.length, E3.cR r26.2.waits_ = E3.cR r26.2.waits_, AllPv (E3.cR r26.2.waits_), E3.cR r26.2.done_ = E3.cR r26.2.done_, AllPv (E3.cR r26.2.done_)]) (by as_aux_lemma => kernel_rfl) ⟨rfl, rfl, (by first | rfl | simp), rfl, rfl, (by first | rfl | simp), rfl, (Elem.cR_pv _ _), rfl, (Elem.cR_pv _ _), trivial⟩ (fun _ => ⟨rfl, by simp only [List.mem_cons, List.not_mem_nil, or_false, forall_eq_or_imp, forall_eq]; exact ⟨rfl, Elem.cR_bald E3_raw _, Elem.cR_bald E3_raw _⟩⟩)
          · refine br_ h ?_ ?_ <;> clear h <;> intro c28 h
            · refine sk_leaf ?_
              obtain ⟨r29, e30, h⟩ := bd_ h
              refine call_ok (d := some 72) (fn := 39) (ax := [.row 1 1 0 a0.waits_.length, .pv (.raw (.int .i64 a1.Item))]) (args := [.pv ((E3.ro a0.waits_)), .pv (.raw (.int .i64 a1.Item))]) (ps := [a0.waits_.length = a0.waits_.length, rowQ (E3.cR a0.waits_) 1 0 a0.waits_.length (fun i j => E3.cf (a0.waits_.getD i E3.z) j), (a1.Item : Int) = a1.Item]) (hb' := []) (by as_aux_lemma => kernel_rfl) (slices_Index_int_ok _ _ _ e30 (al := false)) (by as_aux_lemma => kernel_rfl) ⟨(by first | rfl | exact Elem.sub_len _ (by omega) | simp | (simp <;> omega)), E3.rowQ_all a0.waits_ rfl, rfl, trivial⟩ (fun hx => by cases hx) (by simp) rfl (by as_aux_lemma => kernel_rfl) ?_
              refine segs [] tabOk mixed 4000 (S := .br (decide ((r29 : Int) < 0)) (.leaf 0) (.leaf 1)) (by as_aux_lemma => kernel_rfl) ?_
              refine br_ h ?_ ?_ <;> clear h <;> intro c31 h
              · refine sk_leaf ?_
                obtain rfl := some_ h
                exact endM_ok [(0, some 0), (1, some 1), (2, some 2)] Try.results41 (ps := [(3 : Int) = 3, 0 = 0, a0.waits_.length = a0.waits_.length, (a0.begun_ : Int) = a0.begun_, 0 = 0, a0.done_.length = a0.done_.length, E3.cR a0.waits_ = E3.cR a0.waits_, AllPv (E3.cR a0.waits_), E3.cR a0.done_ = E3.cR a0.done_, AllPv (E3.cR a0.done_)]) (by as_aux_lemma => kernel_rfl) ⟨rfl, rfl, (by first | rfl | simp), rfl, rfl, (by first | rfl | simp), rfl, (Elem.cR_pv _ _), rfl, (Elem.cR_pv _ _), trivial⟩ (fun _ => ⟨rfl, by simp only [List.mem_cons, List.not_mem_nil, or_false, forall_eq_or_imp, forall_eq]; exact ⟨rfl, Elem.cR_bald E3_raw _, Elem.cR_bald E3_raw _⟩⟩)
              · refine sk_leaf ?_
                obtain ⟨r32, e33, h⟩ := bd_ h
                refine call_ok (d := some 80) (fn := 26) (ax := [.row 1 1 0 a0.waits_.length]) (args := [.pv ((E3.ro a0.waits_))]) (ps := [a0.waits_.length = a0.waits_.length, rowQ (E3.cR a0.waits_) 1 0 a0.waits_.length (fun i j => E3.cf (a0.waits_.getD i E3.z) j)]) (hb' := [.row 3 1 (E3.cR r32)]) (by as_aux_lemma => kernel_rfl) (slices_Clone_int_ok _ _ e33 (al := false)) (by as_aux_lemma => kernel_rfl) ⟨(by first | rfl | exact Elem.sub_len _ (by omega) | simp | (simp <;> omega)), E3.rowQ_all a0.waits_ rfl, trivial⟩ (fun hx => by cases hx) (by simp) (by simp only [List.map_cons, List.map_nil, Elem.row_up]) (by as_aux_lemma => kernel_rfl) ?_
                refine segs [] tabOk mixed 4000 (S := .leaf 0) (by as_aux_lemma => kernel_rfl) ?_
                refine sk_leaf ?_
                obtain ⟨r34, e35, h⟩ := bd_ h
                refine mcall_ok (d := some 84) (fn := 52) (ax := [.row 17664 1 0 r32.length, .pv (.raw (.int .i64 r29)), .pv (.raw (.int .i64 (IntKind.i64.wrap (r29 + 1))))]) (hs := [(17728, .row 3 1 (E3.cR r34))]) (del := [17664]) (ps := [0 = 0, r32.length = r32.length, (r29 : Int) = r29, ((IntKind.i64.wrap (r29 + 1)) : Int) = (IntKind.i64.wrap (r29 + 1)), E3.cR r32 = E3.cR r32, AllPv (E3.cR r32)]) [(0, some 17664)] (by as_aux_lemma => kernel_rfl) (slices_Delete_int_ok _ _ _ _ e35 (al := false)) (by as_aux_lemma => kernel_rfl) ⟨rfl, rfl, rfl, rfl, rfl, (Elem.cR_pv _ _), trivial⟩ (by as_aux_lemma => kernel_rfl) (by simp only [mset_row, mset_box, mset_nil, List.set_set]; kernel_rfl) (by as_aux_lemma => kernel_rfl) ?_
                refine segs [] tabOk mixed 4000 (S := .leaf 0) (by as_aux_lemma => kernel_rfl) ?_
                refine sk_leaf ?_
                obtain rfl := some_ h
                exact endM_ok [(0, some 0), (1, some 17728), (2, some 2)] Try.results41 (ps := [(0 : Int) = 0, 0 = 0, r34.length = r34.length, (a0.begun_ : Int) = a0.begun_, 0 = 0, a0.done_.length = a0.done_.length, E3.cR r34 = E3.cR r34, AllPv (E3.cR r34), E3.cR a0.done_ = E3.cR a0.done_, AllPv (E3.cR a0.done_)]) (by as_aux_lemma => kernel_rfl) ⟨rfl, rfl, (by first | rfl | simp), rfl, rfl, (by first | rfl | simp), rfl, (Elem.cR_pv _ _), rfl, (Elem.cR_pv _ _), trivial⟩ (fun _ => ⟨rfl, by simp only [List.mem_cons, List.not_mem_nil, or_false, forall_eq_or_imp, forall_eq]; exact ⟨rfl, Elem.cR_bald E3_raw _, Elem.cR_bald E3_raw _⟩⟩)
            · refine br_ h ?_ ?_ <;> clear h <;> intro c36 h
              · refine sk_leaf ?_
                refine len_row (by as_aux_lemma => kernel_rfl) 1 (e := 3) (s := 1) (n := a0.waits_.length) (cs := E3.cR a0.waits_) (by as_aux_lemma => kernel_rfl) (Elem.cR_length _ _) ?_; intro hl1_0
                refine len_row (by as_aux_lemma => kernel_rfl) 2 (e := 3) (s := 1) (n := a0.done_.length) (cs := E3.cR a0.done_) (by as_aux_lemma => kernel_rfl) (Elem.cR_length _ _) ?_; intro hl1_1
                replace h : (fun (x : Nat × List Int × Int × List Int) => work_queue_do_l1 a0 a1 x.1 x.2.1 x.2.2.1 x.2.2.2 = some r) (FUEL, a0.waits_, a0.begun_, a0.done_) := h
                refine loop_ok (by as_aux_lemma => kernel_rfl) (X := Nat × List Int × Int × List Int) (fun x => work_queue_do_l1 a0 a1 x.1 x.2.1 x.2.2.1 x.2.2.2 = some r) (fun x => x.1) (fun x => mk 98 [(0, .ptr 0 0), (3, .ptr 3 0), (4, .pv (.raw (.int .i64 0)))] [(0, .box [.row 1 1 0 x.2.1.length, .pv (.raw (.int .i64 x.2.2.1)), .row 2 1 0 x.2.2.2.length]), (1, .row 3 1 (E3.cR x.2.1)), (2, .row 3 1 (E3.cR x.2.2.2)), (3, .box [.pv (.raw (.int .i64 a1.Kind)), .pv (.raw (.int .i64 a1.Item))])] [50, 51, 52] 1) (FUEL, a0.waits_, a0.begun_, a0.done_) h ?_ ?_
                · exact sub_ok (ρ := [(0, some 0), (1, some 1), (2, some 2), (3, some 16432)]) (l := [0 = 0, 0 = 0, (0 : Int) = 0, 0 = 0, a0.waits_.length = a0.waits_.length, (a0.begun_ : Int) = a0.begun_, 0 = 0, a0.done_.length = a0.done_.length, E3.cR a0.waits_ = E3.cR a0.waits_, AllPv (E3.cR a0.waits_), E3.cR a0.done_ = E3.cR a0.done_, AllPv (E3.cR a0.done_), (a1.Kind : Int) = a1.Kind, (a1.Item : Int) = a1.Item]) (by as_aux_lemma => kernel_rfl) ⟨rfl, rfl, rfl, rfl, rfl, rfl, rfl, rfl, rfl, (Elem.cR_pv _ _), rfl, (Elem.cR_pv _ _), rfl, rfl, trivial⟩
                · clear h; rintro ⟨n1, l37, x38, l39⟩ h p1 hp1
                  obtain _ | n1 := n1
                  · cases (show (none : Option (Int × Work_queue)) = some r from h)
                  have h : work_queue_do_l1 a0 a1 (n1 + 1) l37 x38 l39 = some r := h
                  unfold work_queue_do_l1 at h
                  refine segs [] tabOk mixed 4000 (S := .leaf 0) (by as_aux_lemma => kernel_rfl) ?_
                  refine sk_leaf ?_
                  obtain ⟨r40, e41, h⟩ := bd_ h
                  refine call_ok (d := some 92) (fn := 53) (ax := [.ptr 0 0, .pv (.raw (.int .i64 a1.Item))]) (args := [.roat 3 (fun j => E81.cf (⟨l37, x38, l39⟩ : Work_queue) j), .pv (.raw (.int .i64 a1.Item))]) (ps := [l37.length = l37.length, rowQ (E3.cR l37) 1 0 l37.length (fun i j => E3.cf (l37.getD i E3.z) j), (x38 : Int) = x38, l39.length = l39.length, rowQ (E3.cR l39) 1 0 l39.length (fun i j => E3.cf (l39.getD i E3.z) j), (a1.Item : Int) = a1.Item]) (hb' := []) (by as_aux_lemma => kernel_rfl) (work_queue_busy_ok _ _ _ e41 (al := false)) (by as_aux_lemma => kernel_rfl) ⟨(by first | rfl | exact Elem.sub_len _ (by omega) | simp | (simp <;> omega)), E3.rowQ_all l37 rfl, rfl, (by first | rfl | exact Elem.sub_len _ (by omega) | simp | (simp <;> omega)), E3.rowQ_all l39 rfl, rfl, trivial⟩ (fun hx => by cases hx) (by simp) rfl (by as_aux_lemma => kernel_rfl) ?_
                  refine segs [] tabOk mixed 4000 (S := .br r40 (.leaf 0) (.leaf 1)) (by as_aux_lemma => kernel_rfl) ?_
                  refine br_ h ?_ ?_ <;> clear h <;> intro c42 h
                  · refine sk_leaf ?_
                    obtain ⟨r43, e44, h⟩ := bd_ h
                    refine mcall_ok (d := some 94) (fn := 50) (ax := [.ptr 0 0]) (hs := [(0, .box [.row 17889 1 0 r43.2.waits_.length, .pv (.raw (.int .i64 r43.2.begun_)), .row 17890 1 0 r43.2.done_.length]), (17889, .row 3 1 (E3.cR r43.2.waits_)), (17890, .row 3 1 (E3.cR r43.2.done_))]) (del := [1, 2]) (ps := [0 = 0, 0 = 0, l37.length = l37.length, (x38 : Int) = x38, 0 = 0, l39.length = l39.length, E3.cR l37 = E3.cR l37, AllPv (E3.cR l37), E3.cR l39 = E3.cR l39, AllPv (E3.cR l39)]) [(0, some 0), (1, some 1), (2, some 2)] (by as_aux_lemma => kernel_rfl) (work_queue_begin_ok _ _ e44 (al := true)) (by as_aux_lemma => kernel_rfl) ⟨rfl, rfl, rfl, rfl, rfl, rfl, rfl, (Elem.cR_pv _ _), rfl, (Elem.cR_pv _ _), trivial⟩ (by as_aux_lemma => kernel_rfl) (by simp only [mset_row, mset_box, mset_nil, List.set_set]; kernel_rfl) (by as_aux_lemma => kernel_rfl) ?_
                    refine segs [] tabOk mixed 4000 (S := .br ((r43.1 : Int) == 6) (.leaf 0) (.leaf 1)) (by as_aux_lemma => kernel_rfl) ?_
                    refine br_ h ?_ ?_ <;> clear h <;> intro c45 h
                    · refine sk_leaf ?_
                      obtain ⟨r46, e47, h⟩ := bd_ h
                      refine mcall_ok (d := some 97) (fn := 51) (ax := [.ptr 0 0]) (hs := [(0, .box [.row 17937 1 0 r46.2.waits_.length, .pv (.raw (.int .i64 r46.2.begun_)), .row 17938 1 0 r46.2.done_.length]), (17937, .row 3 1 (E3.cR r46.2.waits_)), (17938, .row 3 1 (E3.cR r46.2.done_))]) (del := [17889, 17890]) (ps := [0 = 0, 0 = 0, r43.2.waits_.length = r43.2.waits_.length, (r43.2.begun_ : Int) = r43.2.begun_, 0 = 0, r43.2.done_.length = r43.2.done_.length, E3.cR r43.2.waits_ = E3.cR r43.2.waits_, AllPv (E3.cR r43.2.waits_), E3.cR r43.2.done_ = E3.cR r43.2.done_, AllPv (E3.cR r43.2.done_)]) [(0, some 0), (1, some 17889), (2, some 17890)] (by as_aux_lemma => kernel_rfl) (work_queue_end_ok _ _ e47 (al := true)) (by as_aux_lemma => kernel_rfl) ⟨rfl, rfl, rfl, rfl, rfl, rfl, rfl, (Elem.cR_pv _ _), rfl, (Elem.cR_pv _ _), trivial⟩ (by as_aux_lemma => kernel_rfl) (by simp only [mset_row, mset_box, mset_nil, List.set_set]; kernel_rfl) (by as_aux_lemma => kernel_rfl) ?_
                      refine segs [] tabOk mixed 4000 (S := .leaf 0) (by as_aux_lemma => kernel_rfl) ?_
                      refine sk_leaf ?_
                      refine back_ok (p := p1) (by as_aux_lemma => kernel_rfl) (hp1 (n1, r46.2.waits_, r46.2.begun_, r46.2.done_) _ h (Nat.lt_succ_self n1) ?_)
                      exact sub_ok (ρ := [(0, some 0), (1, some 17937), (2, some 17938), (3, some 3)]) (l := [0 = 0, 0 = 0, (0 : Int) = 0, 0 = 0, r46.2.waits_.length = r46.2.waits_.length, (r46.2.begun_ : Int) = r46.2.begun_, 0 = 0, r46.2.done_.length = r46.2.done_.length, E3.cR r46.2.waits_ = E3.cR r46.2.waits_, AllPv (E3.cR r46.2.waits_), E3.cR r46.2.done_ = E3.cR r46.2.done_, AllPv (E3.cR r46.2.done_), (a1.Kind : Int) = a1.Kind, (a1.Item : Int) = a1.Item]) (by as_aux_lemma => kernel_rfl) ⟨rfl, rfl, rfl, rfl, rfl, rfl, rfl, rfl, rfl, (Elem.cR_pv _ _), rfl, (Elem.cR_pv _ _), rfl, rfl, trivial⟩
                    · refine sk_leaf ?_
                      refine back_ok (p := p1) (by as_aux_lemma => kernel_rfl) (hp1 (n1, r43.2.waits_, r43.2.begun_, r43.2.done_) _ h (Nat.lt_succ_self n1) ?_)
                      exact sub_ok (ρ := [(0, some 0), (1, some 17889), (2, some 17890), (3, some 3)]) (l := [0 = 0, 0 = 0, (0 : Int) = 0, 0 = 0, r43.2.waits_.length = r43.2.waits_.length, (r43.2.begun_ : Int) = r43.2.begun_, 0 = 0, r43.2.done_.length = r43.2.done_.length, E3.cR r43.2.waits_ = E3.cR r43.2.waits_, AllPv (E3.cR r43.2.waits_), E3.cR r43.2.done_ = E3.cR r43.2.done_, AllPv (E3.cR r43.2.done_), (a1.Kind : Int) = a1.Kind, (a1.Item : Int) = a1.Item]) (by as_aux_lemma => kernel_rfl) ⟨rfl, rfl, rfl, rfl, rfl, rfl, rfl, rfl, rfl, (Elem.cR_pv _ _), rfl, (Elem.cR_pv _ _), rfl, rfl, trivial⟩
                  · refine sk_leaf ?_
                    obtain rfl := some_ h
                    exact endM_ok [(0, some 0), (1, some 1), (2, some 2)] Try.results41 (ps := [(0 : Int) = 0, 0 = 0, l37.length = l37.length, (x38 : Int) = x38, 0 = 0, l39.length = l39.length, E3.cR l37 = E3.cR l37, AllPv (E3.cR l37), E3.cR l39 = E3.cR l39, AllPv (E3.cR l39)]) (by as_aux_lemma => kernel_rfl) ⟨rfl, rfl, (by first | rfl | simp), rfl, rfl, (by first | rfl | simp), rfl, (Elem.cR_pv _ _), rfl, (Elem.cR_pv _ _), trivial⟩ (fun _ => ⟨rfl, by simp only [List.mem_cons, List.not_mem_nil, or_false, forall_eq_or_imp, forall_eq]; exact ⟨rfl, Elem.cR_bald E3_raw _, Elem.cR_bald E3_raw _⟩⟩)
              · refine sk_leaf ?_
                obtain rfl := some_ h
                exact endM_ok [(0, some 0), (1, some 1), (2, some 2)] Try.results41 (ps := [(0 : Int) = 0, 0 = 0, a0.waits_.length = a0.waits_.length, (a0.begun_ : Int) = a0.begun_, 0 = 0, a0.done_.length = a0.done_.length, E3.cR a0.waits_ = E3.cR a0.waits_, AllPv (E3.cR a0.waits_), E3.cR a0.done_ = E3.cR a0.done_, AllPv (E3.cR a0.done_)]) (by as_aux_lemma => kernel_rfl) ⟨rfl, rfl, (by first | rfl | simp), rfl, rfl, (by first | rfl | simp), rfl, (Elem.cR_pv _ _), rfl, (Elem.cR_pv _ _), trivial⟩ (fun _ => ⟨rfl, by simp only [List.mem_cons, List.not_mem_nil, or_false, forall_eq_or_imp, forall_eq]; exact ⟨rfl, Elem.cR_bald E3_raw _, Elem.cR_bald E3_raw _⟩⟩)

set_option maxHeartbeats 40000000 in
set_option maxRecDepth 100000 in
theorem work_Play_ok (a0 : (List Api_WorkOp)) (r : (List Int) × (List Int) × (List Int) × Int × Int) (h : work_Play a0 = some r) {al : Bool} : PCalls Try.prog 25 [.pv ((E52.ro a0))] al (.tup [.row 0 1 0 r.1.length, .row 1 1 0 r.2.1.length, .row 2 1 0 r.2.2.1.length, .pv (.raw (.int .i64 r.2.2.2.1)), .pv (.raw (.int .i64 r.2.2.2.2))]) [.row 31 1 (E31.cR r.1), .row 3 1 (E3.cR r.2.1), .row 3 1 (E3.cR r.2.2.1)] := by
  unfold work_Play at h
  refine fnZ_ok tabOk [41] Try.func25 (by as_aux_lemma => kernel_rfl) (by as_aux_lemma => kernel_rfl) Try.ntmps25 (by simp) ?_
  refine segs [] tabOk mixed 4000 (S := .br (decide ((((a0.length : Nat) : Int) : Int) > 400)) (.leaf 0) (.leaf 1)) (by as_aux_lemma => kernel_rfl) ?_
  refine br_ h ?_ ?_ <;> clear h <;> intro c1 h
  · refine sk_leaf ?_
    obtain rfl := some_ h
    exact end_ok [(0, none), (1, none), (2, none)] Try.results25 (ps := [0 = 0, ([] : List Int).length = 0, 0 = 0, ([] : List Int).length = 0, 0 = 0, ([] : List Int).length = 0, (0 : Int) = 0, (2 : Int) = 2, E31.cR [] = [], E3.cR [] = [], E3.cR [] = []]) (by as_aux_lemma => kernel_rfl) ⟨rfl, rfl, rfl, rfl, rfl, rfl, rfl, rfl, rfl, rfl, rfl, trivial⟩ (fun _ => ⟨rfl, by simp only [List.mem_cons, List.not_mem_nil, or_false, forall_eq_or_imp, forall_eq]; exact ⟨Elem.cR_bald E31_raw _, Elem.cR_bald E3_raw _, Elem.cR_bald E3_raw _⟩⟩)
  · refine sk_leaf ?_
    refine len_ro (by as_aux_lemma => kernel_rfl) 16 (s := 2) (n := a0.length) (c := fun i j => E52.cf (a0.getD i E52.z) j) (by as_aux_lemma => kernel_rfl) ?_; intro hl1_0
    replace h : (fun (x : Nat × List Int × Nat × List Int × Int × List Int) => work_Play_l1 a0 x.1 x.2.1 x.2.2.1 x.2.2.2.1 x.2.2.2.2.1 x.2.2.2.2.2 = some r) (FUEL, ([] : List Int), 0, ([] : List Int), (-1), ([] : List Int)) := h
    refine loop_ok (by as_aux_lemma => kernel_rfl) (X := Nat × List Int × Nat × List Int × Int × List Int) (fun x => work_Play_l1 a0 x.1 x.2.1 x.2.2.1 x.2.2.2.1 x.2.2.2.2.1 x.2.2.2.2.2 = some r) (fun x => x.1) (fun x => mk 43 [(2, .pv (.raw (.slice none 0 0))), (3, .pv (.raw (.slice none 0 0))), (4, .pv (.raw (.slice none 0 0))), (5, .pv (.raw (.int .i64 0))), (6, .pv (.raw (.int .i64 0))), (7, .ptr 0 0), (8, .row 1 1 0 x.2.1.length), (16, .pv ((E52.ro a0))), (17, .pv (.raw (.int .i64 ((a0.length : Nat) : Int)))), (18, .pv (.raw (.int .i64 ((x.2.2.1 : Nat) : Int))))] [(0, .box [.row 2 1 0 x.2.2.2.1.length, .pv (.raw (.int .i64 x.2.2.2.2.1)), .row 3 1 0 x.2.2.2.2.2.length]), (1, .row 31 1 (E31.cR x.2.1)), (2, .row 3 1 (E3.cR x.2.2.2.1)), (3, .row 3 1 (E3.cR x.2.2.2.2.2))] [41]) (FUEL, ([] : List Int), 0, ([] : List Int), (-1), ([] : List Int)) h ?_ ?_
    · exact sub_ok (ρ := [(0, some 16624), (1, none), (2, none), (3, none)]) (l := [(0 : Int) = 0, (0 : Int) = 0, 0 = 0, 0 = 0, (([] : List Int).length) = 0, a0.length = a0.length, ∀ i, i < a0.length → ∀ j, j < 2 → E52.cf (a0.getD i E52.z) j = E52.cf (a0.getD i E52.z) j, (((a0.length : Nat) : Int) : Int) = ((a0.length : Nat) : Int), (0 : Int) = ((0 : Nat) : Int), 0 = 0, (([] : List Int).length) = 0, ((-1) : Int) = (-1), 0 = 0, (([] : List Int).length) = 0, E31.cR ([] : List Int) = [], E3.cR ([] : List Int) = [], E3.cR ([] : List Int) = []]) (by as_aux_lemma => kernel_rfl) ⟨rfl, rfl, rfl, rfl, (by first | rfl | simp), rfl, fun _ _ _ _ => rfl, rfl, (by first | rfl | simp), rfl, (by first | rfl | simp), rfl, rfl, (by first | rfl | simp), rfl, rfl, rfl, trivial⟩
    · clear h; rintro ⟨n1, l2, k3, l4, x5, l6⟩ h p1 hp1
      obtain _ | n1 := n1
      · cases (show (none : Option ((List Int) × (List Int) × (List Int) × Int × Int)) = some r from h)
      have h : work_Play_l1 a0 (n1 + 1) l2 k3 l4 x5 l6 = some r := h
      unfold work_Play_l1 at h
      refine segs [] tabOk mixed 4000 (S := .br (decide ((((k3 : Nat) : Int) : Int) < ((a0.length : Nat) : Int))) (.and (0 ≤ (((k3 : Nat) : Int) : Int) ∧ ((k3 : Nat) : Int) < ((a0.length : Nat) : Int)) (.leaf 0)) (.leaf 1)) (by as_aux_lemma => kernel_rfl) ?_
      refine br_ h ?_ ?_ <;> clear h <;> intro c7 h
      · refine sk_and ⟨Int.natCast_nonneg _, of_decide_eq_true c7⟩ ?_
        refine sk_leaf ?_
        obtain ⟨r9, e10, h⟩ := bd_ h
        refine mcall_ok (d := some 25) (fn := 41) (ax := [.ptr 0 0, .agg [.pv (.raw (.int .i64 ((a0.getD k3 (⟨0, 0⟩ : Api_WorkOp)).Kind))), .pv (.raw (.int .i64 ((a0.getD k3 (⟨0, 0⟩ : Api_WorkOp)).Item)))]]) (hs := [(0, .box [.row 16785 1 0 r9.2.waits_.length, .pv (.raw (.int .i64 r9.2.begun_)), .row 16786 1 0 r9.2.done_.length]), (16785, .row 3 1 (E3.cR r9.2.waits_)), (16786, .row 3 1 (E3.cR r9.2.done_))]) (del := [2, 3]) (ps := [0 = 0, ((a0.getD k3 (⟨0, 0⟩ : Api_WorkOp)).Kind : Int) = ((a0.getD k3 (⟨0, 0⟩ : Api_WorkOp)).Kind), ((a0.getD k3 (⟨0, 0⟩ : Api_WorkOp)).Item : Int) = ((a0.getD k3 (⟨0, 0⟩ : Api_WorkOp)).Item), 0 = 0, l4.length = l4.length, (x5 : Int) = x5, 0 = 0, l6.length = l6.length, E3.cR l4 = E3.cR l4, AllPv (E3.cR l4), E3.cR l6 = E3.cR l6, AllPv (E3.cR l6)]) [(0, some 0), (1, some 2), (2, some 3)] (by as_aux_lemma => kernel_rfl) (work_queue_do_ok _ _ _ e10 (al := true)) (by as_aux_lemma => kernel_rfl) ⟨rfl, rfl, rfl, rfl, rfl, rfl, rfl, rfl, rfl, (Elem.cR_pv _ _), rfl, (Elem.cR_pv _ _), trivial⟩ (by as_aux_lemma => kernel_rfl) (by simp only [mset_row, mset_box, mset_nil, List.set_set]; kernel_rfl) (by as_aux_lemma => kernel_rfl) ?_
        refine segs [] tabOk mixed 4000 (S := .leaf 0) (by as_aux_lemma => kernel_rfl) ?_
        refine sk_leaf ?_
        refine bs_ok (d := 26) (e := 31) (s := 1) (n := 1) (cs := [.pv (.raw (.int .i64 r9.1))]) (cs' := E31.cR [r9.1]) (by as_aux_lemma => kernel_rfl) rfl (by as_aux_lemma => kernel_rfl) ?_
        refine segs [] tabOk mixed 4000 (S := .leaf 0) (by as_aux_lemma => kernel_rfl) ?_
        refine sk_leaf ?_
        obtain ⟨g11, h⟩ := if_ h
        refine app_ok (d := 27) (e := 31) (s := 1) (b := 8) (x := .row 1 1 0 l2.length) (y := .row 16800 1 0 1) E31 (xs := l2) (ys := [r9.1]) (by as_aux_lemma => kernel_rfl) rfl (.row 1 l2 l2.length rfl (by as_aux_lemma => kernel_rfl)) (.all 16800 31 [r9.1] 1 rfl (by as_aux_lemma => kernel_rfl)) g11 (by as_aux_lemma => kernel_rfl) ?_
        refine segs [] tabOk mixed 4000 (S := .leaf 0) (by as_aux_lemma => kernel_rfl) ?_
        refine sk_leaf ?_
        refine back_ok (p := p1) (by as_aux_lemma => kernel_rfl) (hp1 (n1, (l2 ++ [r9.1]), k3 + 1, r9.2.waits_, r9.2.begun_, r9.2.done_) _ h (Nat.lt_succ_self n1) ?_)
        exact sub_ok (ρ := [(0, some 0), (1, some 16816), (2, some 16785), (3, some 16786)]) (l := [(0 : Int) = 0, (0 : Int) = 0, 0 = 0, 0 = 0, ((l2 ++ [r9.1]).length) = ((l2 ++ [r9.1]).length), a0.length = a0.length, ∀ i, i < a0.length → ∀ j, j < 2 → E52.cf (a0.getD i E52.z) j = E52.cf (a0.getD i E52.z) j, (((a0.length : Nat) : Int) : Int) = ((a0.length : Nat) : Int), ((IntKind.i64.wrap (((k3 : Nat) : Int) + 1)) : Int) = (((k3 + 1) : Nat) : Int), 0 = 0, r9.2.waits_.length = r9.2.waits_.length, (r9.2.begun_ : Int) = r9.2.begun_, 0 = 0, r9.2.done_.length = r9.2.done_.length, E31.cR (l2 ++ [r9.1]) = E31.cR (l2 ++ [r9.1]), AllPv (E31.cR (l2 ++ [r9.1])), E3.cR r9.2.waits_ = E3.cR r9.2.waits_, AllPv (E3.cR r9.2.waits_), E3.cR r9.2.done_ = E3.cR r9.2.done_, AllPv (E3.cR r9.2.done_)]) (by as_aux_lemma => kernel_rfl) ⟨rfl, rfl, rfl, rfl, rfl, rfl, fun _ _ _ _ => rfl, rfl, (wrap_nat (Int.ofNat_lt.1 (of_decide_eq_true c7)) (by omega)), rfl, rfl, rfl, rfl, rfl, rfl, (Elem.cR_pv _ _), rfl, (Elem.cR_pv _ _), rfl, (Elem.cR_pv _ _), trivial⟩
      · refine sk_leaf ?_
        obtain ⟨r12, e13, h⟩ := bd_ h
        refine call_ok (d := some 38) (fn := 26) (ax := [.row 2 1 0 l4.length]) (args := [.pv ((E3.ro l4))]) (ps := [l4.length = l4.length, rowQ (E3.cR l4) 1 0 l4.length (fun i j => E3.cf (l4.getD i E3.z) j)]) (hb' := [.row 3 1 (E3.cR r12)]) (by as_aux_lemma => kernel_rfl) (slices_Clone_int_ok _ _ e13 (al := false)) (by as_aux_lemma => kernel_rfl) ⟨(by first | rfl | exact Elem.sub_len _ (by omega) | simp | (simp <;> omega)), E3.rowQ_all l4 rfl, trivial⟩ (fun hx => by cases hx) (by simp) (by simp only [List.map_cons, List.map_nil, Elem.row_up]) (by as_aux_lemma => kernel_rfl) ?_
        refine segs [] tabOk mixed 4000 (S := .leaf 0) (by as_aux_lemma => kernel_rfl) ?_
        refine sk_leaf ?_
        obtain rfl := some_ h
        exact end_ok [(0, some 1), (1, some 3), (2, some 16992)] Try.results25 (ps := [0 = 0, l2.length = l2.length, 0 = 0, l6.length = l6.length, 0 = 0, r12.length = r12.length, (x5 : Int) = x5, (0 : Int) = 0, E31.cR l2 = E31.cR l2, AllPv (E31.cR l2), E3.cR l6 = E3.cR l6, AllPv (E3.cR l6), E3.cR r12 = E3.cR r12, AllPv (E3.cR r12)]) (by as_aux_lemma => kernel_rfl) ⟨rfl, (by first | rfl | simp), rfl, (by first | rfl | simp), rfl, (by first | rfl | simp), rfl, rfl, rfl, (Elem.cR_pv _ _), rfl, (Elem.cR_pv _ _), rfl, (Elem.cR_pv _ _), trivial⟩ (fun _ => ⟨rfl, by simp only [List.mem_cons, List.not_mem_nil, or_false, forall_eq_or_imp, forall_eq]; exact ⟨Elem.cR_bald E31_raw _, Elem.cR_bald E3_raw _, Elem.cR_bald E3_raw _⟩⟩)

set_option maxHeartbeats 40000000 in
set_option maxRecDepth 100000 in
theorem slices_Equal_api_Errno_ok (a0 : (List Int)) (a1 : (List Int)) (r : Bool) (h : slices_Equal_api_Errno a0 a1 = some r) {al : Bool} : PCalls Try.prog 33 [.pv ((E31.ro a0)), .pv ((E31.ro a1))] al (.pv (.raw (.bool r))) [] := by
  unfold slices_Equal_api_Errno at h
  refine fn_ok tabOk Try.func33 (by as_aux_lemma => kernel_rfl) (by as_aux_lemma => kernel_rfl) Try.ntmps33 (by simp) ?_
  refine segs [] tabOk mixed 4000 (S := .br ((((a0.length : Nat) : Int) : Int) != ((a1.length : Nat) : Int)) (.leaf 0) (.leaf 1)) (by as_aux_lemma => kernel_rfl) ?_
  refine br_ h ?_ ?_ <;> clear h <;> intro c1 h
  · refine sk_leaf ?_
    obtain rfl := some_ h
    exact end_ok [] Try.results33 (ps := [false = false]) (by as_aux_lemma => kernel_rfl) ⟨rfl, trivial⟩ (fun _ => ⟨rfl, by simp⟩)
  · refine sk_leaf ?_
    refine len_ro (by as_aux_lemma => kernel_rfl) 0 (s := 1) (n := a0.length) (c := fun i j => E31.cf (a0.getD i E31.z) j) (by as_aux_lemma => kernel_rfl) ?_; intro hl1_0
    refine len_ro (by as_aux_lemma => kernel_rfl) 1 (s := 1) (n := a1.length) (c := fun i j => E31.cf (a1.getD i E31.z) j) (by as_aux_lemma => kernel_rfl) ?_; intro hl1_1
    replace h : (fun (x : Nat × Nat) => slices_Equal_api_Errno_l1 a0 a1 x.1 x.2 = some r) (FUEL, 0) := h
    refine loop_ok (by as_aux_lemma => kernel_rfl) (X := Nat × Nat) (fun x => slices_Equal_api_Errno_l1 a0 a1 x.1 x.2 = some r) (fun x => x.1) (fun x => mk 26 [(0, .pv ((E31.ro a0))), (1, .pv ((E31.ro a1))), (4, .pv (.raw (.bool false))), (12, .pv (.raw (.int .i64 ((a0.length : Nat) : Int)))), (13, .pv (.raw (.int .i64 ((x.2 : Nat) : Int))))] []) (FUEL, 0) h ?_ ?_
    · exact sub_ok (ρ := []) (l := [a0.length = a0.length, ∀ i, i < a0.length → ∀ j, j < 1 → E31.cf (a0.getD i E31.z) j = E31.cf (a0.getD i E31.z) j, a1.length = a1.length, ∀ i, i < a1.length → ∀ j, j < 1 → E31.cf (a1.getD i E31.z) j = E31.cf (a1.getD i E31.z) j, false = false, (((a0.length : Nat) : Int) : Int) = ((a0.length : Nat) : Int), (0 : Int) = ((0 : Nat) : Int)]) (by as_aux_lemma => kernel_rfl) ⟨rfl, fun _ _ _ _ => rfl, rfl, fun _ _ _ _ => rfl, rfl, rfl, (by first | rfl | simp), trivial⟩
    · clear h; rintro ⟨n1, k2⟩ h p1 hp1
      obtain _ | n1 := n1
      · cases (show (none : Option (Bool)) = some r from h)
      have h : slices_Equal_api_Errno_l1 a0 a1 (n1 + 1) k2 = some r := h
      unfold slices_Equal_api_Errno_l1 at h
      refine segs [] tabOk mixed 4000 (S := .br (decide ((((k2 : Nat) : Int) : Int) < ((a0.length : Nat) : Int))) (.and (0 ≤ (((k2 : Nat) : Int) : Int) ∧ ((k2 : Nat) : Int) < ((a0.length : Nat) : Int)) (.and (0 ≤ (((k2 : Nat) : Int) : Int) ∧ ((k2 : Nat) : Int) < ((a1.length : Nat) : Int)) (.br (((a0.getD k2 0) : Int) != (a1.getD k2 0)) (.leaf 0) (.leaf 1)))) (.leaf 2)) (by as_aux_lemma => kernel_rfl) ?_
      refine br_ h ?_ ?_ <;> clear h <;> intro c3 h
      · refine sk_and ⟨Int.natCast_nonneg _, of_decide_eq_true c3⟩ ?_
        refine gd_ h ?_; clear h; intro g5 h
        refine br_ h ?_ ?_ <;> clear h <;> intro c6 h
        · refine sk_leaf ?_
          obtain rfl := some_ h
          exact end_ok [] Try.results33 (ps := [false = false]) (by as_aux_lemma => kernel_rfl) ⟨rfl, trivial⟩ (fun _ => ⟨rfl, by simp⟩)
        · refine sk_leaf ?_
          refine back_ok (p := p1) (by as_aux_lemma => kernel_rfl) (hp1 (n1, k2 + 1) _ h (Nat.lt_succ_self n1) ?_)
          exact sub_ok (ρ := []) (l := [a0.length = a0.length, ∀ i, i < a0.length → ∀ j, j < 1 → E31.cf (a0.getD i E31.z) j = E31.cf (a0.getD i E31.z) j, a1.length = a1.length, ∀ i, i < a1.length → ∀ j, j < 1 → E31.cf (a1.getD i E31.z) j = E31.cf (a1.getD i E31.z) j, false = false, (((a0.length : Nat) : Int) : Int) = ((a0.length : Nat) : Int), ((IntKind.i64.wrap (((k2 : Nat) : Int) + 1)) : Int) = (((k2 + 1) : Nat) : Int)]) (by as_aux_lemma => kernel_rfl) ⟨rfl, fun _ _ _ _ => rfl, rfl, fun _ _ _ _ => rfl, rfl, rfl, (wrap_nat (Int.ofNat_lt.1 (of_decide_eq_true c3)) (by omega)), trivial⟩
      · refine sk_leaf ?_
        obtain rfl := some_ h
        exact end_ok [] Try.results33 (ps := [true = true]) (by as_aux_lemma => kernel_rfl) ⟨rfl, trivial⟩ (fun _ => ⟨rfl, by simp⟩)

set_option maxHeartbeats 40000000 in
set_option maxRecDepth 100000 in
theorem slices_Equal_int_ok (a0 : (List Int)) (a1 : (List Int)) (r : Bool) (h : slices_Equal_int a0 a1 = some r) {al : Bool} : PCalls Try.prog 17 [.pv ((E3.ro a0)), .pv ((E3.ro a1))] al (.pv (.raw (.bool r))) [] := by
  unfold slices_Equal_int at h
  refine fn_ok tabOk Try.func17 (by as_aux_lemma => kernel_rfl) (by as_aux_lemma => kernel_rfl) Try.ntmps17 (by simp) ?_
  refine segs [] tabOk mixed 4000 (S := .br ((((a0.length : Nat) : Int) : Int) != ((a1.length : Nat) : Int)) (.leaf 0) (.leaf 1)) (by as_aux_lemma => kernel_rfl) ?_
  refine br_ h ?_ ?_ <;> clear h <;> intro c1 h
  · refine sk_leaf ?_
    obtain rfl := some_ h
    exact end_ok [] Try.results17 (ps := [false = false]) (by as_aux_lemma => kernel_rfl) ⟨rfl, trivial⟩ (fun _ => ⟨rfl, by simp⟩)
  · refine sk_leaf ?_
    refine len_ro (by as_aux_lemma => kernel_rfl) 0 (s := 1) (n := a0.length) (c := fun i j => E3.cf (a0.getD i E3.z) j) (by as_aux_lemma => kernel_rfl) ?_; intro hl1_0
    refine len_ro (by as_aux_lemma => kernel_rfl) 1 (s := 1) (n := a1.length) (c := fun i j => E3.cf (a1.getD i E3.z) j) (by as_aux_lemma => kernel_rfl) ?_; intro hl1_1
    replace h : (fun (x : Nat × Nat) => slices_Equal_int_l1 a0 a1 x.1 x.2 = some r) (FUEL, 0) := h
    refine loop_ok (by as_aux_lemma => kernel_rfl) (X := Nat × Nat) (fun x => slices_Equal_int_l1 a0 a1 x.1 x.2 = some r) (fun x => x.1) (fun x => mk 26 [(0, .pv ((E3.ro a0))), (1, .pv ((E3.ro a1))), (4, .pv (.raw (.bool false))), (12, .pv (.raw (.int .i64 ((a0.length : Nat) : Int)))), (13, .pv (.raw (.int .i64 ((x.2 : Nat) : Int))))] []) (FUEL, 0) h ?_ ?_
    · exact sub_ok (ρ := []) (l := [a0.length = a0.length, ∀ i, i < a0.length → ∀ j, j < 1 → E3.cf (a0.getD i E3.z) j = E3.cf (a0.getD i E3.z) j, a1.length = a1.length, ∀ i, i < a1.length → ∀ j, j < 1 → E3.cf (a1.getD i E3.z) j = E3.cf (a1.getD i E3.z) j, false = false, (((a0.length : Nat) : Int) : Int) = ((a0.length : Nat) : Int), (0 : Int) = ((0 : Nat) : Int)]) (by as_aux_lemma => kernel_rfl) ⟨rfl, fun _ _ _ _ => rfl, rfl, fun _ _ _ _ => rfl, rfl, rfl, (by first | rfl | simp), trivial⟩
    · clear h; rintro ⟨n1, k2⟩ h p1 hp1
      obtain _ | n1 := n1
      · cases (show (none : Option (Bool)) = some r from h)
      have h : slices_Equal_int_l1 a0 a1 (n1 + 1) k2 = some r := h
      unfold slices_Equal_int_l1 at h
      refine segs [] tabOk mixed 4000 (S := .br (decide ((((k2 : Nat) : Int) : Int) < ((a0.length : Nat) : Int))) (.and (0 ≤ (((k2 : Nat) : Int) : Int) ∧ ((k2 : Nat) : Int) < ((a0.length : Nat) : Int)) (.and (0 ≤ (((k2 : Nat) : Int) : Int) ∧ ((k2 : Nat) : Int) < ((a1.length : Nat) : Int)) (.br (((a0.getD k2 0) : Int) != (a1.getD k2 0)) (.leaf 0) (.leaf 1)))) (.leaf 2)) (by as_aux_lemma => kernel_rfl) ?_
      refine br_ h ?_ ?_ <;> clear h <;> intro c3 h
      · refine sk_and ⟨Int.natCast_nonneg _, of_decide_eq_true c3⟩ ?_
        refine gd_ h ?_; clear h; intro g5 h
        refine br_ h ?_ ?_ <;> clear h <;> intro c6 h
        · refine sk_leaf ?_
          obtain rfl := some_ h
          exact end_ok [] Try.results17 (ps := [false = false]) (by as_aux_lemma => kernel_rfl) ⟨rfl, trivial⟩ (fun _ => ⟨rfl, by simp⟩)
        · refine sk_leaf ?_
          refine back_ok (p := p1) (by as_aux_lemma => kernel_rfl) (hp1 (n1, k2 + 1) _ h (Nat.lt_succ_self n1) ?_)
          exact sub_ok (ρ := []) (l := [a0.length = a0.length, ∀ i, i < a0.length → ∀ j, j < 1 → E3.cf (a0.getD i E3.z) j = E3.cf (a0.getD i E3.z) j, a1.length = a1.length, ∀ i, i < a1.length → ∀ j, j < 1 → E3.cf (a1.getD i E3.z) j = E3.cf (a1.getD i E3.z) j, false = false, (((a0.length : Nat) : Int) : Int) = ((a0.length : Nat) : Int), ((IntKind.i64.wrap (((k2 : Nat) : Int) + 1)) : Int) = (((k2 + 1) : Nat) : Int)]) (by as_aux_lemma => kernel_rfl) ⟨rfl, fun _ _ _ _ => rfl, rfl, fun _ _ _ _ => rfl, rfl, rfl, (wrap_nat (Int.ofNat_lt.1 (of_decide_eq_true c3)) (by omega)), trivial⟩
      · refine sk_leaf ?_
        obtain rfl := some_ h
        exact end_ok [] Try.results17 (ps := [true = true]) (by as_aux_lemma => kernel_rfl) ⟨rfl, trivial⟩ (fun _ => ⟨rfl, by simp⟩)

set_option maxHeartbeats 40000000 in
set_option maxRecDepth 100000 in
theorem keep_alive12_ok (r : Bool) (h : keep_alive12 = some r) {al : Bool} : PCalls Try.prog 24 [] al (.pv (.raw (.bool r))) [] := by
  unfold keep_alive12 at h
  refine fn_ok tabOk Try.func24 (by as_aux_lemma => kernel_rfl) (by as_aux_lemma => kernel_rfl) Try.ntmps24 (by simp) ?_
  refine segs [] tabOk mixed 4000 (S := .leaf 0) (by as_aux_lemma => kernel_rfl) ?_
  refine sk_leaf ?_
  refine bs_ok (d := 14) (e := 52) (s := 2) (n := 7) (cs := [.pv (.raw (.int .i64 1)), .pv (.raw (.int .i64 4)), .pv (.raw (.int .i64 1)), .pv (.raw (.int .i64 4)), .pv (.raw (.int .i64 2)), .pv (.raw (.int .i64 0)), .pv (.raw (.int .i64 1)), .pv (.raw (.int .i64 4)), .pv (.raw (.int .i64 1)), .pv (.raw (.int .i64 6)), .pv (.raw (.int .i64 3)), .pv (.raw (.int .i64 0)), .pv (.raw (.int .i64 2)), .pv (.raw (.int .i64 0))]) (cs' := E52.cR [(⟨1, 4⟩ : Api_WorkOp), (⟨1, 4⟩ : Api_WorkOp), (⟨2, 0⟩ : Api_WorkOp), (⟨1, 4⟩ : Api_WorkOp), (⟨1, 6⟩ : Api_WorkOp), (⟨3, 0⟩ : Api_WorkOp), (⟨2, 0⟩ : Api_WorkOp)]) (by as_aux_lemma => kernel_rfl) rfl (by as_aux_lemma => kernel_rfl) ?_
  refine segs [] tabOk mixed 4000 (S := .leaf 0) (by as_aux_lemma => kernel_rfl) ?_
  refine sk_leaf ?_
  obtain ⟨r1, e2, h⟩ := bd_ h
  refine call_ok (d := some 15) (fn := 25) (ax := [.row 16608 2 0 7]) (args := [.pv ((E52.ro [(⟨1, 4⟩ : Api_WorkOp), (⟨1, 4⟩ : Api_WorkOp), (⟨2, 0⟩ : Api_WorkOp), (⟨1, 4⟩ : Api_WorkOp), (⟨1, 6⟩ : Api_WorkOp), (⟨3, 0⟩ : Api_WorkOp), (⟨2, 0⟩ : Api_WorkOp)]))]) (ps := [7 = [(⟨1, 4⟩ : Api_WorkOp), (⟨1, 4⟩ : Api_WorkOp), (⟨2, 0⟩ : Api_WorkOp), (⟨1, 4⟩ : Api_WorkOp), (⟨1, 6⟩ : Api_WorkOp), (⟨3, 0⟩ : Api_WorkOp), (⟨2, 0⟩ : Api_WorkOp)].length, rowQ (E52.cR [(⟨1, 4⟩ : Api_WorkOp), (⟨1, 4⟩ : Api_WorkOp), (⟨2, 0⟩ : Api_WorkOp), (⟨1, 4⟩ : Api_WorkOp), (⟨1, 6⟩ : Api_WorkOp), (⟨3, 0⟩ : Api_WorkOp), (⟨2, 0⟩ : Api_WorkOp)]) 2 0 7 (fun i j => E52.cf ([(⟨1, 4⟩ : Api_WorkOp), (⟨1, 4⟩ : Api_WorkOp), (⟨2, 0⟩ : Api_WorkOp), (⟨1, 4⟩ : Api_WorkOp), (⟨1, 6⟩ : Api_WorkOp), (⟨3, 0⟩ : Api_WorkOp), (⟨2, 0⟩ : Api_WorkOp)].getD i E52.z) j)]) (hb' := [.row 31 1 (E31.cR r1.1), .row 3 1 (E3.cR r1.2.1), .row 3 1 (E3.cR r1.2.2.1)]) (by as_aux_lemma => kernel_rfl) (work_Play_ok _ _ e2 (al := false)) (by as_aux_lemma => kernel_rfl) ⟨(by first | rfl | exact Elem.sub_len _ (by omega) | simp | (simp <;> omega)), E52.rowQ_all [(⟨1, 4⟩ : Api_WorkOp), (⟨1, 4⟩ : Api_WorkOp), (⟨2, 0⟩ : Api_WorkOp), (⟨1, 4⟩ : Api_WorkOp), (⟨1, 6⟩ : Api_WorkOp), (⟨3, 0⟩ : Api_WorkOp), (⟨2, 0⟩ : Api_WorkOp)] rfl, trivial⟩ (fun hx => by cases hx) (by simp) (by simp only [List.map_cons, List.map_nil, Elem.row_up]) (by as_aux_lemma => kernel_rfl) ?_
  refine segs [] tabOk mixed 4000 (S := .leaf 0) (by as_aux_lemma => kernel_rfl) ?_
  refine sk_leaf ?_
  refine bsG_ok (d := 25) (e := 31) (s := 1) (n := 7) (g := ((r1.2.2.2.2 : Int) == 0)) (ws := []) (cs := [.pv (.raw (.int .i64 0)), .pv (.raw (.int .i64 6)), .pv (.raw (.int .i64 0)), .pv (.raw (.int .i64 0)), .pv (.raw (.int .i64 0)), .pv (.raw (.int .i64 0)), .pv (.raw (.int .i64 0))]) E31 [0, 6, 0, 0, 0, 0, 0] (by as_aux_lemma => kernel_rfl) (fun _ => trivial) rfl rfl rfl (by as_aux_lemma => kernel_rfl) ?_
  refine segs [] tabOk mixed 4000 (S := .leaf 0) (by as_aux_lemma => kernel_rfl) ?_
  refine sk_leaf ?_
  obtain ⟨r3, e4, h⟩ := bd_ h
  refine callG_ok (d := some 26) (fn := 33) (ax := [.row 16624 1 0 r1.1.length, .pv ((E31.ro [0, 6, 0, 0, 0, 0, 0]))]) (args := [.pv ((E31.ro r1.1)), .pv ((E31.ro [0, 6, 0, 0, 0, 0, 0]))]) (g := ((r1.2.2.2.2 : Int) == 0)) (ws := [((r1.2.2.2.2 : Int) == 0) = true, ((r1.2.2.2.2 : Int) == 0) = true]) (ps := [r1.1.length = r1.1.length, rowQ (E31.cR r1.1) 1 0 r1.1.length (fun i j => E31.cf (r1.1.getD i E31.z) j), [0, 6, 0, 0, 0, 0, 0].length = [0, 6, 0, 0, 0, 0, 0].length, ∀ i, i < [0, 6, 0, 0, 0, 0, 0].length → ∀ j, j < 1 → E31.cf ([0, 6, 0, 0, 0, 0, 0].getD i E31.z) j = E31.cf ([0, 6, 0, 0, 0, 0, 0].getD i E31.z) j]) (by as_aux_lemma => kernel_rfl) (fun hg => ⟨((by decide : ∀ y0 : Bool, ((y0 = true) → (y0 = true))) ((r1.2.2.2.2 : Int) == 0)) hg, ((by decide : ∀ y0 : Bool, ((y0 = true) → (y0 = true))) ((r1.2.2.2.2 : Int) == 0)) hg, trivial⟩) (fun hg => slices_Equal_api_Errno_ok _ _ _ (by rw [hg] at e4; exact e4) (al := false)) (by as_aux_lemma => kernel_rfl) (fun hg => ⟨(by first | rfl | exact Elem.sub_len _ (by omega) | simp | (simp <;> omega)), E31.rowQ_all r1.1 rfl, rfl, fun _ _ _ _ => rfl, trivial⟩) (fun hx => by cases hx) ?_
  refine segs [] tabOk mixed 4000 (S := .and (((r1.2.2.2.2 : Int) == 0) = true → ((r1.2.2.2.2 : Int) == 0) = true) (.leaf 0)) (by as_aux_lemma => kernel_rfl) ?_
  refine sk_and ((by decide : ∀ y0 : Bool, ((y0 = true) → (y0 = true))) ((r1.2.2.2.2 : Int) == 0)) ?_
  refine sk_leaf ?_
  refine bsG_ok (d := 30) (e := 3) (s := 1) (n := 1) (g := (((r1.2.2.2.2 : Int) == 0) && r3)) (ws := []) (cs := [.pv (.raw (.int .i64 4))]) E3 [4] (by as_aux_lemma => kernel_rfl) (fun _ => trivial) rfl rfl rfl (by as_aux_lemma => kernel_rfl) ?_
  refine segs [] tabOk mixed 4000 (S := .leaf 0) (by as_aux_lemma => kernel_rfl) ?_
  refine sk_leaf ?_
  obtain ⟨r6, e7, h⟩ := bd_ h
  refine callG_ok (d := some 31) (fn := 17) (ax := [.row 16625 1 0 r1.2.1.length, .pv ((E3.ro [4]))]) (args := [.pv ((E3.ro r1.2.1)), .pv ((E3.ro [4]))]) (g := (((r1.2.2.2.2 : Int) == 0) && r3)) (ws := [(((r1.2.2.2.2 : Int) == 0) && r3) = true, (((r1.2.2.2.2 : Int) == 0) && r3) = true]) (ps := [r1.2.1.length = r1.2.1.length, rowQ (E3.cR r1.2.1) 1 0 r1.2.1.length (fun i j => E3.cf (r1.2.1.getD i E3.z) j), [4].length = [4].length, ∀ i, i < [4].length → ∀ j, j < 1 → E3.cf ([4].getD i E3.z) j = E3.cf ([4].getD i E3.z) j]) (by as_aux_lemma => kernel_rfl) (fun hg => ⟨((by decide : ∀ y0 : Bool, ((y0 = true) → (y0 = true))) (((r1.2.2.2.2 : Int) == 0) && r3)) hg, ((by decide : ∀ y0 : Bool, ((y0 = true) → (y0 = true))) (((r1.2.2.2.2 : Int) == 0) && r3)) hg, trivial⟩) (fun hg => slices_Equal_int_ok _ _ _ (by rw [hg] at e7; exact e7) (al := false)) (by as_aux_lemma => kernel_rfl) (fun hg => ⟨(by first | rfl | exact Elem.sub_len _ (by omega) | simp | (simp <;> omega)), E3.rowQ_all r1.2.1 rfl, rfl, fun _ _ _ _ => rfl, trivial⟩) (fun hx => by cases hx) ?_
  refine segs [] tabOk mixed 4000 (S := .and ((((r1.2.2.2.2 : Int) == 0) && r3) = true → (((r1.2.2.2.2 : Int) == 0) && r3) = true) (.leaf 0)) (by as_aux_lemma => kernel_rfl) ?_
  refine sk_and ((by decide : ∀ y0 : Bool, ((y0 = true) → (y0 = true))) (((r1.2.2.2.2 : Int) == 0) && r3)) ?_
  refine sk_leaf ?_
  refine bsG_ok (d := 35) (e := 3) (s := 1) (n := 1) (g := ((((r1.2.2.2.2 : Int) == 0) && r3) && r6)) (ws := []) (cs := [.pv (.raw (.int .i64 6))]) E3 [6] (by as_aux_lemma => kernel_rfl) (fun _ => trivial) rfl rfl rfl (by as_aux_lemma => kernel_rfl) ?_
  refine segs [] tabOk mixed 4000 (S := .leaf 0) (by as_aux_lemma => kernel_rfl) ?_
  refine sk_leaf ?_
  obtain ⟨r9, e10, h⟩ := bd_ h
  refine callG_ok (d := some 36) (fn := 17) (ax := [.row 16626 1 0 r1.2.2.1.length, .pv ((E3.ro [6]))]) (args := [.pv ((E3.ro r1.2.2.1)), .pv ((E3.ro [6]))]) (g := ((((r1.2.2.2.2 : Int) == 0) && r3) && r6)) (ws := [((((r1.2.2.2.2 : Int) == 0) && r3) && r6) = true, ((((r1.2.2.2.2 : Int) == 0) && r3) && r6) = true]) (ps := [r1.2.2.1.length = r1.2.2.1.length, rowQ (E3.cR r1.2.2.1) 1 0 r1.2.2.1.length (fun i j => E3.cf (r1.2.2.1.getD i E3.z) j), [6].length = [6].length, ∀ i, i < [6].length → ∀ j, j < 1 → E3.cf ([6].getD i E3.z) j = E3.cf ([6].getD i E3.z) j]) (by as_aux_lemma => kernel_rfl) (fun hg => ⟨((by decide : ∀ y0 : Bool, ((y0 = true) → (y0 = true))) ((((r1.2.2.2.2 : Int) == 0) && r3) && r6)) hg, ((by decide : ∀ y0 : Bool, ((y0 = true) → (y0 = true))) ((((r1.2.2.2.2 : Int) == 0) && r3) && r6)) hg, trivial⟩) (fun hg => slices_Equal_int_ok _ _ _ (by rw [hg] at e10; exact e10) (al := false)) (by as_aux_lemma => kernel_rfl) (fun hg => ⟨(by first | rfl | exact Elem.sub_len _ (by omega) | simp | (simp <;> omega)), E3.rowQ_all r1.2.2.1 rfl, rfl, fun _ _ _ _ => rfl, trivial⟩) (fun hx => by cases hx) ?_
  refine segs [] tabOk mixed 4000 (S := .and (((((r1.2.2.2.2 : Int) == 0) && r3) && r6) = true → ((((r1.2.2.2.2 : Int) == 0) && r3) && r6) = true) (.and (((((((r1.2.2.2.2 : Int) == 0) && r3) && r6) && r9) = true → ((((((r1.2.2.2.2 : Int) == 0) && r3) && r6) && r9) = true))) (.and ((((((r1.2.2.2.2 : Int) == 0) && r3) && r6) && r9) = true → (((((r1.2.2.2.2 : Int) == 0) && r3) && r6) && r9) = true) (.leaf 0)))) (by as_aux_lemma => kernel_rfl) ?_
  refine sk_and ((by decide : ∀ y0 : Bool, ((y0 = true) → (y0 = true))) ((((r1.2.2.2.2 : Int) == 0) && r3) && r6)) ?_
  refine sk_and ((by decide : ∀ y0 : Bool, ((y0 = true) → (y0 = true))) (((((r1.2.2.2.2 : Int) == 0) && r3) && r6) && r9)) ?_
  refine sk_and ((by decide : ∀ y0 : Bool, ((y0 = true) → (y0 = true))) (((((r1.2.2.2.2 : Int) == 0) && r3) && r6) && r9)) ?_
  refine sk_leaf ?_
  obtain rfl := some_ h
  exact end_ok [] Try.results24 (ps := [((((((r1.2.2.2.2 : Int) == 0) && r3) && r6) && r9) && ((r1.2.2.2.1 : Int) == 4)) = ((((((r1.2.2.2.2 : Int) == 0) && r3) && r6) && r9) && ((r1.2.2.2.1 : Int) == 4))]) (by as_aux_lemma => kernel_rfl) ⟨rfl, trivial⟩ (fun _ => ⟨rfl, by simp⟩)

set_option maxHeartbeats 40000000 in
set_option maxRecDepth 100000 in
theorem keep_WorkOnce_ok (a0 : (List Api_WorkOp)) (r : Bool) (h : keep_WorkOnce a0 = some r) {al : Bool} : PCalls Try.prog 10 [.pv ((E52.ro a0))] al (.pv (.raw (.bool r))) [] := by
  unfold keep_WorkOnce at h
  refine fn_ok tabOk Try.func10 (by as_aux_lemma => kernel_rfl) (by as_aux_lemma => kernel_rfl) Try.ntmps10 (by simp) ?_
  refine segs [] tabOk mixed 4000 (S := .leaf 0) (by as_aux_lemma => kernel_rfl) ?_
  refine sk_leaf ?_
  obtain ⟨r1, e2, h⟩ := bd_ h
  refine call_ok (d := some 13) (fn := 24) (ax := []) (args := []) (ps := []) (hb' := []) (by as_aux_lemma => kernel_rfl) (keep_alive12_ok  _ e2 (al := true)) (by as_aux_lemma => kernel_rfl) trivial (fun _ => (by as_aux_lemma => kernel_rfl)) (by simp) rfl (by as_aux_lemma => kernel_rfl) ?_
  refine segs [] tabOk mixed 4000 (S := .br (!r1) (.leaf 0) (.leaf 1)) (by as_aux_lemma => kernel_rfl) ?_
  refine br_ h ?_ ?_ <;> clear h <;> intro c3 h
  · refine sk_leaf ?_
    obtain rfl := some_ h
    exact end_ok [] Try.results10 (ps := [false = false]) (by as_aux_lemma => kernel_rfl) ⟨rfl, trivial⟩ (fun _ => ⟨rfl, by simp⟩)
  · refine sk_leaf ?_
    obtain ⟨r4, e5, h⟩ := bd_ h
    refine call_ok (d := some 17) (fn := 25) (ax := [.pv ((E52.ro a0))]) (args := [.pv ((E52.ro a0))]) (ps := [a0.length = a0.length, ∀ i, i < a0.length → ∀ j, j < 2 → E52.cf (a0.getD i E52.z) j = E52.cf (a0.getD i E52.z) j]) (hb' := [.row 31 1 (E31.cR r4.1), .row 3 1 (E3.cR r4.2.1), .row 3 1 (E3.cR r4.2.2.1)]) (by as_aux_lemma => kernel_rfl) (work_Play_ok _ _ e5 (al := true)) (by as_aux_lemma => kernel_rfl) ⟨rfl, fun _ _ _ _ => rfl, trivial⟩ (fun _ => (by as_aux_lemma => kernel_rfl)) (by simp) (by simp only [List.map_cons, List.map_nil, Elem.row_up]) (by as_aux_lemma => kernel_rfl) ?_
    refine segs [] tabOk mixed 4000 (S := .and (((!((r4.2.2.2.2 : Int) != 0)) = true → ((!((r4.2.2.2.2 : Int) != 0)) = true))) (.and (((!((r4.2.2.2.2 : Int) != 0)) = true → ((!((r4.2.2.2.2 : Int) != 0)) = true))) (.and (((!((r4.2.2.2.2 : Int) != 0)) = true → ((!((r4.2.2.2.2 : Int) != 0)) = true))) (.and (((!((r4.2.2.2.2 : Int) != 0)) = true → ((!((r4.2.2.2.2 : Int) != 0)) = true))) (.and (((r4.2.2.2.2 : Int) != 0) = false → (!((r4.2.2.2.2 : Int) != 0)) = true) (.br (((r4.2.2.2.2 : Int) != 0) || ((((r4.1.length : Nat) : Int) : Int) != ((a0.length : Nat) : Int))) (.and ((((r4.2.2.2.2 : Int) != 0) = true → (((r4.2.2.2.2 : Int) != 0) = true))) (.and ((((r4.2.2.2.2 : Int) != 0) = true → (((r4.2.2.2.2 : Int) != 0) = true))) (.and (((r4.2.2.2.2 : Int) != 0) = true → ((r4.2.2.2.2 : Int) != 0) = true) (.leaf 0)))) (.leaf 1))))))) (by as_aux_lemma => kernel_rfl) ?_
    refine sk_and ((by decide : ∀ y0 : Bool, ((y0 = true) → (y0 = true))) (!((r4.2.2.2.2 : Int) != 0))) ?_
    refine sk_and ((by decide : ∀ y0 : Bool, ((y0 = true) → (y0 = true))) (!((r4.2.2.2.2 : Int) != 0))) ?_
    refine sk_and ((by decide : ∀ y0 : Bool, ((y0 = true) → (y0 = true))) (!((r4.2.2.2.2 : Int) != 0))) ?_
    refine sk_and ((by decide : ∀ y0 : Bool, ((y0 = true) → (y0 = true))) (!((r4.2.2.2.2 : Int) != 0))) ?_
    refine sk_and ((by decide : ∀ y0 : Bool, ((y0 = false) → ((!y0) = true))) ((r4.2.2.2.2 : Int) != 0)) ?_
    refine br_ h ?_ ?_ <;> clear h <;> intro c11 h
    · refine sk_and ((by decide : ∀ y0 : Bool, ((y0 = true) → (y0 = true))) ((r4.2.2.2.2 : Int) != 0)) ?_
      refine sk_and ((by decide : ∀ y0 : Bool, ((y0 = true) → (y0 = true))) ((r4.2.2.2.2 : Int) != 0)) ?_
      refine sk_and ((by decide : ∀ y0 : Bool, ((y0 = true) → (y0 = true))) ((r4.2.2.2.2 : Int) != 0)) ?_
      refine sk_leaf ?_
      obtain rfl := some_ h
      exact end_ok [] Try.results10 (ps := [(((r4.2.2.2.2 : Int) != 0) && ((((r4.1.length : Nat) : Int) : Int) == 0)) = (((r4.2.2.2.2 : Int) != 0) && ((((r4.1.length : Nat) : Int) : Int) == 0))]) (by as_aux_lemma => kernel_rfl) ⟨rfl, trivial⟩ (fun _ => ⟨rfl, by simp⟩)
    · refine sk_leaf ?_
      refine len_ro (by as_aux_lemma => kernel_rfl) 39 (s := 2) (n := a0.length) (c := fun i j => E52.cf (a0.getD i E52.z) j) (by as_aux_lemma => kernel_rfl) ?_; intro hl1_0
      refine len_row (by as_aux_lemma => kernel_rfl) 16656 (e := 31) (s := 1) (n := r4.1.length) (cs := E31.cR r4.1) (by as_aux_lemma => kernel_rfl) (Elem.cR_length _ _) ?_; intro hl1_1
      refine len_row (by as_aux_lemma => kernel_rfl) 16657 (e := 3) (s := 1) (n := r4.2.1.length) (cs := E3.cR r4.2.1) (by as_aux_lemma => kernel_rfl) (Elem.cR_length _ _) ?_; intro hl1_2
      refine len_row (by as_aux_lemma => kernel_rfl) 16658 (e := 3) (s := 1) (n := r4.2.2.1.length) (cs := E3.cR r4.2.2.1) (by as_aux_lemma => kernel_rfl) (Elem.cR_length _ _) ?_; intro hl1_3
      replace h : (fun (x : Nat × List Int × Bool × Nat) => keep_WorkOnce_l1 a0 r4 x.1 x.2.1 x.2.2.1 x.2.2.2 = some r) (FUEL, ([] : List Int), false, 0) := h
      refine loop_ok (by as_aux_lemma => kernel_rfl) (X := Nat × List Int × Bool × Nat) (fun x => keep_WorkOnce_l1 a0 r4 x.1 x.2.1 x.2.2.1 x.2.2.2 = some r) (fun x => x.1) (fun x => mk 94 [(2, .pv (.raw (.bool false))), (3, .row 0 1 0 r4.1.length), (4, .row 1 1 0 r4.2.1.length), (5, .row 2 1 0 r4.2.2.1.length), (6, .pv (.raw (.int .i64 r4.2.2.2.1))), (8, .row 3 1 0 x.2.1.length), (9, .pv (.raw (.bool x.2.2.1))), (39, .pv ((E52.ro a0))), (40, .pv (.raw (.int .i64 ((a0.length : Nat) : Int)))), (41, .pv (.raw (.int .i64 ((x.2.2.2 : Nat) : Int))))] [(0, .row 31 1 (E31.cR r4.1)), (1, .row 3 1 (E3.cR r4.2.1)), (2, .row 3 1 (E3.cR r4.2.2.1)), (3, .row 3 1 (E3.cR x.2.1))]) (FUEL, ([] : List Int), false, 0) h ?_ ?_
      · exact sub_ok (ρ := [(0, some 16656), (1, some 16657), (2, some 16658), (3, none)]) (l := [false = false, 0 = 0, r4.1.length = r4.1.length, 0 = 0, r4.2.1.length = r4.2.1.length, 0 = 0, r4.2.2.1.length = r4.2.2.1.length, (r4.2.2.2.1 : Int) = r4.2.2.2.1, 0 = 0, (([] : List Int).length) = 0, false = false, a0.length = a0.length, ∀ i, i < a0.length → ∀ j, j < 2 → E52.cf (a0.getD i E52.z) j = E52.cf (a0.getD i E52.z) j, (((a0.length : Nat) : Int) : Int) = ((a0.length : Nat) : Int), (0 : Int) = ((0 : Nat) : Int), E31.cR r4.1 = E31.cR r4.1, AllPv (E31.cR r4.1), E3.cR r4.2.1 = E3.cR r4.2.1, AllPv (E3.cR r4.2.1), E3.cR r4.2.2.1 = E3.cR r4.2.2.1, AllPv (E3.cR r4.2.2.1), E3.cR ([] : List Int) = []]) (by as_aux_lemma => kernel_rfl) ⟨rfl, rfl, rfl, rfl, rfl, rfl, rfl, rfl, rfl, (by first | rfl | simp), rfl, rfl, fun _ _ _ _ => rfl, rfl, (by first | rfl | simp), rfl, (Elem.cR_pv _ _), rfl, (Elem.cR_pv _ _), rfl, (Elem.cR_pv _ _), rfl, trivial⟩
      · clear h; rintro ⟨n1, l15, b16, k17⟩ h p1 hp1
        obtain _ | n1 := n1
        · cases (show (none : Option (Bool)) = some r from h)
        have h : keep_WorkOnce_l1 a0 r4 (n1 + 1) l15 b16 k17 = some r := h
        unfold keep_WorkOnce_l1 at h
        refine segs [] tabOk mixed 4000 (S := .br (decide ((((k17 : Nat) : Int) : Int) < ((a0.length : Nat) : Int))) (.and (0 ≤ (((k17 : Nat) : Int) : Int) ∧ ((k17 : Nat) : Int) < ((a0.length : Nat) : Int)) (.and (0 ≤ (((k17 : Nat) : Int) : Int) ∧ ((k17 : Nat) : Int) < ((r4.1.length : Nat) : Int)) (.leaf 0))) (.leaf 1)) (by as_aux_lemma => kernel_rfl) ?_
        refine br_ h ?_ ?_ <;> clear h <;> intro c18 h
        · refine sk_and ⟨Int.natCast_nonneg _, of_decide_eq_true c18⟩ ?_
          refine gd_ h ?_; clear h; intro g20 h
          refine sk_leaf ?_
          refine ld_ok (d := 49) (id := 0) (i := (0 + k17)) (j := 0) (e := 31) (n := 1) E31 (xs := r4.1) (by as_aux_lemma => kernel_rfl) (by as_aux_lemma => kernel_rfl) (by first | omega | (simp at * <;> omega) | (simp_all <;> omega)) (by exact Nat.le_of_ble_eq_true rfl) ?_
          refine segs [] tabOk mixed 4000 (S := .br (((r4.1.getD (0 + k17) 0) : Int) != 0) (.leaf 0) (.and (((!b16) = true → ((!b16) = true))) (.and (((!b16) = true → ((!b16) = true))) (.and (b16 = false → (!b16) = true) (.br (((a0.getD k17 (⟨0, 0⟩ : Api_WorkOp)).Kind : Int) == 1) (.leaf 1) (.leaf 2)))))) (by as_aux_lemma => kernel_rfl) ?_
          refine br_ h ?_ ?_ <;> clear h <;> intro c21 h
          · refine sk_leaf ?_
            refine back_ok (p := p1) (by as_aux_lemma => kernel_rfl) (hp1 (n1, l15, b16, k17 + 1) _ h (Nat.lt_succ_self n1) ?_)
            exact sub_ok (ρ := [(0, some 0), (1, some 1), (2, some 2), (3, some 3)]) (l := [false = false, 0 = 0, r4.1.length = r4.1.length, 0 = 0, r4.2.1.length = r4.2.1.length, 0 = 0, r4.2.2.1.length = r4.2.2.1.length, (r4.2.2.2.1 : Int) = r4.2.2.2.1, 0 = 0, l15.length = l15.length, b16 = b16, a0.length = a0.length, ∀ i, i < a0.length → ∀ j, j < 2 → E52.cf (a0.getD i E52.z) j = E52.cf (a0.getD i E52.z) j, (((a0.length : Nat) : Int) : Int) = ((a0.length : Nat) : Int), ((IntKind.i64.wrap (((k17 : Nat) : Int) + 1)) : Int) = (((k17 + 1) : Nat) : Int), E31.cR r4.1 = E31.cR r4.1, AllPv (E31.cR r4.1), E3.cR r4.2.1 = E3.cR r4.2.1, AllPv (E3.cR r4.2.1), E3.cR r4.2.2.1 = E3.cR r4.2.2.1, AllPv (E3.cR r4.2.2.1), E3.cR l15 = E3.cR l15, AllPv (E3.cR l15)]) (by as_aux_lemma => kernel_rfl) ⟨rfl, rfl, rfl, rfl, rfl, rfl, rfl, rfl, rfl, rfl, rfl, rfl, fun _ _ _ _ => rfl, rfl, (wrap_nat (Int.ofNat_lt.1 (of_decide_eq_true c18)) (by omega)), rfl, (Elem.cR_pv _ _), rfl, (Elem.cR_pv _ _), rfl, (Elem.cR_pv _ _), rfl, (Elem.cR_pv _ _), trivial⟩
          · refine sk_and ((by decide : ∀ y0 : Bool, ((y0 = true) → (y0 = true))) (!b16)) ?_
            refine sk_and ((by decide : ∀ y0 : Bool, ((y0 = true) → (y0 = true))) (!b16)) ?_
            refine sk_and ((by decide : ∀ y0 : Bool, ((y0 = false) → ((!y0) = true))) b16) ?_
            refine br_ h ?_ ?_ <;> clear h <;> intro c25 h
            · refine sk_leaf ?_
              refine bs_ok (d := 63) (e := 3) (s := 1) (n := 1) (cs := [.pv (.raw (.int .i64 ((a0.getD k17 (⟨0, 0⟩ : Api_WorkOp)).Item)))]) (cs' := E3.cR [(a0.getD k17 (⟨0, 0⟩ : Api_WorkOp)).Item]) (by as_aux_lemma => kernel_rfl) rfl (by as_aux_lemma => kernel_rfl) ?_
              refine segs [] tabOk mixed 4000 (S := .leaf 0) (by as_aux_lemma => kernel_rfl) ?_
              refine sk_leaf ?_
              obtain ⟨g26, h⟩ := if_ h
              refine app_ok (d := 64) (e := 3) (s := 1) (b := 8) (x := .row 3 1 0 l15.length) (y := .row 17392 1 0 1) E3 (xs := l15) (ys := [(a0.getD k17 (⟨0, 0⟩ : Api_WorkOp)).Item]) (by as_aux_lemma => kernel_rfl) rfl (.row 3 l15 l15.length rfl (by as_aux_lemma => kernel_rfl)) (.all 17392 3 [(a0.getD k17 (⟨0, 0⟩ : Api_WorkOp)).Item] 1 rfl (by as_aux_lemma => kernel_rfl)) g26 (by as_aux_lemma => kernel_rfl) ?_
              refine segs [] tabOk mixed 4000 (S := .leaf 0) (by as_aux_lemma => kernel_rfl) ?_
              refine sk_leaf ?_
              refine back_ok (p := p1) (by as_aux_lemma => kernel_rfl) (hp1 (n1, (l15 ++ [(a0.getD k17 (⟨0, 0⟩ : Api_WorkOp)).Item]), (b16 || (((a0.getD k17 (⟨0, 0⟩ : Api_WorkOp)).Kind : Int) == 4)), k17 + 1) _ h (Nat.lt_succ_self n1) ?_)
              exact sub_ok (ρ := [(0, some 0), (1, some 1), (2, some 2), (3, some 17408)]) (l := [false = false, 0 = 0, r4.1.length = r4.1.length, 0 = 0, r4.2.1.length = r4.2.1.length, 0 = 0, r4.2.2.1.length = r4.2.2.1.length, (r4.2.2.2.1 : Int) = r4.2.2.2.1, 0 = 0, ((l15 ++ [(a0.getD k17 (⟨0, 0⟩ : Api_WorkOp)).Item]).length) = ((l15 ++ [(a0.getD k17 (⟨0, 0⟩ : Api_WorkOp)).Item]).length), (b16 || (((a0.getD k17 (⟨0, 0⟩ : Api_WorkOp)).Kind : Int) == 4)) = (b16 || (((a0.getD k17 (⟨0, 0⟩ : Api_WorkOp)).Kind : Int) == 4)), a0.length = a0.length, ∀ i, i < a0.length → ∀ j, j < 2 → E52.cf (a0.getD i E52.z) j = E52.cf (a0.getD i E52.z) j, (((a0.length : Nat) : Int) : Int) = ((a0.length : Nat) : Int), ((IntKind.i64.wrap (((k17 : Nat) : Int) + 1)) : Int) = (((k17 + 1) : Nat) : Int), E31.cR r4.1 = E31.cR r4.1, AllPv (E31.cR r4.1), E3.cR r4.2.1 = E3.cR r4.2.1, AllPv (E3.cR r4.2.1), E3.cR r4.2.2.1 = E3.cR r4.2.2.1, AllPv (E3.cR r4.2.2.1), E3.cR (l15 ++ [(a0.getD k17 (⟨0, 0⟩ : Api_WorkOp)).Item]) = E3.cR (l15 ++ [(a0.getD k17 (⟨0, 0⟩ : Api_WorkOp)).Item]), AllPv (E3.cR (l15 ++ [(a0.getD k17 (⟨0, 0⟩ : Api_WorkOp)).Item]))]) (by as_aux_lemma => kernel_rfl) ⟨rfl, rfl, rfl, rfl, rfl, rfl, rfl, rfl, rfl, rfl, rfl, rfl, fun _ _ _ _ => rfl, rfl, (wrap_nat (Int.ofNat_lt.1 (of_decide_eq_true c18)) (by omega)), rfl, (Elem.cR_pv _ _), rfl, (Elem.cR_pv _ _), rfl, (Elem.cR_pv _ _), rfl, (Elem.cR_pv _ _), trivial⟩
            · refine sk_leaf ?_
              refine back_ok (p := p1) (by as_aux_lemma => kernel_rfl) (hp1 (n1, l15, (b16 || (((a0.getD k17 (⟨0, 0⟩ : Api_WorkOp)).Kind : Int) == 4)), k17 + 1) _ h (Nat.lt_succ_self n1) ?_)
              exact sub_ok (ρ := [(0, some 0), (1, some 1), (2, some 2), (3, some 3)]) (l := [false = false, 0 = 0, r4.1.length = r4.1.length, 0 = 0, r4.2.1.length = r4.2.1.length, 0 = 0, r4.2.2.1.length = r4.2.2.1.length, (r4.2.2.2.1 : Int) = r4.2.2.2.1, 0 = 0, l15.length = l15.length, (b16 || (((a0.getD k17 (⟨0, 0⟩ : Api_WorkOp)).Kind : Int) == 4)) = (b16 || (((a0.getD k17 (⟨0, 0⟩ : Api_WorkOp)).Kind : Int) == 4)), a0.length = a0.length, ∀ i, i < a0.length → ∀ j, j < 2 → E52.cf (a0.getD i E52.z) j = E52.cf (a0.getD i E52.z) j, (((a0.length : Nat) : Int) : Int) = ((a0.length : Nat) : Int), ((IntKind.i64.wrap (((k17 : Nat) : Int) + 1)) : Int) = (((k17 + 1) : Nat) : Int), E31.cR r4.1 = E31.cR r4.1, AllPv (E31.cR r4.1), E3.cR r4.2.1 = E3.cR r4.2.1, AllPv (E3.cR r4.2.1), E3.cR r4.2.2.1 = E3.cR r4.2.2.1, AllPv (E3.cR r4.2.2.1), E3.cR l15 = E3.cR l15, AllPv (E3.cR l15)]) (by as_aux_lemma => kernel_rfl) ⟨rfl, rfl, rfl, rfl, rfl, rfl, rfl, rfl, rfl, rfl, rfl, rfl, fun _ _ _ _ => rfl, rfl, (wrap_nat (Int.ofNat_lt.1 (of_decide_eq_true c18)) (by omega)), rfl, (Elem.cR_pv _ _), rfl, (Elem.cR_pv _ _), rfl, (Elem.cR_pv _ _), rfl, (Elem.cR_pv _ _), trivial⟩
        · refine sk_leaf ?_
          obtain ⟨r27, e28, h⟩ := bd_ h
          refine call_ok (d := some 67) (fn := 26) (ax := [.row 1 1 0 r4.2.1.length]) (args := [.pv ((E3.ro r4.2.1))]) (ps := [r4.2.1.length = r4.2.1.length, rowQ (E3.cR r4.2.1) 1 0 r4.2.1.length (fun i j => E3.cf (r4.2.1.getD i E3.z) j)]) (hb' := [.row 3 1 (E3.cR r27)]) (by as_aux_lemma => kernel_rfl) (slices_Clone_int_ok _ _ e28 (al := false)) (by as_aux_lemma => kernel_rfl) ⟨(by first | rfl | exact Elem.sub_len _ (by omega) | simp | (simp <;> omega)), E3.rowQ_all r4.2.1 rfl, trivial⟩ (fun hx => by cases hx) (by simp) (by simp only [List.map_cons, List.map_nil, Elem.row_up]) (by as_aux_lemma => kernel_rfl) ?_
          refine segs [] tabOk mixed 4000 (S := .br (decide ((r4.2.2.2.1 : Int) ≥ 0)) (.leaf 0) (.leaf 1)) (by as_aux_lemma => kernel_rfl) ?_
          refine br_ h ?_ ?_ <;> clear h <;> intro c29 h
          · refine sk_leaf ?_
            refine bs_ok (d := 72) (e := 3) (s := 1) (n := 1) (cs := [.pv (.raw (.int .i64 r4.2.2.2.1))]) (cs' := E3.cR [r4.2.2.2.1]) (by as_aux_lemma => kernel_rfl) rfl (by as_aux_lemma => kernel_rfl) ?_
            refine segs [] tabOk mixed 4000 (S := .leaf 0) (by as_aux_lemma => kernel_rfl) ?_
            refine sk_leaf ?_
            obtain ⟨g30, h⟩ := if_ h
            refine app_ok (d := 73) (e := 3) (s := 1) (b := 8) (x := .row 17456 1 0 r27.length) (y := .row 17536 1 0 1) E3 (xs := r27) (ys := [r4.2.2.2.1]) (by as_aux_lemma => kernel_rfl) rfl (.row 17456 r27 r27.length rfl (by as_aux_lemma => kernel_rfl)) (.all 17536 3 [r4.2.2.2.1] 1 rfl (by as_aux_lemma => kernel_rfl)) g30 (by as_aux_lemma => kernel_rfl) ?_
            refine segs [] tabOk mixed 4000 (S := .leaf 0) (by as_aux_lemma => kernel_rfl) ?_
            refine sk_leaf ?_
            obtain ⟨g31, h⟩ := if_ h
            refine app_ok (d := 76) (e := 3) (s := 1) (b := 8) (x := .row 17552 1 0 ((r27 ++ [r4.2.2.2.1]).length)) (y := .row 2 1 0 r4.2.2.1.length) E3 (xs := (r27 ++ [r4.2.2.2.1])) (ys := r4.2.2.1) (by as_aux_lemma => kernel_rfl) rfl (.row 17552 (r27 ++ [r4.2.2.2.1]) ((r27 ++ [r4.2.2.2.1]).length) rfl (by as_aux_lemma => kernel_rfl)) (.all 2 3 r4.2.2.1 r4.2.2.1.length rfl (by as_aux_lemma => kernel_rfl)) g31 (by as_aux_lemma => kernel_rfl) ?_
            refine segs [] tabOk mixed 4000 (S := .and ((b16 = true → (b16 = true))) (.and ((b16 = true → (b16 = true))) (.and ((b16 = true → (b16 = true))) (.and ((b16 = true → (b16 = true))) (.and (b16 = true → b16 = true) (.and (((!(b16 && (decide ((((((r27 ++ [r4.2.2.2.1]) ++ r4.2.2.1).length : Nat) : Int) : Int) < ((l15.length : Nat) : Int))))) = true → ((!(b16 && (decide ((((((r27 ++ [r4.2.2.2.1]) ++ r4.2.2.1).length : Nat) : Int) : Int) < ((l15.length : Nat) : Int))))) = true))) (.and (((!(b16 && (decide ((((((r27 ++ [r4.2.2.2.1]) ++ r4.2.2.1).length : Nat) : Int) : Int) < ((l15.length : Nat) : Int))))) = true → ((!(b16 && (decide ((((((r27 ++ [r4.2.2.2.1]) ++ r4.2.2.1).length : Nat) : Int) : Int) < ((l15.length : Nat) : Int))))) = true))) (.leaf 0)))))))) (by as_aux_lemma => kernel_rfl) ?_
            refine sk_and ((by decide : ∀ y0 : Bool, ((y0 = true) → (y0 = true))) b16) ?_
            refine sk_and ((by decide : ∀ y0 : Bool, ((y0 = true) → (y0 = true))) b16) ?_
            refine sk_and ((by decide : ∀ y0 : Bool, ((y0 = true) → (y0 = true))) b16) ?_
            refine sk_and ((by decide : ∀ y0 : Bool, ((y0 = true) → (y0 = true))) b16) ?_
            refine sk_and ((by decide : ∀ y0 : Bool, ((y0 = true) → (y0 = true))) b16) ?_
            refine sk_and ((by decide : ∀ y0 : Bool, ((y0 = true) → (y0 = true))) (!(b16 && (decide ((((((r27 ++ [r4.2.2.2.1]) ++ r4.2.2.1).length : Nat) : Int) : Int) < ((l15.length : Nat) : Int)))))) ?_
            refine sk_and ((by decide : ∀ y0 : Bool, ((y0 = true) → (y0 = true))) (!(b16 && (decide ((((((r27 ++ [r4.2.2.2.1]) ++ r4.2.2.1).length : Nat) : Int) : Int) < ((l15.length : Nat) : Int)))))) ?_
            refine sk_leaf ?_
            obtain ⟨r39, e40, h⟩ := bd_ h
            refine callG_ok (d := some 91) (fn := 17) (ax := [.row 17600 1 0 (((r27 ++ [r4.2.2.2.1]) ++ r4.2.2.1).length), .row 3 1 0 l15.length]) (args := [.pv ((E3.ro ((r27 ++ [r4.2.2.2.1]) ++ r4.2.2.1))), .pv ((E3.ro l15))]) (g := ((!(b16 && (decide ((((((r27 ++ [r4.2.2.2.1]) ++ r4.2.2.1).length : Nat) : Int) : Int) < ((l15.length : Nat) : Int))))) && (!b16))) (ws := [((!(b16 && (decide ((((((r27 ++ [r4.2.2.2.1]) ++ r4.2.2.1).length : Nat) : Int) : Int) < ((l15.length : Nat) : Int))))) && (!b16)) = true, ((!(b16 && (decide ((((((r27 ++ [r4.2.2.2.1]) ++ r4.2.2.1).length : Nat) : Int) : Int) < ((l15.length : Nat) : Int))))) && (!b16)) = true]) (ps := [(((r27 ++ [r4.2.2.2.1]) ++ r4.2.2.1).length) = ((r27 ++ [r4.2.2.2.1]) ++ r4.2.2.1).length, rowQ (E3.cR ((r27 ++ [r4.2.2.2.1]) ++ r4.2.2.1)) 1 0 (((r27 ++ [r4.2.2.2.1]) ++ r4.2.2.1).length) (fun i j => E3.cf (((r27 ++ [r4.2.2.2.1]) ++ r4.2.2.1).getD i E3.z) j), l15.length = l15.length, rowQ (E3.cR l15) 1 0 l15.length (fun i j => E3.cf (l15.getD i E3.z) j)]) (by as_aux_lemma => kernel_rfl) (fun hg => ⟨((by decide : ∀ y0 : Bool, ((y0 = true) → (y0 = true))) ((!(b16 && (decide ((((((r27 ++ [r4.2.2.2.1]) ++ r4.2.2.1).length : Nat) : Int) : Int) < ((l15.length : Nat) : Int))))) && (!b16))) hg, ((by decide : ∀ y0 : Bool, ((y0 = true) → (y0 = true))) ((!(b16 && (decide ((((((r27 ++ [r4.2.2.2.1]) ++ r4.2.2.1).length : Nat) : Int) : Int) < ((l15.length : Nat) : Int))))) && (!b16))) hg, trivial⟩) (fun hg => slices_Equal_int_ok _ _ _ (by rw [hg] at e40; exact e40) (al := false)) (by as_aux_lemma => kernel_rfl) (fun hg => ⟨(by first | rfl | exact Elem.sub_len _ (by omega) | simp | (simp <;> omega)), E3.rowQ_all ((r27 ++ [r4.2.2.2.1]) ++ r4.2.2.1) rfl, (by first | rfl | exact Elem.sub_len _ (by omega) | simp | (simp <;> omega)), E3.rowQ_all l15 rfl, trivial⟩) (fun hx => by cases hx) ?_
            refine segs [] tabOk mixed 4000 (S := .and (((!(b16 && (decide ((((((r27 ++ [r4.2.2.2.1]) ++ r4.2.2.1).length : Nat) : Int) : Int) < ((l15.length : Nat) : Int))))) = true → ((!(b16 && (decide ((((((r27 ++ [r4.2.2.2.1]) ++ r4.2.2.1).length : Nat) : Int) : Int) < ((l15.length : Nat) : Int))))) = true))) (.and (((!(b16 && (decide ((((((r27 ++ [r4.2.2.2.1]) ++ r4.2.2.1).length : Nat) : Int) : Int) < ((l15.length : Nat) : Int))))) = true → ((!b16) = true → ((!(b16 && (decide ((((((r27 ++ [r4.2.2.2.1]) ++ r4.2.2.1).length : Nat) : Int) : Int) < ((l15.length : Nat) : Int))))) && (!b16)) = true))) (.and ((b16 && (decide ((((((r27 ++ [r4.2.2.2.1]) ++ r4.2.2.1).length : Nat) : Int) : Int) < ((l15.length : Nat) : Int)))) = false → (!(b16 && (decide ((((((r27 ++ [r4.2.2.2.1]) ++ r4.2.2.1).length : Nat) : Int) : Int) < ((l15.length : Nat) : Int))))) = true) (.leaf 0)))) (by as_aux_lemma => kernel_rfl) ?_
            refine sk_and ((by decide : ∀ y0 : Bool, ((y0 = true) → (y0 = true))) (!(b16 && (decide ((((((r27 ++ [r4.2.2.2.1]) ++ r4.2.2.1).length : Nat) : Int) : Int) < ((l15.length : Nat) : Int)))))) ?_
            refine sk_and ((by decide : ∀ y0 y1 : Bool, ((y0 = true) → ((y1 = true) → ((y0 && y1) = true)))) (!(b16 && (decide ((((((r27 ++ [r4.2.2.2.1]) ++ r4.2.2.1).length : Nat) : Int) : Int) < ((l15.length : Nat) : Int))))) (!b16)) ?_
            refine sk_and ((by decide : ∀ y0 : Bool, ((y0 = false) → ((!y0) = true))) (b16 && (decide ((((((r27 ++ [r4.2.2.2.1]) ++ r4.2.2.1).length : Nat) : Int) : Int) < ((l15.length : Nat) : Int))))) ?_
            refine sk_leaf ?_
            obtain rfl := some_ h
            exact end_ok [] Try.results10 (ps := [((b16 && (decide ((((((r27 ++ [r4.2.2.2.1]) ++ r4.2.2.1).length : Nat) : Int) : Int) < ((l15.length : Nat) : Int)))) || ((!b16) && r39)) = ((b16 && (decide ((((((r27 ++ [r4.2.2.2.1]) ++ r4.2.2.1).length : Nat) : Int) : Int) < ((l15.length : Nat) : Int)))) || ((!b16) && r39))]) (by as_aux_lemma => kernel_rfl) ⟨rfl, trivial⟩ (fun _ => ⟨rfl, by simp⟩)
          · refine sk_leaf ?_
            obtain ⟨g44, h⟩ := if_ h
            refine app_ok (d := 76) (e := 3) (s := 1) (b := 8) (x := .row 17456 1 0 r27.length) (y := .row 2 1 0 r4.2.2.1.length) E3 (xs := r27) (ys := r4.2.2.1) (by as_aux_lemma => kernel_rfl) rfl (.row 17456 r27 r27.length rfl (by as_aux_lemma => kernel_rfl)) (.all 2 3 r4.2.2.1 r4.2.2.1.length rfl (by as_aux_lemma => kernel_rfl)) g44 (by as_aux_lemma => kernel_rfl) ?_
            refine segs [] tabOk mixed 4000 (S := .and ((b16 = true → (b16 = true))) (.and ((b16 = true → (b16 = true))) (.and ((b16 = true → (b16 = true))) (.and ((b16 = true → (b16 = true))) (.and (b16 = true → b16 = true) (.and (((!(b16 && (decide (((((r27 ++ r4.2.2.1).length : Nat) : Int) : Int) < ((l15.length : Nat) : Int))))) = true → ((!(b16 && (decide (((((r27 ++ r4.2.2.1).length : Nat) : Int) : Int) < ((l15.length : Nat) : Int))))) = true))) (.and (((!(b16 && (decide (((((r27 ++ r4.2.2.1).length : Nat) : Int) : Int) < ((l15.length : Nat) : Int))))) = true → ((!(b16 && (decide (((((r27 ++ r4.2.2.1).length : Nat) : Int) : Int) < ((l15.length : Nat) : Int))))) = true))) (.leaf 0)))))))) (by as_aux_lemma => kernel_rfl) ?_
            refine sk_and ((by decide : ∀ y0 : Bool, ((y0 = true) → (y0 = true))) b16) ?_
            refine sk_and ((by decide : ∀ y0 : Bool, ((y0 = true) → (y0 = true))) b16) ?_
            refine sk_and ((by decide : ∀ y0 : Bool, ((y0 = true) → (y0 = true))) b16) ?_
            refine sk_and ((by decide : ∀ y0 : Bool, ((y0 = true) → (y0 = true))) b16) ?_
            refine sk_and ((by decide : ∀ y0 : Bool, ((y0 = true) → (y0 = true))) b16) ?_
            refine sk_and ((by decide : ∀ y0 : Bool, ((y0 = true) → (y0 = true))) (!(b16 && (decide (((((r27 ++ r4.2.2.1).length : Nat) : Int) : Int) < ((l15.length : Nat) : Int)))))) ?_
            refine sk_and ((by decide : ∀ y0 : Bool, ((y0 = true) → (y0 = true))) (!(b16 && (decide (((((r27 ++ r4.2.2.1).length : Nat) : Int) : Int) < ((l15.length : Nat) : Int)))))) ?_
            refine sk_leaf ?_
            obtain ⟨r52, e53, h⟩ := bd_ h
            refine callG_ok (d := some 91) (fn := 17) (ax := [.row 17600 1 0 ((r27 ++ r4.2.2.1).length), .row 3 1 0 l15.length]) (args := [.pv ((E3.ro (r27 ++ r4.2.2.1))), .pv ((E3.ro l15))]) (g := ((!(b16 && (decide (((((r27 ++ r4.2.2.1).length : Nat) : Int) : Int) < ((l15.length : Nat) : Int))))) && (!b16))) (ws := [((!(b16 && (decide (((((r27 ++ r4.2.2.1).length : Nat) : Int) : Int) < ((l15.length : Nat) : Int))))) && (!b16)) = true, ((!(b16 && (decide (((((r27 ++ r4.2.2.1).length : Nat) : Int) : Int) < ((l15.length : Nat) : Int))))) && (!b16)) = true]) (ps := [((r27 ++ r4.2.2.1).length) = (r27 ++ r4.2.2.1).length, rowQ (E3.cR (r27 ++ r4.2.2.1)) 1 0 ((r27 ++ r4.2.2.1).length) (fun i j => E3.cf ((r27 ++ r4.2.2.1).getD i E3.z) j), l15.length = l15.length, rowQ (E3.cR l15) 1 0 l15.length (fun i j => E3.cf (l15.getD i E3.z) j)]) (by as_aux_lemma => kernel_rfl) (fun hg => ⟨((by decide : ∀ y0 : Bool, ((y0 = true) → (y0 = true))) ((!(b16 && (decide (((((r27 ++ r4.2.2.1).length : Nat) : Int) : Int) < ((l15.length : Nat) : Int))))) && (!b16))) hg, ((by decide : ∀ y0 : Bool, ((y0 = true) → (y0 = true))) ((!(b16 && (decide (((((r27 ++ r4.2.2.1).length : Nat) : Int) : Int) < ((l15.length : Nat) : Int))))) && (!b16))) hg, trivial⟩) (fun hg => slices_Equal_int_ok _ _ _ (by rw [hg] at e53; exact e53) (al := false)) (by as_aux_lemma => kernel_rfl) (fun hg => ⟨(by first | rfl | exact Elem.sub_len _ (by omega) | simp | (simp <;> omega)), E3.rowQ_all (r27 ++ r4.2.2.1) rfl, (by first | rfl | exact Elem.sub_len _ (by omega) | simp | (simp <;> omega)), E3.rowQ_all l15 rfl, trivial⟩) (fun hx => by cases hx) ?_
            refine segs [] tabOk mixed 4000 (S := .and (((!(b16 && (decide (((((r27 ++ r4.2.2.1).length : Nat) : Int) : Int) < ((l15.length : Nat) : Int))))) = true → ((!(b16 && (decide (((((r27 ++ r4.2.2.1).length : Nat) : Int) : Int) < ((l15.length : Nat) : Int))))) = true))) (.and (((!(b16 && (decide (((((r27 ++ r4.2.2.1).length : Nat) : Int) : Int) < ((l15.length : Nat) : Int))))) = true → ((!b16) = true → ((!(b16 && (decide (((((r27 ++ r4.2.2.1).length : Nat) : Int) : Int) < ((l15.length : Nat) : Int))))) && (!b16)) = true))) (.and ((b16 && (decide (((((r27 ++ r4.2.2.1).length : Nat) : Int) : Int) < ((l15.length : Nat) : Int)))) = false → (!(b16 && (decide (((((r27 ++ r4.2.2.1).length : Nat) : Int) : Int) < ((l15.length : Nat) : Int))))) = true) (.leaf 0)))) (by as_aux_lemma => kernel_rfl) ?_
            refine sk_and ((by decide : ∀ y0 : Bool, ((y0 = true) → (y0 = true))) (!(b16 && (decide (((((r27 ++ r4.2.2.1).length : Nat) : Int) : Int) < ((l15.length : Nat) : Int)))))) ?_
            refine sk_and ((by decide : ∀ y0 y1 : Bool, ((y0 = true) → ((y1 = true) → ((y0 && y1) = true)))) (!(b16 && (decide (((((r27 ++ r4.2.2.1).length : Nat) : Int) : Int) < ((l15.length : Nat) : Int))))) (!b16)) ?_
            refine sk_and ((by decide : ∀ y0 : Bool, ((y0 = false) → ((!y0) = true))) (b16 && (decide (((((r27 ++ r4.2.2.1).length : Nat) : Int) : Int) < ((l15.length : Nat) : Int))))) ?_
            refine sk_leaf ?_
            obtain rfl := some_ h
            exact end_ok [] Try.results10 (ps := [((b16 && (decide (((((r27 ++ r4.2.2.1).length : Nat) : Int) : Int) < ((l15.length : Nat) : Int)))) || ((!b16) && r52)) = ((b16 && (decide (((((r27 ++ r4.2.2.1).length : Nat) : Int) : Int) < ((l15.length : Nat) : Int)))) || ((!b16) && r52))]) (by as_aux_lemma => kernel_rfl) ⟨rfl, trivial⟩ (fun _ => ⟨rfl, by simp⟩)

set_option maxRecDepth 100000 in
theorem slices_Clone_api_WorkOp_ok (a0 r : List Api_WorkOp) (h : slices_Clone_api_WorkOp a0 = some r) {al : Bool} : PCalls Try.prog 27 [.pv (E52.ro a0)] al (.row 0 2 0 r.length) [.row 52 2 (E52.cR r)] := by
  unfold slices_Clone_api_WorkOp at h
  obtain ⟨g, h⟩ := if_ h
  obtain rfl := some_ h
  refine fn_ok tabOk Try.func27 (by as_aux_lemma => kernel_rfl) (by as_aux_lemma => kernel_rfl) Try.ntmps27 (by simp) ?_
  refine segs [1] tabOk mixed 4000 (S := .leaf 0) (by as_aux_lemma => kernel_rfl) ?_
  refine sk_leaf ?_
  refine nil_ok (d1 := 3) (d2 := 4) (s := 2) (n := a0.length) (c := fun i j => E52.cf (a0.getD i E52.z) j) tabOk (by as_aux_lemma => kernel_rfl) ?_
  intro b hb
  refine segs [] tabOk mixed 4000 (S := .br b (.leaf 0) (.leaf 1)) (by as_aux_lemma => kernel_rfl) ?_
  refine sk_br ?_ ?_ <;> intro hc <;> refine sk_leaf ?_
  · obtain rfl : a0 = [] := List.eq_nil_of_length_eq_zero (hb hc)
    exact end_ok [(0, none)] Try.results27 (ps := [0 = 0, 0 = 0, E52.cR [] = []]) (by as_aux_lemma => kernel_rfl) ⟨rfl, rfl, rfl, trivial⟩ (fun _ => ⟨rfl, by simp only [List.mem_cons, List.not_mem_nil, or_false, forall_eq]; exact Elem.cR_bald E52_raw _⟩)
  · refine bs_ok (d := 5) (e := 52) (s := 2) (n := 0) (cs := []) (cs' := E52.cR []) (by as_aux_lemma => kernel_rfl) rfl (by as_aux_lemma => kernel_rfl) ?_
    refine segs [] tabOk mixed 4000 (S := .leaf 0) (by as_aux_lemma => kernel_rfl) ?_
    refine sk_leaf ?_
    refine app_ok (d := 7) (e := 52) (s := 2) (b := 16) (x := .row 16464 2 0 0) (y := .pv (E52.ro a0)) E52 (xs := []) (ys := a0) (by as_aux_lemma => kernel_rfl) rfl (.row 16464 [] 0 rfl (by as_aux_lemma => kernel_rfl)) (.ro a0) ⟨by simpa using g, by simp; omega⟩ (by as_aux_lemma => kernel_rfl) ?_
    refine segs [] tabOk mixed 4000 (S := .leaf 0) (by as_aux_lemma => kernel_rfl) ?_
    refine sk_leaf ?_
    exact end_ok [(0, some 16496)] Try.results27 (ps := [0 = 0, a0.length = a0.length, E52.cR a0 = E52.cR a0, AllPv (E52.cR a0)]) (by as_aux_lemma => kernel_rfl) ⟨rfl, rfl, rfl, Elem.cR_pv _ _, trivial⟩ (fun _ => ⟨rfl, by simp only [List.mem_cons, List.not_mem_nil, or_false, forall_eq]; exact Elem.cR_bald E52_raw _⟩)

set_option maxHeartbeats 40000000 in
set_option maxRecDepth 100000 in
theorem keep_WorkFlushed_ok (a0 : (List Api_WorkOp)) (a1 : Int) (r : Bool) (h : keep_WorkFlushed a0 a1 = some r) {al : Bool} : PCalls Try.prog 11 [.pv ((E52.ro a0)), .pv (.raw (.int .i64 a1))] al (.pv (.raw (.bool r))) [] := by
  unfold keep_WorkFlushed at h
  refine fn_ok tabOk Try.func11 (by as_aux_lemma => kernel_rfl) (by as_aux_lemma => kernel_rfl) Try.ntmps11 (by simp) ?_
  refine segs [] tabOk mixed 4000 (S := .leaf 0) (by as_aux_lemma => kernel_rfl) ?_
  refine sk_leaf ?_
  obtain ⟨r1, e2, h⟩ := bd_ h
  refine call_ok (d := some 15) (fn := 24) (ax := []) (args := []) (ps := []) (hb' := []) (by as_aux_lemma => kernel_rfl) (keep_alive12_ok  _ e2 (al := true)) (by as_aux_lemma => kernel_rfl) trivial (fun _ => (by as_aux_lemma => kernel_rfl)) (by simp) rfl (by as_aux_lemma => kernel_rfl) ?_
  refine segs [] tabOk mixed 4000 (S := .br (!r1) (.leaf 0) (.leaf 1)) (by as_aux_lemma => kernel_rfl) ?_
  refine br_ h ?_ ?_ <;> clear h <;> intro c3 h
  · refine sk_leaf ?_
    obtain rfl := some_ h
    exact end_ok [] Try.results11 (ps := [false = false]) (by as_aux_lemma => kernel_rfl) ⟨rfl, trivial⟩ (fun _ => ⟨rfl, by simp⟩)
  · refine sk_leaf ?_
    obtain ⟨r4, e5, h⟩ := bd_ h
    refine call_ok (d := some 19) (fn := 25) (ax := [.pv ((E52.ro a0))]) (args := [.pv ((E52.ro a0))]) (ps := [a0.length = a0.length, ∀ i, i < a0.length → ∀ j, j < 2 → E52.cf (a0.getD i E52.z) j = E52.cf (a0.getD i E52.z) j]) (hb' := [.row 31 1 (E31.cR r4.1), .row 3 1 (E3.cR r4.2.1), .row 3 1 (E3.cR r4.2.2.1)]) (by as_aux_lemma => kernel_rfl) (work_Play_ok _ _ e5 (al := true)) (by as_aux_lemma => kernel_rfl) ⟨rfl, fun _ _ _ _ => rfl, trivial⟩ (fun _ => (by as_aux_lemma => kernel_rfl)) (by simp) (by simp only [List.map_cons, List.map_nil, Elem.row_up]) (by as_aux_lemma => kernel_rfl) ?_
    refine segs [] tabOk mixed 4000 (S := .leaf 0) (by as_aux_lemma => kernel_rfl) ?_
    refine sk_leaf ?_
    obtain ⟨r6, e7, h⟩ := bd_ h
    refine call_ok (d := some 27) (fn := 27) (ax := [.pv ((E52.ro a0))]) (args := [.pv ((E52.ro a0))]) (ps := [a0.length = a0.length, ∀ i, i < a0.length → ∀ j, j < 2 → E52.cf (a0.getD i E52.z) j = E52.cf (a0.getD i E52.z) j]) (hb' := [.row 52 2 (E52.cR r6)]) (by as_aux_lemma => kernel_rfl) (slices_Clone_api_WorkOp_ok _ _ e7 (al := true)) (by as_aux_lemma => kernel_rfl) ⟨rfl, fun _ _ _ _ => rfl, trivial⟩ (fun _ => (by as_aux_lemma => kernel_rfl)) (by simp) (by simp only [List.map_cons, List.map_nil, Elem.row_up]) (by as_aux_lemma => kernel_rfl) ?_
    refine segs [] tabOk mixed 4000 (S := .leaf 0) (by as_aux_lemma => kernel_rfl) ?_
    refine sk_leaf ?_
    refine bs_ok (d := 30) (e := 52) (s := 2) (n := 1) (cs := [.pv (.raw (.int .i64 5)), .pv (.raw (.int .i64 a1))]) (cs' := E52.cR [(⟨5, a1⟩ : Api_WorkOp)]) (by as_aux_lemma => kernel_rfl) rfl (by as_aux_lemma => kernel_rfl) ?_
    refine segs [] tabOk mixed 4000 (S := .leaf 0) (by as_aux_lemma => kernel_rfl) ?_
    refine sk_leaf ?_
    obtain ⟨g8, h⟩ := if_ h
    refine app_ok (d := 31) (e := 52) (s := 2) (b := 16) (x := .row 16816 2 0 r6.length) (y := .row 16864 2 0 1) E52 (xs := r6) (ys := [(⟨5, a1⟩ : Api_WorkOp)]) (by as_aux_lemma => kernel_rfl) rfl (.row 16816 r6 r6.length rfl (by as_aux_lemma => kernel_rfl)) (.all 16864 52 [(⟨5, a1⟩ : Api_WorkOp)] 1 rfl (by as_aux_lemma => kernel_rfl)) g8 (by as_aux_lemma => kernel_rfl) ?_
    refine segs [] tabOk mixed 4000 (S := .leaf 0) (by as_aux_lemma => kernel_rfl) ?_
    refine sk_leaf ?_
    obtain ⟨r9, e10, h⟩ := bd_ h
    refine call_ok (d := some 32) (fn := 25) (ax := [.row 16880 2 0 ((r6 ++ [(⟨5, a1⟩ : Api_WorkOp)]).length)]) (args := [.pv ((E52.ro (r6 ++ [(⟨5, a1⟩ : Api_WorkOp)])))]) (ps := [((r6 ++ [(⟨5, a1⟩ : Api_WorkOp)]).length) = (r6 ++ [(⟨5, a1⟩ : Api_WorkOp)]).length, rowQ (E52.cR (r6 ++ [(⟨5, a1⟩ : Api_WorkOp)])) 2 0 ((r6 ++ [(⟨5, a1⟩ : Api_WorkOp)]).length) (fun i j => E52.cf ((r6 ++ [(⟨5, a1⟩ : Api_WorkOp)]).getD i E52.z) j)]) (hb' := [.row 31 1 (E31.cR r9.1), .row 3 1 (E3.cR r9.2.1), .row 3 1 (E3.cR r9.2.2.1)]) (by as_aux_lemma => kernel_rfl) (work_Play_ok _ _ e10 (al := false)) (by as_aux_lemma => kernel_rfl) ⟨(by first | rfl | exact Elem.sub_len _ (by omega) | simp | (simp <;> omega)), E52.rowQ_all (r6 ++ [(⟨5, a1⟩ : Api_WorkOp)]) rfl, trivial⟩ (fun hx => by cases hx) (by simp) (by simp only [List.map_cons, List.map_nil, Elem.row_up]) (by as_aux_lemma => kernel_rfl) ?_
    refine segs [] tabOk mixed 4000 (S := .and (((!((r4.2.2.2.2 : Int) != 0)) = true → ((!((r4.2.2.2.2 : Int) != 0)) = true))) (.and (((r4.2.2.2.2 : Int) != 0) = false → (!((r4.2.2.2.2 : Int) != 0)) = true) (.and (((!(((r4.2.2.2.2 : Int) != 0) || ((r9.2.2.2.2 : Int) != 0))) = true → ((!(((r4.2.2.2.2 : Int) != 0) || ((r9.2.2.2.2 : Int) != 0))) = true))) (.and (((!(((r4.2.2.2.2 : Int) != 0) || ((r9.2.2.2.2 : Int) != 0))) = true → ((!(((r4.2.2.2.2 : Int) != 0) || ((r9.2.2.2.2 : Int) != 0))) = true))) (.and (((!(((r4.2.2.2.2 : Int) != 0) || ((r9.2.2.2.2 : Int) != 0))) = true → ((!(((r4.2.2.2.2 : Int) != 0) || ((r9.2.2.2.2 : Int) != 0))) = true))) (.and (((!(((r4.2.2.2.2 : Int) != 0) || ((r9.2.2.2.2 : Int) != 0))) = true → ((!(((r4.2.2.2.2 : Int) != 0) || ((r9.2.2.2.2 : Int) != 0))) = true))) (.and (((!(((r4.2.2.2.2 : Int) != 0) || ((r9.2.2.2.2 : Int) != 0))) = true → ((!(((r4.2.2.2.2 : Int) != 0) || ((r9.2.2.2.2 : Int) != 0))) = true))) (.and ((((r4.2.2.2.2 : Int) != 0) || ((r9.2.2.2.2 : Int) != 0)) = false → (!(((r4.2.2.2.2 : Int) != 0) || ((r9.2.2.2.2 : Int) != 0))) = true) (.br ((((r4.2.2.2.2 : Int) != 0) || ((r9.2.2.2.2 : Int) != 0)) || ((((r9.1.length : Nat) : Int) : Int) != (IntKind.i64.wrap (((a0.length : Nat) : Int) + 1)))) (.and (((!((r4.2.2.2.2 : Int) != 0)) = true → ((!((r4.2.2.2.2 : Int) != 0)) = true))) (.and (((r4.2.2.2.2 : Int) != 0) = false → (!((r4.2.2.2.2 : Int) != 0)) = true) (.leaf 0))) (.and (0 ≤ (((a0.length : Nat) : Int) : Int) ∧ ((a0.length : Nat) : Int) < ((r9.1.length : Nat) : Int)) (.leaf 1))))))))))) (by as_aux_lemma => kernel_rfl) ?_
    refine sk_and ((by decide : ∀ y0 : Bool, ((y0 = true) → (y0 = true))) (!((r4.2.2.2.2 : Int) != 0))) ?_
    refine sk_and ((by decide : ∀ y0 : Bool, ((y0 = false) → ((!y0) = true))) ((r4.2.2.2.2 : Int) != 0)) ?_
    refine sk_and ((by decide : ∀ y0 : Bool, ((y0 = true) → (y0 = true))) (!(((r4.2.2.2.2 : Int) != 0) || ((r9.2.2.2.2 : Int) != 0)))) ?_
    refine sk_and ((by decide : ∀ y0 : Bool, ((y0 = true) → (y0 = true))) (!(((r4.2.2.2.2 : Int) != 0) || ((r9.2.2.2.2 : Int) != 0)))) ?_
    refine sk_and ((by decide : ∀ y0 : Bool, ((y0 = true) → (y0 = true))) (!(((r4.2.2.2.2 : Int) != 0) || ((r9.2.2.2.2 : Int) != 0)))) ?_
    refine sk_and ((by decide : ∀ y0 : Bool, ((y0 = true) → (y0 = true))) (!(((r4.2.2.2.2 : Int) != 0) || ((r9.2.2.2.2 : Int) != 0)))) ?_
    refine sk_and ((by decide : ∀ y0 : Bool, ((y0 = true) → (y0 = true))) (!(((r4.2.2.2.2 : Int) != 0) || ((r9.2.2.2.2 : Int) != 0)))) ?_
    refine sk_and ((by decide : ∀ y0 : Bool, ((y0 = false) → ((!y0) = true))) (((r4.2.2.2.2 : Int) != 0) || ((r9.2.2.2.2 : Int) != 0))) ?_
    refine br_ h ?_ ?_ <;> clear h <;> intro c19 h
    · refine sk_and ((by decide : ∀ y0 : Bool, ((y0 = true) → (y0 = true))) (!((r4.2.2.2.2 : Int) != 0))) ?_
      refine sk_and ((by decide : ∀ y0 : Bool, ((y0 = false) → ((!y0) = true))) ((r4.2.2.2.2 : Int) != 0)) ?_
      refine sk_leaf ?_
      obtain rfl := some_ h
      exact end_ok [] Try.results11 (ps := [(((r4.2.2.2.2 : Int) != 0) || ((r9.2.2.2.2 : Int) != 0)) = (((r4.2.2.2.2 : Int) != 0) || ((r9.2.2.2.2 : Int) != 0))]) (by as_aux_lemma => kernel_rfl) ⟨rfl, trivial⟩ (fun _ => ⟨rfl, by simp⟩)
    · refine gd_ h ?_; clear h; intro g22 h
      refine sk_leaf ?_
      refine ld_ok (d := 62) (id := 16896) (i := (0 + a0.length)) (j := 0) (e := 31) (n := 1) E31 (xs := r9.1) (by as_aux_lemma => kernel_rfl) (by as_aux_lemma => kernel_rfl) (by first | omega | (simp at * <;> omega) | (simp_all <;> omega)) (by exact Nat.le_of_ble_eq_true rfl) ?_
      refine segs [] tabOk mixed 4000 (S := .br (((r9.1.getD (0 + a0.length) 0) : Int) != 0) (.leaf 0) (.leaf 1)) (by as_aux_lemma => kernel_rfl) ?_
      refine br_ h ?_ ?_ <;> clear h <;> intro c23 h
      · refine sk_leaf ?_
        obtain ⟨r24, e25, h⟩ := bd_ h
        refine call_ok (d := some 66) (fn := 17) (ax := [.row 16689 1 0 r4.2.1.length, .row 16897 1 0 r9.2.1.length]) (args := [.pv ((E3.ro r4.2.1)), .pv ((E3.ro r9.2.1))]) (ps := [r4.2.1.length = r4.2.1.length, rowQ (E3.cR r4.2.1) 1 0 r4.2.1.length (fun i j => E3.cf (r4.2.1.getD i E3.z) j), r9.2.1.length = r9.2.1.length, rowQ (E3.cR r9.2.1) 1 0 r9.2.1.length (fun i j => E3.cf (r9.2.1.getD i E3.z) j)]) (hb' := []) (by as_aux_lemma => kernel_rfl) (slices_Equal_int_ok _ _ _ e25 (al := false)) (by as_aux_lemma => kernel_rfl) ⟨(by first | rfl | exact Elem.sub_len _ (by omega) | simp | (simp <;> omega)), E3.rowQ_all r4.2.1 rfl, (by first | rfl | exact Elem.sub_len _ (by omega) | simp | (simp <;> omega)), E3.rowQ_all r9.2.1 rfl, trivial⟩ (fun hx => by cases hx) (by simp) rfl (by as_aux_lemma => kernel_rfl) ?_
        refine segs [] tabOk mixed 4000 (S := .leaf 0) (by as_aux_lemma => kernel_rfl) ?_
        refine sk_leaf ?_
        obtain ⟨r26, e27, h⟩ := bd_ h
        refine callG_ok (d := some 70) (fn := 17) (ax := [.row 16898 1 0 r9.2.2.1.length, .row 16690 1 0 r4.2.2.1.length]) (args := [.pv ((E3.ro r9.2.2.1)), .pv ((E3.ro r4.2.2.1))]) (g := r24) (ws := [r24 = true, r24 = true]) (ps := [r9.2.2.1.length = r9.2.2.1.length, rowQ (E3.cR r9.2.2.1) 1 0 r9.2.2.1.length (fun i j => E3.cf (r9.2.2.1.getD i E3.z) j), r4.2.2.1.length = r4.2.2.1.length, rowQ (E3.cR r4.2.2.1) 1 0 r4.2.2.1.length (fun i j => E3.cf (r4.2.2.1.getD i E3.z) j)]) (by as_aux_lemma => kernel_rfl) (fun hg => ⟨((by decide : ∀ y0 : Bool, ((y0 = true) → (y0 = true))) r24) hg, ((by decide : ∀ y0 : Bool, ((y0 = true) → (y0 = true))) r24) hg, trivial⟩) (fun hg => slices_Equal_int_ok _ _ _ (by rw [hg] at e27; exact e27) (al := false)) (by as_aux_lemma => kernel_rfl) (fun hg => ⟨(by first | rfl | exact Elem.sub_len _ (by omega) | simp | (simp <;> omega)), E3.rowQ_all r9.2.2.1 rfl, (by first | rfl | exact Elem.sub_len _ (by omega) | simp | (simp <;> omega)), E3.rowQ_all r4.2.2.1 rfl, trivial⟩) (fun hx => by cases hx) ?_
        refine segs [] tabOk mixed 4000 (S := .and (r24 = true → r24 = true) (.and (((r24 && r26) = true → ((r24 && r26) = true))) (.and (((r24 && r26) = true → ((r24 && r26) = true))) (.and ((r24 && r26) = true → (r24 && r26) = true) (.leaf 0))))) (by as_aux_lemma => kernel_rfl) ?_
        refine sk_and ((by decide : ∀ y0 : Bool, ((y0 = true) → (y0 = true))) r24) ?_
        refine sk_and ((by decide : ∀ y0 : Bool, ((y0 = true) → (y0 = true))) (r24 && r26)) ?_
        refine sk_and ((by decide : ∀ y0 : Bool, ((y0 = true) → (y0 = true))) (r24 && r26)) ?_
        refine sk_and ((by decide : ∀ y0 : Bool, ((y0 = true) → (y0 = true))) (r24 && r26)) ?_
        refine sk_leaf ?_
        obtain rfl := some_ h
        exact end_ok [] Try.results11 (ps := [((r24 && r26) && ((r9.2.2.2.1 : Int) == r4.2.2.2.1)) = ((r24 && r26) && ((r9.2.2.2.1 : Int) == r4.2.2.2.1))]) (by as_aux_lemma => kernel_rfl) ⟨rfl, trivial⟩ (fun _ => ⟨rfl, by simp⟩)
      · refine sk_leaf ?_
        obtain ⟨r32, e33, h⟩ := bd_ h
        refine callG_ok (d := some 83) (fn := 20) (ax := [.row 16898 1 0 r9.2.2.1.length, .pv (.raw (.int .i64 a1))]) (args := [.pv ((E3.ro r9.2.2.1)), .pv (.raw (.int .i64 a1))]) (g := (!((r9.2.2.2.1 : Int) == a1))) (ws := [(!((r9.2.2.2.1 : Int) == a1)) = true, (!((r9.2.2.2.1 : Int) == a1)) = true]) (ps := [r9.2.2.1.length = r9.2.2.1.length, rowQ (E3.cR r9.2.2.1) 1 0 r9.2.2.1.length (fun i j => E3.cf (r9.2.2.1.getD i E3.z) j), (a1 : Int) = a1]) (by as_aux_lemma => kernel_rfl) (fun hg => ⟨((by decide : ∀ y0 : Bool, ((y0 = true) → (y0 = true))) (!((r9.2.2.2.1 : Int) == a1))) hg, ((by decide : ∀ y0 : Bool, ((y0 = true) → (y0 = true))) (!((r9.2.2.2.1 : Int) == a1))) hg, trivial⟩) (fun hg => slices_Contains_int_ok _ _ _ (by rw [hg] at e33; exact e33) (al := false)) (by as_aux_lemma => kernel_rfl) (fun hg => ⟨(by first | rfl | exact Elem.sub_len _ (by omega) | simp | (simp <;> omega)), E3.rowQ_all r9.2.2.1 rfl, rfl, trivial⟩) (fun hx => by cases hx) ?_
        refine segs [] tabOk mixed 4000 (S := .and (((r9.2.2.2.1 : Int) == a1) = false → (!((r9.2.2.2.1 : Int) == a1)) = true) (.and (((!(((r9.2.2.2.1 : Int) == a1) || r32)) = true → ((!(((r9.2.2.2.1 : Int) == a1) || r32)) = true))) (.and (((!(((r9.2.2.2.1 : Int) == a1) || r32)) = true → ((!(((r9.2.2.2.1 : Int) == a1) || r32)) = true))) (.and (((!(((r9.2.2.2.1 : Int) == a1) || r32)) = true → ((!(((r9.2.2.2.1 : Int) == a1) || r32)) = true))) (.and (((!(((r9.2.2.2.1 : Int) == a1) || r32)) = true → ((!(((r9.2.2.2.1 : Int) == a1) || r32)) = true))) (.and ((((r9.2.2.2.1 : Int) == a1) || r32) = false → (!(((r9.2.2.2.1 : Int) == a1) || r32)) = true) (.and (((!((((r9.2.2.2.1 : Int) == a1) || r32) || (decide ((((r9.2.1.length : Nat) : Int) : Int) < ((r4.2.1.length : Nat) : Int))))) = true → ((!((((r9.2.2.2.1 : Int) == a1) || r32) || (decide ((((r9.2.1.length : Nat) : Int) : Int) < ((r4.2.1.length : Nat) : Int))))) = true))) (.and (((!((((r9.2.2.2.1 : Int) == a1) || r32) || (decide ((((r9.2.1.length : Nat) : Int) : Int) < ((r4.2.1.length : Nat) : Int))))) = true → ((!((((r9.2.2.2.1 : Int) == a1) || r32) || (decide ((((r9.2.1.length : Nat) : Int) : Int) < ((r4.2.1.length : Nat) : Int))))) = true))) (.and (((!((((r9.2.2.2.1 : Int) == a1) || r32) || (decide ((((r9.2.1.length : Nat) : Int) : Int) < ((r4.2.1.length : Nat) : Int))))) = true → ((!((((r9.2.2.2.1 : Int) == a1) || r32) || (decide ((((r9.2.1.length : Nat) : Int) : Int) < ((r4.2.1.length : Nat) : Int))))) = true))) (.and (((!((((r9.2.2.2.1 : Int) == a1) || r32) || (decide ((((r9.2.1.length : Nat) : Int) : Int) < ((r4.2.1.length : Nat) : Int))))) = true → (0 ≤ (((r4.2.1.length : Nat) : Int) : Int)))) (.and (((!((((r9.2.2.2.1 : Int) == a1) || r32) || (decide ((((r9.2.1.length : Nat) : Int) : Int) < ((r4.2.1.length : Nat) : Int))))) = true → (r4.2.1.length ≤ r9.2.1.length))) (.leaf 0)))))))))))) (by as_aux_lemma => kernel_rfl) ?_
        refine sk_and ((by decide : ∀ y0 : Bool, ((y0 = false) → ((!y0) = true))) ((r9.2.2.2.1 : Int) == a1)) ?_
        refine sk_and ((by decide : ∀ y0 : Bool, ((y0 = true) → (y0 = true))) (!(((r9.2.2.2.1 : Int) == a1) || r32))) ?_
        refine sk_and ((by decide : ∀ y0 : Bool, ((y0 = true) → (y0 = true))) (!(((r9.2.2.2.1 : Int) == a1) || r32))) ?_
        refine sk_and ((by decide : ∀ y0 : Bool, ((y0 = true) → (y0 = true))) (!(((r9.2.2.2.1 : Int) == a1) || r32))) ?_
        refine sk_and ((by decide : ∀ y0 : Bool, ((y0 = true) → (y0 = true))) (!(((r9.2.2.2.1 : Int) == a1) || r32))) ?_
        refine sk_and ((by decide : ∀ y0 : Bool, ((y0 = false) → ((!y0) = true))) (((r9.2.2.2.1 : Int) == a1) || r32)) ?_
        refine sk_and ((by decide : ∀ y0 : Bool, ((y0 = true) → (y0 = true))) (!((((r9.2.2.2.1 : Int) == a1) || r32) || (decide ((((r9.2.1.length : Nat) : Int) : Int) < ((r4.2.1.length : Nat) : Int)))))) ?_
        refine sk_and ((by decide : ∀ y0 : Bool, ((y0 = true) → (y0 = true))) (!((((r9.2.2.2.1 : Int) == a1) || r32) || (decide ((((r9.2.1.length : Nat) : Int) : Int) < ((r4.2.1.length : Nat) : Int)))))) ?_
        refine sk_and ((by decide : ∀ y0 : Bool, ((y0 = true) → (y0 = true))) (!((((r9.2.2.2.1 : Int) == a1) || r32) || (decide ((((r9.2.1.length : Nat) : Int) : Int) < ((r4.2.1.length : Nat) : Int)))))) ?_
        refine gd_ h ?_; clear h; intro g43 h
        refine gd_ h ?_; clear h; intro g44 h
        refine sk_leaf ?_
        obtain ⟨r45, e46, h⟩ := bd_ h
        refine callG_ok (d := some 98) (fn := 17) (ax := [.row 16897 1 (0 + 0) (r4.2.1.length - 0), .row 16689 1 0 r4.2.1.length]) (args := [.pv ((E3.ro ((r9.2.1.drop (0 + 0)).take (r4.2.1.length - 0)))), .pv ((E3.ro r4.2.1))]) (g := (!((((r9.2.2.2.1 : Int) == a1) || r32) || (decide ((((r9.2.1.length : Nat) : Int) : Int) < ((r4.2.1.length : Nat) : Int)))))) (ws := [(!((((r9.2.2.2.1 : Int) == a1) || r32) || (decide ((((r9.2.1.length : Nat) : Int) : Int) < ((r4.2.1.length : Nat) : Int))))) = true, (!((((r9.2.2.2.1 : Int) == a1) || r32) || (decide ((((r9.2.1.length : Nat) : Int) : Int) < ((r4.2.1.length : Nat) : Int))))) = true]) (ps := [(r4.2.1.length - 0) = ((r9.2.1.drop (0 + 0)).take (r4.2.1.length - 0)).length, rowQ (E3.cR r9.2.1) 1 (0 + 0) (r4.2.1.length - 0) (fun i j => E3.cf (((r9.2.1.drop (0 + 0)).take (r4.2.1.length - 0)).getD i E3.z) j), r4.2.1.length = r4.2.1.length, rowQ (E3.cR r4.2.1) 1 0 r4.2.1.length (fun i j => E3.cf (r4.2.1.getD i E3.z) j)]) (by as_aux_lemma => kernel_rfl) (fun hg => ⟨((by decide : ∀ y0 : Bool, ((y0 = true) → (y0 = true))) (!((((r9.2.2.2.1 : Int) == a1) || r32) || (decide ((((r9.2.1.length : Nat) : Int) : Int) < ((r4.2.1.length : Nat) : Int)))))) hg, ((by decide : ∀ y0 : Bool, ((y0 = true) → (y0 = true))) (!((((r9.2.2.2.1 : Int) == a1) || r32) || (decide ((((r9.2.1.length : Nat) : Int) : Int) < ((r4.2.1.length : Nat) : Int)))))) hg, trivial⟩) (fun hg => slices_Equal_int_ok _ _ _ (by rw [hg] at e46; exact e46) (al := false)) (by as_aux_lemma => kernel_rfl) (fun hg => (by have q0 := g43 hg; have q1 := g44 hg; exact ⟨(by first | rfl | exact Elem.sub_len _ (by omega) | simp | (simp <;> omega)), E3.rowQ_part r9.2.1 (0 + 0) (r4.2.1.length - 0) (by first | omega | (simp at * <;> omega) | (simp_all <;> omega)), (by first | rfl | exact Elem.sub_len _ (by omega) | simp | (simp <;> omega)), E3.rowQ_all r4.2.1 rfl, trivial⟩)) (fun hx => by cases hx) ?_
        refine segs [] tabOk mixed 4000 (S := .and (((!((((r9.2.2.2.1 : Int) == a1) || r32) || (decide ((((r9.2.1.length : Nat) : Int) : Int) < ((r4.2.1.length : Nat) : Int))))) = true → ((!((((r9.2.2.2.1 : Int) == a1) || r32) || (decide ((((r9.2.1.length : Nat) : Int) : Int) < ((r4.2.1.length : Nat) : Int))))) = true))) (.and (((((r9.2.2.2.1 : Int) == a1) || r32) || (decide ((((r9.2.1.length : Nat) : Int) : Int) < ((r4.2.1.length : Nat) : Int)))) = false → (!((((r9.2.2.2.1 : Int) == a1) || r32) || (decide ((((r9.2.1.length : Nat) : Int) : Int) < ((r4.2.1.length : Nat) : Int))))) = true) (.br (((((r9.2.2.2.1 : Int) == a1) || r32) || (decide ((((r9.2.1.length : Nat) : Int) : Int) < ((r4.2.1.length : Nat) : Int)))) || (!r45)) (.leaf 0) (.leaf 1)))) (by as_aux_lemma => kernel_rfl) ?_
        refine sk_and ((by decide : ∀ y0 : Bool, ((y0 = true) → (y0 = true))) (!((((r9.2.2.2.1 : Int) == a1) || r32) || (decide ((((r9.2.1.length : Nat) : Int) : Int) < ((r4.2.1.length : Nat) : Int)))))) ?_
        refine sk_and ((by decide : ∀ y0 : Bool, ((y0 = false) → ((!y0) = true))) ((((r9.2.2.2.1 : Int) == a1) || r32) || (decide ((((r9.2.1.length : Nat) : Int) : Int) < ((r4.2.1.length : Nat) : Int))))) ?_
        refine br_ h ?_ ?_ <;> clear h <;> intro c49 h
        · refine sk_leaf ?_
          obtain rfl := some_ h
          exact end_ok [] Try.results11 (ps := [false = false]) (by as_aux_lemma => kernel_rfl) ⟨rfl, trivial⟩ (fun _ => ⟨rfl, by simp⟩)
        · refine sk_leaf ?_
          obtain ⟨r50, e51, h⟩ := bd_ h
          refine callG_ok (d := some 107) (fn := 20) (ax := [.row 16690 1 0 r4.2.2.1.length, .pv (.raw (.int .i64 a1))]) (args := [.pv ((E3.ro r4.2.2.1)), .pv (.raw (.int .i64 a1))]) (g := ((r4.2.2.2.1 : Int) != a1)) (ws := [((r4.2.2.2.1 : Int) != a1) = true, ((r4.2.2.2.1 : Int) != a1) = true]) (ps := [r4.2.2.1.length = r4.2.2.1.length, rowQ (E3.cR r4.2.2.1) 1 0 r4.2.2.1.length (fun i j => E3.cf (r4.2.2.1.getD i E3.z) j), (a1 : Int) = a1]) (by as_aux_lemma => kernel_rfl) (fun hg => ⟨((by decide : ∀ y0 : Bool, ((y0 = true) → (y0 = true))) ((r4.2.2.2.1 : Int) != a1)) hg, ((by decide : ∀ y0 : Bool, ((y0 = true) → (y0 = true))) ((r4.2.2.2.1 : Int) != a1)) hg, trivial⟩) (fun hg => slices_Contains_int_ok _ _ _ (by rw [hg] at e51; exact e51) (al := false)) (by as_aux_lemma => kernel_rfl) (fun hg => ⟨(by first | rfl | exact Elem.sub_len _ (by omega) | simp | (simp <;> omega)), E3.rowQ_all r4.2.2.1 rfl, rfl, trivial⟩) (fun hx => by cases hx) ?_
          refine segs [] tabOk mixed 4000 (S := .and ((((r4.2.2.2.1 : Int) != a1) = true → (((r4.2.2.2.1 : Int) != a1) = true))) (.and (((r4.2.2.2.1 : Int) != a1) = true → ((r4.2.2.2.1 : Int) != a1) = true) (.br (((r4.2.2.2.1 : Int) != a1) && (!r50)) (.and ((((((r9.2.1.length : Nat) : Int) : Int) == ((r4.2.1.length : Nat) : Int)) = true → (((((r9.2.1.length : Nat) : Int) : Int) == ((r4.2.1.length : Nat) : Int)) = true))) (.and ((((((r9.2.1.length : Nat) : Int) : Int) == ((r4.2.1.length : Nat) : Int)) = true → (((((r9.2.1.length : Nat) : Int) : Int) == ((r4.2.1.length : Nat) : Int)) = true))) (.and (((((r9.2.1.length : Nat) : Int) : Int) == ((r4.2.1.length : Nat) : Int)) = true → ((((r9.2.1.length : Nat) : Int) : Int) == ((r4.2.1.length : Nat) : Int)) = true) (.leaf 0)))) (.and (0 ≤ ((IntKind.i64.wrap (((r9.2.1.length : Nat) : Int) - 1)) : Int) ∧ (IntKind.i64.wrap (((r9.2.1.length : Nat) : Int) - 1)) < ((r9.2.1.length : Nat) : Int)) (.leaf 1))))) (by as_aux_lemma => kernel_rfl) ?_
          refine sk_and ((by decide : ∀ y0 : Bool, ((y0 = true) → (y0 = true))) ((r4.2.2.2.1 : Int) != a1)) ?_
          refine sk_and ((by decide : ∀ y0 : Bool, ((y0 = true) → (y0 = true))) ((r4.2.2.2.1 : Int) != a1)) ?_
          refine br_ h ?_ ?_ <;> clear h <;> intro c54 h
          · refine sk_and ((by decide : ∀ y0 : Bool, ((y0 = true) → (y0 = true))) ((((r9.2.1.length : Nat) : Int) : Int) == ((r4.2.1.length : Nat) : Int))) ?_
            refine sk_and ((by decide : ∀ y0 : Bool, ((y0 = true) → (y0 = true))) ((((r9.2.1.length : Nat) : Int) : Int) == ((r4.2.1.length : Nat) : Int))) ?_
            refine sk_and ((by decide : ∀ y0 : Bool, ((y0 = true) → (y0 = true))) ((((r9.2.1.length : Nat) : Int) : Int) == ((r4.2.1.length : Nat) : Int))) ?_
            refine sk_leaf ?_
            obtain rfl := some_ h
            exact end_ok [] Try.results11 (ps := [(((((r9.2.1.length : Nat) : Int) : Int) == ((r4.2.1.length : Nat) : Int)) && ((r9.2.2.2.1 : Int) == r4.2.2.2.1)) = (((((r9.2.1.length : Nat) : Int) : Int) == ((r4.2.1.length : Nat) : Int)) && ((r9.2.2.2.1 : Int) == r4.2.2.2.1))]) (by as_aux_lemma => kernel_rfl) ⟨rfl, trivial⟩ (fun _ => ⟨rfl, by simp⟩)
          · refine gd_ h ?_; clear h; intro g58 h
            refine sk_leaf ?_
            refine ld_ok (d := 125) (id := 16897) (i := (0 + (Int.toNat (IntKind.i64.wrap (((r9.2.1.length : Nat) : Int) - 1))))) (j := 0) (e := 3) (n := 1) E3 (xs := r9.2.1) (by as_aux_lemma => kernel_rfl) (by as_aux_lemma => kernel_rfl) (by first | omega | (simp at * <;> omega) | (simp_all <;> omega)) (by exact Nat.le_of_ble_eq_true rfl) ?_
            refine segs [] tabOk mixed 4000 (S := .and (((((r9.2.1.getD (0 + (Int.toNat (IntKind.i64.wrap (((r9.2.1.length : Nat) : Int) - 1)))) 0) : Int) == a1) = true → ((((r9.2.1.getD (0 + (Int.toNat (IntKind.i64.wrap (((r9.2.1.length : Nat) : Int) - 1)))) 0) : Int) == a1) = true))) (.and ((((r9.2.1.getD (0 + (Int.toNat (IntKind.i64.wrap (((r9.2.1.length : Nat) : Int) - 1)))) 0) : Int) == a1) = true → (((r9.2.1.getD (0 + (Int.toNat (IntKind.i64.wrap (((r9.2.1.length : Nat) : Int) - 1)))) 0) : Int) == a1) = true) (.leaf 0))) (by as_aux_lemma => kernel_rfl) ?_
            refine sk_and ((by decide : ∀ y0 : Bool, ((y0 = true) → (y0 = true))) (((r9.2.1.getD (0 + (Int.toNat (IntKind.i64.wrap (((r9.2.1.length : Nat) : Int) - 1)))) 0) : Int) == a1)) ?_
            refine sk_and ((by decide : ∀ y0 : Bool, ((y0 = true) → (y0 = true))) (((r9.2.1.getD (0 + (Int.toNat (IntKind.i64.wrap (((r9.2.1.length : Nat) : Int) - 1)))) 0) : Int) == a1)) ?_
            refine sk_leaf ?_
            obtain rfl := some_ h
            exact end_ok [] Try.results11 (ps := [((((r9.2.1.getD (0 + (Int.toNat (IntKind.i64.wrap (((r9.2.1.length : Nat) : Int) - 1)))) 0) : Int) == a1) && ((r9.2.2.2.1 : Int) == (-1))) = ((((r9.2.1.getD (0 + (Int.toNat (IntKind.i64.wrap (((r9.2.1.length : Nat) : Int) - 1)))) 0) : Int) == a1) && ((r9.2.2.2.1 : Int) == (-1)))]) (by as_aux_lemma => kernel_rfl) ⟨rfl, trivial⟩ (fun _ => ⟨rfl, by simp⟩)

set_option maxHeartbeats 40000000 in
set_option maxRecDepth 100000 in
theorem keep_WorkAgain_ok (a0 : (List Api_WorkOp)) (r : Bool) (h : keep_WorkAgain a0 = some r) {al : Bool} : PCalls Try.prog 12 [.pv ((E52.ro a0))] al (.pv (.raw (.bool r))) [] := by
  unfold keep_WorkAgain at h
  refine fn_ok tabOk Try.func12 (by as_aux_lemma => kernel_rfl) (by as_aux_lemma => kernel_rfl) Try.ntmps12 (by simp) ?_
  refine segs [] tabOk mixed 4000 (S := .leaf 0) (by as_aux_lemma => kernel_rfl) ?_
  refine sk_leaf ?_
  obtain ⟨r1, e2, h⟩ := bd_ h
  refine call_ok (d := some 16) (fn := 24) (ax := []) (args := []) (ps := []) (hb' := []) (by as_aux_lemma => kernel_rfl) (keep_alive12_ok  _ e2 (al := true)) (by as_aux_lemma => kernel_rfl) trivial (fun _ => (by as_aux_lemma => kernel_rfl)) (by simp) rfl (by as_aux_lemma => kernel_rfl) ?_
  refine segs [] tabOk mixed 4000 (S := .br (!r1) (.leaf 0) (.leaf 1)) (by as_aux_lemma => kernel_rfl) ?_
  refine br_ h ?_ ?_ <;> clear h <;> intro c3 h
  · refine sk_leaf ?_
    obtain rfl := some_ h
    exact end_ok [] Try.results12 (ps := [false = false]) (by as_aux_lemma => kernel_rfl) ⟨rfl, trivial⟩ (fun _ => ⟨rfl, by simp⟩)
  · refine sk_leaf ?_
    obtain ⟨r4, e5, h⟩ := bd_ h
    refine call_ok (d := some 20) (fn := 25) (ax := [.pv ((E52.ro a0))]) (args := [.pv ((E52.ro a0))]) (ps := [a0.length = a0.length, ∀ i, i < a0.length → ∀ j, j < 2 → E52.cf (a0.getD i E52.z) j = E52.cf (a0.getD i E52.z) j]) (hb' := [.row 31 1 (E31.cR r4.1), .row 3 1 (E3.cR r4.2.1), .row 3 1 (E3.cR r4.2.2.1)]) (by as_aux_lemma => kernel_rfl) (work_Play_ok _ _ e5 (al := true)) (by as_aux_lemma => kernel_rfl) ⟨rfl, fun _ _ _ _ => rfl, trivial⟩ (fun _ => (by as_aux_lemma => kernel_rfl)) (by simp) (by simp only [List.map_cons, List.map_nil, Elem.row_up]) (by as_aux_lemma => kernel_rfl) ?_
    refine segs [] tabOk mixed 4000 (S := .and (((!((r4.2.2.2.2 : Int) != 0)) = true → ((!((r4.2.2.2.2 : Int) != 0)) = true))) (.and (((r4.2.2.2.2 : Int) != 0) = false → (!((r4.2.2.2.2 : Int) != 0)) = true) (.leaf 0))) (by as_aux_lemma => kernel_rfl) ?_
    refine sk_and ((by decide : ∀ y0 : Bool, ((y0 = true) → (y0 = true))) (!((r4.2.2.2.2 : Int) != 0))) ?_
    refine sk_and ((by decide : ∀ y0 : Bool, ((y0 = false) → ((!y0) = true))) ((r4.2.2.2.2 : Int) != 0)) ?_
    refine sk_leaf ?_
    obtain ⟨r8, e9, h⟩ := bd_ h
    refine callG_ok (d := some 35) (fn := 20) (ax := [.row 16706 1 0 r4.2.2.1.length, .pv (.raw (.int .i64 r4.2.2.2.1))]) (args := [.pv ((E3.ro r4.2.2.1)), .pv (.raw (.int .i64 r4.2.2.2.1))]) (g := (!(((r4.2.2.2.2 : Int) != 0) || (decide ((r4.2.2.2.1 : Int) < 0))))) (ws := [(!(((r4.2.2.2.2 : Int) != 0) || (decide ((r4.2.2.2.1 : Int) < 0)))) = true, (!(((r4.2.2.2.2 : Int) != 0) || (decide ((r4.2.2.2.1 : Int) < 0)))) = true]) (ps := [r4.2.2.1.length = r4.2.2.1.length, rowQ (E3.cR r4.2.2.1) 1 0 r4.2.2.1.length (fun i j => E3.cf (r4.2.2.1.getD i E3.z) j), (r4.2.2.2.1 : Int) = r4.2.2.2.1]) (by as_aux_lemma => kernel_rfl) (fun hg => ⟨((by decide : ∀ y0 : Bool, ((y0 = true) → (y0 = true))) (!(((r4.2.2.2.2 : Int) != 0) || (decide ((r4.2.2.2.1 : Int) < 0))))) hg, ((by decide : ∀ y0 : Bool, ((y0 = true) → (y0 = true))) (!(((r4.2.2.2.2 : Int) != 0) || (decide ((r4.2.2.2.1 : Int) < 0))))) hg, trivial⟩) (fun hg => slices_Contains_int_ok _ _ _ (by rw [hg] at e9; exact e9) (al := false)) (by as_aux_lemma => kernel_rfl) (fun hg => ⟨(by first | rfl | exact Elem.sub_len _ (by omega) | simp | (simp <;> omega)), E3.rowQ_all r4.2.2.1 rfl, rfl, trivial⟩) (fun hx => by cases hx) ?_
    refine segs [] tabOk mixed 4000 (S := .and ((((r4.2.2.2.2 : Int) != 0) || (decide ((r4.2.2.2.1 : Int) < 0))) = false → (!(((r4.2.2.2.2 : Int) != 0) || (decide ((r4.2.2.2.1 : Int) < 0)))) = true) (.and (((!((((r4.2.2.2.2 : Int) != 0) || (decide ((r4.2.2.2.1 : Int) < 0))) || r8)) = true → ((!((((r4.2.2.2.2 : Int) != 0) || (decide ((r4.2.2.2.1 : Int) < 0))) || r8)) = true))) (.and (((!((((r4.2.2.2.2 : Int) != 0) || (decide ((r4.2.2.2.1 : Int) < 0))) || r8)) = true → ((!((((r4.2.2.2.2 : Int) != 0) || (decide ((r4.2.2.2.1 : Int) < 0))) || r8)) = true))) (.and (((((r4.2.2.2.2 : Int) != 0) || (decide ((r4.2.2.2.1 : Int) < 0))) || r8) = false → (!((((r4.2.2.2.2 : Int) != 0) || (decide ((r4.2.2.2.1 : Int) < 0))) || r8)) = true) (.br (((((r4.2.2.2.2 : Int) != 0) || (decide ((r4.2.2.2.1 : Int) < 0))) || r8) || (decide ((((a0.length : Nat) : Int) : Int) > 398))) (.leaf 0) (.leaf 1)))))) (by as_aux_lemma => kernel_rfl) ?_
    refine sk_and ((by decide : ∀ y0 : Bool, ((y0 = false) → ((!y0) = true))) (((r4.2.2.2.2 : Int) != 0) || (decide ((r4.2.2.2.1 : Int) < 0)))) ?_
    refine sk_and ((by decide : ∀ y0 : Bool, ((y0 = true) → (y0 = true))) (!((((r4.2.2.2.2 : Int) != 0) || (decide ((r4.2.2.2.1 : Int) < 0))) || r8))) ?_
    refine sk_and ((by decide : ∀ y0 : Bool, ((y0 = true) → (y0 = true))) (!((((r4.2.2.2.2 : Int) != 0) || (decide ((r4.2.2.2.1 : Int) < 0))) || r8))) ?_
    refine sk_and ((by decide : ∀ y0 : Bool, ((y0 = false) → ((!y0) = true))) ((((r4.2.2.2.2 : Int) != 0) || (decide ((r4.2.2.2.1 : Int) < 0))) || r8)) ?_
    refine br_ h ?_ ?_ <;> clear h <;> intro c14 h
    · refine sk_leaf ?_
      obtain rfl := some_ h
      exact end_ok [] Try.results12 (ps := [true = true]) (by as_aux_lemma => kernel_rfl) ⟨rfl, trivial⟩ (fun _ => ⟨rfl, by simp⟩)
    · refine sk_leaf ?_
      obtain ⟨r15, e16, h⟩ := bd_ h
      refine call_ok (d := some 44) (fn := 27) (ax := [.pv ((E52.ro a0))]) (args := [.pv ((E52.ro a0))]) (ps := [a0.length = a0.length, ∀ i, i < a0.length → ∀ j, j < 2 → E52.cf (a0.getD i E52.z) j = E52.cf (a0.getD i E52.z) j]) (hb' := [.row 52 2 (E52.cR r15)]) (by as_aux_lemma => kernel_rfl) (slices_Clone_api_WorkOp_ok _ _ e16 (al := true)) (by as_aux_lemma => kernel_rfl) ⟨rfl, fun _ _ _ _ => rfl, trivial⟩ (fun _ => (by as_aux_lemma => kernel_rfl)) (by simp) (by simp only [List.map_cons, List.map_nil, Elem.row_up]) (by as_aux_lemma => kernel_rfl) ?_
      refine segs [] tabOk mixed 4000 (S := .leaf 0) (by as_aux_lemma => kernel_rfl) ?_
      refine sk_leaf ?_
      refine bs_ok (d := 49) (e := 52) (s := 2) (n := 2) (cs := [.pv (.raw (.int .i64 1)), .pv (.raw (.int .i64 r4.2.2.2.1)), .pv (.raw (.int .i64 5)), .pv (.raw (.int .i64 r4.2.2.2.1))]) (cs' := E52.cR [(⟨1, r4.2.2.2.1⟩ : Api_WorkOp), (⟨5, r4.2.2.2.1⟩ : Api_WorkOp)]) (by as_aux_lemma => kernel_rfl) rfl (by as_aux_lemma => kernel_rfl) ?_
      refine segs [] tabOk mixed 4000 (S := .leaf 0) (by as_aux_lemma => kernel_rfl) ?_
      refine sk_leaf ?_
      obtain ⟨g17, h⟩ := if_ h
      refine app_ok (d := 50) (e := 52) (s := 2) (b := 16) (x := .row 17088 2 0 r15.length) (y := .row 17168 2 0 2) E52 (xs := r15) (ys := [(⟨1, r4.2.2.2.1⟩ : Api_WorkOp), (⟨5, r4.2.2.2.1⟩ : Api_WorkOp)]) (by as_aux_lemma => kernel_rfl) rfl (.row 17088 r15 r15.length rfl (by as_aux_lemma => kernel_rfl)) (.all 17168 52 [(⟨1, r4.2.2.2.1⟩ : Api_WorkOp), (⟨5, r4.2.2.2.1⟩ : Api_WorkOp)] 2 rfl (by as_aux_lemma => kernel_rfl)) g17 (by as_aux_lemma => kernel_rfl) ?_
      refine segs [] tabOk mixed 4000 (S := .leaf 0) (by as_aux_lemma => kernel_rfl) ?_
      refine sk_leaf ?_
      obtain ⟨r18, e19, h⟩ := bd_ h
      refine call_ok (d := some 51) (fn := 25) (ax := [.row 17184 2 0 ((r15 ++ [(⟨1, r4.2.2.2.1⟩ : Api_WorkOp), (⟨5, r4.2.2.2.1⟩ : Api_WorkOp)]).length)]) (args := [.pv ((E52.ro (r15 ++ [(⟨1, r4.2.2.2.1⟩ : Api_WorkOp), (⟨5, r4.2.2.2.1⟩ : Api_WorkOp)])))]) (ps := [((r15 ++ [(⟨1, r4.2.2.2.1⟩ : Api_WorkOp), (⟨5, r4.2.2.2.1⟩ : Api_WorkOp)]).length) = (r15 ++ [(⟨1, r4.2.2.2.1⟩ : Api_WorkOp), (⟨5, r4.2.2.2.1⟩ : Api_WorkOp)]).length, rowQ (E52.cR (r15 ++ [(⟨1, r4.2.2.2.1⟩ : Api_WorkOp), (⟨5, r4.2.2.2.1⟩ : Api_WorkOp)])) 2 0 ((r15 ++ [(⟨1, r4.2.2.2.1⟩ : Api_WorkOp), (⟨5, r4.2.2.2.1⟩ : Api_WorkOp)]).length) (fun i j => E52.cf ((r15 ++ [(⟨1, r4.2.2.2.1⟩ : Api_WorkOp), (⟨5, r4.2.2.2.1⟩ : Api_WorkOp)]).getD i E52.z) j)]) (hb' := [.row 31 1 (E31.cR r18.1), .row 3 1 (E3.cR r18.2.1), .row 3 1 (E3.cR r18.2.2.1)]) (by as_aux_lemma => kernel_rfl) (work_Play_ok _ _ e19 (al := false)) (by as_aux_lemma => kernel_rfl) ⟨(by first | rfl | exact Elem.sub_len _ (by omega) | simp | (simp <;> omega)), E52.rowQ_all (r15 ++ [(⟨1, r4.2.2.2.1⟩ : Api_WorkOp), (⟨5, r4.2.2.2.1⟩ : Api_WorkOp)]) rfl, trivial⟩ (fun hx => by cases hx) (by simp) (by simp only [List.map_cons, List.map_nil, Elem.row_up]) (by as_aux_lemma => kernel_rfl) ?_
      refine segs [] tabOk mixed 4000 (S := .and (0 ≤ ((if (((r18.2.1.length : Nat) : Int) : Int) < ((r4.2.1.length : Nat) : Int) then ((r18.2.1.length : Nat) : Int) else ((r4.2.1.length : Nat) : Int)) : Int)) (.and ((Int.toNat (if (((r18.2.1.length : Nat) : Int) : Int) < ((r4.2.1.length : Nat) : Int) then ((r18.2.1.length : Nat) : Int) else ((r4.2.1.length : Nat) : Int))) ≤ r18.2.1.length) (.leaf 0))) (by as_aux_lemma => kernel_rfl) ?_
      refine gd_ h ?_; clear h; intro g20 h
      refine gd_ h ?_; clear h; intro g21 h
      refine sk_leaf ?_
      refine len_ro (by as_aux_lemma => kernel_rfl) 0 (s := 2) (n := a0.length) (c := fun i j => E52.cf (a0.getD i E52.z) j) (by as_aux_lemma => kernel_rfl) ?_; intro hl1_0
      refine len_row (by as_aux_lemma => kernel_rfl) 16704 (e := 31) (s := 1) (n := r4.1.length) (cs := E31.cR r4.1) (by as_aux_lemma => kernel_rfl) (Elem.cR_length _ _) ?_; intro hl1_1
      refine len_row (by as_aux_lemma => kernel_rfl) 16705 (e := 3) (s := 1) (n := r4.2.1.length) (cs := E3.cR r4.2.1) (by as_aux_lemma => kernel_rfl) (Elem.cR_length _ _) ?_; intro hl1_2
      refine len_row (by as_aux_lemma => kernel_rfl) 16706 (e := 3) (s := 1) (n := r4.2.2.1.length) (cs := E3.cR r4.2.2.1) (by as_aux_lemma => kernel_rfl) (Elem.cR_length _ _) ?_; intro hl1_3
      refine len_row (by as_aux_lemma => kernel_rfl) 17168 (e := 52) (s := 2) (n := [(⟨1, r4.2.2.2.1⟩ : Api_WorkOp), (⟨5, r4.2.2.2.1⟩ : Api_WorkOp)].length) (cs := E52.cR [(⟨1, r4.2.2.2.1⟩ : Api_WorkOp), (⟨5, r4.2.2.2.1⟩ : Api_WorkOp)]) (by as_aux_lemma => kernel_rfl) (Elem.cR_length _ _) ?_; intro hl1_4
      refine len_row (by as_aux_lemma => kernel_rfl) 17184 (e := 52) (s := 2) (n := (r15 ++ [(⟨1, r4.2.2.2.1⟩ : Api_WorkOp), (⟨5, r4.2.2.2.1⟩ : Api_WorkOp)]).length) (cs := E52.cR (r15 ++ [(⟨1, r4.2.2.2.1⟩ : Api_WorkOp), (⟨5, r4.2.2.2.1⟩ : Api_WorkOp)])) (by as_aux_lemma => kernel_rfl) (Elem.cR_length _ _) ?_; intro hl1_5
      refine len_row (by as_aux_lemma => kernel_rfl) 17200 (e := 31) (s := 1) (n := r18.1.length) (cs := E31.cR r18.1) (by as_aux_lemma => kernel_rfl) (Elem.cR_length _ _) ?_; intro hl1_6
      refine len_row (by as_aux_lemma => kernel_rfl) 17201 (e := 3) (s := 1) (n := r18.2.1.length) (cs := E3.cR r18.2.1) (by as_aux_lemma => kernel_rfl) (Elem.cR_length _ _) ?_; intro hl1_7
      refine len_row (by as_aux_lemma => kernel_rfl) 17202 (e := 3) (s := 1) (n := r18.2.2.1.length) (cs := E3.cR r18.2.2.1) (by as_aux_lemma => kernel_rfl) (Elem.cR_length _ _) ?_; intro hl1_8
      replace h : (fun (x : Nat × Int × Nat) => keep_WorkAgain_l1 a0 r4 r18 x.1 x.2.1 x.2.2 = some r) (FUEL, 0, 0) := h
      refine loop_ok (by as_aux_lemma => kernel_rfl) (X := Nat × Int × Nat) (fun x => keep_WorkAgain_l1 a0 r4 r18 x.1 x.2.1 x.2.2 = some r) (fun x => x.1) (fun x => mk 89 [(0, .pv ((E52.ro a0))), (2, .pv (.raw (.bool false))), (6, .pv (.raw (.int .i64 r4.2.2.2.1))), (8, .row 0 1 0 r18.1.length), (12, .pv (.raw (.int .i64 r18.2.2.2.2))), (13, .pv (.raw (.int .i64 x.2.1))), (63, .row 1 1 (0 + (Int.toNat (if (((r18.2.1.length : Nat) : Int) : Int) < ((r4.2.1.length : Nat) : Int) then ((r18.2.1.length : Nat) : Int) else ((r4.2.1.length : Nat) : Int)))) (r18.2.1.length - (Int.toNat (if (((r18.2.1.length : Nat) : Int) : Int) < ((r4.2.1.length : Nat) : Int) then ((r18.2.1.length : Nat) : Int) else ((r4.2.1.length : Nat) : Int))))), (64, .pv (.raw (.int .i64 (((r18.2.1.length - (Int.toNat (if (((r18.2.1.length : Nat) : Int) : Int) < ((r4.2.1.length : Nat) : Int) then ((r18.2.1.length : Nat) : Int) else ((r4.2.1.length : Nat) : Int)))) : Nat) : Int)))), (65, .pv (.raw (.int .i64 ((x.2.2 : Nat) : Int))))] [(0, .row 31 1 (E31.cR r18.1)), (1, .row 3 1 (E3.cR r18.2.1))]) (FUEL, 0, 0) h ?_ ?_
      · exact sub_ok (ρ := [(0, some 17200), (1, some 17201)]) (l := [a0.length = a0.length, ∀ i, i < a0.length → ∀ j, j < 2 → E52.cf (a0.getD i E52.z) j = E52.cf (a0.getD i E52.z) j, false = false, (r4.2.2.2.1 : Int) = r4.2.2.2.1, 0 = 0, r18.1.length = r18.1.length, (r18.2.2.2.2 : Int) = r18.2.2.2.2, (0 : Int) = 0, (0 + (Int.toNat (if (((r18.2.1.length : Nat) : Int) : Int) < ((r4.2.1.length : Nat) : Int) then ((r18.2.1.length : Nat) : Int) else ((r4.2.1.length : Nat) : Int)))) = (0 + (Int.toNat (if (((r18.2.1.length : Nat) : Int) : Int) < ((r4.2.1.length : Nat) : Int) then ((r18.2.1.length : Nat) : Int) else ((r4.2.1.length : Nat) : Int)))), (r18.2.1.length - (Int.toNat (if (((r18.2.1.length : Nat) : Int) : Int) < ((r4.2.1.length : Nat) : Int) then ((r18.2.1.length : Nat) : Int) else ((r4.2.1.length : Nat) : Int)))) = (r18.2.1.length - (Int.toNat (if (((r18.2.1.length : Nat) : Int) : Int) < ((r4.2.1.length : Nat) : Int) then ((r18.2.1.length : Nat) : Int) else ((r4.2.1.length : Nat) : Int)))), ((((r18.2.1.length - (Int.toNat (if (((r18.2.1.length : Nat) : Int) : Int) < ((r4.2.1.length : Nat) : Int) then ((r18.2.1.length : Nat) : Int) else ((r4.2.1.length : Nat) : Int)))) : Nat) : Int) : Int) = (((r18.2.1.length - (Int.toNat (if (((r18.2.1.length : Nat) : Int) : Int) < ((r4.2.1.length : Nat) : Int) then ((r18.2.1.length : Nat) : Int) else ((r4.2.1.length : Nat) : Int)))) : Nat) : Int), (0 : Int) = ((0 : Nat) : Int), E31.cR r18.1 = E31.cR r18.1, AllPv (E31.cR r18.1), E3.cR r18.2.1 = E3.cR r18.2.1, AllPv (E3.cR r18.2.1)]) (by as_aux_lemma => kernel_rfl) ⟨rfl, fun _ _ _ _ => rfl, rfl, rfl, rfl, rfl, rfl, rfl, rfl, rfl, rfl, (by first | rfl | simp), rfl, (Elem.cR_pv _ _), rfl, (Elem.cR_pv _ _), trivial⟩
      · clear h; rintro ⟨n1, x22, k23⟩ h p1 hp1
        obtain _ | n1 := n1
        · cases (show (none : Option (Bool)) = some r from h)
        have h : keep_WorkAgain_l1 a0 r4 r18 (n1 + 1) x22 k23 = some r := h
        unfold keep_WorkAgain_l1 at h
        refine segs [] tabOk mixed 4000 (S := .br (decide ((((k23 : Nat) : Int) : Int) < (((r18.2.1.length - (Int.toNat (if (((r18.2.1.length : Nat) : Int) : Int) < ((r4.2.1.length : Nat) : Int) then ((r18.2.1.length : Nat) : Int) else ((r4.2.1.length : Nat) : Int)))) : Nat) : Int))) (.and (0 ≤ (((k23 : Nat) : Int) : Int) ∧ ((k23 : Nat) : Int) < (((r18.2.1.length - (Int.toNat (if (((r18.2.1.length : Nat) : Int) : Int) < ((r4.2.1.length : Nat) : Int) then ((r18.2.1.length : Nat) : Int) else ((r4.2.1.length : Nat) : Int)))) : Nat) : Int)) (.leaf 0)) (.and ((((r18.2.2.2.2 : Int) == 0) = true → (((r18.2.2.2.2 : Int) == 0) = true))) (.and ((((r18.2.2.2.2 : Int) == 0) = true → (((r18.2.2.2.2 : Int) == 0) = true))) (.and ((((r18.2.2.2.2 : Int) == 0) = true → (((r18.2.2.2.2 : Int) == 0) = true))) (.and ((((r18.2.2.2.2 : Int) == 0) = true → (0 ≤ (((a0.length : Nat) : Int) : Int) ∧ ((a0.length : Nat) : Int) < ((r18.1.length : Nat) : Int)))) (.leaf 1)))))) (by as_aux_lemma => kernel_rfl) ?_
        refine br_ h ?_ ?_ <;> clear h <;> intro c24 h
        · refine sk_and ⟨Int.natCast_nonneg _, of_decide_eq_true c24⟩ ?_
          refine sk_leaf ?_
          refine ld_ok (d := 68) (id := 1) (i := ((0 + (Int.toNat (if (((r18.2.1.length : Nat) : Int) : Int) < ((r4.2.1.length : Nat) : Int) then ((r18.2.1.length : Nat) : Int) else ((r4.2.1.length : Nat) : Int)))) + k23)) (j := 0) (e := 3) (n := 1) E3 (xs := r18.2.1) (by as_aux_lemma => kernel_rfl) (by as_aux_lemma => kernel_rfl) (by first | omega | (simp at * <;> omega) | (simp_all <;> omega)) (by exact Nat.le_of_ble_eq_true rfl) ?_
          refine segs [] tabOk mixed 4000 (S := .br (((r18.2.1.getD ((0 + (Int.toNat (if (((r18.2.1.length : Nat) : Int) : Int) < ((r4.2.1.length : Nat) : Int) then ((r18.2.1.length : Nat) : Int) else ((r4.2.1.length : Nat) : Int)))) + k23) 0) : Int) == r4.2.2.2.1) (.leaf 0) (.leaf 1)) (by as_aux_lemma => kernel_rfl) ?_
          refine br_ h ?_ ?_ <;> clear h <;> intro c26 h
          · refine sk_leaf ?_
            refine back_ok (p := p1) (by as_aux_lemma => kernel_rfl) (hp1 (n1, (IntKind.i64.wrap (x22 + 1)), k23 + 1) _ h (Nat.lt_succ_self n1) ?_)
            exact sub_ok (ρ := [(0, some 0), (1, some 1)]) (l := [a0.length = a0.length, ∀ i, i < a0.length → ∀ j, j < 2 → E52.cf (a0.getD i E52.z) j = E52.cf (a0.getD i E52.z) j, false = false, (r4.2.2.2.1 : Int) = r4.2.2.2.1, 0 = 0, r18.1.length = r18.1.length, (r18.2.2.2.2 : Int) = r18.2.2.2.2, ((IntKind.i64.wrap (x22 + 1)) : Int) = (IntKind.i64.wrap (x22 + 1)), (0 + (Int.toNat (if (((r18.2.1.length : Nat) : Int) : Int) < ((r4.2.1.length : Nat) : Int) then ((r18.2.1.length : Nat) : Int) else ((r4.2.1.length : Nat) : Int)))) = (0 + (Int.toNat (if (((r18.2.1.length : Nat) : Int) : Int) < ((r4.2.1.length : Nat) : Int) then ((r18.2.1.length : Nat) : Int) else ((r4.2.1.length : Nat) : Int)))), (r18.2.1.length - (Int.toNat (if (((r18.2.1.length : Nat) : Int) : Int) < ((r4.2.1.length : Nat) : Int) then ((r18.2.1.length : Nat) : Int) else ((r4.2.1.length : Nat) : Int)))) = (r18.2.1.length - (Int.toNat (if (((r18.2.1.length : Nat) : Int) : Int) < ((r4.2.1.length : Nat) : Int) then ((r18.2.1.length : Nat) : Int) else ((r4.2.1.length : Nat) : Int)))), ((((r18.2.1.length - (Int.toNat (if (((r18.2.1.length : Nat) : Int) : Int) < ((r4.2.1.length : Nat) : Int) then ((r18.2.1.length : Nat) : Int) else ((r4.2.1.length : Nat) : Int)))) : Nat) : Int) : Int) = (((r18.2.1.length - (Int.toNat (if (((r18.2.1.length : Nat) : Int) : Int) < ((r4.2.1.length : Nat) : Int) then ((r18.2.1.length : Nat) : Int) else ((r4.2.1.length : Nat) : Int)))) : Nat) : Int), ((IntKind.i64.wrap (((k23 : Nat) : Int) + 1)) : Int) = (((k23 + 1) : Nat) : Int), E31.cR r18.1 = E31.cR r18.1, AllPv (E31.cR r18.1), E3.cR r18.2.1 = E3.cR r18.2.1, AllPv (E3.cR r18.2.1)]) (by as_aux_lemma => kernel_rfl) ⟨rfl, fun _ _ _ _ => rfl, rfl, rfl, rfl, rfl, rfl, rfl, rfl, rfl, rfl, (wrap_nat (Int.ofNat_lt.1 (of_decide_eq_true c24)) (by omega)), rfl, (Elem.cR_pv _ _), rfl, (Elem.cR_pv _ _), trivial⟩
          · refine sk_leaf ?_
            refine back_ok (p := p1) (by as_aux_lemma => kernel_rfl) (hp1 (n1, x22, k23 + 1) _ h (Nat.lt_succ_self n1) ?_)
            exact sub_ok (ρ := [(0, some 0), (1, some 1)]) (l := [a0.length = a0.length, ∀ i, i < a0.length → ∀ j, j < 2 → E52.cf (a0.getD i E52.z) j = E52.cf (a0.getD i E52.z) j, false = false, (r4.2.2.2.1 : Int) = r4.2.2.2.1, 0 = 0, r18.1.length = r18.1.length, (r18.2.2.2.2 : Int) = r18.2.2.2.2, (x22 : Int) = x22, (0 + (Int.toNat (if (((r18.2.1.length : Nat) : Int) : Int) < ((r4.2.1.length : Nat) : Int) then ((r18.2.1.length : Nat) : Int) else ((r4.2.1.length : Nat) : Int)))) = (0 + (Int.toNat (if (((r18.2.1.length : Nat) : Int) : Int) < ((r4.2.1.length : Nat) : Int) then ((r18.2.1.length : Nat) : Int) else ((r4.2.1.length : Nat) : Int)))), (r18.2.1.length - (Int.toNat (if (((r18.2.1.length : Nat) : Int) : Int) < ((r4.2.1.length : Nat) : Int) then ((r18.2.1.length : Nat) : Int) else ((r4.2.1.length : Nat) : Int)))) = (r18.2.1.length - (Int.toNat (if (((r18.2.1.length : Nat) : Int) : Int) < ((r4.2.1.length : Nat) : Int) then ((r18.2.1.length : Nat) : Int) else ((r4.2.1.length : Nat) : Int)))), ((((r18.2.1.length - (Int.toNat (if (((r18.2.1.length : Nat) : Int) : Int) < ((r4.2.1.length : Nat) : Int) then ((r18.2.1.length : Nat) : Int) else ((r4.2.1.length : Nat) : Int)))) : Nat) : Int) : Int) = (((r18.2.1.length - (Int.toNat (if (((r18.2.1.length : Nat) : Int) : Int) < ((r4.2.1.length : Nat) : Int) then ((r18.2.1.length : Nat) : Int) else ((r4.2.1.length : Nat) : Int)))) : Nat) : Int), ((IntKind.i64.wrap (((k23 : Nat) : Int) + 1)) : Int) = (((k23 + 1) : Nat) : Int), E31.cR r18.1 = E31.cR r18.1, AllPv (E31.cR r18.1), E3.cR r18.2.1 = E3.cR r18.2.1, AllPv (E3.cR r18.2.1)]) (by as_aux_lemma => kernel_rfl) ⟨rfl, fun _ _ _ _ => rfl, rfl, rfl, rfl, rfl, rfl, rfl, rfl, rfl, rfl, (wrap_nat (Int.ofNat_lt.1 (of_decide_eq_true c24)) (by omega)), rfl, (Elem.cR_pv _ _), rfl, (Elem.cR_pv _ _), trivial⟩
        · refine sk_and ((by decide : ∀ y0 : Bool, ((y0 = true) → (y0 = true))) ((r18.2.2.2.2 : Int) == 0)) ?_
          refine sk_and ((by decide : ∀ y0 : Bool, ((y0 = true) → (y0 = true))) ((r18.2.2.2.2 : Int) == 0)) ?_
          refine sk_and ((by decide : ∀ y0 : Bool, ((y0 = true) → (y0 = true))) ((r18.2.2.2.2 : Int) == 0)) ?_
          refine gd_ h ?_; clear h; intro g30 h
          refine sk_leaf ?_
          refine ldG_ok (d := 82) (id := 0) (i := (0 + a0.length)) (j := 0) (e := 31) (n := 1) (g := ((r18.2.2.2.2 : Int) == 0)) (ws := [((r18.2.2.2.2 : Int) == 0) = true]) E31 (xs := r18.1) (by as_aux_lemma => kernel_rfl) (fun hg => ⟨((by decide : ∀ y0 : Bool, ((y0 = true) → (y0 = true))) ((r18.2.2.2.2 : Int) == 0)) hg, trivial⟩) (by as_aux_lemma => kernel_rfl) (fun hg => (by first | omega | (simp at * <;> omega) | (simp_all <;> omega))) (by exact Nat.le_of_ble_eq_true rfl) ?_
          refine segs [] tabOk mixed 4000 (S := .and ((((r18.2.2.2.2 : Int) == 0) = true → (((r18.2.2.2.2 : Int) == 0) = true))) (.and (((r18.2.2.2.2 : Int) == 0) = true → ((r18.2.2.2.2 : Int) == 0) = true) (.and (((((r18.2.2.2.2 : Int) == 0) && (((r18.1.getD (0 + a0.length) 0) : Int) == 0)) = true → ((((r18.2.2.2.2 : Int) == 0) && (((r18.1.getD (0 + a0.length) 0) : Int) == 0)) = true))) (.and ((((r18.2.2.2.2 : Int) == 0) && (((r18.1.getD (0 + a0.length) 0) : Int) == 0)) = true → (((r18.2.2.2.2 : Int) == 0) && (((r18.1.getD (0 + a0.length) 0) : Int) == 0)) = true) (.leaf 0))))) (by as_aux_lemma => kernel_rfl) ?_
          refine sk_and ((by decide : ∀ y0 : Bool, ((y0 = true) → (y0 = true))) ((r18.2.2.2.2 : Int) == 0)) ?_
          refine sk_and ((by decide : ∀ y0 : Bool, ((y0 = true) → (y0 = true))) ((r18.2.2.2.2 : Int) == 0)) ?_
          refine sk_and ((by decide : ∀ y0 : Bool, ((y0 = true) → (y0 = true))) (((r18.2.2.2.2 : Int) == 0) && (((r18.1.getD (0 + a0.length) 0) : Int) == 0))) ?_
          refine sk_and ((by decide : ∀ y0 : Bool, ((y0 = true) → (y0 = true))) (((r18.2.2.2.2 : Int) == 0) && (((r18.1.getD (0 + a0.length) 0) : Int) == 0))) ?_
          refine sk_leaf ?_
          obtain rfl := some_ h
          exact end_ok [] Try.results12 (ps := [((((r18.2.2.2.2 : Int) == 0) && (((r18.1.getD (0 + a0.length) 0) : Int) == 0)) && ((x22 : Int) == 2)) = ((((r18.2.2.2.2 : Int) == 0) && (((r18.1.getD (0 + a0.length) 0) : Int) == 0)) && ((x22 : Int) == 2))]) (by as_aux_lemma => kernel_rfl) ⟨rfl, trivial⟩ (fun _ => ⟨rfl, by simp⟩)

end Go.Proofs.Ytcbknmjbhjbifaa
