/- The functions do as their models: printed by program. -/
import Derived.Test.YtmmhiggfpdjdcaaQRCW1
set_option linter.unusedSimpArgs false
set_option linter.unusedVariables false
namespace Go.Proofs.Ytmmhiggfpdjdcaa
open Go Go.Ab
attribute [local irreducible] V VS runS Sk.Holds

theorem bits_Len32_ok (a0 : Int) (r : Int) (h : bits_Len32 a0 = some r) {al : Bool} : PCalls Try.prog 32 [.pv (.raw (.int .u32 a0))] al (.pv (.raw (.int .i64 r))) [] := by
  unfold bits_Len32 at h
  obtain ⟨g, h⟩ := if_ h
  obtain rfl := some_ h
  exact raw_pcalls (xs := [.int .u32 a0]) ⟨_, Try.func32, by kernel_rfl, by kernel_rfl⟩ fun w hgo => Try.bits_Len32 a0 w (by omega) (by omega)

set_option maxHeartbeats 40000000 in
set_option maxRecDepth 100000 in
theorem slices_Index_int_ok (a0 : (List Int)) (a1 : Int) (r : Int) (h : slices_Index_int a0 a1 = some r) {al : Bool} : PCalls Try.prog 23 [.pv ((E3.ro a0)), .pv (.raw (.int .i64 a1))] al (.pv (.raw (.int .i64 r))) [] := by
  unfold slices_Index_int at h
  refine fn_ok tabOk Try.func23 (by as_aux_lemma => kernel_rfl) (by as_aux_lemma => kernel_rfl) Try.ntmps23 (by simp) ?_
  refine segs [] tabOk mixed 4000 (S := .leaf 0) (by as_aux_lemma => kernel_rfl) ?_
  refine sk_leaf ?_
  refine len_ro (by as_aux_lemma => kernel_rfl) 0 (s := 1) (n := a0.length) (c := fun i j => E3.cf (a0.getD i E3.z) j) (by as_aux_lemma => kernel_rfl) ?_; intro hl1_0
  replace h : (fun (x : Nat × Nat) => slices_Index_int_l1 a0 a1 x.1 x.2 = some r) (FUEL, 0) := h
  refine loop_ok (by as_aux_lemma => kernel_rfl) (X := Nat × Nat) (fun x => slices_Index_int_l1 a0 a1 x.1 x.2 = some r) (fun x => x.1) (fun x => mk 19 [(0, .pv ((E3.ro a0))), (1, .pv (.raw (.int .i64 a1))), (4, .pv (.raw (.int .i64 0))), (7, .pv (.raw (.int .i64 ((a0.length : Nat) : Int)))), (8, .pv (.raw (.int .i64 ((x.2 : Nat) : Int))))] []) (FUEL, 0) h ?_ ?_
  · exact sub_ok (ρ := []) (l := [a0.length = a0.length, ∀ i, i < a0.length → ∀ j, j < 1 → E3.cf (a0.getD i E3.z) j = E3.cf (a0.getD i E3.z) j, (a1 : Int) = a1, (0 : Int) = 0, (((a0.length : Nat) : Int) : Int) = ((a0.length : Nat) : Int), (0 : Int) = ((0 : Nat) : Int)]) (by as_aux_lemma => kernel_rfl) ⟨rfl, fun _ _ _ _ => rfl, rfl, rfl, rfl, (by first | rfl | simp), trivial⟩
  · clear h; rintro ⟨n1, k1⟩ h p1 hp1
    obtain _ | n1 := n1
    · cases (show (none : Option (Int)) = some r from h)
    have h : slices_Index_int_l1 a0 a1 (n1 + 1) k1 = some r := h
    unfold slices_Index_int_l1 at h
    refine segs [] tabOk mixed 4000 (S := .br (decide ((((k1 : Nat) : Int) : Int) < ((a0.length : Nat) : Int))) (.and (0 ≤ (((k1 : Nat) : Int) : Int) ∧ ((k1 : Nat) : Int) < ((a0.length : Nat) : Int)) (.br ((a1 : Int) == (a0.getD k1 0)) (.leaf 0) (.leaf 1))) (.leaf 2)) (by as_aux_lemma => kernel_rfl) ?_
    refine br_ h ?_ ?_ <;> clear h <;> intro c2 h
    · refine sk_and ⟨Int.natCast_nonneg _, of_decide_eq_true c2⟩ ?_
      refine br_ h ?_ ?_ <;> clear h <;> intro c4 h
      · refine sk_leaf ?_
        obtain rfl := some_ h
        exact end_ok [] Try.results23 (ps := [(((k1 : Nat) : Int) : Int) = ((k1 : Nat) : Int)]) (by as_aux_lemma => kernel_rfl) ⟨rfl, trivial⟩ (fun _ => ⟨rfl, by simp⟩)
      · refine sk_leaf ?_
        refine back_ok (p := p1) (by as_aux_lemma => kernel_rfl) (hp1 (n1, k1 + 1) _ h (Nat.lt_succ_self n1) ?_)
        exact sub_ok (ρ := []) (l := [a0.length = a0.length, ∀ i, i < a0.length → ∀ j, j < 1 → E3.cf (a0.getD i E3.z) j = E3.cf (a0.getD i E3.z) j, (a1 : Int) = a1, (0 : Int) = 0, (((a0.length : Nat) : Int) : Int) = ((a0.length : Nat) : Int), ((IntKind.i64.wrap (((k1 : Nat) : Int) + 1)) : Int) = (((k1 + 1) : Nat) : Int)]) (by as_aux_lemma => kernel_rfl) ⟨rfl, fun _ _ _ _ => rfl, rfl, rfl, rfl, (wrap_nat (Int.ofNat_lt.1 (of_decide_eq_true c2)) (by omega)), trivial⟩
    · refine sk_leaf ?_
      obtain rfl := some_ h
      exact end_ok [] Try.results23 (ps := [((-1) : Int) = (-1)]) (by as_aux_lemma => kernel_rfl) ⟨rfl, trivial⟩ (fun _ => ⟨rfl, by simp⟩)

theorem slices_Delete_int_ok (a0 : List Int) (a1 a2 : Int) (r : List Int) (h : slices_Delete_int a0 a1 a2 = some r) {al : Bool} : MCalls Try.prog 38 [.row 0 1 0 a0.length, .pv (.raw (.int .i64 a1)), .pv (.raw (.int .i64 a2))] [.row 3 1 (E3.cR a0)] 0 al (.row 0 1 0 r.length) [.row 3 1 (E3.cR r)] := by
  unfold slices_Delete_int at h
  obtain ⟨g, h⟩ := if_ h
  obtain rfl := some_ h
  obtain ⟨i, rfl⟩ : ∃ i : Nat, a1 = i := ⟨a1.toNat, by omega⟩
  obtain ⟨j, rfl⟩ : ∃ j : Nat, a2 = j := ⟨a2.toNat, by omega⟩
  simp only [Int.toNat_natCast]
  refine inplace_mcalls (rest := [.int .i64 i, .int .i64 j]) (pad := List.replicate (j - i) 0) ⟨_, Try.func38, by kernel_rfl, by kernel_rfl⟩ rfl (fun _ => rfl) (by simp; omega) (fun hx a c w => ?_) (fun g0 o0 c w hx hc hm h1 h2 => ?_)
  · subst hx
    simp only [List.length_nil] at g
    obtain rfl : i = 0 := by omega
    obtain rfl : j = 0 := by omega
    exact Try.slices_Delete_int_empty a c w
  · have := Try.slices_Delete_int_cells g0 o0 a0.length c i j a0 w (Nat.le_refl _) hc hm (by omega) (by omega) h1 h2
    have e1 : a0.length - (j - i) = (a0.take i ++ a0.drop j).length := by simp; omega
    rw [List.take_length, e1] at this
    exact this

end Go.Proofs.Ytmmhiggfpdjdcaa
