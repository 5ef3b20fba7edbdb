/- The functions do as their models: printed by program. -/
import Derived.Test.YtaadkjlooehhnaaQ7W0
set_option linter.unusedSimpArgs false
set_option linter.unusedVariables false
namespace Go.Proofs.Ytaadkjlooehhnaa
open Go Go.Ab
attribute [local irreducible] V VS runS Sk.Holds

set_option maxHeartbeats 40000000 in
set_option maxRecDepth 100000 in
theorem line_fire_ok (l_a0 : List Api_Pin) (i_a0 : Nat) (hi_a0 : i_a0 < l_a0.length) (a0 : Api_Pin) (hx_a0 : l_a0.getD i_a0 (⟨0, 0, false, false, false, false, false⟩ : Api_Pin) = a0) (a1 : Bool) (r : Bool × Api_Pin) (h : line_fire a0 a1 = some r) {al : Bool} : MCalls Try.prog 42 [.ptr 0 (i_a0 * 7), .pv (.raw (.bool a1))] [.row 31 7 (E31.cR l_a0)] 1 al (.pv (.raw (.bool r.1))) [.row 31 7 (E31.cR (l_a0.set i_a0 r.2))] := by
  unfold line_fire at h
  refine fnM_ok tabOk (fz := []) Try.func42 (by as_aux_lemma => kernel_rfl) (by as_aux_lemma => kernel_rfl) Try.ntmps42 (by simp) (by simp) ?_
  refine segs [] tabOk mixed 4000 (S := .leaf 0) (by as_aux_lemma => kernel_rfl) ?_
  refine sk_leaf ?_
  refine ldx_ok (d := 9) (id := 0) (i := i_a0) (j := 2) (e := 31) (n := 1) (off := i_a0 * 7 + 2) E31 (xs := l_a0) (.raw (.bool a0.Level)) (by as_aux_lemma => kernel_rfl) (by show i_a0 * 7 + 2 = i_a0 * 7 + 2; omega) (by as_aux_lemma => kernel_rfl) (by first | omega | (simp; omega)) (by exact Nat.le_of_ble_eq_true rfl) (show E31.cf _ 2 = E31.cf a0 2 from congrArg (fun x => E31.cf x 2) hx_a0) ?_
  refine segs [] tabOk mixed 4000 (S := .br a0.Level (.leaf 0) (.and ((a1 = true → (a1 = true))) (.and ((a1 = true → (a1 = true))) (.leaf 1)))) (by as_aux_lemma => kernel_rfl) ?_
  refine br_ h ?_ ?_ <;> clear h <;> intro c1 h
  · refine sk_leaf ?_
    refine ldx_ok (d := 13) (id := 0) (i := i_a0) (j := 4) (e := 31) (n := 1) (off := i_a0 * 7 + 4) E31 (xs := l_a0) (.raw (.bool a0.Up)) (by as_aux_lemma => kernel_rfl) (by show i_a0 * 7 + 4 = i_a0 * 7 + 4; omega) (by as_aux_lemma => kernel_rfl) (by first | omega | (simp; omega)) (by exact Nat.le_of_ble_eq_true rfl) (show E31.cf _ 4 = E31.cf a0 4 from congrArg (fun x => E31.cf x 4) hx_a0) ?_
    refine segs [] tabOk mixed 4000 (S := .and ((a0.Up = true → (a0.Up = true))) (.and ((a0.Up = true → (a0.Up = true))) (.leaf 0))) (by as_aux_lemma => kernel_rfl) ?_
    refine sk_and ((by decide : ∀ y0 : Bool, ((y0 = true) → (y0 = true))) a0.Up) ?_
    refine sk_and ((by decide : ∀ y0 : Bool, ((y0 = true) → (y0 = true))) a0.Up) ?_
    refine sk_leaf ?_
    refine ldxG_ok (d := 18) (id := 0) (i := i_a0) (j := 3) (e := 31) (n := 1) (g := a0.Up) (ws := [a0.Up = true]) E31 (xs := l_a0) (.raw (.bool a0.Masked)) (off := i_a0 * 7 + 3) (by as_aux_lemma => kernel_rfl) (by show i_a0 * 7 + 3 = i_a0 * 7 + 3; omega) (fun hg => ⟨((by decide : ∀ y0 : Bool, ((y0 = true) → (y0 = true))) a0.Up) hg, trivial⟩) (by as_aux_lemma => kernel_rfl) (fun hg => ⟨(by first | omega | (simp; omega)), (by exact Nat.le_of_ble_eq_true rfl), (show E31.cf _ 3 = E31.cf a0 3 from congrArg (fun x => E31.cf x 3) hx_a0)⟩) ?_
    refine segs [] tabOk mixed 4000 (S := .and ((a0.Up = true → (a0.Up = true))) (.and (a0.Up = true → a0.Up = true) (.and (((a0.Up && (!a0.Masked)) = true → ((a0.Up && (!a0.Masked)) = true))) (.and (((a0.Up && (!a0.Masked)) = true → ((a0.Up && (!a0.Masked)) = true))) (.leaf 0))))) (by as_aux_lemma => kernel_rfl) ?_
    refine sk_and ((by decide : ∀ y0 : Bool, ((y0 = true) → (y0 = true))) a0.Up) ?_
    refine sk_and ((by decide : ∀ y0 : Bool, ((y0 = true) → (y0 = true))) a0.Up) ?_
    refine sk_and ((by decide : ∀ y0 y1 : Bool, (((y0 && (!y1)) = true) → ((y0 && (!y1)) = true))) a0.Up a0.Masked) ?_
    refine sk_and ((by decide : ∀ y0 y1 : Bool, (((y0 && (!y1)) = true) → ((y0 && (!y1)) = true))) a0.Up a0.Masked) ?_
    refine sk_leaf ?_
    refine ldxG_ok (d := 25) (id := 0) (i := i_a0) (j := 6) (e := 31) (n := 1) (g := (a0.Up && (!a0.Masked))) (ws := [(a0.Up && (!a0.Masked)) = true]) E31 (xs := l_a0) (.raw (.bool a0.Sent)) (off := i_a0 * 7 + 6) (by as_aux_lemma => kernel_rfl) (by show i_a0 * 7 + 6 = i_a0 * 7 + 6; omega) (fun hg => ⟨((by decide : ∀ y0 y1 : Bool, (((y0 && (!y1)) = true) → ((y0 && (!y1)) = true))) a0.Up a0.Masked) hg, trivial⟩) (by as_aux_lemma => kernel_rfl) (fun hg => ⟨(by first | omega | (simp; omega)), (by exact Nat.le_of_ble_eq_true rfl), (show E31.cf _ 6 = E31.cf a0 6 from congrArg (fun x => E31.cf x 6) hx_a0)⟩) ?_
    refine segs [] tabOk mixed 4000 (S := .and (((a0.Up && (!a0.Masked)) = true → ((a0.Up && (!a0.Masked)) = true))) (.and ((a0.Up && (!a0.Masked)) = true → (a0.Up && (!a0.Masked)) = true) (.br ((a0.Up && (!a0.Masked)) && (!a0.Sent)) (.leaf 0) (.leaf 1)))) (by as_aux_lemma => kernel_rfl) ?_
    refine sk_and ((by decide : ∀ y0 y1 : Bool, (((y0 && (!y1)) = true) → ((y0 && (!y1)) = true))) a0.Up a0.Masked) ?_
    refine sk_and ((by decide : ∀ y0 y1 : Bool, (((y0 && (!y1)) = true) → ((y0 && (!y1)) = true))) a0.Up a0.Masked) ?_
    refine br_ h ?_ ?_ <;> clear h <;> intro c10 h
    · refine sk_leaf ?_
      refine stl_ok (id := 0) (i := i_a0) (j := 6) (e := 31) (off := i_a0 * 7 + 6) (vs := [.pv (.raw (.bool true))]) E31 (xs := l_a0) (⟨a0.Core, a0.Vec, a0.Level, a0.Masked, a0.Up, a0.Kept, true⟩ : Api_Pin) (l_a0.set i_a0 (⟨a0.Core, a0.Vec, a0.Level, a0.Masked, a0.Up, a0.Kept, true⟩ : Api_Pin)) (by first | rfl | simp only [List.set_set]) (by as_aux_lemma => kernel_rfl) (by show i_a0 * 7 + 6 = i_a0 * 7 + 6; omega) (by as_aux_lemma => kernel_rfl) (by first | omega | (simp; omega)) (by exact Nat.le_of_ble_eq_true rfl) ((show E31.cs (⟨a0.Core, a0.Vec, a0.Level, a0.Masked, a0.Up, a0.Kept, true⟩ : Api_Pin) = setCells (E31.cs a0) 6 [.pv (.raw (.bool true))] from rfl).trans (congrArg (fun x => setCells (E31.cs x) 6 [.pv (.raw (.bool true))]) hx_a0).symm) ?_
      refine segs [] tabOk mixed 4000 (S := .leaf 0) (by as_aux_lemma => kernel_rfl) ?_
      refine sk_leaf ?_
      obtain rfl := some_ h
      exact endM_ok [(0, some 0)] Try.results42 (ps := [true = true, E31.cR (l_a0.set i_a0 (⟨a0.Core, a0.Vec, a0.Level, a0.Masked, a0.Up, a0.Kept, true⟩ : Api_Pin)) = E31.cR (l_a0.set i_a0 (⟨a0.Core, a0.Vec, a0.Level, a0.Masked, a0.Up, a0.Kept, true⟩ : Api_Pin)), AllPv (E31.cR (l_a0.set i_a0 (⟨a0.Core, a0.Vec, a0.Level, a0.Masked, a0.Up, a0.Kept, true⟩ : Api_Pin)))]) (by as_aux_lemma => kernel_rfl) ⟨rfl, rfl, (Elem.cR_pv _ _), trivial⟩ (fun _ => ⟨rfl, by simp only [List.mem_cons, List.not_mem_nil, or_false, forall_eq_or_imp, forall_eq]; exact Elem.cR_bald E31_raw _⟩)
    · refine sk_leaf ?_
      obtain rfl := some_ h
      exact endM_ok [(0, some 0)] Try.results42 (ps := [false = false, E31.cR l_a0 = E31.cR (l_a0.set i_a0 a0), AllPv (E31.cR (l_a0.set i_a0 a0))]) (by as_aux_lemma => kernel_rfl) ⟨rfl, (congrArg E31.cR (focus_same hi_a0 hx_a0).symm), (Elem.cR_pv _ _), trivial⟩ (fun _ => ⟨rfl, by simp only [List.mem_cons, List.not_mem_nil, or_false, forall_eq_or_imp, forall_eq]; exact Elem.cR_bald E31_raw _⟩)
  · refine sk_and ((by decide : ∀ y0 : Bool, ((y0 = true) → (y0 = true))) a1) ?_
    refine sk_and ((by decide : ∀ y0 : Bool, ((y0 = true) → (y0 = true))) a1) ?_
    refine sk_leaf ?_
    refine ldxG_ok (d := 37) (id := 0) (i := i_a0) (j := 3) (e := 31) (n := 1) (g := a1) (ws := [a1 = true]) E31 (xs := l_a0) (.raw (.bool a0.Masked)) (off := i_a0 * 7 + 3) (by as_aux_lemma => kernel_rfl) (by show i_a0 * 7 + 3 = i_a0 * 7 + 3; omega) (fun hg => ⟨((by decide : ∀ y0 : Bool, ((y0 = true) → (y0 = true))) a1) hg, trivial⟩) (by as_aux_lemma => kernel_rfl) (fun hg => ⟨(by first | omega | (simp; omega)), (by exact Nat.le_of_ble_eq_true rfl), (show E31.cf _ 3 = E31.cf a0 3 from congrArg (fun x => E31.cf x 3) hx_a0)⟩) ?_
    refine segs [] tabOk mixed 4000 (S := .and (a1 = true → a1 = true) (.br (a1 && a0.Masked) (.leaf 0) (.br a1 (.br a1 (.leaf 1) (.leaf 2)) (.leaf 3)))) (by as_aux_lemma => kernel_rfl) ?_
    refine sk_and ((by decide : ∀ y0 : Bool, ((y0 = true) → (y0 = true))) a1) ?_
    refine br_ h ?_ ?_ <;> clear h <;> intro c14 h
    · refine sk_leaf ?_
      refine stl_ok (id := 0) (i := i_a0) (j := 5) (e := 31) (off := i_a0 * 7 + 5) (vs := [.pv (.raw (.bool true))]) E31 (xs := l_a0) (⟨a0.Core, a0.Vec, a0.Level, a0.Masked, a0.Up, true, a0.Sent⟩ : Api_Pin) (l_a0.set i_a0 (⟨a0.Core, a0.Vec, a0.Level, a0.Masked, a0.Up, true, a0.Sent⟩ : Api_Pin)) (by first | rfl | simp only [List.set_set]) (by as_aux_lemma => kernel_rfl) (by show i_a0 * 7 + 5 = i_a0 * 7 + 5; omega) (by as_aux_lemma => kernel_rfl) (by first | omega | (simp; omega)) (by exact Nat.le_of_ble_eq_true rfl) ((show E31.cs (⟨a0.Core, a0.Vec, a0.Level, a0.Masked, a0.Up, true, a0.Sent⟩ : Api_Pin) = setCells (E31.cs a0) 5 [.pv (.raw (.bool true))] from rfl).trans (congrArg (fun x => setCells (E31.cs x) 5 [.pv (.raw (.bool true))]) hx_a0).symm) ?_
      refine segs [] tabOk mixed 4000 (S := .leaf 0) (by as_aux_lemma => kernel_rfl) ?_
      refine sk_leaf ?_
      obtain rfl := some_ h
      exact endM_ok [(0, some 0)] Try.results42 (ps := [false = false, E31.cR (l_a0.set i_a0 (⟨a0.Core, a0.Vec, a0.Level, a0.Masked, a0.Up, true, a0.Sent⟩ : Api_Pin)) = E31.cR (l_a0.set i_a0 (⟨a0.Core, a0.Vec, a0.Level, a0.Masked, a0.Up, true, a0.Sent⟩ : Api_Pin)), AllPv (E31.cR (l_a0.set i_a0 (⟨a0.Core, a0.Vec, a0.Level, a0.Masked, a0.Up, true, a0.Sent⟩ : Api_Pin)))]) (by as_aux_lemma => kernel_rfl) ⟨rfl, rfl, (Elem.cR_pv _ _), trivial⟩ (fun _ => ⟨rfl, by simp only [List.mem_cons, List.not_mem_nil, or_false, forall_eq_or_imp, forall_eq]; exact Elem.cR_bald E31_raw _⟩)
    · refine br_ h ?_ ?_ <;> clear h <;> intro c15 h
      · refine br_ h ?_ ?_ <;> clear h <;> intro c16 h
        · refine sk_leaf ?_
          refine stl_ok (id := 0) (i := i_a0) (j := 5) (e := 31) (off := i_a0 * 7 + 5) (vs := [.pv (.raw (.bool false))]) E31 (xs := l_a0) (⟨a0.Core, a0.Vec, a0.Level, a0.Masked, a0.Up, false, a0.Sent⟩ : Api_Pin) (l_a0.set i_a0 (⟨a0.Core, a0.Vec, a0.Level, a0.Masked, a0.Up, false, a0.Sent⟩ : Api_Pin)) (by first | rfl | simp only [List.set_set]) (by as_aux_lemma => kernel_rfl) (by show i_a0 * 7 + 5 = i_a0 * 7 + 5; omega) (by as_aux_lemma => kernel_rfl) (by first | omega | (simp; omega)) (by exact Nat.le_of_ble_eq_true rfl) ((show E31.cs (⟨a0.Core, a0.Vec, a0.Level, a0.Masked, a0.Up, false, a0.Sent⟩ : Api_Pin) = setCells (E31.cs a0) 5 [.pv (.raw (.bool false))] from rfl).trans (congrArg (fun x => setCells (E31.cs x) 5 [.pv (.raw (.bool false))]) hx_a0).symm) ?_
          refine segs [] tabOk mixed 4000 (S := .leaf 0) (by as_aux_lemma => kernel_rfl) ?_
          refine sk_leaf ?_
          obtain rfl := some_ h
          exact endM_ok [(0, some 0)] Try.results42 (ps := [true = true, E31.cR (l_a0.set i_a0 (⟨a0.Core, a0.Vec, a0.Level, a0.Masked, a0.Up, false, a0.Sent⟩ : Api_Pin)) = E31.cR (l_a0.set i_a0 (⟨a0.Core, a0.Vec, a0.Level, a0.Masked, a0.Up, false, a0.Sent⟩ : Api_Pin)), AllPv (E31.cR (l_a0.set i_a0 (⟨a0.Core, a0.Vec, a0.Level, a0.Masked, a0.Up, false, a0.Sent⟩ : Api_Pin)))]) (by as_aux_lemma => kernel_rfl) ⟨rfl, rfl, (Elem.cR_pv _ _), trivial⟩ (fun _ => ⟨rfl, by simp only [List.mem_cons, List.not_mem_nil, or_false, forall_eq_or_imp, forall_eq]; exact Elem.cR_bald E31_raw _⟩)
        · refine sk_leaf ?_
          obtain rfl := some_ h
          exact endM_ok [(0, some 0)] Try.results42 (ps := [false = false, E31.cR l_a0 = E31.cR (l_a0.set i_a0 a0), AllPv (E31.cR (l_a0.set i_a0 a0))]) (by as_aux_lemma => kernel_rfl) ⟨rfl, (congrArg E31.cR (focus_same hi_a0 hx_a0).symm), (Elem.cR_pv _ _), trivial⟩ (fun _ => ⟨rfl, by simp only [List.mem_cons, List.not_mem_nil, or_false, forall_eq_or_imp, forall_eq]; exact Elem.cR_bald E31_raw _⟩)
      · refine sk_leaf ?_
        refine ldx_ok (d := 47) (id := 0) (i := i_a0) (j := 5) (e := 31) (n := 1) (off := i_a0 * 7 + 5) E31 (xs := l_a0) (.raw (.bool a0.Kept)) (by as_aux_lemma => kernel_rfl) (by show i_a0 * 7 + 5 = i_a0 * 7 + 5; omega) (by as_aux_lemma => kernel_rfl) (by first | omega | (simp; omega)) (by exact Nat.le_of_ble_eq_true rfl) (show E31.cf _ 5 = E31.cf a0 5 from congrArg (fun x => E31.cf x 5) hx_a0) ?_
        refine segs [] tabOk mixed 4000 (S := .and ((a0.Kept = true → (a0.Kept = true))) (.and ((a0.Kept = true → (a0.Kept = true))) (.leaf 0))) (by as_aux_lemma => kernel_rfl) ?_
        refine sk_and ((by decide : ∀ y0 : Bool, ((y0 = true) → (y0 = true))) a0.Kept) ?_
        refine sk_and ((by decide : ∀ y0 : Bool, ((y0 = true) → (y0 = true))) a0.Kept) ?_
        refine sk_leaf ?_
        refine ldxG_ok (d := 52) (id := 0) (i := i_a0) (j := 3) (e := 31) (n := 1) (g := a0.Kept) (ws := [a0.Kept = true]) E31 (xs := l_a0) (.raw (.bool a0.Masked)) (off := i_a0 * 7 + 3) (by as_aux_lemma => kernel_rfl) (by show i_a0 * 7 + 3 = i_a0 * 7 + 3; omega) (fun hg => ⟨((by decide : ∀ y0 : Bool, ((y0 = true) → (y0 = true))) a0.Kept) hg, trivial⟩) (by as_aux_lemma => kernel_rfl) (fun hg => ⟨(by first | omega | (simp; omega)), (by exact Nat.le_of_ble_eq_true rfl), (show E31.cf _ 3 = E31.cf a0 3 from congrArg (fun x => E31.cf x 3) hx_a0)⟩) ?_
        refine segs [] tabOk mixed 4000 (S := .and ((a0.Kept = true → (a0.Kept = true))) (.and (a0.Kept = true → a0.Kept = true) (.br (a0.Kept && (!a0.Masked)) (.leaf 0) (.leaf 1)))) (by as_aux_lemma => kernel_rfl) ?_
        refine sk_and ((by decide : ∀ y0 : Bool, ((y0 = true) → (y0 = true))) a0.Kept) ?_
        refine sk_and ((by decide : ∀ y0 : Bool, ((y0 = true) → (y0 = true))) a0.Kept) ?_
        refine br_ h ?_ ?_ <;> clear h <;> intro c21 h
        · refine sk_leaf ?_
          refine stl_ok (id := 0) (i := i_a0) (j := 5) (e := 31) (off := i_a0 * 7 + 5) (vs := [.pv (.raw (.bool false))]) E31 (xs := l_a0) (⟨a0.Core, a0.Vec, a0.Level, a0.Masked, a0.Up, false, a0.Sent⟩ : Api_Pin) (l_a0.set i_a0 (⟨a0.Core, a0.Vec, a0.Level, a0.Masked, a0.Up, false, a0.Sent⟩ : Api_Pin)) (by first | rfl | simp only [List.set_set]) (by as_aux_lemma => kernel_rfl) (by show i_a0 * 7 + 5 = i_a0 * 7 + 5; omega) (by as_aux_lemma => kernel_rfl) (by first | omega | (simp; omega)) (by exact Nat.le_of_ble_eq_true rfl) ((show E31.cs (⟨a0.Core, a0.Vec, a0.Level, a0.Masked, a0.Up, false, a0.Sent⟩ : Api_Pin) = setCells (E31.cs a0) 5 [.pv (.raw (.bool false))] from rfl).trans (congrArg (fun x => setCells (E31.cs x) 5 [.pv (.raw (.bool false))]) hx_a0).symm) ?_
          refine segs [] tabOk mixed 4000 (S := .leaf 0) (by as_aux_lemma => kernel_rfl) ?_
          refine sk_leaf ?_
          obtain rfl := some_ h
          exact endM_ok [(0, some 0)] Try.results42 (ps := [true = true, E31.cR (l_a0.set i_a0 (⟨a0.Core, a0.Vec, a0.Level, a0.Masked, a0.Up, false, a0.Sent⟩ : Api_Pin)) = E31.cR (l_a0.set i_a0 (⟨a0.Core, a0.Vec, a0.Level, a0.Masked, a0.Up, false, a0.Sent⟩ : Api_Pin)), AllPv (E31.cR (l_a0.set i_a0 (⟨a0.Core, a0.Vec, a0.Level, a0.Masked, a0.Up, false, a0.Sent⟩ : Api_Pin)))]) (by as_aux_lemma => kernel_rfl) ⟨rfl, rfl, (Elem.cR_pv _ _), trivial⟩ (fun _ => ⟨rfl, by simp only [List.mem_cons, List.not_mem_nil, or_false, forall_eq_or_imp, forall_eq]; exact Elem.cR_bald E31_raw _⟩)
        · refine sk_leaf ?_
          obtain rfl := some_ h
          exact endM_ok [(0, some 0)] Try.results42 (ps := [false = false, E31.cR l_a0 = E31.cR (l_a0.set i_a0 a0), AllPv (E31.cR (l_a0.set i_a0 a0))]) (by as_aux_lemma => kernel_rfl) ⟨rfl, (congrArg E31.cR (focus_same hi_a0 hx_a0).symm), (Elem.cR_pv _ _), trivial⟩ (fun _ => ⟨rfl, by simp only [List.mem_cons, List.not_mem_nil, or_false, forall_eq_or_imp, forall_eq]; exact Elem.cR_bald E31_raw _⟩)

end Go.Proofs.Ytaadkjlooehhnaa
