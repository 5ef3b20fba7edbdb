import Derived.Test.YtfnmmlcmjmepjaaQUBT
import Derived.Test.YtfnmmlcmjmepjaaQUBM
import Derived.Test.YtfnmmlcmjmepjaaAbYh
import Derived.Test.YtfnmmlcmjmepjaaAbYc
set_option linter.unusedSimpArgs false
set_option linter.unusedVariables false
namespace Go.Proofs.Ytfnmmlcmjmepjaa
open Go Go.Ab
theorem mixed : Try.prog.follows .mixedOrders = true := by kernel_rfl
def E5 : Elem Int := { s := 1, cf := fun x j => match j with | _ => .raw (.int .u8 x), z := 0 }
theorem E5_raw : E5.Raw := by
 intro x j
 exact ⟨_, rfl⟩
def E31 : Elem Int := { s := 1, cf := fun x j => match j with | _ => .raw (.int .i64 x), z := 0 }
theorem E31_raw : E31.Raw := by
 intro x j
 exact ⟨_, rfl⟩
def E43 : Elem (List Int) := { s := 1, cf := fun x j => match j with | _ => (E5.ro x), z := [] }
def E51 : Elem Api_PipeOp := { s := 3, cf := fun x j => match j with | 0 => .raw (.int .i64 x.Kind) | 1 => .raw (.int .i64 x.Most) | _ => (E5.ro x.Data), z := (⟨0, 0, []⟩ : Api_PipeOp) }
attribute [local irreducible] V VS runS Sk.Holds
set_option maxHeartbeats 40000000 in
set_option maxRecDepth 100000 in
theorem pipe_Right_ok (a0 : Api_Pipe) (r : Bool) (h : pipe_Right a0 = some r) {al : Bool} : PCalls Try.prog 36 [.agg [.pv ((E5.ro a0.Has)), .pv (.raw (.int .i64 a0.Writers)), .pv (.raw (.int .i64 a0.Readers))]] al (.pv (.raw (.bool r))) [] := by
 unfold pipe_Right at h
 refine fn_ok tabOk Try.func36 (by kernel_rfl) (by kernel_rfl) Try.ntmps36 (by simp) ?_
 refine segs [] tabOk mixed 4000 (S := .and (((decide ((((a0.Has.length : Nat) : Int) : Int) ≤ 64)) = true → ((decide ((((a0.Has.length : Nat) : Int) : Int) ≤ 64)) = true))) (.and (((decide ((((a0.Has.length : Nat) : Int) : Int) ≤ 64)) = true → ((decide ((((a0.Has.length : Nat) : Int) : Int) ≤ 64)) = true))) (.and ((decide ((((a0.Has.length : Nat) : Int) : Int) ≤ 64)) = true → (decide ((((a0.Has.length : Nat) : Int) : Int) ≤ 64)) = true) (.and ((((decide ((((a0.Has.length : Nat) : Int) : Int) ≤ 64)) && (decide ((a0.Writers : Int) ≥ 0))) = true → (((decide ((((a0.Has.length : Nat) : Int) : Int) ≤ 64)) && (decide ((a0.Writers : Int) ≥ 0))) = true))) (.and ((((decide ((((a0.Has.length : Nat) : Int) : Int) ≤ 64)) && (decide ((a0.Writers : Int) ≥ 0))) = true → (((decide ((((a0.Has.length : Nat) : Int) : Int) ≤ 64)) && (decide ((a0.Writers : Int) ≥ 0))) = true))) (.and (((decide ((((a0.Has.length : Nat) : Int) : Int) ≤ 64)) && (decide ((a0.Writers : Int) ≥ 0))) = true → ((decide ((((a0.Has.length : Nat) : Int) : Int) ≤ 64)) && (decide ((a0.Writers : Int) ≥ 0))) = true) (.and (((((decide ((((a0.Has.length : Nat) : Int) : Int) ≤ 64)) && (decide ((a0.Writers : Int) ≥ 0))) && (decide ((a0.Writers : Int) ≤ 1099511627776))) = true → ((((decide ((((a0.Has.length : Nat) : Int) : Int) ≤ 64)) && (decide ((a0.Writers : Int) ≥ 0))) && (decide ((a0.Writers : Int) ≤ 1099511627776))) = true))) (.and (((((decide ((((a0.Has.length : Nat) : Int) : Int) ≤ 64)) && (decide ((a0.Writers : Int) ≥ 0))) && (decide ((a0.Writers : Int) ≤ 1099511627776))) = true → ((((decide ((((a0.Has.length : Nat) : Int) : Int) ≤ 64)) && (decide ((a0.Writers : Int) ≥ 0))) && (decide ((a0.Writers : Int) ≤ 1099511627776))) = true))) (.and ((((decide ((((a0.Has.length : Nat) : Int) : Int) ≤ 64)) && (decide ((a0.Writers : Int) ≥ 0))) && (decide ((a0.Writers : Int) ≤ 1099511627776))) = true → (((decide ((((a0.Has.length : Nat) : Int) : Int) ≤ 64)) && (decide ((a0.Writers : Int) ≥ 0))) && (decide ((a0.Writers : Int) ≤ 1099511627776))) = true) (.and ((((((decide ((((a0.Has.length : Nat) : Int) : Int) ≤ 64)) && (decide ((a0.Writers : Int) ≥ 0))) && (decide ((a0.Writers : Int) ≤ 1099511627776))) && (decide ((a0.Readers : Int) ≥ 0))) = true → (((((decide ((((a0.Has.length : Nat) : Int) : Int) ≤ 64)) && (decide ((a0.Writers : Int) ≥ 0))) && (decide ((a0.Writers : Int) ≤ 1099511627776))) && (decide ((a0.Readers : Int) ≥ 0))) = true))) (.and ((((((decide ((((a0.Has.length : Nat) : Int) : Int) ≤ 64)) && (decide ((a0.Writers : Int) ≥ 0))) && (decide ((a0.Writers : Int) ≤ 1099511627776))) && (decide ((a0.Readers : Int) ≥ 0))) = true → (((((decide ((((a0.Has.length : Nat) : Int) : Int) ≤ 64)) && (decide ((a0.Writers : Int) ≥ 0))) && (decide ((a0.Writers : Int) ≤ 1099511627776))) && (decide ((a0.Readers : Int) ≥ 0))) = true))) (.and (((((decide ((((a0.Has.length : Nat) : Int) : Int) ≤ 64)) && (decide ((a0.Writers : Int) ≥ 0))) && (decide ((a0.Writers : Int) ≤ 1099511627776))) && (decide ((a0.Readers : Int) ≥ 0))) = true → ((((decide ((((a0.Has.length : Nat) : Int) : Int) ≤ 64)) && (decide ((a0.Writers : Int) ≥ 0))) && (decide ((a0.Writers : Int) ≤ 1099511627776))) && (decide ((a0.Readers : Int) ≥ 0))) = true) (.leaf 0))))))))))))) (by kernel_rfl) ?_
 refine sk_and (fun h => h) ?_
 refine sk_and (fun h => h) ?_
 refine sk_and (fun h => h) ?_
 refine sk_and (fun h => h) ?_
 refine sk_and (fun h => h) ?_
 refine sk_and (fun h => h) ?_
 refine sk_and (fun h => h) ?_
 refine sk_and (fun h => h) ?_
 refine sk_and (fun h => h) ?_
 refine sk_and (fun h => h) ?_
 refine sk_and (fun h => h) ?_
 refine sk_and (fun h => h) ?_
 refine sk_leaf ?_
 obtain rfl := some_ h
 exact end_ok [] Try.results36 (ps := [(((((decide ((((a0.Has.length : Nat) : Int) : Int) ≤ 64)) && (decide ((a0.Writers : Int) ≥ 0))) && (decide ((a0.Writers : Int) ≤ 1099511627776))) && (decide ((a0.Readers : Int) ≥ 0))) && (decide ((a0.Readers : Int) ≤ 1099511627776))) = (((((decide ((((a0.Has.length : Nat) : Int) : Int) ≤ 64)) && (decide ((a0.Writers : Int) ≥ 0))) && (decide ((a0.Writers : Int) ≤ 1099511627776))) && (decide ((a0.Readers : Int) ≥ 0))) && (decide ((a0.Readers : Int) ≤ 1099511627776)))]) (by kernel_rfl) ⟨rfl, trivial⟩ (fun _ => ⟨rfl, by simp⟩)
set_option maxHeartbeats 40000000 in
set_option maxRecDepth 100000 in
theorem pipe_Step_1_ok (a0 : Int) (r : Api_Pipe × Int × (List Int) × Int) (h : pipe_Step_1 a0 = some r) {al : Bool} : PCalls Try.prog 35 [.pv (.raw (.int .i64 a0))] al (.tup [.agg [.row 0 1 0 r.1.Has.length, .pv (.raw (.int .i64 r.1.Writers)), .pv (.raw (.int .i64 r.1.Readers))], .pv (.raw (.int .i64 r.2.1)), .row 1 1 0 r.2.2.1.length, .pv (.raw (.int .i64 r.2.2.2))]) [.row 5 1 (E5.cR r.1.Has), .row 5 1 (E5.cR r.2.2.1)] := by
 unfold pipe_Step_1 at h
 refine fn_ok tabOk Try.func35 (by kernel_rfl) (by kernel_rfl) Try.ntmps35 (by simp) ?_
 refine segs [] tabOk mixed 4000 (S := .leaf 0) (by kernel_rfl) ?_
 refine sk_leaf ?_
 obtain rfl := some_ h
 exact end_ok [(0, none), (1, none)] Try.results35 (ps := [0 = 0, ([] : List Int).length = 0, (0 : Int) = 0, (0 : Int) = 0, (0 : Int) = 0, 0 = 0, ([] : List Int).length = 0, (a0 : Int) = a0, E5.cR [] = [], E5.cR [] = []]) (by kernel_rfl) ⟨rfl, rfl, rfl, rfl, rfl, rfl, rfl, rfl, rfl, rfl, trivial⟩ (fun _ => ⟨rfl, by simp only [List.mem_cons, List.not_mem_nil, or_false, forall_eq_or_imp, forall_eq]; exact ⟨Elem.cR_bald E5_raw _, Elem.cR_bald E5_raw _⟩⟩)
set_option maxRecDepth 100000 in
theorem slices_Clone_byte_ok (a0 r : List Int) (h : slices_Clone_byte a0 = some r) {al : Bool} : PCalls Try.prog 37 [.pv (E5.ro a0)] al (.row 0 1 0 r.length) [.row 5 1 (E5.cR r)] := by
 unfold slices_Clone_byte at h
 obtain ⟨g, h⟩ := if_ h
 obtain rfl := some_ h
 refine fn_ok tabOk Try.func37 (by kernel_rfl) (by kernel_rfl) Try.ntmps37 (by simp) ?_
 refine segs [1] tabOk mixed 4000 (S := .leaf 0) (by kernel_rfl) ?_
 refine sk_leaf ?_
 refine nil_ok (d1 := 3) (d2 := 4) (s := 1) (n := a0.length) (c := fun i j => E5.cf (a0.getD i E5.z) j) tabOk (by kernel_rfl) ?_
 intro b hb
 refine segs [] tabOk mixed 4000 (S := .br b (.leaf 0) (.leaf 1)) (by kernel_rfl) ?_
 refine sk_br ?_ ?_ <;> intro hc <;> refine sk_leaf ?_
 ·obtain rfl : a0 = [] := List.eq_nil_of_length_eq_zero (hb hc)
  exact end_ok [(0, none)] Try.results37 (ps := [0 = 0, 0 = 0, E5.cR [] = []]) (by kernel_rfl) ⟨rfl, rfl, rfl, trivial⟩ (fun _ => ⟨rfl, by simp only [List.mem_cons, List.not_mem_nil, or_false, forall_eq]; exact Elem.cR_bald E5_raw _⟩)
 ·refine bs_ok (d := 5) (e := 5) (s := 1) (n := 0) (cs := []) (cs' := E5.cR []) (by kernel_rfl) rfl (by kernel_rfl) ?_
  refine segs [] tabOk mixed 4000 (S := .leaf 0) (by kernel_rfl) ?_
  refine sk_leaf ?_
  refine app_ok (d := 7) (e := 5) (s := 1) (b := 1) (x := .row 16704 1 0 0) (y := .pv (E5.ro a0)) E5 (xs := []) (ys := a0) (by kernel_rfl) rfl (.row 16704 [] 0 rfl (by kernel_rfl)) (.ro a0) ⟨by simp; omega, by simp; omega⟩ (by kernel_rfl) ?_
  refine segs [] tabOk mixed 4000 (S := .leaf 0) (by kernel_rfl) ?_
  refine sk_leaf ?_
  exact end_ok [(0, some 16832)] Try.results37 (ps := [0 = 0, a0.length = a0.length, E5.cR a0 = E5.cR a0, AllPv (E5.cR a0)]) (by kernel_rfl) ⟨rfl, rfl, rfl, Elem.cR_pv _ _, trivial⟩ (fun _ => ⟨rfl, by simp only [List.mem_cons, List.not_mem_nil, or_false, forall_eq]; exact Elem.cR_bald E5_raw _⟩)
set_option maxHeartbeats 40000000 in
set_option maxRecDepth 100000 in
theorem pipe_Step_ok (a0 : Api_Pipe) (a1 : Api_PipeOp) (r : Api_Pipe × Int × (List Int) × Int) (h : pipe_Step a0 a1 = some r) {al : Bool} : PCalls Try.prog 16 [.agg [.pv ((E5.ro a0.Has)), .pv (.raw (.int .i64 a0.Writers)), .pv (.raw (.int .i64 a0.Readers))], .agg [.pv (.raw (.int .i64 a1.Kind)), .pv (.raw (.int .i64 a1.Most)), .pv ((E5.ro a1.Data))]] al (.tup [.agg [.row 0 1 0 r.1.Has.length, .pv (.raw (.int .i64 r.1.Writers)), .pv (.raw (.int .i64 r.1.Readers))], .pv (.raw (.int .i64 r.2.1)), .row 1 1 0 r.2.2.1.length, .pv (.raw (.int .i64 r.2.2.2))]) [.row 5 1 (E5.cR r.1.Has), .row 5 1 (E5.cR r.2.2.1)] := by
 unfold pipe_Step at h
 refine fn_ok tabOk Try.func16 (by kernel_rfl) (by kernel_rfl) Try.ntmps16 (by simp) ?_
 refine segs [] tabOk mixed 4000 (S := .leaf 0) (by kernel_rfl) ?_
 refine sk_leaf ?_
 obtain ⟨r1, e2, h⟩ := bd_ h
 refine call_ok (d := some 15) (fn := 36) (ax := [.agg [.pv ((E5.ro a0.Has)), .pv (.raw (.int .i64 a0.Writers)), .pv (.raw (.int .i64 a0.Readers))]]) (args := [.agg [.pv ((E5.ro a0.Has)), .pv (.raw (.int .i64 a0.Writers)), .pv (.raw (.int .i64 a0.Readers))]]) (ps := [a0.Has.length = a0.Has.length, ∀ i, i < a0.Has.length → ∀ j, j < 1 → E5.cf (a0.Has.getD i E5.z) j = E5.cf (a0.Has.getD i E5.z) j, (a0.Writers : Int) = a0.Writers, (a0.Readers : Int) = a0.Readers]) (hb' := []) (by kernel_rfl) (pipe_Right_ok _ _ e2 (al := true)) (by kernel_rfl) ⟨rfl, fun _ _ _ _ => rfl, rfl, rfl, trivial⟩ (fun _ => (by kernel_rfl)) (by simp) rfl (by kernel_rfl) ?_
 refine segs [] tabOk mixed 4000 (S := .br (!r1) (.leaf 0) (.leaf 1)) (by kernel_rfl) ?_
 refine br_ h ?_ ?_ <;> clear h <;> intro c3 h
 ·refine sk_leaf ?_
  obtain ⟨r4, e5, h⟩ := bd_ h
  refine call_ok (d := some 18) (fn := 35) (ax := [.pv (.raw (.int .i64 1))]) (args := [.pv (.raw (.int .i64 1))]) (ps := [(1 : Int) = 1]) (hb' := [.row 5 1 (E5.cR r4.1.Has), .row 5 1 (E5.cR r4.2.2.1)]) (by kernel_rfl) (pipe_Step_1_ok _ _ e5 (al := true)) (by kernel_rfl) ⟨rfl, trivial⟩ (fun _ => (by kernel_rfl)) (by simp) (by simp only [List.map_cons, List.map_nil, Elem.row_up, up_map] <;> rfl) (by kernel_rfl) ?_
  refine segs [] tabOk mixed 4000 (S := .leaf 0) (by kernel_rfl) ?_
  refine sk_leaf ?_
  obtain rfl := some_ h
  exact end_ok [(0, some 17536), (1, some 17537)] Try.results16 (ps := [0 = 0, r4.1.Has.length = r4.1.Has.length, (r4.1.Writers : Int) = r4.1.Writers, (r4.1.Readers : Int) = r4.1.Readers, (r4.2.1 : Int) = r4.2.1, 0 = 0, r4.2.2.1.length = r4.2.2.1.length, (r4.2.2.2 : Int) = r4.2.2.2, E5.cR r4.1.Has = E5.cR r4.1.Has, AllPv (E5.cR r4.1.Has), E5.cR r4.2.2.1 = E5.cR r4.2.2.1, AllPv (E5.cR r4.2.2.1)]) (by kernel_rfl) ⟨rfl, rfl, rfl, rfl, rfl, rfl, rfl, rfl, rfl, (Elem.cR_pv _ _), rfl, (Elem.cR_pv _ _), trivial⟩ (fun _ => ⟨rfl, by simp only [List.mem_cons, List.not_mem_nil, or_false, forall_eq_or_imp, forall_eq]; exact ⟨Elem.cR_bald E5_raw _, Elem.cR_bald E5_raw _⟩⟩)
 ·refine sk_leaf ?_
  obtain ⟨r6, e7, h⟩ := bd_ h
  refine call_ok (d := some 25) (fn := 37) (ax := [.pv ((E5.ro a0.Has))]) (args := [.pv ((E5.ro a0.Has))]) (ps := [a0.Has.length = a0.Has.length, ∀ i, i < a0.Has.length → ∀ j, j < 1 → E5.cf (a0.Has.getD i E5.z) j = E5.cf (a0.Has.getD i E5.z) j]) (hb' := [.row 5 1 (E5.cR r6)]) (by kernel_rfl) (slices_Clone_byte_ok _ _ e7 (al := true)) (by kernel_rfl) ⟨rfl, fun _ _ _ _ => rfl, trivial⟩ (fun _ => (by kernel_rfl)) (by simp) (by simp only [List.map_cons, List.map_nil, Elem.row_up, up_map] <;> rfl) (by kernel_rfl) ?_
  refine segs [] tabOk mixed 4000 (S := .br ((a1.Kind : Int) == 1) (.br ((a0.Writers : Int) == 0) (.leaf 0) (.br ((a0.Readers : Int) == 0) (.leaf 1) (.and (((decide ((((a1.Data.length : Nat) : Int) : Int) > (IntKind.i64.wrap (64 - ((r6.length : Nat) : Int))))) = true → ((decide ((((a1.Data.length : Nat) : Int) : Int) > (IntKind.i64.wrap (64 - ((r6.length : Nat) : Int))))) = true))) (.and (((decide ((((a1.Data.length : Nat) : Int) : Int) > (IntKind.i64.wrap (64 - ((r6.length : Nat) : Int))))) = true → ((decide ((((a1.Data.length : Nat) : Int) : Int) > (IntKind.i64.wrap (64 - ((r6.length : Nat) : Int))))) = true))) (.and ((((decide ((((a1.Data.length : Nat) : Int) : Int) > (IntKind.i64.wrap (64 - ((r6.length : Nat) : Int))))) && !(((IntKind.i64.wrap (64 - ((r6.length : Nat) : Int))) : Int) == 0)) = true → (((decide ((((a1.Data.length : Nat) : Int) : Int) > (IntKind.i64.wrap (64 - ((r6.length : Nat) : Int))))) && !(((IntKind.i64.wrap (64 - ((r6.length : Nat) : Int))) : Int) == 0)) = true))) (.and ((((decide ((((a1.Data.length : Nat) : Int) : Int) > (IntKind.i64.wrap (64 - ((r6.length : Nat) : Int))))) && !(((IntKind.i64.wrap (64 - ((r6.length : Nat) : Int))) : Int) == 0)) = true → (((decide ((((a1.Data.length : Nat) : Int) : Int) > (IntKind.i64.wrap (64 - ((r6.length : Nat) : Int))))) && !(((IntKind.i64.wrap (64 - ((r6.length : Nat) : Int))) : Int) == 0)) = true))) (.and ((((decide ((((a1.Data.length : Nat) : Int) : Int) > (IntKind.i64.wrap (64 - ((r6.length : Nat) : Int))))) && !(((IntKind.i64.wrap (64 - ((r6.length : Nat) : Int))) : Int) == 0)) = true → (((decide ((((a1.Data.length : Nat) : Int) : Int) > (IntKind.i64.wrap (64 - ((r6.length : Nat) : Int))))) && !(((IntKind.i64.wrap (64 - ((r6.length : Nat) : Int))) : Int) == 0)) = true))) (.and (((decide ((((a1.Data.length : Nat) : Int) : Int) > (IntKind.i64.wrap (64 - ((r6.length : Nat) : Int))))) = true → ((decide ((((a1.Data.length : Nat) : Int) : Int) > (IntKind.i64.wrap (64 - ((r6.length : Nat) : Int))))) = true))) (.and (((decide ((((a1.Data.length : Nat) : Int) : Int) > (IntKind.i64.wrap (64 - ((r6.length : Nat) : Int))))) = true → ((((IntKind.i64.wrap (64 - ((r6.length : Nat) : Int))) : Int) == 0) = false → ((decide ((((a1.Data.length : Nat) : Int) : Int) > (IntKind.i64.wrap (64 - ((r6.length : Nat) : Int))))) && !(((IntKind.i64.wrap (64 - ((r6.length : Nat) : Int))) : Int) == 0)) = true))) (.and ((decide ((((a1.Data.length : Nat) : Int) : Int) > (IntKind.i64.wrap (64 - ((r6.length : Nat) : Int))))) = true → (decide ((((a1.Data.length : Nat) : Int) : Int) > (IntKind.i64.wrap (64 - ((r6.length : Nat) : Int))))) = true) (.br ((decide ((((a1.Data.length : Nat) : Int) : Int) > (IntKind.i64.wrap (64 - ((r6.length : Nat) : Int))))) && ((((IntKind.i64.wrap (64 - ((r6.length : Nat) : Int))) : Int) == 0) || (decide ((((a1.Data.length : Nat) : Int) : Int) ≤ 16)))) (.leaf 2) (.and (0 ≤ ((if (((a1.Data.length : Nat) : Int) : Int) < (IntKind.i64.wrap (64 - ((r6.length : Nat) : Int))) then ((a1.Data.length : Nat) : Int) else (IntKind.i64.wrap (64 - ((r6.length : Nat) : Int)))) : Int)) (.and ((Int.toNat (if (((a1.Data.length : Nat) : Int) : Int) < (IntKind.i64.wrap (64 - ((r6.length : Nat) : Int))) then ((a1.Data.length : Nat) : Int) else (IntKind.i64.wrap (64 - ((r6.length : Nat) : Int))))) ≤ a1.Data.length) (.leaf 3)))))))))))))) (.br ((a1.Kind : Int) == 2) (.br ((a0.Readers : Int) == 0) (.leaf 4) (.br (decide ((a1.Most : Int) < 1)) (.leaf 5) (.and ((((((r6.length : Nat) : Int) : Int) == 0) = true → (((((r6.length : Nat) : Int) : Int) == 0) = true))) (.and ((((((r6.length : Nat) : Int) : Int) == 0) = true → (((((r6.length : Nat) : Int) : Int) == 0) = true))) (.and (((((r6.length : Nat) : Int) : Int) == 0) = true → ((((r6.length : Nat) : Int) : Int) == 0) = true) (.br (((((r6.length : Nat) : Int) : Int) == 0) && (decide ((a0.Writers : Int) > 0))) (.leaf 6) (.and (0 ≤ ((if (((r6.length : Nat) : Int) : Int) < a1.Most then ((r6.length : Nat) : Int) else a1.Most) : Int)) (.and ((Int.toNat (if (((r6.length : Nat) : Int) : Int) < a1.Most then ((r6.length : Nat) : Int) else a1.Most)) ≤ r6.length) (.leaf 7))))))))) (.leaf 8))) (by kernel_rfl) ?_
  refine br_ h ?_ ?_ <;> clear h <;> intro c8 h
  ·refine br_ h ?_ ?_ <;> clear h <;> intro c9 h
   ·refine sk_leaf ?_
    obtain ⟨r10, e11, h⟩ := bd_ h
    refine call_ok (d := some 40) (fn := 35) (ax := [.pv (.raw (.int .i64 6))]) (args := [.pv (.raw (.int .i64 6))]) (ps := [(6 : Int) = 6]) (hb' := [.row 5 1 (E5.cR r10.1.Has), .row 5 1 (E5.cR r10.2.2.1)]) (by kernel_rfl) (pipe_Step_1_ok _ _ e11 (al := true)) (by kernel_rfl) ⟨rfl, trivial⟩ (fun _ => (by kernel_rfl)) (by simp) (by simp only [List.map_cons, List.map_nil, Elem.row_up, up_map] <;> rfl) (by kernel_rfl) ?_
    refine segs [] tabOk mixed 4000 (S := .leaf 0) (by kernel_rfl) ?_
    refine sk_leaf ?_
    obtain rfl := some_ h
    exact end_ok [(0, some 18944), (1, some 18945)] Try.results16 (ps := [0 = 0, r10.1.Has.length = r10.1.Has.length, (r10.1.Writers : Int) = r10.1.Writers, (r10.1.Readers : Int) = r10.1.Readers, (r10.2.1 : Int) = r10.2.1, 0 = 0, r10.2.2.1.length = r10.2.2.1.length, (r10.2.2.2 : Int) = r10.2.2.2, E5.cR r10.1.Has = E5.cR r10.1.Has, AllPv (E5.cR r10.1.Has), E5.cR r10.2.2.1 = E5.cR r10.2.2.1, AllPv (E5.cR r10.2.2.1)]) (by kernel_rfl) ⟨rfl, rfl, rfl, rfl, rfl, rfl, rfl, rfl, rfl, (Elem.cR_pv _ _), rfl, (Elem.cR_pv _ _), trivial⟩ (fun _ => ⟨rfl, by simp only [List.mem_cons, List.not_mem_nil, or_false, forall_eq_or_imp, forall_eq]; exact ⟨Elem.cR_bald E5_raw _, Elem.cR_bald E5_raw _⟩⟩)
   ·refine br_ h ?_ ?_ <;> clear h <;> intro c12 h
    ·refine sk_leaf ?_
     obtain ⟨r13, e14, h⟩ := bd_ h
     refine call_ok (d := some 50) (fn := 35) (ax := [.pv (.raw (.int .i64 3))]) (args := [.pv (.raw (.int .i64 3))]) (ps := [(3 : Int) = 3]) (hb' := [.row 5 1 (E5.cR r13.1.Has), .row 5 1 (E5.cR r13.2.2.1)]) (by kernel_rfl) (pipe_Step_1_ok _ _ e14 (al := true)) (by kernel_rfl) ⟨rfl, trivial⟩ (fun _ => (by kernel_rfl)) (by simp) (by simp only [List.map_cons, List.map_nil, Elem.row_up, up_map] <;> rfl) (by kernel_rfl) ?_
     refine segs [] tabOk mixed 4000 (S := .leaf 0) (by kernel_rfl) ?_
     refine sk_leaf ?_
     obtain rfl := some_ h
     exact end_ok [(0, some 19584), (1, some 19585)] Try.results16 (ps := [0 = 0, r13.1.Has.length = r13.1.Has.length, (r13.1.Writers : Int) = r13.1.Writers, (r13.1.Readers : Int) = r13.1.Readers, (r13.2.1 : Int) = r13.2.1, 0 = 0, r13.2.2.1.length = r13.2.2.1.length, (r13.2.2.2 : Int) = r13.2.2.2, E5.cR r13.1.Has = E5.cR r13.1.Has, AllPv (E5.cR r13.1.Has), E5.cR r13.2.2.1 = E5.cR r13.2.2.1, AllPv (E5.cR r13.2.2.1)]) (by kernel_rfl) ⟨rfl, rfl, rfl, rfl, rfl, rfl, rfl, rfl, rfl, (Elem.cR_pv _ _), rfl, (Elem.cR_pv _ _), trivial⟩ (fun _ => ⟨rfl, by simp only [List.mem_cons, List.not_mem_nil, or_false, forall_eq_or_imp, forall_eq]; exact ⟨Elem.cR_bald E5_raw _, Elem.cR_bald E5_raw _⟩⟩)
    ·refine sk_and (fun h => h) ?_
     refine sk_and (fun h => h) ?_
     refine sk_and (fun h => h) ?_
     refine sk_and (fun h => h) ?_
     refine sk_and (fun h => h) ?_
     refine sk_and (fun h => h) ?_
     refine sk_and ((by decide : ∀ y0 y1 : Bool, ((y0 = true) → ((y1 = false) → ((y0 && (!y1)) = true)))) (decide ((((a1.Data.length : Nat) : Int) : Int) > (IntKind.i64.wrap (64 - ((r6.length : Nat) : Int))))) (((IntKind.i64.wrap (64 - ((r6.length : Nat) : Int))) : Int) == 0)) ?_
     refine sk_and (fun h => h) ?_
     refine br_ h ?_ ?_ <;> clear h <;> intro c23 h
     ·refine sk_leaf ?_
      obtain ⟨r24, e25, h⟩ := bd_ h
      refine call_ok (d := some 72) (fn := 35) (ax := [.pv (.raw (.int .i64 7))]) (args := [.pv (.raw (.int .i64 7))]) (ps := [(7 : Int) = 7]) (hb' := [.row 5 1 (E5.cR r24.1.Has), .row 5 1 (E5.cR r24.2.2.1)]) (by kernel_rfl) (pipe_Step_1_ok _ _ e25 (al := true)) (by kernel_rfl) ⟨rfl, trivial⟩ (fun _ => (by kernel_rfl)) (by simp) (by simp only [List.map_cons, List.map_nil, Elem.row_up, up_map] <;> rfl) (by kernel_rfl) ?_
      refine segs [] tabOk mixed 4000 (S := .leaf 0) (by kernel_rfl) ?_
      refine sk_leaf ?_
      obtain rfl := some_ h
      exact end_ok [(0, some 20992), (1, some 20993)] Try.results16 (ps := [0 = 0, r24.1.Has.length = r24.1.Has.length, (r24.1.Writers : Int) = r24.1.Writers, (r24.1.Readers : Int) = r24.1.Readers, (r24.2.1 : Int) = r24.2.1, 0 = 0, r24.2.2.1.length = r24.2.2.1.length, (r24.2.2.2 : Int) = r24.2.2.2, E5.cR r24.1.Has = E5.cR r24.1.Has, AllPv (E5.cR r24.1.Has), E5.cR r24.2.2.1 = E5.cR r24.2.2.1, AllPv (E5.cR r24.2.2.1)]) (by kernel_rfl) ⟨rfl, rfl, rfl, rfl, rfl, rfl, rfl, rfl, rfl, (Elem.cR_pv _ _), rfl, (Elem.cR_pv _ _), trivial⟩ (fun _ => ⟨rfl, by simp only [List.mem_cons, List.not_mem_nil, or_false, forall_eq_or_imp, forall_eq]; exact ⟨Elem.cR_bald E5_raw _, Elem.cR_bald E5_raw _⟩⟩)
     ·refine gd_ h ?_; clear h; intro g26 h
      refine gd_ h ?_; clear h; intro g27 h
      refine sk_leaf ?_
      obtain ⟨g28, h⟩ := if_ h
      refine app_ok (d := 88) (e := 5) (s := 1) (b := 1) (x := .row 17984 1 0 r6.length) (y := .pv (.ro E5.s ((Int.toNat (if (((a1.Data.length : Nat) : Int) : Int) < (IntKind.i64.wrap (64 - ((r6.length : Nat) : Int))) then ((a1.Data.length : Nat) : Int) else (IntKind.i64.wrap (64 - ((r6.length : Nat) : Int))))) - 0) (fun i j => E5.cf (a1.Data.getD (0 + i) E5.z) j))) E5 (xs := r6) (ys := ((a1.Data.drop 0).take ((Int.toNat (if (((a1.Data.length : Nat) : Int) : Int) < (IntKind.i64.wrap (64 - ((r6.length : Nat) : Int))) then ((a1.Data.length : Nat) : Int) else (IntKind.i64.wrap (64 - ((r6.length : Nat) : Int))))) - 0))) (by kernel_rfl) rfl (.row 17984 r6 r6.length rfl (by kernel_rfl)) (.sub a1.Data 0 ((Int.toNat (if (((a1.Data.length : Nat) : Int) : Int) < (IntKind.i64.wrap (64 - ((r6.length : Nat) : Int))) then ((a1.Data.length : Nat) : Int) else (IntKind.i64.wrap (64 - ((r6.length : Nat) : Int))))) - 0) (by omega)) g28 (by kernel_rfl) ?_
      refine segs [] tabOk mixed 4000 (S := .leaf 0) (by kernel_rfl) ?_
      refine sk_leaf ?_
      obtain rfl := some_ h
      exact end_ok [(0, some 22016), (1, none)] Try.results16 (ps := [0 = 0, ((r6 ++ ((a1.Data.drop 0).take ((Int.toNat (if (((a1.Data.length : Nat) : Int) : Int) < (IntKind.i64.wrap (64 - ((r6.length : Nat) : Int))) then ((a1.Data.length : Nat) : Int) else (IntKind.i64.wrap (64 - ((r6.length : Nat) : Int))))) - 0))).length) = (r6 ++ ((a1.Data.drop 0).take ((Int.toNat (if (((a1.Data.length : Nat) : Int) : Int) < (IntKind.i64.wrap (64 - ((r6.length : Nat) : Int))) then ((a1.Data.length : Nat) : Int) else (IntKind.i64.wrap (64 - ((r6.length : Nat) : Int))))) - 0))).length, (a0.Writers : Int) = a0.Writers, (a0.Readers : Int) = a0.Readers, ((if (((a1.Data.length : Nat) : Int) : Int) < (IntKind.i64.wrap (64 - ((r6.length : Nat) : Int))) then ((a1.Data.length : Nat) : Int) else (IntKind.i64.wrap (64 - ((r6.length : Nat) : Int)))) : Int) = (if (((a1.Data.length : Nat) : Int) : Int) < (IntKind.i64.wrap (64 - ((r6.length : Nat) : Int))) then ((a1.Data.length : Nat) : Int) else (IntKind.i64.wrap (64 - ((r6.length : Nat) : Int)))), 0 = 0, ([] : List Int).length = 0, (0 : Int) = 0, E5.cR (r6 ++ ((a1.Data.drop 0).take ((Int.toNat (if (((a1.Data.length : Nat) : Int) : Int) < (IntKind.i64.wrap (64 - ((r6.length : Nat) : Int))) then ((a1.Data.length : Nat) : Int) else (IntKind.i64.wrap (64 - ((r6.length : Nat) : Int))))) - 0))) = E5.cR (r6 ++ ((a1.Data.drop 0).take ((Int.toNat (if (((a1.Data.length : Nat) : Int) : Int) < (IntKind.i64.wrap (64 - ((r6.length : Nat) : Int))) then ((a1.Data.length : Nat) : Int) else (IntKind.i64.wrap (64 - ((r6.length : Nat) : Int))))) - 0))), AllPv (E5.cR (r6 ++ ((a1.Data.drop 0).take ((Int.toNat (if (((a1.Data.length : Nat) : Int) : Int) < (IntKind.i64.wrap (64 - ((r6.length : Nat) : Int))) then ((a1.Data.length : Nat) : Int) else (IntKind.i64.wrap (64 - ((r6.length : Nat) : Int))))) - 0)))), E5.cR [] = []]) (by kernel_rfl) ⟨rfl, rfl, rfl, rfl, rfl, rfl, rfl, rfl, rfl, (Elem.cR_pv _ _), rfl, trivial⟩ (fun _ => ⟨rfl, by simp only [List.mem_cons, List.not_mem_nil, or_false, forall_eq_or_imp, forall_eq]; exact ⟨Elem.cR_bald E5_raw _, Elem.cR_bald E5_raw _⟩⟩)
  ·refine br_ h ?_ ?_ <;> clear h <;> intro c29 h
   ·refine br_ h ?_ ?_ <;> clear h <;> intro c30 h
    ·refine sk_leaf ?_
     obtain ⟨r31, e32, h⟩ := bd_ h
     refine call_ok (d := some 99) (fn := 35) (ax := [.pv (.raw (.int .i64 6))]) (args := [.pv (.raw (.int .i64 6))]) (ps := [(6 : Int) = 6]) (hb' := [.row 5 1 (E5.cR r31.1.Has), .row 5 1 (E5.cR r31.2.2.1)]) (by kernel_rfl) (pipe_Step_1_ok _ _ e32 (al := true)) (by kernel_rfl) ⟨rfl, trivial⟩ (fun _ => (by kernel_rfl)) (by simp) (by simp only [List.map_cons, List.map_nil, Elem.row_up, up_map] <;> rfl) (by kernel_rfl) ?_
     refine segs [] tabOk mixed 4000 (S := .leaf 0) (by kernel_rfl) ?_
     refine sk_leaf ?_
     obtain rfl := some_ h
     exact end_ok [(0, some 22720), (1, some 22721)] Try.results16 (ps := [0 = 0, r31.1.Has.length = r31.1.Has.length, (r31.1.Writers : Int) = r31.1.Writers, (r31.1.Readers : Int) = r31.1.Readers, (r31.2.1 : Int) = r31.2.1, 0 = 0, r31.2.2.1.length = r31.2.2.1.length, (r31.2.2.2 : Int) = r31.2.2.2, E5.cR r31.1.Has = E5.cR r31.1.Has, AllPv (E5.cR r31.1.Has), E5.cR r31.2.2.1 = E5.cR r31.2.2.1, AllPv (E5.cR r31.2.2.1)]) (by kernel_rfl) ⟨rfl, rfl, rfl, rfl, rfl, rfl, rfl, rfl, rfl, (Elem.cR_pv _ _), rfl, (Elem.cR_pv _ _), trivial⟩ (fun _ => ⟨rfl, by simp only [List.mem_cons, List.not_mem_nil, or_false, forall_eq_or_imp, forall_eq]; exact ⟨Elem.cR_bald E5_raw _, Elem.cR_bald E5_raw _⟩⟩)
    ·refine br_ h ?_ ?_ <;> clear h <;> intro c33 h
     ·refine sk_leaf ?_
      obtain ⟨r34, e35, h⟩ := bd_ h
      refine call_ok (d := some 109) (fn := 35) (ax := [.pv (.raw (.int .i64 2))]) (args := [.pv (.raw (.int .i64 2))]) (ps := [(2 : Int) = 2]) (hb' := [.row 5 1 (E5.cR r34.1.Has), .row 5 1 (E5.cR r34.2.2.1)]) (by kernel_rfl) (pipe_Step_1_ok _ _ e35 (al := true)) (by kernel_rfl) ⟨rfl, trivial⟩ (fun _ => (by kernel_rfl)) (by simp) (by simp only [List.map_cons, List.map_nil, Elem.row_up, up_map] <;> rfl) (by kernel_rfl) ?_
      refine segs [] tabOk mixed 4000 (S := .leaf 0) (by kernel_rfl) ?_
      refine sk_leaf ?_
      obtain rfl := some_ h
      exact end_ok [(0, some 23360), (1, some 23361)] Try.results16 (ps := [0 = 0, r34.1.Has.length = r34.1.Has.length, (r34.1.Writers : Int) = r34.1.Writers, (r34.1.Readers : Int) = r34.1.Readers, (r34.2.1 : Int) = r34.2.1, 0 = 0, r34.2.2.1.length = r34.2.2.1.length, (r34.2.2.2 : Int) = r34.2.2.2, E5.cR r34.1.Has = E5.cR r34.1.Has, AllPv (E5.cR r34.1.Has), E5.cR r34.2.2.1 = E5.cR r34.2.2.1, AllPv (E5.cR r34.2.2.1)]) (by kernel_rfl) ⟨rfl, rfl, rfl, rfl, rfl, rfl, rfl, rfl, rfl, (Elem.cR_pv _ _), rfl, (Elem.cR_pv _ _), trivial⟩ (fun _ => ⟨rfl, by simp only [List.mem_cons, List.not_mem_nil, or_false, forall_eq_or_imp, forall_eq]; exact ⟨Elem.cR_bald E5_raw _, Elem.cR_bald E5_raw _⟩⟩)
     ·refine sk_and (fun h => h) ?_
      refine sk_and (fun h => h) ?_
      refine sk_and (fun h => h) ?_
      refine br_ h ?_ ?_ <;> clear h <;> intro c39 h
      ·refine sk_leaf ?_
       obtain ⟨r40, e41, h⟩ := bd_ h
       refine call_ok (d := some 125) (fn := 35) (ax := [.pv (.raw (.int .i64 7))]) (args := [.pv (.raw (.int .i64 7))]) (ps := [(7 : Int) = 7]) (hb' := [.row 5 1 (E5.cR r40.1.Has), .row 5 1 (E5.cR r40.2.2.1)]) (by kernel_rfl) (pipe_Step_1_ok _ _ e41 (al := true)) (by kernel_rfl) ⟨rfl, trivial⟩ (fun _ => (by kernel_rfl)) (by simp) (by simp only [List.map_cons, List.map_nil, Elem.row_up, up_map] <;> rfl) (by kernel_rfl) ?_
       refine segs [] tabOk mixed 4000 (S := .leaf 0) (by kernel_rfl) ?_
       refine sk_leaf ?_
       obtain rfl := some_ h
       exact end_ok [(0, some 24384), (1, some 24385)] Try.results16 (ps := [0 = 0, r40.1.Has.length = r40.1.Has.length, (r40.1.Writers : Int) = r40.1.Writers, (r40.1.Readers : Int) = r40.1.Readers, (r40.2.1 : Int) = r40.2.1, 0 = 0, r40.2.2.1.length = r40.2.2.1.length, (r40.2.2.2 : Int) = r40.2.2.2, E5.cR r40.1.Has = E5.cR r40.1.Has, AllPv (E5.cR r40.1.Has), E5.cR r40.2.2.1 = E5.cR r40.2.2.1, AllPv (E5.cR r40.2.2.1)]) (by kernel_rfl) ⟨rfl, rfl, rfl, rfl, rfl, rfl, rfl, rfl, rfl, (Elem.cR_pv _ _), rfl, (Elem.cR_pv _ _), trivial⟩ (fun _ => ⟨rfl, by simp only [List.mem_cons, List.not_mem_nil, or_false, forall_eq_or_imp, forall_eq]; exact ⟨Elem.cR_bald E5_raw _, Elem.cR_bald E5_raw _⟩⟩)
      ·refine gd_ h ?_; clear h; intro g42 h
       refine gd_ h ?_; clear h; intro g43 h
       refine sk_leaf ?_
       obtain ⟨r44, e45, h⟩ := bd_ h
       refine call_ok (d := some 140) (fn := 37) (ax := [.row 17984 1 (0 + 0) ((Int.toNat (if (((r6.length : Nat) : Int) : Int) < a1.Most then ((r6.length : Nat) : Int) else a1.Most)) - 0)]) (args := [.pv ((E5.ro ((r6.drop (0 + 0)).take ((Int.toNat (if (((r6.length : Nat) : Int) : Int) < a1.Most then ((r6.length : Nat) : Int) else a1.Most)) - 0))))]) (ps := [((Int.toNat (if (((r6.length : Nat) : Int) : Int) < a1.Most then ((r6.length : Nat) : Int) else a1.Most)) - 0) = ((r6.drop (0 + 0)).take ((Int.toNat (if (((r6.length : Nat) : Int) : Int) < a1.Most then ((r6.length : Nat) : Int) else a1.Most)) - 0)).length, rowQ (E5.cR r6) 1 (0 + 0) ((Int.toNat (if (((r6.length : Nat) : Int) : Int) < a1.Most then ((r6.length : Nat) : Int) else a1.Most)) - 0) (fun i j => E5.cf (((r6.drop (0 + 0)).take ((Int.toNat (if (((r6.length : Nat) : Int) : Int) < a1.Most then ((r6.length : Nat) : Int) else a1.Most)) - 0)).getD i E5.z) j)]) (hb' := [.row 5 1 (E5.cR r44)]) (by kernel_rfl) (slices_Clone_byte_ok _ _ e45 (al := false)) (by kernel_rfl) ⟨(by first | rfl | exact Elem.sub_len _ (by omega) | omega | simp | (simp <;> omega)), E5.rowQ_part r6 (0 + 0) ((Int.toNat (if (((r6.length : Nat) : Int) : Int) < a1.Most then ((r6.length : Nat) : Int) else a1.Most)) - 0) (by first | omega | (simp at * <;> omega) | (simp_all <;> omega)), trivial⟩ (fun hx => by cases hx) (by simp) (by simp only [List.map_cons, List.map_nil, Elem.row_up, up_map] <;> rfl) (by kernel_rfl) ?_
       refine segs [] tabOk mixed 4000 (S := .and (0 ≤ ((if (((r6.length : Nat) : Int) : Int) < a1.Most then ((r6.length : Nat) : Int) else a1.Most) : Int)) (.and ((Int.toNat (if (((r6.length : Nat) : Int) : Int) < a1.Most then ((r6.length : Nat) : Int) else a1.Most)) ≤ r6.length) (.leaf 0))) (by kernel_rfl) ?_
       refine gd_ h ?_; clear h; intro g46 h
       refine gd_ h ?_; clear h; intro g47 h
       refine sk_leaf ?_
       obtain ⟨r48, e49, h⟩ := bd_ h
       refine call_ok (d := some 145) (fn := 37) (ax := [.row 17984 1 (0 + (Int.toNat (if (((r6.length : Nat) : Int) : Int) < a1.Most then ((r6.length : Nat) : Int) else a1.Most))) (r6.length - (Int.toNat (if (((r6.length : Nat) : Int) : Int) < a1.Most then ((r6.length : Nat) : Int) else a1.Most)))]) (args := [.pv ((E5.ro ((r6.drop (0 + (Int.toNat (if (((r6.length : Nat) : Int) : Int) < a1.Most then ((r6.length : Nat) : Int) else a1.Most)))).take (r6.length - (Int.toNat (if (((r6.length : Nat) : Int) : Int) < a1.Most then ((r6.length : Nat) : Int) else a1.Most))))))]) (ps := [(r6.length - (Int.toNat (if (((r6.length : Nat) : Int) : Int) < a1.Most then ((r6.length : Nat) : Int) else a1.Most))) = ((r6.drop (0 + (Int.toNat (if (((r6.length : Nat) : Int) : Int) < a1.Most then ((r6.length : Nat) : Int) else a1.Most)))).take (r6.length - (Int.toNat (if (((r6.length : Nat) : Int) : Int) < a1.Most then ((r6.length : Nat) : Int) else a1.Most)))).length, rowQ (E5.cR r6) 1 (0 + (Int.toNat (if (((r6.length : Nat) : Int) : Int) < a1.Most then ((r6.length : Nat) : Int) else a1.Most))) (r6.length - (Int.toNat (if (((r6.length : Nat) : Int) : Int) < a1.Most then ((r6.length : Nat) : Int) else a1.Most))) (fun i j => E5.cf (((r6.drop (0 + (Int.toNat (if (((r6.length : Nat) : Int) : Int) < a1.Most then ((r6.length : Nat) : Int) else a1.Most)))).take (r6.length - (Int.toNat (if (((r6.length : Nat) : Int) : Int) < a1.Most then ((r6.length : Nat) : Int) else a1.Most)))).getD i E5.z) j)]) (hb' := [.row 5 1 (E5.cR r48)]) (by kernel_rfl) (slices_Clone_byte_ok _ _ e49 (al := false)) (by kernel_rfl) ⟨(by first | rfl | exact Elem.sub_len _ (by omega) | omega | simp | (simp <;> omega)), E5.rowQ_part r6 (0 + (Int.toNat (if (((r6.length : Nat) : Int) : Int) < a1.Most then ((r6.length : Nat) : Int) else a1.Most))) (r6.length - (Int.toNat (if (((r6.length : Nat) : Int) : Int) < a1.Most then ((r6.length : Nat) : Int) else a1.Most))) (by first | omega | (simp at * <;> omega) | (simp_all <;> omega)), trivial⟩ (fun hx => by cases hx) (by simp) (by simp only [List.map_cons, List.map_nil, Elem.row_up, up_map] <;> rfl) (by kernel_rfl) ?_
       refine segs [] tabOk mixed 4000 (S := .leaf 0) (by kernel_rfl) ?_
       refine sk_leaf ?_
       obtain rfl := some_ h
       exact end_ok [(0, some 25664), (1, some 25344)] Try.results16 (ps := [0 = 0, r48.length = r48.length, (a0.Writers : Int) = a0.Writers, (a0.Readers : Int) = a0.Readers, (0 : Int) = 0, 0 = 0, r44.length = r44.length, (0 : Int) = 0, E5.cR r48 = E5.cR r48, AllPv (E5.cR r48), E5.cR r44 = E5.cR r44, AllPv (E5.cR r44)]) (by kernel_rfl) ⟨rfl, rfl, rfl, rfl, rfl, rfl, rfl, rfl, rfl, (Elem.cR_pv _ _), rfl, (Elem.cR_pv _ _), trivial⟩ (fun _ => ⟨rfl, by simp only [List.mem_cons, List.not_mem_nil, or_false, forall_eq_or_imp, forall_eq]; exact ⟨Elem.cR_bald E5_raw _, Elem.cR_bald E5_raw _⟩⟩)
   ·refine sk_leaf ?_
    refine mk_ok (d := 149) (by kernel_rfl) (by kernel_rfl) ?_
    refine segs [] tabOk mixed 4000 (S := .leaf 0) (by kernel_rfl) ?_
    refine sk_leaf ?_
    refine mu_ok (id := 25920) (ik := .i64) (kk := .i64) (kv := 3) (x := .ptr 16512 1) (ks := []) (ks' := [.int .i64 3]) (xs := []) (xs' := [.ptr 16512 1]) (by kernel_rfl) (by kernel_rfl) (keysB_ok (by kernel_rfl)) (by kernel_rfl) (by kernel_rfl) ?_
    refine segs [] tabOk mixed 4000 (S := .leaf 0) (by kernel_rfl) ?_
    refine sk_leaf ?_
    refine mu_ok (id := 25920) (ik := .i64) (kk := .i64) (kv := 5) (x := .ptr 16512 1) (ks := [.int .i64 3]) (ks' := [.int .i64 3, .int .i64 5]) (xs := [.ptr 16512 1]) (xs' := [.ptr 16512 1, .ptr 16512 1]) (by kernel_rfl) (by kernel_rfl) (keysB_ok (by kernel_rfl)) (by kernel_rfl) (by kernel_rfl) ?_
    refine segs [] tabOk mixed 4000 (S := .leaf 0) (by kernel_rfl) ?_
    refine sk_leaf ?_
    refine mu_ok (id := 25920) (ik := .i64) (kk := .i64) (kv := 4) (x := .ptr 16512 2) (ks := [.int .i64 3, .int .i64 5]) (ks' := [.int .i64 3, .int .i64 5, .int .i64 4]) (xs := [.ptr 16512 1, .ptr 16512 1]) (xs' := [.ptr 16512 1, .ptr 16512 1, .ptr 16512 2]) (by kernel_rfl) (by kernel_rfl) (keysB_ok (by kernel_rfl)) (by kernel_rfl) (by kernel_rfl) ?_
    refine segs [] tabOk mixed 4000 (S := .leaf 0) (by kernel_rfl) ?_
    refine sk_leaf ?_
    refine mu_ok (id := 25920) (ik := .i64) (kk := .i64) (kv := 6) (x := .ptr 16512 2) (ks := [.int .i64 3, .int .i64 5, .int .i64 4]) (ks' := [.int .i64 3, .int .i64 5, .int .i64 4, .int .i64 6]) (xs := [.ptr 16512 1, .ptr 16512 1, .ptr 16512 2]) (xs' := [.ptr 16512 1, .ptr 16512 1, .ptr 16512 2, .ptr 16512 2]) (by kernel_rfl) (by kernel_rfl) (keysB_ok (by kernel_rfl)) (by kernel_rfl) (by kernel_rfl) ?_
    refine segs [] tabOk mixed 4000 (S := .leaf 0) (by kernel_rfl) ?_
    refine sk_leaf ?_
    refine brV_ h ?_ ?_ <;> clear h <;> intro c50 h
    ·refine lk_ok (d := 157) (id := 25920) (ik := .i64) (kk := .i64) (kv := a1.Kind) (z := .pv (.raw (.pointer none))) (ck := false) (ks := [.int .i64 3, .int .i64 5, .int .i64 4, .int .i64 6]) (xs := [.ptr 16512 1, .ptr 16512 1, .ptr 16512 2, .ptr 16512 2]) (r := some (.ptr 16512 1)) (by kernel_rfl) (by kernel_rfl) (keysB_ok (by kernel_rfl)) (by simp only [mapGet, keyEq, c50, cond_true, cond_false]) ?_
     refine segs [] tabOk mixed 4000 (S := .br false (.leaf 0) (.and (((!((a1.Kind : Int) == 3)) = true → ((!((a1.Kind : Int) == 3)) = true))) (.and (((!((a1.Kind : Int) == 3)) = true → ((!((a1.Kind : Int) == 3)) = true))) (.and (((a1.Kind : Int) == 3) = false → (!((a1.Kind : Int) == 3)) = true) (.br (((a1.Kind : Int) == 3) || ((a1.Kind : Int) == 4)) (.br ((a0.Writers : Int) == 1099511627776) (.leaf 1) (.leaf 2)) (.br ((a0.Writers : Int) == 0) (.leaf 3) (.leaf 4))))))) (by kernel_rfl) ?_
     refine br_ h ?_ ?_ <;> clear h <;> intro c51 h
     ·refine sk_leaf ?_
      obtain ⟨r52, e53, h⟩ := bd_ h
      refine call_ok (d := some 167) (fn := 35) (ax := [.pv (.raw (.int .i64 5))]) (args := [.pv (.raw (.int .i64 5))]) (ps := [(5 : Int) = 5]) (hb' := [.row 5 1 (E5.cR r52.1.Has), .row 5 1 (E5.cR r52.2.2.1)]) (by kernel_rfl) (pipe_Step_1_ok _ _ e53 (al := true)) (by kernel_rfl) ⟨rfl, trivial⟩ (fun _ => (by kernel_rfl)) (by simp) (by simp only [List.map_cons, List.map_nil, Elem.row_up, up_map] <;> rfl) (by kernel_rfl) ?_
      refine segs [] tabOk mixed 4000 (S := .leaf 0) (by kernel_rfl) ?_
      refine sk_leaf ?_
      obtain rfl := some_ h
      exact end_ok [(0, some 27072), (1, some 27073)] Try.results16 (ps := [0 = 0, r52.1.Has.length = r52.1.Has.length, (r52.1.Writers : Int) = r52.1.Writers, (r52.1.Readers : Int) = r52.1.Readers, (r52.2.1 : Int) = r52.2.1, 0 = 0, r52.2.2.1.length = r52.2.2.1.length, (r52.2.2.2 : Int) = r52.2.2.2, E5.cR r52.1.Has = E5.cR r52.1.Has, AllPv (E5.cR r52.1.Has), E5.cR r52.2.2.1 = E5.cR r52.2.2.1, AllPv (E5.cR r52.2.2.1)]) (by kernel_rfl) ⟨rfl, rfl, rfl, rfl, rfl, rfl, rfl, rfl, rfl, (Elem.cR_pv _ _), rfl, (Elem.cR_pv _ _), trivial⟩ (fun _ => ⟨rfl, by simp only [List.mem_cons, List.not_mem_nil, or_false, forall_eq_or_imp, forall_eq]; exact ⟨Elem.cR_bald E5_raw _, Elem.cR_bald E5_raw _⟩⟩)
     ·refine sk_and (fun h => h) ?_
      refine sk_and (fun h => h) ?_
      refine sk_and ((by decide : ∀ y0 : Bool, ((y0 = false) → ((!y0) = true))) ((a1.Kind : Int) == 3)) ?_
      refine br_ h ?_ ?_ <;> clear h <;> intro c57 h
      ·refine br_ h ?_ ?_ <;> clear h <;> intro c58 h
       ·refine sk_leaf ?_
        obtain ⟨r59, e60, h⟩ := bd_ h
        refine call_ok (d := some 186) (fn := 35) (ax := [.pv (.raw (.int .i64 4))]) (args := [.pv (.raw (.int .i64 4))]) (ps := [(4 : Int) = 4]) (hb' := [.row 5 1 (E5.cR r59.1.Has), .row 5 1 (E5.cR r59.2.2.1)]) (by kernel_rfl) (pipe_Step_1_ok _ _ e60 (al := true)) (by kernel_rfl) ⟨rfl, trivial⟩ (fun _ => (by kernel_rfl)) (by simp) (by simp only [List.map_cons, List.map_nil, Elem.row_up, up_map] <;> rfl) (by kernel_rfl) ?_
        refine segs [] tabOk mixed 4000 (S := .leaf 0) (by kernel_rfl) ?_
        refine sk_leaf ?_
        obtain rfl := some_ h
        exact end_ok [(0, some 28288), (1, some 28289)] Try.results16 (ps := [0 = 0, r59.1.Has.length = r59.1.Has.length, (r59.1.Writers : Int) = r59.1.Writers, (r59.1.Readers : Int) = r59.1.Readers, (r59.2.1 : Int) = r59.2.1, 0 = 0, r59.2.2.1.length = r59.2.2.1.length, (r59.2.2.2 : Int) = r59.2.2.2, E5.cR r59.1.Has = E5.cR r59.1.Has, AllPv (E5.cR r59.1.Has), E5.cR r59.2.2.1 = E5.cR r59.2.2.1, AllPv (E5.cR r59.2.2.1)]) (by kernel_rfl) ⟨rfl, rfl, rfl, rfl, rfl, rfl, rfl, rfl, rfl, (Elem.cR_pv _ _), rfl, (Elem.cR_pv _ _), trivial⟩ (fun _ => ⟨rfl, by simp only [List.mem_cons, List.not_mem_nil, or_false, forall_eq_or_imp, forall_eq]; exact ⟨Elem.cR_bald E5_raw _, Elem.cR_bald E5_raw _⟩⟩)
       ·refine sk_leaf ?_
        obtain rfl := some_ h
        exact end_ok [(0, some 17984), (1, none)] Try.results16 (ps := [0 = 0, r6.length = r6.length, ((IntKind.i64.wrap (a0.Writers + 1)) : Int) = (IntKind.i64.wrap (a0.Writers + 1)), (a0.Readers : Int) = a0.Readers, (0 : Int) = 0, 0 = 0, ([] : List Int).length = 0, (0 : Int) = 0, E5.cR r6 = E5.cR r6, AllPv (E5.cR r6), E5.cR [] = []]) (by kernel_rfl) ⟨rfl, rfl, rfl, rfl, rfl, rfl, rfl, rfl, rfl, (Elem.cR_pv _ _), rfl, trivial⟩ (fun _ => ⟨rfl, by simp only [List.mem_cons, List.not_mem_nil, or_false, forall_eq_or_imp, forall_eq]; exact ⟨Elem.cR_bald E5_raw _, Elem.cR_bald E5_raw _⟩⟩)
      ·refine br_ h ?_ ?_ <;> clear h <;> intro c61 h
       ·refine sk_leaf ?_
        obtain ⟨r62, e63, h⟩ := bd_ h
        refine call_ok (d := some 202) (fn := 35) (ax := [.pv (.raw (.int .i64 3))]) (args := [.pv (.raw (.int .i64 3))]) (ps := [(3 : Int) = 3]) (hb' := [.row 5 1 (E5.cR r62.1.Has), .row 5 1 (E5.cR r62.2.2.1)]) (by kernel_rfl) (pipe_Step_1_ok _ _ e63 (al := true)) (by kernel_rfl) ⟨rfl, trivial⟩ (fun _ => (by kernel_rfl)) (by simp) (by simp only [List.map_cons, List.map_nil, Elem.row_up, up_map] <;> rfl) (by kernel_rfl) ?_
        refine segs [] tabOk mixed 4000 (S := .leaf 0) (by kernel_rfl) ?_
        refine sk_leaf ?_
        obtain rfl := some_ h
        exact end_ok [(0, some 29312), (1, some 29313)] Try.results16 (ps := [0 = 0, r62.1.Has.length = r62.1.Has.length, (r62.1.Writers : Int) = r62.1.Writers, (r62.1.Readers : Int) = r62.1.Readers, (r62.2.1 : Int) = r62.2.1, 0 = 0, r62.2.2.1.length = r62.2.2.1.length, (r62.2.2.2 : Int) = r62.2.2.2, E5.cR r62.1.Has = E5.cR r62.1.Has, AllPv (E5.cR r62.1.Has), E5.cR r62.2.2.1 = E5.cR r62.2.2.1, AllPv (E5.cR r62.2.2.1)]) (by kernel_rfl) ⟨rfl, rfl, rfl, rfl, rfl, rfl, rfl, rfl, rfl, (Elem.cR_pv _ _), rfl, (Elem.cR_pv _ _), trivial⟩ (fun _ => ⟨rfl, by simp only [List.mem_cons, List.not_mem_nil, or_false, forall_eq_or_imp, forall_eq]; exact ⟨Elem.cR_bald E5_raw _, Elem.cR_bald E5_raw _⟩⟩)
       ·refine sk_leaf ?_
        obtain rfl := some_ h
        exact end_ok [(0, some 17984), (1, none)] Try.results16 (ps := [0 = 0, r6.length = r6.length, ((IntKind.i64.wrap (a0.Writers - 1)) : Int) = (IntKind.i64.wrap (a0.Writers - 1)), (a0.Readers : Int) = a0.Readers, (0 : Int) = 0, 0 = 0, ([] : List Int).length = 0, (0 : Int) = 0, E5.cR r6 = E5.cR r6, AllPv (E5.cR r6), E5.cR [] = []]) (by kernel_rfl) ⟨rfl, rfl, rfl, rfl, rfl, rfl, rfl, rfl, rfl, (Elem.cR_pv _ _), rfl, trivial⟩ (fun _ => ⟨rfl, by simp only [List.mem_cons, List.not_mem_nil, or_false, forall_eq_or_imp, forall_eq]; exact ⟨Elem.cR_bald E5_raw _, Elem.cR_bald E5_raw _⟩⟩)
    ·refine brV_ h ?_ ?_ <;> clear h <;> intro c64 h
     ·refine lk_ok (d := 157) (id := 25920) (ik := .i64) (kk := .i64) (kv := a1.Kind) (z := .pv (.raw (.pointer none))) (ck := false) (ks := [.int .i64 3, .int .i64 5, .int .i64 4, .int .i64 6]) (xs := [.ptr 16512 1, .ptr 16512 1, .ptr 16512 2, .ptr 16512 2]) (r := some (.ptr 16512 1)) (by kernel_rfl) (by kernel_rfl) (keysB_ok (by kernel_rfl)) (by simp only [mapGet, keyEq, c50, c64, cond_true, cond_false]) ?_
      refine segs [] tabOk mixed 4000 (S := .br false (.leaf 0) (.and (((!((a1.Kind : Int) == 3)) = true → ((!((a1.Kind : Int) == 3)) = true))) (.and (((!((a1.Kind : Int) == 3)) = true → ((!((a1.Kind : Int) == 3)) = true))) (.and (((a1.Kind : Int) == 3) = false → (!((a1.Kind : Int) == 3)) = true) (.br (((a1.Kind : Int) == 3) || ((a1.Kind : Int) == 4)) (.br ((a0.Writers : Int) == 1099511627776) (.leaf 1) (.leaf 2)) (.br ((a0.Writers : Int) == 0) (.leaf 3) (.leaf 4))))))) (by kernel_rfl) ?_
      refine br_ h ?_ ?_ <;> clear h <;> intro c65 h
      ·refine sk_leaf ?_
       obtain ⟨r66, e67, h⟩ := bd_ h
       refine call_ok (d := some 167) (fn := 35) (ax := [.pv (.raw (.int .i64 5))]) (args := [.pv (.raw (.int .i64 5))]) (ps := [(5 : Int) = 5]) (hb' := [.row 5 1 (E5.cR r66.1.Has), .row 5 1 (E5.cR r66.2.2.1)]) (by kernel_rfl) (pipe_Step_1_ok _ _ e67 (al := true)) (by kernel_rfl) ⟨rfl, trivial⟩ (fun _ => (by kernel_rfl)) (by simp) (by simp only [List.map_cons, List.map_nil, Elem.row_up, up_map] <;> rfl) (by kernel_rfl) ?_
       refine segs [] tabOk mixed 4000 (S := .leaf 0) (by kernel_rfl) ?_
       refine sk_leaf ?_
       obtain rfl := some_ h
       exact end_ok [(0, some 27072), (1, some 27073)] Try.results16 (ps := [0 = 0, r66.1.Has.length = r66.1.Has.length, (r66.1.Writers : Int) = r66.1.Writers, (r66.1.Readers : Int) = r66.1.Readers, (r66.2.1 : Int) = r66.2.1, 0 = 0, r66.2.2.1.length = r66.2.2.1.length, (r66.2.2.2 : Int) = r66.2.2.2, E5.cR r66.1.Has = E5.cR r66.1.Has, AllPv (E5.cR r66.1.Has), E5.cR r66.2.2.1 = E5.cR r66.2.2.1, AllPv (E5.cR r66.2.2.1)]) (by kernel_rfl) ⟨rfl, rfl, rfl, rfl, rfl, rfl, rfl, rfl, rfl, (Elem.cR_pv _ _), rfl, (Elem.cR_pv _ _), trivial⟩ (fun _ => ⟨rfl, by simp only [List.mem_cons, List.not_mem_nil, or_false, forall_eq_or_imp, forall_eq]; exact ⟨Elem.cR_bald E5_raw _, Elem.cR_bald E5_raw _⟩⟩)
      ·refine sk_and (fun h => h) ?_
       refine sk_and (fun h => h) ?_
       refine sk_and ((by decide : ∀ y0 : Bool, ((y0 = false) → ((!y0) = true))) ((a1.Kind : Int) == 3)) ?_
       refine br_ h ?_ ?_ <;> clear h <;> intro c71 h
       ·refine br_ h ?_ ?_ <;> clear h <;> intro c72 h
        ·refine sk_leaf ?_
         obtain ⟨r73, e74, h⟩ := bd_ h
         refine call_ok (d := some 186) (fn := 35) (ax := [.pv (.raw (.int .i64 4))]) (args := [.pv (.raw (.int .i64 4))]) (ps := [(4 : Int) = 4]) (hb' := [.row 5 1 (E5.cR r73.1.Has), .row 5 1 (E5.cR r73.2.2.1)]) (by kernel_rfl) (pipe_Step_1_ok _ _ e74 (al := true)) (by kernel_rfl) ⟨rfl, trivial⟩ (fun _ => (by kernel_rfl)) (by simp) (by simp only [List.map_cons, List.map_nil, Elem.row_up, up_map] <;> rfl) (by kernel_rfl) ?_
         refine segs [] tabOk mixed 4000 (S := .leaf 0) (by kernel_rfl) ?_
         refine sk_leaf ?_
         obtain rfl := some_ h
         exact end_ok [(0, some 28288), (1, some 28289)] Try.results16 (ps := [0 = 0, r73.1.Has.length = r73.1.Has.length, (r73.1.Writers : Int) = r73.1.Writers, (r73.1.Readers : Int) = r73.1.Readers, (r73.2.1 : Int) = r73.2.1, 0 = 0, r73.2.2.1.length = r73.2.2.1.length, (r73.2.2.2 : Int) = r73.2.2.2, E5.cR r73.1.Has = E5.cR r73.1.Has, AllPv (E5.cR r73.1.Has), E5.cR r73.2.2.1 = E5.cR r73.2.2.1, AllPv (E5.cR r73.2.2.1)]) (by kernel_rfl) ⟨rfl, rfl, rfl, rfl, rfl, rfl, rfl, rfl, rfl, (Elem.cR_pv _ _), rfl, (Elem.cR_pv _ _), trivial⟩ (fun _ => ⟨rfl, by simp only [List.mem_cons, List.not_mem_nil, or_false, forall_eq_or_imp, forall_eq]; exact ⟨Elem.cR_bald E5_raw _, Elem.cR_bald E5_raw _⟩⟩)
        ·refine sk_leaf ?_
         obtain rfl := some_ h
         exact end_ok [(0, some 17984), (1, none)] Try.results16 (ps := [0 = 0, r6.length = r6.length, ((IntKind.i64.wrap (a0.Writers + 1)) : Int) = (IntKind.i64.wrap (a0.Writers + 1)), (a0.Readers : Int) = a0.Readers, (0 : Int) = 0, 0 = 0, ([] : List Int).length = 0, (0 : Int) = 0, E5.cR r6 = E5.cR r6, AllPv (E5.cR r6), E5.cR [] = []]) (by kernel_rfl) ⟨rfl, rfl, rfl, rfl, rfl, rfl, rfl, rfl, rfl, (Elem.cR_pv _ _), rfl, trivial⟩ (fun _ => ⟨rfl, by simp only [List.mem_cons, List.not_mem_nil, or_false, forall_eq_or_imp, forall_eq]; exact ⟨Elem.cR_bald E5_raw _, Elem.cR_bald E5_raw _⟩⟩)
       ·refine br_ h ?_ ?_ <;> clear h <;> intro c75 h
        ·refine sk_leaf ?_
         obtain ⟨r76, e77, h⟩ := bd_ h
         refine call_ok (d := some 202) (fn := 35) (ax := [.pv (.raw (.int .i64 3))]) (args := [.pv (.raw (.int .i64 3))]) (ps := [(3 : Int) = 3]) (hb' := [.row 5 1 (E5.cR r76.1.Has), .row 5 1 (E5.cR r76.2.2.1)]) (by kernel_rfl) (pipe_Step_1_ok _ _ e77 (al := true)) (by kernel_rfl) ⟨rfl, trivial⟩ (fun _ => (by kernel_rfl)) (by simp) (by simp only [List.map_cons, List.map_nil, Elem.row_up, up_map] <;> rfl) (by kernel_rfl) ?_
         refine segs [] tabOk mixed 4000 (S := .leaf 0) (by kernel_rfl) ?_
         refine sk_leaf ?_
         obtain rfl := some_ h
         exact end_ok [(0, some 29312), (1, some 29313)] Try.results16 (ps := [0 = 0, r76.1.Has.length = r76.1.Has.length, (r76.1.Writers : Int) = r76.1.Writers, (r76.1.Readers : Int) = r76.1.Readers, (r76.2.1 : Int) = r76.2.1, 0 = 0, r76.2.2.1.length = r76.2.2.1.length, (r76.2.2.2 : Int) = r76.2.2.2, E5.cR r76.1.Has = E5.cR r76.1.Has, AllPv (E5.cR r76.1.Has), E5.cR r76.2.2.1 = E5.cR r76.2.2.1, AllPv (E5.cR r76.2.2.1)]) (by kernel_rfl) ⟨rfl, rfl, rfl, rfl, rfl, rfl, rfl, rfl, rfl, (Elem.cR_pv _ _), rfl, (Elem.cR_pv _ _), trivial⟩ (fun _ => ⟨rfl, by simp only [List.mem_cons, List.not_mem_nil, or_false, forall_eq_or_imp, forall_eq]; exact ⟨Elem.cR_bald E5_raw _, Elem.cR_bald E5_raw _⟩⟩)
        ·refine sk_leaf ?_
         obtain rfl := some_ h
         exact end_ok [(0, some 17984), (1, none)] Try.results16 (ps := [0 = 0, r6.length = r6.length, ((IntKind.i64.wrap (a0.Writers - 1)) : Int) = (IntKind.i64.wrap (a0.Writers - 1)), (a0.Readers : Int) = a0.Readers, (0 : Int) = 0, 0 = 0, ([] : List Int).length = 0, (0 : Int) = 0, E5.cR r6 = E5.cR r6, AllPv (E5.cR r6), E5.cR [] = []]) (by kernel_rfl) ⟨rfl, rfl, rfl, rfl, rfl, rfl, rfl, rfl, rfl, (Elem.cR_pv _ _), rfl, trivial⟩ (fun _ => ⟨rfl, by simp only [List.mem_cons, List.not_mem_nil, or_false, forall_eq_or_imp, forall_eq]; exact ⟨Elem.cR_bald E5_raw _, Elem.cR_bald E5_raw _⟩⟩)
     ·refine brV_ h ?_ ?_ <;> clear h <;> intro c78 h
      ·refine lk_ok (d := 157) (id := 25920) (ik := .i64) (kk := .i64) (kv := a1.Kind) (z := .pv (.raw (.pointer none))) (ck := false) (ks := [.int .i64 3, .int .i64 5, .int .i64 4, .int .i64 6]) (xs := [.ptr 16512 1, .ptr 16512 1, .ptr 16512 2, .ptr 16512 2]) (r := some (.ptr 16512 2)) (by kernel_rfl) (by kernel_rfl) (keysB_ok (by kernel_rfl)) (by simp only [mapGet, keyEq, c50, c64, c78, cond_true, cond_false]) ?_
       refine segs [] tabOk mixed 4000 (S := .br false (.leaf 0) (.and (((!((a1.Kind : Int) == 3)) = true → ((!((a1.Kind : Int) == 3)) = true))) (.and (((!((a1.Kind : Int) == 3)) = true → ((!((a1.Kind : Int) == 3)) = true))) (.and (((a1.Kind : Int) == 3) = false → (!((a1.Kind : Int) == 3)) = true) (.br (((a1.Kind : Int) == 3) || ((a1.Kind : Int) == 4)) (.br ((a0.Readers : Int) == 1099511627776) (.leaf 1) (.leaf 2)) (.br ((a0.Readers : Int) == 0) (.leaf 3) (.leaf 4))))))) (by kernel_rfl) ?_
       refine br_ h ?_ ?_ <;> clear h <;> intro c79 h
       ·refine sk_leaf ?_
        obtain ⟨r80, e81, h⟩ := bd_ h
        refine call_ok (d := some 167) (fn := 35) (ax := [.pv (.raw (.int .i64 5))]) (args := [.pv (.raw (.int .i64 5))]) (ps := [(5 : Int) = 5]) (hb' := [.row 5 1 (E5.cR r80.1.Has), .row 5 1 (E5.cR r80.2.2.1)]) (by kernel_rfl) (pipe_Step_1_ok _ _ e81 (al := true)) (by kernel_rfl) ⟨rfl, trivial⟩ (fun _ => (by kernel_rfl)) (by simp) (by simp only [List.map_cons, List.map_nil, Elem.row_up, up_map] <;> rfl) (by kernel_rfl) ?_
        refine segs [] tabOk mixed 4000 (S := .leaf 0) (by kernel_rfl) ?_
        refine sk_leaf ?_
        obtain rfl := some_ h
        exact end_ok [(0, some 27072), (1, some 27073)] Try.results16 (ps := [0 = 0, r80.1.Has.length = r80.1.Has.length, (r80.1.Writers : Int) = r80.1.Writers, (r80.1.Readers : Int) = r80.1.Readers, (r80.2.1 : Int) = r80.2.1, 0 = 0, r80.2.2.1.length = r80.2.2.1.length, (r80.2.2.2 : Int) = r80.2.2.2, E5.cR r80.1.Has = E5.cR r80.1.Has, AllPv (E5.cR r80.1.Has), E5.cR r80.2.2.1 = E5.cR r80.2.2.1, AllPv (E5.cR r80.2.2.1)]) (by kernel_rfl) ⟨rfl, rfl, rfl, rfl, rfl, rfl, rfl, rfl, rfl, (Elem.cR_pv _ _), rfl, (Elem.cR_pv _ _), trivial⟩ (fun _ => ⟨rfl, by simp only [List.mem_cons, List.not_mem_nil, or_false, forall_eq_or_imp, forall_eq]; exact ⟨Elem.cR_bald E5_raw _, Elem.cR_bald E5_raw _⟩⟩)
       ·refine sk_and (fun h => h) ?_
        refine sk_and (fun h => h) ?_
        refine sk_and ((by decide : ∀ y0 : Bool, ((y0 = false) → ((!y0) = true))) ((a1.Kind : Int) == 3)) ?_
        refine br_ h ?_ ?_ <;> clear h <;> intro c85 h
        ·refine br_ h ?_ ?_ <;> clear h <;> intro c86 h
         ·refine sk_leaf ?_
          obtain ⟨r87, e88, h⟩ := bd_ h
          refine call_ok (d := some 186) (fn := 35) (ax := [.pv (.raw (.int .i64 4))]) (args := [.pv (.raw (.int .i64 4))]) (ps := [(4 : Int) = 4]) (hb' := [.row 5 1 (E5.cR r87.1.Has), .row 5 1 (E5.cR r87.2.2.1)]) (by kernel_rfl) (pipe_Step_1_ok _ _ e88 (al := true)) (by kernel_rfl) ⟨rfl, trivial⟩ (fun _ => (by kernel_rfl)) (by simp) (by simp only [List.map_cons, List.map_nil, Elem.row_up, up_map] <;> rfl) (by kernel_rfl) ?_
          refine segs [] tabOk mixed 4000 (S := .leaf 0) (by kernel_rfl) ?_
          refine sk_leaf ?_
          obtain rfl := some_ h
          exact end_ok [(0, some 28288), (1, some 28289)] Try.results16 (ps := [0 = 0, r87.1.Has.length = r87.1.Has.length, (r87.1.Writers : Int) = r87.1.Writers, (r87.1.Readers : Int) = r87.1.Readers, (r87.2.1 : Int) = r87.2.1, 0 = 0, r87.2.2.1.length = r87.2.2.1.length, (r87.2.2.2 : Int) = r87.2.2.2, E5.cR r87.1.Has = E5.cR r87.1.Has, AllPv (E5.cR r87.1.Has), E5.cR r87.2.2.1 = E5.cR r87.2.2.1, AllPv (E5.cR r87.2.2.1)]) (by kernel_rfl) ⟨rfl, rfl, rfl, rfl, rfl, rfl, rfl, rfl, rfl, (Elem.cR_pv _ _), rfl, (Elem.cR_pv _ _), trivial⟩ (fun _ => ⟨rfl, by simp only [List.mem_cons, List.not_mem_nil, or_false, forall_eq_or_imp, forall_eq]; exact ⟨Elem.cR_bald E5_raw _, Elem.cR_bald E5_raw _⟩⟩)
         ·refine sk_leaf ?_
          obtain rfl := some_ h
          exact end_ok [(0, some 17984), (1, none)] Try.results16 (ps := [0 = 0, r6.length = r6.length, (a0.Writers : Int) = a0.Writers, ((IntKind.i64.wrap (a0.Readers + 1)) : Int) = (IntKind.i64.wrap (a0.Readers + 1)), (0 : Int) = 0, 0 = 0, ([] : List Int).length = 0, (0 : Int) = 0, E5.cR r6 = E5.cR r6, AllPv (E5.cR r6), E5.cR [] = []]) (by kernel_rfl) ⟨rfl, rfl, rfl, rfl, rfl, rfl, rfl, rfl, rfl, (Elem.cR_pv _ _), rfl, trivial⟩ (fun _ => ⟨rfl, by simp only [List.mem_cons, List.not_mem_nil, or_false, forall_eq_or_imp, forall_eq]; exact ⟨Elem.cR_bald E5_raw _, Elem.cR_bald E5_raw _⟩⟩)
        ·refine br_ h ?_ ?_ <;> clear h <;> intro c89 h
         ·refine sk_leaf ?_
          obtain ⟨r90, e91, h⟩ := bd_ h
          refine call_ok (d := some 202) (fn := 35) (ax := [.pv (.raw (.int .i64 3))]) (args := [.pv (.raw (.int .i64 3))]) (ps := [(3 : Int) = 3]) (hb' := [.row 5 1 (E5.cR r90.1.Has), .row 5 1 (E5.cR r90.2.2.1)]) (by kernel_rfl) (pipe_Step_1_ok _ _ e91 (al := true)) (by kernel_rfl) ⟨rfl, trivial⟩ (fun _ => (by kernel_rfl)) (by simp) (by simp only [List.map_cons, List.map_nil, Elem.row_up, up_map] <;> rfl) (by kernel_rfl) ?_
          refine segs [] tabOk mixed 4000 (S := .leaf 0) (by kernel_rfl) ?_
          refine sk_leaf ?_
          obtain rfl := some_ h
          exact end_ok [(0, some 29312), (1, some 29313)] Try.results16 (ps := [0 = 0, r90.1.Has.length = r90.1.Has.length, (r90.1.Writers : Int) = r90.1.Writers, (r90.1.Readers : Int) = r90.1.Readers, (r90.2.1 : Int) = r90.2.1, 0 = 0, r90.2.2.1.length = r90.2.2.1.length, (r90.2.2.2 : Int) = r90.2.2.2, E5.cR r90.1.Has = E5.cR r90.1.Has, AllPv (E5.cR r90.1.Has), E5.cR r90.2.2.1 = E5.cR r90.2.2.1, AllPv (E5.cR r90.2.2.1)]) (by kernel_rfl) ⟨rfl, rfl, rfl, rfl, rfl, rfl, rfl, rfl, rfl, (Elem.cR_pv _ _), rfl, (Elem.cR_pv _ _), trivial⟩ (fun _ => ⟨rfl, by simp only [List.mem_cons, List.not_mem_nil, or_false, forall_eq_or_imp, forall_eq]; exact ⟨Elem.cR_bald E5_raw _, Elem.cR_bald E5_raw _⟩⟩)
         ·refine sk_leaf ?_
          obtain rfl := some_ h
          exact end_ok [(0, some 17984), (1, none)] Try.results16 (ps := [0 = 0, r6.length = r6.length, (a0.Writers : Int) = a0.Writers, ((IntKind.i64.wrap (a0.Readers - 1)) : Int) = (IntKind.i64.wrap (a0.Readers - 1)), (0 : Int) = 0, 0 = 0, ([] : List Int).length = 0, (0 : Int) = 0, E5.cR r6 = E5.cR r6, AllPv (E5.cR r6), E5.cR [] = []]) (by kernel_rfl) ⟨rfl, rfl, rfl, rfl, rfl, rfl, rfl, rfl, rfl, (Elem.cR_pv _ _), rfl, trivial⟩ (fun _ => ⟨rfl, by simp only [List.mem_cons, List.not_mem_nil, or_false, forall_eq_or_imp, forall_eq]; exact ⟨Elem.cR_bald E5_raw _, Elem.cR_bald E5_raw _⟩⟩)
      ·refine brV_ h ?_ ?_ <;> clear h <;> intro c92 h
       ·refine lk_ok (d := 157) (id := 25920) (ik := .i64) (kk := .i64) (kv := a1.Kind) (z := .pv (.raw (.pointer none))) (ck := false) (ks := [.int .i64 3, .int .i64 5, .int .i64 4, .int .i64 6]) (xs := [.ptr 16512 1, .ptr 16512 1, .ptr 16512 2, .ptr 16512 2]) (r := some (.ptr 16512 2)) (by kernel_rfl) (by kernel_rfl) (keysB_ok (by kernel_rfl)) (by simp only [mapGet, keyEq, c50, c64, c78, c92, cond_true, cond_false]) ?_
        refine segs [] tabOk mixed 4000 (S := .br false (.leaf 0) (.and (((!((a1.Kind : Int) == 3)) = true → ((!((a1.Kind : Int) == 3)) = true))) (.and (((!((a1.Kind : Int) == 3)) = true → ((!((a1.Kind : Int) == 3)) = true))) (.and (((a1.Kind : Int) == 3) = false → (!((a1.Kind : Int) == 3)) = true) (.br (((a1.Kind : Int) == 3) || ((a1.Kind : Int) == 4)) (.br ((a0.Readers : Int) == 1099511627776) (.leaf 1) (.leaf 2)) (.br ((a0.Readers : Int) == 0) (.leaf 3) (.leaf 4))))))) (by kernel_rfl) ?_
        refine br_ h ?_ ?_ <;> clear h <;> intro c93 h
        ·refine sk_leaf ?_
         obtain ⟨r94, e95, h⟩ := bd_ h
         refine call_ok (d := some 167) (fn := 35) (ax := [.pv (.raw (.int .i64 5))]) (args := [.pv (.raw (.int .i64 5))]) (ps := [(5 : Int) = 5]) (hb' := [.row 5 1 (E5.cR r94.1.Has), .row 5 1 (E5.cR r94.2.2.1)]) (by kernel_rfl) (pipe_Step_1_ok _ _ e95 (al := true)) (by kernel_rfl) ⟨rfl, trivial⟩ (fun _ => (by kernel_rfl)) (by simp) (by simp only [List.map_cons, List.map_nil, Elem.row_up, up_map] <;> rfl) (by kernel_rfl) ?_
         refine segs [] tabOk mixed 4000 (S := .leaf 0) (by kernel_rfl) ?_
         refine sk_leaf ?_
         obtain rfl := some_ h
         exact end_ok [(0, some 27072), (1, some 27073)] Try.results16 (ps := [0 = 0, r94.1.Has.length = r94.1.Has.length, (r94.1.Writers : Int) = r94.1.Writers, (r94.1.Readers : Int) = r94.1.Readers, (r94.2.1 : Int) = r94.2.1, 0 = 0, r94.2.2.1.length = r94.2.2.1.length, (r94.2.2.2 : Int) = r94.2.2.2, E5.cR r94.1.Has = E5.cR r94.1.Has, AllPv (E5.cR r94.1.Has), E5.cR r94.2.2.1 = E5.cR r94.2.2.1, AllPv (E5.cR r94.2.2.1)]) (by kernel_rfl) ⟨rfl, rfl, rfl, rfl, rfl, rfl, rfl, rfl, rfl, (Elem.cR_pv _ _), rfl, (Elem.cR_pv _ _), trivial⟩ (fun _ => ⟨rfl, by simp only [List.mem_cons, List.not_mem_nil, or_false, forall_eq_or_imp, forall_eq]; exact ⟨Elem.cR_bald E5_raw _, Elem.cR_bald E5_raw _⟩⟩)
        ·refine sk_and (fun h => h) ?_
         refine sk_and (fun h => h) ?_
         refine sk_and ((by decide : ∀ y0 : Bool, ((y0 = false) → ((!y0) = true))) ((a1.Kind : Int) == 3)) ?_
         refine br_ h ?_ ?_ <;> clear h <;> intro c99 h
         ·refine br_ h ?_ ?_ <;> clear h <;> intro c100 h
          ·refine sk_leaf ?_
           obtain ⟨r101, e102, h⟩ := bd_ h
           refine call_ok (d := some 186) (fn := 35) (ax := [.pv (.raw (.int .i64 4))]) (args := [.pv (.raw (.int .i64 4))]) (ps := [(4 : Int) = 4]) (hb' := [.row 5 1 (E5.cR r101.1.Has), .row 5 1 (E5.cR r101.2.2.1)]) (by kernel_rfl) (pipe_Step_1_ok _ _ e102 (al := true)) (by kernel_rfl) ⟨rfl, trivial⟩ (fun _ => (by kernel_rfl)) (by simp) (by simp only [List.map_cons, List.map_nil, Elem.row_up, up_map] <;> rfl) (by kernel_rfl) ?_
           refine segs [] tabOk mixed 4000 (S := .leaf 0) (by kernel_rfl) ?_
           refine sk_leaf ?_
           obtain rfl := some_ h
           exact end_ok [(0, some 28288), (1, some 28289)] Try.results16 (ps := [0 = 0, r101.1.Has.length = r101.1.Has.length, (r101.1.Writers : Int) = r101.1.Writers, (r101.1.Readers : Int) = r101.1.Readers, (r101.2.1 : Int) = r101.2.1, 0 = 0, r101.2.2.1.length = r101.2.2.1.length, (r101.2.2.2 : Int) = r101.2.2.2, E5.cR r101.1.Has = E5.cR r101.1.Has, AllPv (E5.cR r101.1.Has), E5.cR r101.2.2.1 = E5.cR r101.2.2.1, AllPv (E5.cR r101.2.2.1)]) (by kernel_rfl) ⟨rfl, rfl, rfl, rfl, rfl, rfl, rfl, rfl, rfl, (Elem.cR_pv _ _), rfl, (Elem.cR_pv _ _), trivial⟩ (fun _ => ⟨rfl, by simp only [List.mem_cons, List.not_mem_nil, or_false, forall_eq_or_imp, forall_eq]; exact ⟨Elem.cR_bald E5_raw _, Elem.cR_bald E5_raw _⟩⟩)
          ·refine sk_leaf ?_
           obtain rfl := some_ h
           exact end_ok [(0, some 17984), (1, none)] Try.results16 (ps := [0 = 0, r6.length = r6.length, (a0.Writers : Int) = a0.Writers, ((IntKind.i64.wrap (a0.Readers + 1)) : Int) = (IntKind.i64.wrap (a0.Readers + 1)), (0 : Int) = 0, 0 = 0, ([] : List Int).length = 0, (0 : Int) = 0, E5.cR r6 = E5.cR r6, AllPv (E5.cR r6), E5.cR [] = []]) (by kernel_rfl) ⟨rfl, rfl, rfl, rfl, rfl, rfl, rfl, rfl, rfl, (Elem.cR_pv _ _), rfl, trivial⟩ (fun _ => ⟨rfl, by simp only [List.mem_cons, List.not_mem_nil, or_false, forall_eq_or_imp, forall_eq]; exact ⟨Elem.cR_bald E5_raw _, Elem.cR_bald E5_raw _⟩⟩)
         ·refine br_ h ?_ ?_ <;> clear h <;> intro c103 h
          ·refine sk_leaf ?_
           obtain ⟨r104, e105, h⟩ := bd_ h
           refine call_ok (d := some 202) (fn := 35) (ax := [.pv (.raw (.int .i64 3))]) (args := [.pv (.raw (.int .i64 3))]) (ps := [(3 : Int) = 3]) (hb' := [.row 5 1 (E5.cR r104.1.Has), .row 5 1 (E5.cR r104.2.2.1)]) (by kernel_rfl) (pipe_Step_1_ok _ _ e105 (al := true)) (by kernel_rfl) ⟨rfl, trivial⟩ (fun _ => (by kernel_rfl)) (by simp) (by simp only [List.map_cons, List.map_nil, Elem.row_up, up_map] <;> rfl) (by kernel_rfl) ?_
           refine segs [] tabOk mixed 4000 (S := .leaf 0) (by kernel_rfl) ?_
           refine sk_leaf ?_
           obtain rfl := some_ h
           exact end_ok [(0, some 29312), (1, some 29313)] Try.results16 (ps := [0 = 0, r104.1.Has.length = r104.1.Has.length, (r104.1.Writers : Int) = r104.1.Writers, (r104.1.Readers : Int) = r104.1.Readers, (r104.2.1 : Int) = r104.2.1, 0 = 0, r104.2.2.1.length = r104.2.2.1.length, (r104.2.2.2 : Int) = r104.2.2.2, E5.cR r104.1.Has = E5.cR r104.1.Has, AllPv (E5.cR r104.1.Has), E5.cR r104.2.2.1 = E5.cR r104.2.2.1, AllPv (E5.cR r104.2.2.1)]) (by kernel_rfl) ⟨rfl, rfl, rfl, rfl, rfl, rfl, rfl, rfl, rfl, (Elem.cR_pv _ _), rfl, (Elem.cR_pv _ _), trivial⟩ (fun _ => ⟨rfl, by simp only [List.mem_cons, List.not_mem_nil, or_false, forall_eq_or_imp, forall_eq]; exact ⟨Elem.cR_bald E5_raw _, Elem.cR_bald E5_raw _⟩⟩)
          ·refine sk_leaf ?_
           obtain rfl := some_ h
           exact end_ok [(0, some 17984), (1, none)] Try.results16 (ps := [0 = 0, r6.length = r6.length, (a0.Writers : Int) = a0.Writers, ((IntKind.i64.wrap (a0.Readers - 1)) : Int) = (IntKind.i64.wrap (a0.Readers - 1)), (0 : Int) = 0, 0 = 0, ([] : List Int).length = 0, (0 : Int) = 0, E5.cR r6 = E5.cR r6, AllPv (E5.cR r6), E5.cR [] = []]) (by kernel_rfl) ⟨rfl, rfl, rfl, rfl, rfl, rfl, rfl, rfl, rfl, (Elem.cR_pv _ _), rfl, trivial⟩ (fun _ => ⟨rfl, by simp only [List.mem_cons, List.not_mem_nil, or_false, forall_eq_or_imp, forall_eq]; exact ⟨Elem.cR_bald E5_raw _, Elem.cR_bald E5_raw _⟩⟩)
       ·refine lk_ok (d := 157) (id := 25920) (ik := .i64) (kk := .i64) (kv := a1.Kind) (z := .pv (.raw (.pointer none))) (ck := false) (ks := [.int .i64 3, .int .i64 5, .int .i64 4, .int .i64 6]) (xs := [.ptr 16512 1, .ptr 16512 1, .ptr 16512 2, .ptr 16512 2]) (r := none) (by kernel_rfl) (by kernel_rfl) (keysB_ok (by kernel_rfl)) (by simp only [mapGet, keyEq, c50, c64, c78, c92, cond_true, cond_false]) ?_
        refine segs [] tabOk mixed 4000 (S := .br true (.leaf 0) (.and (((!((a1.Kind : Int) == 3)) = true → ((!((a1.Kind : Int) == 3)) = true))) (.and (((!((a1.Kind : Int) == 3)) = true → ((!((a1.Kind : Int) == 3)) = true))) (.and (((a1.Kind : Int) == 3) = false → (!((a1.Kind : Int) == 3)) = true) (.br (((a1.Kind : Int) == 3) || ((a1.Kind : Int) == 4)) (.bad) (.bad)))))) (by kernel_rfl) ?_
        refine br_ h ?_ ?_ <;> clear h <;> intro c106 h
        ·refine sk_leaf ?_
         obtain ⟨r107, e108, h⟩ := bd_ h
         refine call_ok (d := some 167) (fn := 35) (ax := [.pv (.raw (.int .i64 5))]) (args := [.pv (.raw (.int .i64 5))]) (ps := [(5 : Int) = 5]) (hb' := [.row 5 1 (E5.cR r107.1.Has), .row 5 1 (E5.cR r107.2.2.1)]) (by kernel_rfl) (pipe_Step_1_ok _ _ e108 (al := true)) (by kernel_rfl) ⟨rfl, trivial⟩ (fun _ => (by kernel_rfl)) (by simp) (by simp only [List.map_cons, List.map_nil, Elem.row_up, up_map] <;> rfl) (by kernel_rfl) ?_
         refine segs [] tabOk mixed 4000 (S := .leaf 0) (by kernel_rfl) ?_
         refine sk_leaf ?_
         obtain rfl := some_ h
         exact end_ok [(0, some 27072), (1, some 27073)] Try.results16 (ps := [0 = 0, r107.1.Has.length = r107.1.Has.length, (r107.1.Writers : Int) = r107.1.Writers, (r107.1.Readers : Int) = r107.1.Readers, (r107.2.1 : Int) = r107.2.1, 0 = 0, r107.2.2.1.length = r107.2.2.1.length, (r107.2.2.2 : Int) = r107.2.2.2, E5.cR r107.1.Has = E5.cR r107.1.Has, AllPv (E5.cR r107.1.Has), E5.cR r107.2.2.1 = E5.cR r107.2.2.1, AllPv (E5.cR r107.2.2.1)]) (by kernel_rfl) ⟨rfl, rfl, rfl, rfl, rfl, rfl, rfl, rfl, rfl, (Elem.cR_pv _ _), rfl, (Elem.cR_pv _ _), trivial⟩ (fun _ => ⟨rfl, by simp only [List.mem_cons, List.not_mem_nil, or_false, forall_eq_or_imp, forall_eq]; exact ⟨Elem.cR_bald E5_raw _, Elem.cR_bald E5_raw _⟩⟩)
        ·refine sk_and (fun h => h) ?_
         refine sk_and (fun h => h) ?_
         refine sk_and ((by decide : ∀ y0 : Bool, ((y0 = false) → ((!y0) = true))) ((a1.Kind : Int) == 3)) ?_
         refine br_ h ?_ ?_ <;> clear h <;> intro c112 h
         ·cases h
         ·cases h
set_option maxHeartbeats 40000000 in
set_option maxRecDepth 100000 in
theorem pipe_Play_ok (a0 : (List Api_PipeOp)) (r : (List Int) × (List Int) × Api_Pipe) (h : pipe_Play a0 = some r) {al : Bool} : PCalls Try.prog 15 [.pv ((E51.ro a0))] al (.tup [.row 0 1 0 r.1.length, .row 1 1 0 r.2.1.length, .agg [.row 2 1 0 r.2.2.Has.length, .pv (.raw (.int .i64 r.2.2.Writers)), .pv (.raw (.int .i64 r.2.2.Readers))]]) [.row 31 1 (E31.cR r.1), .row 5 1 (E5.cR r.2.1), .row 5 1 (E5.cR r.2.2.Has)] := by
 unfold pipe_Play at h
 refine fn_ok tabOk Try.func15 (by kernel_rfl) (by kernel_rfl) Try.ntmps15 (by simp) ?_
 refine segs [] tabOk mixed 4000 (S := .leaf 0) (by kernel_rfl) ?_
 refine sk_leaf ?_
 refine len_ro (by kernel_rfl) 15 (s := 3) (n := a0.length) (c := fun i j => E51.cf (a0.getD i E51.z) j) (by kernel_rfl) ?_; intro hl1_0
 replace h : (fun (x : Nat × List Int × List Int × Nat × List Int × Int × Int) => pipe_Play_l1 a0 x.1 x.2.1 x.2.2.1 x.2.2.2.1 x.2.2.2.2.1 x.2.2.2.2.2.1 x.2.2.2.2.2.2 = some r) (FUEL, ([] : List Int), ([] : List Int), 0, ([] : List Int), 1, 1) := h
 refine loop_ok (by kernel_rfl) (X := Nat × List Int × List Int × Nat × List Int × Int × Int) (fun x => pipe_Play_l1 a0 x.1 x.2.1 x.2.2.1 x.2.2.2.1 x.2.2.2.2.1 x.2.2.2.2.2.1 x.2.2.2.2.2.2 = some r) (fun x => x.1) (fun x => mk 43 [(2, .pv (.raw (.slice none 0 0))), (3, .pv (.raw (.slice none 0 0))), (4, .ptr 0 0), (5, .ptr 1 0), (6, .row 2 1 0 x.2.1.length), (7, .row 3 1 0 x.2.2.1.length), (15, .pv ((E51.ro a0))), (16, .pv (.raw (.int .i64 ((a0.length : Nat) : Int)))), (17, .pv (.raw (.int .i64 ((x.2.2.2.1 : Nat) : Int))))] [(0, .box [.pv (.raw (.slice none 0 0)), .pv (.raw (.int .i64 0)), .pv (.raw (.int .i64 0))]), (1, .box [.row 4 1 0 x.2.2.2.2.1.length, .pv (.raw (.int .i64 x.2.2.2.2.2.1)), .pv (.raw (.int .i64 x.2.2.2.2.2.2))]), (2, .row 31 1 (E31.cR x.2.1)), (3, .row 5 1 (E5.cR x.2.2.1)), (4, .row 5 1 (E5.cR x.2.2.2.2.1))]) (FUEL, ([] : List Int), ([] : List Int), 0, ([] : List Int), 1, 1) h ?_ ?_
 ·exact sub_ok (ρ := [(0, some 16640), (1, some 16704), (2, none), (3, none), (4, none)]) (l := [0 = 0, 0 = 0, 0 = 0, (([] : List Int).length) = 0, 0 = 0, (([] : List Int).length) = 0, a0.length = a0.length, ∀ i, i < a0.length → ∀ j, j < 3 → E51.cf (a0.getD i E51.z) j = E51.cf (a0.getD i E51.z) j, (((a0.length : Nat) : Int) : Int) = ((a0.length : Nat) : Int), (0 : Int) = ((0 : Nat) : Int), (0 : Int) = 0, (0 : Int) = 0, 0 = 0, (([] : List Int).length) = 0, (1 : Int) = 1, (1 : Int) = 1, E31.cR ([] : List Int) = [], E5.cR ([] : List Int) = [], E5.cR ([] : List Int) = []]) (by kernel_rfl) ⟨rfl, rfl, rfl, (by first | rfl | simp), rfl, (by first | rfl | simp), rfl, fun _ _ _ _ => rfl, rfl, (by first | rfl | simp), rfl, rfl, rfl, (by first | rfl | simp), rfl, rfl, rfl, rfl, rfl, trivial⟩
 ·clear h; rintro ⟨n1, l1, l2, k3, l4, x5, x6⟩ h p1 hp1
  obtain _ | n1 := n1
  ·cases (show (none : Option ((List Int) × (List Int) × Api_Pipe)) = some r from h)
  have h : pipe_Play_l1 a0 (n1 + 1) l1 l2 k3 l4 x5 x6 = some r := h
  unfold pipe_Play_l1 at h
  refine segs [] tabOk mixed 4000 (S := .br (decide ((((k3 : Nat) : Int) : Int) < ((a0.length : Nat) : Int))) (.and (0 ≤ (((k3 : Nat) : Int) : Int) ∧ ((k3 : Nat) : Int) < ((a0.length : Nat) : Int)) (.leaf 0)) (.leaf 1)) (by kernel_rfl) ?_
  refine br_ h ?_ ?_ <;> clear h <;> intro c7 h
  ·refine sk_and ⟨Int.natCast_nonneg _, of_decide_eq_true c7⟩ ?_
   refine sk_leaf ?_
   obtain ⟨r9, e10, h⟩ := bd_ h
   refine call_ok (d := some 24) (fn := 16) (ax := [.agg [.row 4 1 0 l4.length, .pv (.raw (.int .i64 x5)), .pv (.raw (.int .i64 x6))], .agg [.pv (.raw (.int .i64 ((a0.getD k3 (⟨0, 0, []⟩ : Api_PipeOp)).Kind))), .pv (.raw (.int .i64 ((a0.getD k3 (⟨0, 0, []⟩ : Api_PipeOp)).Most))), .pv ((E5.ro ((a0.getD k3 (⟨0, 0, []⟩ : Api_PipeOp)).Data)))]]) (args := [.agg [.pv ((E5.ro l4)), .pv (.raw (.int .i64 x5)), .pv (.raw (.int .i64 x6))], .agg [.pv (.raw (.int .i64 ((a0.getD k3 (⟨0, 0, []⟩ : Api_PipeOp)).Kind))), .pv (.raw (.int .i64 ((a0.getD k3 (⟨0, 0, []⟩ : Api_PipeOp)).Most))), .pv ((E5.ro ((a0.getD k3 (⟨0, 0, []⟩ : Api_PipeOp)).Data)))]]) (ps := [l4.length = l4.length, rowQ (E5.cR l4) 1 0 l4.length (fun i j => E5.cf (l4.getD i E5.z) j), (x5 : Int) = x5, (x6 : Int) = x6, ((a0.getD k3 (⟨0, 0, []⟩ : Api_PipeOp)).Kind : Int) = ((a0.getD k3 (⟨0, 0, []⟩ : Api_PipeOp)).Kind), ((a0.getD k3 (⟨0, 0, []⟩ : Api_PipeOp)).Most : Int) = ((a0.getD k3 (⟨0, 0, []⟩ : Api_PipeOp)).Most), ((a0.getD k3 (⟨0, 0, []⟩ : Api_PipeOp)).Data).length = ((a0.getD k3 (⟨0, 0, []⟩ : Api_PipeOp)).Data).length, ∀ i, i < ((a0.getD k3 (⟨0, 0, []⟩ : Api_PipeOp)).Data).length → ∀ j, j < 1 → E5.cf (((a0.getD k3 (⟨0, 0, []⟩ : Api_PipeOp)).Data).getD i E5.z) j = E5.cf (((a0.getD k3 (⟨0, 0, []⟩ : Api_PipeOp)).Data).getD i E5.z) j]) (hb' := [.row 5 1 (E5.cR r9.1.Has), .row 5 1 (E5.cR r9.2.2.1)]) (by kernel_rfl) (pipe_Step_ok _ _ _ e10 (al := false)) (by kernel_rfl) ⟨(by first | rfl | exact Elem.sub_len _ (by omega) | omega | simp | (simp <;> omega)), E5.rowQ_all l4 rfl, rfl, rfl, rfl, rfl, rfl, fun _ _ _ _ => rfl, trivial⟩ (fun hx => by cases hx) (by simp) (by simp only [List.map_cons, List.map_nil, Elem.row_up, up_map] <;> rfl) (by kernel_rfl) ?_
   refine segs [] tabOk mixed 4000 (S := .br ((r9.2.2.2 : Int) == 0) (.leaf 0) (.leaf 1)) (by kernel_rfl) ?_
   refine br_ h ?_ ?_ <;> clear h <;> intro c11 h
   ·refine sk_leaf ?_
    obtain ⟨g12, h⟩ := if_ h
    refine app_ok (d := 34) (e := 5) (s := 1) (b := 1) (x := .row 3 1 0 l2.length) (y := .row 17921 1 0 r9.2.2.1.length) E5 (xs := l2) (ys := r9.2.2.1) (by kernel_rfl) rfl (.row 3 l2 l2.length rfl (by kernel_rfl)) (.all 17921 5 r9.2.2.1 r9.2.2.1.length rfl (by kernel_rfl)) g12 (by kernel_rfl) ?_
    refine segs [] tabOk mixed 4000 (S := .leaf 0) (by kernel_rfl) ?_
    refine sk_leaf ?_
    refine bs_ok (d := 37) (e := 31) (s := 1) (n := 1) (cs := [.pv (.raw (.int .i64 r9.2.2.2))]) (cs' := E31.cR [r9.2.2.2]) (by kernel_rfl) rfl (by kernel_rfl) ?_
    refine segs [] tabOk mixed 4000 (S := .leaf 0) (by kernel_rfl) ?_
    refine sk_leaf ?_
    obtain ⟨g13, h⟩ := if_ h
    refine app_ok (d := 38) (e := 31) (s := 1) (b := 8) (x := .row 2 1 0 l1.length) (y := .row 18752 1 0 1) E31 (xs := l1) (ys := [r9.2.2.2]) (by kernel_rfl) rfl (.row 2 l1 l1.length rfl (by kernel_rfl)) (.all 18752 31 [r9.2.2.2] 1 rfl (by kernel_rfl)) g13 (by kernel_rfl) ?_
    refine segs [] tabOk mixed 4000 (S := .leaf 0) (by kernel_rfl) ?_
    refine sk_leaf ?_
    refine back_ok (p := p1) (by kernel_rfl) (hp1 (n1, (l1 ++ [r9.2.2.2]), (l2 ++ r9.2.2.1), k3 + 1, r9.1.Has, r9.1.Writers, r9.1.Readers) _ h (Nat.lt_succ_self n1) ?_)
    exact sub_ok (ρ := [(0, some 0), (1, some 1), (2, some 18816), (3, some 18560), (4, some 17920)]) (l := [0 = 0, 0 = 0, 0 = 0, ((l1 ++ [r9.2.2.2]).length) = ((l1 ++ [r9.2.2.2]).length), 0 = 0, ((l2 ++ r9.2.2.1).length) = ((l2 ++ r9.2.2.1).length), a0.length = a0.length, ∀ i, i < a0.length → ∀ j, j < 3 → E51.cf (a0.getD i E51.z) j = E51.cf (a0.getD i E51.z) j, (((a0.length : Nat) : Int) : Int) = ((a0.length : Nat) : Int), ((IntKind.i64.wrap (((k3 : Nat) : Int) + 1)) : Int) = (((k3 + 1) : Nat) : Int), (0 : Int) = 0, (0 : Int) = 0, 0 = 0, r9.1.Has.length = r9.1.Has.length, (r9.1.Writers : Int) = r9.1.Writers, (r9.1.Readers : Int) = r9.1.Readers, E31.cR (l1 ++ [r9.2.2.2]) = E31.cR (l1 ++ [r9.2.2.2]), AllPv (E31.cR (l1 ++ [r9.2.2.2])), E5.cR (l2 ++ r9.2.2.1) = E5.cR (l2 ++ r9.2.2.1), AllPv (E5.cR (l2 ++ r9.2.2.1)), E5.cR r9.1.Has = E5.cR r9.1.Has, AllPv (E5.cR r9.1.Has)]) (by kernel_rfl) ⟨rfl, rfl, rfl, rfl, rfl, rfl, rfl, fun _ _ _ _ => rfl, rfl, (wrap_nat (Int.ofNat_lt.1 (of_decide_eq_true c7)) (by omega)), rfl, rfl, rfl, rfl, rfl, rfl, rfl, (Elem.cR_pv _ _), rfl, (Elem.cR_pv _ _), rfl, (Elem.cR_pv _ _), trivial⟩
   ·refine sk_leaf ?_
    refine bs_ok (d := 37) (e := 31) (s := 1) (n := 1) (cs := [.pv (.raw (.int .i64 r9.2.2.2))]) (cs' := E31.cR [r9.2.2.2]) (by kernel_rfl) rfl (by kernel_rfl) ?_
    refine segs [] tabOk mixed 4000 (S := .leaf 0) (by kernel_rfl) ?_
    refine sk_leaf ?_
    obtain ⟨g14, h⟩ := if_ h
    refine app_ok (d := 38) (e := 31) (s := 1) (b := 8) (x := .row 2 1 0 l1.length) (y := .row 18752 1 0 1) E31 (xs := l1) (ys := [r9.2.2.2]) (by kernel_rfl) rfl (.row 2 l1 l1.length rfl (by kernel_rfl)) (.all 18752 31 [r9.2.2.2] 1 rfl (by kernel_rfl)) g14 (by kernel_rfl) ?_
    refine segs [] tabOk mixed 4000 (S := .leaf 0) (by kernel_rfl) ?_
    refine sk_leaf ?_
    refine back_ok (p := p1) (by kernel_rfl) (hp1 (n1, (l1 ++ [r9.2.2.2]), l2, k3 + 1, l4, x5, x6) _ h (Nat.lt_succ_self n1) ?_)
    exact sub_ok (ρ := [(0, some 0), (1, some 1), (2, some 18816), (3, some 3), (4, some 4)]) (l := [0 = 0, 0 = 0, 0 = 0, ((l1 ++ [r9.2.2.2]).length) = ((l1 ++ [r9.2.2.2]).length), 0 = 0, l2.length = l2.length, a0.length = a0.length, ∀ i, i < a0.length → ∀ j, j < 3 → E51.cf (a0.getD i E51.z) j = E51.cf (a0.getD i E51.z) j, (((a0.length : Nat) : Int) : Int) = ((a0.length : Nat) : Int), ((IntKind.i64.wrap (((k3 : Nat) : Int) + 1)) : Int) = (((k3 + 1) : Nat) : Int), (0 : Int) = 0, (0 : Int) = 0, 0 = 0, l4.length = l4.length, (x5 : Int) = x5, (x6 : Int) = x6, E31.cR (l1 ++ [r9.2.2.2]) = E31.cR (l1 ++ [r9.2.2.2]), AllPv (E31.cR (l1 ++ [r9.2.2.2])), E5.cR l2 = E5.cR l2, AllPv (E5.cR l2), E5.cR l4 = E5.cR l4, AllPv (E5.cR l4)]) (by kernel_rfl) ⟨rfl, rfl, rfl, rfl, rfl, rfl, rfl, fun _ _ _ _ => rfl, rfl, (wrap_nat (Int.ofNat_lt.1 (of_decide_eq_true c7)) (by omega)), rfl, rfl, rfl, rfl, rfl, rfl, rfl, (Elem.cR_pv _ _), rfl, (Elem.cR_pv _ _), rfl, (Elem.cR_pv _ _), trivial⟩
  ·refine sk_leaf ?_
   obtain rfl := some_ h
   exact end_ok (rI 0 2 3) Try.results15 (ps := (pL ([l1.length, l2.length, l4.length]) ++ ([(x5 : Int) = x5, (x6 : Int) = x6, E31.cR l1 = E31.cR l1, AllPv (E31.cR l1), E5.cR l2 = E5.cR l2, AllPv (E5.cR l2), E5.cR l4 = E5.cR l4, AllPv (E5.cR l4)]))) (by kernel_rfl) (allP_app (pL_ok _) ⟨rfl, rfl, rfl, (Elem.cR_pv _ _), rfl, (Elem.cR_pv _ _), rfl, (Elem.cR_pv _ _), trivial⟩) (fun _ => ⟨rfl, by simp only [List.mem_cons, List.not_mem_nil, or_false, forall_eq_or_imp, forall_eq]; exact ⟨Elem.cR_bald E31_raw _, Elem.cR_bald E5_raw _, Elem.cR_bald E5_raw _⟩⟩)
set_option maxHeartbeats 40000000 in
set_option maxRecDepth 100000 in
theorem slices_Equal_api_Errno_ok (a0 : (List Int)) (a1 : (List Int)) (r : Bool) (h : slices_Equal_api_Errno a0 a1 = some r) {al : Bool} : PCalls Try.prog 34 [.pv ((E31.ro a0)), .pv ((E31.ro a1))] al (.pv (.raw (.bool r))) [] := by
 unfold slices_Equal_api_Errno at h
 refine fn_ok tabOk Try.func34 (by kernel_rfl) (by kernel_rfl) Try.ntmps34 (by simp) ?_
 refine segs [] tabOk mixed 4000 (S := .br ((((a0.length : Nat) : Int) : Int) != ((a1.length : Nat) : Int)) (.leaf 0) (.leaf 1)) (by kernel_rfl) ?_
 refine br_ h ?_ ?_ <;> clear h <;> intro c1 h
 ·refine sk_leaf ?_
  obtain rfl := some_ h
  exact end_ok [] Try.results34 (ps := [false = false]) (by kernel_rfl) ⟨rfl, trivial⟩ (fun _ => ⟨rfl, by simp⟩)
 ·refine sk_leaf ?_
  refine len_ro (by kernel_rfl) 0 (s := 1) (n := a0.length) (c := fun i j => E31.cf (a0.getD i E31.z) j) (by kernel_rfl) ?_; intro hl1_0
  refine len_ro (by kernel_rfl) 1 (s := 1) (n := a1.length) (c := fun i j => E31.cf (a1.getD i E31.z) j) (by kernel_rfl) ?_; intro hl1_1
  replace h : (fun (x : Nat × Nat) => slices_Equal_api_Errno_l1 a0 a1 x.1 x.2 = some r) (FUEL, 0) := h
  refine loop_ok (by kernel_rfl) (X := Nat × Nat) (fun x => slices_Equal_api_Errno_l1 a0 a1 x.1 x.2 = some r) (fun x => x.1) (fun x => mk 26 [(0, .pv ((E31.ro a0))), (1, .pv ((E31.ro a1))), (4, .pv (.raw (.bool false))), (12, .pv (.raw (.int .i64 ((a0.length : Nat) : Int)))), (13, .pv (.raw (.int .i64 ((x.2 : Nat) : Int))))] []) (FUEL, 0) h ?_ ?_
  ·exact sub_ok (ρ := []) (l := [a0.length = a0.length, ∀ i, i < a0.length → ∀ j, j < 1 → E31.cf (a0.getD i E31.z) j = E31.cf (a0.getD i E31.z) j, a1.length = a1.length, ∀ i, i < a1.length → ∀ j, j < 1 → E31.cf (a1.getD i E31.z) j = E31.cf (a1.getD i E31.z) j, false = false, (((a0.length : Nat) : Int) : Int) = ((a0.length : Nat) : Int), (0 : Int) = ((0 : Nat) : Int)]) (by kernel_rfl) ⟨rfl, fun _ _ _ _ => rfl, rfl, fun _ _ _ _ => rfl, rfl, rfl, (by first | rfl | simp), trivial⟩
  ·clear h; rintro ⟨n1, k2⟩ h p1 hp1
   obtain _ | n1 := n1
   ·cases (show (none : Option (Bool)) = some r from h)
   have h : slices_Equal_api_Errno_l1 a0 a1 (n1 + 1) k2 = some r := h
   unfold slices_Equal_api_Errno_l1 at h
   refine segs [] tabOk mixed 4000 (S := .br (decide ((((k2 : Nat) : Int) : Int) < ((a0.length : Nat) : Int))) (.and (0 ≤ (((k2 : Nat) : Int) : Int) ∧ ((k2 : Nat) : Int) < ((a0.length : Nat) : Int)) (.and (0 ≤ (((k2 : Nat) : Int) : Int) ∧ ((k2 : Nat) : Int) < ((a1.length : Nat) : Int)) (.br (((a0.getD k2 0) : Int) != (a1.getD k2 0)) (.leaf 0) (.leaf 1)))) (.leaf 2)) (by kernel_rfl) ?_
   refine br_ h ?_ ?_ <;> clear h <;> intro c3 h
   ·refine sk_and ⟨Int.natCast_nonneg _, of_decide_eq_true c3⟩ ?_
    refine gd_ h ?_; clear h; intro g5 h
    refine br_ h ?_ ?_ <;> clear h <;> intro c6 h
    ·refine sk_leaf ?_
     obtain rfl := some_ h
     exact end_ok [] Try.results34 (ps := [false = false]) (by kernel_rfl) ⟨rfl, trivial⟩ (fun _ => ⟨rfl, by simp⟩)
    ·refine sk_leaf ?_
     refine back_ok (p := p1) (by kernel_rfl) (hp1 (n1, k2 + 1) _ h (Nat.lt_succ_self n1) ?_)
     exact sub_ok (ρ := []) (l := [a0.length = a0.length, ∀ i, i < a0.length → ∀ j, j < 1 → E31.cf (a0.getD i E31.z) j = E31.cf (a0.getD i E31.z) j, a1.length = a1.length, ∀ i, i < a1.length → ∀ j, j < 1 → E31.cf (a1.getD i E31.z) j = E31.cf (a1.getD i E31.z) j, false = false, (((a0.length : Nat) : Int) : Int) = ((a0.length : Nat) : Int), ((IntKind.i64.wrap (((k2 : Nat) : Int) + 1)) : Int) = (((k2 + 1) : Nat) : Int)]) (by kernel_rfl) ⟨rfl, fun _ _ _ _ => rfl, rfl, fun _ _ _ _ => rfl, rfl, rfl, (wrap_nat (Int.ofNat_lt.1 (of_decide_eq_true c3)) (by omega)), trivial⟩
   ·refine sk_leaf ?_
    obtain rfl := some_ h
    exact end_ok [] Try.results34 (ps := [true = true]) (by kernel_rfl) ⟨rfl, trivial⟩ (fun _ => ⟨rfl, by simp⟩)
set_option maxHeartbeats 40000000 in
set_option maxRecDepth 100000 in
theorem keep_alive21_ok (r : Bool) (h : keep_alive21 = some r) {al : Bool} : PCalls Try.prog 14 [] al (.pv (.raw (.bool r))) [] := by
 unfold keep_alive21 at h
 refine fn_ok tabOk Try.func14 (by kernel_rfl) (by kernel_rfl) Try.ntmps14 (by simp) ?_
 refine segs [2] tabOk mixed 4000 (S := .leaf 0) (by kernel_rfl) ?_
 refine sk_leaf ?_
 refine bs_ok (d := 6) (e := 5) (s := 1) (n := 5) (cs := [.pv (.raw (.int .u8 97)), .pv (.raw (.int .u8 98)), .pv (.raw (.int .u8 99)), .pv (.raw (.int .u8 100)), .pv (.raw (.int .u8 101))]) (cs' := E5.cR [97, 98, 99, 100, 101]) (by kernel_rfl) rfl (by kernel_rfl) ?_
 refine segs [2] tabOk mixed 4000 (S := .leaf 0) (by kernel_rfl) ?_
 refine sk_leaf ?_
 refine cm_ok (d := 7) (id := 16768) (e := 5) (n := 5) E5 (xs := [97, 98, 99, 100, 101]) rfl (by kernel_rfl) (by kernel_rfl) rfl (by simp) ?_
 refine segs [2] tabOk mixed 4000 (S := .leaf 0) (by kernel_rfl) ?_
 refine sk_leaf ?_
 refine bsN_ok (d := 13) (e := 51) (s := 3) (n := 6) (cs := [.pv (.raw (.int .i64 2)), .pv (.raw (.int .i64 4)), .pv (.raw (.slice none 0 0)), .pv (.raw (.int .i64 1)), .pv (.raw (.int .i64 0)), .pv ((E5.ro [97, 98, 99, 100, 101])), .pv (.raw (.int .i64 2)), .pv (.raw (.int .i64 2)), .pv (.raw (.slice none 0 0)), .pv (.raw (.int .i64 5)), .pv (.raw (.int .i64 0)), .pv (.raw (.slice none 0 0)), .pv (.raw (.int .i64 2)), .pv (.raw (.int .i64 9)), .pv (.raw (.slice none 0 0)), .pv (.raw (.int .i64 2)), .pv (.raw (.int .i64 9)), .pv (.raw (.slice none 0 0))]) (ds := [.pv (.raw (.int .i64 2)), .pv (.raw (.int .i64 4)), .pv ((E5.ro ([] : List Int))), .pv (.raw (.int .i64 1)), .pv (.raw (.int .i64 0)), .pv ((E5.ro [97, 98, 99, 100, 101])), .pv (.raw (.int .i64 2)), .pv (.raw (.int .i64 2)), .pv ((E5.ro ([] : List Int))), .pv (.raw (.int .i64 5)), .pv (.raw (.int .i64 0)), .pv ((E5.ro ([] : List Int))), .pv (.raw (.int .i64 2)), .pv (.raw (.int .i64 9)), .pv ((E5.ro ([] : List Int))), .pv (.raw (.int .i64 2)), .pv (.raw (.int .i64 9)), .pv ((E5.ro ([] : List Int)))]) E51 [(⟨2, 4, ([] : List Int)⟩ : Api_PipeOp), (⟨1, 0, [97, 98, 99, 100, 101]⟩ : Api_PipeOp), (⟨2, 2, ([] : List Int)⟩ : Api_PipeOp), (⟨5, 0, ([] : List Int)⟩ : Api_PipeOp), (⟨2, 9, ([] : List Int)⟩ : Api_PipeOp), (⟨2, 9, ([] : List Int)⟩ : Api_PipeOp)] (by kernel_rfl) rfl rfl rfl ⟨.inl rfl, .inl rfl, .inr ⟨rfl, _, _, rfl⟩, .inl rfl, .inl rfl, .inl rfl, .inl rfl, .inl rfl, .inr ⟨rfl, _, _, rfl⟩, .inl rfl, .inl rfl, .inr ⟨rfl, _, _, rfl⟩, .inl rfl, .inl rfl, .inr ⟨rfl, _, _, rfl⟩, .inl rfl, .inl rfl, .inr ⟨rfl, _, _, rfl⟩, trivial⟩ (by kernel_rfl) ?_
 refine segs [2] tabOk mixed 4000 (S := .leaf 0) (by kernel_rfl) ?_
 refine sk_leaf ?_
 obtain ⟨r1, e2, h⟩ := bd_ h
 refine call_ok (d := some 14) (fn := 15) (ax := [.pv ((E51.ro [(⟨2, 4, ([] : List Int)⟩ : Api_PipeOp), (⟨1, 0, [97, 98, 99, 100, 101]⟩ : Api_PipeOp), (⟨2, 2, ([] : List Int)⟩ : Api_PipeOp), (⟨5, 0, ([] : List Int)⟩ : Api_PipeOp), (⟨2, 9, ([] : List Int)⟩ : Api_PipeOp), (⟨2, 9, ([] : List Int)⟩ : Api_PipeOp)]))]) (args := [.pv ((E51.ro [(⟨2, 4, ([] : List Int)⟩ : Api_PipeOp), (⟨1, 0, [97, 98, 99, 100, 101]⟩ : Api_PipeOp), (⟨2, 2, ([] : List Int)⟩ : Api_PipeOp), (⟨5, 0, ([] : List Int)⟩ : Api_PipeOp), (⟨2, 9, ([] : List Int)⟩ : Api_PipeOp), (⟨2, 9, ([] : List Int)⟩ : Api_PipeOp)]))]) (ps := [[(⟨2, 4, ([] : List Int)⟩ : Api_PipeOp), (⟨1, 0, [97, 98, 99, 100, 101]⟩ : Api_PipeOp), (⟨2, 2, ([] : List Int)⟩ : Api_PipeOp), (⟨5, 0, ([] : List Int)⟩ : Api_PipeOp), (⟨2, 9, ([] : List Int)⟩ : Api_PipeOp), (⟨2, 9, ([] : List Int)⟩ : Api_PipeOp)].length = [(⟨2, 4, ([] : List Int)⟩ : Api_PipeOp), (⟨1, 0, [97, 98, 99, 100, 101]⟩ : Api_PipeOp), (⟨2, 2, ([] : List Int)⟩ : Api_PipeOp), (⟨5, 0, ([] : List Int)⟩ : Api_PipeOp), (⟨2, 9, ([] : List Int)⟩ : Api_PipeOp), (⟨2, 9, ([] : List Int)⟩ : Api_PipeOp)].length, ∀ i, i < [(⟨2, 4, ([] : List Int)⟩ : Api_PipeOp), (⟨1, 0, [97, 98, 99, 100, 101]⟩ : Api_PipeOp), (⟨2, 2, ([] : List Int)⟩ : Api_PipeOp), (⟨5, 0, ([] : List Int)⟩ : Api_PipeOp), (⟨2, 9, ([] : List Int)⟩ : Api_PipeOp), (⟨2, 9, ([] : List Int)⟩ : Api_PipeOp)].length → ∀ j, j < 3 → E51.cf ([(⟨2, 4, ([] : List Int)⟩ : Api_PipeOp), (⟨1, 0, [97, 98, 99, 100, 101]⟩ : Api_PipeOp), (⟨2, 2, ([] : List Int)⟩ : Api_PipeOp), (⟨5, 0, ([] : List Int)⟩ : Api_PipeOp), (⟨2, 9, ([] : List Int)⟩ : Api_PipeOp), (⟨2, 9, ([] : List Int)⟩ : Api_PipeOp)].getD i E51.z) j = E51.cf ([(⟨2, 4, ([] : List Int)⟩ : Api_PipeOp), (⟨1, 0, [97, 98, 99, 100, 101]⟩ : Api_PipeOp), (⟨2, 2, ([] : List Int)⟩ : Api_PipeOp), (⟨5, 0, ([] : List Int)⟩ : Api_PipeOp), (⟨2, 9, ([] : List Int)⟩ : Api_PipeOp), (⟨2, 9, ([] : List Int)⟩ : Api_PipeOp)].getD i E51.z) j]) (hb' := [.row 31 1 (E31.cR r1.1), .row 5 1 (E5.cR r1.2.1), .row 5 1 (E5.cR r1.2.2.Has)]) (by kernel_rfl) (pipe_Play_ok _ _ e2 (al := true)) (by kernel_rfl) ⟨rfl, fun _ _ _ _ => rfl, trivial⟩ (fun _ => (by kernel_rfl)) (by simp) (by simp only [List.map_cons, List.map_nil, Elem.row_up, up_map] <;> rfl) (by kernel_rfl) ?_
 refine segs [2] tabOk mixed 4000 (S := .leaf 0) (by kernel_rfl) ?_
 refine sk_leaf ?_
 refine cut_ok (by kernel_rfl) (τ := mk 37 [(0, .pv (.raw (.bool false))), (1, .row 0 1 0 r1.1.length), (2, .pv ((E5.ro r1.2.1))), (3, .ptr 1 0)] [(0, .row 31 1 (E31.cR r1.1)), (1, .box [.pv ((E5.ro r1.2.2.Has)), .pv (.raw (.int .i64 r1.2.2.Writers)), .pv (.raw (.int .i64 r1.2.2.Readers))])]) (sub_ok (ρ := [(0, some 17280), (1, some 16576)]) (l := [false = false, 0 = 0, r1.1.length = r1.1.length, r1.2.1.length = r1.2.1.length, rowQ (E5.cR r1.2.1) 1 0 r1.2.1.length (fun i j => E5.cf (r1.2.1.getD i E5.z) j), 0 = 0, E31.cR r1.1 = E31.cR r1.1, AllPv (E31.cR r1.1), r1.2.2.Has.length = r1.2.2.Has.length, rowQ (E5.cR r1.2.2.Has) 1 0 r1.2.2.Has.length (fun i j => E5.cf (r1.2.2.Has.getD i E5.z) j), (r1.2.2.Writers : Int) = r1.2.2.Writers, (r1.2.2.Readers : Int) = r1.2.2.Readers]) (by kernel_rfl) ⟨rfl, rfl, rfl, (by first | rfl | exact Elem.sub_len _ (by omega) | omega | simp | (simp <;> omega)), E5.rowQ_all r1.2.1 rfl, rfl, rfl, (Elem.cR_pv _ _), (by first | rfl | exact Elem.sub_len _ (by omega) | omega | simp | (simp <;> omega)), E5.rowQ_all r1.2.2.Has rfl, rfl, rfl, trivial⟩) ?_
 refine segs [] tabOk mixed 4000 (S := .leaf 0) (by kernel_rfl) ?_
 refine sk_leaf ?_
 refine bs_ok (d := 19) (e := 31) (s := 1) (n := 6) (cs := [.pv (.raw (.int .i64 7)), .pv (.raw (.int .i64 0)), .pv (.raw (.int .i64 0)), .pv (.raw (.int .i64 0)), .pv (.raw (.int .i64 0)), .pv (.raw (.int .i64 0))]) (cs' := E31.cR [7, 0, 0, 0, 0, 0]) (by kernel_rfl) rfl (by kernel_rfl) ?_
 refine segs [2] tabOk mixed 4000 (S := .leaf 0) (by kernel_rfl) ?_
 refine sk_leaf ?_
 obtain ⟨r3, e4, h⟩ := bd_ h
 refine call_ok (d := some 20) (fn := 34) (ax := [.row 0 1 0 r1.1.length, .row 17600 1 0 6]) (args := [.pv ((E31.ro r1.1)), .pv ((E31.ro [7, 0, 0, 0, 0, 0]))]) (ps := [r1.1.length = r1.1.length, rowQ (E31.cR r1.1) 1 0 r1.1.length (fun i j => E31.cf (r1.1.getD i E31.z) j), 6 = [7, 0, 0, 0, 0, 0].length, rowQ (E31.cR [7, 0, 0, 0, 0, 0]) 1 0 6 (fun i j => E31.cf ([7, 0, 0, 0, 0, 0].getD i E31.z) j)]) (hb' := []) (by kernel_rfl) (slices_Equal_api_Errno_ok _ _ _ e4 (al := false)) (by kernel_rfl) ⟨(by first | rfl | exact Elem.sub_len _ (by omega) | omega | simp | (simp <;> omega)), E31.rowQ_all r1.1 rfl, (by first | rfl | exact Elem.sub_len _ (by omega) | omega | simp | (simp <;> omega)), E31.rowQ_all [7, 0, 0, 0, 0, 0] rfl, trivial⟩ (fun hx => by cases hx) (by simp) rfl (by kernel_rfl) ?_
 refine segs [2] tabOk mixed 4000 (S := .leaf 0) (by kernel_rfl) ?_
 refine sk_leaf ?_
 refine cvG_ok (d := 23) (g := r3) (ws := [r3 = true]) E5 (xs := r1.2.1) rfl (fun _ => rfl) (by kernel_rfl) (fun hg => ⟨((by decide : ∀ y0 : Bool, ((y0 = true) → (y0 = true))) r3) hg, trivial⟩) ?_
 refine segs [2] tabOk mixed 4000 (S := .and ((r3 = true → (r3 = true))) (.and (r3 = true → r3 = true) (.and (((r3 && ((bytesOf r1.2.1).toList == (bytesOf [97, 98, 99, 100, 101]).toList)) = true → ((r3 && ((bytesOf r1.2.1).toList == (bytesOf [97, 98, 99, 100, 101]).toList)) = true))) (.and (((r3 && ((bytesOf r1.2.1).toList == (bytesOf [97, 98, 99, 100, 101]).toList)) = true → ((r3 && ((bytesOf r1.2.1).toList == (bytesOf [97, 98, 99, 100, 101]).toList)) = true))) (.and (((r3 && ((bytesOf r1.2.1).toList == (bytesOf [97, 98, 99, 100, 101]).toList)) = true → ((r3 && ((bytesOf r1.2.1).toList == (bytesOf [97, 98, 99, 100, 101]).toList)) = true))) (.and ((r3 && ((bytesOf r1.2.1).toList == (bytesOf [97, 98, 99, 100, 101]).toList)) = true → (r3 && ((bytesOf r1.2.1).toList == (bytesOf [97, 98, 99, 100, 101]).toList)) = true) (.and ((((r3 && ((bytesOf r1.2.1).toList == (bytesOf [97, 98, 99, 100, 101]).toList)) && ((((r1.2.2.Has.length : Nat) : Int) : Int) == 0)) = true → (((r3 && ((bytesOf r1.2.1).toList == (bytesOf [97, 98, 99, 100, 101]).toList)) && ((((r1.2.2.Has.length : Nat) : Int) : Int) == 0)) = true))) (.and ((((r3 && ((bytesOf r1.2.1).toList == (bytesOf [97, 98, 99, 100, 101]).toList)) && ((((r1.2.2.Has.length : Nat) : Int) : Int) == 0)) = true → (((r3 && ((bytesOf r1.2.1).toList == (bytesOf [97, 98, 99, 100, 101]).toList)) && ((((r1.2.2.Has.length : Nat) : Int) : Int) == 0)) = true))) (.and (((r3 && ((bytesOf r1.2.1).toList == (bytesOf [97, 98, 99, 100, 101]).toList)) && ((((r1.2.2.Has.length : Nat) : Int) : Int) == 0)) = true → ((r3 && ((bytesOf r1.2.1).toList == (bytesOf [97, 98, 99, 100, 101]).toList)) && ((((r1.2.2.Has.length : Nat) : Int) : Int) == 0)) = true) (.leaf 0)))))))))) (by kernel_rfl) ?_
 refine sk_and (fun h => h) ?_
 refine sk_and (fun h => h) ?_
 refine sk_and (fun h => h) ?_
 refine sk_and (fun h => h) ?_
 refine sk_and (fun h => h) ?_
 refine sk_and (fun h => h) ?_
 refine sk_and (fun h => h) ?_
 refine sk_and (fun h => h) ?_
 refine sk_and (fun h => h) ?_
 refine sk_leaf ?_
 obtain rfl := some_ h
 exact end_ok [] Try.results14 (ps := [(((r3 && ((bytesOf r1.2.1).toList == (bytesOf [97, 98, 99, 100, 101]).toList)) && ((((r1.2.2.Has.length : Nat) : Int) : Int) == 0)) && ((r1.2.2.Readers : Int) == 1)) = (((r3 && ((bytesOf r1.2.1).toList == (bytesOf [97, 98, 99, 100, 101]).toList)) && ((((r1.2.2.Has.length : Nat) : Int) : Int) == 0)) && ((r1.2.2.Readers : Int) == 1))]) (by kernel_rfl) ⟨rfl, trivial⟩ (fun _ => ⟨rfl, by simp⟩)
set_option maxRecDepth 100000 in
theorem slices_Clone_api_PipeOp_ok (a0 r : List Api_PipeOp) (h : slices_Clone_api_PipeOp a0 = some r) : PCalls Try.prog 17 [.pv (E51.ro a0)] true (.row 0 3 0 r.length) [.row 51 3 (E51.cR r)] := by
 unfold slices_Clone_api_PipeOp at h
 obtain ⟨g, h⟩ := if_ h
 obtain rfl := some_ h
 refine fn_ok tabOk Try.func17 (by kernel_rfl) (by kernel_rfl) Try.ntmps17 (by simp) ?_
 refine segs [1] tabOk mixed 4000 (S := .leaf 0) (by kernel_rfl) ?_
 refine sk_leaf ?_
 refine nil_ok (d1 := 3) (d2 := 4) (s := 3) (n := a0.length) (c := fun i j => E51.cf (a0.getD i E51.z) j) tabOk (by kernel_rfl) ?_
 intro b hb
 refine segs [] tabOk mixed 4000 (S := .br b (.leaf 0) (.leaf 1)) (by kernel_rfl) ?_
 refine sk_br ?_ ?_ <;> intro hc <;> refine sk_leaf ?_
 ·obtain rfl : a0 = [] := List.eq_nil_of_length_eq_zero (hb hc)
  exact end_ok [(0, none)] Try.results17 (ps := [0 = 0, 0 = 0, E51.cR [] = []]) (by kernel_rfl) ⟨rfl, rfl, rfl, trivial⟩ (fun hx => by cases hx)
 ·refine bs_ok (d := 5) (e := 51) (s := 3) (n := 0) (cs := []) (cs' := E51.cR []) (by kernel_rfl) rfl (by kernel_rfl) ?_
  refine segs [] tabOk mixed 4000 (S := .leaf 0) (by kernel_rfl) ?_
  refine sk_leaf ?_
  refine app_ok (d := 7) (e := 51) (s := 3) (b := 40) (x := .row 16704 3 0 0) (y := .pv (E51.ro a0)) E51 (xs := []) (ys := a0) (by kernel_rfl) rfl (.row 16704 [] 0 rfl (by kernel_rfl)) (.ro a0) ⟨by simp; omega, by simp; omega⟩ (by kernel_rfl) ?_
  refine segs [] tabOk mixed 4000 (S := .leaf 0) (by kernel_rfl) ?_
  refine sk_leaf ?_
  exact end_ok [(0, some 16832)] Try.results17 (ps := [0 = 0, a0.length = a0.length, E51.cR a0 = E51.cR a0, AllPv (E51.cR a0)]) (by kernel_rfl) ⟨rfl, rfl, rfl, Elem.cR_pv _ _, trivial⟩ (fun hx => by cases hx)
set_option maxRecDepth 100000 in
set_option maxHeartbeats 2000000 in
theorem slices_Grow_byte_nil_calls (n : Nat) (hb : n * 1 ≤ 140737488355328) (hb2 : n ≤ 140737488355328) (w : World) : Calls Try.prog 38 #[.slice none 0 0, .int .i64 n] w fun ex w' => GrowPost 5 1 w ex w' := by
 obtain ⟨_, info, hi, hi1, hi2, hz, _⟩ := tabOk 5 _ tab_5
 have hi1 : info.size = 1 := hi1
 have hi2 : info.bytes = 1 := hi2
 obtain ⟨z, hz, hzs⟩ : ∃ z, info.zero = some z ∧ z.cells.size = 1 := ⟨_, hz, by kernel_rfl⟩
 have h1 : ¬ ((n : Int) < 0) := by omega
 have h2 : Go.RowKit.wrap64 (0 - 0 : Int) = 0 := by unfold Go.RowKit.wrap64; omega
 have h3 : Go.RowKit.wrap64 ((n : Int) - 0) = (n : Int) := by unfold Go.RowKit.wrap64; omega
 by_cases h0 : n = 0
 ·subst h0
  go_enter Try.func38, Try.ntmps38
  go_wp2
  all_goals first | (go_ret; exact .inl ⟨rfl, rfl⟩) | skip
 ·have hn : 0 < n := by omega
  have h4 : ((n : Int) > 0) := by omega
  have hrun := fun ty => Go.Lib.run_append_nil_zeros (P := Try.prog) w 43 3 ty 5 info z .i64 .i64 Try.underlying43 Try.underlying3 hi hz n hn (by rw [hi1]; decide) (by omega) (by rw [hi2]; omega)
  have hGn : n ≤ grownCap w n 0 5 := grownCap_ge w _ _ _
  have hG63 := grownCap_le_maxLen w n 0 5 (by unfold maxLen; omega)
  obtain ⟨G, hG⟩ : ∃ G, G = grownCap w n 0 5 := ⟨_, rfl⟩
  rw [← hG] at hrun hGn hG63
  obtain ⟨cur, hcur⟩ : ∃ cur, cur = Builtin.zeroCells z.cells n ++ Builtin.zeroCells z.cells (G - n) := ⟨_, rfl⟩
  rw [← hcur] at hrun
  have hsz : cur.size = G * 1 := by rw [hcur, Array.size_append, size_zeroCells, size_zeroCells, hzs, ← Nat.add_mul]; congr 1; omega
  clear hcur hG hi hz
  go_enter Try.func38, Try.ntmps38
  go_wp2_with (at_builtin; refine Go.Lib.wpList_append_run _ rfl _ _ _ _ rfl _ _ rfl rfl _ _ (hrun _) ?_)
  all_goals (go_ret; exact .inr ⟨G, cur, rfl, rfl, hsz, hG63⟩)
theorem slices_Grow_byte_nil_ok (a0 : Int) (r : List Int) (h : slices_Grow_byte_nil a0 = some r) {al : Bool} : PCalls Try.prog 38 [.pv (.raw (.slice none 0 0)), .pv (.raw (.int .i64 a0))] al (.row 0 1 0 r.length) [.row 5 1 (E5.cR r)] := by
 unfold slices_Grow_byte_nil at h
 obtain ⟨g, h⟩ := if_ h
 obtain rfl := some_ h
 obtain ⟨n, rfl⟩ : ∃ n : Nat, a0 = n := ⟨a0.toNat, by omega⟩
 exact grow_pcalls ⟨_, Try.func38, by kernel_rfl, by kernel_rfl⟩ (E := E5) (by decide) (slices_Grow_byte_nil_calls n (by omega) (by omega))
set_option maxHeartbeats 40000000 in
set_option maxRecDepth 100000 in
theorem slices_Concat_byte_ok (a0 : (List (List Int))) (r : (List Int)) (h : slices_Concat_byte a0 = some r) {al : Bool} : PCalls Try.prog 18 [.pv ((E43.ro a0))] al (.row 0 1 0 r.length) [.row 5 1 (E5.cR r)] := by
 unfold slices_Concat_byte at h
 refine fn_ok tabOk Try.func18 (by kernel_rfl) (by kernel_rfl) Try.ntmps18 (by simp) ?_
 refine segs [] tabOk mixed 4000 (S := .leaf 0) (by kernel_rfl) ?_
 refine sk_leaf ?_
 refine len_ro (by kernel_rfl) 0 (s := 1) (n := a0.length) (c := fun i j => E43.cf (a0.getD i E43.z) j) (by kernel_rfl) ?_; intro hl1_0
 refine len_ro (by kernel_rfl) 9 (s := 1) (n := a0.length) (c := fun i j => E43.cf (a0.getD i E43.z) j) (by kernel_rfl) ?_; intro hl1_1
 replace h : (fun (x : Nat × Int × Nat) => slices_Concat_byte_l1 a0 x.1 x.2.1 x.2.2 = some r) (FUEL, 0, 0) := h
 refine loop_ok (by kernel_rfl) (X := Nat × Int × Nat) (fun x => slices_Concat_byte_l1 a0 x.1 x.2.1 x.2.2 = some r) (fun x => x.1) (fun x => mk 36 [(0, .pv ((E43.ro a0))), (2, .pv (.raw (.slice none 0 0))), (3, .pv (.raw (.int .i64 x.2.1))), (9, .pv ((E43.ro a0))), (10, .pv (.raw (.int .i64 ((a0.length : Nat) : Int)))), (11, .pv (.raw (.int .i64 ((x.2.2 : Nat) : Int))))] []) (FUEL, 0, 0) h ?_ ?_
 ·exact sub_ok (ρ := []) (l := [a0.length = a0.length, ∀ i, i < a0.length → ∀ j, j < 1 → E43.cf (a0.getD i E43.z) j = E43.cf (a0.getD i E43.z) j, (0 : Int) = 0, a0.length = a0.length, ∀ i, i < a0.length → ∀ j, j < 1 → E43.cf (a0.getD i E43.z) j = E43.cf (a0.getD i E43.z) j, (((a0.length : Nat) : Int) : Int) = ((a0.length : Nat) : Int), (0 : Int) = ((0 : Nat) : Int)]) (by kernel_rfl) ⟨rfl, fun _ _ _ _ => rfl, rfl, rfl, fun _ _ _ _ => rfl, rfl, (by first | rfl | simp), trivial⟩
 ·clear h; rintro ⟨n1, x1, k2⟩ h p1 hp1
  obtain _ | n1 := n1
  ·cases (show (none : Option ((List Int))) = some r from h)
  have h : slices_Concat_byte_l1 a0 (n1 + 1) x1 k2 = some r := h
  unfold slices_Concat_byte_l1 at h
  refine segs [] tabOk mixed 4000 (S := .br (decide ((((k2 : Nat) : Int) : Int) < ((a0.length : Nat) : Int))) (.and (0 ≤ (((k2 : Nat) : Int) : Int) ∧ ((k2 : Nat) : Int) < ((a0.length : Nat) : Int)) (.br (decide (((IntKind.i64.wrap (x1 + (((a0.getD k2 []).length : Nat) : Int))) : Int) < 0)) (.bad) (.leaf 0))) (.leaf 1)) (by kernel_rfl) ?_
  refine br_ h ?_ ?_ <;> clear h <;> intro c3 h
  ·refine sk_and ⟨Int.natCast_nonneg _, of_decide_eq_true c3⟩ ?_
   refine br_ h ?_ ?_ <;> clear h <;> intro c5 h
   ·cases h
   ·refine sk_leaf ?_
    refine back_ok (p := p1) (by kernel_rfl) (hp1 (n1, (IntKind.i64.wrap (x1 + (((a0.getD k2 []).length : Nat) : Int))), k2 + 1) _ h (Nat.lt_succ_self n1) ?_)
    exact sub_ok (ρ := []) (l := [a0.length = a0.length, ∀ i, i < a0.length → ∀ j, j < 1 → E43.cf (a0.getD i E43.z) j = E43.cf (a0.getD i E43.z) j, ((IntKind.i64.wrap (x1 + (((a0.getD k2 []).length : Nat) : Int))) : Int) = (IntKind.i64.wrap (x1 + (((a0.getD k2 []).length : Nat) : Int))), a0.length = a0.length, ∀ i, i < a0.length → ∀ j, j < 1 → E43.cf (a0.getD i E43.z) j = E43.cf (a0.getD i E43.z) j, (((a0.length : Nat) : Int) : Int) = ((a0.length : Nat) : Int), ((IntKind.i64.wrap (((k2 : Nat) : Int) + 1)) : Int) = (((k2 + 1) : Nat) : Int)]) (by kernel_rfl) ⟨rfl, fun _ _ _ _ => rfl, rfl, rfl, fun _ _ _ _ => rfl, rfl, (wrap_nat (Int.ofNat_lt.1 (of_decide_eq_true c3)) (by omega)), trivial⟩
  ·refine sk_leaf ?_
   obtain ⟨r6, e7, h⟩ := bd_ h
   refine call_ok (d := some 24) (fn := 38) (ax := [.pv (.raw (.slice none 0 0)), .pv (.raw (.int .i64 x1))]) (args := [.pv (.raw (.slice none 0 0)), .pv (.raw (.int .i64 x1))]) (ps := [(x1 : Int) = x1]) (hb' := [.row 5 1 (E5.cR r6)]) (by kernel_rfl) (slices_Grow_byte_nil_ok _ _ e7 (al := true)) (by kernel_rfl) ⟨rfl, trivial⟩ (fun _ => (by kernel_rfl)) (by simp) (by simp only [List.map_cons, List.map_nil, Elem.row_up, up_map] <;> rfl) (by kernel_rfl) ?_
   refine segs [] tabOk mixed 4000 (S := .leaf 0) (by kernel_rfl) ?_
   refine sk_leaf ?_
   refine len_ro (by kernel_rfl) 25 (s := 1) (n := a0.length) (c := fun i j => E43.cf (a0.getD i E43.z) j) (by kernel_rfl) ?_; intro hl2_0
   refine len_row (by kernel_rfl) 17920 (e := 5) (s := 1) (n := r6.length) (cs := E5.cR r6) (by kernel_rfl) (Elem.cR_length _ _) ?_; intro hl2_1
   replace h : (fun (x : Nat × List Int × Nat) => slices_Concat_byte_l2 a0 r6 x.1 x.2.1 x.2.2 = some r) (FUEL, r6, 0) := h
   refine loop_ok (by kernel_rfl) (X := Nat × List Int × Nat) (fun x => slices_Concat_byte_l2 a0 r6 x.1 x.2.1 x.2.2 = some r) (fun x => x.1) (fun x => mk 36 [(2, .pv (.raw (.slice none 0 0))), (6, .row 0 1 0 x.2.1.length), (25, .pv ((E43.ro a0))), (26, .pv (.raw (.int .i64 ((a0.length : Nat) : Int)))), (27, .pv (.raw (.int .i64 ((x.2.2 : Nat) : Int))))] [(0, .row 5 1 (E5.cR x.2.1))]) (FUEL, r6, 0) h ?_ ?_
   ·exact sub_ok (ρ := [(0, some 17920)]) (l := [0 = 0, r6.length = r6.length, a0.length = a0.length, ∀ i, i < a0.length → ∀ j, j < 1 → E43.cf (a0.getD i E43.z) j = E43.cf (a0.getD i E43.z) j, (((a0.length : Nat) : Int) : Int) = ((a0.length : Nat) : Int), (0 : Int) = ((0 : Nat) : Int), E5.cR r6 = E5.cR r6, AllPv (E5.cR r6)]) (by kernel_rfl) ⟨rfl, rfl, rfl, fun _ _ _ _ => rfl, rfl, (by first | rfl | simp), rfl, (Elem.cR_pv _ _), trivial⟩
   ·clear h; rintro ⟨n2, l8, k9⟩ h p2 hp2
    obtain _ | n2 := n2
    ·cases (show (none : Option ((List Int))) = some r from h)
    have h : slices_Concat_byte_l2 a0 r6 (n2 + 1) l8 k9 = some r := h
    unfold slices_Concat_byte_l2 at h
    refine segs [] tabOk mixed 4000 (S := .br (decide ((((k9 : Nat) : Int) : Int) < ((a0.length : Nat) : Int))) (.and (0 ≤ (((k9 : Nat) : Int) : Int) ∧ ((k9 : Nat) : Int) < ((a0.length : Nat) : Int)) (.leaf 0)) (.leaf 1)) (by kernel_rfl) ?_
    refine br_ h ?_ ?_ <;> clear h <;> intro c10 h
    ·refine sk_and ⟨Int.natCast_nonneg _, of_decide_eq_true c10⟩ ?_
     refine sk_leaf ?_
     obtain ⟨g12, h⟩ := if_ h
     refine app_ok (d := 33) (e := 5) (s := 1) (b := 1) (x := .row 0 1 0 l8.length) (y := .pv ((E5.ro (a0.getD k9 [])))) E5 (xs := l8) (ys := (a0.getD k9 [])) (by kernel_rfl) rfl (.row 0 l8 l8.length rfl (by kernel_rfl)) (.ro (a0.getD k9 [])) g12 (by kernel_rfl) ?_
     refine segs [] tabOk mixed 4000 (S := .leaf 0) (by kernel_rfl) ?_
     refine sk_leaf ?_
     refine back_ok (p := p2) (by kernel_rfl) (hp2 (n2, (l8 ++ (a0.getD k9 [])), k9 + 1) _ h (Nat.lt_succ_self n2) ?_)
     exact sub_ok (ρ := [(0, some 18496)]) (l := [0 = 0, ((l8 ++ (a0.getD k9 [])).length) = ((l8 ++ (a0.getD k9 [])).length), a0.length = a0.length, ∀ i, i < a0.length → ∀ j, j < 1 → E43.cf (a0.getD i E43.z) j = E43.cf (a0.getD i E43.z) j, (((a0.length : Nat) : Int) : Int) = ((a0.length : Nat) : Int), ((IntKind.i64.wrap (((k9 : Nat) : Int) + 1)) : Int) = (((k9 + 1) : Nat) : Int), E5.cR (l8 ++ (a0.getD k9 [])) = E5.cR (l8 ++ (a0.getD k9 [])), AllPv (E5.cR (l8 ++ (a0.getD k9 [])))]) (by kernel_rfl) ⟨rfl, rfl, rfl, fun _ _ _ _ => rfl, rfl, (wrap_nat (Int.ofNat_lt.1 (of_decide_eq_true c10)) (by omega)), rfl, (Elem.cR_pv _ _), trivial⟩
    ·refine sk_leaf ?_
     obtain rfl := some_ h
     exact end_ok [(0, some 0)] Try.results18 (ps := [0 = 0, l8.length = l8.length, E5.cR l8 = E5.cR l8, AllPv (E5.cR l8)]) (by kernel_rfl) ⟨rfl, rfl, rfl, (Elem.cR_pv _ _), trivial⟩ (fun _ => ⟨rfl, by simp only [List.mem_cons, List.not_mem_nil, or_false, forall_eq_or_imp, forall_eq]; exact Elem.cR_bald E5_raw _⟩)
set_option maxHeartbeats 40000000 in
set_option maxRecDepth 100000 in
theorem keep_PipeEnd_ok (a0 : (List Api_PipeOp)) (a1 : Int) (r : Bool) (h : keep_PipeEnd a0 a1 = some r) {al : Bool} : PCalls Try.prog 4 [.pv ((E51.ro a0)), .pv (.raw (.int .i64 a1))] al (.pv (.raw (.bool r))) [] := by
 unfold keep_PipeEnd at h
 refine fn_ok tabOk Try.func4 (by kernel_rfl) (by kernel_rfl) Try.ntmps4 (by simp) ?_
 refine segs [19] tabOk mixed 4000 (S := .leaf 0) (by kernel_rfl) ?_
 refine sk_leaf ?_
 obtain ⟨r1, e2, h⟩ := bd_ h
 refine call_ok (d := some 16) (fn := 14) (ax := []) (args := []) (ps := []) (hb' := []) (by kernel_rfl) (keep_alive21_ok  _ e2 (al := true)) (by kernel_rfl) trivial (fun _ => (by kernel_rfl)) (by simp) rfl (by kernel_rfl) ?_
 refine segs [19] tabOk mixed 4000 (S := .br (!r1) (.leaf 0) (.leaf 1)) (by kernel_rfl) ?_
 refine br_ h ?_ ?_ <;> clear h <;> intro c3 h
 ·refine sk_leaf ?_
  obtain rfl := some_ h
  exact end_ok [] Try.results4 (ps := [false = false]) (by kernel_rfl) ⟨rfl, trivial⟩ (fun _ => ⟨rfl, by simp⟩)
 ·refine sk_leaf ?_
  obtain ⟨r4, e5, h⟩ := bd_ h
  refine call_ok (d := some 20) (fn := 15) (ax := [.pv ((E51.ro a0))]) (args := [.pv ((E51.ro a0))]) (ps := [a0.length = a0.length, ∀ i, i < a0.length → ∀ j, j < 3 → E51.cf (a0.getD i E51.z) j = E51.cf (a0.getD i E51.z) j]) (hb' := [.row 31 1 (E31.cR r4.1), .row 5 1 (E5.cR r4.2.1), .row 5 1 (E5.cR r4.2.2.Has)]) (by kernel_rfl) (pipe_Play_ok _ _ e5 (al := true)) (by kernel_rfl) ⟨rfl, fun _ _ _ _ => rfl, trivial⟩ (fun _ => (by kernel_rfl)) (by simp) (by simp only [List.map_cons, List.map_nil, Elem.row_up, up_map] <;> rfl) (by kernel_rfl) ?_
  refine segs [19] tabOk mixed 4000 (S := .br ((r4.2.2.Readers : Int) == 0) (.leaf 0) (.br (decide ((a1 : Int) < 1)) (.leaf 1) (.leaf 2))) (by kernel_rfl) ?_
  refine br_ h ?_ ?_ <;> clear h <;> intro c6 h
  ·refine sk_leaf ?_
   refine bs_ok (d := 29) (e := 5) (s := 1) (n := 1) (cs := [.pv (.raw (.int .u8 1))]) (cs' := E5.cR [1]) (by kernel_rfl) rfl (by kernel_rfl) ?_
   refine segs [19] tabOk mixed 4000 (S := .leaf 0) (by kernel_rfl) ?_
   refine sk_leaf ?_
   obtain ⟨r7, e8, h⟩ := bd_ h
   refine call_ok (d := some 31) (fn := 16) (ax := [.agg [.row 17666 1 0 r4.2.2.Has.length, .pv (.raw (.int .i64 r4.2.2.Writers)), .pv (.raw (.int .i64 r4.2.2.Readers))], .agg [.pv (.raw (.int .i64 1)), .pv (.raw (.int .i64 0)), .row 18240 1 0 1]]) (args := [.agg [.pv ((E5.ro r4.2.2.Has)), .pv (.raw (.int .i64 r4.2.2.Writers)), .pv (.raw (.int .i64 r4.2.2.Readers))], .agg [.pv (.raw (.int .i64 1)), .pv (.raw (.int .i64 0)), .pv ((E5.ro [1]))]]) (ps := [r4.2.2.Has.length = r4.2.2.Has.length, rowQ (E5.cR r4.2.2.Has) 1 0 r4.2.2.Has.length (fun i j => E5.cf (r4.2.2.Has.getD i E5.z) j), (r4.2.2.Writers : Int) = r4.2.2.Writers, (r4.2.2.Readers : Int) = r4.2.2.Readers, (1 : Int) = 1, (0 : Int) = 0, 1 = [1].length, rowQ (E5.cR [1]) 1 0 1 (fun i j => E5.cf ([1].getD i E5.z) j)]) (hb' := [.row 5 1 (E5.cR r7.1.Has), .row 5 1 (E5.cR r7.2.2.1)]) (by kernel_rfl) (pipe_Step_ok _ _ _ e8 (al := false)) (by kernel_rfl) ⟨(by first | rfl | exact Elem.sub_len _ (by omega) | omega | simp | (simp <;> omega)), E5.rowQ_all r4.2.2.Has rfl, rfl, rfl, rfl, rfl, (by first | rfl | exact Elem.sub_len _ (by omega) | omega | simp | (simp <;> omega)), E5.rowQ_all [1] rfl, trivial⟩ (fun hx => by cases hx) (by simp) (by simp only [List.map_cons, List.map_nil, Elem.row_up, up_map] <;> rfl) (by kernel_rfl) ?_
   refine segs [19] tabOk mixed 4000 (S := .and (((!((r7.2.2.2 : Int) == 3)) = true → ((!((r7.2.2.2 : Int) == 3)) = true))) (.and (((!((r7.2.2.2 : Int) == 3)) = true → ((!((r7.2.2.2 : Int) == 3)) = true))) (.and ((((!((r7.2.2.2 : Int) == 3)) && ((r7.2.2.2 : Int) == 6)) = true → (((!((r7.2.2.2 : Int) == 3)) && ((r7.2.2.2 : Int) == 6)) = true))) (.and ((((!((r7.2.2.2 : Int) == 3)) && ((r7.2.2.2 : Int) == 6)) = true → (((!((r7.2.2.2 : Int) == 3)) && ((r7.2.2.2 : Int) == 6)) = true))) (.and (((!((r7.2.2.2 : Int) == 3)) = true → ((!((r7.2.2.2 : Int) == 3)) = true))) (.and (((!((r7.2.2.2 : Int) == 3)) = true → (((r7.2.2.2 : Int) == 6) = true → ((!((r7.2.2.2 : Int) == 3)) && ((r7.2.2.2 : Int) == 6)) = true))) (.and (((r7.2.2.2 : Int) == 3) = false → (!((r7.2.2.2 : Int) == 3)) = true) (.leaf 0)))))))) (by kernel_rfl) ?_
   refine sk_and (fun h => h) ?_
   refine sk_and (fun h => h) ?_
   refine sk_and (fun h => h) ?_
   refine sk_and (fun h => h) ?_
   refine sk_and (fun h => h) ?_
   refine sk_and ((by decide : ∀ y0 y1 : Bool, ((y0 = true) → ((y1 = true) → ((y0 && y1) = true)))) (!((r7.2.2.2 : Int) == 3)) ((r7.2.2.2 : Int) == 6)) ?_
   refine sk_and ((by decide : ∀ y0 : Bool, ((y0 = false) → ((!y0) = true))) ((r7.2.2.2 : Int) == 3)) ?_
   refine sk_leaf ?_
   obtain rfl := some_ h
   exact end_ok [] Try.results4 (ps := [(((r7.2.2.2 : Int) == 3) || (((r7.2.2.2 : Int) == 6) && ((r4.2.2.Writers : Int) == 0))) = (((r7.2.2.2 : Int) == 3) || (((r7.2.2.2 : Int) == 6) && ((r4.2.2.Writers : Int) == 0)))]) (by kernel_rfl) ⟨rfl, trivial⟩ (fun _ => ⟨rfl, by simp⟩)
  ·refine br_ h ?_ ?_ <;> clear h <;> intro c16 h
   ·refine sk_leaf ?_
    obtain rfl := some_ h
    exact end_ok [] Try.results4 (ps := [true = true]) (by kernel_rfl) ⟨rfl, trivial⟩ (fun _ => ⟨rfl, by simp⟩)
   ·refine sk_leaf ?_
    obtain ⟨r17, e18, h⟩ := bd_ h
    refine call_ok (d := some 50) (fn := 17) (ax := [.pv ((E51.ro a0))]) (args := [.pv ((E51.ro a0))]) (ps := [a0.length = a0.length, ∀ i, i < a0.length → ∀ j, j < 3 → E51.cf (a0.getD i E51.z) j = E51.cf (a0.getD i E51.z) j]) (hb' := [.row 51 3 (E51.cR r17)]) (by kernel_rfl) (slices_Clone_api_PipeOp_ok _ _ e18) (by kernel_rfl) ⟨rfl, fun _ _ _ _ => rfl, trivial⟩ (fun _ => (by kernel_rfl)) (by simp) (by simp only [List.map_cons, List.map_nil, Elem.row_up, up_map] <;> rfl) (by kernel_rfl) ?_
    refine segs [19] tabOk mixed 4000 (S := .leaf 0) (by kernel_rfl) ?_
    refine sk_leaf ?_
    refine len_row (by kernel_rfl) 17664 (e := 31) (s := 1) (n := r4.1.length) (cs := E31.cR r4.1) (by kernel_rfl) (Elem.cR_length _ _) ?_; intro hl1_0
    refine len_row (by kernel_rfl) 17665 (e := 5) (s := 1) (n := r4.2.1.length) (cs := E5.cR r4.2.1) (by kernel_rfl) (Elem.cR_length _ _) ?_; intro hl1_1
    refine len_row (by kernel_rfl) 17666 (e := 5) (s := 1) (n := r4.2.2.Has.length) (cs := E5.cR r4.2.2.Has) (by kernel_rfl) (Elem.cR_length _ _) ?_; intro hl1_2
    refine len_row (by kernel_rfl) 19584 (e := 51) (s := 3) (n := r17.length) (cs := E51.cR r17) (by kernel_rfl) (Elem.cR_length _ _) ?_; intro hl1_3
    replace h : (fun (x : Nat × List Api_PipeOp × Int) => keep_PipeEnd_l1 a1 r4 r17 x.1 x.2.1 x.2.2 = some r) (FUEL, r17, 0) := h
    refine loop_ok (by kernel_rfl) (X := Nat × List Api_PipeOp × Int) (fun x => keep_PipeEnd_l1 a1 r4 r17 x.1 x.2.1 x.2.2 = some r) (fun x => x.1) (fun x => mk 107 [(1, .pv (.raw (.int .i64 a1))), (4, .pv (.raw (.bool false))), (6, .row 0 1 0 r4.2.1.length), (7, .ptr 1 0), (12, .row 3 3 0 x.2.1.length), (52, .pv (.raw (.int .i64 r4.2.2.Writers))), (53, .pv (.raw (.int .i64 x.2.2)))] [(0, .row 5 1 (E5.cR r4.2.1)), (1, .box [.row 2 1 0 r4.2.2.Has.length, .pv (.raw (.int .i64 r4.2.2.Writers)), .pv (.raw (.int .i64 r4.2.2.Readers))]), (2, .row 5 1 (E5.cR r4.2.2.Has)), (3, .row 51 3 (E51.cR x.2.1))]) (FUEL, r17, 0) h ?_ ?_
    ·exact sub_ok (ρ := [(0, some 17665), (1, some 16832), (2, some 17666), (3, some 19584)]) (l := [(a1 : Int) = a1, false = false, 0 = 0, r4.2.1.length = r4.2.1.length, 0 = 0, 0 = 0, r17.length = r17.length, (r4.2.2.Writers : Int) = r4.2.2.Writers, (0 : Int) = 0, E5.cR r4.2.1 = E5.cR r4.2.1, AllPv (E5.cR r4.2.1), 0 = 0, r4.2.2.Has.length = r4.2.2.Has.length, (r4.2.2.Writers : Int) = r4.2.2.Writers, (r4.2.2.Readers : Int) = r4.2.2.Readers, E5.cR r4.2.2.Has = E5.cR r4.2.2.Has, AllPv (E5.cR r4.2.2.Has), E51.cR r17 = E51.cR r17, AllPv (E51.cR r17)]) (by kernel_rfl) ⟨rfl, rfl, rfl, rfl, rfl, rfl, rfl, rfl, rfl, rfl, (Elem.cR_pv _ _), rfl, rfl, rfl, rfl, rfl, (Elem.cR_pv _ _), rfl, (Elem.cR_pv _ _), trivial⟩
    ·clear h; rintro ⟨n1, l19, x20⟩ h p1 hp1
     obtain _ | n1 := n1
     ·cases (show (none : Option (Bool)) = some r from h)
     have h : keep_PipeEnd_l1 a1 r4 r17 (n1 + 1) l19 x20 = some r := h
     unfold keep_PipeEnd_l1 at h
     refine segs [19] tabOk mixed 4000 (S := .br (decide ((x20 : Int) < r4.2.2.Writers)) (.leaf 0) (.leaf 1)) (by kernel_rfl) ?_
     refine br_ h ?_ ?_ <;> clear h <;> intro c21 h
     ·refine sk_leaf ?_
      refine bsN_ok (d := 57) (e := 51) (s := 3) (n := 1) (cs := [.pv (.raw (.int .i64 5)), .pv (.raw (.int .i64 0)), .pv (.raw (.slice none 0 0))]) (ds := [.pv (.raw (.int .i64 5)), .pv (.raw (.int .i64 0)), .pv ((E5.ro ([] : List Int)))]) E51 [(⟨5, 0, ([] : List Int)⟩ : Api_PipeOp)] (by kernel_rfl) rfl rfl rfl ⟨.inl rfl, .inl rfl, .inr ⟨rfl, _, _, rfl⟩, trivial⟩ (by kernel_rfl) ?_
      refine segs [19] tabOk mixed 4000 (S := .leaf 0) (by kernel_rfl) ?_
      refine sk_leaf ?_
      obtain ⟨g22, h⟩ := if_ h
      refine app_ok (d := 58) (e := 51) (s := 3) (b := 40) (x := .row 3 3 0 l19.length) (y := .pv ((E51.ro [(⟨5, 0, ([] : List Int)⟩ : Api_PipeOp)]))) E51 (xs := l19) (ys := [(⟨5, 0, ([] : List Int)⟩ : Api_PipeOp)]) (by kernel_rfl) rfl (.row 3 l19 l19.length rfl (by kernel_rfl)) (.ro [(⟨5, 0, ([] : List Int)⟩ : Api_PipeOp)]) g22 (by kernel_rfl) ?_
      refine segs [19] tabOk mixed 4000 (S := .leaf 0) (by kernel_rfl) ?_
      refine sk_leaf ?_
      refine back_ok (p := p1) (by kernel_rfl) (hp1 (n1, (l19 ++ [(⟨5, 0, ([] : List Int)⟩ : Api_PipeOp)]), (IntKind.i64.wrap (x20 + 1))) _ h (Nat.lt_succ_self n1) ?_)
      exact sub_ok (ρ := (rI 0 0 3 ++ ([(3, some 20096)]))) (l := [(a1 : Int) = a1, false = false, 0 = 0, r4.2.1.length = r4.2.1.length, 0 = 0, 0 = 0, ((l19 ++ [(⟨5, 0, ([] : List Int)⟩ : Api_PipeOp)]).length) = ((l19 ++ [(⟨5, 0, ([] : List Int)⟩ : Api_PipeOp)]).length), (r4.2.2.Writers : Int) = r4.2.2.Writers, ((IntKind.i64.wrap (x20 + 1)) : Int) = (IntKind.i64.wrap (x20 + 1)), E5.cR r4.2.1 = E5.cR r4.2.1, AllPv (E5.cR r4.2.1), 0 = 0, r4.2.2.Has.length = r4.2.2.Has.length, (r4.2.2.Writers : Int) = r4.2.2.Writers, (r4.2.2.Readers : Int) = r4.2.2.Readers, E5.cR r4.2.2.Has = E5.cR r4.2.2.Has, AllPv (E5.cR r4.2.2.Has), E51.cR (l19 ++ [(⟨5, 0, ([] : List Int)⟩ : Api_PipeOp)]) = E51.cR (l19 ++ [(⟨5, 0, ([] : List Int)⟩ : Api_PipeOp)]), AllPv (E51.cR (l19 ++ [(⟨5, 0, ([] : List Int)⟩ : Api_PipeOp)]))]) (by kernel_rfl) ⟨rfl, rfl, rfl, rfl, rfl, rfl, rfl, rfl, rfl, rfl, (Elem.cR_pv _ _), rfl, rfl, rfl, rfl, rfl, (Elem.cR_pv _ _), rfl, (Elem.cR_pv _ _), trivial⟩
     ·refine sk_leaf ?_
      refine len_row (by kernel_rfl) 3 (e := 51) (s := 3) (n := l19.length) (cs := E51.cR l19) (by kernel_rfl) (Elem.cR_length _ _) ?_; intro hl2_0
      refine len_row (by kernel_rfl) 0 (e := 5) (s := 1) (n := r4.2.1.length) (cs := E5.cR r4.2.1) (by kernel_rfl) (Elem.cR_length _ _) ?_; intro hl2_1
      refine len_row (by kernel_rfl) 2 (e := 5) (s := 1) (n := r4.2.2.Has.length) (cs := E5.cR r4.2.2.Has) (by kernel_rfl) (Elem.cR_length _ _) ?_; intro hl2_2
      replace h : (fun (x : Nat × List Api_PipeOp × Int) => keep_PipeEnd_l2 a1 r4 l19 x.1 x.2.1 x.2.2 = some r) (FUEL, l19, 0) := h
      refine loop_ok (by kernel_rfl) (X := Nat × List Api_PipeOp × Int) (fun x => keep_PipeEnd_l2 a1 r4 l19 x.1 x.2.1 x.2.2 = some r) (fun x => x.1) (fun x => mk 107 [(1, .pv (.raw (.int .i64 a1))), (4, .pv (.raw (.bool false))), (6, .row 0 1 0 r4.2.1.length), (7, .ptr 1 0), (12, .row 3 3 0 x.2.1.length), (63, .pv (.raw (.int .i64 (IntKind.i64.wrap (((r4.2.2.Has.length : Nat) : Int) + 1))))), (64, .pv (.raw (.int .i64 x.2.2)))] [(0, .row 5 1 (E5.cR r4.2.1)), (1, .box [.row 2 1 0 r4.2.2.Has.length, .pv (.raw (.int .i64 r4.2.2.Writers)), .pv (.raw (.int .i64 r4.2.2.Readers))]), (2, .row 5 1 (E5.cR r4.2.2.Has)), (3, .row 51 3 (E51.cR x.2.1))]) (FUEL, l19, 0) h ?_ ?_
      ·exact sub_ok (ρ := (rI 0 0 4)) (l := [(a1 : Int) = a1, false = false, 0 = 0, r4.2.1.length = r4.2.1.length, 0 = 0, 0 = 0, l19.length = l19.length, ((IntKind.i64.wrap (((r4.2.2.Has.length : Nat) : Int) + 1)) : Int) = (IntKind.i64.wrap (((r4.2.2.Has.length : Nat) : Int) + 1)), (0 : Int) = 0, E5.cR r4.2.1 = E5.cR r4.2.1, AllPv (E5.cR r4.2.1), 0 = 0, r4.2.2.Has.length = r4.2.2.Has.length, (r4.2.2.Writers : Int) = r4.2.2.Writers, (r4.2.2.Readers : Int) = r4.2.2.Readers, E5.cR r4.2.2.Has = E5.cR r4.2.2.Has, AllPv (E5.cR r4.2.2.Has), E51.cR l19 = E51.cR l19, AllPv (E51.cR l19)]) (by kernel_rfl) ⟨rfl, rfl, rfl, rfl, rfl, rfl, rfl, rfl, rfl, rfl, (Elem.cR_pv _ _), rfl, rfl, rfl, rfl, rfl, (Elem.cR_pv _ _), rfl, (Elem.cR_pv _ _), trivial⟩
      ·clear h; rintro ⟨n2, l23, x24⟩ h p2 hp2
       obtain _ | n2 := n2
       ·cases (show (none : Option (Bool)) = some r from h)
       have h : keep_PipeEnd_l2 a1 r4 l19 (n2 + 1) l23 x24 = some r := h
       unfold keep_PipeEnd_l2 at h
       refine segs [19] tabOk mixed 4000 (S := .br (decide ((x24 : Int) < (IntKind.i64.wrap (((r4.2.2.Has.length : Nat) : Int) + 1)))) (.leaf 0) (.leaf 1)) (by kernel_rfl) ?_
       refine br_ h ?_ ?_ <;> clear h <;> intro c25 h
       ·refine sk_leaf ?_
        refine bsN_ok (d := 69) (e := 51) (s := 3) (n := 1) (cs := [.pv (.raw (.int .i64 2)), .pv (.raw (.int .i64 a1)), .pv (.raw (.slice none 0 0))]) (ds := [.pv (.raw (.int .i64 2)), .pv (.raw (.int .i64 a1)), .pv ((E5.ro ([] : List Int)))]) E51 [(⟨2, a1, ([] : List Int)⟩ : Api_PipeOp)] (by kernel_rfl) rfl rfl rfl ⟨.inl rfl, .inl rfl, .inr ⟨rfl, _, _, rfl⟩, trivial⟩ (by kernel_rfl) ?_
        refine segs [19] tabOk mixed 4000 (S := .leaf 0) (by kernel_rfl) ?_
        refine sk_leaf ?_
        obtain ⟨g26, h⟩ := if_ h
        refine app_ok (d := 70) (e := 51) (s := 3) (b := 40) (x := .row 3 3 0 l23.length) (y := .pv ((E51.ro [(⟨2, a1, ([] : List Int)⟩ : Api_PipeOp)]))) E51 (xs := l23) (ys := [(⟨2, a1, ([] : List Int)⟩ : Api_PipeOp)]) (by kernel_rfl) rfl (.row 3 l23 l23.length rfl (by kernel_rfl)) (.ro [(⟨2, a1, ([] : List Int)⟩ : Api_PipeOp)]) g26 (by kernel_rfl) ?_
        refine segs [19] tabOk mixed 4000 (S := .leaf 0) (by kernel_rfl) ?_
        refine sk_leaf ?_
        refine back_ok (p := p2) (by kernel_rfl) (hp2 (n2, (l23 ++ [(⟨2, a1, ([] : List Int)⟩ : Api_PipeOp)]), (IntKind.i64.wrap (x24 + 1))) _ h (Nat.lt_succ_self n2) ?_)
        exact sub_ok (ρ := (rI 0 0 3 ++ ([(3, some 20864)]))) (l := [(a1 : Int) = a1, false = false, 0 = 0, r4.2.1.length = r4.2.1.length, 0 = 0, 0 = 0, ((l23 ++ [(⟨2, a1, ([] : List Int)⟩ : Api_PipeOp)]).length) = ((l23 ++ [(⟨2, a1, ([] : List Int)⟩ : Api_PipeOp)]).length), ((IntKind.i64.wrap (((r4.2.2.Has.length : Nat) : Int) + 1)) : Int) = (IntKind.i64.wrap (((r4.2.2.Has.length : Nat) : Int) + 1)), ((IntKind.i64.wrap (x24 + 1)) : Int) = (IntKind.i64.wrap (x24 + 1)), E5.cR r4.2.1 = E5.cR r4.2.1, AllPv (E5.cR r4.2.1), 0 = 0, r4.2.2.Has.length = r4.2.2.Has.length, (r4.2.2.Writers : Int) = r4.2.2.Writers, (r4.2.2.Readers : Int) = r4.2.2.Readers, E5.cR r4.2.2.Has = E5.cR r4.2.2.Has, AllPv (E5.cR r4.2.2.Has), E51.cR (l23 ++ [(⟨2, a1, ([] : List Int)⟩ : Api_PipeOp)]) = E51.cR (l23 ++ [(⟨2, a1, ([] : List Int)⟩ : Api_PipeOp)]), AllPv (E51.cR (l23 ++ [(⟨2, a1, ([] : List Int)⟩ : Api_PipeOp)]))]) (by kernel_rfl) ⟨rfl, rfl, rfl, rfl, rfl, rfl, rfl, rfl, rfl, rfl, (Elem.cR_pv _ _), rfl, rfl, rfl, rfl, rfl, (Elem.cR_pv _ _), rfl, (Elem.cR_pv _ _), trivial⟩
       ·refine sk_leaf ?_
        obtain ⟨r27, e28, h⟩ := bd_ h
        refine call_ok (d := some 74) (fn := 15) (ax := [.row 3 3 0 l23.length]) (args := [.pv ((E51.ro l23))]) (ps := [l23.length = l23.length, rowQ (E51.cR l23) 3 0 l23.length (fun i j => E51.cf (l23.getD i E51.z) j)]) (hb' := [.row 31 1 (E31.cR r27.1), .row 5 1 (E5.cR r27.2.1), .row 5 1 (E5.cR r27.2.2.Has)]) (by kernel_rfl) (pipe_Play_ok _ _ e28 (al := false)) (by kernel_rfl) ⟨(by first | rfl | exact Elem.sub_len _ (by omega) | omega | simp | (simp <;> omega)), E51.rowQ_all l23 rfl, trivial⟩ (fun hx => by cases hx) (by simp) (by simp only [List.map_cons, List.map_nil, Elem.row_up, up_map] <;> rfl) (by kernel_rfl) ?_
        refine segs [19] tabOk mixed 4000 (S := .leaf 0) (by kernel_rfl) ?_
        refine sk_leaf ?_
        refine cut_ok (by kernel_rfl) (τ := mk 107 [(4, .pv (.raw (.bool false))), (6, .pv ((E5.ro r4.2.1))), (7, .ptr 0 0), (13, .row 1 1 0 r27.1.length), (14, .pv ((E5.ro r27.2.1))), (15, .ptr 2 0)] [(0, .box [.pv ((E5.ro r4.2.2.Has)), .pv (.raw (.int .i64 r4.2.2.Writers)), .pv (.raw (.int .i64 r4.2.2.Readers))]), (1, .row 31 1 (E31.cR r27.1)), (2, .box [.pv ((E5.ro r27.2.2.Has)), .pv (.raw (.int .i64 r27.2.2.Writers)), .pv (.raw (.int .i64 r27.2.2.Readers))])]) (sub_ok (ρ := [(0, some 1), (1, some 21120), (2, some 17344)]) (l := [false = false, r4.2.1.length = r4.2.1.length, rowQ (E5.cR r4.2.1) 1 0 r4.2.1.length (fun i j => E5.cf (r4.2.1.getD i E5.z) j), 0 = 0, 0 = 0, r27.1.length = r27.1.length, r27.2.1.length = r27.2.1.length, rowQ (E5.cR r27.2.1) 1 0 r27.2.1.length (fun i j => E5.cf (r27.2.1.getD i E5.z) j), 0 = 0, r4.2.2.Has.length = r4.2.2.Has.length, rowQ (E5.cR r4.2.2.Has) 1 0 r4.2.2.Has.length (fun i j => E5.cf (r4.2.2.Has.getD i E5.z) j), (r4.2.2.Writers : Int) = r4.2.2.Writers, (r4.2.2.Readers : Int) = r4.2.2.Readers, E31.cR r27.1 = E31.cR r27.1, AllPv (E31.cR r27.1), r27.2.2.Has.length = r27.2.2.Has.length, rowQ (E5.cR r27.2.2.Has) 1 0 r27.2.2.Has.length (fun i j => E5.cf (r27.2.2.Has.getD i E5.z) j), (r27.2.2.Writers : Int) = r27.2.2.Writers, (r27.2.2.Readers : Int) = r27.2.2.Readers]) (by kernel_rfl) ⟨rfl, (by first | rfl | exact Elem.sub_len _ (by omega) | omega | simp | (simp <;> omega)), E5.rowQ_all r4.2.1 rfl, rfl, rfl, rfl, (by first | rfl | exact Elem.sub_len _ (by omega) | omega | simp | (simp <;> omega)), E5.rowQ_all r27.2.1 rfl, rfl, (by first | rfl | exact Elem.sub_len _ (by omega) | omega | simp | (simp <;> omega)), E5.rowQ_all r4.2.2.Has rfl, rfl, rfl, rfl, (Elem.cR_pv _ _), (by first | rfl | exact Elem.sub_len _ (by omega) | omega | simp | (simp <;> omega)), E5.rowQ_all r27.2.2.Has rfl, rfl, rfl, trivial⟩) ?_
        refine segs [] tabOk mixed 4000 (S := .leaf 0) (by kernel_rfl) ?_
        refine sk_leaf ?_
        refine cvG_ok (d := 84) (g := ((((r27.2.2.Has.length : Nat) : Int) : Int) == 0)) (ws := [((((r27.2.2.Has.length : Nat) : Int) : Int) == 0) = true]) E5 (xs := r27.2.1) rfl (fun _ => rfl) (by kernel_rfl) (fun hg => ⟨((by decide : ∀ y0 : Bool, ((y0 = true) → (y0 = true))) ((((r27.2.2.Has.length : Nat) : Int) : Int) == 0)) hg, trivial⟩) ?_
        refine segs [19] tabOk mixed 4000 (S := .and ((((((r27.2.2.Has.length : Nat) : Int) : Int) == 0) = true → (((((r27.2.2.Has.length : Nat) : Int) : Int) == 0) = true))) (.leaf 0)) (by kernel_rfl) ?_
        refine sk_and (fun h => h) ?_
        refine sk_leaf ?_
        refine bsG_ok (d := 88) (e := 43) (s := 1) (n := 2) (g := ((((r27.2.2.Has.length : Nat) : Int) : Int) == 0)) (ws := [((((r27.2.2.Has.length : Nat) : Int) : Int) == 0) = true, ((((r27.2.2.Has.length : Nat) : Int) : Int) == 0) = true]) (cs := [.pv ((E5.ro r4.2.1)), .pv ((E5.ro r4.2.2.Has))]) E43 [r4.2.1, r4.2.2.Has] (by kernel_rfl) (fun hg => ⟨((by decide : ∀ y0 : Bool, ((y0 = true) → (y0 = true))) ((((r27.2.2.Has.length : Nat) : Int) : Int) == 0)) hg, ((by decide : ∀ y0 : Bool, ((y0 = true) → (y0 = true))) ((((r27.2.2.Has.length : Nat) : Int) : Int) == 0)) hg, trivial⟩) rfl rfl rfl (by kernel_rfl) ?_
        refine segs [19] tabOk mixed 4000 (S := .leaf 0) (by kernel_rfl) ?_
        refine sk_leaf ?_
        obtain ⟨r30, e31, h⟩ := bd_ h
        refine callG_ok (d := some 89) (fn := 18) (ax := [.pv ((E43.ro [r4.2.1, r4.2.2.Has]))]) (args := [.pv ((E43.ro [r4.2.1, r4.2.2.Has]))]) (g := ((((r27.2.2.Has.length : Nat) : Int) : Int) == 0)) (ws := [((((r27.2.2.Has.length : Nat) : Int) : Int) == 0) = true]) (ps := [[r4.2.1, r4.2.2.Has].length = [r4.2.1, r4.2.2.Has].length, ∀ i, i < [r4.2.1, r4.2.2.Has].length → ∀ j, j < 1 → E43.cf ([r4.2.1, r4.2.2.Has].getD i E43.z) j = E43.cf ([r4.2.1, r4.2.2.Has].getD i E43.z) j]) (by kernel_rfl) (fun hg => ⟨((by decide : ∀ y0 : Bool, ((y0 = true) → (y0 = true))) ((((r27.2.2.Has.length : Nat) : Int) : Int) == 0)) hg, trivial⟩) (fun hg => (slices_Concat_byte_ok _ _ (by rw [hg] at e31; exact e31) (al := true)).data (v := (.pv ((E5.ro r30)))) (ps := [r30.length = r30.length, rowQ (E5.cR r30) 1 0 r30.length (fun i j => E5.cf (r30.getD i E5.z) j)]) (by kernel_rfl) ⟨(by first | rfl | exact Elem.sub_len _ (by omega) | omega | simp | (simp <;> omega)), E5.rowQ_all r30 rfl, trivial⟩) (by kernel_rfl) (fun hg => ⟨rfl, fun _ _ _ _ => rfl, trivial⟩) (fun _ => (by kernel_rfl)) ?_
        refine segs [19] tabOk mixed 4000 (S := .leaf 0) (by kernel_rfl) ?_
        refine sk_leaf ?_
        refine cvG_ok (d := 90) (g := ((((r27.2.2.Has.length : Nat) : Int) : Int) == 0)) (ws := [((((r27.2.2.Has.length : Nat) : Int) : Int) == 0) = true]) E5 (xs := r30) rfl (fun _ => rfl) (by kernel_rfl) (fun hg => ⟨((by decide : ∀ y0 : Bool, ((y0 = true) → (y0 = true))) ((((r27.2.2.Has.length : Nat) : Int) : Int) == 0)) hg, trivial⟩) ?_
        refine segs [19] tabOk mixed 4000 (S := .and ((((((r27.2.2.Has.length : Nat) : Int) : Int) == 0) = true → (((((r27.2.2.Has.length : Nat) : Int) : Int) == 0) = true))) (.and ((((((r27.2.2.Has.length : Nat) : Int) : Int) == 0) = true → (((((r27.2.2.Has.length : Nat) : Int) : Int) == 0) = true))) (.and (((((r27.2.2.Has.length : Nat) : Int) : Int) == 0) = true → ((((r27.2.2.Has.length : Nat) : Int) : Int) == 0) = true) (.and (((((((r27.2.2.Has.length : Nat) : Int) : Int) == 0) && ((bytesOf r27.2.1).toList == (bytesOf r30).toList)) = true → ((((((r27.2.2.Has.length : Nat) : Int) : Int) == 0) && ((bytesOf r27.2.1).toList == (bytesOf r30).toList)) = true))) (.and (((((((r27.2.2.Has.length : Nat) : Int) : Int) == 0) && ((bytesOf r27.2.1).toList == (bytesOf r30).toList)) = true → ((((((r27.2.2.Has.length : Nat) : Int) : Int) == 0) && ((bytesOf r27.2.1).toList == (bytesOf r30).toList)) = true))) (.and ((((((r27.2.2.Has.length : Nat) : Int) : Int) == 0) && ((bytesOf r27.2.1).toList == (bytesOf r30).toList)) = true → (((((r27.2.2.Has.length : Nat) : Int) : Int) == 0) && ((bytesOf r27.2.1).toList == (bytesOf r30).toList)) = true) (.and ((((((((r27.2.2.Has.length : Nat) : Int) : Int) == 0) && ((bytesOf r27.2.1).toList == (bytesOf r30).toList)) && (decide ((((r27.1.length : Nat) : Int) : Int) > 0))) = true → (((((((r27.2.2.Has.length : Nat) : Int) : Int) == 0) && ((bytesOf r27.2.1).toList == (bytesOf r30).toList)) && (decide ((((r27.1.length : Nat) : Int) : Int) > 0))) = true))) (.and ((((((((r27.2.2.Has.length : Nat) : Int) : Int) == 0) && ((bytesOf r27.2.1).toList == (bytesOf r30).toList)) && (decide ((((r27.1.length : Nat) : Int) : Int) > 0))) = true → (((((((r27.2.2.Has.length : Nat) : Int) : Int) == 0) && ((bytesOf r27.2.1).toList == (bytesOf r30).toList)) && (decide ((((r27.1.length : Nat) : Int) : Int) > 0))) = true))) (.and ((((((((r27.2.2.Has.length : Nat) : Int) : Int) == 0) && ((bytesOf r27.2.1).toList == (bytesOf r30).toList)) && (decide ((((r27.1.length : Nat) : Int) : Int) > 0))) = true → (((((((r27.2.2.Has.length : Nat) : Int) : Int) == 0) && ((bytesOf r27.2.1).toList == (bytesOf r30).toList)) && (decide ((((r27.1.length : Nat) : Int) : Int) > 0))) = true))) (.and ((((((((r27.2.2.Has.length : Nat) : Int) : Int) == 0) && ((bytesOf r27.2.1).toList == (bytesOf r30).toList)) && (decide ((((r27.1.length : Nat) : Int) : Int) > 0))) = true → (((((((r27.2.2.Has.length : Nat) : Int) : Int) == 0) && ((bytesOf r27.2.1).toList == (bytesOf r30).toList)) && (decide ((((r27.1.length : Nat) : Int) : Int) > 0))) = true))) (.and ((((((((r27.2.2.Has.length : Nat) : Int) : Int) == 0) && ((bytesOf r27.2.1).toList == (bytesOf r30).toList)) && (decide ((((r27.1.length : Nat) : Int) : Int) > 0))) = true → (0 ≤ ((IntKind.i64.wrap (((r27.1.length : Nat) : Int) - 1)) : Int) ∧ (IntKind.i64.wrap (((r27.1.length : Nat) : Int) - 1)) < ((r27.1.length : Nat) : Int)))) (.leaf 0)))))))))))) (by kernel_rfl) ?_
        refine sk_and (fun h => h) ?_
        refine sk_and (fun h => h) ?_
        refine sk_and (fun h => h) ?_
        refine sk_and (fun h => h) ?_
        refine sk_and (fun h => h) ?_
        refine sk_and (fun h => h) ?_
        refine sk_and (fun h => h) ?_
        refine sk_and (fun h => h) ?_
        refine sk_and (fun h => h) ?_
        refine sk_and (fun h => h) ?_
        refine gd_ h ?_; clear h; intro g42 h
        refine sk_leaf ?_
        refine ldG_ok (d := 104) (id := 1) (i := (0 + (Int.toNat (IntKind.i64.wrap (((r27.1.length : Nat) : Int) - 1))))) (j := 0) (e := 31) (n := 1) (g := ((((((r27.2.2.Has.length : Nat) : Int) : Int) == 0) && ((bytesOf r27.2.1).toList == (bytesOf r30).toList)) && (decide ((((r27.1.length : Nat) : Int) : Int) > 0)))) (ws := [((((((r27.2.2.Has.length : Nat) : Int) : Int) == 0) && ((bytesOf r27.2.1).toList == (bytesOf r30).toList)) && (decide ((((r27.1.length : Nat) : Int) : Int) > 0))) = true]) E31 (xs := r27.1) (by kernel_rfl) (fun hg => ⟨((by decide : ∀ y0 : Bool, ((y0 = true) → (y0 = true))) ((((((r27.2.2.Has.length : Nat) : Int) : Int) == 0) && ((bytesOf r27.2.1).toList == (bytesOf r30).toList)) && (decide ((((r27.1.length : Nat) : Int) : Int) > 0)))) hg, trivial⟩) (by kernel_rfl) (fun hg => (by first | omega | (simp at * <;> omega) | (simp_all <;> omega))) (by exact Nat.le_of_ble_eq_true rfl) ?_
        refine segs [19] tabOk mixed 4000 (S := .and ((((((((r27.2.2.Has.length : Nat) : Int) : Int) == 0) && ((bytesOf r27.2.1).toList == (bytesOf r30).toList)) && (decide ((((r27.1.length : Nat) : Int) : Int) > 0))) = true → (((((((r27.2.2.Has.length : Nat) : Int) : Int) == 0) && ((bytesOf r27.2.1).toList == (bytesOf r30).toList)) && (decide ((((r27.1.length : Nat) : Int) : Int) > 0))) = true))) (.and (((((((r27.2.2.Has.length : Nat) : Int) : Int) == 0) && ((bytesOf r27.2.1).toList == (bytesOf r30).toList)) && (decide ((((r27.1.length : Nat) : Int) : Int) > 0))) = true → ((((((r27.2.2.Has.length : Nat) : Int) : Int) == 0) && ((bytesOf r27.2.1).toList == (bytesOf r30).toList)) && (decide ((((r27.1.length : Nat) : Int) : Int) > 0))) = true) (.leaf 0))) (by kernel_rfl) ?_
        refine sk_and (fun h => h) ?_
        refine sk_and (fun h => h) ?_
        refine sk_leaf ?_
        obtain rfl := some_ h
        exact end_ok [] Try.results4 (ps := [(((((((r27.2.2.Has.length : Nat) : Int) : Int) == 0) && ((bytesOf r27.2.1).toList == (bytesOf r30).toList)) && (decide ((((r27.1.length : Nat) : Int) : Int) > 0))) && (((r27.1.getD (0 + (Int.toNat (IntKind.i64.wrap (((r27.1.length : Nat) : Int) - 1)))) 0) : Int) == 0)) = (((((((r27.2.2.Has.length : Nat) : Int) : Int) == 0) && ((bytesOf r27.2.1).toList == (bytesOf r30).toList)) && (decide ((((r27.1.length : Nat) : Int) : Int) > 0))) && (((r27.1.getD (0 + (Int.toNat (IntKind.i64.wrap (((r27.1.length : Nat) : Int) - 1)))) 0) : Int) == 0))]) (by kernel_rfl) ⟨rfl, trivial⟩ (fun _ => ⟨rfl, by simp⟩)
end Go.Proofs.Ytfnmmlcmjmepjaa

