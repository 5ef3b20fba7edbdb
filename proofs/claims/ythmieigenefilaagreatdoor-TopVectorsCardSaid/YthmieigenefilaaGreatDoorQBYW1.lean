import Derived.Test.YthmieigenefilaaGreatDoorQBYW0
set_option linter.unusedSimpArgs false
set_option linter.unusedVariables false
namespace Go.Proofs.YthmieigenefilaaGreatDoor
open Go Go.Ab
set_option maxHeartbeats 40000000
set_option maxRecDepth 100000
attribute [local irreducible] V VS runS Sk.Holds
def Y83 (x0 : Api_Pin) : Bool := ((decide ((x0.Core : Int) < 0)) || (decide ((x0.Core : Int) ≥ 8)))
def Y16 (x0 : Api_Pin) : Bool := ((Y83 x0) || (decide ((x0.Vec : Int) < 32)))
def Y14 (x0 : Api_Pin) : Bool := (((Y83 x0) || (decide ((x0.Vec : Int) < 32))) || (decide ((x0.Vec : Int) ≥ 256)))
def Y34 (x0 : Bool) (x1 : Api_Pin) : Bool := ((x0 || (x1.Level && x1.Kept)) || ((!x1.Level) && x1.Sent))
def Y30 (x0 : Bool) (x1 : Api_Pin) : Bool := (!(((x0 || (x1.Level && x1.Kept)) || ((!x1.Level) && x1.Sent)) || (x1.Kept && (!x1.Masked))))
theorem line_Right_1_ok (a0 : Api_Pin) (r : Bool) (h : line_Right_1 a0 = some r) {al : Bool} : PCalls Tryz.prog 48 [.agg [.pv (.raw (.int .i64 a0.Core)), .pv (.raw (.int .i64 a0.Vec)), .pv (.raw (.bool a0.Level)), .pv (.raw (.bool a0.Masked)), .pv (.raw (.bool a0.Up)), .pv (.raw (.bool a0.Kept)), .pv (.raw (.bool a0.Sent))]] al (.pv (.raw (.bool r))) [] := by
 unfold line_Right_1 at h
 refine fn_ok tabOk Tryz.func48 (by kernel_rfl) (by kernel_rfl) Tryz.ntmps48 (by simp) ?_
 refine sg (S := .and (((!(decide ((a0.Core : Int) < 0))) = true → ((!(decide ((a0.Core : Int) < 0))) = true))) (.and (((!(decide ((a0.Core : Int) < 0))) = true → ((!(decide ((a0.Core : Int) < 0))) = true))) (.and ((decide ((a0.Core : Int) < 0)) = false → (!(decide ((a0.Core : Int) < 0))) = true) (.and (((!(Y83 a0)) = true → ((!(Y83 a0)) = true))) (.and (((!(Y83 a0)) = true → ((!(Y83 a0)) = true))) (.and ((Y83 a0) = false → (!(Y83 a0)) = true) (.and (((!(Y16 a0)) = true → ((!(Y16 a0)) = true))) (.and (((!(Y16 a0)) = true → ((!(Y16 a0)) = true))) (.and ((Y16 a0) = false → (!(Y16 a0)) = true) (.and (((!(Y14 a0)) = true → ((!(Y14 a0)) = true))) (.and (((!(Y14 a0)) = true → ((!(Y14 a0)) = true))) (.and ((((!(Y14 a0)) && a0.Level) = true → (((!(Y14 a0)) && a0.Level) = true))) (.and (((!(Y14 a0)) = true → ((!(Y14 a0)) = true))) (.and (((!(Y14 a0)) = true → (a0.Level = true → ((!(Y14 a0)) && a0.Level) = true))) (.and ((Y14 a0) = false → (!(Y14 a0)) = true) (.and (((!((Y14 a0) || (a0.Level && a0.Kept))) = true → ((!((Y14 a0) || (a0.Level && a0.Kept))) = true))) (.and (((!((Y14 a0) || (a0.Level && a0.Kept))) = true → ((!((Y14 a0) || (a0.Level && a0.Kept))) = true))) (.and (((!((Y14 a0) || (a0.Level && a0.Kept))) = true → ((!((Y14 a0) || (a0.Level && a0.Kept))) = true))) (.and ((((!((Y14 a0) || (a0.Level && a0.Kept))) && (!a0.Level)) = true → (((!((Y14 a0) || (a0.Level && a0.Kept))) && (!a0.Level)) = true))) (.and (((!((Y14 a0) || (a0.Level && a0.Kept))) = true → ((!((Y14 a0) || (a0.Level && a0.Kept))) = true))) (.and (((!((Y14 a0) || (a0.Level && a0.Kept))) = true → ((!a0.Level) = true → ((!((Y14 a0) || (a0.Level && a0.Kept))) && (!a0.Level)) = true))) (.and (((Y14 a0) || (a0.Level && a0.Kept)) = false → (!((Y14 a0) || (a0.Level && a0.Kept))) = true) (.and (((!(Y34 (Y14 a0) a0)) = true → ((!(Y34 (Y14 a0) a0)) = true))) (.and (((!(Y34 (Y14 a0) a0)) = true → ((!(Y34 (Y14 a0) a0)) = true))) (.and ((((!(Y34 (Y14 a0) a0)) && a0.Kept) = true → (((!(Y34 (Y14 a0) a0)) && a0.Kept) = true))) (.and ((((!(Y34 (Y14 a0) a0)) && a0.Kept) = true → (((!(Y34 (Y14 a0) a0)) && a0.Kept) = true))) (.and (((!(Y34 (Y14 a0) a0)) = true → ((!(Y34 (Y14 a0) a0)) = true))) (.and (((!(Y34 (Y14 a0) a0)) = true → (a0.Kept = true → ((!(Y34 (Y14 a0) a0)) && a0.Kept) = true))) (.and ((Y34 (Y14 a0) a0) = false → (!(Y34 (Y14 a0) a0)) = true) (.and (((Y30 (Y14 a0) a0) = true → ((Y30 (Y14 a0) a0) = true))) (.and (((Y30 (Y14 a0) a0) = true → ((Y30 (Y14 a0) a0) = true))) (.and ((((Y30 (Y14 a0) a0) && a0.Level) = true → (((Y30 (Y14 a0) a0) && a0.Level) = true))) (.and (((Y30 (Y14 a0) a0) = true → ((Y30 (Y14 a0) a0) = true))) (.and (((Y30 (Y14 a0) a0) = true → (a0.Level = true → ((Y30 (Y14 a0) a0) && a0.Level) = true))) (.and (((Y30 (Y14 a0) a0) = true → ((Y30 (Y14 a0) a0) = true))) (.and ((((Y30 (Y14 a0) a0) && (a0.Level && a0.Up)) = true → (((Y30 (Y14 a0) a0) && (a0.Level && a0.Up)) = true))) (.and ((((Y30 (Y14 a0) a0) && (a0.Level && a0.Up)) = true → (((Y30 (Y14 a0) a0) && (a0.Level && a0.Up)) = true))) (.and (((Y30 (Y14 a0) a0) = true → ((Y30 (Y14 a0) a0) = true))) (.and (((Y30 (Y14 a0) a0) = true → ((a0.Level && a0.Up) = true → ((Y30 (Y14 a0) a0) && (a0.Level && a0.Up)) = true))) (.and (((Y30 (Y14 a0) a0) = true → ((Y30 (Y14 a0) a0) = true))) (.and ((((Y30 (Y14 a0) a0) && ((a0.Level && a0.Up) && (!a0.Masked))) = true → (((Y30 (Y14 a0) a0) && ((a0.Level && a0.Up) && (!a0.Masked))) = true))) (.and ((((Y30 (Y14 a0) a0) && ((a0.Level && a0.Up) && (!a0.Masked))) = true → (((Y30 (Y14 a0) a0) && ((a0.Level && a0.Up) && (!a0.Masked))) = true))) (.and (((Y30 (Y14 a0) a0) = true → ((Y30 (Y14 a0) a0) = true))) (.and (((Y30 (Y14 a0) a0) = true → (((a0.Level && a0.Up) && (!a0.Masked)) = true → ((Y30 (Y14 a0) a0) && ((a0.Level && a0.Up) && (!a0.Masked))) = true))) (.and (((Y34 (Y14 a0) a0) || (a0.Kept && (!a0.Masked))) = false → (Y30 (Y14 a0) a0) = true) (.leaf 0)))))))))))))))))))))))))))))))))))))))))))))) ?_
 refine sk_and (fun h => h) ?_
 refine sk_and (fun h => h) ?_
 refine sk_and ((by decide : ∀ y0 : Bool, ((y0 = false) → ((!y0) = true))) (decide ((a0.Core : Int) < 0))) ?_
 refine sk_and (fun h => h) ?_
 refine sk_and (fun h => h) ?_
 refine sk_and ((by decide : ∀ y0 : Bool, ((y0 = false) → ((!y0) = true))) (Y83 a0)) ?_
 refine sk_and (fun h => h) ?_
 refine sk_and (fun h => h) ?_
 refine sk_and ((by decide : ∀ y0 : Bool, ((y0 = false) → ((!y0) = true))) (Y16 a0)) ?_
 refine sk_and (fun h => h) ?_
 refine sk_and (fun h => h) ?_
 refine sk_and (fun h => h) ?_
 refine sk_and (fun h => h) ?_
 refine sk_and ((by decide : ∀ y0 y1 : Bool, ((y0 = true) → ((y1 = true) → ((y0 && y1) = true)))) (!(Y14 a0)) a0.Level) ?_
 refine sk_and ((by decide : ∀ y0 : Bool, ((y0 = false) → ((!y0) = true))) (Y14 a0)) ?_
 refine sk_and (fun h => h) ?_
 refine sk_and (fun h => h) ?_
 refine sk_and (fun h => h) ?_
 refine sk_and (fun h => h) ?_
 refine sk_and (fun h => h) ?_
 refine sk_and ((by decide : ∀ y0 y1 : Bool, ((y0 = true) → ((y1 = true) → ((y0 && y1) = true)))) (!((Y14 a0) || (a0.Level && a0.Kept))) (!a0.Level)) ?_
 refine sk_and ((by decide : ∀ y0 : Bool, ((y0 = false) → ((!y0) = true))) ((Y14 a0) || (a0.Level && a0.Kept))) ?_
 refine sk_and (fun h => h) ?_
 refine sk_and (fun h => h) ?_
 refine sk_and (fun h => h) ?_
 refine sk_and (fun h => h) ?_
 refine sk_and (fun h => h) ?_
 refine sk_and ((by decide : ∀ y0 y1 : Bool, ((y0 = true) → ((y1 = true) → ((y0 && y1) = true)))) (!(Y34 (Y14 a0) a0)) a0.Kept) ?_
 refine sk_and ((by decide : ∀ y0 : Bool, ((y0 = false) → ((!y0) = true))) (Y34 (Y14 a0) a0)) ?_
 refine sk_and (fun h => h) ?_
 refine sk_and (fun h => h) ?_
 refine sk_and (fun h => h) ?_
 refine sk_and (fun h => h) ?_
 refine sk_and ((by decide : ∀ y0 y1 : Bool, ((y0 = true) → ((y1 = true) → ((y0 && y1) = true)))) (Y30 (Y14 a0) a0) a0.Level) ?_
 refine sk_and (fun h => h) ?_
 refine sk_and (fun h => h) ?_
 refine sk_and (fun h => h) ?_
 refine sk_and (fun h => h) ?_
 refine sk_and ((by decide : ∀ y0 y1 : Bool, ((y0 = true) → ((y1 = true) → ((y0 && y1) = true)))) (Y30 (Y14 a0) a0) (a0.Level && a0.Up)) ?_
 refine sk_and (fun h => h) ?_
 refine sk_and (fun h => h) ?_
 refine sk_and (fun h => h) ?_
 refine sk_and (fun h => h) ?_
 refine sk_and ((by decide : ∀ y0 y1 : Bool, ((y0 = true) → ((y1 = true) → ((y0 && y1) = true)))) (Y30 (Y14 a0) a0) ((a0.Level && a0.Up) && (!a0.Masked))) ?_
 refine sk_and ((by decide : ∀ y0 : Bool, ((y0 = false) → ((!y0) = true))) ((Y34 (Y14 a0) a0) || (a0.Kept && (!a0.Masked)))) ?_
 refine sk_leaf ?_
 obtain rfl := some_ h
 exact end_ok [] Tryz.results48 (ps := [((((((((decide ((a0.Core : Int) < 0)) || (decide ((a0.Core : Int) ≥ 8))) || (decide ((a0.Vec : Int) < 32))) || (decide ((a0.Vec : Int) ≥ 256))) || (a0.Level && a0.Kept)) || ((!a0.Level) && a0.Sent)) || (a0.Kept && (!a0.Masked))) || (((a0.Level && a0.Up) && (!a0.Masked)) && (!a0.Sent))) = ((((((((decide ((a0.Core : Int) < 0)) || (decide ((a0.Core : Int) ≥ 8))) || (decide ((a0.Vec : Int) < 32))) || (decide ((a0.Vec : Int) ≥ 256))) || (a0.Level && a0.Kept)) || ((!a0.Level) && a0.Sent)) || (a0.Kept && (!a0.Masked))) || (((a0.Level && a0.Up) && (!a0.Masked)) && (!a0.Sent)))]) (by kernel_rfl) ⟨rfl, trivial⟩ (fun _ => ⟨rfl, by simp⟩)
def Y5 : Api_Pin := (⟨0, 0, false, false, false, false, false⟩ : Api_Pin)
theorem sIdp_ok (a0 : (List Api_Pin)) (r : Int) (h : sIdp a0 = some r) {al : Bool} : PCalls Tryz.prog 74 [.pv ((E52.ro a0)), .fn 48 []] al (.pv (.raw (.int .i64 r))) [] := by
 unfold sIdp at h
 refine fn_ok tabOk Tryz.func74 (by kernel_rfl) (by kernel_rfl) Tryz.ntmps74 (by simp) ?_
 refine s0 ?_
 refine len_ro (by kernel_rfl) 0 (s := 7) (n := a0.length) (c := fun i j => E52.cf (a0.getD i E52.z) j) (by kernel_rfl) ?_; intro hl1_0
 replace h : (fun (x : Nat × Nat) => sIdp_l1 a0 x.1 x.2 = some r) (FUEL, 0) := h
 refine loop_ok (by kernel_rfl) (X := Nat × Nat) (fun x => sIdp_l1 a0 x.1 x.2 = some r) (fun x => x.1) (fun x => mk 19 [(0, .pv ((E52.ro a0))), (1, .fn 48 []), (4, .pv (.raw (.int .i64 0))), (7, .pv (.raw (.int .i64 ((a0.length : Nat) : Int)))), (8, .pv (.raw (.int .i64 ((x.2 : Nat) : Int))))] []) (FUEL, 0) h ?_ ?_
 ·exact sub_ok (ρ := []) (l := [a0.length = a0.length, ∀ i, i < a0.length → ∀ j, j < 7 → E52.cf (a0.getD i E52.z) j = E52.cf (a0.getD i E52.z) j, (0 : Int) = 0, (((a0.length : Nat) : Int) : Int) = ((a0.length : Nat) : Int), (0 : Int) = ((0 : Nat) : Int)]) (by kernel_rfl) ⟨rfl, fun _ _ _ _ => rfl, rfl, rfl, (by first | rfl | simp), trivial⟩
 ·clear h; rintro ⟨n1, k1⟩ h p1 hp1
  obtain _ | n1 := n1
  ·cases (show (none : Option (Int)) = some r from h)
  have h : sIdp_l1 a0 (n1 + 1) k1 = some r := h
  unfold sIdp_l1 at h
  refine sg (S := .br (decide ((((k1 : Nat) : Int) : Int) < ((a0.length : Nat) : Int))) (.and (0 ≤ (((k1 : Nat) : Int) : Int) ∧ ((k1 : Nat) : Int) < ((a0.length : Nat) : Int)) (.leaf 0)) (.leaf 1)) ?_
  refine br_ h ?_ ?_ <;> clear h <;> intro c2 h
  ·refine sk_and ⟨Int.natCast_nonneg _, of_decide_eq_true c2⟩ ?_
   refine sk_leaf ?_
   obtain ⟨r4, e5, h⟩ := bd_ h
   refine call_ok (d := some 16) (fn := 48) (ax := [.agg [.pv (.raw (.int .i64 ((a0.getD k1 Y5).Core))), .pv (.raw (.int .i64 ((a0.getD k1 Y5).Vec))), .pv (.raw (.bool ((a0.getD k1 Y5).Level))), .pv (.raw (.bool ((a0.getD k1 Y5).Masked))), .pv (.raw (.bool ((a0.getD k1 Y5).Up))), .pv (.raw (.bool ((a0.getD k1 Y5).Kept))), .pv (.raw (.bool ((a0.getD k1 Y5).Sent)))]]) (ps := [((a0.getD k1 Y5).Core : Int) = ((a0.getD k1 Y5).Core), ((a0.getD k1 Y5).Vec : Int) = ((a0.getD k1 Y5).Vec), ((a0.getD k1 Y5).Level) = ((a0.getD k1 Y5).Level), ((a0.getD k1 Y5).Masked) = ((a0.getD k1 Y5).Masked), ((a0.getD k1 Y5).Up) = ((a0.getD k1 Y5).Up), ((a0.getD k1 Y5).Kept) = ((a0.getD k1 Y5).Kept), ((a0.getD k1 Y5).Sent) = ((a0.getD k1 Y5).Sent)]) (hb' := []) (by kernel_rfl) (line_Right_1_ok _ _ e5 (al := true)) (by kernel_rfl) ⟨rfl, rfl, rfl, rfl, rfl, rfl, rfl, trivial⟩ (fun _ => (by kernel_rfl)) (by simp) rfl (by kernel_rfl) ?_
   refine sg (S := .br r4 (.leaf 0) (.leaf 1)) ?_
   refine br_ h ?_ ?_ <;> clear h <;> intro c6 h
   ·refine sk_leaf ?_
    obtain rfl := some_ h
    exact end_ok [] Tryz.results74 (ps := [(((k1 : Nat) : Int) : Int) = ((k1 : Nat) : Int)]) (by kernel_rfl) ⟨rfl, trivial⟩ (fun _ => ⟨rfl, by simp⟩)
   ·refine sk_leaf ?_
    refine back_ok (p := p1) (by kernel_rfl) (hp1 (n1, k1 + 1) _ h (Nat.lt_succ_self n1) ?_)
    exact sub_ok (ρ := []) (l := [a0.length = a0.length, ∀ i, i < a0.length → ∀ j, j < 7 → E52.cf (a0.getD i E52.z) j = E52.cf (a0.getD i E52.z) j, (0 : Int) = 0, (((a0.length : Nat) : Int) : Int) = ((a0.length : Nat) : Int), ((IntKind.i64.wrap (((k1 : Nat) : Int) + 1)) : Int) = (((k1 + 1) : Nat) : Int)]) (by kernel_rfl) ⟨rfl, fun _ _ _ _ => rfl, rfl, rfl, (wrap_nat (Int.ofNat_lt.1 (of_decide_eq_true c2)) (by omega)), trivial⟩
  ·refine sk_leaf ?_
   obtain rfl := some_ h
   exact end_ok [] Tryz.results74 (ps := [((-1) : Int) = (-1)]) (by kernel_rfl) ⟨rfl, trivial⟩ (fun _ => ⟨rfl, by simp⟩)
def Y87 (x0 : (List Api_Pin)) : List Prop := [x0.length = x0.length, ∀ i, i < x0.length → ∀ j, j < 7 → E52.cf (x0.getD i E52.z) j = E52.cf (x0.getD i E52.z) j]
theorem Y87p {x0 : (List Api_Pin)} : allP (Y87 x0) := ⟨rfl, fun _ _ _ _ => rfl, trivial⟩
theorem sCon_ok (a0 : (List Api_Pin)) (r : Bool) (h : sCon a0 = some r) {al : Bool} : PCalls Tryz.prog 47 [.pv ((E52.ro a0)), .fn 48 []] al (.pv (.raw (.bool r))) [] := by
 unfold sCon at h
 refine fn_ok tabOk Tryz.func47 (by kernel_rfl) (by kernel_rfl) Tryz.ntmps47 (by simp) ?_
 refine s0 ?_
 obtain ⟨r1, e2, h⟩ := bd_ h
 refine call_ok (d := some 7) (fn := 74) (ax := [.pv ((E52.ro a0)), .fn 48 []]) (ps := (Y87 a0)) (hb' := []) (by kernel_rfl) (sIdp_ok _ _ e2 (al := false)) (by kernel_rfl) Y87p (fun hx => by cases hx) (by simp) rfl (by kernel_rfl) ?_
 refine s0 ?_
 obtain rfl := some_ h
 exact end_ok [] Tryz.results47 (ps := [(decide ((r1 : Int) ≥ 0)) = (decide ((r1 : Int) ≥ 0))]) (by kernel_rfl) ⟨rfl, trivial⟩ (fun _ => ⟨rfl, by simp⟩)
theorem line_Right_ok (a0 : (List Api_Pin)) (r : Bool) (h : line_Right a0 = some r) {al : Bool} : PCalls Tryz.prog 25 [.pv ((E52.ro a0))] al (.pv (.raw (.bool r))) [] := by
 unfold line_Right at h
 refine fn_ok tabOk Tryz.func25 (by kernel_rfl) (by kernel_rfl) Tryz.ntmps25 (by simp) ?_
 refine s0 ?_
 obtain ⟨r1, e2, h⟩ := bd_ h
 refine callG_ok (d := some 8) (fn := 47) (ax := [.pv ((E52.ro a0)), .fn 48 []]) (args := [.pv ((E52.ro a0)), .fn 48 []]) (g := (decide ((((a0.length : Nat) : Int) : Int) ≤ 24))) (ws := [(decide ((((a0.length : Nat) : Int) : Int) ≤ 24)) = true]) (ps := (Y87 a0)) (by kernel_rfl) (fun hg => ⟨((by decide : ∀ y0 : Bool, ((y0 = true) → (y0 = true))) (decide ((((a0.length : Nat) : Int) : Int) ≤ 24))) hg, trivial⟩) (fun hg => sCon_ok _ _ (by rw [hg] at e2; exact e2) (al := false)) (by kernel_rfl) (fun hg => ⟨rfl, fun _ _ _ _ => rfl, trivial⟩) (fun hx => by cases hx) ?_
 refine sg (S := .and (((decide ((((a0.length : Nat) : Int) : Int) ≤ 24)) = true → ((decide ((((a0.length : Nat) : Int) : Int) ≤ 24)) = true))) (.and ((decide ((((a0.length : Nat) : Int) : Int) ≤ 24)) = true → (decide ((((a0.length : Nat) : Int) : Int) ≤ 24)) = true) (.leaf 0))) ?_
 refine sk_and (fun h => h) ?_
 refine sk_and (fun h => h) ?_
 refine sk_leaf ?_
 obtain rfl := some_ h
 exact end_ok [] Tryz.results25 (ps := [((decide ((((a0.length : Nat) : Int) : Int) ≤ 24)) && (!r1)) = ((decide ((((a0.length : Nat) : Int) : Int) ≤ 24)) && (!r1))]) (by kernel_rfl) ⟨rfl, trivial⟩ (fun _ => ⟨rfl, by simp⟩)
set_option maxRecDepth 100000 in
theorem slices_Clone_api_Pin_ok (a0 r : List Api_Pin) (h : slices_Clone_api_Pin a0 = some r) {al : Bool} : PCalls Tryz.prog 27 [.pv (E52.ro a0)] al (.row 0 7 0 r.length) [.row 52 7 (E52.cR r)] := by
 unfold slices_Clone_api_Pin at h
 obtain ⟨g, h⟩ := if_ h
 obtain rfl := some_ h
 refine fn_ok tabOk Tryz.func27 (by kernel_rfl) (by kernel_rfl) Tryz.ntmps27 (by simp) ?_
 refine segs [1] tabOk mixed 4000 (S := .leaf 0) (by kernel_rfl) ?_
 refine sk_leaf ?_
 refine nil_ok (d1 := 3) (d2 := 4) (s := 7) (n := a0.length) (c := fun i j => E52.cf (a0.getD i E52.z) j) tabOk (by kernel_rfl) ?_
 intro b hb
 refine sg (S := .br b (.leaf 0) (.leaf 1)) ?_
 refine sk_br ?_ ?_ <;> intro hc <;> refine sk_leaf ?_
 ·obtain rfl : a0 = [] := List.eq_nil_of_length_eq_zero (hb hc)
  exact end_ok [(0, none)] Tryz.results27 (ps := [0 = 0, 0 = 0, E52.cR [] = []]) (by kernel_rfl) ⟨rfl, rfl, rfl, trivial⟩ (fun _ => ⟨rfl, by simp only [List.mem_cons, List.not_mem_nil, or_false, forall_eq]; exact Elem.cR_bald E52_raw _⟩)
 ·refine bs_ok (d := 5) (e := 52) (s := 7) (n := 0) (cs := []) (cs' := E52.cR []) (by kernel_rfl) rfl (by kernel_rfl) ?_
  refine s0 ?_
  refine app_ok (d := 7) (e := 52) (s := 7) (b := 24) (x := .row 16704 7 0 0) (y := .pv (E52.ro a0)) E52 (xs := []) (ys := a0) (by kernel_rfl) rfl (.row 16704 [] 0 rfl (by kernel_rfl)) (.ro a0) ⟨by simp; omega, by simp; omega⟩ (by kernel_rfl) ?_
  refine s0 ?_
  exact end_ok [(0, some 16832)] Tryz.results27 (ps := [0 = 0, a0.length = a0.length, E52.cR a0 = E52.cR a0, AllPv (E52.cR a0)]) (by kernel_rfl) ⟨rfl, rfl, rfl, Elem.cR_pv _ _, trivial⟩ (fun _ => ⟨rfl, by simp only [List.mem_cons, List.not_mem_nil, or_false, forall_eq]; exact Elem.cR_bald E52_raw _⟩)
def Y104 (x0 : Api_Pin) : Api_Pin := (⟨x0.Core, x0.Vec, x0.Level, x0.Masked, x0.Up, x0.Kept, true⟩ : Api_Pin)
def Y105 (x0 : Api_Pin) : Api_Pin := (⟨x0.Core, x0.Vec, x0.Level, x0.Masked, x0.Up, true, x0.Sent⟩ : Api_Pin)
def Y70 (x0 : Api_Pin) : Api_Pin := (⟨x0.Core, x0.Vec, x0.Level, x0.Masked, x0.Up, false, x0.Sent⟩ : Api_Pin)
theorem line_fire_ok (l_a0 : List Api_Pin) (i_a0 : Nat) (hi_a0 : i_a0 < l_a0.length) (a0 : Api_Pin) (hx_a0 : l_a0.getD i_a0 Y5 = a0) (a1 : Bool) (r : Bool × Api_Pin) (h : line_fire a0 a1 = some r) {al : Bool} : MCalls Tryz.prog 49 [.ptr 0 (i_a0 * 7), .pv (.raw (.bool a1))] [.row 52 7 (E52.cR l_a0)] 1 al (.pv (.raw (.bool r.1))) [.row 52 7 (E52.cR (l_a0.set i_a0 r.2))] := by
 unfold line_fire at h
 refine fnM_ok tabOk (fz := []) Tryz.func49 (by kernel_rfl) (by kernel_rfl) Tryz.ntmps49 (by simp) (by first | (simp; done) | exact Nat.le_of_ble_eq_true rfl) ?_
 refine s0 ?_
 refine ldx_ok (d := 9) (id := 0) (i := i_a0) (j := 2) (e := 52) (n := 1) (off := i_a0 * 7 + 2) E52 (xs := l_a0) (.raw (.bool a0.Level)) (by kernel_rfl) (by show i_a0 * 7 + 2 = i_a0 * 7 + 2; omega) (by kernel_rfl) (by first | omega | (simp <;> omega)) (by exact Nat.le_of_ble_eq_true rfl) (show E52.cf _ 2 = E52.cf a0 2 from congrArg (fun x => E52.cf x 2) hx_a0) ?_
 refine sg (S := .br a0.Level (.leaf 0) (.and ((a1 = true → (a1 = true))) (.and ((a1 = true → (a1 = true))) (.leaf 1)))) ?_
 refine br_ h ?_ ?_ <;> clear h <;> intro c1 h
 ·refine sk_leaf ?_
  refine ldx_ok (d := 13) (id := 0) (i := i_a0) (j := 4) (e := 52) (n := 1) (off := i_a0 * 7 + 4) E52 (xs := l_a0) (.raw (.bool a0.Up)) (by kernel_rfl) (by show i_a0 * 7 + 4 = i_a0 * 7 + 4; omega) (by kernel_rfl) (by first | omega | (simp <;> omega)) (by exact Nat.le_of_ble_eq_true rfl) (show E52.cf _ 4 = E52.cf a0 4 from congrArg (fun x => E52.cf x 4) hx_a0) ?_
  refine sg (S := .and ((a0.Up = true → (a0.Up = true))) (.and ((a0.Up = true → (a0.Up = true))) (.leaf 0))) ?_
  refine sk_and (fun h => h) ?_
  refine sk_and (fun h => h) ?_
  refine sk_leaf ?_
  refine ldxG_ok (d := 18) (id := 0) (i := i_a0) (j := 3) (e := 52) (n := 1) (g := a0.Up) (ws := [a0.Up = true]) E52 (xs := l_a0) (.raw (.bool a0.Masked)) (off := i_a0 * 7 + 3) (by kernel_rfl) (by show i_a0 * 7 + 3 = i_a0 * 7 + 3; omega) (fun hg => ⟨((by decide : ∀ y0 : Bool, ((y0 = true) → (y0 = true))) a0.Up) hg, trivial⟩) (by kernel_rfl) (fun hg => ⟨(by first | omega | (simp <;> omega)), (by exact Nat.le_of_ble_eq_true rfl), (show E52.cf _ 3 = E52.cf a0 3 from congrArg (fun x => E52.cf x 3) hx_a0)⟩) ?_
  refine sg (S := .and ((a0.Up = true → (a0.Up = true))) (.and (a0.Up = true → a0.Up = true) (.and (((a0.Up && (!a0.Masked)) = true → ((a0.Up && (!a0.Masked)) = true))) (.and (((a0.Up && (!a0.Masked)) = true → ((a0.Up && (!a0.Masked)) = true))) (.leaf 0))))) ?_
  refine sk_and (fun h => h) ?_
  refine sk_and (fun h => h) ?_
  refine sk_and (fun h => h) ?_
  refine sk_and (fun h => h) ?_
  refine sk_leaf ?_
  refine ldxG_ok (d := 25) (id := 0) (i := i_a0) (j := 6) (e := 52) (n := 1) (g := (a0.Up && (!a0.Masked))) (ws := [(a0.Up && (!a0.Masked)) = true]) E52 (xs := l_a0) (.raw (.bool a0.Sent)) (off := i_a0 * 7 + 6) (by kernel_rfl) (by show i_a0 * 7 + 6 = i_a0 * 7 + 6; omega) (fun hg => ⟨((by decide : ∀ y0 : Bool, ((y0 = true) → (y0 = true))) (a0.Up && (!a0.Masked))) hg, trivial⟩) (by kernel_rfl) (fun hg => ⟨(by first | omega | (simp <;> omega)), (by exact Nat.le_of_ble_eq_true rfl), (show E52.cf _ 6 = E52.cf a0 6 from congrArg (fun x => E52.cf x 6) hx_a0)⟩) ?_
  refine sg (S := .and (((a0.Up && (!a0.Masked)) = true → ((a0.Up && (!a0.Masked)) = true))) (.and ((a0.Up && (!a0.Masked)) = true → (a0.Up && (!a0.Masked)) = true) (.br ((a0.Up && (!a0.Masked)) && (!a0.Sent)) (.leaf 0) (.leaf 1)))) ?_
  refine sk_and (fun h => h) ?_
  refine sk_and (fun h => h) ?_
  refine br_ h ?_ ?_ <;> clear h <;> intro c10 h
  ·refine sk_leaf ?_
   refine stl_ok (id := 0) (i := i_a0) (j := 6) (e := 52) (off := i_a0 * 7 + 6) (vs := [.pv (.raw (.bool true))]) E52 (xs := l_a0) (Y104 a0) (l_a0.set i_a0 (Y104 a0)) (by first | rfl | simp only [List.set_set]) (by kernel_rfl) (by show i_a0 * 7 + 6 = i_a0 * 7 + 6; omega) (by kernel_rfl) (by first | omega | (simp <;> omega)) (by exact Nat.le_of_ble_eq_true rfl) ((show E52.cs (Y104 a0) = setCells (E52.cs a0) 6 [.pv (.raw (.bool true))] from rfl).trans (congrArg (fun x => setCells (E52.cs x) 6 [.pv (.raw (.bool true))]) hx_a0).symm) ?_
   refine s0 ?_
   obtain rfl := some_ h
   exact endM_ok [(0, some 0)] Tryz.results49 (ps := [true = true, E52.cR (l_a0.set i_a0 (Y104 a0)) = E52.cR (l_a0.set i_a0 (Y104 a0)), AllPv (E52.cR (l_a0.set i_a0 (Y104 a0)))]) (by kernel_rfl) ⟨rfl, rfl, (Elem.cR_pv _ _), trivial⟩ (fun _ => ⟨rfl, by simp only [List.mem_cons, List.not_mem_nil, or_false, forall_eq_or_imp, forall_eq]; exact Elem.cR_bald E52_raw _⟩)
  ·refine sk_leaf ?_
   obtain rfl := some_ h
   exact endM_ok [(0, some 0)] Tryz.results49 (ps := [false = false, E52.cR l_a0 = E52.cR (l_a0.set i_a0 a0), AllPv (E52.cR (l_a0.set i_a0 a0))]) (by kernel_rfl) ⟨rfl, (congrArg E52.cR (focus_same hi_a0 hx_a0).symm), (Elem.cR_pv _ _), trivial⟩ (fun _ => ⟨rfl, by simp only [List.mem_cons, List.not_mem_nil, or_false, forall_eq_or_imp, forall_eq]; exact Elem.cR_bald E52_raw _⟩)
 ·refine sk_and (fun h => h) ?_
  refine sk_and (fun h => h) ?_
  refine sk_leaf ?_
  refine ldxG_ok (d := 37) (id := 0) (i := i_a0) (j := 3) (e := 52) (n := 1) (g := a1) (ws := [a1 = true]) E52 (xs := l_a0) (.raw (.bool a0.Masked)) (off := i_a0 * 7 + 3) (by kernel_rfl) (by show i_a0 * 7 + 3 = i_a0 * 7 + 3; omega) (fun hg => ⟨((by decide : ∀ y0 : Bool, ((y0 = true) → (y0 = true))) a1) hg, trivial⟩) (by kernel_rfl) (fun hg => ⟨(by first | omega | (simp <;> omega)), (by exact Nat.le_of_ble_eq_true rfl), (show E52.cf _ 3 = E52.cf a0 3 from congrArg (fun x => E52.cf x 3) hx_a0)⟩) ?_
  refine sg (S := .and (a1 = true → a1 = true) (.br (a1 && a0.Masked) (.leaf 0) (.br a1 (.br a1 (.leaf 1) (.leaf 2)) (.leaf 3)))) ?_
  refine sk_and (fun h => h) ?_
  refine br_ h ?_ ?_ <;> clear h <;> intro c14 h
  ·refine sk_leaf ?_
   refine stl_ok (id := 0) (i := i_a0) (j := 5) (e := 52) (off := i_a0 * 7 + 5) (vs := [.pv (.raw (.bool true))]) E52 (xs := l_a0) (Y105 a0) (l_a0.set i_a0 (Y105 a0)) (by first | rfl | simp only [List.set_set]) (by kernel_rfl) (by show i_a0 * 7 + 5 = i_a0 * 7 + 5; omega) (by kernel_rfl) (by first | omega | (simp <;> omega)) (by exact Nat.le_of_ble_eq_true rfl) ((show E52.cs (Y105 a0) = setCells (E52.cs a0) 5 [.pv (.raw (.bool true))] from rfl).trans (congrArg (fun x => setCells (E52.cs x) 5 [.pv (.raw (.bool true))]) hx_a0).symm) ?_
   refine s0 ?_
   obtain rfl := some_ h
   exact endM_ok [(0, some 0)] Tryz.results49 (ps := [false = false, E52.cR (l_a0.set i_a0 (Y105 a0)) = E52.cR (l_a0.set i_a0 (Y105 a0)), AllPv (E52.cR (l_a0.set i_a0 (Y105 a0)))]) (by kernel_rfl) ⟨rfl, rfl, (Elem.cR_pv _ _), trivial⟩ (fun _ => ⟨rfl, by simp only [List.mem_cons, List.not_mem_nil, or_false, forall_eq_or_imp, forall_eq]; exact Elem.cR_bald E52_raw _⟩)
  ·refine br_ h ?_ ?_ <;> clear h <;> intro c15 h
   ·refine br_ h ?_ ?_ <;> clear h <;> intro c16 h
    ·refine sk_leaf ?_
     refine stl_ok (id := 0) (i := i_a0) (j := 5) (e := 52) (off := i_a0 * 7 + 5) (vs := [.pv (.raw (.bool false))]) E52 (xs := l_a0) (Y70 a0) (l_a0.set i_a0 (Y70 a0)) (by first | rfl | simp only [List.set_set]) (by kernel_rfl) (by show i_a0 * 7 + 5 = i_a0 * 7 + 5; omega) (by kernel_rfl) (by first | omega | (simp <;> omega)) (by exact Nat.le_of_ble_eq_true rfl) ((show E52.cs (Y70 a0) = setCells (E52.cs a0) 5 [.pv (.raw (.bool false))] from rfl).trans (congrArg (fun x => setCells (E52.cs x) 5 [.pv (.raw (.bool false))]) hx_a0).symm) ?_
     refine s0 ?_
     obtain rfl := some_ h
     exact endM_ok [(0, some 0)] Tryz.results49 (ps := [true = true, E52.cR (l_a0.set i_a0 (Y70 a0)) = E52.cR (l_a0.set i_a0 (Y70 a0)), AllPv (E52.cR (l_a0.set i_a0 (Y70 a0)))]) (by kernel_rfl) ⟨rfl, rfl, (Elem.cR_pv _ _), trivial⟩ (fun _ => ⟨rfl, by simp only [List.mem_cons, List.not_mem_nil, or_false, forall_eq_or_imp, forall_eq]; exact Elem.cR_bald E52_raw _⟩)
    ·refine sk_leaf ?_
     obtain rfl := some_ h
     exact endM_ok [(0, some 0)] Tryz.results49 (ps := [false = false, E52.cR l_a0 = E52.cR (l_a0.set i_a0 a0), AllPv (E52.cR (l_a0.set i_a0 a0))]) (by kernel_rfl) ⟨rfl, (congrArg E52.cR (focus_same hi_a0 hx_a0).symm), (Elem.cR_pv _ _), trivial⟩ (fun _ => ⟨rfl, by simp only [List.mem_cons, List.not_mem_nil, or_false, forall_eq_or_imp, forall_eq]; exact Elem.cR_bald E52_raw _⟩)
   ·refine sk_leaf ?_
    refine ldx_ok (d := 47) (id := 0) (i := i_a0) (j := 5) (e := 52) (n := 1) (off := i_a0 * 7 + 5) E52 (xs := l_a0) (.raw (.bool a0.Kept)) (by kernel_rfl) (by show i_a0 * 7 + 5 = i_a0 * 7 + 5; omega) (by kernel_rfl) (by first | omega | (simp <;> omega)) (by exact Nat.le_of_ble_eq_true rfl) (show E52.cf _ 5 = E52.cf a0 5 from congrArg (fun x => E52.cf x 5) hx_a0) ?_
    refine sg (S := .and ((a0.Kept = true → (a0.Kept = true))) (.and ((a0.Kept = true → (a0.Kept = true))) (.leaf 0))) ?_
    refine sk_and (fun h => h) ?_
    refine sk_and (fun h => h) ?_
    refine sk_leaf ?_
    refine ldxG_ok (d := 52) (id := 0) (i := i_a0) (j := 3) (e := 52) (n := 1) (g := a0.Kept) (ws := [a0.Kept = true]) E52 (xs := l_a0) (.raw (.bool a0.Masked)) (off := i_a0 * 7 + 3) (by kernel_rfl) (by show i_a0 * 7 + 3 = i_a0 * 7 + 3; omega) (fun hg => ⟨((by decide : ∀ y0 : Bool, ((y0 = true) → (y0 = true))) a0.Kept) hg, trivial⟩) (by kernel_rfl) (fun hg => ⟨(by first | omega | (simp <;> omega)), (by exact Nat.le_of_ble_eq_true rfl), (show E52.cf _ 3 = E52.cf a0 3 from congrArg (fun x => E52.cf x 3) hx_a0)⟩) ?_
    refine sg (S := .and ((a0.Kept = true → (a0.Kept = true))) (.and (a0.Kept = true → a0.Kept = true) (.br (a0.Kept && (!a0.Masked)) (.leaf 0) (.leaf 1)))) ?_
    refine sk_and (fun h => h) ?_
    refine sk_and (fun h => h) ?_
    refine br_ h ?_ ?_ <;> clear h <;> intro c21 h
    ·refine sk_leaf ?_
     refine stl_ok (id := 0) (i := i_a0) (j := 5) (e := 52) (off := i_a0 * 7 + 5) (vs := [.pv (.raw (.bool false))]) E52 (xs := l_a0) (Y70 a0) (l_a0.set i_a0 (Y70 a0)) (by first | rfl | simp only [List.set_set]) (by kernel_rfl) (by show i_a0 * 7 + 5 = i_a0 * 7 + 5; omega) (by kernel_rfl) (by first | omega | (simp <;> omega)) (by exact Nat.le_of_ble_eq_true rfl) ((show E52.cs (Y70 a0) = setCells (E52.cs a0) 5 [.pv (.raw (.bool false))] from rfl).trans (congrArg (fun x => setCells (E52.cs x) 5 [.pv (.raw (.bool false))]) hx_a0).symm) ?_
     refine s0 ?_
     obtain rfl := some_ h
     exact endM_ok [(0, some 0)] Tryz.results49 (ps := [true = true, E52.cR (l_a0.set i_a0 (Y70 a0)) = E52.cR (l_a0.set i_a0 (Y70 a0)), AllPv (E52.cR (l_a0.set i_a0 (Y70 a0)))]) (by kernel_rfl) ⟨rfl, rfl, (Elem.cR_pv _ _), trivial⟩ (fun _ => ⟨rfl, by simp only [List.mem_cons, List.not_mem_nil, or_false, forall_eq_or_imp, forall_eq]; exact Elem.cR_bald E52_raw _⟩)
    ·refine sk_leaf ?_
     obtain rfl := some_ h
     exact endM_ok [(0, some 0)] Tryz.results49 (ps := [false = false, E52.cR l_a0 = E52.cR (l_a0.set i_a0 a0), AllPv (E52.cR (l_a0.set i_a0 a0))]) (by kernel_rfl) ⟨rfl, (congrArg E52.cR (focus_same hi_a0 hx_a0).symm), (Elem.cR_pv _ _), trivial⟩ (fun _ => ⟨rfl, by simp only [List.mem_cons, List.not_mem_nil, or_false, forall_eq_or_imp, forall_eq]; exact Elem.cR_bald E52_raw _⟩)
end Go.Proofs.YthmieigenefilaaGreatDoor
