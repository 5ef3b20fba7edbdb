import Derived.Test.YthmieigenefilaaGreatDoorQBYW11
set_option linter.unusedSimpArgs false
set_option linter.unusedVariables false
namespace Go.Proofs.YthmieigenefilaaGreatDoor
open Go Go.Ab
set_option maxHeartbeats 40000000
set_option maxRecDepth 100000
attribute [local irreducible] V VS runS Sk.Holds
def Y45 (x0 x1 : Int) : Bool := (((bitsOf .and .i64 (Int.fdiv x0 (2 ^ (min (Int.toNat x1) IntKind.i64.bits))) 1) : Int) == 1)
def Y81 (x0 : Vector_table) (x1 : Int) : List Prop := [(x0.cores_ : Int) = x0.cores_, x0.of_.length = x0.of_.length, ∀ i, i < x0.of_.length → ∀ j, j < 2 → E50.cf (x0.of_.getD i E50.z) j = E50.cf (x0.of_.getD i E50.z) j, x0.taken_.length = x0.taken_.length, ∀ i, i < x0.taken_.length → ∀ j, j < 4 → E63.cf (x0.taken_.getD i E63.z) j = E63.cf (x0.taken_.getD i E63.z) j, (x1 : Int) = x1]
def Y91 (x0 : Bool) (x1 x2 x3 : Int) : Bool := ((x0 && ((x1 : Int) != x2)) && (decide ((x3 : Int) < 224)))
def Y110 (x0 x1 x2 x3 x4 : Int) : List Prop := [((((((bitsOf .and .i64 (Int.fdiv x0 (2 ^ (min (Int.toNat x1) IntKind.i64.bits))) 1) : Int) == 1) && ((x1 : Int) != x2)) && (decide ((x3 : Int) < 224))) && !(decide ((x4 : Int) < 0))) = true, ((((((bitsOf .and .i64 (Int.fdiv x0 (2 ^ (min (Int.toNat x1) IntKind.i64.bits))) 1) : Int) == 1) && ((x1 : Int) != x2)) && (decide ((x3 : Int) < 224))) && !(decide ((x4 : Int) < 0))) = true]
theorem vector_table_best_ok (a0 : Vector_table) (a1 : Int) (a2 : Int) (r : Int) (h : vector_table_best a0 a1 a2 = some r) {al : Bool} : PCalls Tryz.prog 44 [.roat 3 (fun j => E96.cf a0 j), .pv (.raw (.int .i64 a1)), .pv (.raw (.int .i64 a2))] al (.pv (.raw (.int .i64 r))) [] := by
 unfold vector_table_best at h
 refine fn_ok tabOk Tryz.func44 (by kernel_rfl) (by kernel_rfl) Tryz.ntmps44 (by simp) ?_
 refine s0 ?_
 replace h : (fun (x : Nat × Int × Int) => vector_table_best_l1 a0 a1 a2 x.1 x.2.1 x.2.2 = some r) (FUEL, (-1), 0) := h
 refine loop_ok (by kernel_rfl) (X := Nat × Int × Int) (fun x => vector_table_best_l1 a0 a1 a2 x.1 x.2.1 x.2.2 = some r) (fun x => x.1) (fun x => mk 48 [(0, .roat 3 (fun j => E96.cf a0 j)), (1, .pv (.raw (.int .i64 a1))), (2, .pv (.raw (.int .i64 a2))), (6, .pv (.raw (.int .i64 0))), (7, .pv (.raw (.int .i64 x.2.1))), (12, .pv (.raw (.int .i64 a0.cores_))), (13, .pv (.raw (.int .i64 x.2.2)))] []) (FUEL, (-1), 0) h ?_ ?_
 ·exact sub_ok (ρ := []) (l := [(a0.cores_ : Int) = a0.cores_, a0.of_.length = a0.of_.length, ∀ i, i < a0.of_.length → ∀ j, j < 2 → E50.cf (a0.of_.getD i E50.z) j = E50.cf (a0.of_.getD i E50.z) j, a0.taken_.length = a0.taken_.length, ∀ i, i < a0.taken_.length → ∀ j, j < 4 → E63.cf (a0.taken_.getD i E63.z) j = E63.cf (a0.taken_.getD i E63.z) j, (a1 : Int) = a1, (a2 : Int) = a2, (0 : Int) = 0, ((-1) : Int) = (-1), (a0.cores_ : Int) = a0.cores_, (0 : Int) = 0]) (by kernel_rfl) ⟨rfl, rfl, fun _ _ _ _ => rfl, rfl, fun _ _ _ _ => rfl, rfl, rfl, rfl, rfl, rfl, rfl, trivial⟩
 ·clear h; rintro ⟨n1, x1, x2⟩ h p1 hp1
  obtain _ | n1 := n1
  ·cases (show (none : Option (Int)) = some r from h)
  have h : vector_table_best_l1 a0 a1 a2 (n1 + 1) x1 x2 = some r := h
  unfold vector_table_best_l1 at h
  refine sg (S := .br (decide ((x2 : Int) < a0.cores_)) (.and (0 ≤ (x2 : Int)) (.and (((Y45 a1 x2) = true → ((Y45 a1 x2) = true))) (.and (((Y45 a1 x2) = true → ((Y45 a1 x2) = true))) (.and ((Y45 a1 x2) = true → (Y45 a1 x2) = true) (.leaf 0))))) (.leaf 1)) ?_
  refine br_ h ?_ ?_ <;> clear h <;> intro c3 h
  ·refine gd_ h ?_; clear h; intro g4 h
   refine sk_and (fun h => h) ?_
   refine sk_and (fun h => h) ?_
   refine sk_and (fun h => h) ?_
   refine sk_leaf ?_
   obtain ⟨r8, e9, h⟩ := bd_ h
   refine callG_ok (d := some 29) (fn := 71) (ax := [.roat 3 (fun j => E96.cf a0 j), .pv (.raw (.int .i64 x2))]) (args := [.roat 3 (fun j => E96.cf a0 j), .pv (.raw (.int .i64 x2))]) (g := ((((bitsOf .and .i64 (Int.fdiv a1 (2 ^ (min (Int.toNat x2) IntKind.i64.bits))) 1) : Int) == 1) && ((x2 : Int) != a2))) (ws := [((((bitsOf .and .i64 (Int.fdiv a1 (2 ^ (min (Int.toNat x2) IntKind.i64.bits))) 1) : Int) == 1) && ((x2 : Int) != a2)) = true, ((((bitsOf .and .i64 (Int.fdiv a1 (2 ^ (min (Int.toNat x2) IntKind.i64.bits))) 1) : Int) == 1) && ((x2 : Int) != a2)) = true]) (ps := (Y81 a0 x2)) (by kernel_rfl) (fun hg => ⟨((by decide : ∀ y0 : Bool, ((y0 = true) → (y0 = true))) ((((bitsOf .and .i64 (Int.fdiv a1 (2 ^ (min (Int.toNat x2) IntKind.i64.bits))) 1) : Int) == 1) && ((x2 : Int) != a2))) hg, ((by decide : ∀ y0 : Bool, ((y0 = true) → (y0 = true))) ((((bitsOf .and .i64 (Int.fdiv a1 (2 ^ (min (Int.toNat x2) IntKind.i64.bits))) 1) : Int) == 1) && ((x2 : Int) != a2))) hg, trivial⟩) (fun hg => vector_table_load_ok _ _ _ (by rw [hg] at e9; exact e9) (al := false)) (by kernel_rfl) (fun hg => ⟨rfl, rfl, fun _ _ _ _ => rfl, rfl, fun _ _ _ _ => rfl, rfl, trivial⟩) (fun hx => by cases hx) ?_
   refine sg (S := .and ((((Y45 a1 x2) && ((x2 : Int) != a2)) = true → (((Y45 a1 x2) && ((x2 : Int) != a2)) = true))) (.and (((Y45 a1 x2) && ((x2 : Int) != a2)) = true → ((Y45 a1 x2) && ((x2 : Int) != a2)) = true) (.and (((Y91 (Y45 a1 x2) x2 a2 r8) = true → ((Y91 (Y45 a1 x2) x2 a2 r8) = true))) (.and (((Y91 (Y45 a1 x2) x2 a2 r8) = true → ((Y91 (Y45 a1 x2) x2 a2 r8) = true))) (.leaf 0))))) ?_
   refine sk_and (fun h => h) ?_
   refine sk_and (fun h => h) ?_
   refine sk_and (fun h => h) ?_
   refine sk_and (fun h => h) ?_
   refine sk_leaf ?_
   obtain ⟨r14, e15, h⟩ := bd_ h
   refine callG_ok (d := some 38) (fn := 71) (ax := [.roat 3 (fun j => E96.cf a0 j), .pv (.raw (.int .i64 x2))]) (args := [.roat 3 (fun j => E96.cf a0 j), .pv (.raw (.int .i64 x2))]) (g := ((((((bitsOf .and .i64 (Int.fdiv a1 (2 ^ (min (Int.toNat x2) IntKind.i64.bits))) 1) : Int) == 1) && ((x2 : Int) != a2)) && (decide ((r8 : Int) < 224))) && !(decide ((x1 : Int) < 0)))) (ws := (Y110 a1 x2 a2 r8 x1)) (ps := (Y81 a0 x2)) (by kernel_rfl) (fun hg => ⟨((by decide : ∀ y0 : Bool, ((y0 = true) → (y0 = true))) ((((((bitsOf .and .i64 (Int.fdiv a1 (2 ^ (min (Int.toNat x2) IntKind.i64.bits))) 1) : Int) == 1) && ((x2 : Int) != a2)) && (decide ((r8 : Int) < 224))) && !(decide ((x1 : Int) < 0)))) hg, ((by decide : ∀ y0 : Bool, ((y0 = true) → (y0 = true))) ((((((bitsOf .and .i64 (Int.fdiv a1 (2 ^ (min (Int.toNat x2) IntKind.i64.bits))) 1) : Int) == 1) && ((x2 : Int) != a2)) && (decide ((r8 : Int) < 224))) && !(decide ((x1 : Int) < 0)))) hg, trivial⟩) (fun hg => vector_table_load_ok _ _ _ (by rw [hg] at e15; exact e15) (al := false)) (by kernel_rfl) (fun hg => ⟨rfl, rfl, fun _ _ _ _ => rfl, rfl, fun _ _ _ _ => rfl, rfl, trivial⟩) (fun hx => by cases hx) ?_
   refine s0 ?_
   obtain ⟨r16, e17, h⟩ := bd_ h
   refine callG_ok (d := some 41) (fn := 71) (ax := [.roat 3 (fun j => E96.cf a0 j), .pv (.raw (.int .i64 x1))]) (args := [.roat 3 (fun j => E96.cf a0 j), .pv (.raw (.int .i64 x1))]) (g := ((((((bitsOf .and .i64 (Int.fdiv a1 (2 ^ (min (Int.toNat x2) IntKind.i64.bits))) 1) : Int) == 1) && ((x2 : Int) != a2)) && (decide ((r8 : Int) < 224))) && !(decide ((x1 : Int) < 0)))) (ws := (Y110 a1 x2 a2 r8 x1)) (ps := (Y81 a0 x1)) (by kernel_rfl) (fun hg => ⟨((by decide : ∀ y0 : Bool, ((y0 = true) → (y0 = true))) ((((((bitsOf .and .i64 (Int.fdiv a1 (2 ^ (min (Int.toNat x2) IntKind.i64.bits))) 1) : Int) == 1) && ((x2 : Int) != a2)) && (decide ((r8 : Int) < 224))) && !(decide ((x1 : Int) < 0)))) hg, ((by decide : ∀ y0 : Bool, ((y0 = true) → (y0 = true))) ((((((bitsOf .and .i64 (Int.fdiv a1 (2 ^ (min (Int.toNat x2) IntKind.i64.bits))) 1) : Int) == 1) && ((x2 : Int) != a2)) && (decide ((r8 : Int) < 224))) && !(decide ((x1 : Int) < 0)))) hg, trivial⟩) (fun hg => vector_table_load_ok _ _ _ (by rw [hg] at e17; exact e17) (al := false)) (by kernel_rfl) (fun hg => ⟨rfl, rfl, fun _ _ _ _ => rfl, rfl, fun _ _ _ _ => rfl, rfl, trivial⟩) (fun hx => by cases hx) ?_
   refine sg (S := .and (((Y117 (Y91 (Y45 a1 x2) x2 a2 r8) x1) = true → ((Y117 (Y91 (Y45 a1 x2) x2 a2 r8) x1) = true))) (.and (((Y117 (Y91 (Y45 a1 x2) x2 a2 r8) x1) = true → ((Y117 (Y91 (Y45 a1 x2) x2 a2 r8) x1) = true))) (.and (((Y91 (Y45 a1 x2) x2 a2 r8) = true → ((Y91 (Y45 a1 x2) x2 a2 r8) = true))) (.and (((Y91 (Y45 a1 x2) x2 a2 r8) = true → ((decide ((x1 : Int) < 0)) = false → (Y117 (Y91 (Y45 a1 x2) x2 a2 r8) x1) = true))) (.and ((Y91 (Y45 a1 x2) x2 a2 r8) = true → (Y91 (Y45 a1 x2) x2 a2 r8) = true) (.br ((((((bitsOf .and .i64 (Int.fdiv a1 (2 ^ (min (Int.toNat x2) IntKind.i64.bits))) 1) : Int) == 1) && ((x2 : Int) != a2)) && (decide ((r8 : Int) < 224))) && ((decide ((x1 : Int) < 0)) || (decide ((r14 : Int) < r16)))) (.leaf 0) (.leaf 1))))))) ?_
   refine sk_and (fun h => h) ?_
   refine sk_and (fun h => h) ?_
   refine sk_and (fun h => h) ?_
   refine sk_and ((by decide : ∀ y0 y1 : Bool, ((y0 = true) → ((y1 = false) → ((y0 && (!y1)) = true)))) (Y91 (Y45 a1 x2) x2 a2 r8) (decide ((x1 : Int) < 0))) ?_
   refine sk_and (fun h => h) ?_
   refine br_ h ?_ ?_ <;> clear h <;> intro c23 h
   ·refine sk_leaf ?_
    refine back_ok (p := p1) (by kernel_rfl) (hp1 (n1, x2, (IntKind.i64.wrap (x2 + 1))) _ h (Nat.lt_succ_self n1) ?_)
    exact sub_ok (ρ := []) (l := [(a0.cores_ : Int) = a0.cores_, a0.of_.length = a0.of_.length, ∀ i, i < a0.of_.length → ∀ j, j < 2 → E50.cf (a0.of_.getD i E50.z) j = E50.cf (a0.of_.getD i E50.z) j, a0.taken_.length = a0.taken_.length, ∀ i, i < a0.taken_.length → ∀ j, j < 4 → E63.cf (a0.taken_.getD i E63.z) j = E63.cf (a0.taken_.getD i E63.z) j, (a1 : Int) = a1, (a2 : Int) = a2, (0 : Int) = 0, (x2 : Int) = x2, (a0.cores_ : Int) = a0.cores_, ((IntKind.i64.wrap (x2 + 1)) : Int) = (IntKind.i64.wrap (x2 + 1))]) (by kernel_rfl) ⟨rfl, rfl, fun _ _ _ _ => rfl, rfl, fun _ _ _ _ => rfl, rfl, rfl, rfl, rfl, rfl, rfl, trivial⟩
   ·refine sk_leaf ?_
    refine back_ok (p := p1) (by kernel_rfl) (hp1 (n1, x1, (IntKind.i64.wrap (x2 + 1))) _ h (Nat.lt_succ_self n1) ?_)
    exact sub_ok (ρ := []) (l := [(a0.cores_ : Int) = a0.cores_, a0.of_.length = a0.of_.length, ∀ i, i < a0.of_.length → ∀ j, j < 2 → E50.cf (a0.of_.getD i E50.z) j = E50.cf (a0.of_.getD i E50.z) j, a0.taken_.length = a0.taken_.length, ∀ i, i < a0.taken_.length → ∀ j, j < 4 → E63.cf (a0.taken_.getD i E63.z) j = E63.cf (a0.taken_.getD i E63.z) j, (a1 : Int) = a1, (a2 : Int) = a2, (0 : Int) = 0, (x1 : Int) = x1, (a0.cores_ : Int) = a0.cores_, ((IntKind.i64.wrap (x2 + 1)) : Int) = (IntKind.i64.wrap (x2 + 1))]) (by kernel_rfl) ⟨rfl, rfl, fun _ _ _ _ => rfl, rfl, fun _ _ _ _ => rfl, rfl, rfl, rfl, rfl, rfl, rfl, trivial⟩
  ·refine sk_leaf ?_
   obtain rfl := some_ h
   exact end_ok [] Tryz.results44 (ps := [(x1 : Int) = x1]) (by kernel_rfl) ⟨rfl, trivial⟩ (fun _ => ⟨rfl, by simp⟩)
theorem bits_Has_ok (a0 : (Nat → Int)) (a1 : Int) (r : Bool) (h : bits_Has a0 a1 = some r) {al : Bool} : PCalls Tryz.prog 13 [.agg (Y28 a0), .pv (.raw (.int .i64 a1))] al (.pv (.raw (.bool r))) [] := by
 unfold bits_Has at h
 refine fn_ok tabOk Tryz.func13 (by kernel_rfl) (by kernel_rfl) Tryz.ntmps13 (by simp) ?_
 refine s0 ?_
 obtain ⟨r1, e2, h⟩ := bd_ h
 refine call_ok (d := some 6) (fn := 28) (ax := [.pv (.raw (.int .i64 a1))]) (ps := [(a1 : Int) = a1]) (hb' := []) (by kernel_rfl) (bits_fits_ok _ _ e2 (al := true)) (by kernel_rfl) ⟨rfl, trivial⟩ (fun _ => (by kernel_rfl)) (by simp) rfl (by kernel_rfl) ?_
 refine sg (S := .and ((r1 = true → (r1 = true))) (.and ((r1 = true → ((64 : Int) ≠ 0))) (.and ((r1 = true → (r1 = true))) (.and ((r1 = true → (0 ≤ ((IntKind.i64.wrap (Int.tdiv a1 64)) : Int) ∧ (IntKind.i64.wrap (Int.tdiv a1 64)) < ((4 : Nat) : Int)))) (.leaf 0))))) ?_
 refine sk_and (fun h => h) ?_
 refine sk_and (fun _ => by decide) ?_
 refine sk_and (fun h => h) ?_
 refine gd_ h ?_; clear h; intro g6 h
 refine sk_leaf ?_
 refine ldcG_ok (d := 11) (id := 16512) (off := (0 + (Int.toNat (IntKind.i64.wrap (Int.tdiv a1 64))) * 1)) (n := 1) (g := r1) (ws := [r1 = true]) (cs := (Y28 a0)) (.raw (.int .u64 (a0 (Int.toNat (IntKind.i64.wrap (Int.tdiv a1 64)))))) (by kernel_rfl) (fun hg => ⟨((by decide : ∀ y0 : Bool, ((y0 = true) → (y0 = true))) r1) hg, trivial⟩) (by kernel_rfl) (fun hg => (allLt (p := fun kk0 => ((Y28 a0) : List AV)[(0 + kk0 * 1)]? = some (.pv (.raw (.int .u64 (a0 kk0))))) (m := 4) ⟨⟨⟨⟨trivial, rfl⟩, rfl⟩, rfl⟩, rfl⟩ (Int.toNat (IntKind.i64.wrap (Int.tdiv a1 64))) (by first | omega | (simp at * <;> omega) | (simp_all <;> omega)))) ?_
 refine sg (S := .and ((r1 = true → (r1 = true))) (.and ((r1 = true → ((64 : Int) ≠ 0))) (.and ((r1 = true → (r1 = true))) (.and ((r1 = true → (r1 = true))) (.and ((r1 = true → (0 ≤ ((Int.tmod a1 64) : Int)))) (.and ((r1 = true → (r1 = true))) (.and ((r1 = true → (r1 = true))) (.and (r1 = true → r1 = true) (.leaf 0))))))))) ?_
 refine sk_and (fun h => h) ?_
 refine sk_and (fun _ => by decide) ?_
 refine sk_and (fun h => h) ?_
 refine sk_and (fun h => h) ?_
 refine gd_ h ?_; clear h; intro g11 h
 refine sk_and (fun h => h) ?_
 refine sk_and (fun h => h) ?_
 refine sk_and (fun h => h) ?_
 refine sk_leaf ?_
 obtain rfl := some_ h
 exact end_ok [] Tryz.results13 (ps := [(r1 && (((bitsOf .and .u64 (Int.fdiv (a0 (Int.toNat (IntKind.i64.wrap (Int.tdiv a1 64)))) (2 ^ (min (Int.toNat (Int.tmod a1 64)) IntKind.u64.bits))) 1) : Int) == 1)) = (r1 && (((bitsOf .and .u64 (Int.fdiv (a0 (Int.toNat (IntKind.i64.wrap (Int.tdiv a1 64)))) (2 ^ (min (Int.toNat (Int.tmod a1 64)) IntKind.u64.bits))) 1) : Int) == 1))]) (by kernel_rfl) ⟨rfl, trivial⟩ (fun _ => ⟨rfl, by simp⟩)
theorem vector_table_least_ok (a0 : Vector_table) (a1 : Int) (r : Int) (h : vector_table_least a0 a1 = some r) {al : Bool} : PCalls Tryz.prog 72 [.roat 3 (fun j => E96.cf a0 j), .pv (.raw (.int .i64 a1))] al (.pv (.raw (.int .i64 r))) [] := by
 unfold vector_table_least at h
 refine fn_ok tabOk Tryz.func72 (by kernel_rfl) (by kernel_rfl) Tryz.ntmps72 (by simp) ?_
 refine s0 ?_
 replace h : (fun (x : Nat × Int) => vector_table_least_l1 a0 a1 x.1 x.2 = some r) (FUEL, 32) := h
 refine loop_ok (by kernel_rfl) (X := Nat × Int) (fun x => vector_table_least_l1 a0 a1 x.1 x.2 = some r) (fun x => x.1) (fun x => mk 18 [(0, .roat 3 (fun j => E96.cf a0 j)), (1, .pv (.raw (.int .i64 a1))), (4, .pv (.raw (.int .i64 0))), (5, .pv (.raw (.int .i64 x.2)))] []) (FUEL, 32) h ?_ ?_
 ·exact sub_ok (ρ := []) (l := [(a0.cores_ : Int) = a0.cores_, a0.of_.length = a0.of_.length, ∀ i, i < a0.of_.length → ∀ j, j < 2 → E50.cf (a0.of_.getD i E50.z) j = E50.cf (a0.of_.getD i E50.z) j, a0.taken_.length = a0.taken_.length, ∀ i, i < a0.taken_.length → ∀ j, j < 4 → E63.cf (a0.taken_.getD i E63.z) j = E63.cf (a0.taken_.getD i E63.z) j, (a1 : Int) = a1, (0 : Int) = 0, (32 : Int) = 32]) (by kernel_rfl) ⟨rfl, rfl, fun _ _ _ _ => rfl, rfl, fun _ _ _ _ => rfl, rfl, rfl, rfl, trivial⟩
 ·clear h; rintro ⟨n1, x1⟩ h p1 hp1
  obtain _ | n1 := n1
  ·cases (show (none : Option (Int)) = some r from h)
  have h : vector_table_least_l1 a0 a1 (n1 + 1) x1 = some r := h
  unfold vector_table_least_l1 at h
  refine sg (S := .and (0 ≤ (a1 : Int) ∧ a1 < ((a0.taken_.length : Nat) : Int)) (.leaf 0)) ?_
  refine gd_ h ?_; clear h; intro g2 h
  refine sk_leaf ?_
  obtain ⟨r3, e4, h⟩ := bd_ h
  refine call_ok (d := some 14) (fn := 13) (ax := [.agg (Y107 a0.taken_ a1), .pv (.raw (.int .i64 x1))]) (ps := [(((a0.taken_.getD (Int.toNat a1) (fun (_ : Nat) => (0 : Int))) 0) : Int) = ((a0.taken_.getD (Int.toNat a1) (fun (_ : Nat) => (0 : Int))) 0), (((a0.taken_.getD (Int.toNat a1) (fun (_ : Nat) => (0 : Int))) 1) : Int) = ((a0.taken_.getD (Int.toNat a1) (fun (_ : Nat) => (0 : Int))) 1), (((a0.taken_.getD (Int.toNat a1) (fun (_ : Nat) => (0 : Int))) 2) : Int) = ((a0.taken_.getD (Int.toNat a1) (fun (_ : Nat) => (0 : Int))) 2), (((a0.taken_.getD (Int.toNat a1) (fun (_ : Nat) => (0 : Int))) 3) : Int) = ((a0.taken_.getD (Int.toNat a1) (fun (_ : Nat) => (0 : Int))) 3), (x1 : Int) = x1]) (hb' := []) (by kernel_rfl) (bits_Has_ok _ _ _ e4 (al := true)) (by kernel_rfl) ⟨rfl, rfl, rfl, rfl, rfl, trivial⟩ (fun _ => (by kernel_rfl)) (by simp) rfl (by kernel_rfl) ?_
  refine sg (S := .br r3 (.leaf 0) (.leaf 1)) ?_
  refine br_ h ?_ ?_ <;> clear h <;> intro c5 h
  ·refine sk_leaf ?_
   refine back_ok (p := p1) (by kernel_rfl) (hp1 (n1, (IntKind.i64.wrap (x1 + 1))) _ h (Nat.lt_succ_self n1) ?_)
   exact sub_ok (ρ := []) (l := [(a0.cores_ : Int) = a0.cores_, a0.of_.length = a0.of_.length, ∀ i, i < a0.of_.length → ∀ j, j < 2 → E50.cf (a0.of_.getD i E50.z) j = E50.cf (a0.of_.getD i E50.z) j, a0.taken_.length = a0.taken_.length, ∀ i, i < a0.taken_.length → ∀ j, j < 4 → E63.cf (a0.taken_.getD i E63.z) j = E63.cf (a0.taken_.getD i E63.z) j, (a1 : Int) = a1, (0 : Int) = 0, ((IntKind.i64.wrap (x1 + 1)) : Int) = (IntKind.i64.wrap (x1 + 1))]) (by kernel_rfl) ⟨rfl, rfl, fun _ _ _ _ => rfl, rfl, fun _ _ _ _ => rfl, rfl, rfl, rfl, trivial⟩
  ·refine sk_leaf ?_
   obtain rfl := some_ h
   exact end_ok [] Tryz.results72 (ps := [(x1 : Int) = x1]) (by kernel_rfl) ⟨rfl, trivial⟩ (fun _ => ⟨rfl, by simp⟩)
def Y71 (x0 : Vector_table) (x1 x2 : Nat) : List AV := [.pv (.raw (.int .i64 x0.cores_)), .row x1 2 0 x0.of_.length, .row x2 4 0 x0.taken_.length]
theorem vector_table_take_ok (a0 : Vector_table) (a1 : Int) (a2 : Int) (r : Vector_table) (h : vector_table_take a0 a1 a2 = some r) {al : Bool} : MCalls Tryz.prog 45 [.ptr 0 0, .pv (.raw (.int .i64 a1)), .pv (.raw (.int .i64 a2))] [.box (Y71 a0 1 2), .row 50 2 (E50.cR a0.of_), .row 63 4 (E63.cR a0.taken_)] 1 al (.tup []) [.box (Y71 r 1 2), .row 50 2 (E50.cR r.of_), .row 63 4 (E63.cR r.taken_)] := by
 unfold vector_table_take at h
 refine fnM_ok tabOk (fz := []) Tryz.func45 (by kernel_rfl) (by kernel_rfl) Tryz.ntmps45 (by simp) (by first | (simp; done) | exact Nat.le_of_ble_eq_true rfl) ?_
 refine s0 ?_
 obtain ⟨r1, e2, h⟩ := bd_ h
 refine call_ok (d := some 10) (fn := 72) (ax := [.ptr 0 0, .pv (.raw (.int .i64 a2))]) (ps := [(a0.cores_ : Int) = a0.cores_, a0.of_.length = a0.of_.length, rowQ (E50.cR a0.of_) 2 0 a0.of_.length (fun i j => E50.cf (a0.of_.getD i E50.z) j), a0.taken_.length = a0.taken_.length, rowQ (E63.cR a0.taken_) 4 0 a0.taken_.length (fun i j => E63.cf (a0.taken_.getD i E63.z) j), (a2 : Int) = a2]) (hb' := []) (by kernel_rfl) (vector_table_least_ok _ _ _ e2 (al := false)) (by kernel_rfl) ⟨rfl, (by first | rfl | exact Elem.sub_len _ (by omega) | omega | simp | (simp <;> omega)), E50.rowQ_all a0.of_ rfl, (by first | rfl | exact Elem.sub_len _ (by omega) | omega | simp | (simp <;> omega)), E63.rowQ_all a0.taken_ rfl, rfl, trivial⟩ (fun hx => by cases hx) (by simp) rfl (by kernel_rfl) ?_
 refine sg (S := .and (0 ≤ (a1 : Int) ∧ a1 < ((a0.of_.length : Nat) : Int)) (.leaf 0)) ?_
 refine gd_ h ?_; clear h; intro g3 h
 refine sk_leaf ?_
 refine st_ok (id := 1) (i := (0 + (Int.toNat a1))) (j := 0) (e := 50) (vs := [.pv (.raw (.int .i64 a2)), .pv (.raw (.int .i64 r1))]) E50 (xs := a0.of_) (⟨a2, r1⟩ : Api_Slot) (by kernel_rfl) (by kernel_rfl) (by first | omega | (simp at * <;> omega) | (simp_all <;> omega)) (by exact Nat.le_of_ble_eq_true rfl) rfl ?_
 refine sg (S := .and (0 ≤ (a2 : Int) ∧ a2 < ((a0.taken_.length : Nat) : Int)) (.leaf 0)) ?_
 refine gd_ h ?_; clear h; intro g4 h
 refine sk_leaf ?_
 refine lda_ok (d := 30) (id := 2) (i := (0 + (Int.toNat a2))) (e := 63) (n := 4) E63 (xs := a0.taken_) (by kernel_rfl) (by kernel_rfl) (by first | omega | (simp at * <;> omega) | (simp_all <;> omega)) rfl ?_
 refine s0 ?_
 obtain ⟨r5, e6, h⟩ := bd_ h
 refine call_ok (d := some 33) (fn := 14) (ax := [.agg [.pv (.raw (.int .u64 ((a0.taken_.getD (0 + (Int.toNat a2)) (fun (_ : Nat) => (0 : Int))) 0))), .pv (.raw (.int .u64 ((a0.taken_.getD (0 + (Int.toNat a2)) (fun (_ : Nat) => (0 : Int))) 1))), .pv (.raw (.int .u64 ((a0.taken_.getD (0 + (Int.toNat a2)) (fun (_ : Nat) => (0 : Int))) 2))), .pv (.raw (.int .u64 ((a0.taken_.getD (0 + (Int.toNat a2)) (fun (_ : Nat) => (0 : Int))) 3)))], .pv (.raw (.int .i64 r1))]) (ps := [(((a0.taken_.getD (0 + (Int.toNat a2)) (fun (_ : Nat) => (0 : Int))) 0) : Int) = ((a0.taken_.getD (0 + (Int.toNat a2)) (fun (_ : Nat) => (0 : Int))) 0), (((a0.taken_.getD (0 + (Int.toNat a2)) (fun (_ : Nat) => (0 : Int))) 1) : Int) = ((a0.taken_.getD (0 + (Int.toNat a2)) (fun (_ : Nat) => (0 : Int))) 1), (((a0.taken_.getD (0 + (Int.toNat a2)) (fun (_ : Nat) => (0 : Int))) 2) : Int) = ((a0.taken_.getD (0 + (Int.toNat a2)) (fun (_ : Nat) => (0 : Int))) 2), (((a0.taken_.getD (0 + (Int.toNat a2)) (fun (_ : Nat) => (0 : Int))) 3) : Int) = ((a0.taken_.getD (0 + (Int.toNat a2)) (fun (_ : Nat) => (0 : Int))) 3), (r1 : Int) = r1]) (hb' := []) (by kernel_rfl) (bits_With_ok _ _ _ e6 (al := true)) (by kernel_rfl) ⟨rfl, rfl, rfl, rfl, rfl, trivial⟩ (fun _ => (by kernel_rfl)) (by simp) rfl (by kernel_rfl) ?_
 refine sg (S := .and (0 ≤ (a2 : Int) ∧ a2 < ((a0.taken_.length : Nat) : Int)) (.leaf 0)) ?_
 refine gd_ h ?_; clear h; intro g7 h
 refine sk_leaf ?_
 refine st_ok (id := 2) (i := (0 + (Int.toNat a2))) (j := 0) (e := 63) (vs := (Y28 r5)) E63 (xs := a0.taken_) r5 (by kernel_rfl) (by kernel_rfl) (by first | omega | (simp at * <;> omega) | (simp_all <;> omega)) (by exact Nat.le_of_ble_eq_true rfl) rfl ?_
 refine s0 ?_
 obtain rfl := some_ h
 exact endM_ok (rI 0 0 3) Tryz.results45 (ps := [(a0.cores_ : Int) = a0.cores_, 0 = 0, a0.of_.length = (a0.of_.set (0 + (Int.toNat a1)) (⟨a2, r1⟩ : Api_Slot)).length, 0 = 0, a0.taken_.length = (a0.taken_.set (0 + (Int.toNat a2)) r5).length, E50.cR (a0.of_.set (0 + (Int.toNat a1)) (⟨a2, r1⟩ : Api_Slot)) = E50.cR (a0.of_.set (0 + (Int.toNat a1)) (⟨a2, r1⟩ : Api_Slot)), AllPv (E50.cR (a0.of_.set (0 + (Int.toNat a1)) (⟨a2, r1⟩ : Api_Slot))), E63.cR (a0.taken_.set (0 + (Int.toNat a2)) r5) = E63.cR (a0.taken_.set (0 + (Int.toNat a2)) r5), AllPv (E63.cR (a0.taken_.set (0 + (Int.toNat a2)) r5))]) (by kernel_rfl) ⟨rfl, rfl, (by first | rfl | simp), rfl, (by first | rfl | simp), rfl, (Elem.cR_pv _ _), rfl, (Elem.cR_pv _ _), trivial⟩ (fun _ => ⟨rfl, by simp only [List.mem_cons, List.not_mem_nil, or_false, forall_eq_or_imp, forall_eq]; exact ⟨rfl, Elem.cR_bald E50_raw _, Elem.cR_bald E63_raw _⟩⟩)
theorem vector_table_give_ok (a0 : Vector_table) (a1 : Int) (r : Vector_table) (h : vector_table_give a0 a1 = some r) {al : Bool} : MCalls Tryz.prog 46 [.ptr 0 0, .pv (.raw (.int .i64 a1))] [.box (Y71 a0 1 2), .row 50 2 (E50.cR a0.of_), .row 63 4 (E63.cR a0.taken_)] 1 al (.tup []) [.box (Y71 r 1 2), .row 50 2 (E50.cR r.of_), .row 63 4 (E63.cR r.taken_)] := by
 unfold vector_table_give at h
 refine fnM_ok tabOk (fz := []) Tryz.func46 (by kernel_rfl) (by kernel_rfl) Tryz.ntmps46 (by simp) (by first | (simp; done) | exact Nat.le_of_ble_eq_true rfl) ?_
 refine sg (S := .and (0 ≤ (a1 : Int) ∧ a1 < ((a0.of_.length : Nat) : Int)) (.leaf 0)) ?_
 refine gd_ h ?_; clear h; intro g1 h
 refine sk_leaf ?_
 refine lda_ok (d := 11) (id := 1) (i := (0 + (Int.toNat a1))) (e := 50) (n := 2) E50 (xs := a0.of_) (by kernel_rfl) (by kernel_rfl) (by first | omega | (simp at * <;> omega) | (simp_all <;> omega)) rfl ?_
 refine sg (S := .and (0 ≤ ((a0.of_.getD (0 + (Int.toNat a1)) (⟨0, 0⟩ : Api_Slot)).Core : Int) ∧ ((a0.of_.getD (0 + (Int.toNat a1)) (⟨0, 0⟩ : Api_Slot)).Core) < ((a0.taken_.length : Nat) : Int)) (.leaf 0)) ?_
 refine gd_ h ?_; clear h; intro g2 h
 refine sk_leaf ?_
 refine lda_ok (d := 25) (id := 2) (i := (0 + (Int.toNat ((a0.of_.getD (0 + (Int.toNat a1)) (⟨0, 0⟩ : Api_Slot)).Core)))) (e := 63) (n := 4) E63 (xs := a0.taken_) (by kernel_rfl) (by kernel_rfl) (by first | omega | (simp at * <;> omega) | (simp_all <;> omega)) rfl ?_
 refine s0 ?_
 obtain ⟨r3, e4, h⟩ := bd_ h
 refine call_ok (d := some 28) (fn := 73) (ax := [.agg [.pv (.raw (.int .u64 ((a0.taken_.getD (0 + (Int.toNat ((a0.of_.getD (0 + (Int.toNat a1)) (⟨0, 0⟩ : Api_Slot)).Core))) (fun (_ : Nat) => (0 : Int))) 0))), .pv (.raw (.int .u64 ((a0.taken_.getD (0 + (Int.toNat ((a0.of_.getD (0 + (Int.toNat a1)) (⟨0, 0⟩ : Api_Slot)).Core))) (fun (_ : Nat) => (0 : Int))) 1))), .pv (.raw (.int .u64 ((a0.taken_.getD (0 + (Int.toNat ((a0.of_.getD (0 + (Int.toNat a1)) (⟨0, 0⟩ : Api_Slot)).Core))) (fun (_ : Nat) => (0 : Int))) 2))), .pv (.raw (.int .u64 ((a0.taken_.getD (0 + (Int.toNat ((a0.of_.getD (0 + (Int.toNat a1)) (⟨0, 0⟩ : Api_Slot)).Core))) (fun (_ : Nat) => (0 : Int))) 3)))], .pv (.raw (.int .i64 ((a0.of_.getD (0 + (Int.toNat a1)) (⟨0, 0⟩ : Api_Slot)).Vec)))]) (ps := [(((a0.taken_.getD (0 + (Int.toNat ((a0.of_.getD (0 + (Int.toNat a1)) (⟨0, 0⟩ : Api_Slot)).Core))) (fun (_ : Nat) => (0 : Int))) 0) : Int) = ((a0.taken_.getD (0 + (Int.toNat ((a0.of_.getD (0 + (Int.toNat a1)) (⟨0, 0⟩ : Api_Slot)).Core))) (fun (_ : Nat) => (0 : Int))) 0), (((a0.taken_.getD (0 + (Int.toNat ((a0.of_.getD (0 + (Int.toNat a1)) (⟨0, 0⟩ : Api_Slot)).Core))) (fun (_ : Nat) => (0 : Int))) 1) : Int) = ((a0.taken_.getD (0 + (Int.toNat ((a0.of_.getD (0 + (Int.toNat a1)) (⟨0, 0⟩ : Api_Slot)).Core))) (fun (_ : Nat) => (0 : Int))) 1), (((a0.taken_.getD (0 + (Int.toNat ((a0.of_.getD (0 + (Int.toNat a1)) (⟨0, 0⟩ : Api_Slot)).Core))) (fun (_ : Nat) => (0 : Int))) 2) : Int) = ((a0.taken_.getD (0 + (Int.toNat ((a0.of_.getD (0 + (Int.toNat a1)) (⟨0, 0⟩ : Api_Slot)).Core))) (fun (_ : Nat) => (0 : Int))) 2), (((a0.taken_.getD (0 + (Int.toNat ((a0.of_.getD (0 + (Int.toNat a1)) (⟨0, 0⟩ : Api_Slot)).Core))) (fun (_ : Nat) => (0 : Int))) 3) : Int) = ((a0.taken_.getD (0 + (Int.toNat ((a0.of_.getD (0 + (Int.toNat a1)) (⟨0, 0⟩ : Api_Slot)).Core))) (fun (_ : Nat) => (0 : Int))) 3), ((a0.of_.getD (0 + (Int.toNat a1)) (⟨0, 0⟩ : Api_Slot)).Vec : Int) = ((a0.of_.getD (0 + (Int.toNat a1)) (⟨0, 0⟩ : Api_Slot)).Vec)]) (hb' := []) (by kernel_rfl) (bits_Without_ok _ _ _ e4 (al := true)) (by kernel_rfl) ⟨rfl, rfl, rfl, rfl, (by first | rfl | (simp; done) | omega | (simp <;> omega)), trivial⟩ (fun _ => (by kernel_rfl)) (by simp) rfl (by kernel_rfl) ?_
 refine sg (S := .and (0 ≤ ((a0.of_.getD (0 + (Int.toNat a1)) (⟨0, 0⟩ : Api_Slot)).Core : Int) ∧ ((a0.of_.getD (0 + (Int.toNat a1)) (⟨0, 0⟩ : Api_Slot)).Core) < ((a0.taken_.length : Nat) : Int)) (.leaf 0)) ?_
 refine gd_ h ?_; clear h; intro g5 h
 refine sk_leaf ?_
 refine st_ok (id := 2) (i := (0 + (Int.toNat ((a0.of_.getD (0 + (Int.toNat a1)) (⟨0, 0⟩ : Api_Slot)).Core)))) (j := 0) (e := 63) (vs := (Y28 r3)) E63 (xs := a0.taken_) r3 (by kernel_rfl) (by kernel_rfl) (by first | omega | (simp at * <;> omega) | (simp_all <;> omega)) (by exact Nat.le_of_ble_eq_true rfl) rfl ?_
 refine sg (S := .and (0 ≤ (a1 : Int) ∧ a1 < ((a0.of_.length : Nat) : Int)) (.leaf 0)) ?_
 refine gd_ h ?_; clear h; intro g6 h
 refine sk_leaf ?_
 refine st_ok (id := 1) (i := (0 + (Int.toNat a1))) (j := 0) (e := 50) (vs := [.pv (.raw (.int .i64 0)), .pv (.raw (.int .i64 0))]) E50 (xs := a0.of_) (⟨0, 0⟩ : Api_Slot) (by kernel_rfl) (by kernel_rfl) (by first | omega | (simp at * <;> omega) | (simp_all <;> omega)) (by exact Nat.le_of_ble_eq_true rfl) rfl ?_
 refine s0 ?_
 obtain rfl := some_ h
 exact endM_ok (rI 0 0 3) Tryz.results46 (ps := [(a0.cores_ : Int) = a0.cores_, 0 = 0, a0.of_.length = (a0.of_.set (0 + (Int.toNat a1)) (⟨0, 0⟩ : Api_Slot)).length, 0 = 0, a0.taken_.length = (a0.taken_.set (0 + (Int.toNat ((a0.of_.getD (0 + (Int.toNat a1)) (⟨0, 0⟩ : Api_Slot)).Core))) r3).length, E50.cR (a0.of_.set (0 + (Int.toNat a1)) (⟨0, 0⟩ : Api_Slot)) = E50.cR (a0.of_.set (0 + (Int.toNat a1)) (⟨0, 0⟩ : Api_Slot)), AllPv (E50.cR (a0.of_.set (0 + (Int.toNat a1)) (⟨0, 0⟩ : Api_Slot))), E63.cR (a0.taken_.set (0 + (Int.toNat ((a0.of_.getD (0 + (Int.toNat a1)) (⟨0, 0⟩ : Api_Slot)).Core))) r3) = E63.cR (a0.taken_.set (0 + (Int.toNat ((a0.of_.getD (0 + (Int.toNat a1)) (⟨0, 0⟩ : Api_Slot)).Core))) r3), AllPv (E63.cR (a0.taken_.set (0 + (Int.toNat ((a0.of_.getD (0 + (Int.toNat a1)) (⟨0, 0⟩ : Api_Slot)).Core))) r3))]) (by kernel_rfl) ⟨rfl, rfl, (by first | rfl | simp), rfl, (by first | rfl | simp), rfl, (Elem.cR_pv _ _), rfl, (Elem.cR_pv _ _), trivial⟩ (fun _ => ⟨rfl, by simp only [List.mem_cons, List.not_mem_nil, or_false, forall_eq_or_imp, forall_eq]; exact ⟨rfl, Elem.cR_bald E50_raw _, Elem.cR_bald E63_raw _⟩⟩)
def Y44 (x0 : Vector_table) (x1 : Int) : List Prop := [(x1 : Int) = x1, (x0.cores_ : Int) = x0.cores_, 0 = 0, x0.of_.length = x0.of_.length, 0 = 0, x0.taken_.length = x0.taken_.length, E50.cR x0.of_ = E50.cR x0.of_, AllPv (E50.cR x0.of_), E63.cR x0.taken_ = E63.cR x0.taken_, AllPv (E63.cR x0.taken_)]
theorem Y44p {x0 : Vector_table} {x1 : Int} : allP (Y44 x0 x1) := ⟨rfl, rfl, rfl, rfl, rfl, rfl, rfl, (Elem.cR_pv _ _), rfl, (Elem.cR_pv _ _), trivial⟩
def Y119 (x0 : Api_VecOp) (x1 : Int) (x2 : Vector_table) : List Prop := [0 = 0, (x0.Line : Int) = x0.Line, (x1 : Int) = x1, (x2.cores_ : Int) = x2.cores_, 0 = 0, x2.of_.length = x2.of_.length, 0 = 0, x2.taken_.length = x2.taken_.length, E50.cR x2.of_ = E50.cR x2.of_, AllPv (E50.cR x2.of_), E63.cR x2.taken_ = E63.cR x2.taken_, AllPv (E63.cR x2.taken_)]
theorem Y119p {x0 : Api_VecOp} {x1 : Int} {x2 : Vector_table} : allP (Y119 x0 x1 x2) := ⟨rfl, rfl, rfl, rfl, rfl, rfl, rfl, rfl, rfl, (Elem.cR_pv _ _), rfl, (Elem.cR_pv _ _), trivial⟩
theorem vector_table_do_ok (a0 : Vector_table) (a1 : Api_VecOp) (r : Int × Vector_table) (h : vector_table_do a0 a1 = some r) {al : Bool} : MCalls Tryz.prog 23 [.ptr 0 0, .agg [.pv (.raw (.int .i64 a1.Kind)), .pv (.raw (.int .i64 a1.Line)), .pv (.raw (.int .i64 a1.Mask))]] [.box (Y71 a0 1 2), .row 50 2 (E50.cR a0.of_), .row 63 4 (E63.cR a0.taken_)] 1 al (.pv (.raw (.int .i64 r.1))) [.box (Y71 r.2 1 2), .row 50 2 (E50.cR r.2.of_), .row 63 4 (E63.cR r.2.taken_)] := by
 unfold vector_table_do at h
 refine fnM_ok tabOk (fz := [45, 46]) Tryz.func23 (by kernel_rfl) (by kernel_rfl) Tryz.ntmps23 (by simp) (by first | (simp; done) | exact Nat.le_of_ble_eq_true rfl) ?_
 refine sg (S := .and (((!(decide ((a1.Kind : Int) < 1))) = true → ((!(decide ((a1.Kind : Int) < 1))) = true))) (.and (((!(decide ((a1.Kind : Int) < 1))) = true → ((!(decide ((a1.Kind : Int) < 1))) = true))) (.and ((decide ((a1.Kind : Int) < 1)) = false → (!(decide ((a1.Kind : Int) < 1))) = true) (.br ((decide ((a1.Kind : Int) < 1)) || (decide ((a1.Kind : Int) > 3))) (.leaf 0) (.and (((!(decide ((a1.Line : Int) < 0))) = true → ((!(decide ((a1.Line : Int) < 0))) = true))) (.and (((!(decide ((a1.Line : Int) < 0))) = true → ((!(decide ((a1.Line : Int) < 0))) = true))) (.and (((!(decide ((a1.Line : Int) < 0))) = true → ((!(decide ((a1.Line : Int) < 0))) = true))) (.and (((!(decide ((a1.Line : Int) < 0))) = true → ((!(decide ((a1.Line : Int) < 0))) = true))) (.and (((!(decide ((a1.Line : Int) < 0))) = true → ((!(decide ((a1.Line : Int) < 0))) = true))) (.and (((!(decide ((a1.Line : Int) < 0))) = true → ((!(decide ((a1.Line : Int) < 0))) = true))) (.and (((!(decide ((a1.Line : Int) < 0))) = true → ((!(decide ((a1.Line : Int) < 0))) = true))) (.and ((decide ((a1.Line : Int) < 0)) = false → (!(decide ((a1.Line : Int) < 0))) = true) (.br ((decide ((a1.Line : Int) < 0)) || (decide ((a1.Line : Int) ≥ ((a0.of_.length : Nat) : Int)))) (.leaf 1) (.and (0 ≤ (a1.Line : Int) ∧ a1.Line < ((a0.of_.length : Nat) : Int)) (.leaf 2))))))))))))))) ?_
 refine sk_and (fun h => h) ?_
 refine sk_and (fun h => h) ?_
 refine sk_and ((by decide : ∀ y0 : Bool, ((y0 = false) → ((!y0) = true))) (decide ((a1.Kind : Int) < 1))) ?_
 refine br_ h ?_ ?_ <;> clear h <;> intro c4 h
 ·refine sk_leaf ?_
  obtain rfl := some_ h
  exact endM_ok (rI 0 0 3) Tryz.results23 (ps := (Y44 a0 5)) (by kernel_rfl) Y44p (fun _ => ⟨rfl, by simp only [List.mem_cons, List.not_mem_nil, or_false, forall_eq_or_imp, forall_eq]; exact ⟨rfl, Elem.cR_bald E50_raw _, Elem.cR_bald E63_raw _⟩⟩)
 ·refine sk_and (fun h => h) ?_
  refine sk_and (fun h => h) ?_
  refine sk_and (fun h => h) ?_
  refine sk_and (fun h => h) ?_
  refine sk_and (fun h => h) ?_
  refine sk_and (fun h => h) ?_
  refine sk_and (fun h => h) ?_
  refine sk_and ((by decide : ∀ y0 : Bool, ((y0 = false) → ((!y0) = true))) (decide ((a1.Line : Int) < 0))) ?_
  refine br_ h ?_ ?_ <;> clear h <;> intro c13 h
  ·refine sk_leaf ?_
   obtain rfl := some_ h
   exact endM_ok (rI 0 0 3) Tryz.results23 (ps := (Y44 a0 2)) (by kernel_rfl) Y44p (fun _ => ⟨rfl, by simp only [List.mem_cons, List.not_mem_nil, or_false, forall_eq_or_imp, forall_eq]; exact ⟨rfl, Elem.cR_bald E50_raw _, Elem.cR_bald E63_raw _⟩⟩)
  ·refine gd_ h ?_; clear h; intro g14 h
   refine sk_leaf ?_
   refine ld_ok (d := 42) (id := 1) (i := (0 + (Int.toNat a1.Line))) (j := 1) (e := 50) (n := 1) E50 (xs := a0.of_) (by kernel_rfl) (by kernel_rfl) (by first | omega | (simp at * <;> omega) | (simp_all <;> omega)) (by exact Nat.le_of_ble_eq_true rfl) ?_
   refine sg (S := .br (((a1.Kind : Int) == 1) == (decide (((a0.of_.getD (0 + (Int.toNat a1.Line)) (⟨0, 0⟩ : Api_Slot)).Vec : Int) > 0))) (.br ((a1.Kind : Int) == 1) (.leaf 0) (.leaf 1)) (.br ((a1.Kind : Int) == 1) (.leaf 2) (.br ((a1.Kind : Int) == 2) (.leaf 3) (.br ((a1.Kind : Int) == 3) (.and (0 ≤ (a1.Line : Int) ∧ a1.Line < ((a0.of_.length : Nat) : Int)) (.leaf 4)) (.leaf 5))))) ?_
   refine br_ h ?_ ?_ <;> clear h <;> intro c15 h
   ·refine br_ h ?_ ?_ <;> clear h <;> intro c16 h
    ·refine sk_leaf ?_
     obtain rfl := some_ h
     exact endM_ok (rI 0 0 3) Tryz.results23 (ps := (Y44 a0 6)) (by kernel_rfl) Y44p (fun _ => ⟨rfl, by simp only [List.mem_cons, List.not_mem_nil, or_false, forall_eq_or_imp, forall_eq]; exact ⟨rfl, Elem.cR_bald E50_raw _, Elem.cR_bald E63_raw _⟩⟩)
    ·refine sk_leaf ?_
     obtain rfl := some_ h
     exact endM_ok (rI 0 0 3) Tryz.results23 (ps := (Y44 a0 3)) (by kernel_rfl) Y44p (fun _ => ⟨rfl, by simp only [List.mem_cons, List.not_mem_nil, or_false, forall_eq_or_imp, forall_eq]; exact ⟨rfl, Elem.cR_bald E50_raw _, Elem.cR_bald E63_raw _⟩⟩)
   ·refine br_ h ?_ ?_ <;> clear h <;> intro c17 h
    ·refine sk_leaf ?_
     obtain ⟨r18, e19, h⟩ := bd_ h
     refine call_ok (d := some 55) (fn := 44) (ax := [.ptr 0 0, .pv (.raw (.int .i64 a1.Mask)), .pv (.raw (.int .i64 (-1)))]) (ps := [(a0.cores_ : Int) = a0.cores_, a0.of_.length = a0.of_.length, rowQ (E50.cR a0.of_) 2 0 a0.of_.length (fun i j => E50.cf (a0.of_.getD i E50.z) j), a0.taken_.length = a0.taken_.length, rowQ (E63.cR a0.taken_) 4 0 a0.taken_.length (fun i j => E63.cf (a0.taken_.getD i E63.z) j), (a1.Mask : Int) = a1.Mask, ((-1) : Int) = (-1)]) (hb' := []) (by kernel_rfl) (vector_table_best_ok _ _ _ _ e19 (al := false)) (by kernel_rfl) ⟨rfl, (by first | rfl | exact Elem.sub_len _ (by omega) | omega | simp | (simp <;> omega)), E50.rowQ_all a0.of_ rfl, (by first | rfl | exact Elem.sub_len _ (by omega) | omega | simp | (simp <;> omega)), E63.rowQ_all a0.taken_ rfl, rfl, rfl, trivial⟩ (fun hx => by cases hx) (by simp) rfl (by kernel_rfl) ?_
     refine sg (S := .br (decide ((r18 : Int) < 0)) (.leaf 0) (.leaf 1)) ?_
     refine br_ h ?_ ?_ <;> clear h <;> intro c20 h
     ·refine sk_leaf ?_
      obtain rfl := some_ h
      exact endM_ok (rI 0 0 3) Tryz.results23 (ps := (Y44 a0 4)) (by kernel_rfl) Y44p (fun _ => ⟨rfl, by simp only [List.mem_cons, List.not_mem_nil, or_false, forall_eq_or_imp, forall_eq]; exact ⟨rfl, Elem.cR_bald E50_raw _, Elem.cR_bald E63_raw _⟩⟩)
     ·refine sk_leaf ?_
      obtain ⟨r21, e22, h⟩ := bd_ h
      refine mcall_ok (d := some 62) (fn := 45) (ax := [.ptr 0 0, .pv (.raw (.int .i64 a1.Line)), .pv (.raw (.int .i64 r18))]) (hs := [(0, .box (Y71 r21 20353 20354)), (20353, .row 50 2 (E50.cR r21.of_)), (20354, .row 63 4 (E63.cR r21.taken_))]) (del := [1, 2]) (ps := (Y119 a1 r18 a0)) (rI 0 0 3) (by kernel_rfl) (vector_table_take_ok _ _ _ _ e22 (al := true)) (by kernel_rfl) Y119p (by kernel_rfl) (by simp only [Y71, List.cons_append, List.nil_append, List.append_nil, rB, rA, fl, mset_row, mset_box, mset_nil, mset_map, List.set_set]; kernel_rfl) (by kernel_rfl) ?_
      refine s0 ?_
      obtain rfl := some_ h
      exact endM_ok [(0, some 0), (1, some 20353), (2, some 20354)] Tryz.results23 (ps := (Y44 r21 0)) (by kernel_rfl) Y44p (fun _ => ⟨rfl, by simp only [List.mem_cons, List.not_mem_nil, or_false, forall_eq_or_imp, forall_eq]; exact ⟨rfl, Elem.cR_bald E50_raw _, Elem.cR_bald E63_raw _⟩⟩)
    ·refine br_ h ?_ ?_ <;> clear h <;> intro c23 h
     ·refine sk_leaf ?_
      obtain ⟨r24, e25, h⟩ := bd_ h
      refine mcall_ok (d := some 68) (fn := 46) (ax := [.ptr 0 0, .pv (.raw (.int .i64 a1.Line))]) (hs := [(0, .box (Y71 r24 20737 20738)), (20737, .row 50 2 (E50.cR r24.of_)), (20738, .row 63 4 (E63.cR r24.taken_))]) (del := [1, 2]) (ps := [0 = 0, (a1.Line : Int) = a1.Line, (a0.cores_ : Int) = a0.cores_, 0 = 0, a0.of_.length = a0.of_.length, 0 = 0, a0.taken_.length = a0.taken_.length, E50.cR a0.of_ = E50.cR a0.of_, AllPv (E50.cR a0.of_), E63.cR a0.taken_ = E63.cR a0.taken_, AllPv (E63.cR a0.taken_)]) (rI 0 0 3) (by kernel_rfl) (vector_table_give_ok _ _ _ e25 (al := true)) (by kernel_rfl) ⟨rfl, rfl, rfl, rfl, rfl, rfl, rfl, rfl, (Elem.cR_pv _ _), rfl, (Elem.cR_pv _ _), trivial⟩ (by kernel_rfl) (by simp only [Y71, List.cons_append, List.nil_append, List.append_nil, rB, rA, fl, mset_row, mset_box, mset_nil, mset_map, List.set_set]; kernel_rfl) (by kernel_rfl) ?_
      refine s0 ?_
      obtain rfl := some_ h
      exact endM_ok [(0, some 0), (1, some 20737), (2, some 20738)] Tryz.results23 (ps := (Y44 r24 0)) (by kernel_rfl) Y44p (fun _ => ⟨rfl, by simp only [List.mem_cons, List.not_mem_nil, or_false, forall_eq_or_imp, forall_eq]; exact ⟨rfl, Elem.cR_bald E50_raw _, Elem.cR_bald E63_raw _⟩⟩)
     ·refine br_ h ?_ ?_ <;> clear h <;> intro c26 h
      ·refine gd_ h ?_; clear h; intro g27 h
       refine sk_leaf ?_
       refine ld_ok (d := 82) (id := 1) (i := (0 + (Int.toNat a1.Line))) (j := 0) (e := 50) (n := 1) E50 (xs := a0.of_) (by kernel_rfl) (by kernel_rfl) (by first | omega | (simp at * <;> omega) | (simp_all <;> omega)) (by exact Nat.le_of_ble_eq_true rfl) ?_
       refine s0 ?_
       obtain ⟨r28, e29, h⟩ := bd_ h
       refine call_ok (d := some 83) (fn := 44) (ax := [.ptr 0 0, .pv (.raw (.int .i64 a1.Mask)), .pv (.raw (.int .i64 ((a0.of_.getD (0 + (Int.toNat a1.Line)) (⟨0, 0⟩ : Api_Slot)).Core)))]) (ps := [(a0.cores_ : Int) = a0.cores_, a0.of_.length = a0.of_.length, rowQ (E50.cR a0.of_) 2 0 a0.of_.length (fun i j => E50.cf (a0.of_.getD i E50.z) j), a0.taken_.length = a0.taken_.length, rowQ (E63.cR a0.taken_) 4 0 a0.taken_.length (fun i j => E63.cf (a0.taken_.getD i E63.z) j), (a1.Mask : Int) = a1.Mask, ((a0.of_.getD (0 + (Int.toNat a1.Line)) (⟨0, 0⟩ : Api_Slot)).Core : Int) = ((a0.of_.getD (0 + (Int.toNat a1.Line)) (⟨0, 0⟩ : Api_Slot)).Core)]) (hb' := []) (by kernel_rfl) (vector_table_best_ok _ _ _ _ e29 (al := false)) (by kernel_rfl) ⟨rfl, (by first | rfl | exact Elem.sub_len _ (by omega) | omega | simp | (simp <;> omega)), E50.rowQ_all a0.of_ rfl, (by first | rfl | exact Elem.sub_len _ (by omega) | omega | simp | (simp <;> omega)), E63.rowQ_all a0.taken_ rfl, rfl, (by first | rfl | (simp; done) | omega | (simp <;> omega)), trivial⟩ (fun hx => by cases hx) (by simp) rfl (by kernel_rfl) ?_
       refine sg (S := .br (decide ((r28 : Int) < 0)) (.leaf 0) (.leaf 1)) ?_
       refine br_ h ?_ ?_ <;> clear h <;> intro c30 h
       ·refine sk_leaf ?_
        obtain rfl := some_ h
        exact endM_ok (rI 0 0 3) Tryz.results23 (ps := (Y44 a0 4)) (by kernel_rfl) Y44p (fun _ => ⟨rfl, by simp only [List.mem_cons, List.not_mem_nil, or_false, forall_eq_or_imp, forall_eq]; exact ⟨rfl, Elem.cR_bald E50_raw _, Elem.cR_bald E63_raw _⟩⟩)
       ·refine sk_leaf ?_
        obtain ⟨r31, e32, h⟩ := bd_ h
        refine mcall_ok (d := some 89) (fn := 46) (ax := [.ptr 0 0, .pv (.raw (.int .i64 a1.Line))]) (hs := [(0, .box (Y71 r31 22081 22082)), (22081, .row 50 2 (E50.cR r31.of_)), (22082, .row 63 4 (E63.cR r31.taken_))]) (del := [1, 2]) (ps := [0 = 0, (a1.Line : Int) = a1.Line, (a0.cores_ : Int) = a0.cores_, 0 = 0, a0.of_.length = a0.of_.length, 0 = 0, a0.taken_.length = a0.taken_.length, E50.cR a0.of_ = E50.cR a0.of_, AllPv (E50.cR a0.of_), E63.cR a0.taken_ = E63.cR a0.taken_, AllPv (E63.cR a0.taken_)]) (rI 0 0 3) (by kernel_rfl) (vector_table_give_ok _ _ _ e32 (al := true)) (by kernel_rfl) ⟨rfl, rfl, rfl, rfl, rfl, rfl, rfl, rfl, (Elem.cR_pv _ _), rfl, (Elem.cR_pv _ _), trivial⟩ (by kernel_rfl) (by simp only [Y71, List.cons_append, List.nil_append, List.append_nil, rB, rA, fl, mset_row, mset_box, mset_nil, mset_map, List.set_set]; kernel_rfl) (by kernel_rfl) ?_
        refine s0 ?_
        obtain ⟨r33, e34, h⟩ := bd_ h
        refine mcall_ok (d := some 94) (fn := 45) (ax := [.ptr 0 0, .pv (.raw (.int .i64 a1.Line)), .pv (.raw (.int .i64 r28))]) (hs := [(0, .box (Y71 r33 22401 22402)), (22401, .row 50 2 (E50.cR r33.of_)), (22402, .row 63 4 (E63.cR r33.taken_))]) (del := [22081, 22082]) (ps := (Y119 a1 r28 r31)) [(0, some 0), (1, some 22081), (2, some 22082)] (by kernel_rfl) (vector_table_take_ok _ _ _ _ e34 (al := true)) (by kernel_rfl) Y119p (by kernel_rfl) (by simp only [Y71, List.cons_append, List.nil_append, List.append_nil, rB, rA, fl, mset_row, mset_box, mset_nil, mset_map, List.set_set]; kernel_rfl) (by kernel_rfl) ?_
        refine s0 ?_
        obtain rfl := some_ h
        exact endM_ok [(0, some 0), (1, some 22401), (2, some 22402)] Tryz.results23 (ps := (Y44 r33 0)) (by kernel_rfl) Y44p (fun _ => ⟨rfl, by simp only [List.mem_cons, List.not_mem_nil, or_false, forall_eq_or_imp, forall_eq]; exact ⟨rfl, Elem.cR_bald E50_raw _, Elem.cR_bald E63_raw _⟩⟩)
      ·refine sk_leaf ?_
       obtain rfl := some_ h
       exact endM_ok (rI 0 0 3) Tryz.results23 (ps := (Y44 a0 0)) (by kernel_rfl) Y44p (fun _ => ⟨rfl, by simp only [List.mem_cons, List.not_mem_nil, or_false, forall_eq_or_imp, forall_eq]; exact ⟨rfl, Elem.cR_bald E50_raw _, Elem.cR_bald E63_raw _⟩⟩)
set_option maxRecDepth 100000 in
theorem slices_Clone_api_Slot_ok (a0 r : List Api_Slot) (h : slices_Clone_api_Slot a0 = some r) {al : Bool} : PCalls Tryz.prog 24 [.pv (E50.ro a0)] al (.row 0 2 0 r.length) [.row 50 2 (E50.cR r)] := by
 unfold slices_Clone_api_Slot at h
 obtain ⟨g, h⟩ := if_ h
 obtain rfl := some_ h
 refine fn_ok tabOk Tryz.func24 (by kernel_rfl) (by kernel_rfl) Tryz.ntmps24 (by simp) ?_
 refine segs [1] tabOk mixed 4000 (S := .leaf 0) (by kernel_rfl) ?_
 refine sk_leaf ?_
 refine nil_ok (d1 := 3) (d2 := 4) (s := 2) (n := a0.length) (c := fun i j => E50.cf (a0.getD i E50.z) j) tabOk (by kernel_rfl) ?_
 intro b hb
 refine sg (S := .br b (.leaf 0) (.leaf 1)) ?_
 refine sk_br ?_ ?_ <;> intro hc <;> refine sk_leaf ?_
 ·obtain rfl : a0 = [] := List.eq_nil_of_length_eq_zero (hb hc)
  exact end_ok [(0, none)] Tryz.results24 (ps := [0 = 0, 0 = 0, E50.cR [] = []]) (by kernel_rfl) ⟨rfl, rfl, rfl, trivial⟩ (fun _ => ⟨rfl, by simp only [List.mem_cons, List.not_mem_nil, or_false, forall_eq]; exact Elem.cR_bald E50_raw _⟩)
 ·refine bs_ok (d := 5) (e := 50) (s := 2) (n := 0) (cs := []) (cs' := E50.cR []) (by kernel_rfl) rfl (by kernel_rfl) ?_
  refine s0 ?_
  refine app_ok (d := 7) (e := 50) (s := 2) (b := 16) (x := .row 16704 2 0 0) (y := .pv (E50.ro a0)) E50 (xs := []) (ys := a0) (by kernel_rfl) rfl (.row 16704 [] 0 rfl (by kernel_rfl)) (.ro a0) ⟨by simp; omega, by simp; omega⟩ (by kernel_rfl) ?_
  refine s0 ?_
  exact end_ok [(0, some 16832)] Tryz.results24 (ps := [0 = 0, a0.length = a0.length, E50.cR a0 = E50.cR a0, AllPv (E50.cR a0)]) (by kernel_rfl) ⟨rfl, rfl, rfl, Elem.cR_pv _ _, trivial⟩ (fun _ => ⟨rfl, by simp only [List.mem_cons, List.not_mem_nil, or_false, forall_eq]; exact Elem.cR_bald E50_raw _⟩)
end Go.Proofs.YthmieigenefilaaGreatDoor
