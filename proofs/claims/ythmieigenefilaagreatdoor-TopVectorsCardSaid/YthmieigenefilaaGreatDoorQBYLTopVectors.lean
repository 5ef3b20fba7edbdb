import Derived.Test.YthmieigenefilaaGreatDoorQBYR
import Derived.Test.YthmieigenefilaaGreatDoorQBYPtop
import Derived.Test.YthmieigenefilaaGreatDoorRows
import Derived.ProofKit
import Derived.Test.YthmieigenefilaaGreatDoorCards
import Derived.Test.YthmieigenefilaaGreatDoorTie
import Derived.SevenTiedAt
import Derived.LaidMore
import Derived.Stop.Joined
set_option linter.unusedSimpArgs false
set_option linter.unusedVariables false
namespace Go.Proofs.YthmieigenefilaaGreatDoor
open Go Go.Ab
open Go.ChangeShapes Go.WideShapes Go.ChangeAt Go.RowKit
set_option maxRecDepth 100000 in
theorem topVectors_lifted (os : Os) (started : os.Started) (H : Type) (enc : TypeId × Value → H) :
  ReturnsInHanded {} Tryz.checked os 4 .any (fun w args => (Rows.topVectorsSpec.pre enc Tryz.prog Tryz.f4 [] false w args ∧ laidMetH Tryz.prog [("math/bits.deBruijn32tab", Rows.laid_math_bits_deBruijn32tab), ("math/bits.deBruijn64tab", Rows.laid_math_bits_deBruijn64tab), ("internal/strconv.uint64pow10", Rows.laid_internal_strconv_uint64pow10), ("strconv.ErrRange", Rows.laid_strconv_ErrRange), ("strconv.ErrSyntax", Rows.laid_strconv_ErrSyntax)] w) ∧ sizedMet enc Tryz.prog Tryz.f4 (OpenSpec.ofChange Rows.topVectorsSpec) false w args) (Rows.topVectorsSpec.post enc Tryz.prog Tryz.f4 false true false false) := by
 refine returnsInHanded_of_change_and (C := Tryz.checked) (X := fun w _ => laidMetH Tryz.prog [("math/bits.deBruijn32tab", Rows.laid_math_bits_deBruijn32tab), ("math/bits.deBruijn64tab", Rows.laid_math_bits_deBruijn64tab), ("internal/strconv.uint64pow10", Rows.laid_internal_strconv_uint64pow10), ("strconv.ErrRange", Rows.laid_strconv_ErrRange), ("strconv.ErrSyntax", Rows.laid_strconv_ErrSyntax)] w) (fun _ _ _ hh h => h.of_heap hh) own started (by kernel_rfl) Tryz.func4
  (ChangeSpec.witness_shaped (enc := enc) (C := Tryz.checked) (os := os) (X := fun w _ => laidMetH Tryz.prog [("math/bits.deBruijn32tab", Rows.laid_math_bits_deBruijn32tab), ("math/bits.deBruijn64tab", Rows.laid_math_bits_deBruijn64tab), ("internal/strconv.uint64pow10", Rows.laid_internal_strconv_uint64pow10), ("strconv.ErrRange", Rows.laid_strconv_ErrRange), ("strconv.ErrSyntax", Rows.laid_strconv_ErrSyntax)] w) false (World.doorLaid Tryz.prog 400 os) #[.slice none 0 0, .slice none 0 0, .slice none 0 0] 8 rfl (World.shaped_of_RefB (by kernel_rfl) (by kernel_rfl)) (by kernel_rfl) (by kernel_rfl) (by kernel_rfl) (door_met os _)) ?_
 intro W base args ds gs before hval hW _ hsm hL _
 refine law_calls (al := true) (α := (List Api_VecOp) × (List Bool) × (List Api_PinOp) × Unit) (ok := fun x => (x.1.length * 24 ≤ 140737488351232 ∧ ∀ y ∈ x.1, (Ok_Api_VecOp y)) ∧ (x.2.1.length * 1 ≤ 140737488351232 ∧ ∀ y ∈ x.2.1, True) ∧ (x.2.2.1.length * 16 ≤ 140737488351232 ∧ ∀ y ∈ x.2.2.1, (Ok_Api_PinOp y)) ∧ True) (t := 4) (by rw [Tryz.params4]; exact (readsL_one R39 (.inr (.inr (.inr ⟨_, Tryz.underlying39⟩))) (readsL_one R40 (.inr (.inr (.inr ⟨_, Tryz.underlying40⟩))) (readsL_one R41 (.inr (.inr (.inr ⟨_, Tryz.underlying41⟩))) readsL_nil)))) (fun x h => top_TopVectors_ok x.1 x.2.1 x.2.2.1 true (TopVectors_true x.1 x.2.1 x.2.2.1 h.1 h.2.1 h.2.2.1)) laidOut (by rw [Tryz.params4]; decide +kernel) rfl rfl Tryz.underlying4 ?_ W base args ds gs before hval hW hsm (gok_laid hL)
 intro ds hl
 have hl : ds.length = 3 := hl
 match ds, hl with
 | [d0, d1, d2], _ => rfl
theorem topVectors_row : Rows.TopVectorsSaid :=
 OpenClaim.holds_of_wide 4 Tryz.f4 rfl rfl rfl rfl rfl rfl rfl ⟨rfl, rfl, rfl, rfl, rfl⟩ rfl rfl rfl rfl rfl (by kernel_rfl) Tryz.func4 (by kernel_rfl)
  (of_decide_eq_true (by kernel_rfl)) (by unfold Func.isWrapper; first | (rw [if_pos (by decide +kernel)]; kernel_rfl) | (rw [if_neg (by decide +kernel)]; exact ⟨rfl, rfl⟩))
  (fun os started H enc _ => topVectors_lifted os started H enc)
theorem topVectors_proved : Rows.TopVectorsCardSaid :=
 Claim7.holds_tied_plain_at .later [] [.data, .data, .data, .sentinel, .sentinel] true (true, "f8bf68cb3ab78f1f7a6488809589a7ab405b4d78541fbd4fa5be49787515669b") true
  topVectors_row (fun _ h => by cases h) (by kernel_rfl) (fun _ h => by cases h) topVectors_row_tie rfl ⟨rfl, rfl⟩ (by kernel_rfl) rfl
  (fun f fn hf hfn => by
   obtain rfl : f = 4 := Option.some.inj ((show Tryz.prog.funcNamed "corebell/corebelltop.TopVectors" = some 4 by kernel_rfl).symm.trans hf) |>.symm
   obtain rfl : fn = Tryz.f4 := (Option.some.inj (Tryz.func4.symm.trans hfn)).symm
   exact ⟨by kernel_rfl, fun j t ht => by
    rw [Tryz.params4] at ht
    have hm : t ∈ [39, 40, 41] := by simpa using Array.mem_of_getElem? ht
    have hall : ([39, 40, 41].all fun u => !Tryz.prog.wantsStandIn u) = true := by kernel_rfl
    exact (show Tryz.prog.wantsStandIn t = false by simpa using List.all_eq_true.1 hall t hm)⟩)
  (by kernel_rfl)
end Go.Proofs.YthmieigenefilaaGreatDoor
