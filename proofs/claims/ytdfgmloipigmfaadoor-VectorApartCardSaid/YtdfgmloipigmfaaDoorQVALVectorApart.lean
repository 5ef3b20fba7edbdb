/- The law VectorApart: for all arguments the call returns true. No condition. -/
import Derived.Test.YtdfgmloipigmfaaDoorQVAR
import Derived.Test.YtdfgmloipigmfaaDoorQVAPvector
import Derived.Test.YtdfgmloipigmfaaDoorRows
import Derived.ProofKit
import Derived.Test.YtdfgmloipigmfaaDoorCards
import Derived.Test.YtdfgmloipigmfaaDoorTie
import Derived.SevenTiedAt
import Derived.LaidMore
import Derived.Stop.Joined
set_option linter.unusedSimpArgs false
set_option linter.unusedVariables false
namespace Go.Proofs.YtdfgmloipigmfaaDoor
open Go Go.Ab
open Go.ChangeShapes Go.WideShapes Go.ChangeAt Go.RowKit
set_option maxRecDepth 100000 in
theorem vectorApart_lifted (os : Os) (started : os.Started) (H : Type) (enc : TypeId × Value → H) :
    ReturnsInHanded {} Tryd.checked os 3 .any (fun w args => (Rows.vectorApartSpec.pre enc Tryd.prog Tryd.f3 [] false w args ∧ laidMetH Tryd.prog [("math/bits.deBruijn64tab", Rows.laid_math_bits_deBruijn64tab)] w) ∧ sizedMet enc Tryd.prog Tryd.f3 (OpenSpec.ofChange Rows.vectorApartSpec) false w args) (Rows.vectorApartSpec.post enc Tryd.prog Tryd.f3 false true false false) := by
  refine returnsInHanded_of_change_and (C := Tryd.checked) (X := fun w _ => laidMetH Tryd.prog [("math/bits.deBruijn64tab", Rows.laid_math_bits_deBruijn64tab)] w) (fun _ _ _ hh h => h.of_heap hh) own started (by kernel_rfl) Tryd.func3
    (ChangeSpec.witness_shaped (enc := enc) (C := Tryd.checked) (os := os) (X := fun w _ => laidMetH Tryd.prog [("math/bits.deBruijn64tab", Rows.laid_math_bits_deBruijn64tab)] w) false (World.doorLaid Tryd.prog 400 os) #[.int .i64 0, .int .i64 0, .slice none 0 0] 8 rfl (World.shaped_of_RefB (by kernel_rfl) (by kernel_rfl)) (by kernel_rfl) (by kernel_rfl) (by kernel_rfl) (door_met os _)) ?_
  intro W base args ds gs before hval hW _ hsm hL _
  refine law_calls (al := true) (α := Int × Int × (List Api_VecOp) × Unit) (ok := fun x => (-9223372036854775808 ≤ x.1 ∧ x.1 ≤ 9223372036854775807) ∧ (-9223372036854775808 ≤ x.2.1 ∧ x.2.1 ≤ 9223372036854775807) ∧ (x.2.2.1.length * 24 ≤ 140737488351232 ∧ ∀ y ∈ x.2.2.1, (Ok_Api_VecOp y)) ∧ True) (t := 4) (by rw [Tryd.params3]; exact (readsL_one R3 (.inl ⟨_, Tryd.underlying3⟩) (readsL_one R3 (.inl ⟨_, Tryd.underlying3⟩) (readsL_one R22 (.inr (.inr (.inr ⟨_, Tryd.underlying22⟩))) readsL_nil)))) (fun x h => keep_VectorApart_ok x.1 x.2.1 x.2.2.1 true (VectorApart_true x.1 x.2.1 x.2.2.1 h.1 h.2.1 h.2.2.1)) laidOut (by rw [Tryd.params3]; decide +kernel) rfl rfl Tryd.underlying4 ?_ W base args ds gs before hval hW hsm (gok_laid hL)
  intro ds hl
  have hl : ds.length = 3 := hl
  match ds, hl with
  | [d0, d1, d2], _ => rfl
theorem vectorApart_row : Rows.VectorApartSaid :=
  OpenClaim.holds_of_wide 3 Tryd.f3 rfl rfl rfl rfl rfl rfl rfl ⟨rfl, rfl, rfl, rfl, rfl⟩ rfl rfl rfl rfl rfl (by kernel_rfl) Tryd.func3 (by kernel_rfl)
    (of_decide_eq_true (by kernel_rfl)) (by unfold Func.isWrapper; first | (rw [if_pos (by decide +kernel)]; kernel_rfl) | (rw [if_neg (by decide +kernel)]; exact ⟨rfl, rfl⟩))
    (fun os started H enc _ => vectorApart_lifted os started H enc)
theorem vectorApart_proved : Rows.VectorApartCardSaid :=
  Claim7.holds_tied_plain_at .later [] [.data] true (true, "fd11a52ac75da67ef4737e81e018fc419a8e31c1627710e7b985966d242e6de1") false
    vectorApart_row (fun _ h => by cases h) (by kernel_rfl) (fun _ h => by cases h) vectorApart_row_tie rfl ⟨rfl, rfl⟩ (by kernel_rfl) rfl
    (fun f fn hf hfn => by
      obtain rfl : f = 3 := Option.some.inj ((show Tryd.prog.funcNamed "corebell/corebellkeep.VectorApart" = some 3 by kernel_rfl).symm.trans hf) |>.symm
      obtain rfl : fn = Tryd.f3 := (Option.some.inj (Tryd.func3.symm.trans hfn)).symm
      exact ⟨by kernel_rfl, fun j t ht => by
        rw [Tryd.params3] at ht
        have hm : t ∈ [3, 3, 22] := by simpa using Array.mem_of_getElem? ht
        have hall : ([3, 3, 22].all fun u => !Tryd.prog.wantsStandIn u) = true := by kernel_rfl
        exact (show Tryd.prog.wantsStandIn t = false by simpa using List.all_eq_true.1 hall t hm)⟩)
    (by kernel_rfl)

end Go.Proofs.YtdfgmloipigmfaaDoor
