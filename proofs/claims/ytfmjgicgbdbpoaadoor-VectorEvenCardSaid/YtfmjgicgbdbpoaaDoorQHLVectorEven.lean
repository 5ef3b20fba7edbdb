/- The law VectorEven: for all arguments the call returns true. No condition. -/
import Derived.Test.YtfmjgicgbdbpoaaDoorQHR
import Derived.Test.YtfmjgicgbdbpoaaDoorQHPvector
import Derived.Test.YtfmjgicgbdbpoaaDoorRows
import Derived.ProofKit
import Derived.Test.YtfmjgicgbdbpoaaDoorCards
import Derived.Test.YtfmjgicgbdbpoaaDoorTie
import Derived.SevenTiedAt
import Derived.LaidMore
import Derived.Stop.Joined
set_option linter.unusedSimpArgs false
set_option linter.unusedVariables false
namespace Go.Proofs.YtfmjgicgbdbpoaaDoor
open Go Go.Ab
open Go.ChangeShapes Go.WideShapes Go.ChangeAt Go.RowKit
set_option maxRecDepth 100000 in
theorem vectorEven_lifted (os : Os) (started : os.Started) (H : Type) (enc : TypeId × Value → H) :
    ReturnsInHanded {} Tryd.checked os 6 .any (fun w args => (Rows.vectorEvenSpec.pre enc Tryd.prog Tryd.f6 [] false w args ∧ laidMetH Tryd.prog [("math/bits.deBruijn64tab", Rows.laid_math_bits_deBruijn64tab)] w) ∧ sizedMet enc Tryd.prog Tryd.f6 (OpenSpec.ofChange Rows.vectorEvenSpec) false w args) (Rows.vectorEvenSpec.post enc Tryd.prog Tryd.f6 false true false false) := by
  refine returnsInHanded_of_change_and (C := Tryd.checked) (X := fun w _ => laidMetH Tryd.prog [("math/bits.deBruijn64tab", Rows.laid_math_bits_deBruijn64tab)] w) (fun _ _ _ hh h => h.of_heap hh) own started (by kernel_rfl) Tryd.func6
    (ChangeSpec.witness_shaped (enc := enc) (C := Tryd.checked) (os := os) (X := fun w _ => laidMetH Tryd.prog [("math/bits.deBruijn64tab", Rows.laid_math_bits_deBruijn64tab)] w) false (World.doorLaid Tryd.prog 400 os) #[.int .i64 0, .int .i64 0] 8 rfl (World.shaped_of_RefB (by kernel_rfl) (by kernel_rfl)) (by kernel_rfl) (by kernel_rfl) (by kernel_rfl) (door_met os _)) ?_
  intro W base args ds gs before hval hW _ hsm hL _
  refine law_calls (al := true) (α := Int × Int × Unit) (ok := fun x => (-9223372036854775808 ≤ x.1 ∧ x.1 ≤ 9223372036854775807) ∧ (-9223372036854775808 ≤ x.2.1 ∧ x.2.1 ≤ 9223372036854775807) ∧ True) (t := 4) (by rw [Tryd.params6]; exact (readsL_one R3 (.inl ⟨_, Tryd.underlying3⟩) (readsL_one R3 (.inl ⟨_, Tryd.underlying3⟩) readsL_nil))) (fun x h => keep_VectorEven_ok x.1 x.2.1 true (VectorEven_true x.1 x.2.1 h.1 h.2.1)) laidOut (by rw [Tryd.params6]; decide +kernel) rfl rfl Tryd.underlying4 ?_ W base args ds gs before hval hW hsm (gok_laid hL)
  intro ds hl
  have hl : ds.length = 2 := hl
  match ds, hl with
  | [d0, d1], _ => rfl
theorem vectorEven_row : Rows.VectorEvenSaid :=
  OpenClaim.holds_of_wide 6 Tryd.f6 rfl rfl rfl rfl rfl rfl rfl ⟨rfl, rfl, rfl, rfl, rfl⟩ rfl rfl rfl rfl rfl (by kernel_rfl) Tryd.func6 (by kernel_rfl)
    (of_decide_eq_true (by kernel_rfl)) (by unfold Func.isWrapper; first | (rw [if_pos (by decide +kernel)]; kernel_rfl) | (rw [if_neg (by decide +kernel)]; exact ⟨rfl, rfl⟩))
    (fun os started H enc _ => vectorEven_lifted os started H enc)
theorem vectorEven_proved : Rows.VectorEvenCardSaid :=
  Claim7.holds_tied_plain_at .later [] [.data] true (true, "e3dfad7854bf47c7b1104edb3d1a28d206d8e09dbe6df769638d5c93933caedc") false
    vectorEven_row (fun _ h => by cases h) (by kernel_rfl) (fun _ h => by cases h) vectorEven_row_tie rfl ⟨rfl, rfl⟩ (by kernel_rfl) rfl
    (fun f fn hf hfn => by
      obtain rfl : f = 6 := Option.some.inj ((show Tryd.prog.funcNamed "corebell/corebellkeep.VectorEven" = some 6 by kernel_rfl).symm.trans hf) |>.symm
      obtain rfl : fn = Tryd.f6 := (Option.some.inj (Tryd.func6.symm.trans hfn)).symm
      exact ⟨by kernel_rfl, fun j t ht => by
        rw [Tryd.params6] at ht
        have hm : t ∈ [3, 3] := by simpa using Array.mem_of_getElem? ht
        have hall : ([3, 3].all fun u => !Tryd.prog.wantsStandIn u) = true := by kernel_rfl
        exact (show Tryd.prog.wantsStandIn t = false by simpa using List.all_eq_true.1 hall t hm)⟩)
    (by kernel_rfl)

end Go.Proofs.YtfmjgicgbdbpoaaDoor
