/- The law BitsRing: for all arguments the call returns true. No condition. -/
import Derived.Test.YtfnhanmdfbdimaaDoorQIR
import Derived.Test.YtfnhanmdfbdimaaDoorQIPbits
import Derived.Test.YtfnhanmdfbdimaaDoorRows
import Derived.ProofKit
import Derived.Test.YtfnhanmdfbdimaaDoorCards
import Derived.Test.YtfnhanmdfbdimaaDoorTie
import Derived.SevenTiedAt
import Derived.LaidMore
import Derived.Stop.Joined
set_option linter.unusedSimpArgs false
set_option linter.unusedVariables false
namespace Go.Proofs.YtfnhanmdfbdimaaDoor
open Go Go.Ab
open Go.ChangeShapes Go.WideShapes Go.ChangeAt Go.RowKit
set_option maxRecDepth 100000 in
theorem bitsRing_lifted (os : Os) (started : os.Started) (H : Type) (enc : TypeId × Value → H) :
    ReturnsInHanded {} Tryd.checked os 5 .any (fun w args => (Rows.bitsRingSpec.pre enc Tryd.prog Tryd.f5 [] false w args ∧ laidMetH Tryd.prog [("math/bits.deBruijn64tab", Rows.laid_math_bits_deBruijn64tab)] w) ∧ sizedMet enc Tryd.prog Tryd.f5 (OpenSpec.ofChange Rows.bitsRingSpec) false w args) (Rows.bitsRingSpec.post enc Tryd.prog Tryd.f5 false true false false) := by
  refine returnsInHanded_of_change_and (C := Tryd.checked) (X := fun w _ => laidMetH Tryd.prog [("math/bits.deBruijn64tab", Rows.laid_math_bits_deBruijn64tab)] w) (fun _ _ _ hh h => h.of_heap hh) own started (by kernel_rfl) Tryd.func5
    (ChangeSpec.witness_shaped (enc := enc) (C := Tryd.checked) (os := os) (X := fun w _ => laidMetH Tryd.prog [("math/bits.deBruijn64tab", Rows.laid_math_bits_deBruijn64tab)] w) false (World.doorLaid Tryd.prog 400 os) #[.agg #[.int .u64 0, .int .u64 0, .int .u64 0, .int .u64 0], .agg #[.int .u64 0, .int .u64 0, .int .u64 0, .int .u64 0], .agg #[.int .u64 0, .int .u64 0, .int .u64 0, .int .u64 0]] 8 rfl (World.shaped_of_RefB (by kernel_rfl) (by kernel_rfl)) (by kernel_rfl) (by kernel_rfl) (by kernel_rfl) (door_met os _)) ?_
  intro W base args ds gs before hval hW _ hsm hL _
  refine law_calls (al := true) (α := (Nat → Int) × (Nat → Int) × (Nat → Int) × Unit) (ok := fun x => (∀ i, i < 4 → (0 ≤ (x.1 i) ∧ (x.1 i) ≤ 18446744073709551615)) ∧ (∀ i, i < 4 → (0 ≤ (x.2.1 i) ∧ (x.2.1 i) ≤ 18446744073709551615)) ∧ (∀ i, i < 4 → (0 ≤ (x.2.2.1 i) ∧ (x.2.2.1 i) ≤ 18446744073709551615)) ∧ True) (t := 4) (by rw [Tryd.params5]; exact (readsL_agg R24 (.inr ⟨_, _, Tryd.underlying24⟩) (readsL_agg R24 (.inr ⟨_, _, Tryd.underlying24⟩) (readsL_agg R24 (.inr ⟨_, _, Tryd.underlying24⟩) readsL_nil)))) (fun x h => keep_BitsRing_ok x.1 x.2.1 x.2.2.1 true (BitsRing_true x.1 x.2.1 x.2.2.1 h.1 h.2.1 h.2.2.1)) laidOut (by rw [Tryd.params5]; decide +kernel) rfl rfl Tryd.underlying4 ?_ W base args ds gs before hval hW hsm (gok_laid hL)
  intro ds hl
  have hl : ds.length = 3 := hl
  match ds, hl with
  | [d0, d1, d2], _ => rfl
theorem bitsRing_row : Rows.BitsRingSaid :=
  OpenClaim.holds_of_wide 5 Tryd.f5 rfl rfl rfl rfl rfl rfl rfl ⟨rfl, rfl, rfl, rfl, rfl⟩ rfl rfl rfl rfl rfl (by kernel_rfl) Tryd.func5 (by kernel_rfl)
    (of_decide_eq_true (by kernel_rfl)) (by unfold Func.isWrapper; first | (rw [if_pos (by decide +kernel)]; kernel_rfl) | (rw [if_neg (by decide +kernel)]; exact ⟨rfl, rfl⟩))
    (fun os started H enc _ => bitsRing_lifted os started H enc)
theorem bitsRing_proved : Rows.BitsRingCardSaid :=
  Claim7.holds_tied_plain_at .later [] [.data] true (true, "39717a8f826e7684432a42875a12365e3492f0ba321aea98aa0f4d0feaa5b5d5") false
    bitsRing_row (fun _ h => by cases h) (by kernel_rfl) (fun _ h => by cases h) bitsRing_row_tie rfl ⟨rfl, rfl⟩ (by kernel_rfl) rfl
    (fun f fn hf hfn => by
      obtain rfl : f = 5 := Option.some.inj ((show Tryd.prog.funcNamed "corebell/corebellkeep.BitsRing" = some 5 by kernel_rfl).symm.trans hf) |>.symm
      obtain rfl : fn = Tryd.f5 := (Option.some.inj (Tryd.func5.symm.trans hfn)).symm
      exact ⟨by kernel_rfl, fun j t ht => by
        rw [Tryd.params5] at ht
        have hm : t ∈ [24, 24, 24] := by simpa using Array.mem_of_getElem? ht
        have hall : ([24, 24, 24].all fun u => !Tryd.prog.wantsStandIn u) = true := by kernel_rfl
        exact (show Tryd.prog.wantsStandIn t = false by simpa using List.all_eq_true.1 hall t hm)⟩)
    (by kernel_rfl)

end Go.Proofs.YtfnhanmdfbdimaaDoor
