import Derived.Test.YtaminiganaagiaaDoorQKVR
import Derived.Test.YtaminiganaagiaaDoorQKVPkernel
import Derived.Test.YtaminiganaagiaaDoorRows
import Derived.ProofKit
import Derived.Test.YtaminiganaagiaaDoorCards
import Derived.Test.YtaminiganaagiaaDoorTie
import Derived.SevenTiedAt
import Derived.LaidMore
import Derived.Stop.Joined
set_option linter.unusedSimpArgs false
set_option linter.unusedVariables false
namespace Go.Proofs.YtaminiganaagiaaDoor
open Go Go.Ab
open Go.ChangeShapes Go.WideShapes Go.ChangeAt Go.RowKit
set_option maxRecDepth 100000 in
theorem kernelMoved_lifted (os : Os) (started : os.Started) (H : Type) (enc : TypeId × Value → H) :
  ReturnsInHanded {} Tryd.checked os 5 .any (fun w args => (Rows.kernelMovedSpec.pre enc Tryd.prog Tryd.f5 [] false w args ∧ laidMetH Tryd.prog [("math/bits.deBruijn64tab", Rows.laid_math_bits_deBruijn64tab)] w) ∧ sizedMet enc Tryd.prog Tryd.f5 (OpenSpec.ofChange Rows.kernelMovedSpec) false w args) (Rows.kernelMovedSpec.post enc Tryd.prog Tryd.f5 false true false false) := by
 refine returnsInHanded_of_change_and (C := Tryd.checked) (X := fun w _ => laidMetH Tryd.prog [("math/bits.deBruijn64tab", Rows.laid_math_bits_deBruijn64tab)] w) (fun _ _ _ hh h => h.of_heap hh) own started (by kernel_rfl) Tryd.func5
  (ChangeSpec.witness_shaped (enc := enc) (C := Tryd.checked) (os := os) (X := fun w _ => laidMetH Tryd.prog [("math/bits.deBruijn64tab", Rows.laid_math_bits_deBruijn64tab)] w) false (World.doorLaid Tryd.prog 400 os) #[.slice none 0 0, .slice none 0 0] 8 rfl (World.shaped_of_RefB (by kernel_rfl) (by kernel_rfl)) (by kernel_rfl) (by kernel_rfl) (by kernel_rfl) (door_met os _)) ?_
 intro W base args ds gs before hval hW _ hsm hL _
 refine law_calls (al := true) (α := (List Int) × (List Int) × Unit) (ok := fun x => (x.1.length * 1 ≤ 140737488351232 ∧ ∀ y ∈ x.1, (0 ≤ y ∧ y ≤ 255)) ∧ (x.2.1.length * 8 ≤ 140737488351232 ∧ ∀ y ∈ x.2.1, (-9223372036854775808 ≤ y ∧ y ≤ 9223372036854775807)) ∧ True) (t := 4) (by rw [Tryd.params5]; exact (readsL_one R28 (.inr (.inr (.inr ⟨_, Tryd.underlying28⟩))) (readsL_one R41 (.inr (.inr (.inr ⟨_, Tryd.underlying41⟩))) readsL_nil))) (fun x h => keep_KernelMoved_ok x.1 x.2.1 true (KernelMoved_true x.1 x.2.1 h.1 h.2.1)) laidOut (by rw [Tryd.params5]; decide +kernel) rfl rfl Tryd.underlying4 ?_ W base args ds gs before hval hW hsm (gok_laid hL)
 intro ds hl
 have hl : ds.length = 2 := hl
 match ds, hl with
 | [d0, d1], _ => rfl
theorem kernelMoved_row : Rows.KernelMovedSaid :=
 OpenClaim.holds_of_wide 5 Tryd.f5 rfl rfl rfl rfl rfl rfl rfl ⟨rfl, rfl, rfl, rfl, rfl⟩ rfl rfl rfl rfl rfl (by kernel_rfl) Tryd.func5 (by kernel_rfl)
  (of_decide_eq_true (by kernel_rfl)) (by unfold Func.isWrapper; first | (rw [if_pos (by decide +kernel)]; kernel_rfl) | (rw [if_neg (by decide +kernel)]; exact ⟨rfl, rfl⟩))
  (fun os started H enc _ => kernelMoved_lifted os started H enc)
theorem kernelMoved_proved : Rows.KernelMovedCardSaid :=
 Claim7.holds_tied_plain_at .later [] [.data] true (true, "6c39281455b04746c847e45319b696896161ca073d2f13fe13b2be0fdb6109fc") false
  kernelMoved_row (fun _ h => by cases h) (by kernel_rfl) (fun _ h => by cases h) kernelMoved_row_tie rfl ⟨rfl, rfl⟩ (by kernel_rfl) rfl
  (fun f fn hf hfn => by
   obtain rfl : f = 5 := Option.some.inj ((show Tryd.prog.funcNamed "corebell/corebellkeep.KernelMoved" = some 5 by kernel_rfl).symm.trans hf) |>.symm
   obtain rfl : fn = Tryd.f5 := (Option.some.inj (Tryd.func5.symm.trans hfn)).symm
   exact ⟨by kernel_rfl, fun j t ht => by
    rw [Tryd.params5] at ht
    have hm : t ∈ [28, 41] := by simpa using Array.mem_of_getElem? ht
    have hall : ([28, 41].all fun u => !Tryd.prog.wantsStandIn u) = true := by kernel_rfl
    exact (show Tryd.prog.wantsStandIn t = false by simpa using List.all_eq_true.1 hall t hm)⟩)
  (by kernel_rfl)
end Go.Proofs.YtaminiganaagiaaDoor

