/- The law ApicAll: for all arguments the call returns true. No condition. -/
import Derived.Test.YtpkgaagajbfgbaaDoorQGR
import Derived.Test.YtpkgaagajbfgbaaDoorQGPapic
import Derived.Test.YtpkgaagajbfgbaaDoorRows
import Derived.ProofKit
import Derived.Test.YtpkgaagajbfgbaaDoorCards
import Derived.Test.YtpkgaagajbfgbaaDoorTie
import Derived.SevenTiedAt
import Derived.LaidMore
import Derived.Stop.Joined
set_option linter.unusedSimpArgs false
set_option linter.unusedVariables false
namespace Go.Proofs.YtpkgaagajbfgbaaDoor
open Go Go.Ab
open Go.ChangeShapes Go.WideShapes Go.ChangeAt Go.RowKit
set_option maxRecDepth 100000 in
theorem apicAll_lifted (os : Os) (started : os.Started) (H : Type) (enc : TypeId × Value → H) :
    ReturnsInHanded {} Tryd.checked os 7 .any (fun w args => (Rows.apicAllSpec.pre enc Tryd.prog Tryd.f7 [] false w args ∧ laidMetH Tryd.prog [("math/bits.deBruijn64tab", Rows.laid_math_bits_deBruijn64tab)] w) ∧ sizedMet enc Tryd.prog Tryd.f7 (OpenSpec.ofChange Rows.apicAllSpec) false w args) (Rows.apicAllSpec.post enc Tryd.prog Tryd.f7 false true false false) := by
  refine returnsInHanded_of_change_and (C := Tryd.checked) (X := fun w _ => laidMetH Tryd.prog [("math/bits.deBruijn64tab", Rows.laid_math_bits_deBruijn64tab)] w) (fun _ _ _ hh h => h.of_heap hh) own started (by kernel_rfl) Tryd.func7
    (ChangeSpec.witness_shaped (enc := enc) (C := Tryd.checked) (os := os) (X := fun w _ => laidMetH Tryd.prog [("math/bits.deBruijn64tab", Rows.laid_math_bits_deBruijn64tab)] w) false (World.doorLaid Tryd.prog 400 os) #[.agg #[.int .u64 0, .int .u64 0, .int .u64 0, .int .u64 0, .int .u64 0, .int .u64 0, .int .u64 0, .int .u64 0, .int .i64 0]] 8 rfl (World.shaped_of_RefB (by kernel_rfl) (by kernel_rfl)) (by kernel_rfl) (by kernel_rfl) (by kernel_rfl) (door_met os _)) ?_
  intro W base args ds gs before hval hW _ hsm hL _
  refine law_calls (al := true) (α := Api_Local × Unit) (ok := fun x => (Ok_Api_Local x.1) ∧ True) (t := 4) (by rw [Tryd.params7]; exact (readsL_agg R26 (.inl ⟨_, Tryd.underlying26⟩) readsL_nil)) (fun x h => keep_ApicAll_ok x.1 true (ApicAll_true x.1 h.1)) laidOut (by rw [Tryd.params7]; decide +kernel) rfl rfl Tryd.underlying4 ?_ W base args ds gs before hval hW hsm (gok_laid hL)
  intro ds hl
  have hl : ds.length = 1 := hl
  match ds, hl with
  | [d0], _ => rfl
theorem apicAll_row : Rows.ApicAllSaid :=
  OpenClaim.holds_of_wide 7 Tryd.f7 rfl rfl rfl rfl rfl rfl rfl ⟨rfl, rfl, rfl, rfl, rfl⟩ rfl rfl rfl rfl rfl (by kernel_rfl) Tryd.func7 (by kernel_rfl)
    (of_decide_eq_true (by kernel_rfl)) (by unfold Func.isWrapper; first | (rw [if_pos (by decide +kernel)]; kernel_rfl) | (rw [if_neg (by decide +kernel)]; exact ⟨rfl, rfl⟩))
    (fun os started H enc _ => apicAll_lifted os started H enc)
theorem apicAll_proved : Rows.ApicAllCardSaid :=
  Claim7.holds_tied_plain_at .later [] [.data] true (true, "5fe721a5d7041c02a1ea0cda9f93d612a64e672561ce4fcce0cc3b5a3e587b9b") false
    apicAll_row (fun _ h => by cases h) (by kernel_rfl) (fun _ h => by cases h) apicAll_row_tie rfl ⟨rfl, rfl⟩ (by kernel_rfl) rfl
    (fun f fn hf hfn => by
      obtain rfl : f = 7 := Option.some.inj ((show Tryd.prog.funcNamed "corebell/corebellkeep.ApicAll" = some 7 by kernel_rfl).symm.trans hf) |>.symm
      obtain rfl : fn = Tryd.f7 := (Option.some.inj (Tryd.func7.symm.trans hfn)).symm
      exact ⟨by kernel_rfl, fun j t ht => by
        rw [Tryd.params7] at ht
        have hm : t ∈ [26] := by simpa using Array.mem_of_getElem? ht
        have hall : ([26].all fun u => !Tryd.prog.wantsStandIn u) = true := by kernel_rfl
        exact (show Tryd.prog.wantsStandIn t = false by simpa using List.all_eq_true.1 hall t hm)⟩)
    (by kernel_rfl)

end Go.Proofs.YtpkgaagajbfgbaaDoor
