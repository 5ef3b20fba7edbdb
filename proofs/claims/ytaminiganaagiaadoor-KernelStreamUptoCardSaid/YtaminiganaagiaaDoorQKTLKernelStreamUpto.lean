import Derived.Test.YtaminiganaagiaaDoorQKTR
import Derived.Test.YtaminiganaagiaaDoorQKTPkernel
import Derived.Test.YtaminiganaagiaaDoorRows
import Derived.ProofKit
import Derived.Test.YtaminiganaagiaaDoorCards
import Derived.Test.YtaminiganaagiaaDoorTie
import Derived.SevenTiedAt
import Derived.LaidMore
import Derived.Stop.Joined
set_option linter.unusedSimpArgs false
set_option linter.unusedVariables false
namespace Go.Proofs.YtaminiganaagiaaDoor
open Go Go.Ab
open Go.ChangeShapes Go.WideShapes Go.ChangeAt Go.RowKit
theorem kernelStreamU_one {H : Type} (d : DataW H) : 1 ≤ Rows.uptoBulk d := by
 cases d with
 | lit l => cases l <;> simp [Rows.uptoBulk]
 | _ => simp [Rows.uptoBulk]
def kernelStreamU_bulks (H : Type) : Bulks H := ⟨Rows.uptoBulk, Rows.uptoBulkAll, rfl, fun _ _ => rfl, fun _ => rfl, fun _ _ => rfl, fun _ => rfl, kernelStreamU_one⟩
set_option maxRecDepth 100000 in
theorem kernelStreamU_lifted (os : Os) (started : os.Started) (H : Type) (enc : TypeId × Value → H) (F : Stop.Interp) :
  ReturnsInHanded {} Tryd.checked os 6 .any (fun w args => ((Rows.OpenSpec.upto Rows.kernelStreamSpec).pre enc Tryd.prog Tryd.f6 [] false w args ∧ laidMetH Tryd.prog [("math/bits.deBruijn64tab", Rows.laid_math_bits_deBruijn64tab)] w) ∧ sizedMet enc Tryd.prog Tryd.f6 (Rows.OpenSpec.upto Rows.kernelStreamSpec) false w args) (((Rows.OpenSpec.upto Rows.kernelStreamSpec).at F).post enc Tryd.prog Tryd.f6 false true false false) := by
 refine returnsInHanded_of_cond_and (C := Tryd.checked) (s := Rows.OpenSpec.upto Rows.kernelStreamSpec) (k := Rows.uptoSmall) rfl (X := fun w _ => laidMetH Tryd.prog [("math/bits.deBruijn64tab", Rows.laid_math_bits_deBruijn64tab)] w) (fun _ _ _ hh h => h.of_heap hh) own started (by kernel_rfl) Tryd.func6
  (cond_witness_shaped (enc := enc) (C := Tryd.checked) (os := os) (s := Rows.OpenSpec.upto Rows.kernelStreamSpec) (k := Rows.uptoSmall) rfl (X := fun w _ => laidMetH Tryd.prog [("math/bits.deBruijn64tab", Rows.laid_math_bits_deBruijn64tab)] w) false (World.doorLaid Tryd.prog 400 os) #[.slice none 0 0] 8 rfl (World.shaped_of_RefB (by kernel_rfl) (by kernel_rfl)) (by kernel_rfl)
   (x := ([.nil], [], [])) (by kernel_rfl) rfl (by kernel_rfl) (door_met os _) (by kernel_rfl)) ?_
 intro W base args ds gs before hval hW _ hk hL _
 refine law_callsU (s := Rows.kernelStreamSpec) (kernelStreamU_bulks H) (al := true) (α := (List Api_KernOp) × Unit) (ok := fun x => (x.1.length ≤ 1048576 ∧ ∀ y ∈ x.1, (OkU_Api_KernOp y)) ∧ True) (t := 4) (by rw [Tryd.params6]; exact (readsLU_one RU22 (.inr (.inr (.inr ⟨_, Tryd.underlying22⟩))) readsLU_nil)) (fun x h => keep_KernelStream_ok x.1 true (KernelStream_trueU x.1 h.1)) laidOut (by rw [Tryd.params6]; decide +kernel) rfl rfl Tryd.underlying4 ?_ W base args ds gs before hval hW (of_decide_eq_true hk) (gok_laid hL)
 intro ds hl
 have hl : ds.length = 1 := hl
 match ds, hl with
 | [d0], _ => rfl
theorem kernelStreamUpto_row : Rows.KernelStreamUptoSaid :=
 OpenClaim.holds_of_cond 6 Tryd.f6 rfl rfl rfl rfl rfl rfl rfl ⟨rfl, rfl, rfl, rfl, rfl⟩ rfl rfl rfl rfl rfl (by kernel_rfl) Tryd.func6 (by kernel_rfl)
  (of_decide_eq_true (by kernel_rfl)) (by unfold Func.isWrapper; first | (rw [if_pos (by decide +kernel)]; kernel_rfl) | (rw [if_neg (by decide +kernel)]; exact ⟨rfl, rfl⟩))
  (fun os started H enc _ F => kernelStreamU_lifted os started H enc F)
theorem kernelStreamUpto_proved : Rows.KernelStreamUptoCardSaid :=
 Claim7.holds_tied_plain_at .later [] [.data] true (true, "6c39281455b04746c847e45319b696896161ca073d2f13fe13b2be0fdb6109fc") false
  kernelStreamUpto_row (fun _ h => by cases h) (by kernel_rfl) (fun _ h => by cases h) kernelStreamUpto_row_tie rfl ⟨rfl, rfl⟩ (by kernel_rfl) rfl
  (fun f fn hf hfn => by
   obtain rfl : f = 6 := Option.some.inj ((show Tryd.prog.funcNamed "corebell/corebellkeep.KernelStream" = some 6 by kernel_rfl).symm.trans hf) |>.symm
   obtain rfl : fn = Tryd.f6 := (Option.some.inj (Tryd.func6.symm.trans hfn)).symm
   exact ⟨by kernel_rfl, fun j t ht => by
    rw [Tryd.params6] at ht
    have hm : t ∈ [22] := by simpa using Array.mem_of_getElem? ht
    have hall : ([22].all fun u => !Tryd.prog.wantsStandIn u) = true := by kernel_rfl
    exact (show Tryd.prog.wantsStandIn t = false by simpa using List.all_eq_true.1 hall t hm)⟩)
  (by kernel_rfl)
end Go.Proofs.YtaminiganaagiaaDoor

