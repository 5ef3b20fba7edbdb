/- The law NestBack: for every core handed over, what was saved is restored: the call returns true. No condition. -/
import Derived.Test.YtegafdnfcijemaaTB
import Derived.ProofKit
set_option linter.unusedSimpArgs false
set_option linter.unusedVariables false
namespace Go.Proofs.Ytegafdnfcijemaa
open Go Go.Ab Go.ChangeShapes Go.WideShapes Go.ChangeAt Go.RowKit
theorem own : ownKnob Try.prog.godebug = none := by kernel_rfl
theorem laidOut : laidOutB Try.prog = true := by kernel_rfl
set_option maxRecDepth 100000 in
theorem back_lifted (os : Os) (started : os.Started) (H : Type) (enc : TypeId × Value → H) :
    ReturnsInHanded {} Try.checked os 3 .any (Rows.nestBackSpec.pre6 enc Try.prog Try.f3 Rows.nestBackRow.domain false) (Rows.nestBackSpec.post enc Try.prog Try.f3 false true false false) := by
  refine returnsInHanded_of_change_sized (C := Try.checked) own started (by kernel_rfl) Try.func3
    (ChangeSpec.witness6 (enc := enc) (C := Try.checked) false ⟨#[], #[.agg #[.bool false, .slice none 0 0]], []⟩ 8 (by kernel_rfl) (by kernel_rfl) (by kernel_rfl) (by kernel_rfl)) ?_
  intro W base args ds gs before hval0 hW hcnd hsm _
  have hval : ∀ (j : Nat) t v, Try.f3.params[j]? = some t → args[j]? = some v → Value.okWide Try.prog W .any base t v := hval0
  have hsm' : (DataW.weightsEach Try.prog (Try.f3.params.toList ++ Rows.nestBackSpec.plain.varTypes Try.prog) (ds ++ gs)).all (· ≤ reachBytes) = true := hsm
  have hW' : DataW.Whole enc Try.prog Try.f3.params.toList Rows.nestBackSpec.vars false W args.toList ds gs before := hW
  obtain ⟨p, q, hA0, hV, rfl, hfz, hnd⟩ := hW
  have hA : DataW.TrodAll enc Try.prog W 0 (fun _ => true) true Try.f3.params.toList args.toList ds p := hA0
  rw [Try.params3] at hA hval hsm'
  obtain ⟨v0, vs0, d0, ds0, p0, q0, hargs, rfl, rfl, h0, r0⟩ := trodAll_cons hA
  obtain ⟨rfl, rfl, rfl⟩ := trodAll_nil r0
  obtain rfl : args = #[v0] := by cases args; simp_all
  obtain ⟨fuel, h0⟩ := h0
  have hv0 := hval 0 24 v0 rfl rfl
  unfold Value.okWide at hv0
  rw [Try.underlying24] at hv0
  obtain ⟨cs, rfl, _, _⟩ := hv0
  have hs : Small (d0.weights Try.prog 24) := by
    intro n hn
    have := List.all_eq_true.1 hsm' n (by simp only [List.cons_append, DataW.weightsEach, List.mem_append]; exact .inl hn)
    simpa using this
  obtain ⟨⟨on, fs⟩, hr, hok⟩ := reads_core H enc W fuel _ d0 p0 h0 hs
  have hc := (back_spec on fs (by simp only at hok; have : reachBytes ≤ 140737488355328 := (by decide); omega)).2 (fun k => k < W.heap.size) W [.agg cs] (by
    simp only [RelL]
    exact ⟨rel_agg hr, trivial⟩) (fun _ h => h)
  refine Calls.mono hc ?_
  rintro e W' ⟨v, ι', rfl, hb, _, hv, _⟩
  simp only [RelA, RelP] at hv
  subst hv
  exact ⟨_, rfl, post_true laidOut (by rw [Try.params3]; decide +kernel) rfl rfl Try.underlying4 rfl hW' hb⟩
theorem nestBack_proved : Rows.NestBackSaid :=
  OpenClaim.holds_of_wide 3 Try.f3 rfl rfl rfl rfl rfl rfl rfl ⟨rfl, rfl, rfl, rfl, rfl⟩ rfl rfl rfl rfl rfl (by kernel_rfl) Try.func3 (by kernel_rfl)
    (of_decide_eq_true (by kernel_rfl)) (by unfold Func.isWrapper; first | (rw [if_pos (by decide +kernel)]; kernel_rfl) | (rw [if_neg (by decide +kernel)]; exact ⟨rfl, rfl⟩))
    (fun os started H enc _ => back_lifted os started H enc)
end Go.Proofs.Ytegafdnfcijemaa
