/- What is read of the arguments: printed by program. -/
import Derived.Test.YtdfgmloipigmfaaDoorQVAW2
import Derived.Test.YtdfgmloipigmfaaDoorAbUa
import Derived.Test.YtdfgmloipigmfaaDoorAbUb
import Derived.LaidMore
import Derived.LaidHandle
import Derived.LaidLaws
import Derived.Stop.Joined
import Derived.Test.YtdfgmloipigmfaaDoorAbZ
import Derived.ProofKit
set_option linter.unusedSimpArgs false
set_option linter.unusedVariables false
namespace Go.Proofs.YtdfgmloipigmfaaDoor
open Go Go.Ab
open Go.ChangeShapes Go.WideShapes Go.ChangeAt Go.RowKit
theorem own : ownKnob Tryd.prog.godebug = none := by kernel_rfl
theorem laidOut : laidOutB Tryd.prog = true := by kernel_rfl
theorem gok_laid {W : World} (h : laidMetH Tryd.prog [("math/bits.deBruijn64tab", Rows.laid_math_bits_deBruijn64tab)] W) : GOk Tryd.prog W :=
  gok_of_laid (g := 0) (t := 57) (u := 5) (by kernel_rfl) (by kernel_rfl) Tryd.underlying57 Tryd.underlying5 (by kernel_rfl) (by kernel_rfl) h
theorem door_met (os : Os) (args : Array Value) : laidMetH Tryd.prog [("math/bits.deBruijn64tab", Rows.laid_math_bits_deBruijn64tab)] ((World.doorLaid Tryd.prog 400 os).forCall (fun _ _ => 0) ⟨#[], args, []⟩).memory :=
  laidMetH_of_parts3 (fuel := 8) (laidMet_of_run' 8 (by kernel_rfl) (by kernel_rfl)) (by kernel_rfl) (by kernel_rfl)
theorem cells3 : Tryd.prog.cellsOf 3 = 1 := by kernel_rfl
theorem cells34 : Tryd.prog.cellsOf 34 = 3 := by kernel_rfl
theorem bytes34 : Tryd.prog.bytesOf 34 = 24 := by kernel_rfl
theorem R3 : Reads Tryd.prog 3 Int (fun x => [.raw (.int .i64 x)]) (fun x => (-9223372036854775808 ≤ x ∧ x ≤ 9223372036854775807)) := reads_i64 Tryd.underlying3
theorem R34 : Reads Tryd.prog 34 Api_VecOp (fun x => [.raw (.int .i64 x.Kind), .raw (.int .i64 x.Line), .raw (.int .i64 x.Mask)]) (fun x => (Ok_Api_VecOp x)) := (reads_struct Tryd.underlying34 (readsFs_cons R3 rfl cells3 rfl (readsFs_cons R3 rfl cells3 rfl (readsFs_cons R3 rfl cells3 rfl readsFs_nil))) (by kernel_rfl)).map (fun x => ⟨x.1, x.2.1, x.2.2.1⟩) _ _ (fun _ => rfl) (fun _ h => by obtain ⟨h0, h1, h2, -⟩ := h; exact ⟨h0, h1, h2⟩)
theorem R22 : Reads Tryd.prog 22 (List Api_VecOp) (fun x => [(E34.ro x)]) (fun x => (x.length * 24 ≤ 140737488351232 ∧ ∀ y ∈ x, (Ok_Api_VecOp y))) := reads_list E34 Tryd.underlying22 R34 rfl cells34 (by decide) bytes34 (by decide)
end Go.Proofs.YtdfgmloipigmfaaDoor
