/- What is read of the arguments: printed by program. -/
import Derived.Test.YtfnhanmdfbdimaaDoorQIW0
import Derived.Test.YtfnhanmdfbdimaaDoorAbUa
import Derived.Test.YtfnhanmdfbdimaaDoorAbUb
import Derived.LaidMore
import Derived.LaidHandle
import Derived.LaidLaws
import Derived.Stop.Joined
import Derived.Test.YtfnhanmdfbdimaaDoorAbZ
import Derived.ProofKit
set_option linter.unusedSimpArgs false
set_option linter.unusedVariables false
namespace Go.Proofs.YtfnhanmdfbdimaaDoor
open Go Go.Ab
open Go.ChangeShapes Go.WideShapes Go.ChangeAt Go.RowKit
theorem own : ownKnob Tryd.prog.godebug = none := by kernel_rfl
theorem laidOut : laidOutB Tryd.prog = true := by kernel_rfl
theorem gok_laid {W : World} (h : laidMetH Tryd.prog [("math/bits.deBruijn64tab", Rows.laid_math_bits_deBruijn64tab)] W) : GOk Tryd.prog W :=
  gok_of_laid (g := 0) (t := 40) (u := 5) (by kernel_rfl) (by kernel_rfl) Tryd.underlying40 Tryd.underlying5 (by kernel_rfl) (by kernel_rfl) h
theorem door_met (os : Os) (args : Array Value) : laidMetH Tryd.prog [("math/bits.deBruijn64tab", Rows.laid_math_bits_deBruijn64tab)] ((World.doorLaid Tryd.prog 400 os).forCall (fun _ _ => 0) ⟨#[], args, []⟩).memory :=
  laidMetH_of_parts3 (fuel := 8) (laidMet_of_run' 8 (by kernel_rfl) (by kernel_rfl)) (by kernel_rfl) (by kernel_rfl)
theorem cells24 : Tryd.prog.cellsOf 24 = 4 := by kernel_rfl
theorem cells22 : Tryd.prog.cellsOf 22 = 1 := by kernel_rfl
theorem R22 : Reads Tryd.prog 22 Int (fun x => [.raw (.int .u64 x)]) (fun x => (0 ≤ x ∧ x ≤ 18446744073709551615)) := reads_u64 Tryd.underlying22
theorem R24 : Reads Tryd.prog 24 (Nat → Int) (fun x => [.raw (.int .u64 (x 0)), .raw (.int .u64 (x 1)), .raw (.int .u64 (x 2)), .raw (.int .u64 (x 3))]) (fun x => (∀ i, i < 4 → (0 ≤ (x i) ∧ (x i) ≤ 18446744073709551615))) := (reads_array Tryd.underlying24 R22 cells22 cells24).map (fun x => x) _ _ (fun _ => rfl) (fun _ h => h)
end Go.Proofs.YtfnhanmdfbdimaaDoor
