import Derived.Test.YtaminiganaagiaaDoorQKVW7
import Derived.Test.YtaminiganaagiaaDoorAbUa
import Derived.Test.YtaminiganaagiaaDoorAbUb
import Derived.LaidMore
import Derived.LaidHandle
import Derived.LaidLaws
import Derived.Stop.Joined
import Derived.Test.YtaminiganaagiaaDoorAbZ
import Derived.ProofKit
set_option linter.unusedSimpArgs false
set_option linter.unusedVariables false
namespace Go.Proofs.YtaminiganaagiaaDoor
open Go Go.Ab
open Go.ChangeShapes Go.WideShapes Go.ChangeAt Go.RowKit
theorem own : ownKnob Tryd.prog.godebug = none := by kernel_rfl
theorem laidOut : laidOutB Tryd.prog = true := by kernel_rfl
theorem gok_laid {W : World} (h : laidMetH Tryd.prog [("math/bits.deBruijn64tab", Rows.laid_math_bits_deBruijn64tab)] W) : GOk Tryd.prog W :=
 gok_of_laid (g := 0) (t := 132) (u := 5) (by kernel_rfl) (by kernel_rfl) Tryd.underlying132 Tryd.underlying5 (by kernel_rfl) (by kernel_rfl) h
theorem door_met (os : Os) (args : Array Value) : laidMetH Tryd.prog [("math/bits.deBruijn64tab", Rows.laid_math_bits_deBruijn64tab)] ((World.doorLaid Tryd.prog 400 os).forCall (fun _ _ => 0) ⟨#[], args, []⟩).memory :=
 laidMetH_of_parts3 (fuel := 8) (laidMet_of_run' 8 (by kernel_rfl) (by kernel_rfl)) (by kernel_rfl) (by kernel_rfl)
theorem cells3 : Tryd.prog.cellsOf 3 = 1 := by kernel_rfl
theorem bytes3 : Tryd.prog.bytesOf 3 = 8 := by kernel_rfl
theorem cells5 : Tryd.prog.cellsOf 5 = 1 := by kernel_rfl
theorem bytes5 : Tryd.prog.bytesOf 5 = 1 := by kernel_rfl
theorem R3 : Reads Tryd.prog 3 Int (fun x => [.raw (.int .i64 x)]) (fun x => (-9223372036854775808 ≤ x ∧ x ≤ 9223372036854775807)) := reads_i64 Tryd.underlying3
theorem R41 : Reads Tryd.prog 41 (List Int) (fun x => [(E3.ro x)]) (fun x => (x.length * 8 ≤ 140737488351232 ∧ ∀ y ∈ x, (-9223372036854775808 ≤ y ∧ y ≤ 9223372036854775807))) := reads_list E3 Tryd.underlying41 R3 rfl cells3 (by decide) bytes3 (by decide)
theorem R5 : Reads Tryd.prog 5 Int (fun x => [.raw (.int .u8 x)]) (fun x => (0 ≤ x ∧ x ≤ 255)) := reads_u8 Tryd.underlying5
theorem R28 : Reads Tryd.prog 28 (List Int) (fun x => [(E5.ro x)]) (fun x => (x.length * 1 ≤ 140737488351232 ∧ ∀ y ∈ x, (0 ≤ y ∧ y ≤ 255))) := reads_list E5 Tryd.underlying28 R5 rfl cells5 (by decide) bytes5 (by decide)
end Go.Proofs.YtaminiganaagiaaDoor

