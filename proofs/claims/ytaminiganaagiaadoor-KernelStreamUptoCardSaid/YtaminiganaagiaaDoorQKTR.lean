import Derived.Test.YtaminiganaagiaaDoorQKTW7
import Derived.Test.YtaminiganaagiaaDoorAbUa
import Derived.Test.YtaminiganaagiaaDoorAbUc
import Derived.Test.YtaminiganaagiaaDoorAbUb
import Derived.LaidMore
import Derived.LaidHandle
import Derived.LaidLaws
import Derived.Stop.Joined
import Derived.Test.YtaminiganaagiaaDoorAbZu
import Derived.ProofKit
set_option linter.unusedSimpArgs false
set_option linter.unusedVariables false
namespace Go.Proofs.YtaminiganaagiaaDoor
open Go Go.Ab
open Go.ChangeShapes Go.WideShapes Go.ChangeAt Go.RowKit
theorem own : ownKnob Tryd.prog.godebug = none := by kernel_rfl
theorem laidOut : laidOutB Tryd.prog = true := by kernel_rfl
theorem gok_laid {W : World} (h : laidMetH Tryd.prog [("math/bits.deBruijn64tab", Rows.laid_math_bits_deBruijn64tab)] W) : GOk Tryd.prog W :=
 gok_of_laid (g := 0) (t := 132) (u := 5) (by kernel_rfl) (by kernel_rfl) Tryd.underlying132 Tryd.underlying5 (by kernel_rfl) (by kernel_rfl) h
theorem door_met (os : Os) (args : Array Value) : laidMetH Tryd.prog [("math/bits.deBruijn64tab", Rows.laid_math_bits_deBruijn64tab)] ((World.doorLaid Tryd.prog 400 os).forCall (fun _ _ => 0) ⟨#[], args, []⟩).memory :=
 laidMetH_of_parts3 (fuel := 8) (laidMet_of_run' 8 (by kernel_rfl) (by kernel_rfl)) (by kernel_rfl) (by kernel_rfl)
theorem cells5 : Tryd.prog.cellsOf 5 = 1 := by kernel_rfl
theorem cells3 : Tryd.prog.cellsOf 3 = 1 := by kernel_rfl
theorem cells26 : Tryd.prog.cellsOf 26 = 4 := by kernel_rfl
theorem bytes26 : Tryd.prog.bytesOf 26 = 32 := by kernel_rfl
theorem RU5 : ReadsU Tryd.prog 5 Int (fun x => [.raw (.int .u8 x)]) (fun x => (0 ≤ x ∧ x ≤ 255)) := readsU_u8 Tryd.underlying5
theorem RU3 : ReadsU Tryd.prog 3 Int (fun x => [.raw (.int .i64 x)]) (fun x => (-9223372036854775808 ≤ x ∧ x ≤ 9223372036854775807)) := readsU_i64 Tryd.underlying3
theorem RU26 : ReadsU Tryd.prog 26 Api_KernOp (fun x => [.raw (.int .i64 x.Kind), .raw (.int .i64 x.Core), .raw (.int .i64 x.N), .raw (.int .u8 x.Byte)]) (fun x => (OkU_Api_KernOp x)) := (readsU_struct Tryd.underlying26 (readsFsU_cons RU3 rfl cells3 rfl (readsFsU_cons RU3 rfl cells3 rfl (readsFsU_cons RU3 rfl cells3 rfl (readsFsU_cons RU5 rfl cells5 rfl readsFsU_nil)))) (by kernel_rfl)).map (fun x => ⟨x.1, x.2.1, x.2.2.1, x.2.2.2.1⟩) _ _ (fun _ => rfl) (fun _ h => by obtain ⟨h0, h1, h2, h3, -⟩ := h; exact ⟨h0, h1, h2, h3⟩)
theorem RU22 : ReadsU Tryd.prog 22 (List Api_KernOp) (fun x => [(E26.ro x)]) (fun x => (x.length ≤ 1048576 ∧ ∀ y ∈ x, (OkU_Api_KernOp y))) := readsU_list E26 Tryd.underlying22 RU26 rfl cells26 (by decide) bytes26 (by decide)
end Go.Proofs.YtaminiganaagiaaDoor

