/- What is read of the arguments: printed by program. -/
import Derived.Test.YtpkgaagajbfgbaaDoorQGW1
import Derived.Test.YtpkgaagajbfgbaaDoorAbUa
import Derived.Test.YtpkgaagajbfgbaaDoorAbUb
import Derived.LaidMore
import Derived.LaidHandle
import Derived.LaidLaws
import Derived.Stop.Joined
import Derived.Test.YtpkgaagajbfgbaaDoorAbZ
import Derived.ProofKit
set_option linter.unusedSimpArgs false
set_option linter.unusedVariables false
namespace Go.Proofs.YtpkgaagajbfgbaaDoor
open Go Go.Ab
open Go.ChangeShapes Go.WideShapes Go.ChangeAt Go.RowKit
theorem own : ownKnob Tryd.prog.godebug = none := by kernel_rfl
theorem laidOut : laidOutB Tryd.prog = true := by kernel_rfl
theorem gok_laid {W : World} (h : laidMetH Tryd.prog [("math/bits.deBruijn64tab", Rows.laid_math_bits_deBruijn64tab)] W) : GOk Tryd.prog W :=
  gok_of_laid (g := 0) (t := 50) (u := 5) (by kernel_rfl) (by kernel_rfl) Tryd.underlying50 Tryd.underlying5 (by kernel_rfl) (by kernel_rfl) h
theorem door_met (os : Os) (args : Array Value) : laidMetH Tryd.prog [("math/bits.deBruijn64tab", Rows.laid_math_bits_deBruijn64tab)] ((World.doorLaid Tryd.prog 400 os).forCall (fun _ _ => 0) ⟨#[], args, []⟩).memory :=
  laidMetH_of_parts3 (fuel := 8) (laidMet_of_run' 8 (by kernel_rfl) (by kernel_rfl)) (by kernel_rfl) (by kernel_rfl)
theorem cells3 : Tryd.prog.cellsOf 3 = 1 := by kernel_rfl
theorem cells24 : Tryd.prog.cellsOf 24 = 4 := by kernel_rfl
theorem cells22 : Tryd.prog.cellsOf 22 = 1 := by kernel_rfl
theorem cells28 : Tryd.prog.cellsOf 28 = 2 := by kernel_rfl
theorem bytes28 : Tryd.prog.bytesOf 28 = 16 := by kernel_rfl
theorem R3 : Reads Tryd.prog 3 Int (fun x => [.raw (.int .i64 x)]) (fun x => (-9223372036854775808 ≤ x ∧ x ≤ 9223372036854775807)) := reads_i64 Tryd.underlying3
theorem R28 : Reads Tryd.prog 28 Api_LocalOp (fun x => [.raw (.int .i64 x.Kind), .raw (.int .i64 x.N)]) (fun x => (Ok_Api_LocalOp x)) := (reads_struct Tryd.underlying28 (readsFs_cons R3 rfl cells3 rfl (readsFs_cons R3 rfl cells3 rfl readsFs_nil)) (by kernel_rfl)).map (fun x => ⟨x.1, x.2.1⟩) _ _ (fun _ => rfl) (fun _ h => by obtain ⟨h0, h1, -⟩ := h; exact ⟨h0, h1⟩)
theorem R22 : Reads Tryd.prog 22 Int (fun x => [.raw (.int .u64 x)]) (fun x => (0 ≤ x ∧ x ≤ 18446744073709551615)) := reads_u64 Tryd.underlying22
theorem R24 : Reads Tryd.prog 24 (Nat → Int) (fun x => [.raw (.int .u64 (x 0)), .raw (.int .u64 (x 1)), .raw (.int .u64 (x 2)), .raw (.int .u64 (x 3))]) (fun x => (∀ i, i < 4 → (0 ≤ (x i) ∧ (x i) ≤ 18446744073709551615))) := (reads_array Tryd.underlying24 R22 cells22 cells24).map (fun x => x) _ _ (fun _ => rfl) (fun _ h => h)
theorem R26 : Reads Tryd.prog 26 Api_Local (fun x => [.raw (.int .u64 (x.Asked 0)), .raw (.int .u64 (x.Asked 1)), .raw (.int .u64 (x.Asked 2)), .raw (.int .u64 (x.Asked 3)), .raw (.int .u64 (x.Served 0)), .raw (.int .u64 (x.Served 1)), .raw (.int .u64 (x.Served 2)), .raw (.int .u64 (x.Served 3)), .raw (.int .i64 x.Class)]) (fun x => (Ok_Api_Local x)) := (reads_struct Tryd.underlying26 (readsFs_cons R24 rfl cells24 rfl (readsFs_cons R24 rfl cells24 rfl (readsFs_cons R3 rfl cells3 rfl readsFs_nil))) (by kernel_rfl)).map (fun x => ⟨x.1, x.2.1, x.2.2.1⟩) _ _ (fun _ => rfl) (fun _ h => by obtain ⟨h0, h1, h2, -⟩ := h; exact ⟨h0, h1, h2⟩)
theorem R42 : Reads Tryd.prog 42 (List Api_LocalOp) (fun x => [(E28.ro x)]) (fun x => (x.length * 16 ≤ 140737488351232 ∧ ∀ y ∈ x, (Ok_Api_LocalOp y))) := reads_list E28 Tryd.underlying42 R28 rfl cells28 (by decide) bytes28 (by decide)
end Go.Proofs.YtpkgaagajbfgbaaDoor
