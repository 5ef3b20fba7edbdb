import Derived.Test.YthmieigenefilaaGreatDoorQBYW14
import Derived.Test.YthmieigenefilaaGreatDoorAbUa
import Derived.Test.YthmieigenefilaaGreatDoorAbUb
import Derived.LaidMore
import Derived.LaidHandle
import Derived.LaidLaws
import Derived.Stop.Joined
import Derived.ProofKit
set_option linter.unusedSimpArgs false
set_option linter.unusedVariables false
namespace Go.Proofs.YthmieigenefilaaGreatDoor
open Go Go.Ab
open Go.ChangeShapes Go.WideShapes Go.ChangeAt Go.RowKit
theorem own : ownKnob Tryz.prog.godebug = none := by kernel_rfl
theorem laidOut : laidOutB Tryz.prog = true := by kernel_rfl
theorem tabs_eq : tabsOf Tryz.prog = [(4, bruijnIs), (3, powIs), (2, errIs), (1, errIs)] := by kernel_rfl
theorem gok_laid {W : World} (h : laidMetH Tryz.prog [("math/bits.deBruijn32tab", Rows.laid_math_bits_deBruijn32tab), ("math/bits.deBruijn64tab", Rows.laid_math_bits_deBruijn64tab), ("internal/strconv.uint64pow10", Rows.laid_internal_strconv_uint64pow10), ("strconv.ErrRange", Rows.laid_strconv_ErrRange), ("strconv.ErrSyntax", Rows.laid_strconv_ErrSyntax)] W) : GOk Tryz.prog W := by
 have e := fun (i : Nat) (n : String) (d : DataW Unit) hi => laid_each' h (by kernel_rfl) i (n := n) (d := d) hi
 intro x hx
 rw [tabs_eq] at hx
 simp only [List.mem_cons, List.not_mem_nil, or_false] at hx
 rcases hx with rfl | rfl | rfl | rfl
 ·exact glob_tab (g := 4) (t := 222) (e := 5) (m := 64) (k := .u8) (zs := (Lib.deBruijn64tab.map fun n : Nat => (n : Int))) (e 1 "math/bits.deBruijn64tab" Rows.laid_math_bits_deBruijn64tab rfl) (by kernel_rfl) (by kernel_rfl) (by kernel_rfl) Tryz.underlying222 Tryz.underlying5 (by kernel_rfl) (by kernel_rfl) bruijn_is
 ·exact glob_tab (g := 3) (t := 214) (e := 61) (m := 20) (k := .u64) (zs := Lib.pow10Tab) (e 2 "internal/strconv.uint64pow10" Rows.laid_internal_strconv_uint64pow10 rfl) (by kernel_rfl) (by kernel_rfl) (by kernel_rfl) Tryz.underlying214 Tryz.underlying61 (by kernel_rfl) (by kernel_rfl) pow_is
 ·exact glob_err (g := 2) (t := 121) (e 3 "strconv.ErrRange" Rows.laid_strconv_ErrRange rfl) rfl (by kernel_rfl) (by kernel_rfl) Tryz.underlying121
 ·exact glob_err (g := 1) (t := 121) (e 4 "strconv.ErrSyntax" Rows.laid_strconv_ErrSyntax rfl) rfl (by kernel_rfl) (by kernel_rfl) Tryz.underlying121
theorem door_met (os : Os) (args : Array Value) : laidMetH Tryz.prog [("math/bits.deBruijn32tab", Rows.laid_math_bits_deBruijn32tab), ("math/bits.deBruijn64tab", Rows.laid_math_bits_deBruijn64tab), ("internal/strconv.uint64pow10", Rows.laid_internal_strconv_uint64pow10), ("strconv.ErrRange", Rows.laid_strconv_ErrRange), ("strconv.ErrSyntax", Rows.laid_strconv_ErrSyntax)] ((World.doorLaid Tryz.prog 400 os).forCall (fun _ _ => 0) ⟨#[], args, []⟩).memory :=
 laidMetH_of_parts3 (fuel := 8) (laidMet_of_run' 8 (by kernel_rfl) (by kernel_rfl)) (by kernel_rfl) (by kernel_rfl)
theorem cells3 : Tryz.prog.cellsOf 3 = 1 := by kernel_rfl
theorem cells103 : Tryz.prog.cellsOf 103 = 2 := by kernel_rfl
theorem bytes103 : Tryz.prog.bytesOf 103 = 16 := by kernel_rfl
theorem cells4 : Tryz.prog.cellsOf 4 = 1 := by kernel_rfl
theorem bytes4 : Tryz.prog.bytesOf 4 = 1 := by kernel_rfl
theorem cells98 : Tryz.prog.cellsOf 98 = 3 := by kernel_rfl
theorem bytes98 : Tryz.prog.bytesOf 98 = 24 := by kernel_rfl
theorem R3 : Reads Tryz.prog 3 Int (fun x => [.raw (.int .i64 x)]) (fun x => (-9223372036854775808 ≤ x ∧ x ≤ 9223372036854775807)) := reads_i64 Tryz.underlying3
theorem R103 : Reads Tryz.prog 103 Api_PinOp (fun x => [.raw (.int .i64 x.Kind), .raw (.int .i64 x.Pin)]) (fun x => (Ok_Api_PinOp x)) := (reads_struct Tryz.underlying103 (readsFs_cons R3 rfl cells3 rfl (readsFs_cons R3 rfl cells3 rfl readsFs_nil)) (by kernel_rfl)).map (fun x => ⟨x.1, x.2.1⟩) _ _ (fun _ => rfl) (fun _ h => by obtain ⟨h0, h1, -⟩ := h; exact ⟨h0, h1⟩)
theorem R41 : Reads Tryz.prog 41 (List Api_PinOp) (fun x => [(E103.ro x)]) (fun x => (x.length * 16 ≤ 140737488351232 ∧ ∀ y ∈ x, (Ok_Api_PinOp y))) := reads_list E103 Tryz.underlying41 R103 rfl cells103 (by decide) bytes103 (by decide)
theorem R4 : Reads Tryz.prog 4 Bool (fun x => [.raw (.bool x)]) (fun x => True) := reads_bool Tryz.underlying4
theorem R40 : Reads Tryz.prog 40 (List Bool) (fun x => [(E4.ro x)]) (fun x => (x.length * 1 ≤ 140737488351232 ∧ ∀ y ∈ x, True)) := reads_list E4 Tryz.underlying40 R4 rfl cells4 (by decide) bytes4 (by decide)
theorem R98 : Reads Tryz.prog 98 Api_VecOp (fun x => [.raw (.int .i64 x.Kind), .raw (.int .i64 x.Line), .raw (.int .i64 x.Mask)]) (fun x => (Ok_Api_VecOp x)) := (reads_struct Tryz.underlying98 (readsFs_cons R3 rfl cells3 rfl (readsFs_cons R3 rfl cells3 rfl (readsFs_cons R3 rfl cells3 rfl readsFs_nil))) (by kernel_rfl)).map (fun x => ⟨x.1, x.2.1, x.2.2.1⟩) _ _ (fun _ => rfl) (fun _ h => by obtain ⟨h0, h1, h2, -⟩ := h; exact ⟨h0, h1, h2⟩)
theorem R39 : Reads Tryz.prog 39 (List Api_VecOp) (fun x => [(E98.ro x)]) (fun x => (x.length * 24 ≤ 140737488351232 ∧ ∀ y ∈ x, (Ok_Api_VecOp y))) := reads_list E98 Tryz.underlying39 R98 rfl cells98 (by decide) bytes98 (by decide)
end Go.Proofs.YthmieigenefilaaGreatDoor
