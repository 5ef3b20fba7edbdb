import Derived.Test.YthmieigenefilaaGreatDoorQBWW7
import Derived.Test.YthmieigenefilaaGreatDoorAbUc
import Derived.Test.YthmieigenefilaaGreatDoorAbUb
import Derived.LaidMore
import Derived.LaidHandle
import Derived.LaidLaws
import Derived.Stop.Joined
import Derived.ProofKit
set_option linter.unusedSimpArgs false
set_option linter.unusedVariables false
namespace Go.Proofs.YthmieigenefilaaGreatDoor
open Go Go.Ab
open Go.ChangeShapes Go.WideShapes Go.ChangeAt Go.RowKit
theorem own : ownKnob Tryz.prog.godebug = none := by kernel_rfl
theorem laidOut : laidOutB Tryz.prog = true := by kernel_rfl
theorem tabs_eq : tabsOf Tryz.prog = [(4, bruijnIs), (3, powIs), (2, errIs), (1, errIs)] := by kernel_rfl
theorem gok_laid {W : World} (h : laidMetH Tryz.prog [("math/bits.deBruijn32tab", Rows.laid_math_bits_deBruijn32tab), ("math/bits.deBruijn64tab", Rows.laid_math_bits_deBruijn64tab), ("internal/strconv.uint64pow10", Rows.laid_internal_strconv_uint64pow10), ("strconv.ErrRange", Rows.laid_strconv_ErrRange), ("strconv.ErrSyntax", Rows.laid_strconv_ErrSyntax)] W) : GOk Tryz.prog W := by
 have e := fun (i : Nat) (n : String) (d : DataW Unit) hi => laid_each' h (by kernel_rfl) i (n := n) (d := d) hi
 intro x hx
 rw [tabs_eq] at hx
 simp only [List.mem_cons, List.not_mem_nil, or_false] at hx
 rcases hx with rfl | rfl | rfl | rfl
 ·exact glob_tab (g := 4) (t := 222) (e := 5) (m := 64) (k := .u8) (zs := (Lib.deBruijn64tab.map fun n : Nat => (n : Int))) (e 1 "math/bits.deBruijn64tab" Rows.laid_math_bits_deBruijn64tab rfl) (by kernel_rfl) (by kernel_rfl) (by kernel_rfl) Tryz.underlying222 Tryz.underlying5 (by kernel_rfl) (by kernel_rfl) bruijn_is
 ·exact glob_tab (g := 3) (t := 214) (e := 61) (m := 20) (k := .u64) (zs := Lib.pow10Tab) (e 2 "internal/strconv.uint64pow10" Rows.laid_internal_strconv_uint64pow10 rfl) (by kernel_rfl) (by kernel_rfl) (by kernel_rfl) Tryz.underlying214 Tryz.underlying61 (by kernel_rfl) (by kernel_rfl) pow_is
 ·exact glob_err (g := 2) (t := 121) (e 3 "strconv.ErrRange" Rows.laid_strconv_ErrRange rfl) rfl (by kernel_rfl) (by kernel_rfl) Tryz.underlying121
 ·exact glob_err (g := 1) (t := 121) (e 4 "strconv.ErrSyntax" Rows.laid_strconv_ErrSyntax rfl) rfl (by kernel_rfl) (by kernel_rfl) Tryz.underlying121
theorem door_met (os : Os) (args : Array Value) : laidMetH Tryz.prog [("math/bits.deBruijn32tab", Rows.laid_math_bits_deBruijn32tab), ("math/bits.deBruijn64tab", Rows.laid_math_bits_deBruijn64tab), ("internal/strconv.uint64pow10", Rows.laid_internal_strconv_uint64pow10), ("strconv.ErrRange", Rows.laid_strconv_ErrRange), ("strconv.ErrSyntax", Rows.laid_strconv_ErrSyntax)] ((World.doorLaid Tryz.prog 400 os).forCall (fun _ _ => 0) ⟨#[], args, []⟩).memory :=
 laidMetH_of_parts3 (fuel := 8) (laidMet_of_run' 8 (by kernel_rfl) (by kernel_rfl)) (by kernel_rfl) (by kernel_rfl)
theorem RU9 : ReadsU Tryz.prog 9 ByteArray (fun x => [.raw (.string x)]) (fun x => (x.size ≤ 1048576)) := readsU_str Tryz.underlying9
end Go.Proofs.YthmieigenefilaaGreatDoor
