/- The functions do as their models: printed by program. -/
import Derived.Test.YtmmhiggfpdjdcaaQRCT
import Derived.Test.YtmmhiggfpdjdcaaQRCM
import Derived.Test.YtmmhiggfpdjdcaaAbYs
import Derived.Test.YtmmhiggfpdjdcaaAbYc
import Derived.Test.YtmmhiggfpdjdcaaAbYt
import Derived.Test.YtmmhiggfpdjdcaaAbYi
import Derived.Test.YtmmhiggfpdjdcaaAbYv
import Derived.Test.YtmmhiggfpdjdcaaQRCV
import Derived.Test.YtmmhiggfpdjdcaaQRCS
set_option linter.unusedSimpArgs false
set_option linter.unusedVariables false
namespace Go.Proofs.Ytmmhiggfpdjdcaa
open Go Go.Ab
theorem mixed : Try.prog.follows .mixedOrders = true := by kernel_rfl
def E3 : Elem Int := { s := 1, cf := fun x j => match j with | _ => .raw (.int .i64 x), z := 0 }
theorem E3_raw : E3.Raw := by
  intro x j
  exact ⟨_, rfl⟩
def E31 : Elem Api_RunOp := { s := 3, cf := fun x j => match j with | 0 => .raw (.int .i64 x.Kind) | 1 => .raw (.int .i64 x.Id) | _ => .raw (.int .i64 x.Level), z := (⟨0, 0, 0⟩ : Api_RunOp) }
theorem E31_raw : E31.Raw := by
  intro x j
  match j with
  | 0 => exact ⟨_, rfl⟩
  | 1 => exact ⟨_, rfl⟩
  | n + 2 => exact ⟨_, rfl⟩
def E36 : Elem Int := { s := 1, cf := fun x j => match j with | _ => .raw (.int .i64 x), z := 0 }
theorem E36_raw : E36.Raw := by
  intro x j
  exact ⟨_, rfl⟩
def E25 : Elem (List Int) := { s := 1, cf := fun x j => match j with | _ => (E3.ro x), z := [] }
attribute [local irreducible] V VS runS Sk.Holds

set_option maxRecDepth 100000 in
theorem slices_Insert_int_ok (a0 : List Int) (a1 : Int) (a2 r : List Int) (h : slices_Insert_int a0 a1 a2 = some r) {al : Bool} : MCalls Try.prog 13 [.row 0 1 0 a0.length, .pv (.raw (.int .i64 a1)), .row 1 1 0 a2.length] [.row 3 1 (E3.cR a0), .row 3 1 (E3.cR a2)] 0 al (.row 0 1 0 r.length) [.row 3 1 (E3.cR r)] := by
  unfold slices_Insert_int at h
  obtain ⟨⟨g1, g2, g3, g4, g5⟩, h⟩ := if_ h
  obtain rfl := some_ h
  obtain ⟨i, rfl⟩ : ∃ i : Nat, a1 = i := ⟨a1.toNat, by omega⟩
  simp only [Int.toNat_natCast]
  obtain ⟨_, info, hi, hi1, hi2, hz, _⟩ := tabOk 3 _ tab_3
  have hi1 : info.size = 1 := hi1
  have hi2 : info.bytes = 8 := hi2
  obtain ⟨z, hz, hzs⟩ : ∃ z, info.zero = some z ∧ z.cells.size = 1 := ⟨_, hz, by kernel_rfl⟩
  exact ins_mcalls (ρ := (⟨fun | 21 => 13 | 27 => 24 | 28 => 25 | n => n, fun | 0 => 0 | 3 => 3 | 4 => 4 | 22 => 25 | n => n, fun | n => n⟩ : Go.Shelf.Ren)) (nm := Try.f13.name) (og := Try.f13.origin) (ta := Try.f13.targs) (e := 3) (ti := info) (z := z)
    { mixed := mixed, f21 := Try.func13.trans (congrArg some (by kernel_rfl)),
      ov := fun w x y => run_callFunc_extern Try.func24 (by kernel_rfl) (by kernel_rfl) (by kernel_rfl) (e := Extern.SlicesOverlaps.overlaps #[25, 25] #[4]) (by kernel_rfl) #[x, y] w,
      t3 := Try.underlying3, a3 := Try.isAgg3, z3 := Try.sizeOf3, v3 := Try.zeroValue3, t4 := Try.underlying4, a4 := Try.isAgg4, z4 := Try.sizeOf4, v4 := Try.zeroValue4,
      t22 := Try.underlying25, a22 := Try.isAgg25, z22 := Try.sizeOf25, v22 := Try.zeroValue25, ie := hi, ze := fun w => by rw [hi1]; exact Try.sizeOf3 w, zv := hz, zc := by rw [hzs, hi1], pos := by rw [hi1]; decide }
    rfl ⟨_, Try.func13, by kernel_rfl, by kernel_rfl⟩ E3_raw rfl hi1.symm hi2 (by omega) g3 (by simpa using g4) (by omega)

end Go.Proofs.Ytmmhiggfpdjdcaa
