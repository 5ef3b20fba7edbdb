import Derived.Test.YthmieigenefilaaGreatDoorQBTP
import Derived.Test.YthmieigenefilaaGreatDoorQBVS
set_option linter.unusedVariables false
set_option linter.unusedSimpArgs false
namespace Go.Proofs
open Go.RowKit Go.Bn Go.Ab
theorem Tryz.repeat_pcalls (s : ByteArray) (c : Int) (h2 : 2 ≤ c ∧ c ≤ 100000000) (h0 : 0 < s.size ∧ s.size ≤ 100000) {al : Bool} : PCalls Tryz.prog 17 [.pv (.raw (.string s)), .pv (.raw (.int .i64 c))] al (.pv (.raw (.string (bOf (Lib.repeatL s.data.toList c.toNat))))) [] := by
 obtain ⟨n, rfl⟩ : ∃ n : Nat, c = n := ⟨c.toNat, by omega⟩
 have hm : s.size * n ≤ 100000 * 100000000 := Nat.mul_le_mul h0.2 (by omega)
 exact given_pcalls (xs := [.string s, .int .i64 (n : Int)]) ⟨_, Tryz.func17, by kernel_rfl, by kernel_rfl⟩ (fun R w => rfl) fun w hgo => Tryz.strings_Repeat_main s n w (by omega) (by omega) (by omega) h0.1
theorem Tryz.prefix_pcalls (s p : ByteArray) {al : Bool} : PCalls Tryz.prog 18 [.pv (.raw (.string s)), .pv (.raw (.string p))] al (.pv (.raw (.bool (Lib.hasPrefix s.data.toList p.data.toList)))) [] :=
 given_pcalls (xs := [.string s, .string p]) ⟨_, Tryz.func18, by kernel_rfl, by kernel_rfl⟩ (fun R w => rfl) fun w hgo => (Tryz.strings_HasPrefix s p w).mono (by rintro e w' ⟨rfl, rfl⟩; exact ⟨rfl, Below.refl _ _⟩)
end Go.Proofs
