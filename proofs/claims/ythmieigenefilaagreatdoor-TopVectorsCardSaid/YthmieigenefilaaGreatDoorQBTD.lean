import Derived.Test.YthmieigenefilaaGreatDoorQBTC
set_option linter.unusedVariables false
set_option linter.unusedSimpArgs false
set_option maxRecDepth 100000
namespace Go.Proofs
open Go.RowKit Go.Bn
set_option maxHeartbeats 1000000 in
theorem Tryz.cut (s sep : ByteArray) (c : UInt8) (hc : sep = ⟨#[c]⟩) (w : World) (hs : s.size ≤ 140737488355328) :
  Calls Tryz.prog 29 #[.string s, .string sep] w fun e w' => e = .returned (.tuple #[.string (bOf (cutL c s.data.toList).1), .string (bOf (cutL c s.data.toList).2.1), .bool (cutL c s.data.toList).2.2]) ∧ ∃ n, w' = w.drewN n := by
 have hI := fun w => Tryz.cut0 s sep c hc w hs
 clear hc hs
 generalize bOf (cutL c s.data.toList).1 = x, bOf (cutL c s.data.toList).2.1 = y, (cutL c s.data.toList).2.2 = z at hI ⊢
 go_enter Tryz.func29, Tryz.ntmps29
 go_wp2_with fail
 refine (hI _).mono ?_
 rintro e w' ⟨rfl, n, rfl⟩
 go_wp2
 go_ret3
 exact ⟨rfl, n, rfl⟩
def wordsV : Array Value := #[.string (bOf [105, 110]), .string (bOf [114, 117, 110]), .string (bOf [114, 101, 97, 100]), .string (bOf [115, 97, 118, 101]), .string (bOf [114, 101, 115, 116, 111, 114, 101]), .string (bOf [109, 111, 118, 101])]
set_option maxHeartbeats 1000000 in
theorem Tryz.words (w : World) : Calls Tryz.prog 52 #[] w fun e w' => e = .returned (.slice (some ⟨w.heap.size, 0, none⟩) 6 6) ∧ w' = w.alloc (.cells wordsV 9) := by
 go_enter Tryz.func52, Tryz.ntmps52
 go_wp2
 go_ret
 exact ⟨rfl, rfl⟩
set_option maxHeartbeats 1000000 in
theorem Tryz.number_read (b : Nat) (w : World) (h : w.cell? ⟨b, 0, none⟩ = some (.int .i64 3)) :
  Calls Tryz.prog 53 #[.pointer (some ⟨b, 0, none⟩)] w fun e w' => e = .returned (.pointer (some ⟨b, 2, none⟩)) ∧ w' = w := by
 go_enter Tryz.func53, Tryz.ntmps53
 go_wp2
 go_ret
 exact ⟨rfl, rfl⟩
set_option maxHeartbeats 1000000 in
theorem Tryz.number_core (b : Nat) (k : Int) (hk : k ≠ 3) (w : World) (h : w.cell? ⟨b, 0, none⟩ = some (.int .i64 k)) :
  Calls Tryz.prog 53 #[.pointer (some ⟨b, 0, none⟩)] w fun e w' => e = .returned (.pointer (some ⟨b, 1, none⟩)) ∧ w' = w := by
 have h3 : decide (k = 3) = false := by simpa using hk
 go_enter Tryz.func53, Tryz.ntmps53
 go_wp2
 go_ret
 exact ⟨rfl, rfl⟩
end Go.Proofs
