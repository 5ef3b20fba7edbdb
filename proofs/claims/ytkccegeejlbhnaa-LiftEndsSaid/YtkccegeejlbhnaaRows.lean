/-
  No cell of these rows narrows 'for every input' (looked for: loops, veiled, ifaces, maps, wideKeys, modest, calm, conditions, laid).
  DERIVED. THE GIVEN ROWS OF THIS SEAT. 4 by the template 'for every input the law returns true; each argument reads behind the call as it read before'; 0 by the template 'total and deterministic' (their statements: YtkccegeejlbhnaaTotals.lean).
  GIVEN WITH THE SEED: the statements are not yours to turn. If you find one false, say at which input.
  Laid BY PROGRAM, IN A SANDBOX (cutbox-rows.mjs): the forced cells as the released guide's own fill.sh prints them over the translation 0efe5082e2cb782b… (all of the seat's roots in one cut). By AI agents, Wed Nov 11 2026. No macro, syntax, notation, axiom, sorry.
-/
import Derived.Test.YtkccegeejlbhnaaChecked
import GoSem.Claim
import GoSem.ClaimJoined
import GoSem.ClaimMapViews
import Derived.JoinedTies
import Derived.KernelRfl
namespace Go.Proofs.Ytkccegeejlbhnaa
/- THE CELL 'sum', in the pinned program and in every row, IS THE sha256 OF THE DUMP (.gsa) THAT YtkccegeejlbhnaaProg.lean LOADS. Nothing in Lean hashes anything: it is a label: what it is worth is what the hold of that sum in a sandbox is worth. -/
noncomputable def Try.pinned : Pinned := { name := "ytkccegeejlbhnaa", sum := "0efe5082e2cb782b05f10b863dbb18ee0c2a24715d940b64fe282c3512ff7576", checked := Try.checked }
namespace Rows
def none {H : Type} : Left H := { results := [], args := [] }

/-- 'corebellkeep.LiftAll': WHATEVER THE INPUT: true; the input reads as it did. -/
def liftAllSpec : ChangeSpec := { name := "liftAll", fn := fun _ => fun
  | [d1, d2] => { results := [.lit (.bool true)], args := [d1, d2] }
  | _ => none }
def liftAllRow : OpenClaim := { program := "ytkccegeejlbhnaa", sum := "0efe5082e2cb782b05f10b863dbb18ee0c2a24715d940b64fe282c3512ff7576", func := "corebell/corebellkeep.LiftAll", spec := "liftAll", unfollowed := true, recurses := true, apart := false }
def LiftAllSaid : Prop := liftAllRow.holds Try.pinned (OpenSpec.ofChange liftAllSpec)

/-- ITS FALSE NEIGHBOUR: 'it returns false'. Refute it at one input. -/
def liftAllWrong : ChangeSpec := { name := "liftAll", fn := fun _ => fun
  | [d1, d2] => { results := [.lit (.bool false)], args := [d1, d2] }
  | _ => none }
def LiftAllWrongFalsely : Prop := liftAllRow.holds Try.pinned (OpenSpec.ofChange liftAllWrong)

/-- 'corebellkeep.LiftMerged': WHATEVER THE INPUT: true; the input reads as it did. -/
def liftMergedSpec : ChangeSpec := { name := "liftMerged", fn := fun _ => fun
  | [d1, d2] => { results := [.lit (.bool true)], args := [d1, d2] }
  | _ => none }
def liftMergedRow : OpenClaim := { program := "ytkccegeejlbhnaa", sum := "0efe5082e2cb782b05f10b863dbb18ee0c2a24715d940b64fe282c3512ff7576", func := "corebell/corebellkeep.LiftMerged", spec := "liftMerged", unfollowed := true, recurses := true, apart := false }
def LiftMergedSaid : Prop := liftMergedRow.holds Try.pinned (OpenSpec.ofChange liftMergedSpec)

/-- ITS FALSE NEIGHBOUR: 'it returns false'. Refute it at one input. -/
def liftMergedWrong : ChangeSpec := { name := "liftMerged", fn := fun _ => fun
  | [d1, d2] => { results := [.lit (.bool false)], args := [d1, d2] }
  | _ => none }
def LiftMergedWrongFalsely : Prop := liftMergedRow.holds Try.pinned (OpenSpec.ofChange liftMergedWrong)

/-- 'corebellkeep.LiftBest': WHATEVER THE INPUT: true; the input reads as it did. -/
def liftBestSpec : ChangeSpec := { name := "liftBest", fn := fun _ => fun
  | [d1, d2, d3] => { results := [.lit (.bool true)], args := [d1, d2, d3] }
  | _ => none }
def liftBestRow : OpenClaim := { program := "ytkccegeejlbhnaa", sum := "0efe5082e2cb782b05f10b863dbb18ee0c2a24715d940b64fe282c3512ff7576", func := "corebell/corebellkeep.LiftBest", spec := "liftBest", unfollowed := true, recurses := true, apart := false }
def LiftBestSaid : Prop := liftBestRow.holds Try.pinned (OpenSpec.ofChange liftBestSpec)

/-- ITS FALSE NEIGHBOUR: 'it returns false'. Refute it at one input. -/
def liftBestWrong : ChangeSpec := { name := "liftBest", fn := fun _ => fun
  | [d1, d2, d3] => { results := [.lit (.bool false)], args := [d1, d2, d3] }
  | _ => none }
def LiftBestWrongFalsely : Prop := liftBestRow.holds Try.pinned (OpenSpec.ofChange liftBestWrong)

/-- 'corebellkeep.LiftEnds': WHATEVER THE INPUT: true; the input reads as it did. -/
def liftEndsSpec : ChangeSpec := { name := "liftEnds", fn := fun _ => fun
  | [d1, d2] => { results := [.lit (.bool true)], args := [d1, d2] }
  | _ => none }
def liftEndsRow : OpenClaim := { program := "ytkccegeejlbhnaa", sum := "0efe5082e2cb782b05f10b863dbb18ee0c2a24715d940b64fe282c3512ff7576", func := "corebell/corebellkeep.LiftEnds", spec := "liftEnds", unfollowed := true, recurses := true, apart := false }
def LiftEndsSaid : Prop := liftEndsRow.holds Try.pinned (OpenSpec.ofChange liftEndsSpec)

/-- ITS FALSE NEIGHBOUR: 'it returns false'. Refute it at one input. -/
def liftEndsWrong : ChangeSpec := { name := "liftEnds", fn := fun _ => fun
  | [d1, d2] => { results := [.lit (.bool false)], args := [d1, d2] }
  | _ => none }
def LiftEndsWrongFalsely : Prop := liftEndsRow.holds Try.pinned (OpenSpec.ofChange liftEndsWrong)

/- THE SECOND FORM. 'bulk': how many values and letters a reading holds, each counted each time it is reached (what is shared counts as often as it is met; a slice's spare places count too). A statement '..UptoSaid' is the law's where the arguments, and the package variables that the reading takes, are together of bulk at most 1048576: NARROWER than '..Said'. Prove '..Said' where nothing that the law and all that it calls make is longer than what came in: it says more and counts as full. Else prove '..UptoSaid'. A law counts once. -/
mutual
def uptoBulk {H : Type} : DataW H → Nat
  | .lit (.string bytes) => bytes.length + 1
  | .lit _ => 1
  | .nil => 1
  | .ptr d => uptoBulk d + 1
  | .slice elems spare => uptoBulkAll elems + uptoBulkAll spare + 1
  | .agg parts => uptoBulkAll parts + 1
  | .iface _ d => uptoBulk d + 1
  | .map entries => uptoBulkEntries entries + 1
  | .held _ => 1
def uptoBulkAll {H : Type} : List (DataW H) → Nat
  | [] => 0
  | d :: r => uptoBulk d + uptoBulkAll r
def uptoBulkEntries {H : Type} : List (Lit × DataW H) → Nat
  | [] => 0
  | x :: r => uptoBulkEntry x + uptoBulkEntries r
def uptoBulkEntry {H : Type} : Lit × DataW H → Nat
  | (.string bytes, d) => bytes.length + uptoBulk d + 1
  | (_, d) => uptoBulk d + 1
 end
def uptoSmall : (H : Type) → List (DataW H) → Bool := fun _ ds => decide (uptoBulkAll ds ≤ 1048576)
def OpenSpec.upto (s : _root_.Go.ChangeSpec) : _root_.Go.OpenSpec := { _root_.Go.OpenSpec.ofChange s with cond := some uptoSmall }

/-- 'corebellkeep.LiftAll', WHERE WHAT IT READS IS OF BULK AT MOST 1048576: true; the input reads as it did. -/
def liftAllUptoRow : OpenClaim := { program := "ytkccegeejlbhnaa", sum := "0efe5082e2cb782b05f10b863dbb18ee0c2a24715d940b64fe282c3512ff7576", func := "corebell/corebellkeep.LiftAll", spec := "liftAll", unfollowed := true, recurses := true, apart := false, narrowed := true }
def LiftAllUptoSaid : Prop := liftAllUptoRow.holds Try.pinned (OpenSpec.upto liftAllSpec)

/-- 'corebellkeep.LiftMerged', WHERE WHAT IT READS IS OF BULK AT MOST 1048576: true; the input reads as it did. -/
def liftMergedUptoRow : OpenClaim := { program := "ytkccegeejlbhnaa", sum := "0efe5082e2cb782b05f10b863dbb18ee0c2a24715d940b64fe282c3512ff7576", func := "corebell/corebellkeep.LiftMerged", spec := "liftMerged", unfollowed := true, recurses := true, apart := false, narrowed := true }
def LiftMergedUptoSaid : Prop := liftMergedUptoRow.holds Try.pinned (OpenSpec.upto liftMergedSpec)

/-- 'corebellkeep.LiftBest', WHERE WHAT IT READS IS OF BULK AT MOST 1048576: true; the input reads as it did. -/
def liftBestUptoRow : OpenClaim := { program := "ytkccegeejlbhnaa", sum := "0efe5082e2cb782b05f10b863dbb18ee0c2a24715d940b64fe282c3512ff7576", func := "corebell/corebellkeep.LiftBest", spec := "liftBest", unfollowed := true, recurses := true, apart := false, narrowed := true }
def LiftBestUptoSaid : Prop := liftBestUptoRow.holds Try.pinned (OpenSpec.upto liftBestSpec)

/-- 'corebellkeep.LiftEnds', WHERE WHAT IT READS IS OF BULK AT MOST 1048576: true; the input reads as it did. -/
def liftEndsUptoRow : OpenClaim := { program := "ytkccegeejlbhnaa", sum := "0efe5082e2cb782b05f10b863dbb18ee0c2a24715d940b64fe282c3512ff7576", func := "corebell/corebellkeep.LiftEnds", spec := "liftEnds", unfollowed := true, recurses := true, apart := false, narrowed := true }
def LiftEndsUptoSaid : Prop := liftEndsUptoRow.holds Try.pinned (OpenSpec.upto liftEndsSpec)

end Rows
end Go.Proofs.Ytkccegeejlbhnaa
