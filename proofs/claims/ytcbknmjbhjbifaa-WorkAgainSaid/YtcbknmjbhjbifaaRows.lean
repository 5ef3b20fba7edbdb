/-
  No cell of these rows narrows 'for every input' (looked for: loops, veiled, ifaces, maps, wideKeys, modest, calm, conditions, laid).
  DERIVED. THE GIVEN ROWS OF THIS SEAT. 12 by the template 'for every input the law returns true; each argument reads behind the call as it read before'; 0 by the template 'total and deterministic' (their statements: YtcbknmjbhjbifaaTotals.lean).
  GIVEN WITH THE SEED: the statements are not yours to turn. If you find one false, say at which input.
  Laid BY PROGRAM, IN A SANDBOX (cutbox-rows.mjs): the forced cells as the released guide's own fill.sh prints them over the translation 3a0fb930037e8a51… (all of the seat's roots in one cut). By AI agents, Wed Nov 11 2026. No macro, syntax, notation, axiom, sorry.
-/
import Derived.Test.YtcbknmjbhjbifaaChecked
import GoSem.Claim
import GoSem.ClaimJoined
import GoSem.ClaimMapViews
import Derived.JoinedTies
import Derived.KernelRfl
namespace Go.Proofs.Ytcbknmjbhjbifaa
/- THE CELL 'sum', in the pinned program and in every row, IS THE sha256 OF THE DUMP (.gsa) THAT YtcbknmjbhjbifaaProg.lean LOADS. Nothing in Lean hashes anything: it is a label: what it is worth is what the hold of that sum in a sandbox is worth. -/
noncomputable def Try.pinned : Pinned := { name := "ytcbknmjbhjbifaa", sum := "3a0fb930037e8a51d0b9468856ef4a79a85779667e68b395b2e3118cbbe2f722", checked := Try.checked }
namespace Rows
def none {H : Type} : Left H := { results := [], args := [] }

/-- 'corebellkeep.GraceSafe': WHATEVER THE INPUT: true; the input reads as it did. -/
def graceSafeSpec : ChangeSpec := { name := "graceSafe", fn := fun _ => fun
  | [d] => { results := [.lit (.bool true)], args := [d] }
  | _ => none }
def graceSafeRow : OpenClaim := { program := "ytcbknmjbhjbifaa", sum := "3a0fb930037e8a51d0b9468856ef4a79a85779667e68b395b2e3118cbbe2f722", func := "corebell/corebellkeep.GraceSafe", spec := "graceSafe", apart := false }
def GraceSafeSaid : Prop := graceSafeRow.holds Try.pinned (OpenSpec.ofChange graceSafeSpec)

/-- ITS FALSE NEIGHBOUR: 'it returns false'. Refute it at one input. -/
def graceSafeWrong : ChangeSpec := { name := "graceSafe", fn := fun _ => fun
  | [d] => { results := [.lit (.bool false)], args := [d] }
  | _ => none }
def GraceSafeWrongFalsely : Prop := graceSafeRow.holds Try.pinned (OpenSpec.ofChange graceSafeWrong)

/-- 'corebellkeep.GraceNobody': WHATEVER THE INPUT: true; the input reads as it did. -/
def graceNobodySpec : ChangeSpec := { name := "graceNobody", fn := fun _ => fun
  | [d] => { results := [.lit (.bool true)], args := [d] }
  | _ => none }
def graceNobodyRow : OpenClaim := { program := "ytcbknmjbhjbifaa", sum := "3a0fb930037e8a51d0b9468856ef4a79a85779667e68b395b2e3118cbbe2f722", func := "corebell/corebellkeep.GraceNobody", spec := "graceNobody", apart := false }
def GraceNobodySaid : Prop := graceNobodyRow.holds Try.pinned (OpenSpec.ofChange graceNobodySpec)

/-- ITS FALSE NEIGHBOUR: 'it returns false'. Refute it at one input. -/
def graceNobodyWrong : ChangeSpec := { name := "graceNobody", fn := fun _ => fun
  | [d] => { results := [.lit (.bool false)], args := [d] }
  | _ => none }
def GraceNobodyWrongFalsely : Prop := graceNobodyRow.holds Try.pinned (OpenSpec.ofChange graceNobodyWrong)

/-- 'corebellkeep.SoftAll': WHATEVER THE INPUT: true; the input reads as it did. -/
def softAllSpec : ChangeSpec := { name := "softAll", fn := fun _ => fun
  | [d1, d2, d3] => { results := [.lit (.bool true)], args := [d1, d2, d3] }
  | _ => none }
def softAllRow : OpenClaim := { program := "ytcbknmjbhjbifaa", sum := "3a0fb930037e8a51d0b9468856ef4a79a85779667e68b395b2e3118cbbe2f722", func := "corebell/corebellkeep.SoftAll", spec := "softAll", unfollowed := true, recurses := true, apart := false }
def SoftAllSaid : Prop := softAllRow.holds Try.pinned (OpenSpec.ofChange softAllSpec)

/-- ITS FALSE NEIGHBOUR: 'it returns false'. Refute it at one input. -/
def softAllWrong : ChangeSpec := { name := "softAll", fn := fun _ => fun
  | [d1, d2, d3] => { results := [.lit (.bool false)], args := [d1, d2, d3] }
  | _ => none }
def SoftAllWrongFalsely : Prop := softAllRow.holds Try.pinned (OpenSpec.ofChange softAllWrong)

/-- 'corebellkeep.SoftWho': WHATEVER THE INPUT: true; the input reads as it did. -/
def softWhoSpec : ChangeSpec := { name := "softWho", fn := fun _ => fun
  | [d1, d2, d3, d4] => { results := [.lit (.bool true)], args := [d1, d2, d3, d4] }
  | _ => none }
def softWhoRow : OpenClaim := { program := "ytcbknmjbhjbifaa", sum := "3a0fb930037e8a51d0b9468856ef4a79a85779667e68b395b2e3118cbbe2f722", func := "corebell/corebellkeep.SoftWho", spec := "softWho", unfollowed := true, recurses := true, apart := false }
def SoftWhoSaid : Prop := softWhoRow.holds Try.pinned (OpenSpec.ofChange softWhoSpec)

/-- ITS FALSE NEIGHBOUR: 'it returns false'. Refute it at one input. -/
def softWhoWrong : ChangeSpec := { name := "softWho", fn := fun _ => fun
  | [d1, d2, d3, d4] => { results := [.lit (.bool false)], args := [d1, d2, d3, d4] }
  | _ => none }
def SoftWhoWrongFalsely : Prop := softWhoRow.holds Try.pinned (OpenSpec.ofChange softWhoWrong)

/-- 'corebellkeep.GraceAll': WHATEVER THE INPUT: true; the input reads as it did. -/
def graceAllSpec : ChangeSpec := { name := "graceAll", fn := fun _ => fun
  | [d] => { results := [.lit (.bool true)], args := [d] }
  | _ => none }
def graceAllRow : OpenClaim := { program := "ytcbknmjbhjbifaa", sum := "3a0fb930037e8a51d0b9468856ef4a79a85779667e68b395b2e3118cbbe2f722", func := "corebell/corebellkeep.GraceAll", spec := "graceAll", apart := false }
def GraceAllSaid : Prop := graceAllRow.holds Try.pinned (OpenSpec.ofChange graceAllSpec)

/-- ITS FALSE NEIGHBOUR: 'it returns false'. Refute it at one input. -/
def graceAllWrong : ChangeSpec := { name := "graceAll", fn := fun _ => fun
  | [d] => { results := [.lit (.bool false)], args := [d] }
  | _ => none }
def GraceAllWrongFalsely : Prop := graceAllRow.holds Try.pinned (OpenSpec.ofChange graceAllWrong)

/-- 'corebellkeep.SoftPart': WHATEVER THE INPUT: true; the input reads as it did. -/
def softPartSpec : ChangeSpec := { name := "softPart", fn := fun _ => fun
  | [d1, d2, d3] => { results := [.lit (.bool true)], args := [d1, d2, d3] }
  | _ => none }
def softPartRow : OpenClaim := { program := "ytcbknmjbhjbifaa", sum := "3a0fb930037e8a51d0b9468856ef4a79a85779667e68b395b2e3118cbbe2f722", func := "corebell/corebellkeep.SoftPart", spec := "softPart", unfollowed := true, recurses := true, apart := false }
def SoftPartSaid : Prop := softPartRow.holds Try.pinned (OpenSpec.ofChange softPartSpec)

/-- ITS FALSE NEIGHBOUR: 'it returns false'. Refute it at one input. -/
def softPartWrong : ChangeSpec := { name := "softPart", fn := fun _ => fun
  | [d1, d2, d3] => { results := [.lit (.bool false)], args := [d1, d2, d3] }
  | _ => none }
def SoftPartWrongFalsely : Prop := softPartRow.holds Try.pinned (OpenSpec.ofChange softPartWrong)

/-- 'corebellkeep.GraceOnce': WHATEVER THE INPUT: true; the input reads as it did. -/
def graceOnceSpec : ChangeSpec := { name := "graceOnce", fn := fun _ => fun
  | [d] => { results := [.lit (.bool true)], args := [d] }
  | _ => none }
def graceOnceRow : OpenClaim := { program := "ytcbknmjbhjbifaa", sum := "3a0fb930037e8a51d0b9468856ef4a79a85779667e68b395b2e3118cbbe2f722", func := "corebell/corebellkeep.GraceOnce", spec := "graceOnce", apart := false }
def GraceOnceSaid : Prop := graceOnceRow.holds Try.pinned (OpenSpec.ofChange graceOnceSpec)

/-- ITS FALSE NEIGHBOUR: 'it returns false'. Refute it at one input. -/
def graceOnceWrong : ChangeSpec := { name := "graceOnce", fn := fun _ => fun
  | [d] => { results := [.lit (.bool false)], args := [d] }
  | _ => none }
def GraceOnceWrongFalsely : Prop := graceOnceRow.holds Try.pinned (OpenSpec.ofChange graceOnceWrong)

/-- 'corebellkeep.WorkOnce': WHATEVER THE INPUT: true; the input reads as it did. -/
def workOnceSpec : ChangeSpec := { name := "workOnce", fn := fun _ => fun
  | [d] => { results := [.lit (.bool true)], args := [d] }
  | _ => none }
def workOnceRow : OpenClaim := { program := "ytcbknmjbhjbifaa", sum := "3a0fb930037e8a51d0b9468856ef4a79a85779667e68b395b2e3118cbbe2f722", func := "corebell/corebellkeep.WorkOnce", spec := "workOnce", apart := false }
def WorkOnceSaid : Prop := workOnceRow.holds Try.pinned (OpenSpec.ofChange workOnceSpec)

/-- ITS FALSE NEIGHBOUR: 'it returns false'. Refute it at one input. -/
def workOnceWrong : ChangeSpec := { name := "workOnce", fn := fun _ => fun
  | [d] => { results := [.lit (.bool false)], args := [d] }
  | _ => none }
def WorkOnceWrongFalsely : Prop := workOnceRow.holds Try.pinned (OpenSpec.ofChange workOnceWrong)

/-- 'corebellkeep.WorkFlushed': WHATEVER THE INPUT: true; the input reads as it did. -/
def workFlushedSpec : ChangeSpec := { name := "workFlushed", fn := fun _ => fun
  | [d1, d2] => { results := [.lit (.bool true)], args := [d1, d2] }
  | _ => none }
def workFlushedRow : OpenClaim := { program := "ytcbknmjbhjbifaa", sum := "3a0fb930037e8a51d0b9468856ef4a79a85779667e68b395b2e3118cbbe2f722", func := "corebell/corebellkeep.WorkFlushed", spec := "workFlushed", apart := false }
def WorkFlushedSaid : Prop := workFlushedRow.holds Try.pinned (OpenSpec.ofChange workFlushedSpec)

/-- ITS FALSE NEIGHBOUR: 'it returns false'. Refute it at one input. -/
def workFlushedWrong : ChangeSpec := { name := "workFlushed", fn := fun _ => fun
  | [d1, d2] => { results := [.lit (.bool false)], args := [d1, d2] }
  | _ => none }
def WorkFlushedWrongFalsely : Prop := workFlushedRow.holds Try.pinned (OpenSpec.ofChange workFlushedWrong)

/-- 'corebellkeep.WorkAgain': WHATEVER THE INPUT: true; the input reads as it did. -/
def workAgainSpec : ChangeSpec := { name := "workAgain", fn := fun _ => fun
  | [d] => { results := [.lit (.bool true)], args := [d] }
  | _ => none }
def workAgainRow : OpenClaim := { program := "ytcbknmjbhjbifaa", sum := "3a0fb930037e8a51d0b9468856ef4a79a85779667e68b395b2e3118cbbe2f722", func := "corebell/corebellkeep.WorkAgain", spec := "workAgain", apart := false }
def WorkAgainSaid : Prop := workAgainRow.holds Try.pinned (OpenSpec.ofChange workAgainSpec)

/-- ITS FALSE NEIGHBOUR: 'it returns false'. Refute it at one input. -/
def workAgainWrong : ChangeSpec := { name := "workAgain", fn := fun _ => fun
  | [d] => { results := [.lit (.bool false)], args := [d] }
  | _ => none }
def WorkAgainWrongFalsely : Prop := workAgainRow.holds Try.pinned (OpenSpec.ofChange workAgainWrong)

/-- 'corebellkeep.WorkCancelled': WHATEVER THE INPUT: true; the input reads as it did. -/
def workCancelledSpec : ChangeSpec := { name := "workCancelled", fn := fun _ => fun
  | [d1, d2] => { results := [.lit (.bool true)], args := [d1, d2] }
  | _ => none }
def workCancelledRow : OpenClaim := { program := "ytcbknmjbhjbifaa", sum := "3a0fb930037e8a51d0b9468856ef4a79a85779667e68b395b2e3118cbbe2f722", func := "corebell/corebellkeep.WorkCancelled", spec := "workCancelled", unfollowed := true, recurses := true, apart := false }
def WorkCancelledSaid : Prop := workCancelledRow.holds Try.pinned (OpenSpec.ofChange workCancelledSpec)

/-- ITS FALSE NEIGHBOUR: 'it returns false'. Refute it at one input. -/
def workCancelledWrong : ChangeSpec := { name := "workCancelled", fn := fun _ => fun
  | [d1, d2] => { results := [.lit (.bool false)], args := [d1, d2] }
  | _ => none }
def WorkCancelledWrongFalsely : Prop := workCancelledRow.holds Try.pinned (OpenSpec.ofChange workCancelledWrong)

/-- 'corebellkeep.SoftQuiet': WHATEVER THE INPUT: true; the input reads as it did. -/
def softQuietSpec : ChangeSpec := { name := "softQuiet", fn := fun _ => fun
  | [d1, d2] => { results := [.lit (.bool true)], args := [d1, d2] }
  | _ => none }
def softQuietRow : OpenClaim := { program := "ytcbknmjbhjbifaa", sum := "3a0fb930037e8a51d0b9468856ef4a79a85779667e68b395b2e3118cbbe2f722", func := "corebell/corebellkeep.SoftQuiet", spec := "softQuiet", unfollowed := true, recurses := true, apart := false }
def SoftQuietSaid : Prop := softQuietRow.holds Try.pinned (OpenSpec.ofChange softQuietSpec)

/-- ITS FALSE NEIGHBOUR: 'it returns false'. Refute it at one input. -/
def softQuietWrong : ChangeSpec := { name := "softQuiet", fn := fun _ => fun
  | [d1, d2] => { results := [.lit (.bool false)], args := [d1, d2] }
  | _ => none }
def SoftQuietWrongFalsely : Prop := softQuietRow.holds Try.pinned (OpenSpec.ofChange softQuietWrong)

/- THE SECOND FORM. 'bulk': how many values and letters a reading holds, each counted each time it is reached (what is shared counts as often as it is met; a slice's spare places count too). A statement '..UptoSaid' is the law's where the arguments, and the package variables that the reading takes, are together of bulk at most 1048576: NARROWER than '..Said'. Prove '..Said' where nothing that the law and all that it calls make is longer than what came in: it says more and counts as full. Else prove '..UptoSaid'. A law counts once. -/
mutual
def uptoBulk {H : Type} : DataW H → Nat
  | .lit (.string bytes) => bytes.length + 1
  | .lit _ => 1
  | .nil => 1
  | .ptr d => uptoBulk d + 1
  | .slice elems spare => uptoBulkAll elems + uptoBulkAll spare + 1
  | .agg parts => uptoBulkAll parts + 1
  | .iface _ d => uptoBulk d + 1
  | .map entries => uptoBulkEntries entries + 1
  | .held _ => 1
def uptoBulkAll {H : Type} : List (DataW H) → Nat
  | [] => 0
  | d :: r => uptoBulk d + uptoBulkAll r
def uptoBulkEntries {H : Type} : List (Lit × DataW H) → Nat
  | [] => 0
  | x :: r => uptoBulkEntry x + uptoBulkEntries r
def uptoBulkEntry {H : Type} : Lit × DataW H → Nat
  | (.string bytes, d) => bytes.length + uptoBulk d + 1
  | (_, d) => uptoBulk d + 1
 end
def uptoSmall : (H : Type) → List (DataW H) → Bool := fun _ ds => decide (uptoBulkAll ds ≤ 1048576)
def OpenSpec.upto (s : _root_.Go.ChangeSpec) : _root_.Go.OpenSpec := { _root_.Go.OpenSpec.ofChange s with cond := some uptoSmall }

/-- 'corebellkeep.GraceSafe', WHERE WHAT IT READS IS OF BULK AT MOST 1048576: true; the input reads as it did. -/
def graceSafeUptoRow : OpenClaim := { program := "ytcbknmjbhjbifaa", sum := "3a0fb930037e8a51d0b9468856ef4a79a85779667e68b395b2e3118cbbe2f722", func := "corebell/corebellkeep.GraceSafe", spec := "graceSafe", apart := false, narrowed := true }
def GraceSafeUptoSaid : Prop := graceSafeUptoRow.holds Try.pinned (OpenSpec.upto graceSafeSpec)

/-- 'corebellkeep.GraceNobody', WHERE WHAT IT READS IS OF BULK AT MOST 1048576: true; the input reads as it did. -/
def graceNobodyUptoRow : OpenClaim := { program := "ytcbknmjbhjbifaa", sum := "3a0fb930037e8a51d0b9468856ef4a79a85779667e68b395b2e3118cbbe2f722", func := "corebell/corebellkeep.GraceNobody", spec := "graceNobody", apart := false, narrowed := true }
def GraceNobodyUptoSaid : Prop := graceNobodyUptoRow.holds Try.pinned (OpenSpec.upto graceNobodySpec)

/-- 'corebellkeep.SoftAll', WHERE WHAT IT READS IS OF BULK AT MOST 1048576: true; the input reads as it did. -/
def softAllUptoRow : OpenClaim := { program := "ytcbknmjbhjbifaa", sum := "3a0fb930037e8a51d0b9468856ef4a79a85779667e68b395b2e3118cbbe2f722", func := "corebell/corebellkeep.SoftAll", spec := "softAll", unfollowed := true, recurses := true, apart := false, narrowed := true }
def SoftAllUptoSaid : Prop := softAllUptoRow.holds Try.pinned (OpenSpec.upto softAllSpec)

/-- 'corebellkeep.SoftWho', WHERE WHAT IT READS IS OF BULK AT MOST 1048576: true; the input reads as it did. -/
def softWhoUptoRow : OpenClaim := { program := "ytcbknmjbhjbifaa", sum := "3a0fb930037e8a51d0b9468856ef4a79a85779667e68b395b2e3118cbbe2f722", func := "corebell/corebellkeep.SoftWho", spec := "softWho", unfollowed := true, recurses := true, apart := false, narrowed := true }
def SoftWhoUptoSaid : Prop := softWhoUptoRow.holds Try.pinned (OpenSpec.upto softWhoSpec)

/-- 'corebellkeep.GraceAll', WHERE WHAT IT READS IS OF BULK AT MOST 1048576: true; the input reads as it did. -/
def graceAllUptoRow : OpenClaim := { program := "ytcbknmjbhjbifaa", sum := "3a0fb930037e8a51d0b9468856ef4a79a85779667e68b395b2e3118cbbe2f722", func := "corebell/corebellkeep.GraceAll", spec := "graceAll", apart := false, narrowed := true }
def GraceAllUptoSaid : Prop := graceAllUptoRow.holds Try.pinned (OpenSpec.upto graceAllSpec)

/-- 'corebellkeep.SoftPart', WHERE WHAT IT READS IS OF BULK AT MOST 1048576: true; the input reads as it did. -/
def softPartUptoRow : OpenClaim := { program := "ytcbknmjbhjbifaa", sum := "3a0fb930037e8a51d0b9468856ef4a79a85779667e68b395b2e3118cbbe2f722", func := "corebell/corebellkeep.SoftPart", spec := "softPart", unfollowed := true, recurses := true, apart := false, narrowed := true }
def SoftPartUptoSaid : Prop := softPartUptoRow.holds Try.pinned (OpenSpec.upto softPartSpec)

/-- 'corebellkeep.GraceOnce', WHERE WHAT IT READS IS OF BULK AT MOST 1048576: true; the input reads as it did. -/
def graceOnceUptoRow : OpenClaim := { program := "ytcbknmjbhjbifaa", sum := "3a0fb930037e8a51d0b9468856ef4a79a85779667e68b395b2e3118cbbe2f722", func := "corebell/corebellkeep.GraceOnce", spec := "graceOnce", apart := false, narrowed := true }
def GraceOnceUptoSaid : Prop := graceOnceUptoRow.holds Try.pinned (OpenSpec.upto graceOnceSpec)

/-- 'corebellkeep.WorkOnce', WHERE WHAT IT READS IS OF BULK AT MOST 1048576: true; the input reads as it did. -/
def workOnceUptoRow : OpenClaim := { program := "ytcbknmjbhjbifaa", sum := "3a0fb930037e8a51d0b9468856ef4a79a85779667e68b395b2e3118cbbe2f722", func := "corebell/corebellkeep.WorkOnce", spec := "workOnce", apart := false, narrowed := true }
def WorkOnceUptoSaid : Prop := workOnceUptoRow.holds Try.pinned (OpenSpec.upto workOnceSpec)

/-- 'corebellkeep.WorkFlushed', WHERE WHAT IT READS IS OF BULK AT MOST 1048576: true; the input reads as it did. -/
def workFlushedUptoRow : OpenClaim := { program := "ytcbknmjbhjbifaa", sum := "3a0fb930037e8a51d0b9468856ef4a79a85779667e68b395b2e3118cbbe2f722", func := "corebell/corebellkeep.WorkFlushed", spec := "workFlushed", apart := false, narrowed := true }
def WorkFlushedUptoSaid : Prop := workFlushedUptoRow.holds Try.pinned (OpenSpec.upto workFlushedSpec)

/-- 'corebellkeep.WorkAgain', WHERE WHAT IT READS IS OF BULK AT MOST 1048576: true; the input reads as it did. -/
def workAgainUptoRow : OpenClaim := { program := "ytcbknmjbhjbifaa", sum := "3a0fb930037e8a51d0b9468856ef4a79a85779667e68b395b2e3118cbbe2f722", func := "corebell/corebellkeep.WorkAgain", spec := "workAgain", apart := false, narrowed := true }
def WorkAgainUptoSaid : Prop := workAgainUptoRow.holds Try.pinned (OpenSpec.upto workAgainSpec)

/-- 'corebellkeep.WorkCancelled', WHERE WHAT IT READS IS OF BULK AT MOST 1048576: true; the input reads as it did. -/
def workCancelledUptoRow : OpenClaim := { program := "ytcbknmjbhjbifaa", sum := "3a0fb930037e8a51d0b9468856ef4a79a85779667e68b395b2e3118cbbe2f722", func := "corebell/corebellkeep.WorkCancelled", spec := "workCancelled", unfollowed := true, recurses := true, apart := false, narrowed := true }
def WorkCancelledUptoSaid : Prop := workCancelledUptoRow.holds Try.pinned (OpenSpec.upto workCancelledSpec)

/-- 'corebellkeep.SoftQuiet', WHERE WHAT IT READS IS OF BULK AT MOST 1048576: true; the input reads as it did. -/
def softQuietUptoRow : OpenClaim := { program := "ytcbknmjbhjbifaa", sum := "3a0fb930037e8a51d0b9468856ef4a79a85779667e68b395b2e3118cbbe2f722", func := "corebell/corebellkeep.SoftQuiet", spec := "softQuiet", unfollowed := true, recurses := true, apart := false, narrowed := true }
def SoftQuietUptoSaid : Prop := softQuietUptoRow.holds Try.pinned (OpenSpec.upto softQuietSpec)

end Rows
end Go.Proofs.Ytcbknmjbhjbifaa
