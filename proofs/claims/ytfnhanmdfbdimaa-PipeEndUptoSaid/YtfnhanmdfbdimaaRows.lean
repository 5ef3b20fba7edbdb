/-
  No cell of these rows narrows 'for every input' (looked for: loops, veiled, ifaces, maps, wideKeys, modest, calm, conditions, laid).
  DERIVED. THE GIVEN ROWS OF THIS SEAT. 6 by the template 'for every input the law returns true; each argument reads behind the call as it read before'; 0 by the template 'total and deterministic' (their statements: YtfnhanmdfbdimaaTotals.lean).
  GIVEN WITH THE SEED: the statements are not yours to turn. If you find one false, say at which input.
  Laid BY PROGRAM, IN A SANDBOX (cutbox-rows.mjs): the forced cells as the released guide's own fill.sh prints them over the translation 8dfe49f1e2710905… (all of the seat's roots in one cut). By AI agents, Wed Nov 11 2026. No macro, syntax, notation, axiom, sorry.
-/
import Derived.Test.YtfnhanmdfbdimaaChecked
import GoSem.Claim
import GoSem.ClaimJoined
import GoSem.ClaimMapViews
import Derived.JoinedTies
import Derived.KernelRfl
namespace Go.Proofs.Ytfnhanmdfbdimaa
/- THE CELL 'sum', in the pinned program and in every row, IS THE sha256 OF THE DUMP (.gsa) THAT YtfnhanmdfbdimaaProg.lean LOADS. Nothing in Lean hashes anything: it is a label: what it is worth is what the hold of that sum in a sandbox is worth. -/
noncomputable def Try.pinned : Pinned := { name := "ytfnhanmdfbdimaa", sum := "8dfe49f1e2710905cc37fc9889060a97f103608a12c7900364ab0220c76edd99", checked := Try.checked }
namespace Rows
def none {H : Type} : Left H := { results := [], args := [] }

/-- 'corebellkeep.NicNever': WHATEVER THE INPUT: true; the input reads as it did. -/
def nicNeverSpec : ChangeSpec := { name := "nicNever", fn := fun _ => fun
  | [d1, d2, d3] => { results := [.lit (.bool true)], args := [d1, d2, d3] }
  | _ => none }
def nicNeverRow : OpenClaim := { program := "ytfnhanmdfbdimaa", sum := "8dfe49f1e2710905cc37fc9889060a97f103608a12c7900364ab0220c76edd99", func := "corebell/corebellkeep.NicNever", spec := "nicNever", unfollowed := true, recurses := true, apart := false }
def NicNeverSaid : Prop := nicNeverRow.holds Try.pinned (OpenSpec.ofChange nicNeverSpec)

/-- ITS FALSE NEIGHBOUR: 'it returns false'. Refute it at one input. -/
def nicNeverWrong : ChangeSpec := { name := "nicNever", fn := fun _ => fun
  | [d1, d2, d3] => { results := [.lit (.bool false)], args := [d1, d2, d3] }
  | _ => none }
def NicNeverWrongFalsely : Prop := nicNeverRow.holds Try.pinned (OpenSpec.ofChange nicNeverWrong)

/-- 'corebellkeep.NicSeldom': WHATEVER THE INPUT: true; the input reads as it did. -/
def nicSeldomSpec : ChangeSpec := { name := "nicSeldom", fn := fun _ => fun
  | [d1, d2] => { results := [.lit (.bool true)], args := [d1, d2] }
  | _ => none }
def nicSeldomRow : OpenClaim := { program := "ytfnhanmdfbdimaa", sum := "8dfe49f1e2710905cc37fc9889060a97f103608a12c7900364ab0220c76edd99", func := "corebell/corebellkeep.NicSeldom", spec := "nicSeldom", unfollowed := true, recurses := true, apart := false }
def NicSeldomSaid : Prop := nicSeldomRow.holds Try.pinned (OpenSpec.ofChange nicSeldomSpec)

/-- ITS FALSE NEIGHBOUR: 'it returns false'. Refute it at one input. -/
def nicSeldomWrong : ChangeSpec := { name := "nicSeldom", fn := fun _ => fun
  | [d1, d2] => { results := [.lit (.bool false)], args := [d1, d2] }
  | _ => none }
def NicSeldomWrongFalsely : Prop := nicSeldomRow.holds Try.pinned (OpenSpec.ofChange nicSeldomWrong)

/-- 'corebellkeep.PipeWhole': WHATEVER THE INPUT: true; the input reads as it did. -/
def pipeWholeSpec : ChangeSpec := { name := "pipeWhole", fn := fun _ => fun
  | [d1, d2] => { results := [.lit (.bool true)], args := [d1, d2] }
  | _ => none }
def pipeWholeRow : OpenClaim := { program := "ytfnhanmdfbdimaa", sum := "8dfe49f1e2710905cc37fc9889060a97f103608a12c7900364ab0220c76edd99", func := "corebell/corebellkeep.PipeWhole", spec := "pipeWhole", unfollowed := true, recurses := true, apart := false }
def PipeWholeSaid : Prop := pipeWholeRow.holds Try.pinned (OpenSpec.ofChange pipeWholeSpec)

/-- ITS FALSE NEIGHBOUR: 'it returns false'. Refute it at one input. -/
def pipeWholeWrong : ChangeSpec := { name := "pipeWhole", fn := fun _ => fun
  | [d1, d2] => { results := [.lit (.bool false)], args := [d1, d2] }
  | _ => none }
def PipeWholeWrongFalsely : Prop := pipeWholeRow.holds Try.pinned (OpenSpec.ofChange pipeWholeWrong)

/-- 'corebellkeep.NicStream': WHATEVER THE INPUT: true; the input reads as it did. -/
def nicStreamSpec : ChangeSpec := { name := "nicStream", fn := fun _ => fun
  | [d1, d2] => { results := [.lit (.bool true)], args := [d1, d2] }
  | _ => none }
def nicStreamRow : OpenClaim := { program := "ytfnhanmdfbdimaa", sum := "8dfe49f1e2710905cc37fc9889060a97f103608a12c7900364ab0220c76edd99", func := "corebell/corebellkeep.NicStream", spec := "nicStream", unfollowed := true, recurses := true, apart := false }
def NicStreamSaid : Prop := nicStreamRow.holds Try.pinned (OpenSpec.ofChange nicStreamSpec)

/-- ITS FALSE NEIGHBOUR: 'it returns false'. Refute it at one input. -/
def nicStreamWrong : ChangeSpec := { name := "nicStream", fn := fun _ => fun
  | [d1, d2] => { results := [.lit (.bool false)], args := [d1, d2] }
  | _ => none }
def NicStreamWrongFalsely : Prop := nicStreamRow.holds Try.pinned (OpenSpec.ofChange nicStreamWrong)

/-- 'corebellkeep.PipeStream': WHATEVER THE INPUT: true; the input reads as it did. -/
def pipeStreamSpec : ChangeSpec := { name := "pipeStream", fn := fun _ => fun
  | [d] => { results := [.lit (.bool true)], args := [d] }
  | _ => none }
def pipeStreamRow : OpenClaim := { program := "ytfnhanmdfbdimaa", sum := "8dfe49f1e2710905cc37fc9889060a97f103608a12c7900364ab0220c76edd99", func := "corebell/corebellkeep.PipeStream", spec := "pipeStream", unfollowed := true, recurses := true, apart := false }
def PipeStreamSaid : Prop := pipeStreamRow.holds Try.pinned (OpenSpec.ofChange pipeStreamSpec)

/-- ITS FALSE NEIGHBOUR: 'it returns false'. Refute it at one input. -/
def pipeStreamWrong : ChangeSpec := { name := "pipeStream", fn := fun _ => fun
  | [d] => { results := [.lit (.bool false)], args := [d] }
  | _ => none }
def PipeStreamWrongFalsely : Prop := pipeStreamRow.holds Try.pinned (OpenSpec.ofChange pipeStreamWrong)

/-- 'corebellkeep.PipeEnd': WHATEVER THE INPUT: true; the input reads as it did. -/
def pipeEndSpec : ChangeSpec := { name := "pipeEnd", fn := fun _ => fun
  | [d1, d2] => { results := [.lit (.bool true)], args := [d1, d2] }
  | _ => none }
def pipeEndRow : OpenClaim := { program := "ytfnhanmdfbdimaa", sum := "8dfe49f1e2710905cc37fc9889060a97f103608a12c7900364ab0220c76edd99", func := "corebell/corebellkeep.PipeEnd", spec := "pipeEnd", unfollowed := true, recurses := true, apart := false }
def PipeEndSaid : Prop := pipeEndRow.holds Try.pinned (OpenSpec.ofChange pipeEndSpec)

/-- ITS FALSE NEIGHBOUR: 'it returns false'. Refute it at one input. -/
def pipeEndWrong : ChangeSpec := { name := "pipeEnd", fn := fun _ => fun
  | [d1, d2] => { results := [.lit (.bool false)], args := [d1, d2] }
  | _ => none }
def PipeEndWrongFalsely : Prop := pipeEndRow.holds Try.pinned (OpenSpec.ofChange pipeEndWrong)

/- THE SECOND FORM. 'bulk': how many values and letters a reading holds, each counted each time it is reached (what is shared counts as often as it is met; a slice's spare places count too). A statement '..UptoSaid' is the law's where the arguments, and the package variables that the reading takes, are together of bulk at most 1048576: NARROWER than '..Said'. Prove '..Said' where nothing that the law and all that it calls make is longer than what came in: it says more and counts as full. Else prove '..UptoSaid'. A law counts once. -/
mutual
def uptoBulk {H : Type} : DataW H → Nat
  | .lit (.string bytes) => bytes.length + 1
  | .lit _ => 1
  | .nil => 1
  | .ptr d => uptoBulk d + 1
  | .slice elems spare => uptoBulkAll elems + uptoBulkAll spare + 1
  | .agg parts => uptoBulkAll parts + 1
  | .iface _ d => uptoBulk d + 1
  | .map entries => uptoBulkEntries entries + 1
  | .held _ => 1
def uptoBulkAll {H : Type} : List (DataW H) → Nat
  | [] => 0
  | d :: r => uptoBulk d + uptoBulkAll r
def uptoBulkEntries {H : Type} : List (Lit × DataW H) → Nat
  | [] => 0
  | x :: r => uptoBulkEntry x + uptoBulkEntries r
def uptoBulkEntry {H : Type} : Lit × DataW H → Nat
  | (.string bytes, d) => bytes.length + uptoBulk d + 1
  | (_, d) => uptoBulk d + 1
 end
def uptoSmall : (H : Type) → List (DataW H) → Bool := fun _ ds => decide (uptoBulkAll ds ≤ 1048576)
def OpenSpec.upto (s : _root_.Go.ChangeSpec) : _root_.Go.OpenSpec := { _root_.Go.OpenSpec.ofChange s with cond := some uptoSmall }

/-- 'corebellkeep.NicNever', WHERE WHAT IT READS IS OF BULK AT MOST 1048576: true; the input reads as it did. -/
def nicNeverUptoRow : OpenClaim := { program := "ytfnhanmdfbdimaa", sum := "8dfe49f1e2710905cc37fc9889060a97f103608a12c7900364ab0220c76edd99", func := "corebell/corebellkeep.NicNever", spec := "nicNever", unfollowed := true, recurses := true, apart := false, narrowed := true }
def NicNeverUptoSaid : Prop := nicNeverUptoRow.holds Try.pinned (OpenSpec.upto nicNeverSpec)

/-- 'corebellkeep.NicSeldom', WHERE WHAT IT READS IS OF BULK AT MOST 1048576: true; the input reads as it did. -/
def nicSeldomUptoRow : OpenClaim := { program := "ytfnhanmdfbdimaa", sum := "8dfe49f1e2710905cc37fc9889060a97f103608a12c7900364ab0220c76edd99", func := "corebell/corebellkeep.NicSeldom", spec := "nicSeldom", unfollowed := true, recurses := true, apart := false, narrowed := true }
def NicSeldomUptoSaid : Prop := nicSeldomUptoRow.holds Try.pinned (OpenSpec.upto nicSeldomSpec)

/-- 'corebellkeep.PipeWhole', WHERE WHAT IT READS IS OF BULK AT MOST 1048576: true; the input reads as it did. -/
def pipeWholeUptoRow : OpenClaim := { program := "ytfnhanmdfbdimaa", sum := "8dfe49f1e2710905cc37fc9889060a97f103608a12c7900364ab0220c76edd99", func := "corebell/corebellkeep.PipeWhole", spec := "pipeWhole", unfollowed := true, recurses := true, apart := false, narrowed := true }
def PipeWholeUptoSaid : Prop := pipeWholeUptoRow.holds Try.pinned (OpenSpec.upto pipeWholeSpec)

/-- 'corebellkeep.NicStream', WHERE WHAT IT READS IS OF BULK AT MOST 1048576: true; the input reads as it did. -/
def nicStreamUptoRow : OpenClaim := { program := "ytfnhanmdfbdimaa", sum := "8dfe49f1e2710905cc37fc9889060a97f103608a12c7900364ab0220c76edd99", func := "corebell/corebellkeep.NicStream", spec := "nicStream", unfollowed := true, recurses := true, apart := false, narrowed := true }
def NicStreamUptoSaid : Prop := nicStreamUptoRow.holds Try.pinned (OpenSpec.upto nicStreamSpec)

/-- 'corebellkeep.PipeStream', WHERE WHAT IT READS IS OF BULK AT MOST 1048576: true; the input reads as it did. -/
def pipeStreamUptoRow : OpenClaim := { program := "ytfnhanmdfbdimaa", sum := "8dfe49f1e2710905cc37fc9889060a97f103608a12c7900364ab0220c76edd99", func := "corebell/corebellkeep.PipeStream", spec := "pipeStream", unfollowed := true, recurses := true, apart := false, narrowed := true }
def PipeStreamUptoSaid : Prop := pipeStreamUptoRow.holds Try.pinned (OpenSpec.upto pipeStreamSpec)

/-- 'corebellkeep.PipeEnd', WHERE WHAT IT READS IS OF BULK AT MOST 1048576: true; the input reads as it did. -/
def pipeEndUptoRow : OpenClaim := { program := "ytfnhanmdfbdimaa", sum := "8dfe49f1e2710905cc37fc9889060a97f103608a12c7900364ab0220c76edd99", func := "corebell/corebellkeep.PipeEnd", spec := "pipeEnd", unfollowed := true, recurses := true, apart := false, narrowed := true }
def PipeEndUptoSaid : Prop := pipeEndUptoRow.holds Try.pinned (OpenSpec.upto pipeEndSpec)

end Rows
end Go.Proofs.Ytfnhanmdfbdimaa
