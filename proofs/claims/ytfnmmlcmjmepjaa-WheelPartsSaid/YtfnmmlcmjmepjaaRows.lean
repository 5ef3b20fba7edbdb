/-
  No cell of these rows narrows 'for every input' (looked for: loops, veiled, ifaces, maps, wideKeys, modest, calm, conditions, laid).
  DERIVED. THE GIVEN ROWS OF THIS SEAT. 4 by the template 'for every input the law returns true; each argument reads behind the call as it read before'; 0 by the template 'total and deterministic' (their statements: YtfnmmlcmjmepjaaTotals.lean).
  GIVEN WITH THE SEED: the statements are not yours to turn. If you find one false, say at which input.
  Laid BY PROGRAM, IN A SANDBOX (cutbox-rows.mjs): the forced cells as the released guide's own fill.sh prints them over the translation 6d6fd3fb3e701ed9… (all of the seat's roots in one cut). By AI agents, Wed Nov 11 2026. No macro, syntax, notation, axiom, sorry.
-/
import Derived.Test.YtfnmmlcmjmepjaaChecked
import GoSem.Claim
import GoSem.ClaimJoined
import GoSem.ClaimMapViews
import Derived.JoinedTies
import Derived.KernelRfl
namespace Go.Proofs.Ytfnmmlcmjmepjaa
/- THE CELL 'sum', in the pinned program and in every row, IS THE sha256 OF THE DUMP (.gsa) THAT YtfnmmlcmjmepjaaProg.lean LOADS. Nothing in Lean hashes anything: it is a label: what it is worth is what the hold of that sum in a sandbox is worth. -/
noncomputable def Try.pinned : Pinned := { name := "ytfnmmlcmjmepjaa", sum := "6d6fd3fb3e701ed9c0d71cc10e1461b513f190f1ca24146bf7440e565ccf291c", checked := Try.checked }
namespace Rows
def none {H : Type} : Left H := { results := [], args := [] }

/-- 'corebellkeep.LineMask': WHATEVER THE INPUT: true; the input reads as it did. -/
def lineMaskSpec : ChangeSpec := { name := "lineMask", fn := fun _ => fun
  | [d1, d2, d3, d4] => { results := [.lit (.bool true)], args := [d1, d2, d3, d4] }
  | _ => none }
def lineMaskRow : OpenClaim := { program := "ytfnmmlcmjmepjaa", sum := "6d6fd3fb3e701ed9c0d71cc10e1461b513f190f1ca24146bf7440e565ccf291c", func := "corebell/corebellkeep.LineMask", spec := "lineMask", inPlace := ["slices.overlaps[corebell/api.PinOp]"], unfollowed := true, recurses := true, apart := false }
def LineMaskSaid : Prop := lineMaskRow.holds Try.pinned (OpenSpec.ofChange lineMaskSpec)

/-- ITS FALSE NEIGHBOUR: 'it returns false'. Refute it at one input. -/
def lineMaskWrong : ChangeSpec := { name := "lineMask", fn := fun _ => fun
  | [d1, d2, d3, d4] => { results := [.lit (.bool false)], args := [d1, d2, d3, d4] }
  | _ => none }
def LineMaskWrongFalsely : Prop := lineMaskRow.holds Try.pinned (OpenSpec.ofChange lineMaskWrong)

/-- 'corebellkeep.PipeEnd': WHATEVER THE INPUT: true; the input reads as it did. -/
def pipeEndSpec : ChangeSpec := { name := "pipeEnd", fn := fun _ => fun
  | [d1, d2] => { results := [.lit (.bool true)], args := [d1, d2] }
  | _ => none }
def pipeEndRow : OpenClaim := { program := "ytfnmmlcmjmepjaa", sum := "6d6fd3fb3e701ed9c0d71cc10e1461b513f190f1ca24146bf7440e565ccf291c", func := "corebell/corebellkeep.PipeEnd", spec := "pipeEnd", unfollowed := true, recurses := true, apart := false }
def PipeEndSaid : Prop := pipeEndRow.holds Try.pinned (OpenSpec.ofChange pipeEndSpec)

/-- ITS FALSE NEIGHBOUR: 'it returns false'. Refute it at one input. -/
def pipeEndWrong : ChangeSpec := { name := "pipeEnd", fn := fun _ => fun
  | [d1, d2] => { results := [.lit (.bool false)], args := [d1, d2] }
  | _ => none }
def PipeEndWrongFalsely : Prop := pipeEndRow.holds Try.pinned (OpenSpec.ofChange pipeEndWrong)

/-- 'corebellkeep.TtyErase': WHATEVER THE INPUT: true; the input reads as it did. -/
def ttyEraseSpec : ChangeSpec := { name := "ttyErase", fn := fun _ => fun
  | [d1, d2, d3] => { results := [.lit (.bool true)], args := [d1, d2, d3] }
  | _ => none }
def ttyEraseRow : OpenClaim := { program := "ytfnmmlcmjmepjaa", sum := "6d6fd3fb3e701ed9c0d71cc10e1461b513f190f1ca24146bf7440e565ccf291c", func := "corebell/corebellkeep.TtyErase", spec := "ttyErase", unfollowed := true, recurses := true, apart := false }
def TtyEraseSaid : Prop := ttyEraseRow.holds Try.pinned (OpenSpec.ofChange ttyEraseSpec)

/-- ITS FALSE NEIGHBOUR: 'it returns false'. Refute it at one input. -/
def ttyEraseWrong : ChangeSpec := { name := "ttyErase", fn := fun _ => fun
  | [d1, d2, d3] => { results := [.lit (.bool false)], args := [d1, d2, d3] }
  | _ => none }
def TtyEraseWrongFalsely : Prop := ttyEraseRow.holds Try.pinned (OpenSpec.ofChange ttyEraseWrong)

/-- 'corebellkeep.WheelParts': WHATEVER THE INPUT: true; the input reads as it did. -/
def wheelPartsSpec : ChangeSpec := { name := "wheelParts", fn := fun _ => fun
  | [d] => { results := [.lit (.bool true)], args := [d] }
  | _ => none }
def wheelPartsRow : OpenClaim := { program := "ytfnmmlcmjmepjaa", sum := "6d6fd3fb3e701ed9c0d71cc10e1461b513f190f1ca24146bf7440e565ccf291c", func := "corebell/corebellkeep.WheelParts", spec := "wheelParts", recurses := true, apart := false }
def WheelPartsSaid : Prop := wheelPartsRow.holds Try.pinned (OpenSpec.ofChange wheelPartsSpec)

/-- ITS FALSE NEIGHBOUR: 'it returns false'. Refute it at one input. -/
def wheelPartsWrong : ChangeSpec := { name := "wheelParts", fn := fun _ => fun
  | [d] => { results := [.lit (.bool false)], args := [d] }
  | _ => none }
def WheelPartsWrongFalsely : Prop := wheelPartsRow.holds Try.pinned (OpenSpec.ofChange wheelPartsWrong)

/- THE SECOND FORM. 'bulk': how many values and letters a reading holds, each counted each time it is reached (what is shared counts as often as it is met; a slice's spare places count too). A statement '..UptoSaid' is the law's where the arguments, and the package variables that the reading takes, are together of bulk at most 1048576: NARROWER than '..Said'. Prove '..Said' where nothing that the law and all that it calls make is longer than what came in: it says more and counts as full. Else prove '..UptoSaid'. A law counts once. -/
mutual
def uptoBulk {H : Type} : DataW H → Nat
  | .lit (.string bytes) => bytes.length + 1
  | .lit _ => 1
  | .nil => 1
  | .ptr d => uptoBulk d + 1
  | .slice elems spare => uptoBulkAll elems + uptoBulkAll spare + 1
  | .agg parts => uptoBulkAll parts + 1
  | .iface _ d => uptoBulk d + 1
  | .map entries => uptoBulkEntries entries + 1
  | .held _ => 1
def uptoBulkAll {H : Type} : List (DataW H) → Nat
  | [] => 0
  | d :: r => uptoBulk d + uptoBulkAll r
def uptoBulkEntries {H : Type} : List (Lit × DataW H) → Nat
  | [] => 0
  | x :: r => uptoBulkEntry x + uptoBulkEntries r
def uptoBulkEntry {H : Type} : Lit × DataW H → Nat
  | (.string bytes, d) => bytes.length + uptoBulk d + 1
  | (_, d) => uptoBulk d + 1
 end
def uptoSmall : (H : Type) → List (DataW H) → Bool := fun _ ds => decide (uptoBulkAll ds ≤ 1048576)
def OpenSpec.upto (s : _root_.Go.ChangeSpec) : _root_.Go.OpenSpec := { _root_.Go.OpenSpec.ofChange s with cond := some uptoSmall }

/-- 'corebellkeep.LineMask', WHERE WHAT IT READS IS OF BULK AT MOST 1048576: true; the input reads as it did. -/
def lineMaskUptoRow : OpenClaim := { program := "ytfnmmlcmjmepjaa", sum := "6d6fd3fb3e701ed9c0d71cc10e1461b513f190f1ca24146bf7440e565ccf291c", func := "corebell/corebellkeep.LineMask", spec := "lineMask", inPlace := ["slices.overlaps[corebell/api.PinOp]"], unfollowed := true, recurses := true, apart := false, narrowed := true }
def LineMaskUptoSaid : Prop := lineMaskUptoRow.holds Try.pinned (OpenSpec.upto lineMaskSpec)

/-- 'corebellkeep.PipeEnd', WHERE WHAT IT READS IS OF BULK AT MOST 1048576: true; the input reads as it did. -/
def pipeEndUptoRow : OpenClaim := { program := "ytfnmmlcmjmepjaa", sum := "6d6fd3fb3e701ed9c0d71cc10e1461b513f190f1ca24146bf7440e565ccf291c", func := "corebell/corebellkeep.PipeEnd", spec := "pipeEnd", unfollowed := true, recurses := true, apart := false, narrowed := true }
def PipeEndUptoSaid : Prop := pipeEndUptoRow.holds Try.pinned (OpenSpec.upto pipeEndSpec)

/-- 'corebellkeep.TtyErase', WHERE WHAT IT READS IS OF BULK AT MOST 1048576: true; the input reads as it did. -/
def ttyEraseUptoRow : OpenClaim := { program := "ytfnmmlcmjmepjaa", sum := "6d6fd3fb3e701ed9c0d71cc10e1461b513f190f1ca24146bf7440e565ccf291c", func := "corebell/corebellkeep.TtyErase", spec := "ttyErase", unfollowed := true, recurses := true, apart := false, narrowed := true }
def TtyEraseUptoSaid : Prop := ttyEraseUptoRow.holds Try.pinned (OpenSpec.upto ttyEraseSpec)

/-- 'corebellkeep.WheelParts', WHERE WHAT IT READS IS OF BULK AT MOST 1048576: true; the input reads as it did. -/
def wheelPartsUptoRow : OpenClaim := { program := "ytfnmmlcmjmepjaa", sum := "6d6fd3fb3e701ed9c0d71cc10e1461b513f190f1ca24146bf7440e565ccf291c", func := "corebell/corebellkeep.WheelParts", spec := "wheelParts", recurses := true, apart := false, narrowed := true }
def WheelPartsUptoSaid : Prop := wheelPartsUptoRow.holds Try.pinned (OpenSpec.upto wheelPartsSpec)

end Rows
end Go.Proofs.Ytfnmmlcmjmepjaa
