/-
  No cell of these rows narrows 'for every input' (looked for: loops, veiled, ifaces, maps, wideKeys, modest, calm, conditions, laid).
  DERIVED. THE GIVEN ROWS OF THIS SEAT. 6 by the template 'for every input the law returns true; each argument reads behind the call as it read before'; 0 by the template 'total and deterministic' (their statements: YtdfgmloipigmfaaTotals.lean).
  GIVEN WITH THE SEED: the statements are not yours to turn. If you find one false, say at which input.
  Laid BY PROGRAM, IN A SANDBOX (cutbox-rows.mjs): the forced cells as the released guide's own fill.sh prints them over the translation d7a70b8d9aae8003… (all of the seat's roots in one cut). By AI agents, Wed Nov 11 2026. No macro, syntax, notation, axiom, sorry.
-/
import Derived.Test.YtdfgmloipigmfaaChecked
import GoSem.Claim
import GoSem.ClaimJoined
import GoSem.ClaimMapViews
import Derived.JoinedTies
import Derived.KernelRfl
namespace Go.Proofs.Ytdfgmloipigmfaa
/- THE CELL 'sum', in the pinned program and in every row, IS THE sha256 OF THE DUMP (.gsa) THAT YtdfgmloipigmfaaProg.lean LOADS. Nothing in Lean hashes anything: it is a label: what it is worth is what the hold of that sum in a sandbox is worth. -/
noncomputable def Try.pinned : Pinned := { name := "ytdfgmloipigmfaa", sum := "d7a70b8d9aae80036a7ef7be3371449f34b834fae0d1cf98a93ba58b4edbda5f", checked := Try.checked }
namespace Rows
def none {H : Type} : Left H := { results := [], args := [] }

/-- 'corebellkeep.GraceSafe': WHATEVER THE INPUT: true; the input reads as it did. -/
def graceSafeSpec : ChangeSpec := { name := "graceSafe", fn := fun _ => fun
  | [d] => { results := [.lit (.bool true)], args := [d] }
  | _ => none }
def graceSafeRow : OpenClaim := { program := "ytdfgmloipigmfaa", sum := "d7a70b8d9aae80036a7ef7be3371449f34b834fae0d1cf98a93ba58b4edbda5f", func := "corebell/corebellkeep.GraceSafe", spec := "graceSafe", apart := false }
def GraceSafeSaid : Prop := graceSafeRow.holds Try.pinned (OpenSpec.ofChange graceSafeSpec)

/-- ITS FALSE NEIGHBOUR: 'it returns false'. Refute it at one input. -/
def graceSafeWrong : ChangeSpec := { name := "graceSafe", fn := fun _ => fun
  | [d] => { results := [.lit (.bool false)], args := [d] }
  | _ => none }
def GraceSafeWrongFalsely : Prop := graceSafeRow.holds Try.pinned (OpenSpec.ofChange graceSafeWrong)

/-- 'corebellkeep.GraceOnce': WHATEVER THE INPUT: true; the input reads as it did. -/
def graceOnceSpec : ChangeSpec := { name := "graceOnce", fn := fun _ => fun
  | [d] => { results := [.lit (.bool true)], args := [d] }
  | _ => none }
def graceOnceRow : OpenClaim := { program := "ytdfgmloipigmfaa", sum := "d7a70b8d9aae80036a7ef7be3371449f34b834fae0d1cf98a93ba58b4edbda5f", func := "corebell/corebellkeep.GraceOnce", spec := "graceOnce", apart := false }
def GraceOnceSaid : Prop := graceOnceRow.holds Try.pinned (OpenSpec.ofChange graceOnceSpec)

/-- ITS FALSE NEIGHBOUR: 'it returns false'. Refute it at one input. -/
def graceOnceWrong : ChangeSpec := { name := "graceOnce", fn := fun _ => fun
  | [d] => { results := [.lit (.bool false)], args := [d] }
  | _ => none }
def GraceOnceWrongFalsely : Prop := graceOnceRow.holds Try.pinned (OpenSpec.ofChange graceOnceWrong)

/-- 'corebellkeep.WorkCancelled': WHATEVER THE INPUT: true; the input reads as it did. -/
def workCancelledSpec : ChangeSpec := { name := "workCancelled", fn := fun _ => fun
  | [d1, d2] => { results := [.lit (.bool true)], args := [d1, d2] }
  | _ => none }
def workCancelledRow : OpenClaim := { program := "ytdfgmloipigmfaa", sum := "d7a70b8d9aae80036a7ef7be3371449f34b834fae0d1cf98a93ba58b4edbda5f", func := "corebell/corebellkeep.WorkCancelled", spec := "workCancelled", unfollowed := true, recurses := true, apart := false }
def WorkCancelledSaid : Prop := workCancelledRow.holds Try.pinned (OpenSpec.ofChange workCancelledSpec)

/-- ITS FALSE NEIGHBOUR: 'it returns false'. Refute it at one input. -/
def workCancelledWrong : ChangeSpec := { name := "workCancelled", fn := fun _ => fun
  | [d1, d2] => { results := [.lit (.bool false)], args := [d1, d2] }
  | _ => none }
def WorkCancelledWrongFalsely : Prop := workCancelledRow.holds Try.pinned (OpenSpec.ofChange workCancelledWrong)

/-- 'corebellkeep.SoftQuiet': WHATEVER THE INPUT: true; the input reads as it did. -/
def softQuietSpec : ChangeSpec := { name := "softQuiet", fn := fun _ => fun
  | [d1, d2] => { results := [.lit (.bool true)], args := [d1, d2] }
  | _ => none }
def softQuietRow : OpenClaim := { program := "ytdfgmloipigmfaa", sum := "d7a70b8d9aae80036a7ef7be3371449f34b834fae0d1cf98a93ba58b4edbda5f", func := "corebell/corebellkeep.SoftQuiet", spec := "softQuiet", unfollowed := true, recurses := true, apart := false }
def SoftQuietSaid : Prop := softQuietRow.holds Try.pinned (OpenSpec.ofChange softQuietSpec)

/-- ITS FALSE NEIGHBOUR: 'it returns false'. Refute it at one input. -/
def softQuietWrong : ChangeSpec := { name := "softQuiet", fn := fun _ => fun
  | [d1, d2] => { results := [.lit (.bool false)], args := [d1, d2] }
  | _ => none }
def SoftQuietWrongFalsely : Prop := softQuietRow.holds Try.pinned (OpenSpec.ofChange softQuietWrong)

/-- 'corebellkeep.ChainOrder': WHATEVER THE INPUT: true; the input reads as it did. -/
def chainOrderSpec : ChangeSpec := { name := "chainOrder", fn := fun _ => fun
  | [d1, d2] => { results := [.lit (.bool true)], args := [d1, d2] }
  | _ => none }
def chainOrderRow : OpenClaim := { program := "ytdfgmloipigmfaa", sum := "d7a70b8d9aae80036a7ef7be3371449f34b834fae0d1cf98a93ba58b4edbda5f", func := "corebell/corebellkeep.ChainOrder", spec := "chainOrder", unfollowed := true, recurses := true, apart := false }
def ChainOrderSaid : Prop := chainOrderRow.holds Try.pinned (OpenSpec.ofChange chainOrderSpec)

/-- ITS FALSE NEIGHBOUR: 'it returns false'. Refute it at one input. -/
def chainOrderWrong : ChangeSpec := { name := "chainOrder", fn := fun _ => fun
  | [d1, d2] => { results := [.lit (.bool false)], args := [d1, d2] }
  | _ => none }
def ChainOrderWrongFalsely : Prop := chainOrderRow.holds Try.pinned (OpenSpec.ofChange chainOrderWrong)

/-- 'corebellkeep.LineMask': WHATEVER THE INPUT: true; the input reads as it did. -/
def lineMaskSpec : ChangeSpec := { name := "lineMask", fn := fun _ => fun
  | [d1, d2, d3, d4] => { results := [.lit (.bool true)], args := [d1, d2, d3, d4] }
  | _ => none }
def lineMaskRow : OpenClaim := { program := "ytdfgmloipigmfaa", sum := "d7a70b8d9aae80036a7ef7be3371449f34b834fae0d1cf98a93ba58b4edbda5f", func := "corebell/corebellkeep.LineMask", spec := "lineMask", inPlace := ["slices.overlaps[corebell/api.PinOp]"], unfollowed := true, recurses := true, apart := false }
def LineMaskSaid : Prop := lineMaskRow.holds Try.pinned (OpenSpec.ofChange lineMaskSpec)

/-- ITS FALSE NEIGHBOUR: 'it returns false'. Refute it at one input. -/
def lineMaskWrong : ChangeSpec := { name := "lineMask", fn := fun _ => fun
  | [d1, d2, d3, d4] => { results := [.lit (.bool false)], args := [d1, d2, d3, d4] }
  | _ => none }
def LineMaskWrongFalsely : Prop := lineMaskRow.holds Try.pinned (OpenSpec.ofChange lineMaskWrong)

/- THE SECOND FORM. 'bulk': how many values and letters a reading holds, each counted each time it is reached (what is shared counts as often as it is met; a slice's spare places count too). A statement '..UptoSaid' is the law's where the arguments, and the package variables that the reading takes, are together of bulk at most 1048576: NARROWER than '..Said'. Prove '..Said' where nothing that the law and all that it calls make is longer than what came in: it says more and counts as full. Else prove '..UptoSaid'. A law counts once. -/
mutual
def uptoBulk {H : Type} : DataW H → Nat
  | .lit (.string bytes) => bytes.length + 1
  | .lit _ => 1
  | .nil => 1
  | .ptr d => uptoBulk d + 1
  | .slice elems spare => uptoBulkAll elems + uptoBulkAll spare + 1
  | .agg parts => uptoBulkAll parts + 1
  | .iface _ d => uptoBulk d + 1
  | .map entries => uptoBulkEntries entries + 1
  | .held _ => 1
def uptoBulkAll {H : Type} : List (DataW H) → Nat
  | [] => 0
  | d :: r => uptoBulk d + uptoBulkAll r
def uptoBulkEntries {H : Type} : List (Lit × DataW H) → Nat
  | [] => 0
  | x :: r => uptoBulkEntry x + uptoBulkEntries r
def uptoBulkEntry {H : Type} : Lit × DataW H → Nat
  | (.string bytes, d) => bytes.length + uptoBulk d + 1
  | (_, d) => uptoBulk d + 1
 end
def uptoSmall : (H : Type) → List (DataW H) → Bool := fun _ ds => decide (uptoBulkAll ds ≤ 1048576)
def OpenSpec.upto (s : _root_.Go.ChangeSpec) : _root_.Go.OpenSpec := { _root_.Go.OpenSpec.ofChange s with cond := some uptoSmall }

/-- 'corebellkeep.GraceSafe', WHERE WHAT IT READS IS OF BULK AT MOST 1048576: true; the input reads as it did. -/
def graceSafeUptoRow : OpenClaim := { program := "ytdfgmloipigmfaa", sum := "d7a70b8d9aae80036a7ef7be3371449f34b834fae0d1cf98a93ba58b4edbda5f", func := "corebell/corebellkeep.GraceSafe", spec := "graceSafe", apart := false, narrowed := true }
def GraceSafeUptoSaid : Prop := graceSafeUptoRow.holds Try.pinned (OpenSpec.upto graceSafeSpec)

/-- 'corebellkeep.GraceOnce', WHERE WHAT IT READS IS OF BULK AT MOST 1048576: true; the input reads as it did. -/
def graceOnceUptoRow : OpenClaim := { program := "ytdfgmloipigmfaa", sum := "d7a70b8d9aae80036a7ef7be3371449f34b834fae0d1cf98a93ba58b4edbda5f", func := "corebell/corebellkeep.GraceOnce", spec := "graceOnce", apart := false, narrowed := true }
def GraceOnceUptoSaid : Prop := graceOnceUptoRow.holds Try.pinned (OpenSpec.upto graceOnceSpec)

/-- 'corebellkeep.WorkCancelled', WHERE WHAT IT READS IS OF BULK AT MOST 1048576: true; the input reads as it did. -/
def workCancelledUptoRow : OpenClaim := { program := "ytdfgmloipigmfaa", sum := "d7a70b8d9aae80036a7ef7be3371449f34b834fae0d1cf98a93ba58b4edbda5f", func := "corebell/corebellkeep.WorkCancelled", spec := "workCancelled", unfollowed := true, recurses := true, apart := false, narrowed := true }
def WorkCancelledUptoSaid : Prop := workCancelledUptoRow.holds Try.pinned (OpenSpec.upto workCancelledSpec)

/-- 'corebellkeep.SoftQuiet', WHERE WHAT IT READS IS OF BULK AT MOST 1048576: true; the input reads as it did. -/
def softQuietUptoRow : OpenClaim := { program := "ytdfgmloipigmfaa", sum := "d7a70b8d9aae80036a7ef7be3371449f34b834fae0d1cf98a93ba58b4edbda5f", func := "corebell/corebellkeep.SoftQuiet", spec := "softQuiet", unfollowed := true, recurses := true, apart := false, narrowed := true }
def SoftQuietUptoSaid : Prop := softQuietUptoRow.holds Try.pinned (OpenSpec.upto softQuietSpec)

/-- 'corebellkeep.ChainOrder', WHERE WHAT IT READS IS OF BULK AT MOST 1048576: true; the input reads as it did. -/
def chainOrderUptoRow : OpenClaim := { program := "ytdfgmloipigmfaa", sum := "d7a70b8d9aae80036a7ef7be3371449f34b834fae0d1cf98a93ba58b4edbda5f", func := "corebell/corebellkeep.ChainOrder", spec := "chainOrder", unfollowed := true, recurses := true, apart := false, narrowed := true }
def ChainOrderUptoSaid : Prop := chainOrderUptoRow.holds Try.pinned (OpenSpec.upto chainOrderSpec)

/-- 'corebellkeep.LineMask', WHERE WHAT IT READS IS OF BULK AT MOST 1048576: true; the input reads as it did. -/
def lineMaskUptoRow : OpenClaim := { program := "ytdfgmloipigmfaa", sum := "d7a70b8d9aae80036a7ef7be3371449f34b834fae0d1cf98a93ba58b4edbda5f", func := "corebell/corebellkeep.LineMask", spec := "lineMask", inPlace := ["slices.overlaps[corebell/api.PinOp]"], unfollowed := true, recurses := true, apart := false, narrowed := true }
def LineMaskUptoSaid : Prop := lineMaskUptoRow.holds Try.pinned (OpenSpec.upto lineMaskSpec)

end Rows
end Go.Proofs.Ytdfgmloipigmfaa
