/-
  No cell of these rows narrows 'for every input' (looked for: loops, veiled, ifaces, maps, wideKeys, modest, calm, conditions, laid).
  DERIVED. THE GIVEN ROWS OF THIS SEAT. 5 by the template 'for every input the law returns true; each argument reads behind the call as it read before'; 0 by the template 'total and deterministic' (their statements: YtfkoglicoabbaaaTotals.lean).
  GIVEN WITH THE SEED: the statements are not yours to turn. If you find one false, say at which input.
  Laid BY PROGRAM, IN A SANDBOX (cutbox-rows.mjs): the forced cells as the released guide's own fill.sh prints them over the translation 7b3f7084a0a11095… (all of the seat's roots in one cut). By AI agents, Wed Nov 11 2026. No macro, syntax, notation, axiom, sorry.
-/
import Derived.Test.YtfkoglicoabbaaaChecked
import GoSem.Claim
import GoSem.ClaimJoined
import GoSem.ClaimMapViews
import Derived.JoinedTies
import Derived.KernelRfl
namespace Go.Proofs.Ytfkoglicoabbaaa
/- THE CELL 'sum', in the pinned program and in every row, IS THE sha256 OF THE DUMP (.gsa) THAT YtfkoglicoabbaaaProg.lean LOADS. Nothing in Lean hashes anything: it is a label: what it is worth is what the hold of that sum in a sandbox is worth. -/
noncomputable def Try.pinned : Pinned := { name := "ytfkoglicoabbaaa", sum := "7b3f7084a0a11095eac47e1eb6f31f7d7071d906395374a57ba613324ab5eedd", checked := Try.checked }
namespace Rows
def none {H : Type} : Left H := { results := [], args := [] }

/-- 'corebellkeep.FilesLeast': WHATEVER THE INPUT: true; the input reads as it did. -/
def filesLeastSpec : ChangeSpec := { name := "filesLeast", fn := fun _ => fun
  | [d1, d2] => { results := [.lit (.bool true)], args := [d1, d2] }
  | _ => none }
def filesLeastRow : OpenClaim := { program := "ytfkoglicoabbaaa", sum := "7b3f7084a0a11095eac47e1eb6f31f7d7071d906395374a57ba613324ab5eedd", func := "corebell/corebellkeep.FilesLeast", spec := "filesLeast", apart := false }
def FilesLeastSaid : Prop := filesLeastRow.holds Try.pinned (OpenSpec.ofChange filesLeastSpec)

/-- ITS FALSE NEIGHBOUR: 'it returns false'. Refute it at one input. -/
def filesLeastWrong : ChangeSpec := { name := "filesLeast", fn := fun _ => fun
  | [d1, d2] => { results := [.lit (.bool false)], args := [d1, d2] }
  | _ => none }
def FilesLeastWrongFalsely : Prop := filesLeastRow.holds Try.pinned (OpenSpec.ofChange filesLeastWrong)

/-- 'corebellkeep.FilesShared': WHATEVER THE INPUT: true; the input reads as it did. -/
def filesSharedSpec : ChangeSpec := { name := "filesShared", fn := fun _ => fun
  | [d1, d2, d3, d4, d5] => { results := [.lit (.bool true)], args := [d1, d2, d3, d4, d5] }
  | _ => none }
def filesSharedRow : OpenClaim := { program := "ytfkoglicoabbaaa", sum := "7b3f7084a0a11095eac47e1eb6f31f7d7071d906395374a57ba613324ab5eedd", func := "corebell/corebellkeep.FilesShared", spec := "filesShared", unfollowed := true, recurses := true, apart := false }
def FilesSharedSaid : Prop := filesSharedRow.holds Try.pinned (OpenSpec.ofChange filesSharedSpec)

/-- ITS FALSE NEIGHBOUR: 'it returns false'. Refute it at one input. -/
def filesSharedWrong : ChangeSpec := { name := "filesShared", fn := fun _ => fun
  | [d1, d2, d3, d4, d5] => { results := [.lit (.bool false)], args := [d1, d2, d3, d4, d5] }
  | _ => none }
def FilesSharedWrongFalsely : Prop := filesSharedRow.holds Try.pinned (OpenSpec.ofChange filesSharedWrong)

/-- 'corebellkeep.FilesClosed': WHATEVER THE INPUT: true; the input reads as it did. -/
def filesClosedSpec : ChangeSpec := { name := "filesClosed", fn := fun _ => fun
  | [d1, d2, d3] => { results := [.lit (.bool true)], args := [d1, d2, d3] }
  | _ => none }
def filesClosedRow : OpenClaim := { program := "ytfkoglicoabbaaa", sum := "7b3f7084a0a11095eac47e1eb6f31f7d7071d906395374a57ba613324ab5eedd", func := "corebell/corebellkeep.FilesClosed", spec := "filesClosed", apart := false }
def FilesClosedSaid : Prop := filesClosedRow.holds Try.pinned (OpenSpec.ofChange filesClosedSpec)

/-- ITS FALSE NEIGHBOUR: 'it returns false'. Refute it at one input. -/
def filesClosedWrong : ChangeSpec := { name := "filesClosed", fn := fun _ => fun
  | [d1, d2, d3] => { results := [.lit (.bool false)], args := [d1, d2, d3] }
  | _ => none }
def FilesClosedWrongFalsely : Prop := filesClosedRow.holds Try.pinned (OpenSpec.ofChange filesClosedWrong)

/-- 'corebellkeep.FilesFork': WHATEVER THE INPUT: true; the input reads as it did. -/
def filesForkSpec : ChangeSpec := { name := "filesFork", fn := fun _ => fun
  | [d1, d2, d3, d4] => { results := [.lit (.bool true)], args := [d1, d2, d3, d4] }
  | _ => none }
def filesForkRow : OpenClaim := { program := "ytfkoglicoabbaaa", sum := "7b3f7084a0a11095eac47e1eb6f31f7d7071d906395374a57ba613324ab5eedd", func := "corebell/corebellkeep.FilesFork", spec := "filesFork", apart := false }
def FilesForkSaid : Prop := filesForkRow.holds Try.pinned (OpenSpec.ofChange filesForkSpec)

/-- ITS FALSE NEIGHBOUR: 'it returns false'. Refute it at one input. -/
def filesForkWrong : ChangeSpec := { name := "filesFork", fn := fun _ => fun
  | [d1, d2, d3, d4] => { results := [.lit (.bool false)], args := [d1, d2, d3, d4] }
  | _ => none }
def FilesForkWrongFalsely : Prop := filesForkRow.holds Try.pinned (OpenSpec.ofChange filesForkWrong)

/-- 'corebellkeep.FilesCount': WHATEVER THE INPUT: true; the input reads as it did. -/
def filesCountSpec : ChangeSpec := { name := "filesCount", fn := fun _ => fun
  | [d1, d2, d3] => { results := [.lit (.bool true)], args := [d1, d2, d3] }
  | _ => none }
def filesCountRow : OpenClaim := { program := "ytfkoglicoabbaaa", sum := "7b3f7084a0a11095eac47e1eb6f31f7d7071d906395374a57ba613324ab5eedd", func := "corebell/corebellkeep.FilesCount", spec := "filesCount", apart := false }
def FilesCountSaid : Prop := filesCountRow.holds Try.pinned (OpenSpec.ofChange filesCountSpec)

/-- ITS FALSE NEIGHBOUR: 'it returns false'. Refute it at one input. -/
def filesCountWrong : ChangeSpec := { name := "filesCount", fn := fun _ => fun
  | [d1, d2, d3] => { results := [.lit (.bool false)], args := [d1, d2, d3] }
  | _ => none }
def FilesCountWrongFalsely : Prop := filesCountRow.holds Try.pinned (OpenSpec.ofChange filesCountWrong)

/- THE SECOND FORM. 'bulk': how many values and letters a reading holds, each counted each time it is reached (what is shared counts as often as it is met; a slice's spare places count too). A statement '..UptoSaid' is the law's where the arguments, and the package variables that the reading takes, are together of bulk at most 1048576: NARROWER than '..Said'. Prove '..Said' where nothing that the law and all that it calls make is longer than what came in: it says more and counts as full. Else prove '..UptoSaid'. A law counts once. -/
mutual
def uptoBulk {H : Type} : DataW H → Nat
  | .lit (.string bytes) => bytes.length + 1
  | .lit _ => 1
  | .nil => 1
  | .ptr d => uptoBulk d + 1
  | .slice elems spare => uptoBulkAll elems + uptoBulkAll spare + 1
  | .agg parts => uptoBulkAll parts + 1
  | .iface _ d => uptoBulk d + 1
  | .map entries => uptoBulkEntries entries + 1
  | .held _ => 1
def uptoBulkAll {H : Type} : List (DataW H) → Nat
  | [] => 0
  | d :: r => uptoBulk d + uptoBulkAll r
def uptoBulkEntries {H : Type} : List (Lit × DataW H) → Nat
  | [] => 0
  | x :: r => uptoBulkEntry x + uptoBulkEntries r
def uptoBulkEntry {H : Type} : Lit × DataW H → Nat
  | (.string bytes, d) => bytes.length + uptoBulk d + 1
  | (_, d) => uptoBulk d + 1
 end
def uptoSmall : (H : Type) → List (DataW H) → Bool := fun _ ds => decide (uptoBulkAll ds ≤ 1048576)
def OpenSpec.upto (s : _root_.Go.ChangeSpec) : _root_.Go.OpenSpec := { _root_.Go.OpenSpec.ofChange s with cond := some uptoSmall }

/-- 'corebellkeep.FilesLeast', WHERE WHAT IT READS IS OF BULK AT MOST 1048576: true; the input reads as it did. -/
def filesLeastUptoRow : OpenClaim := { program := "ytfkoglicoabbaaa", sum := "7b3f7084a0a11095eac47e1eb6f31f7d7071d906395374a57ba613324ab5eedd", func := "corebell/corebellkeep.FilesLeast", spec := "filesLeast", apart := false, narrowed := true }
def FilesLeastUptoSaid : Prop := filesLeastUptoRow.holds Try.pinned (OpenSpec.upto filesLeastSpec)

/-- 'corebellkeep.FilesShared', WHERE WHAT IT READS IS OF BULK AT MOST 1048576: true; the input reads as it did. -/
def filesSharedUptoRow : OpenClaim := { program := "ytfkoglicoabbaaa", sum := "7b3f7084a0a11095eac47e1eb6f31f7d7071d906395374a57ba613324ab5eedd", func := "corebell/corebellkeep.FilesShared", spec := "filesShared", unfollowed := true, recurses := true, apart := false, narrowed := true }
def FilesSharedUptoSaid : Prop := filesSharedUptoRow.holds Try.pinned (OpenSpec.upto filesSharedSpec)

/-- 'corebellkeep.FilesClosed', WHERE WHAT IT READS IS OF BULK AT MOST 1048576: true; the input reads as it did. -/
def filesClosedUptoRow : OpenClaim := { program := "ytfkoglicoabbaaa", sum := "7b3f7084a0a11095eac47e1eb6f31f7d7071d906395374a57ba613324ab5eedd", func := "corebell/corebellkeep.FilesClosed", spec := "filesClosed", apart := false, narrowed := true }
def FilesClosedUptoSaid : Prop := filesClosedUptoRow.holds Try.pinned (OpenSpec.upto filesClosedSpec)

/-- 'corebellkeep.FilesFork', WHERE WHAT IT READS IS OF BULK AT MOST 1048576: true; the input reads as it did. -/
def filesForkUptoRow : OpenClaim := { program := "ytfkoglicoabbaaa", sum := "7b3f7084a0a11095eac47e1eb6f31f7d7071d906395374a57ba613324ab5eedd", func := "corebell/corebellkeep.FilesFork", spec := "filesFork", apart := false, narrowed := true }
def FilesForkUptoSaid : Prop := filesForkUptoRow.holds Try.pinned (OpenSpec.upto filesForkSpec)

/-- 'corebellkeep.FilesCount', WHERE WHAT IT READS IS OF BULK AT MOST 1048576: true; the input reads as it did. -/
def filesCountUptoRow : OpenClaim := { program := "ytfkoglicoabbaaa", sum := "7b3f7084a0a11095eac47e1eb6f31f7d7071d906395374a57ba613324ab5eedd", func := "corebell/corebellkeep.FilesCount", spec := "filesCount", apart := false, narrowed := true }
def FilesCountUptoSaid : Prop := filesCountUptoRow.holds Try.pinned (OpenSpec.upto filesCountSpec)

end Rows
end Go.Proofs.Ytfkoglicoabbaaa
