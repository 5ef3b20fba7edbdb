/-
  No cell of these rows narrows 'for every input' (looked for: loops, veiled, ifaces, maps, wideKeys, modest, calm, conditions, laid).
  DERIVED. THE GIVEN ROWS OF THIS SEAT. 4 by the template 'for every input the law returns true; each argument reads behind the call as it read before'; 0 by the template 'total and deterministic' (their statements: YtpkgaagajbfgbaaTotals.lean).
  GIVEN WITH THE SEED: the statements are not yours to turn. If you find one false, say at which input.
  Laid BY PROGRAM, IN A SANDBOX (cutbox-rows.mjs): the forced cells as the released guide's own fill.sh prints them over the translation 3bb610f5f9e08691… (all of the seat's roots in one cut). By AI agents, Wed Nov 11 2026. No macro, syntax, notation, axiom, sorry.
-/
import Derived.Test.YtpkgaagajbfgbaaChecked
import GoSem.Claim
import GoSem.ClaimJoined
import GoSem.ClaimMapViews
import Derived.JoinedTies
import Derived.KernelRfl
namespace Go.Proofs.Ytpkgaagajbfgbaa
/- THE CELL 'sum', in the pinned program and in every row, IS THE sha256 OF THE DUMP (.gsa) THAT YtpkgaagajbfgbaaProg.lean LOADS. Nothing in Lean hashes anything: it is a label: what it is worth is what the hold of that sum in a sandbox is worth. -/
noncomputable def Try.pinned : Pinned := { name := "ytpkgaagajbfgbaa", sum := "3bb610f5f9e08691a115cb34b7665edec6ecd8d04fcff75f0b4e279bc2d23299", checked := Try.checked }
namespace Rows
def none {H : Type} : Left H := { results := [], args := [] }

/-- 'corebellkeep.TtyPlain': WHATEVER THE INPUT: true; the input reads as it did. -/
def ttyPlainSpec : ChangeSpec := { name := "ttyPlain", fn := fun _ => fun
  | [d1, d2] => { results := [.lit (.bool true)], args := [d1, d2] }
  | _ => none }
def ttyPlainRow : OpenClaim := { program := "ytpkgaagajbfgbaa", sum := "3bb610f5f9e08691a115cb34b7665edec6ecd8d04fcff75f0b4e279bc2d23299", func := "corebell/corebellkeep.TtyPlain", spec := "ttyPlain", unfollowed := true, recurses := true, apart := false }
def TtyPlainSaid : Prop := ttyPlainRow.holds Try.pinned (OpenSpec.ofChange ttyPlainSpec)

/-- ITS FALSE NEIGHBOUR: 'it returns false'. Refute it at one input. -/
def ttyPlainWrong : ChangeSpec := { name := "ttyPlain", fn := fun _ => fun
  | [d1, d2] => { results := [.lit (.bool false)], args := [d1, d2] }
  | _ => none }
def TtyPlainWrongFalsely : Prop := ttyPlainRow.holds Try.pinned (OpenSpec.ofChange ttyPlainWrong)

/-- 'corebellkeep.TtyErase': WHATEVER THE INPUT: true; the input reads as it did. -/
def ttyEraseSpec : ChangeSpec := { name := "ttyErase", fn := fun _ => fun
  | [d1, d2, d3] => { results := [.lit (.bool true)], args := [d1, d2, d3] }
  | _ => none }
def ttyEraseRow : OpenClaim := { program := "ytpkgaagajbfgbaa", sum := "3bb610f5f9e08691a115cb34b7665edec6ecd8d04fcff75f0b4e279bc2d23299", func := "corebell/corebellkeep.TtyErase", spec := "ttyErase", unfollowed := true, recurses := true, apart := false }
def TtyEraseSaid : Prop := ttyEraseRow.holds Try.pinned (OpenSpec.ofChange ttyEraseSpec)

/-- ITS FALSE NEIGHBOUR: 'it returns false'. Refute it at one input. -/
def ttyEraseWrong : ChangeSpec := { name := "ttyErase", fn := fun _ => fun
  | [d1, d2, d3] => { results := [.lit (.bool false)], args := [d1, d2, d3] }
  | _ => none }
def TtyEraseWrongFalsely : Prop := ttyEraseRow.holds Try.pinned (OpenSpec.ofChange ttyEraseWrong)

/-- 'corebellkeep.TtyReads': WHATEVER THE INPUT: true; the input reads as it did. -/
def ttyReadsSpec : ChangeSpec := { name := "ttyReads", fn := fun _ => fun
  | [d1, d2, d3] => { results := [.lit (.bool true)], args := [d1, d2, d3] }
  | _ => none }
def ttyReadsRow : OpenClaim := { program := "ytpkgaagajbfgbaa", sum := "3bb610f5f9e08691a115cb34b7665edec6ecd8d04fcff75f0b4e279bc2d23299", func := "corebell/corebellkeep.TtyReads", spec := "ttyReads", unfollowed := true, recurses := true, apart := false }
def TtyReadsSaid : Prop := ttyReadsRow.holds Try.pinned (OpenSpec.ofChange ttyReadsSpec)

/-- ITS FALSE NEIGHBOUR: 'it returns false'. Refute it at one input. -/
def ttyReadsWrong : ChangeSpec := { name := "ttyReads", fn := fun _ => fun
  | [d1, d2, d3] => { results := [.lit (.bool false)], args := [d1, d2, d3] }
  | _ => none }
def TtyReadsWrongFalsely : Prop := ttyReadsRow.holds Try.pinned (OpenSpec.ofChange ttyReadsWrong)

/-- 'corebellkeep.TtyWord': WHATEVER THE INPUT: true; the input reads as it did. -/
def ttyWordSpec : ChangeSpec := { name := "ttyWord", fn := fun _ => fun
  | [d1, d2, d3] => { results := [.lit (.bool true)], args := [d1, d2, d3] }
  | _ => none }
def ttyWordRow : OpenClaim := { program := "ytpkgaagajbfgbaa", sum := "3bb610f5f9e08691a115cb34b7665edec6ecd8d04fcff75f0b4e279bc2d23299", func := "corebell/corebellkeep.TtyWord", spec := "ttyWord", unfollowed := true, recurses := true, apart := false }
def TtyWordSaid : Prop := ttyWordRow.holds Try.pinned (OpenSpec.ofChange ttyWordSpec)

/-- ITS FALSE NEIGHBOUR: 'it returns false'. Refute it at one input. -/
def ttyWordWrong : ChangeSpec := { name := "ttyWord", fn := fun _ => fun
  | [d1, d2, d3] => { results := [.lit (.bool false)], args := [d1, d2, d3] }
  | _ => none }
def TtyWordWrongFalsely : Prop := ttyWordRow.holds Try.pinned (OpenSpec.ofChange ttyWordWrong)

/- THE SECOND FORM. 'bulk': how many values and letters a reading holds, each counted each time it is reached (what is shared counts as often as it is met; a slice's spare places count too). A statement '..UptoSaid' is the law's where the arguments, and the package variables that the reading takes, are together of bulk at most 1048576: NARROWER than '..Said'. Prove '..Said' where nothing that the law and all that it calls make is longer than what came in: it says more and counts as full. Else prove '..UptoSaid'. A law counts once. -/
mutual
def uptoBulk {H : Type} : DataW H → Nat
  | .lit (.string bytes) => bytes.length + 1
  | .lit _ => 1
  | .nil => 1
  | .ptr d => uptoBulk d + 1
  | .slice elems spare => uptoBulkAll elems + uptoBulkAll spare + 1
  | .agg parts => uptoBulkAll parts + 1
  | .iface _ d => uptoBulk d + 1
  | .map entries => uptoBulkEntries entries + 1
  | .held _ => 1
def uptoBulkAll {H : Type} : List (DataW H) → Nat
  | [] => 0
  | d :: r => uptoBulk d + uptoBulkAll r
def uptoBulkEntries {H : Type} : List (Lit × DataW H) → Nat
  | [] => 0
  | x :: r => uptoBulkEntry x + uptoBulkEntries r
def uptoBulkEntry {H : Type} : Lit × DataW H → Nat
  | (.string bytes, d) => bytes.length + uptoBulk d + 1
  | (_, d) => uptoBulk d + 1
 end
def uptoSmall : (H : Type) → List (DataW H) → Bool := fun _ ds => decide (uptoBulkAll ds ≤ 1048576)
def OpenSpec.upto (s : _root_.Go.ChangeSpec) : _root_.Go.OpenSpec := { _root_.Go.OpenSpec.ofChange s with cond := some uptoSmall }

/-- 'corebellkeep.TtyPlain', WHERE WHAT IT READS IS OF BULK AT MOST 1048576: true; the input reads as it did. -/
def ttyPlainUptoRow : OpenClaim := { program := "ytpkgaagajbfgbaa", sum := "3bb610f5f9e08691a115cb34b7665edec6ecd8d04fcff75f0b4e279bc2d23299", func := "corebell/corebellkeep.TtyPlain", spec := "ttyPlain", unfollowed := true, recurses := true, apart := false, narrowed := true }
def TtyPlainUptoSaid : Prop := ttyPlainUptoRow.holds Try.pinned (OpenSpec.upto ttyPlainSpec)

/-- 'corebellkeep.TtyErase', WHERE WHAT IT READS IS OF BULK AT MOST 1048576: true; the input reads as it did. -/
def ttyEraseUptoRow : OpenClaim := { program := "ytpkgaagajbfgbaa", sum := "3bb610f5f9e08691a115cb34b7665edec6ecd8d04fcff75f0b4e279bc2d23299", func := "corebell/corebellkeep.TtyErase", spec := "ttyErase", unfollowed := true, recurses := true, apart := false, narrowed := true }
def TtyEraseUptoSaid : Prop := ttyEraseUptoRow.holds Try.pinned (OpenSpec.upto ttyEraseSpec)

/-- 'corebellkeep.TtyReads', WHERE WHAT IT READS IS OF BULK AT MOST 1048576: true; the input reads as it did. -/
def ttyReadsUptoRow : OpenClaim := { program := "ytpkgaagajbfgbaa", sum := "3bb610f5f9e08691a115cb34b7665edec6ecd8d04fcff75f0b4e279bc2d23299", func := "corebell/corebellkeep.TtyReads", spec := "ttyReads", unfollowed := true, recurses := true, apart := false, narrowed := true }
def TtyReadsUptoSaid : Prop := ttyReadsUptoRow.holds Try.pinned (OpenSpec.upto ttyReadsSpec)

/-- 'corebellkeep.TtyWord', WHERE WHAT IT READS IS OF BULK AT MOST 1048576: true; the input reads as it did. -/
def ttyWordUptoRow : OpenClaim := { program := "ytpkgaagajbfgbaa", sum := "3bb610f5f9e08691a115cb34b7665edec6ecd8d04fcff75f0b4e279bc2d23299", func := "corebell/corebellkeep.TtyWord", spec := "ttyWord", unfollowed := true, recurses := true, apart := false, narrowed := true }
def TtyWordUptoSaid : Prop := ttyWordUptoRow.holds Try.pinned (OpenSpec.upto ttyWordSpec)

end Rows
end Go.Proofs.Ytpkgaagajbfgbaa
