/-
  No cell of these rows narrows 'for every input' (looked for: loops, veiled, ifaces, maps, wideKeys, modest, calm, conditions, laid).
  DERIVED. THE GIVEN ROWS OF THIS SEAT. 11 by the template 'for every input the law returns true; each argument reads behind the call as it read before'; 0 by the template 'total and deterministic' (their statements: YtegafdnfcijemaaTotals.lean).
  GIVEN WITH THE SEED: the statements are not yours to turn. If you find one false, say at which input.
  Laid BY PROGRAM, IN A SANDBOX (cutbox-rows.mjs): the forced cells as the released guide's own fill.sh prints them over the translation b6553dac4b8ff95b… (all of the seat's roots in one cut). By AI agents, Wed Nov 11 2026. No macro, syntax, notation, axiom, sorry.
-/
import Derived.Test.YtegafdnfcijemaaChecked
import GoSem.Claim
import GoSem.ClaimJoined
import GoSem.ClaimMapViews
import Derived.JoinedTies
import Derived.KernelRfl
namespace Go.Proofs.Ytegafdnfcijemaa
/- THE CELL 'sum', in the pinned program and in every row, IS THE sha256 OF THE DUMP (.gsa) THAT YtegafdnfcijemaaProg.lean LOADS. Nothing in Lean hashes anything: it is a label: what it is worth is what the hold of that sum in a sandbox is worth. -/
noncomputable def Try.pinned : Pinned := { name := "ytegafdnfcijemaa", sum := "b6553dac4b8ff95b374a9d4eb7ab520ae9ff8e184b03a2ea6dcb046157780bd2", checked := Try.checked }
namespace Rows
def none {H : Type} : Left H := { results := [], args := [] }

/-- 'corebellkeep.NestBack': WHATEVER THE INPUT: true; the input reads as it did. -/
def nestBackSpec : ChangeSpec := { name := "nestBack", fn := fun _ => fun
  | [d] => { results := [.lit (.bool true)], args := [d] }
  | _ => none }
def nestBackRow : OpenClaim := { program := "ytegafdnfcijemaa", sum := "b6553dac4b8ff95b374a9d4eb7ab520ae9ff8e184b03a2ea6dcb046157780bd2", func := "corebell/corebellkeep.NestBack", spec := "nestBack", apart := false }
def NestBackSaid : Prop := nestBackRow.holds Try.pinned (OpenSpec.ofChange nestBackSpec)

/-- ITS FALSE NEIGHBOUR: 'it returns false'. Refute it at one input. -/
def nestBackWrong : ChangeSpec := { name := "nestBack", fn := fun _ => fun
  | [d] => { results := [.lit (.bool false)], args := [d] }
  | _ => none }
def NestBackWrongFalsely : Prop := nestBackRow.holds Try.pinned (OpenSpec.ofChange nestBackWrong)

/-- 'corebellkeep.NestQuiet': WHATEVER THE INPUT: true; the input reads as it did. -/
def nestQuietSpec : ChangeSpec := { name := "nestQuiet", fn := fun _ => fun
  | [d] => { results := [.lit (.bool true)], args := [d] }
  | _ => none }
def nestQuietRow : OpenClaim := { program := "ytegafdnfcijemaa", sum := "b6553dac4b8ff95b374a9d4eb7ab520ae9ff8e184b03a2ea6dcb046157780bd2", func := "corebell/corebellkeep.NestQuiet", spec := "nestQuiet", apart := false }
def NestQuietSaid : Prop := nestQuietRow.holds Try.pinned (OpenSpec.ofChange nestQuietSpec)

/-- ITS FALSE NEIGHBOUR: 'it returns false'. Refute it at one input. -/
def nestQuietWrong : ChangeSpec := { name := "nestQuiet", fn := fun _ => fun
  | [d] => { results := [.lit (.bool false)], args := [d] }
  | _ => none }
def NestQuietWrongFalsely : Prop := nestQuietRow.holds Try.pinned (OpenSpec.ofChange nestQuietWrong)

/-- 'corebellkeep.NestEven': WHATEVER THE INPUT: true; the input reads as it did. -/
def nestEvenSpec : ChangeSpec := { name := "nestEven", fn := fun _ => fun
  | [d] => { results := [.lit (.bool true)], args := [d] }
  | _ => none }
def nestEvenRow : OpenClaim := { program := "ytegafdnfcijemaa", sum := "b6553dac4b8ff95b374a9d4eb7ab520ae9ff8e184b03a2ea6dcb046157780bd2", func := "corebell/corebellkeep.NestEven", spec := "nestEven", apart := false }
def NestEvenSaid : Prop := nestEvenRow.holds Try.pinned (OpenSpec.ofChange nestEvenSpec)

/-- ITS FALSE NEIGHBOUR: 'it returns false'. Refute it at one input. -/
def nestEvenWrong : ChangeSpec := { name := "nestEven", fn := fun _ => fun
  | [d] => { results := [.lit (.bool false)], args := [d] }
  | _ => none }
def NestEvenWrongFalsely : Prop := nestEvenRow.holds Try.pinned (OpenSpec.ofChange nestEvenWrong)

/-- 'corebellkeep.ClockTrue': WHATEVER THE INPUT: true; the input reads as it did. -/
def clockTrueSpec : ChangeSpec := { name := "clockTrue", fn := fun _ => fun
  | [d1, d2] => { results := [.lit (.bool true)], args := [d1, d2] }
  | _ => none }
def clockTrueRow : OpenClaim := { program := "ytegafdnfcijemaa", sum := "b6553dac4b8ff95b374a9d4eb7ab520ae9ff8e184b03a2ea6dcb046157780bd2", func := "corebell/corebellkeep.ClockTrue", spec := "clockTrue", unfollowed := true, recurses := true, apart := false }
def ClockTrueSaid : Prop := clockTrueRow.holds Try.pinned (OpenSpec.ofChange clockTrueSpec)

/-- ITS FALSE NEIGHBOUR: 'it returns false'. Refute it at one input. -/
def clockTrueWrong : ChangeSpec := { name := "clockTrue", fn := fun _ => fun
  | [d1, d2] => { results := [.lit (.bool false)], args := [d1, d2] }
  | _ => none }
def ClockTrueWrongFalsely : Prop := clockTrueRow.holds Try.pinned (OpenSpec.ofChange clockTrueWrong)

/-- 'corebellkeep.ClockAgain': WHATEVER THE INPUT: true; the input reads as it did. -/
def clockAgainSpec : ChangeSpec := { name := "clockAgain", fn := fun _ => fun
  | [d] => { results := [.lit (.bool true)], args := [d] }
  | _ => none }
def clockAgainRow : OpenClaim := { program := "ytegafdnfcijemaa", sum := "b6553dac4b8ff95b374a9d4eb7ab520ae9ff8e184b03a2ea6dcb046157780bd2", func := "corebell/corebellkeep.ClockAgain", spec := "clockAgain", unfollowed := true, recurses := true, apart := false }
def ClockAgainSaid : Prop := clockAgainRow.holds Try.pinned (OpenSpec.ofChange clockAgainSpec)

/-- ITS FALSE NEIGHBOUR: 'it returns false'. Refute it at one input. -/
def clockAgainWrong : ChangeSpec := { name := "clockAgain", fn := fun _ => fun
  | [d] => { results := [.lit (.bool false)], args := [d] }
  | _ => none }
def ClockAgainWrongFalsely : Prop := clockAgainRow.holds Try.pinned (OpenSpec.ofChange clockAgainWrong)

/-- 'corebellkeep.UartApart': WHATEVER THE INPUT: true; the input reads as it did. -/
def uartApartSpec : ChangeSpec := { name := "uartApart", fn := fun _ => fun
  | [d1, d2] => { results := [.lit (.bool true)], args := [d1, d2] }
  | _ => none }
def uartApartRow : OpenClaim := { program := "ytegafdnfcijemaa", sum := "b6553dac4b8ff95b374a9d4eb7ab520ae9ff8e184b03a2ea6dcb046157780bd2", func := "corebell/corebellkeep.UartApart", spec := "uartApart", unfollowed := true, recurses := true, apart := false }
def UartApartSaid : Prop := uartApartRow.holds Try.pinned (OpenSpec.ofChange uartApartSpec)

/-- ITS FALSE NEIGHBOUR: 'it returns false'. Refute it at one input. -/
def uartApartWrong : ChangeSpec := { name := "uartApart", fn := fun _ => fun
  | [d1, d2] => { results := [.lit (.bool false)], args := [d1, d2] }
  | _ => none }
def UartApartWrongFalsely : Prop := uartApartRow.holds Try.pinned (OpenSpec.ofChange uartApartWrong)

/-- 'corebellkeep.UartAsks': WHATEVER THE INPUT: true; the input reads as it did. -/
def uartAsksSpec : ChangeSpec := { name := "uartAsks", fn := fun _ => fun
  | [d] => { results := [.lit (.bool true)], args := [d] }
  | _ => none }
def uartAsksRow : OpenClaim := { program := "ytegafdnfcijemaa", sum := "b6553dac4b8ff95b374a9d4eb7ab520ae9ff8e184b03a2ea6dcb046157780bd2", func := "corebell/corebellkeep.UartAsks", spec := "uartAsks", unfollowed := true, recurses := true, apart := false }
def UartAsksSaid : Prop := uartAsksRow.holds Try.pinned (OpenSpec.ofChange uartAsksSpec)

/-- ITS FALSE NEIGHBOUR: 'it returns false'. Refute it at one input. -/
def uartAsksWrong : ChangeSpec := { name := "uartAsks", fn := fun _ => fun
  | [d] => { results := [.lit (.bool false)], args := [d] }
  | _ => none }
def UartAsksWrongFalsely : Prop := uartAsksRow.holds Try.pinned (OpenSpec.ofChange uartAsksWrong)

/-- 'corebellkeep.ClockNothingLost': WHATEVER THE INPUT: true; the input reads as it did. -/
def clockNothingLostSpec : ChangeSpec := { name := "clockNothingLost", fn := fun _ => fun
  | [d1, d2] => { results := [.lit (.bool true)], args := [d1, d2] }
  | _ => none }
def clockNothingLostRow : OpenClaim := { program := "ytegafdnfcijemaa", sum := "b6553dac4b8ff95b374a9d4eb7ab520ae9ff8e184b03a2ea6dcb046157780bd2", func := "corebell/corebellkeep.ClockNothingLost", spec := "clockNothingLost", unfollowed := true, recurses := true, apart := false }
def ClockNothingLostSaid : Prop := clockNothingLostRow.holds Try.pinned (OpenSpec.ofChange clockNothingLostSpec)

/-- ITS FALSE NEIGHBOUR: 'it returns false'. Refute it at one input. -/
def clockNothingLostWrong : ChangeSpec := { name := "clockNothingLost", fn := fun _ => fun
  | [d1, d2] => { results := [.lit (.bool false)], args := [d1, d2] }
  | _ => none }
def ClockNothingLostWrongFalsely : Prop := clockNothingLostRow.holds Try.pinned (OpenSpec.ofChange clockNothingLostWrong)

/-- 'corebellkeep.ClockBack': WHATEVER THE INPUT: true; the input reads as it did. -/
def clockBackSpec : ChangeSpec := { name := "clockBack", fn := fun _ => fun
  | [d1, d2] => { results := [.lit (.bool true)], args := [d1, d2] }
  | _ => none }
def clockBackRow : OpenClaim := { program := "ytegafdnfcijemaa", sum := "b6553dac4b8ff95b374a9d4eb7ab520ae9ff8e184b03a2ea6dcb046157780bd2", func := "corebell/corebellkeep.ClockBack", spec := "clockBack", unfollowed := true, recurses := true, apart := false }
def ClockBackSaid : Prop := clockBackRow.holds Try.pinned (OpenSpec.ofChange clockBackSpec)

/-- ITS FALSE NEIGHBOUR: 'it returns false'. Refute it at one input. -/
def clockBackWrong : ChangeSpec := { name := "clockBack", fn := fun _ => fun
  | [d1, d2] => { results := [.lit (.bool false)], args := [d1, d2] }
  | _ => none }
def ClockBackWrongFalsely : Prop := clockBackRow.holds Try.pinned (OpenSpec.ofChange clockBackWrong)

/-- 'corebellkeep.ClockRises': WHATEVER THE INPUT: true; the input reads as it did. -/
def clockRisesSpec : ChangeSpec := { name := "clockRises", fn := fun _ => fun
  | [d1, d2, d3] => { results := [.lit (.bool true)], args := [d1, d2, d3] }
  | _ => none }
def clockRisesRow : OpenClaim := { program := "ytegafdnfcijemaa", sum := "b6553dac4b8ff95b374a9d4eb7ab520ae9ff8e184b03a2ea6dcb046157780bd2", func := "corebell/corebellkeep.ClockRises", spec := "clockRises", unfollowed := true, recurses := true, apart := false }
def ClockRisesSaid : Prop := clockRisesRow.holds Try.pinned (OpenSpec.ofChange clockRisesSpec)

/-- ITS FALSE NEIGHBOUR: 'it returns false'. Refute it at one input. -/
def clockRisesWrong : ChangeSpec := { name := "clockRises", fn := fun _ => fun
  | [d1, d2, d3] => { results := [.lit (.bool false)], args := [d1, d2, d3] }
  | _ => none }
def ClockRisesWrongFalsely : Prop := clockRisesRow.holds Try.pinned (OpenSpec.ofChange clockRisesWrong)

/-- 'corebellkeep.UartStream': WHATEVER THE INPUT: true; the input reads as it did. -/
def uartStreamSpec : ChangeSpec := { name := "uartStream", fn := fun _ => fun
  | [d] => { results := [.lit (.bool true)], args := [d] }
  | _ => none }
def uartStreamRow : OpenClaim := { program := "ytegafdnfcijemaa", sum := "b6553dac4b8ff95b374a9d4eb7ab520ae9ff8e184b03a2ea6dcb046157780bd2", func := "corebell/corebellkeep.UartStream", spec := "uartStream", unfollowed := true, recurses := true, apart := false }
def UartStreamSaid : Prop := uartStreamRow.holds Try.pinned (OpenSpec.ofChange uartStreamSpec)

/-- ITS FALSE NEIGHBOUR: 'it returns false'. Refute it at one input. -/
def uartStreamWrong : ChangeSpec := { name := "uartStream", fn := fun _ => fun
  | [d] => { results := [.lit (.bool false)], args := [d] }
  | _ => none }
def UartStreamWrongFalsely : Prop := uartStreamRow.holds Try.pinned (OpenSpec.ofChange uartStreamWrong)

/- THE SECOND FORM. 'bulk': how many values and letters a reading holds, each counted each time it is reached (what is shared counts as often as it is met; a slice's spare places count too). A statement '..UptoSaid' is the law's where the arguments, and the package variables that the reading takes, are together of bulk at most 1048576: NARROWER than '..Said'. Prove '..Said' where nothing that the law and all that it calls make is longer than what came in: it says more and counts as full. Else prove '..UptoSaid'. A law counts once. -/
mutual
def uptoBulk {H : Type} : DataW H → Nat
  | .lit (.string bytes) => bytes.length + 1
  | .lit _ => 1
  | .nil => 1
  | .ptr d => uptoBulk d + 1
  | .slice elems spare => uptoBulkAll elems + uptoBulkAll spare + 1
  | .agg parts => uptoBulkAll parts + 1
  | .iface _ d => uptoBulk d + 1
  | .map entries => uptoBulkEntries entries + 1
  | .held _ => 1
def uptoBulkAll {H : Type} : List (DataW H) → Nat
  | [] => 0
  | d :: r => uptoBulk d + uptoBulkAll r
def uptoBulkEntries {H : Type} : List (Lit × DataW H) → Nat
  | [] => 0
  | x :: r => uptoBulkEntry x + uptoBulkEntries r
def uptoBulkEntry {H : Type} : Lit × DataW H → Nat
  | (.string bytes, d) => bytes.length + uptoBulk d + 1
  | (_, d) => uptoBulk d + 1
 end
def uptoSmall : (H : Type) → List (DataW H) → Bool := fun _ ds => decide (uptoBulkAll ds ≤ 1048576)
def OpenSpec.upto (s : _root_.Go.ChangeSpec) : _root_.Go.OpenSpec := { _root_.Go.OpenSpec.ofChange s with cond := some uptoSmall }

/-- 'corebellkeep.NestBack', WHERE WHAT IT READS IS OF BULK AT MOST 1048576: true; the input reads as it did. -/
def nestBackUptoRow : OpenClaim := { program := "ytegafdnfcijemaa", sum := "b6553dac4b8ff95b374a9d4eb7ab520ae9ff8e184b03a2ea6dcb046157780bd2", func := "corebell/corebellkeep.NestBack", spec := "nestBack", apart := false, narrowed := true }
def NestBackUptoSaid : Prop := nestBackUptoRow.holds Try.pinned (OpenSpec.upto nestBackSpec)

/-- 'corebellkeep.NestQuiet', WHERE WHAT IT READS IS OF BULK AT MOST 1048576: true; the input reads as it did. -/
def nestQuietUptoRow : OpenClaim := { program := "ytegafdnfcijemaa", sum := "b6553dac4b8ff95b374a9d4eb7ab520ae9ff8e184b03a2ea6dcb046157780bd2", func := "corebell/corebellkeep.NestQuiet", spec := "nestQuiet", apart := false, narrowed := true }
def NestQuietUptoSaid : Prop := nestQuietUptoRow.holds Try.pinned (OpenSpec.upto nestQuietSpec)

/-- 'corebellkeep.NestEven', WHERE WHAT IT READS IS OF BULK AT MOST 1048576: true; the input reads as it did. -/
def nestEvenUptoRow : OpenClaim := { program := "ytegafdnfcijemaa", sum := "b6553dac4b8ff95b374a9d4eb7ab520ae9ff8e184b03a2ea6dcb046157780bd2", func := "corebell/corebellkeep.NestEven", spec := "nestEven", apart := false, narrowed := true }
def NestEvenUptoSaid : Prop := nestEvenUptoRow.holds Try.pinned (OpenSpec.upto nestEvenSpec)

/-- 'corebellkeep.ClockTrue', WHERE WHAT IT READS IS OF BULK AT MOST 1048576: true; the input reads as it did. -/
def clockTrueUptoRow : OpenClaim := { program := "ytegafdnfcijemaa", sum := "b6553dac4b8ff95b374a9d4eb7ab520ae9ff8e184b03a2ea6dcb046157780bd2", func := "corebell/corebellkeep.ClockTrue", spec := "clockTrue", unfollowed := true, recurses := true, apart := false, narrowed := true }
def ClockTrueUptoSaid : Prop := clockTrueUptoRow.holds Try.pinned (OpenSpec.upto clockTrueSpec)

/-- 'corebellkeep.ClockAgain', WHERE WHAT IT READS IS OF BULK AT MOST 1048576: true; the input reads as it did. -/
def clockAgainUptoRow : OpenClaim := { program := "ytegafdnfcijemaa", sum := "b6553dac4b8ff95b374a9d4eb7ab520ae9ff8e184b03a2ea6dcb046157780bd2", func := "corebell/corebellkeep.ClockAgain", spec := "clockAgain", unfollowed := true, recurses := true, apart := false, narrowed := true }
def ClockAgainUptoSaid : Prop := clockAgainUptoRow.holds Try.pinned (OpenSpec.upto clockAgainSpec)

/-- 'corebellkeep.UartApart', WHERE WHAT IT READS IS OF BULK AT MOST 1048576: true; the input reads as it did. -/
def uartApartUptoRow : OpenClaim := { program := "ytegafdnfcijemaa", sum := "b6553dac4b8ff95b374a9d4eb7ab520ae9ff8e184b03a2ea6dcb046157780bd2", func := "corebell/corebellkeep.UartApart", spec := "uartApart", unfollowed := true, recurses := true, apart := false, narrowed := true }
def UartApartUptoSaid : Prop := uartApartUptoRow.holds Try.pinned (OpenSpec.upto uartApartSpec)

/-- 'corebellkeep.UartAsks', WHERE WHAT IT READS IS OF BULK AT MOST 1048576: true; the input reads as it did. -/
def uartAsksUptoRow : OpenClaim := { program := "ytegafdnfcijemaa", sum := "b6553dac4b8ff95b374a9d4eb7ab520ae9ff8e184b03a2ea6dcb046157780bd2", func := "corebell/corebellkeep.UartAsks", spec := "uartAsks", unfollowed := true, recurses := true, apart := false, narrowed := true }
def UartAsksUptoSaid : Prop := uartAsksUptoRow.holds Try.pinned (OpenSpec.upto uartAsksSpec)

/-- 'corebellkeep.ClockNothingLost', WHERE WHAT IT READS IS OF BULK AT MOST 1048576: true; the input reads as it did. -/
def clockNothingLostUptoRow : OpenClaim := { program := "ytegafdnfcijemaa", sum := "b6553dac4b8ff95b374a9d4eb7ab520ae9ff8e184b03a2ea6dcb046157780bd2", func := "corebell/corebellkeep.ClockNothingLost", spec := "clockNothingLost", unfollowed := true, recurses := true, apart := false, narrowed := true }
def ClockNothingLostUptoSaid : Prop := clockNothingLostUptoRow.holds Try.pinned (OpenSpec.upto clockNothingLostSpec)

/-- 'corebellkeep.ClockBack', WHERE WHAT IT READS IS OF BULK AT MOST 1048576: true; the input reads as it did. -/
def clockBackUptoRow : OpenClaim := { program := "ytegafdnfcijemaa", sum := "b6553dac4b8ff95b374a9d4eb7ab520ae9ff8e184b03a2ea6dcb046157780bd2", func := "corebell/corebellkeep.ClockBack", spec := "clockBack", unfollowed := true, recurses := true, apart := false, narrowed := true }
def ClockBackUptoSaid : Prop := clockBackUptoRow.holds Try.pinned (OpenSpec.upto clockBackSpec)

/-- 'corebellkeep.ClockRises', WHERE WHAT IT READS IS OF BULK AT MOST 1048576: true; the input reads as it did. -/
def clockRisesUptoRow : OpenClaim := { program := "ytegafdnfcijemaa", sum := "b6553dac4b8ff95b374a9d4eb7ab520ae9ff8e184b03a2ea6dcb046157780bd2", func := "corebell/corebellkeep.ClockRises", spec := "clockRises", unfollowed := true, recurses := true, apart := false, narrowed := true }
def ClockRisesUptoSaid : Prop := clockRisesUptoRow.holds Try.pinned (OpenSpec.upto clockRisesSpec)

/-- 'corebellkeep.UartStream', WHERE WHAT IT READS IS OF BULK AT MOST 1048576: true; the input reads as it did. -/
def uartStreamUptoRow : OpenClaim := { program := "ytegafdnfcijemaa", sum := "b6553dac4b8ff95b374a9d4eb7ab520ae9ff8e184b03a2ea6dcb046157780bd2", func := "corebell/corebellkeep.UartStream", spec := "uartStream", unfollowed := true, recurses := true, apart := false, narrowed := true }
def UartStreamUptoSaid : Prop := uartStreamUptoRow.holds Try.pinned (OpenSpec.upto uartStreamSpec)

end Rows
end Go.Proofs.Ytegafdnfcijemaa
