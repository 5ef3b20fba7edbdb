/-
  No cell of these rows narrows 'for every input' (looked for: loops, veiled, ifaces, maps, wideKeys, modest, calm, conditions, laid).
  DERIVED. THE GIVEN ROWS OF THIS SEAT. 12 by the template 'for every input the law returns true; each argument reads behind the call as it read before'; 0 by the template 'total and deterministic' (their statements: YtaadkjlooehhnaaTotals.lean).
  GIVEN WITH THE SEED: the statements are not yours to turn. If you find one false, say at which input.
  Laid BY PROGRAM, IN A SANDBOX (cutbox-rows.mjs): the forced cells as the released guide's own fill.sh prints them over the translation 1106d15451602818… (all of the seat's roots in one cut). By AI agents, Wed Nov 11 2026. No macro, syntax, notation, axiom, sorry.
-/
import Derived.Test.YtaadkjlooehhnaaChecked
import GoSem.Claim
import GoSem.ClaimJoined
import GoSem.ClaimMapViews
import Derived.JoinedTies
import Derived.KernelRfl
namespace Go.Proofs.Ytaadkjlooehhnaa
/- THE CELL 'sum', in the pinned program and in every row, IS THE sha256 OF THE DUMP (.gsa) THAT YtaadkjlooehhnaaProg.lean LOADS. Nothing in Lean hashes anything: it is a label: what it is worth is what the hold of that sum in a sandbox is worth. -/
noncomputable def Try.pinned : Pinned := { name := "ytaadkjlooehhnaa", sum := "1106d15451602818b61725d058ea5b9942bac5a5a1a05dc699569c1b2cf3f7b8", checked := Try.checked }
namespace Rows
def none {H : Type} : Left H := { results := [], args := [] }

/-- 'corebellkeep.LineRight': WHATEVER THE INPUT: true; the input reads as it did. -/
def lineRightSpec : ChangeSpec := { name := "lineRight", fn := fun _ => fun
  | [d1, d2] => { results := [.lit (.bool true)], args := [d1, d2] }
  | _ => none }
def lineRightRow : OpenClaim := { program := "ytaadkjlooehhnaa", sum := "1106d15451602818b61725d058ea5b9942bac5a5a1a05dc699569c1b2cf3f7b8", func := "corebell/corebellkeep.LineRight", spec := "lineRight", unfollowed := true, recurses := true, apart := false }
def LineRightSaid : Prop := lineRightRow.holds Try.pinned (OpenSpec.ofChange lineRightSpec)

/-- ITS FALSE NEIGHBOUR: 'it returns false'. Refute it at one input. -/
def lineRightWrong : ChangeSpec := { name := "lineRight", fn := fun _ => fun
  | [d1, d2] => { results := [.lit (.bool false)], args := [d1, d2] }
  | _ => none }
def LineRightWrongFalsely : Prop := lineRightRow.holds Try.pinned (OpenSpec.ofChange lineRightWrong)

/-- 'corebellkeep.LineLevel': WHATEVER THE INPUT: true; the input reads as it did. -/
def lineLevelSpec : ChangeSpec := { name := "lineLevel", fn := fun _ => fun
  | [d1, d2, d3] => { results := [.lit (.bool true)], args := [d1, d2, d3] }
  | _ => none }
def lineLevelRow : OpenClaim := { program := "ytaadkjlooehhnaa", sum := "1106d15451602818b61725d058ea5b9942bac5a5a1a05dc699569c1b2cf3f7b8", func := "corebell/corebellkeep.LineLevel", spec := "lineLevel", unfollowed := true, recurses := true, apart := false }
def LineLevelSaid : Prop := lineLevelRow.holds Try.pinned (OpenSpec.ofChange lineLevelSpec)

/-- ITS FALSE NEIGHBOUR: 'it returns false'. Refute it at one input. -/
def lineLevelWrong : ChangeSpec := { name := "lineLevel", fn := fun _ => fun
  | [d1, d2, d3] => { results := [.lit (.bool false)], args := [d1, d2, d3] }
  | _ => none }
def LineLevelWrongFalsely : Prop := lineLevelRow.holds Try.pinned (OpenSpec.ofChange lineLevelWrong)

/-- 'corebellkeep.LineEdges': WHATEVER THE INPUT: true; the input reads as it did. -/
def lineEdgesSpec : ChangeSpec := { name := "lineEdges", fn := fun _ => fun
  | [d1, d2, d3] => { results := [.lit (.bool true)], args := [d1, d2, d3] }
  | _ => none }
def lineEdgesRow : OpenClaim := { program := "ytaadkjlooehhnaa", sum := "1106d15451602818b61725d058ea5b9942bac5a5a1a05dc699569c1b2cf3f7b8", func := "corebell/corebellkeep.LineEdges", spec := "lineEdges", unfollowed := true, recurses := true, apart := false }
def LineEdgesSaid : Prop := lineEdgesRow.holds Try.pinned (OpenSpec.ofChange lineEdgesSpec)

/-- ITS FALSE NEIGHBOUR: 'it returns false'. Refute it at one input. -/
def lineEdgesWrong : ChangeSpec := { name := "lineEdges", fn := fun _ => fun
  | [d1, d2, d3] => { results := [.lit (.bool false)], args := [d1, d2, d3] }
  | _ => none }
def LineEdgesWrongFalsely : Prop := lineEdgesRow.holds Try.pinned (OpenSpec.ofChange lineEdgesWrong)

/-- 'corebellkeep.ChainOff': WHATEVER THE INPUT: true; the input reads as it did. -/
def chainOffSpec : ChangeSpec := { name := "chainOff", fn := fun _ => fun
  | [d1, d2] => { results := [.lit (.bool true)], args := [d1, d2] }
  | _ => none }
def chainOffRow : OpenClaim := { program := "ytaadkjlooehhnaa", sum := "1106d15451602818b61725d058ea5b9942bac5a5a1a05dc699569c1b2cf3f7b8", func := "corebell/corebellkeep.ChainOff", spec := "chainOff", unfollowed := true, recurses := true, apart := false }
def ChainOffSaid : Prop := chainOffRow.holds Try.pinned (OpenSpec.ofChange chainOffSpec)

/-- ITS FALSE NEIGHBOUR: 'it returns false'. Refute it at one input. -/
def chainOffWrong : ChangeSpec := { name := "chainOff", fn := fun _ => fun
  | [d1, d2] => { results := [.lit (.bool false)], args := [d1, d2] }
  | _ => none }
def ChainOffWrongFalsely : Prop := chainOffRow.holds Try.pinned (OpenSpec.ofChange chainOffWrong)

/-- 'corebellkeep.TicketOne': WHATEVER THE INPUT: true; the input reads as it did. -/
def ticketOneSpec : ChangeSpec := { name := "ticketOne", fn := fun _ => fun
  | [d1, d2] => { results := [.lit (.bool true)], args := [d1, d2] }
  | _ => none }
def ticketOneRow : OpenClaim := { program := "ytaadkjlooehhnaa", sum := "1106d15451602818b61725d058ea5b9942bac5a5a1a05dc699569c1b2cf3f7b8", func := "corebell/corebellkeep.TicketOne", spec := "ticketOne", unfollowed := true, recurses := true, apart := false }
def TicketOneSaid : Prop := ticketOneRow.holds Try.pinned (OpenSpec.ofChange ticketOneSpec)

/-- ITS FALSE NEIGHBOUR: 'it returns false'. Refute it at one input. -/
def ticketOneWrong : ChangeSpec := { name := "ticketOne", fn := fun _ => fun
  | [d1, d2] => { results := [.lit (.bool false)], args := [d1, d2] }
  | _ => none }
def TicketOneWrongFalsely : Prop := ticketOneRow.holds Try.pinned (OpenSpec.ofChange ticketOneWrong)

/-- 'corebellkeep.TicketFair': WHATEVER THE INPUT: true; the input reads as it did. -/
def ticketFairSpec : ChangeSpec := { name := "ticketFair", fn := fun _ => fun
  | [d] => { results := [.lit (.bool true)], args := [d] }
  | _ => none }
def ticketFairRow : OpenClaim := { program := "ytaadkjlooehhnaa", sum := "1106d15451602818b61725d058ea5b9942bac5a5a1a05dc699569c1b2cf3f7b8", func := "corebell/corebellkeep.TicketFair", spec := "ticketFair", unfollowed := true, recurses := true, apart := false }
def TicketFairSaid : Prop := ticketFairRow.holds Try.pinned (OpenSpec.ofChange ticketFairSpec)

/-- ITS FALSE NEIGHBOUR: 'it returns false'. Refute it at one input. -/
def ticketFairWrong : ChangeSpec := { name := "ticketFair", fn := fun _ => fun
  | [d] => { results := [.lit (.bool false)], args := [d] }
  | _ => none }
def TicketFairWrongFalsely : Prop := ticketFairRow.holds Try.pinned (OpenSpec.ofChange ticketFairWrong)

/-- 'corebellkeep.TicketAll': WHATEVER THE INPUT: true; the input reads as it did. -/
def ticketAllSpec : ChangeSpec := { name := "ticketAll", fn := fun _ => fun
  | [d] => { results := [.lit (.bool true)], args := [d] }
  | _ => none }
def ticketAllRow : OpenClaim := { program := "ytaadkjlooehhnaa", sum := "1106d15451602818b61725d058ea5b9942bac5a5a1a05dc699569c1b2cf3f7b8", func := "corebell/corebellkeep.TicketAll", spec := "ticketAll", unfollowed := true, recurses := true, apart := false }
def TicketAllSaid : Prop := ticketAllRow.holds Try.pinned (OpenSpec.ofChange ticketAllSpec)

/-- ITS FALSE NEIGHBOUR: 'it returns false'. Refute it at one input. -/
def ticketAllWrong : ChangeSpec := { name := "ticketAll", fn := fun _ => fun
  | [d] => { results := [.lit (.bool false)], args := [d] }
  | _ => none }
def TicketAllWrongFalsely : Prop := ticketAllRow.holds Try.pinned (OpenSpec.ofChange ticketAllWrong)

/-- 'corebellkeep.TicketStill': WHATEVER THE INPUT: true; the input reads as it did. -/
def ticketStillSpec : ChangeSpec := { name := "ticketStill", fn := fun _ => fun
  | [d1, d2] => { results := [.lit (.bool true)], args := [d1, d2] }
  | _ => none }
def ticketStillRow : OpenClaim := { program := "ytaadkjlooehhnaa", sum := "1106d15451602818b61725d058ea5b9942bac5a5a1a05dc699569c1b2cf3f7b8", func := "corebell/corebellkeep.TicketStill", spec := "ticketStill", unfollowed := true, recurses := true, apart := false }
def TicketStillSaid : Prop := ticketStillRow.holds Try.pinned (OpenSpec.ofChange ticketStillSpec)

/-- ITS FALSE NEIGHBOUR: 'it returns false'. Refute it at one input. -/
def ticketStillWrong : ChangeSpec := { name := "ticketStill", fn := fun _ => fun
  | [d1, d2] => { results := [.lit (.bool false)], args := [d1, d2] }
  | _ => none }
def TicketStillWrongFalsely : Prop := ticketStillRow.holds Try.pinned (OpenSpec.ofChange ticketStillWrong)

/-- 'corebellkeep.ChainOrder': WHATEVER THE INPUT: true; the input reads as it did. -/
def chainOrderSpec : ChangeSpec := { name := "chainOrder", fn := fun _ => fun
  | [d1, d2] => { results := [.lit (.bool true)], args := [d1, d2] }
  | _ => none }
def chainOrderRow : OpenClaim := { program := "ytaadkjlooehhnaa", sum := "1106d15451602818b61725d058ea5b9942bac5a5a1a05dc699569c1b2cf3f7b8", func := "corebell/corebellkeep.ChainOrder", spec := "chainOrder", unfollowed := true, recurses := true, apart := false }
def ChainOrderSaid : Prop := chainOrderRow.holds Try.pinned (OpenSpec.ofChange chainOrderSpec)

/-- ITS FALSE NEIGHBOUR: 'it returns false'. Refute it at one input. -/
def chainOrderWrong : ChangeSpec := { name := "chainOrder", fn := fun _ => fun
  | [d1, d2] => { results := [.lit (.bool false)], args := [d1, d2] }
  | _ => none }
def ChainOrderWrongFalsely : Prop := chainOrderRow.holds Try.pinned (OpenSpec.ofChange chainOrderWrong)

/-- 'corebellkeep.ChainAll': WHATEVER THE INPUT: true; the input reads as it did. -/
def chainAllSpec : ChangeSpec := { name := "chainAll", fn := fun _ => fun
  | [d1, d2] => { results := [.lit (.bool true)], args := [d1, d2] }
  | _ => none }
def chainAllRow : OpenClaim := { program := "ytaadkjlooehhnaa", sum := "1106d15451602818b61725d058ea5b9942bac5a5a1a05dc699569c1b2cf3f7b8", func := "corebell/corebellkeep.ChainAll", spec := "chainAll", unfollowed := true, recurses := true, apart := false }
def ChainAllSaid : Prop := chainAllRow.holds Try.pinned (OpenSpec.ofChange chainAllSpec)

/-- ITS FALSE NEIGHBOUR: 'it returns false'. Refute it at one input. -/
def chainAllWrong : ChangeSpec := { name := "chainAll", fn := fun _ => fun
  | [d1, d2] => { results := [.lit (.bool false)], args := [d1, d2] }
  | _ => none }
def ChainAllWrongFalsely : Prop := chainAllRow.holds Try.pinned (OpenSpec.ofChange chainAllWrong)

/-- 'corebellkeep.LineParts': WHATEVER THE INPUT: true; the input reads as it did. -/
def linePartsSpec : ChangeSpec := { name := "lineParts", fn := fun _ => fun
  | [d1, d2, d3] => { results := [.lit (.bool true)], args := [d1, d2, d3] }
  | _ => none }
def linePartsRow : OpenClaim := { program := "ytaadkjlooehhnaa", sum := "1106d15451602818b61725d058ea5b9942bac5a5a1a05dc699569c1b2cf3f7b8", func := "corebell/corebellkeep.LineParts", spec := "lineParts", unfollowed := true, recurses := true, apart := false }
def LinePartsSaid : Prop := linePartsRow.holds Try.pinned (OpenSpec.ofChange linePartsSpec)

/-- ITS FALSE NEIGHBOUR: 'it returns false'. Refute it at one input. -/
def linePartsWrong : ChangeSpec := { name := "lineParts", fn := fun _ => fun
  | [d1, d2, d3] => { results := [.lit (.bool false)], args := [d1, d2, d3] }
  | _ => none }
def LinePartsWrongFalsely : Prop := linePartsRow.holds Try.pinned (OpenSpec.ofChange linePartsWrong)

/-- 'corebellkeep.LineMask': WHATEVER THE INPUT: true; the input reads as it did. -/
def lineMaskSpec : ChangeSpec := { name := "lineMask", fn := fun _ => fun
  | [d1, d2, d3, d4] => { results := [.lit (.bool true)], args := [d1, d2, d3, d4] }
  | _ => none }
def lineMaskRow : OpenClaim := { program := "ytaadkjlooehhnaa", sum := "1106d15451602818b61725d058ea5b9942bac5a5a1a05dc699569c1b2cf3f7b8", func := "corebell/corebellkeep.LineMask", spec := "lineMask", inPlace := ["slices.overlaps[corebell/api.PinOp]"], unfollowed := true, recurses := true, apart := false }
def LineMaskSaid : Prop := lineMaskRow.holds Try.pinned (OpenSpec.ofChange lineMaskSpec)

/-- ITS FALSE NEIGHBOUR: 'it returns false'. Refute it at one input. -/
def lineMaskWrong : ChangeSpec := { name := "lineMask", fn := fun _ => fun
  | [d1, d2, d3, d4] => { results := [.lit (.bool false)], args := [d1, d2, d3, d4] }
  | _ => none }
def LineMaskWrongFalsely : Prop := lineMaskRow.holds Try.pinned (OpenSpec.ofChange lineMaskWrong)

/- THE SECOND FORM. 'bulk': how many values and letters a reading holds, each counted each time it is reached (what is shared counts as often as it is met; a slice's spare places count too). A statement '..UptoSaid' is the law's where the arguments, and the package variables that the reading takes, are together of bulk at most 1048576: NARROWER than '..Said'. Prove '..Said' where nothing that the law and all that it calls make is longer than what came in: it says more and counts as full. Else prove '..UptoSaid'. A law counts once. -/
mutual
def uptoBulk {H : Type} : DataW H → Nat
  | .lit (.string bytes) => bytes.length + 1
  | .lit _ => 1
  | .nil => 1
  | .ptr d => uptoBulk d + 1
  | .slice elems spare => uptoBulkAll elems + uptoBulkAll spare + 1
  | .agg parts => uptoBulkAll parts + 1
  | .iface _ d => uptoBulk d + 1
  | .map entries => uptoBulkEntries entries + 1
  | .held _ => 1
def uptoBulkAll {H : Type} : List (DataW H) → Nat
  | [] => 0
  | d :: r => uptoBulk d + uptoBulkAll r
def uptoBulkEntries {H : Type} : List (Lit × DataW H) → Nat
  | [] => 0
  | x :: r => uptoBulkEntry x + uptoBulkEntries r
def uptoBulkEntry {H : Type} : Lit × DataW H → Nat
  | (.string bytes, d) => bytes.length + uptoBulk d + 1
  | (_, d) => uptoBulk d + 1
 end
def uptoSmall : (H : Type) → List (DataW H) → Bool := fun _ ds => decide (uptoBulkAll ds ≤ 1048576)
def OpenSpec.upto (s : _root_.Go.ChangeSpec) : _root_.Go.OpenSpec := { _root_.Go.OpenSpec.ofChange s with cond := some uptoSmall }

/-- 'corebellkeep.LineRight', WHERE WHAT IT READS IS OF BULK AT MOST 1048576: true; the input reads as it did. -/
def lineRightUptoRow : OpenClaim := { program := "ytaadkjlooehhnaa", sum := "1106d15451602818b61725d058ea5b9942bac5a5a1a05dc699569c1b2cf3f7b8", func := "corebell/corebellkeep.LineRight", spec := "lineRight", unfollowed := true, recurses := true, apart := false, narrowed := true }
def LineRightUptoSaid : Prop := lineRightUptoRow.holds Try.pinned (OpenSpec.upto lineRightSpec)

/-- 'corebellkeep.LineLevel', WHERE WHAT IT READS IS OF BULK AT MOST 1048576: true; the input reads as it did. -/
def lineLevelUptoRow : OpenClaim := { program := "ytaadkjlooehhnaa", sum := "1106d15451602818b61725d058ea5b9942bac5a5a1a05dc699569c1b2cf3f7b8", func := "corebell/corebellkeep.LineLevel", spec := "lineLevel", unfollowed := true, recurses := true, apart := false, narrowed := true }
def LineLevelUptoSaid : Prop := lineLevelUptoRow.holds Try.pinned (OpenSpec.upto lineLevelSpec)

/-- 'corebellkeep.LineEdges', WHERE WHAT IT READS IS OF BULK AT MOST 1048576: true; the input reads as it did. -/
def lineEdgesUptoRow : OpenClaim := { program := "ytaadkjlooehhnaa", sum := "1106d15451602818b61725d058ea5b9942bac5a5a1a05dc699569c1b2cf3f7b8", func := "corebell/corebellkeep.LineEdges", spec := "lineEdges", unfollowed := true, recurses := true, apart := false, narrowed := true }
def LineEdgesUptoSaid : Prop := lineEdgesUptoRow.holds Try.pinned (OpenSpec.upto lineEdgesSpec)

/-- 'corebellkeep.ChainOff', WHERE WHAT IT READS IS OF BULK AT MOST 1048576: true; the input reads as it did. -/
def chainOffUptoRow : OpenClaim := { program := "ytaadkjlooehhnaa", sum := "1106d15451602818b61725d058ea5b9942bac5a5a1a05dc699569c1b2cf3f7b8", func := "corebell/corebellkeep.ChainOff", spec := "chainOff", unfollowed := true, recurses := true, apart := false, narrowed := true }
def ChainOffUptoSaid : Prop := chainOffUptoRow.holds Try.pinned (OpenSpec.upto chainOffSpec)

/-- 'corebellkeep.TicketOne', WHERE WHAT IT READS IS OF BULK AT MOST 1048576: true; the input reads as it did. -/
def ticketOneUptoRow : OpenClaim := { program := "ytaadkjlooehhnaa", sum := "1106d15451602818b61725d058ea5b9942bac5a5a1a05dc699569c1b2cf3f7b8", func := "corebell/corebellkeep.TicketOne", spec := "ticketOne", unfollowed := true, recurses := true, apart := false, narrowed := true }
def TicketOneUptoSaid : Prop := ticketOneUptoRow.holds Try.pinned (OpenSpec.upto ticketOneSpec)

/-- 'corebellkeep.TicketFair', WHERE WHAT IT READS IS OF BULK AT MOST 1048576: true; the input reads as it did. -/
def ticketFairUptoRow : OpenClaim := { program := "ytaadkjlooehhnaa", sum := "1106d15451602818b61725d058ea5b9942bac5a5a1a05dc699569c1b2cf3f7b8", func := "corebell/corebellkeep.TicketFair", spec := "ticketFair", unfollowed := true, recurses := true, apart := false, narrowed := true }
def TicketFairUptoSaid : Prop := ticketFairUptoRow.holds Try.pinned (OpenSpec.upto ticketFairSpec)

/-- 'corebellkeep.TicketAll', WHERE WHAT IT READS IS OF BULK AT MOST 1048576: true; the input reads as it did. -/
def ticketAllUptoRow : OpenClaim := { program := "ytaadkjlooehhnaa", sum := "1106d15451602818b61725d058ea5b9942bac5a5a1a05dc699569c1b2cf3f7b8", func := "corebell/corebellkeep.TicketAll", spec := "ticketAll", unfollowed := true, recurses := true, apart := false, narrowed := true }
def TicketAllUptoSaid : Prop := ticketAllUptoRow.holds Try.pinned (OpenSpec.upto ticketAllSpec)

/-- 'corebellkeep.TicketStill', WHERE WHAT IT READS IS OF BULK AT MOST 1048576: true; the input reads as it did. -/
def ticketStillUptoRow : OpenClaim := { program := "ytaadkjlooehhnaa", sum := "1106d15451602818b61725d058ea5b9942bac5a5a1a05dc699569c1b2cf3f7b8", func := "corebell/corebellkeep.TicketStill", spec := "ticketStill", unfollowed := true, recurses := true, apart := false, narrowed := true }
def TicketStillUptoSaid : Prop := ticketStillUptoRow.holds Try.pinned (OpenSpec.upto ticketStillSpec)

/-- 'corebellkeep.ChainOrder', WHERE WHAT IT READS IS OF BULK AT MOST 1048576: true; the input reads as it did. -/
def chainOrderUptoRow : OpenClaim := { program := "ytaadkjlooehhnaa", sum := "1106d15451602818b61725d058ea5b9942bac5a5a1a05dc699569c1b2cf3f7b8", func := "corebell/corebellkeep.ChainOrder", spec := "chainOrder", unfollowed := true, recurses := true, apart := false, narrowed := true }
def ChainOrderUptoSaid : Prop := chainOrderUptoRow.holds Try.pinned (OpenSpec.upto chainOrderSpec)

/-- 'corebellkeep.ChainAll', WHERE WHAT IT READS IS OF BULK AT MOST 1048576: true; the input reads as it did. -/
def chainAllUptoRow : OpenClaim := { program := "ytaadkjlooehhnaa", sum := "1106d15451602818b61725d058ea5b9942bac5a5a1a05dc699569c1b2cf3f7b8", func := "corebell/corebellkeep.ChainAll", spec := "chainAll", unfollowed := true, recurses := true, apart := false, narrowed := true }
def ChainAllUptoSaid : Prop := chainAllUptoRow.holds Try.pinned (OpenSpec.upto chainAllSpec)

/-- 'corebellkeep.LineParts', WHERE WHAT IT READS IS OF BULK AT MOST 1048576: true; the input reads as it did. -/
def linePartsUptoRow : OpenClaim := { program := "ytaadkjlooehhnaa", sum := "1106d15451602818b61725d058ea5b9942bac5a5a1a05dc699569c1b2cf3f7b8", func := "corebell/corebellkeep.LineParts", spec := "lineParts", unfollowed := true, recurses := true, apart := false, narrowed := true }
def LinePartsUptoSaid : Prop := linePartsUptoRow.holds Try.pinned (OpenSpec.upto linePartsSpec)

/-- 'corebellkeep.LineMask', WHERE WHAT IT READS IS OF BULK AT MOST 1048576: true; the input reads as it did. -/
def lineMaskUptoRow : OpenClaim := { program := "ytaadkjlooehhnaa", sum := "1106d15451602818b61725d058ea5b9942bac5a5a1a05dc699569c1b2cf3f7b8", func := "corebell/corebellkeep.LineMask", spec := "lineMask", inPlace := ["slices.overlaps[corebell/api.PinOp]"], unfollowed := true, recurses := true, apart := false, narrowed := true }
def LineMaskUptoSaid : Prop := lineMaskUptoRow.holds Try.pinned (OpenSpec.upto lineMaskSpec)

end Rows
end Go.Proofs.Ytaadkjlooehhnaa
