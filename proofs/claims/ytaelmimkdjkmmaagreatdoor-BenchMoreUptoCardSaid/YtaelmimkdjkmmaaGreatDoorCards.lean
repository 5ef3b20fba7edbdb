/-
  DERIVED. GIVEN WITH THE SEED: THE CARDS: each row of YtaelmimkdjkmmaaGreatDoorRows.lean that lists a variable, with what it lists TIED to the program's text (the seventh form; the later family's looks); each row that meets fmt, with fmt's text TOLD by the authors' own Lean function (tested against real Go, not proved from fmt's source: count such statements apart). THE CARD IS WHAT COUNTS. Prove the row's statement (the work); the ties are given (YtaelmimkdjkmmaaGreatDoorTie.lean); close each card by the builder's one call (the guide's Derived/Test/ToyasCard.lean, 'card_holds'). Laid BY PROGRAM, IN A SANDBOX (cutbox-door.mjs). By AI agents, Wed Nov 11 2026. No macro, syntax, notation, axiom, sorry.
-/
import Derived.Test.YtaelmimkdjkmmaaGreatDoorRows
import GoSem.ClaimSeven
namespace Go.Proofs.YtaelmimkdjkmmaaGreatDoor
namespace Rows

/-- THE TIED CARD OF 'corebellkeep.BenchMore'. -/
def benchMoreCard : Claim7 := { stood := { row := benchMoreRow, standIns := [], harness := (true, "63e034e44a763841c209c3545711f8cdc81db70135d7d470a2f241d4c1c762cb"), looks := true }, kinds := [], alts := [], laidByText := true, laidKinds := [.data, .data, .data, .sentinel, .sentinel], laidTests := true, laidLooks := .later }
def BenchMoreCardSaid : Prop := Claim7.holds Tryz.pinned (.plain (OpenSpec.ofChange benchMoreSpec)) benchMoreCard

/-- THE TIED CARD OF 'corebellkeep.BenchBack'. -/
def benchBackCard : Claim7 := { stood := { row := benchBackRow, standIns := [], harness := (true, "63e034e44a763841c209c3545711f8cdc81db70135d7d470a2f241d4c1c762cb"), looks := true }, kinds := [], alts := [], laidByText := true, laidKinds := [.data, .data, .data, .sentinel, .sentinel], laidTests := true, laidLooks := .later }
def BenchBackCardSaid : Prop := Claim7.holds Tryz.pinned (.plain (OpenSpec.ofChange benchBackSpec)) benchBackCard

/-- THE SECOND FORM's CARD OF 'corebellkeep.BenchMore'. -/
def benchMoreUptoCard : Claim7 := { stood := { row := benchMoreUptoRow, standIns := [], harness := (true, "63e034e44a763841c209c3545711f8cdc81db70135d7d470a2f241d4c1c762cb"), looks := true }, kinds := [], alts := [], laidByText := true, laidKinds := [.data, .data, .data, .sentinel, .sentinel], laidTests := true, laidLooks := .later }
def BenchMoreUptoCardSaid : Prop := Claim7.holds Tryz.pinned (.plain (OpenSpec.upto benchMoreSpec)) benchMoreUptoCard

/-- THE SECOND FORM's CARD OF 'corebellkeep.BenchBack'. -/
def benchBackUptoCard : Claim7 := { stood := { row := benchBackUptoRow, standIns := [], harness := (true, "63e034e44a763841c209c3545711f8cdc81db70135d7d470a2f241d4c1c762cb"), looks := true }, kinds := [], alts := [], laidByText := true, laidKinds := [.data, .data, .data, .sentinel, .sentinel], laidTests := true, laidLooks := .later }
def BenchBackUptoCardSaid : Prop := Claim7.holds Tryz.pinned (.plain (OpenSpec.upto benchBackSpec)) benchBackUptoCard
end Rows
end Go.Proofs.YtaelmimkdjkmmaaGreatDoor
