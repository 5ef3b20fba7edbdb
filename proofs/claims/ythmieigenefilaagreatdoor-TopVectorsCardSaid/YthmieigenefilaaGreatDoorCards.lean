/-
  DERIVED. GIVEN WITH THE SEED: THE CARDS: each row of YthmieigenefilaaGreatDoorRows.lean that lists a variable, with what it lists TIED to the program's text (the seventh form; the later family's looks); each row that meets fmt, with fmt's text TOLD by the authors' own Lean function (tested against real Go, not proved from fmt's source: count such statements apart). THE CARD IS WHAT COUNTS. Prove the row's statement (the work); the ties are given (YthmieigenefilaaGreatDoorTie.lean); close each card by the builder's one call (the guide's Derived/Test/ToyasCard.lean, 'card_holds'). Laid BY PROGRAM, IN A SANDBOX (cutbox-door.mjs). By AI agents, Wed Nov 11 2026. No macro, syntax, notation, axiom, sorry.
-/
import Derived.Test.YthmieigenefilaaGreatDoorRows
import GoSem.ClaimSeven
namespace Go.Proofs.YthmieigenefilaaGreatDoor
namespace Rows

/-- THE TIED CARD OF 'corebelltop.TopRead'. -/
def topReadCard : Claim7 := { stood := { row := topReadRow, standIns := [], harness := (true, "f8bf68cb3ab78f1f7a6488809589a7ab405b4d78541fbd4fa5be49787515669b"), looks := true }, kinds := [], alts := [], laidByText := true, laidKinds := [.data, .data, .data, .sentinel, .sentinel], laidTests := true, laidLooks := .later }
def TopReadCardSaid : Prop := Claim7.holds Tryz.pinned (.plain (OpenSpec.ofChange topReadSpec)) topReadCard

/-- THE TIED CARD OF 'corebelltop.TopVectors'. -/
def topVectorsCard : Claim7 := { stood := { row := topVectorsRow, standIns := [], harness := (true, "f8bf68cb3ab78f1f7a6488809589a7ab405b4d78541fbd4fa5be49787515669b"), looks := true }, kinds := [], alts := [], laidByText := true, laidKinds := [.data, .data, .data, .sentinel, .sentinel], laidTests := true, laidLooks := .later }
def TopVectorsCardSaid : Prop := Claim7.holds Tryz.pinned (.plain (OpenSpec.ofChange topVectorsSpec)) topVectorsCard

/-- THE TIED CARD OF 'corebelltop.TopLive'. -/
def topLiveCard : Claim7 := { stood := { row := topLiveRow, standIns := [], harness := (true, "f8bf68cb3ab78f1f7a6488809589a7ab405b4d78541fbd4fa5be49787515669b"), looks := true }, kinds := [], alts := [], laidByText := true, laidKinds := [.data, .data, .data, .sentinel, .sentinel], laidTests := true, laidLooks := .later }
def TopLiveCardSaid : Prop := Claim7.holds Tryz.pinned (.plain (OpenSpec.ofChange topLiveSpec)) topLiveCard

/-- THE SECOND FORM's CARD OF 'corebelltop.TopRead'. -/
def topReadUptoCard : Claim7 := { stood := { row := topReadUptoRow, standIns := [], harness := (true, "f8bf68cb3ab78f1f7a6488809589a7ab405b4d78541fbd4fa5be49787515669b"), looks := true }, kinds := [], alts := [], laidByText := true, laidKinds := [.data, .data, .data, .sentinel, .sentinel], laidTests := true, laidLooks := .later }
def TopReadUptoCardSaid : Prop := Claim7.holds Tryz.pinned (.plain (OpenSpec.upto topReadSpec)) topReadUptoCard

/-- THE SECOND FORM's CARD OF 'corebelltop.TopVectors'. -/
def topVectorsUptoCard : Claim7 := { stood := { row := topVectorsUptoRow, standIns := [], harness := (true, "f8bf68cb3ab78f1f7a6488809589a7ab405b4d78541fbd4fa5be49787515669b"), looks := true }, kinds := [], alts := [], laidByText := true, laidKinds := [.data, .data, .data, .sentinel, .sentinel], laidTests := true, laidLooks := .later }
def TopVectorsUptoCardSaid : Prop := Claim7.holds Tryz.pinned (.plain (OpenSpec.upto topVectorsSpec)) topVectorsUptoCard

/-- THE SECOND FORM's CARD OF 'corebelltop.TopLive'. -/
def topLiveUptoCard : Claim7 := { stood := { row := topLiveUptoRow, standIns := [], harness := (true, "f8bf68cb3ab78f1f7a6488809589a7ab405b4d78541fbd4fa5be49787515669b"), looks := true }, kinds := [], alts := [], laidByText := true, laidKinds := [.data, .data, .data, .sentinel, .sentinel], laidTests := true, laidLooks := .later }
def TopLiveUptoCardSaid : Prop := Claim7.holds Tryz.pinned (.plain (OpenSpec.upto topLiveSpec)) topLiveUptoCard
end Rows
end Go.Proofs.YthmieigenefilaaGreatDoor
