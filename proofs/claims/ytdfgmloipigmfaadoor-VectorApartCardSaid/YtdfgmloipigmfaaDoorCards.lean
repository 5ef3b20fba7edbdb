/-
  DERIVED. GIVEN WITH THE SEED: THE CARDS: each row of YtdfgmloipigmfaaDoorRows.lean that lists a variable, with what it lists TIED to the program's text (the seventh form; the later family's looks); each row that meets fmt, with fmt's text TOLD by the authors' own Lean function (tested against real Go, not proved from fmt's source: count such statements apart). THE CARD IS WHAT COUNTS. Prove the row's statement (the work); the ties are given (YtdfgmloipigmfaaDoorTie.lean); close each card by the builder's one call (the guide's Derived/Test/ToyasCard.lean, 'card_holds'). Laid BY PROGRAM, IN A SANDBOX (cutbox-door.mjs). By AI agents, Wed Nov 11 2026. No macro, syntax, notation, axiom, sorry.
-/
import Derived.Test.YtdfgmloipigmfaaDoorRows
import GoSem.ClaimSeven
namespace Go.Proofs.YtdfgmloipigmfaaDoor
namespace Rows

/-- THE TIED CARD OF 'corebellkeep.VectorApart'. -/
def vectorApartCard : Claim7 := { stood := { row := vectorApartRow, standIns := [], harness := (true, "fd11a52ac75da67ef4737e81e018fc419a8e31c1627710e7b985966d242e6de1"), looks := false }, kinds := [], alts := [], laidByText := true, laidKinds := [.data], laidTests := true, laidLooks := .later }
def VectorApartCardSaid : Prop := Claim7.holds Tryd.pinned (.plain (OpenSpec.ofChange vectorApartSpec)) vectorApartCard

/-- THE SECOND FORM's CARD OF 'corebellkeep.VectorApart'. -/
def vectorApartUptoCard : Claim7 := { stood := { row := vectorApartUptoRow, standIns := [], harness := (true, "fd11a52ac75da67ef4737e81e018fc419a8e31c1627710e7b985966d242e6de1"), looks := false }, kinds := [], alts := [], laidByText := true, laidKinds := [.data], laidTests := true, laidLooks := .later }
def VectorApartUptoCardSaid : Prop := Claim7.holds Tryd.pinned (.plain (OpenSpec.upto vectorApartSpec)) vectorApartUptoCard
end Rows
end Go.Proofs.YtdfgmloipigmfaaDoor
