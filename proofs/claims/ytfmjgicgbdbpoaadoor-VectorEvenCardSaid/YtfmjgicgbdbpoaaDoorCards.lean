/-
  DERIVED. GIVEN WITH THE SEED: THE CARDS: each row of YtfmjgicgbdbpoaaDoorRows.lean that lists a variable, with what it lists TIED to the program's text (the seventh form; the later family's looks); each row that meets fmt, with fmt's text TOLD by the authors' own Lean function (tested against real Go, not proved from fmt's source: count such statements apart). THE CARD IS WHAT COUNTS. Prove the row's statement (the work); the ties are given (YtfmjgicgbdbpoaaDoorTie.lean); close each card by the builder's one call (the guide's Derived/Test/ToyasCard.lean, 'card_holds'). Laid BY PROGRAM, IN A SANDBOX (cutbox-door.mjs). By AI agents, Wed Nov 11 2026. No macro, syntax, notation, axiom, sorry.
-/
import Derived.Test.YtfmjgicgbdbpoaaDoorRows
import GoSem.ClaimSeven
namespace Go.Proofs.YtfmjgicgbdbpoaaDoor
namespace Rows

/-- THE TIED CARD OF 'corebellkeep.VectorApart'. -/
def vectorApartCard : Claim7 := { stood := { row := vectorApartRow, standIns := [], harness := (true, "e3dfad7854bf47c7b1104edb3d1a28d206d8e09dbe6df769638d5c93933caedc"), looks := false }, kinds := [], alts := [], laidByText := true, laidKinds := [.data], laidTests := true, laidLooks := .later }
def VectorApartCardSaid : Prop := Claim7.holds Tryd.pinned (.plain (OpenSpec.ofChange vectorApartSpec)) vectorApartCard

/-- THE TIED CARD OF 'corebellkeep.VectorMeant'. -/
def vectorMeantCard : Claim7 := { stood := { row := vectorMeantRow, standIns := [], harness := (true, "e3dfad7854bf47c7b1104edb3d1a28d206d8e09dbe6df769638d5c93933caedc"), looks := false }, kinds := [], alts := [], laidByText := true, laidKinds := [.data], laidTests := true, laidLooks := .later }
def VectorMeantCardSaid : Prop := Claim7.holds Tryd.pinned (.plain (OpenSpec.ofChange vectorMeantSpec)) vectorMeantCard

/-- THE TIED CARD OF 'corebellkeep.VectorFull'. -/
def vectorFullCard : Claim7 := { stood := { row := vectorFullRow, standIns := [], harness := (true, "e3dfad7854bf47c7b1104edb3d1a28d206d8e09dbe6df769638d5c93933caedc"), looks := false }, kinds := [], alts := [], laidByText := true, laidKinds := [.data], laidTests := true, laidLooks := .later }
def VectorFullCardSaid : Prop := Claim7.holds Tryd.pinned (.plain (OpenSpec.ofChange vectorFullSpec)) vectorFullCard

/-- THE TIED CARD OF 'corebellkeep.VectorEven'. -/
def vectorEvenCard : Claim7 := { stood := { row := vectorEvenRow, standIns := [], harness := (true, "e3dfad7854bf47c7b1104edb3d1a28d206d8e09dbe6df769638d5c93933caedc"), looks := false }, kinds := [], alts := [], laidByText := true, laidKinds := [.data], laidTests := true, laidLooks := .later }
def VectorEvenCardSaid : Prop := Claim7.holds Tryd.pinned (.plain (OpenSpec.ofChange vectorEvenSpec)) vectorEvenCard

/-- THE SECOND FORM's CARD OF 'corebellkeep.VectorApart'. -/
def vectorApartUptoCard : Claim7 := { stood := { row := vectorApartUptoRow, standIns := [], harness := (true, "e3dfad7854bf47c7b1104edb3d1a28d206d8e09dbe6df769638d5c93933caedc"), looks := false }, kinds := [], alts := [], laidByText := true, laidKinds := [.data], laidTests := true, laidLooks := .later }
def VectorApartUptoCardSaid : Prop := Claim7.holds Tryd.pinned (.plain (OpenSpec.upto vectorApartSpec)) vectorApartUptoCard

/-- THE SECOND FORM's CARD OF 'corebellkeep.VectorMeant'. -/
def vectorMeantUptoCard : Claim7 := { stood := { row := vectorMeantUptoRow, standIns := [], harness := (true, "e3dfad7854bf47c7b1104edb3d1a28d206d8e09dbe6df769638d5c93933caedc"), looks := false }, kinds := [], alts := [], laidByText := true, laidKinds := [.data], laidTests := true, laidLooks := .later }
def VectorMeantUptoCardSaid : Prop := Claim7.holds Tryd.pinned (.plain (OpenSpec.upto vectorMeantSpec)) vectorMeantUptoCard

/-- THE SECOND FORM's CARD OF 'corebellkeep.VectorFull'. -/
def vectorFullUptoCard : Claim7 := { stood := { row := vectorFullUptoRow, standIns := [], harness := (true, "e3dfad7854bf47c7b1104edb3d1a28d206d8e09dbe6df769638d5c93933caedc"), looks := false }, kinds := [], alts := [], laidByText := true, laidKinds := [.data], laidTests := true, laidLooks := .later }
def VectorFullUptoCardSaid : Prop := Claim7.holds Tryd.pinned (.plain (OpenSpec.upto vectorFullSpec)) vectorFullUptoCard

/-- THE SECOND FORM's CARD OF 'corebellkeep.VectorEven'. -/
def vectorEvenUptoCard : Claim7 := { stood := { row := vectorEvenUptoRow, standIns := [], harness := (true, "e3dfad7854bf47c7b1104edb3d1a28d206d8e09dbe6df769638d5c93933caedc"), looks := false }, kinds := [], alts := [], laidByText := true, laidKinds := [.data], laidTests := true, laidLooks := .later }
def VectorEvenUptoCardSaid : Prop := Claim7.holds Tryd.pinned (.plain (OpenSpec.upto vectorEvenSpec)) vectorEvenUptoCard
end Rows
end Go.Proofs.YtfmjgicgbdbpoaaDoor
