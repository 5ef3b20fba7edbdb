/-
  DERIVED. GIVEN WITH THE SEED: THE CARDS: each row of YtfnhanmdfbdimaaDoorRows.lean that lists a variable, with what it lists TIED to the program's text (the seventh form; the later family's looks); each row that meets fmt, with fmt's text TOLD by the authors' own Lean function (tested against real Go, not proved from fmt's source: count such statements apart). THE CARD IS WHAT COUNTS. Prove the row's statement (the work); the ties are given (YtfnhanmdfbdimaaDoorTie.lean); close each card by the builder's one call (the guide's Derived/Test/ToyasCard.lean, 'card_holds'). Laid BY PROGRAM, IN A SANDBOX (cutbox-door.mjs). By AI agents, Wed Nov 11 2026. No macro, syntax, notation, axiom, sorry.
-/
import Derived.Test.YtfnhanmdfbdimaaDoorRows
import GoSem.ClaimSeven
namespace Go.Proofs.YtfnhanmdfbdimaaDoor
namespace Rows

/-- THE TIED CARD OF 'corebellkeep.BitsOrder'. -/
def bitsOrderCard : Claim7 := { stood := { row := bitsOrderRow, standIns := [], harness := (true, "39717a8f826e7684432a42875a12365e3492f0ba321aea98aa0f4d0feaa5b5d5"), looks := false }, kinds := [], alts := [], laidByText := true, laidKinds := [.data], laidTests := true, laidLooks := .later }
def BitsOrderCardSaid : Prop := Claim7.holds Tryd.pinned (.plain (OpenSpec.ofChange bitsOrderSpec)) bitsOrderCard

/-- THE TIED CARD OF 'corebellkeep.BitsBack'. -/
def bitsBackCard : Claim7 := { stood := { row := bitsBackRow, standIns := [], harness := (true, "39717a8f826e7684432a42875a12365e3492f0ba321aea98aa0f4d0feaa5b5d5"), looks := false }, kinds := [], alts := [], laidByText := true, laidKinds := [.data], laidTests := true, laidLooks := .later }
def BitsBackCardSaid : Prop := Claim7.holds Tryd.pinned (.plain (OpenSpec.ofChange bitsBackSpec)) bitsBackCard

/-- THE TIED CARD OF 'corebellkeep.BitsRing'. -/
def bitsRingCard : Claim7 := { stood := { row := bitsRingRow, standIns := [], harness := (true, "39717a8f826e7684432a42875a12365e3492f0ba321aea98aa0f4d0feaa5b5d5"), looks := false }, kinds := [], alts := [], laidByText := true, laidKinds := [.data], laidTests := true, laidLooks := .later }
def BitsRingCardSaid : Prop := Claim7.holds Tryd.pinned (.plain (OpenSpec.ofChange bitsRingSpec)) bitsRingCard

/-- THE TIED CARD OF 'corebellkeep.BitsCount'. -/
def bitsCountCard : Claim7 := { stood := { row := bitsCountRow, standIns := [], harness := (true, "39717a8f826e7684432a42875a12365e3492f0ba321aea98aa0f4d0feaa5b5d5"), looks := false }, kinds := [], alts := [], laidByText := true, laidKinds := [.data], laidTests := true, laidLooks := .later }
def BitsCountCardSaid : Prop := Claim7.holds Tryd.pinned (.plain (OpenSpec.ofChange bitsCountSpec)) bitsCountCard

/-- THE SECOND FORM's CARD OF 'corebellkeep.BitsOrder'. -/
def bitsOrderUptoCard : Claim7 := { stood := { row := bitsOrderUptoRow, standIns := [], harness := (true, "39717a8f826e7684432a42875a12365e3492f0ba321aea98aa0f4d0feaa5b5d5"), looks := false }, kinds := [], alts := [], laidByText := true, laidKinds := [.data], laidTests := true, laidLooks := .later }
def BitsOrderUptoCardSaid : Prop := Claim7.holds Tryd.pinned (.plain (OpenSpec.upto bitsOrderSpec)) bitsOrderUptoCard

/-- THE SECOND FORM's CARD OF 'corebellkeep.BitsBack'. -/
def bitsBackUptoCard : Claim7 := { stood := { row := bitsBackUptoRow, standIns := [], harness := (true, "39717a8f826e7684432a42875a12365e3492f0ba321aea98aa0f4d0feaa5b5d5"), looks := false }, kinds := [], alts := [], laidByText := true, laidKinds := [.data], laidTests := true, laidLooks := .later }
def BitsBackUptoCardSaid : Prop := Claim7.holds Tryd.pinned (.plain (OpenSpec.upto bitsBackSpec)) bitsBackUptoCard

/-- THE SECOND FORM's CARD OF 'corebellkeep.BitsRing'. -/
def bitsRingUptoCard : Claim7 := { stood := { row := bitsRingUptoRow, standIns := [], harness := (true, "39717a8f826e7684432a42875a12365e3492f0ba321aea98aa0f4d0feaa5b5d5"), looks := false }, kinds := [], alts := [], laidByText := true, laidKinds := [.data], laidTests := true, laidLooks := .later }
def BitsRingUptoCardSaid : Prop := Claim7.holds Tryd.pinned (.plain (OpenSpec.upto bitsRingSpec)) bitsRingUptoCard

/-- THE SECOND FORM's CARD OF 'corebellkeep.BitsCount'. -/
def bitsCountUptoCard : Claim7 := { stood := { row := bitsCountUptoRow, standIns := [], harness := (true, "39717a8f826e7684432a42875a12365e3492f0ba321aea98aa0f4d0feaa5b5d5"), looks := false }, kinds := [], alts := [], laidByText := true, laidKinds := [.data], laidTests := true, laidLooks := .later }
def BitsCountUptoCardSaid : Prop := Claim7.holds Tryd.pinned (.plain (OpenSpec.upto bitsCountSpec)) bitsCountUptoCard
end Rows
end Go.Proofs.YtfnhanmdfbdimaaDoor
