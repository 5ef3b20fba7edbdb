/-
  DERIVED. GIVEN WITH THE SEED: THE CARDS: each row of YtaminiganaagiaaDoorRows.lean that lists a variable, with what it lists TIED to the program's text (the seventh form; the later family's looks); each row that meets fmt, with fmt's text TOLD by the authors' own Lean function (tested against real Go, not proved from fmt's source: count such statements apart). THE CARD IS WHAT COUNTS. Prove the row's statement (the work); the ties are given (YtaminiganaagiaaDoorTie.lean); close each card by the builder's one call (the guide's Derived/Test/ToyasCard.lean, 'card_holds'). Laid BY PROGRAM, IN A SANDBOX (cutbox-door.mjs). By AI agents, Wed Nov 11 2026. No macro, syntax, notation, axiom, sorry.
-/
import Derived.Test.YtaminiganaagiaaDoorRows
import GoSem.ClaimSeven
namespace Go.Proofs.YtaminiganaagiaaDoor
namespace Rows

/-- THE TIED CARD OF 'corebellkeep.KernelLive'. -/
def kernelLiveCard : Claim7 := { stood := { row := kernelLiveRow, standIns := [], harness := (true, "6c39281455b04746c847e45319b696896161ca073d2f13fe13b2be0fdb6109fc"), looks := false }, kinds := [], alts := [], laidByText := true, laidKinds := [.data], laidTests := true, laidLooks := .later }
def KernelLiveCardSaid : Prop := Claim7.holds Tryd.pinned (.plain (OpenSpec.ofChange kernelLiveSpec)) kernelLiveCard

/-- THE TIED CARD OF 'corebellkeep.KernelQuiet'. -/
def kernelQuietCard : Claim7 := { stood := { row := kernelQuietRow, standIns := [], harness := (true, "6c39281455b04746c847e45319b696896161ca073d2f13fe13b2be0fdb6109fc"), looks := false }, kinds := [], alts := [], laidByText := true, laidKinds := [.data], laidTests := true, laidLooks := .later }
def KernelQuietCardSaid : Prop := Claim7.holds Tryd.pinned (.plain (OpenSpec.ofChange kernelQuietSpec)) kernelQuietCard

/-- THE TIED CARD OF 'corebellkeep.KernelMoved'. -/
def kernelMovedCard : Claim7 := { stood := { row := kernelMovedRow, standIns := [], harness := (true, "6c39281455b04746c847e45319b696896161ca073d2f13fe13b2be0fdb6109fc"), looks := false }, kinds := [], alts := [], laidByText := true, laidKinds := [.data], laidTests := true, laidLooks := .later }
def KernelMovedCardSaid : Prop := Claim7.holds Tryd.pinned (.plain (OpenSpec.ofChange kernelMovedSpec)) kernelMovedCard

/-- THE TIED CARD OF 'corebellkeep.KernelStream'. -/
def kernelStreamCard : Claim7 := { stood := { row := kernelStreamRow, standIns := [], harness := (true, "6c39281455b04746c847e45319b696896161ca073d2f13fe13b2be0fdb6109fc"), looks := false }, kinds := [], alts := [], laidByText := true, laidKinds := [.data], laidTests := true, laidLooks := .later }
def KernelStreamCardSaid : Prop := Claim7.holds Tryd.pinned (.plain (OpenSpec.ofChange kernelStreamSpec)) kernelStreamCard

/-- THE SECOND FORM's CARD OF 'corebellkeep.KernelLive'. -/
def kernelLiveUptoCard : Claim7 := { stood := { row := kernelLiveUptoRow, standIns := [], harness := (true, "6c39281455b04746c847e45319b696896161ca073d2f13fe13b2be0fdb6109fc"), looks := false }, kinds := [], alts := [], laidByText := true, laidKinds := [.data], laidTests := true, laidLooks := .later }
def KernelLiveUptoCardSaid : Prop := Claim7.holds Tryd.pinned (.plain (OpenSpec.upto kernelLiveSpec)) kernelLiveUptoCard

/-- THE SECOND FORM's CARD OF 'corebellkeep.KernelQuiet'. -/
def kernelQuietUptoCard : Claim7 := { stood := { row := kernelQuietUptoRow, standIns := [], harness := (true, "6c39281455b04746c847e45319b696896161ca073d2f13fe13b2be0fdb6109fc"), looks := false }, kinds := [], alts := [], laidByText := true, laidKinds := [.data], laidTests := true, laidLooks := .later }
def KernelQuietUptoCardSaid : Prop := Claim7.holds Tryd.pinned (.plain (OpenSpec.upto kernelQuietSpec)) kernelQuietUptoCard

/-- THE SECOND FORM's CARD OF 'corebellkeep.KernelMoved'. -/
def kernelMovedUptoCard : Claim7 := { stood := { row := kernelMovedUptoRow, standIns := [], harness := (true, "6c39281455b04746c847e45319b696896161ca073d2f13fe13b2be0fdb6109fc"), looks := false }, kinds := [], alts := [], laidByText := true, laidKinds := [.data], laidTests := true, laidLooks := .later }
def KernelMovedUptoCardSaid : Prop := Claim7.holds Tryd.pinned (.plain (OpenSpec.upto kernelMovedSpec)) kernelMovedUptoCard

/-- THE SECOND FORM's CARD OF 'corebellkeep.KernelStream'. -/
def kernelStreamUptoCard : Claim7 := { stood := { row := kernelStreamUptoRow, standIns := [], harness := (true, "6c39281455b04746c847e45319b696896161ca073d2f13fe13b2be0fdb6109fc"), looks := false }, kinds := [], alts := [], laidByText := true, laidKinds := [.data], laidTests := true, laidLooks := .later }
def KernelStreamUptoCardSaid : Prop := Claim7.holds Tryd.pinned (.plain (OpenSpec.upto kernelStreamSpec)) kernelStreamUptoCard
end Rows
end Go.Proofs.YtaminiganaagiaaDoor
