/-
  DERIVED. GIVEN WITH THE SEED: THE CARDS: each row of YtpkgaagajbfgbaaDoorRows.lean that lists a variable, with what it lists TIED to the program's text (the seventh form; the later family's looks); each row that meets fmt, with fmt's text TOLD by the authors' own Lean function (tested against real Go, not proved from fmt's source: count such statements apart). THE CARD IS WHAT COUNTS. Prove the row's statement (the work); the ties are given (YtpkgaagajbfgbaaDoorTie.lean); close each card by the builder's one call (the guide's Derived/Test/ToyasCard.lean, 'card_holds'). Laid BY PROGRAM, IN A SANDBOX (cutbox-door.mjs). By AI agents, Wed Nov 11 2026. No macro, syntax, notation, axiom, sorry.
-/
import Derived.Test.YtpkgaagajbfgbaaDoorRows
import GoSem.ClaimSeven
namespace Go.Proofs.YtpkgaagajbfgbaaDoor
namespace Rows

/-- THE TIED CARD OF 'corebellkeep.ApicRight'. -/
def apicRightCard : Claim7 := { stood := { row := apicRightRow, standIns := [], harness := (true, "5fe721a5d7041c02a1ea0cda9f93d612a64e672561ce4fcce0cc3b5a3e587b9b"), looks := false }, kinds := [], alts := [], laidByText := true, laidKinds := [.data], laidTests := true, laidLooks := .later }
def ApicRightCardSaid : Prop := Claim7.holds Tryd.pinned (.plain (OpenSpec.ofChange apicRightSpec)) apicRightCard

/-- THE TIED CARD OF 'corebellkeep.ApicClass'. -/
def apicClassCard : Claim7 := { stood := { row := apicClassRow, standIns := [], harness := (true, "5fe721a5d7041c02a1ea0cda9f93d612a64e672561ce4fcce0cc3b5a3e587b9b"), looks := false }, kinds := [], alts := [], laidByText := true, laidKinds := [.data], laidTests := true, laidLooks := .later }
def ApicClassCardSaid : Prop := Claim7.holds Tryd.pinned (.plain (OpenSpec.ofChange apicClassSpec)) apicClassCard

/-- THE TIED CARD OF 'corebellkeep.ApicOnce'. -/
def apicOnceCard : Claim7 := { stood := { row := apicOnceRow, standIns := [], harness := (true, "5fe721a5d7041c02a1ea0cda9f93d612a64e672561ce4fcce0cc3b5a3e587b9b"), looks := false }, kinds := [], alts := [], laidByText := true, laidKinds := [.data], laidTests := true, laidLooks := .later }
def ApicOnceCardSaid : Prop := Claim7.holds Tryd.pinned (.plain (OpenSpec.ofChange apicOnceSpec)) apicOnceCard

/-- THE TIED CARD OF 'corebellkeep.ApicGraver'. -/
def apicGraverCard : Claim7 := { stood := { row := apicGraverRow, standIns := [], harness := (true, "5fe721a5d7041c02a1ea0cda9f93d612a64e672561ce4fcce0cc3b5a3e587b9b"), looks := false }, kinds := [], alts := [], laidByText := true, laidKinds := [.data], laidTests := true, laidLooks := .later }
def ApicGraverCardSaid : Prop := Claim7.holds Tryd.pinned (.plain (OpenSpec.ofChange apicGraverSpec)) apicGraverCard

/-- THE TIED CARD OF 'corebellkeep.ApicAll'. -/
def apicAllCard : Claim7 := { stood := { row := apicAllRow, standIns := [], harness := (true, "5fe721a5d7041c02a1ea0cda9f93d612a64e672561ce4fcce0cc3b5a3e587b9b"), looks := false }, kinds := [], alts := [], laidByText := true, laidKinds := [.data], laidTests := true, laidLooks := .later }
def ApicAllCardSaid : Prop := Claim7.holds Tryd.pinned (.plain (OpenSpec.ofChange apicAllSpec)) apicAllCard

/-- THE TIED CARD OF 'corebellkeep.ApicDepth'. -/
def apicDepthCard : Claim7 := { stood := { row := apicDepthRow, standIns := [], harness := (true, "5fe721a5d7041c02a1ea0cda9f93d612a64e672561ce4fcce0cc3b5a3e587b9b"), looks := false }, kinds := [], alts := [], laidByText := true, laidKinds := [.data], laidTests := true, laidLooks := .later }
def ApicDepthCardSaid : Prop := Claim7.holds Tryd.pinned (.plain (OpenSpec.ofChange apicDepthSpec)) apicDepthCard

/-- THE SECOND FORM's CARD OF 'corebellkeep.ApicRight'. -/
def apicRightUptoCard : Claim7 := { stood := { row := apicRightUptoRow, standIns := [], harness := (true, "5fe721a5d7041c02a1ea0cda9f93d612a64e672561ce4fcce0cc3b5a3e587b9b"), looks := false }, kinds := [], alts := [], laidByText := true, laidKinds := [.data], laidTests := true, laidLooks := .later }
def ApicRightUptoCardSaid : Prop := Claim7.holds Tryd.pinned (.plain (OpenSpec.upto apicRightSpec)) apicRightUptoCard

/-- THE SECOND FORM's CARD OF 'corebellkeep.ApicClass'. -/
def apicClassUptoCard : Claim7 := { stood := { row := apicClassUptoRow, standIns := [], harness := (true, "5fe721a5d7041c02a1ea0cda9f93d612a64e672561ce4fcce0cc3b5a3e587b9b"), looks := false }, kinds := [], alts := [], laidByText := true, laidKinds := [.data], laidTests := true, laidLooks := .later }
def ApicClassUptoCardSaid : Prop := Claim7.holds Tryd.pinned (.plain (OpenSpec.upto apicClassSpec)) apicClassUptoCard

/-- THE SECOND FORM's CARD OF 'corebellkeep.ApicOnce'. -/
def apicOnceUptoCard : Claim7 := { stood := { row := apicOnceUptoRow, standIns := [], harness := (true, "5fe721a5d7041c02a1ea0cda9f93d612a64e672561ce4fcce0cc3b5a3e587b9b"), looks := false }, kinds := [], alts := [], laidByText := true, laidKinds := [.data], laidTests := true, laidLooks := .later }
def ApicOnceUptoCardSaid : Prop := Claim7.holds Tryd.pinned (.plain (OpenSpec.upto apicOnceSpec)) apicOnceUptoCard

/-- THE SECOND FORM's CARD OF 'corebellkeep.ApicGraver'. -/
def apicGraverUptoCard : Claim7 := { stood := { row := apicGraverUptoRow, standIns := [], harness := (true, "5fe721a5d7041c02a1ea0cda9f93d612a64e672561ce4fcce0cc3b5a3e587b9b"), looks := false }, kinds := [], alts := [], laidByText := true, laidKinds := [.data], laidTests := true, laidLooks := .later }
def ApicGraverUptoCardSaid : Prop := Claim7.holds Tryd.pinned (.plain (OpenSpec.upto apicGraverSpec)) apicGraverUptoCard

/-- THE SECOND FORM's CARD OF 'corebellkeep.ApicAll'. -/
def apicAllUptoCard : Claim7 := { stood := { row := apicAllUptoRow, standIns := [], harness := (true, "5fe721a5d7041c02a1ea0cda9f93d612a64e672561ce4fcce0cc3b5a3e587b9b"), looks := false }, kinds := [], alts := [], laidByText := true, laidKinds := [.data], laidTests := true, laidLooks := .later }
def ApicAllUptoCardSaid : Prop := Claim7.holds Tryd.pinned (.plain (OpenSpec.upto apicAllSpec)) apicAllUptoCard

/-- THE SECOND FORM's CARD OF 'corebellkeep.ApicDepth'. -/
def apicDepthUptoCard : Claim7 := { stood := { row := apicDepthUptoRow, standIns := [], harness := (true, "5fe721a5d7041c02a1ea0cda9f93d612a64e672561ce4fcce0cc3b5a3e587b9b"), looks := false }, kinds := [], alts := [], laidByText := true, laidKinds := [.data], laidTests := true, laidLooks := .later }
def ApicDepthUptoCardSaid : Prop := Claim7.holds Tryd.pinned (.plain (OpenSpec.upto apicDepthSpec)) apicDepthUptoCard
end Rows
end Go.Proofs.YtpkgaagajbfgbaaDoor
