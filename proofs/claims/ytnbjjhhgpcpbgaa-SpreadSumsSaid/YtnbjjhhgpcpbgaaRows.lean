/-
  No cell of these rows narrows 'for every input' (looked for: loops, veiled, ifaces, maps, wideKeys, modest, calm, conditions, laid).
  DERIVED. THE GIVEN ROWS OF THIS SEAT. 5 by the template 'for every input the law returns true; each argument reads behind the call as it read before'; 0 by the template 'total and deterministic' (their statements: YtnbjjhhgpcpbgaaTotals.lean).
  GIVEN WITH THE SEED: the statements are not yours to turn. If you find one false, say at which input.
  Laid BY PROGRAM, IN A SANDBOX (cutbox-rows.mjs): the forced cells as the released guide's own fill.sh prints them over the translation d63c38cecc23d330… (all of the seat's roots in one cut). By AI agents, Wed Nov 11 2026. No macro, syntax, notation, axiom, sorry.
-/
import Derived.Test.YtnbjjhhgpcpbgaaChecked
import GoSem.Claim
import GoSem.ClaimJoined
import GoSem.ClaimMapViews
import Derived.JoinedTies
import Derived.KernelRfl
namespace Go.Proofs.Ytnbjjhhgpcpbgaa
/- THE CELL 'sum', in the pinned program and in every row, IS THE sha256 OF THE DUMP (.gsa) THAT YtnbjjhhgpcpbgaaProg.lean LOADS. Nothing in Lean hashes anything: it is a label: what it is worth is what the hold of that sum in a sandbox is worth. -/
noncomputable def Try.pinned : Pinned := { name := "ytnbjjhhgpcpbgaa", sum := "d63c38cecc23d33015ae3345b43aaea42e6880dd4681a95b4e9c117b5f7d2c46", checked := Try.checked }
namespace Rows
def none {H : Type} : Left H := { results := [], args := [] }

/-- 'corebellkeep.SpreadGraham': WHATEVER THE INPUT: true; the input reads as it did. -/
def spreadGrahamSpec : ChangeSpec := { name := "spreadGraham", fn := fun _ => fun
  | [d1, d2] => { results := [.lit (.bool true)], args := [d1, d2] }
  | _ => none }
def spreadGrahamRow : OpenClaim := { program := "ytnbjjhhgpcpbgaa", sum := "d63c38cecc23d33015ae3345b43aaea42e6880dd4681a95b4e9c117b5f7d2c46", func := "corebell/corebellkeep.SpreadGraham", spec := "spreadGraham", unfollowed := true, recurses := true, apart := false }
def SpreadGrahamSaid : Prop := spreadGrahamRow.holds Try.pinned (OpenSpec.ofChange spreadGrahamSpec)

/-- ITS FALSE NEIGHBOUR: 'it returns false'. Refute it at one input. -/
def spreadGrahamWrong : ChangeSpec := { name := "spreadGraham", fn := fun _ => fun
  | [d1, d2] => { results := [.lit (.bool false)], args := [d1, d2] }
  | _ => none }
def SpreadGrahamWrongFalsely : Prop := spreadGrahamRow.holds Try.pinned (OpenSpec.ofChange spreadGrahamWrong)

/-- 'corebellkeep.SpreadThird': WHATEVER THE INPUT: true; the input reads as it did. -/
def spreadThirdSpec : ChangeSpec := { name := "spreadThird", fn := fun _ => fun
  | [d1, d2] => { results := [.lit (.bool true)], args := [d1, d2] }
  | _ => none }
def spreadThirdRow : OpenClaim := { program := "ytnbjjhhgpcpbgaa", sum := "d63c38cecc23d33015ae3345b43aaea42e6880dd4681a95b4e9c117b5f7d2c46", func := "corebell/corebellkeep.SpreadThird", spec := "spreadThird", unfollowed := true, recurses := true, apart := false }
def SpreadThirdSaid : Prop := spreadThirdRow.holds Try.pinned (OpenSpec.ofChange spreadThirdSpec)

/-- ITS FALSE NEIGHBOUR: 'it returns false'. Refute it at one input. -/
def spreadThirdWrong : ChangeSpec := { name := "spreadThird", fn := fun _ => fun
  | [d1, d2] => { results := [.lit (.bool false)], args := [d1, d2] }
  | _ => none }
def SpreadThirdWrongFalsely : Prop := spreadThirdRow.holds Try.pinned (OpenSpec.ofChange spreadThirdWrong)

/-- 'corebellkeep.SpreadSums': WHATEVER THE INPUT: true; the input reads as it did. -/
def spreadSumsSpec : ChangeSpec := { name := "spreadSums", fn := fun _ => fun
  | [d1, d2] => { results := [.lit (.bool true)], args := [d1, d2] }
  | _ => none }
def spreadSumsRow : OpenClaim := { program := "ytnbjjhhgpcpbgaa", sum := "d63c38cecc23d33015ae3345b43aaea42e6880dd4681a95b4e9c117b5f7d2c46", func := "corebell/corebellkeep.SpreadSums", spec := "spreadSums", unfollowed := true, recurses := true, apart := false }
def SpreadSumsSaid : Prop := spreadSumsRow.holds Try.pinned (OpenSpec.ofChange spreadSumsSpec)

/-- ITS FALSE NEIGHBOUR: 'it returns false'. Refute it at one input. -/
def spreadSumsWrong : ChangeSpec := { name := "spreadSums", fn := fun _ => fun
  | [d1, d2] => { results := [.lit (.bool false)], args := [d1, d2] }
  | _ => none }
def SpreadSumsWrongFalsely : Prop := spreadSumsRow.holds Try.pinned (OpenSpec.ofChange spreadSumsWrong)

/-- 'corebellkeep.SpreadLeast': WHATEVER THE INPUT: true; the input reads as it did. -/
def spreadLeastSpec : ChangeSpec := { name := "spreadLeast", fn := fun _ => fun
  | [d1, d2] => { results := [.lit (.bool true)], args := [d1, d2] }
  | _ => none }
def spreadLeastRow : OpenClaim := { program := "ytnbjjhhgpcpbgaa", sum := "d63c38cecc23d33015ae3345b43aaea42e6880dd4681a95b4e9c117b5f7d2c46", func := "corebell/corebellkeep.SpreadLeast", spec := "spreadLeast", unfollowed := true, recurses := true, apart := false }
def SpreadLeastSaid : Prop := spreadLeastRow.holds Try.pinned (OpenSpec.ofChange spreadLeastSpec)

/-- ITS FALSE NEIGHBOUR: 'it returns false'. Refute it at one input. -/
def spreadLeastWrong : ChangeSpec := { name := "spreadLeast", fn := fun _ => fun
  | [d1, d2] => { results := [.lit (.bool false)], args := [d1, d2] }
  | _ => none }
def SpreadLeastWrongFalsely : Prop := spreadLeastRow.holds Try.pinned (OpenSpec.ofChange spreadLeastWrong)

/-- 'corebellkeep.SpreadOrder': WHATEVER THE INPUT: true; the input reads as it did. -/
def spreadOrderSpec : ChangeSpec := { name := "spreadOrder", fn := fun _ => fun
  | [d1, d2] => { results := [.lit (.bool true)], args := [d1, d2] }
  | _ => none }
def spreadOrderRow : OpenClaim := { program := "ytnbjjhhgpcpbgaa", sum := "d63c38cecc23d33015ae3345b43aaea42e6880dd4681a95b4e9c117b5f7d2c46", func := "corebell/corebellkeep.SpreadOrder", spec := "spreadOrder", unfollowed := true, recurses := true, apart := false }
def SpreadOrderSaid : Prop := spreadOrderRow.holds Try.pinned (OpenSpec.ofChange spreadOrderSpec)

/-- ITS FALSE NEIGHBOUR: 'it returns false'. Refute it at one input. -/
def spreadOrderWrong : ChangeSpec := { name := "spreadOrder", fn := fun _ => fun
  | [d1, d2] => { results := [.lit (.bool false)], args := [d1, d2] }
  | _ => none }
def SpreadOrderWrongFalsely : Prop := spreadOrderRow.holds Try.pinned (OpenSpec.ofChange spreadOrderWrong)

/- THE SECOND FORM. 'bulk': how many values and letters a reading holds, each counted each time it is reached (what is shared counts as often as it is met; a slice's spare places count too). A statement '..UptoSaid' is the law's where the arguments, and the package variables that the reading takes, are together of bulk at most 1048576: NARROWER than '..Said'. Prove '..Said' where nothing that the law and all that it calls make is longer than what came in: it says more and counts as full. Else prove '..UptoSaid'. A law counts once. -/
mutual
def uptoBulk {H : Type} : DataW H → Nat
  | .lit (.string bytes) => bytes.length + 1
  | .lit _ => 1
  | .nil => 1
  | .ptr d => uptoBulk d + 1
  | .slice elems spare => uptoBulkAll elems + uptoBulkAll spare + 1
  | .agg parts => uptoBulkAll parts + 1
  | .iface _ d => uptoBulk d + 1
  | .map entries => uptoBulkEntries entries + 1
  | .held _ => 1
def uptoBulkAll {H : Type} : List (DataW H) → Nat
  | [] => 0
  | d :: r => uptoBulk d + uptoBulkAll r
def uptoBulkEntries {H : Type} : List (Lit × DataW H) → Nat
  | [] => 0
  | x :: r => uptoBulkEntry x + uptoBulkEntries r
def uptoBulkEntry {H : Type} : Lit × DataW H → Nat
  | (.string bytes, d) => bytes.length + uptoBulk d + 1
  | (_, d) => uptoBulk d + 1
 end
def uptoSmall : (H : Type) → List (DataW H) → Bool := fun _ ds => decide (uptoBulkAll ds ≤ 1048576)
def OpenSpec.upto (s : _root_.Go.ChangeSpec) : _root_.Go.OpenSpec := { _root_.Go.OpenSpec.ofChange s with cond := some uptoSmall }

/-- 'corebellkeep.SpreadGraham', WHERE WHAT IT READS IS OF BULK AT MOST 1048576: true; the input reads as it did. -/
def spreadGrahamUptoRow : OpenClaim := { program := "ytnbjjhhgpcpbgaa", sum := "d63c38cecc23d33015ae3345b43aaea42e6880dd4681a95b4e9c117b5f7d2c46", func := "corebell/corebellkeep.SpreadGraham", spec := "spreadGraham", unfollowed := true, recurses := true, apart := false, narrowed := true }
def SpreadGrahamUptoSaid : Prop := spreadGrahamUptoRow.holds Try.pinned (OpenSpec.upto spreadGrahamSpec)

/-- 'corebellkeep.SpreadThird', WHERE WHAT IT READS IS OF BULK AT MOST 1048576: true; the input reads as it did. -/
def spreadThirdUptoRow : OpenClaim := { program := "ytnbjjhhgpcpbgaa", sum := "d63c38cecc23d33015ae3345b43aaea42e6880dd4681a95b4e9c117b5f7d2c46", func := "corebell/corebellkeep.SpreadThird", spec := "spreadThird", unfollowed := true, recurses := true, apart := false, narrowed := true }
def SpreadThirdUptoSaid : Prop := spreadThirdUptoRow.holds Try.pinned (OpenSpec.upto spreadThirdSpec)

/-- 'corebellkeep.SpreadSums', WHERE WHAT IT READS IS OF BULK AT MOST 1048576: true; the input reads as it did. -/
def spreadSumsUptoRow : OpenClaim := { program := "ytnbjjhhgpcpbgaa", sum := "d63c38cecc23d33015ae3345b43aaea42e6880dd4681a95b4e9c117b5f7d2c46", func := "corebell/corebellkeep.SpreadSums", spec := "spreadSums", unfollowed := true, recurses := true, apart := false, narrowed := true }
def SpreadSumsUptoSaid : Prop := spreadSumsUptoRow.holds Try.pinned (OpenSpec.upto spreadSumsSpec)

/-- 'corebellkeep.SpreadLeast', WHERE WHAT IT READS IS OF BULK AT MOST 1048576: true; the input reads as it did. -/
def spreadLeastUptoRow : OpenClaim := { program := "ytnbjjhhgpcpbgaa", sum := "d63c38cecc23d33015ae3345b43aaea42e6880dd4681a95b4e9c117b5f7d2c46", func := "corebell/corebellkeep.SpreadLeast", spec := "spreadLeast", unfollowed := true, recurses := true, apart := false, narrowed := true }
def SpreadLeastUptoSaid : Prop := spreadLeastUptoRow.holds Try.pinned (OpenSpec.upto spreadLeastSpec)

/-- 'corebellkeep.SpreadOrder', WHERE WHAT IT READS IS OF BULK AT MOST 1048576: true; the input reads as it did. -/
def spreadOrderUptoRow : OpenClaim := { program := "ytnbjjhhgpcpbgaa", sum := "d63c38cecc23d33015ae3345b43aaea42e6880dd4681a95b4e9c117b5f7d2c46", func := "corebell/corebellkeep.SpreadOrder", spec := "spreadOrder", unfollowed := true, recurses := true, apart := false, narrowed := true }
def SpreadOrderUptoSaid : Prop := spreadOrderUptoRow.holds Try.pinned (OpenSpec.upto spreadOrderSpec)

end Rows
end Go.Proofs.Ytnbjjhhgpcpbgaa
