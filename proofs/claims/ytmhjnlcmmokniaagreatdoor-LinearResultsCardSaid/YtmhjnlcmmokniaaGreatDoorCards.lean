/-
  DERIVED. GIVEN WITH THE SEED: THE CARDS: each row of YtmhjnlcmmokniaaGreatDoorRows.lean that lists a variable, with what it lists TIED to the program's text (the seventh form; the later family's looks); each row that meets fmt, with fmt's text TOLD by the authors' own Lean function (tested against real Go, not proved from fmt's source: count such statements apart). THE CARD IS WHAT COUNTS. Prove the row's statement (the work); the ties are given (YtmhjnlcmmokniaaGreatDoorTie.lean); close each card by the builder's one call (the guide's Derived/Test/ToyasCard.lean, 'card_holds'). Laid BY PROGRAM, IN A SANDBOX (cutbox-door.mjs). By AI agents, Wed Nov 11 2026. No macro, syntax, notation, axiom, sorry.
-/
import Derived.Test.YtmhjnlcmmokniaaGreatDoorRows
import GoSem.ClaimSeven
namespace Go.Proofs.YtmhjnlcmmokniaaGreatDoor
namespace Rows

/-- THE TIED CARD OF 'voussoirlaw24.LinearResults'. -/
def linearResultsCard : Claim7 := { stood := { row := linearResultsRow, standIns := [], harness := (true, "bc0dd02305825d45e01a47c95aac7b62fd7f02c867e9775682461309991e859e"), looks := false }, kinds := [], alts := [], laidByText := true, laidKinds := [.data, .pinned], laidTests := true, laidLooks := .later }
def LinearResultsCardSaid : Prop := Claim7.holds Tryz.pinned (.plain (OpenSpec.ofChange linearResultsSpec)) linearResultsCard

/-- THE SECOND FORM's CARD OF 'voussoirlaw24.LinearResults'. -/
def linearResultsUptoCard : Claim7 := { stood := { row := linearResultsUptoRow, standIns := [], harness := (true, "bc0dd02305825d45e01a47c95aac7b62fd7f02c867e9775682461309991e859e"), looks := false }, kinds := [], alts := [], laidByText := true, laidKinds := [.data, .pinned], laidTests := true, laidLooks := .later }
def LinearResultsUptoCardSaid : Prop := Claim7.holds Tryz.pinned (.plain (OpenSpec.upto linearResultsSpec)) linearResultsUptoCard
end Rows
end Go.Proofs.YtmhjnlcmmokniaaGreatDoor
