/-
  DERIVED. GIVEN WITH THE SEED: THE CARDS: each row of YtoechehmflcnkaaGreatDoorRows.lean that lists a variable, with what it lists TIED to the program's text (the seventh form; the later family's looks); each row that meets fmt, with fmt's text TOLD by the authors' own Lean function (tested against real Go, not proved from fmt's source: count such statements apart). THE CARD IS WHAT COUNTS. Prove the row's statement (the work); the ties are given (YtoechehmflcnkaaGreatDoorTie.lean); close each card by the builder's one call (the guide's Derived/Test/ToyasCard.lean, 'card_holds'). Laid BY PROGRAM, IN A SANDBOX (cutbox-door.mjs). By AI agents, Wed Nov 11 2026. No macro, syntax, notation, axiom, sorry.
-/
import Derived.Test.YtoechehmflcnkaaGreatDoorRows
import GoSem.ClaimSeven
namespace Go.Proofs.YtoechehmflcnkaaGreatDoor
namespace Rows

/-- THE TIED CARD OF 'voussoirlaw08.PolygonChecks'. -/
def polygonChecksCard : Claim7 := { stood := { row := polygonChecksRow, standIns := [], harness := (true, "e5d4646912f7cd0df7f891edfefe8484b021dd2bf2d9ebca08b2c3072eb8c2b1"), looks := false }, kinds := [], alts := [], laidByText := true, laidKinds := [.data, .pinned], laidTests := true, laidLooks := .later }
def PolygonChecksCardSaid : Prop := Claim7.holds Tryz.pinned (.plain (OpenSpec.ofChange polygonChecksSpec)) polygonChecksCard

/-- THE TIED CARD OF 'voussoirlaw08.PolygonSplits'. -/
def polygonSplitsCard : Claim7 := { stood := { row := polygonSplitsRow, standIns := [], harness := (true, "e5d4646912f7cd0df7f891edfefe8484b021dd2bf2d9ebca08b2c3072eb8c2b1"), looks := false }, kinds := [], alts := [], laidByText := true, laidKinds := [.data, .pinned], laidTests := true, laidLooks := .later }
def PolygonSplitsCardSaid : Prop := Claim7.holds Tryz.pinned (.plain (OpenSpec.ofChange polygonSplitsSpec)) polygonSplitsCard

/-- THE TIED CARD OF 'voussoirlaw08.PolygonResplit'. -/
def polygonResplitCard : Claim7 := { stood := { row := polygonResplitRow, standIns := [], harness := (true, "e5d4646912f7cd0df7f891edfefe8484b021dd2bf2d9ebca08b2c3072eb8c2b1"), looks := false }, kinds := [], alts := [], laidByText := true, laidKinds := [.data, .pinned], laidTests := true, laidLooks := .later }
def PolygonResplitCardSaid : Prop := Claim7.holds Tryz.pinned (.plain (OpenSpec.ofChange polygonResplitSpec)) polygonResplitCard

/-- THE TIED CARD OF 'voussoirlaw08.PolygonParts'. -/
def polygonPartsCard : Claim7 := { stood := { row := polygonPartsRow, standIns := [], harness := (true, "e5d4646912f7cd0df7f891edfefe8484b021dd2bf2d9ebca08b2c3072eb8c2b1"), looks := false }, kinds := [], alts := [], laidByText := true, laidKinds := [.data, .pinned], laidTests := true, laidLooks := .later }
def PolygonPartsCardSaid : Prop := Claim7.holds Tryz.pinned (.plain (OpenSpec.ofChange polygonPartsSpec)) polygonPartsCard

/-- THE TIED CARD OF 'voussoirlaw08.PolygonQueries'. -/
def polygonQueriesCard : Claim7 := { stood := { row := polygonQueriesRow, standIns := [], harness := (true, "e5d4646912f7cd0df7f891edfefe8484b021dd2bf2d9ebca08b2c3072eb8c2b1"), looks := false }, kinds := [], alts := [], laidByText := true, laidKinds := [.data, .pinned], laidTests := true, laidLooks := .later }
def PolygonQueriesCardSaid : Prop := Claim7.holds Tryz.pinned (.plain (OpenSpec.ofChange polygonQueriesSpec)) polygonQueriesCard

/-- THE TIED CARD OF 'voussoirlaw08.PolygonValidity'. -/
def polygonValidityCard : Claim7 := { stood := { row := polygonValidityRow, standIns := [], harness := (true, "e5d4646912f7cd0df7f891edfefe8484b021dd2bf2d9ebca08b2c3072eb8c2b1"), looks := false }, kinds := [], alts := [], laidByText := true, laidKinds := [.data, .pinned], laidTests := true, laidLooks := .later }
def PolygonValidityCardSaid : Prop := Claim7.holds Tryz.pinned (.plain (OpenSpec.ofChange polygonValiditySpec)) polygonValidityCard

/-- THE SECOND FORM's CARD OF 'voussoirlaw08.PolygonChecks'. -/
def polygonChecksUptoCard : Claim7 := { stood := { row := polygonChecksUptoRow, standIns := [], harness := (true, "e5d4646912f7cd0df7f891edfefe8484b021dd2bf2d9ebca08b2c3072eb8c2b1"), looks := false }, kinds := [], alts := [], laidByText := true, laidKinds := [.data, .pinned], laidTests := true, laidLooks := .later }
def PolygonChecksUptoCardSaid : Prop := Claim7.holds Tryz.pinned (.plain (OpenSpec.upto polygonChecksSpec)) polygonChecksUptoCard

/-- THE SECOND FORM's CARD OF 'voussoirlaw08.PolygonSplits'. -/
def polygonSplitsUptoCard : Claim7 := { stood := { row := polygonSplitsUptoRow, standIns := [], harness := (true, "e5d4646912f7cd0df7f891edfefe8484b021dd2bf2d9ebca08b2c3072eb8c2b1"), looks := false }, kinds := [], alts := [], laidByText := true, laidKinds := [.data, .pinned], laidTests := true, laidLooks := .later }
def PolygonSplitsUptoCardSaid : Prop := Claim7.holds Tryz.pinned (.plain (OpenSpec.upto polygonSplitsSpec)) polygonSplitsUptoCard

/-- THE SECOND FORM's CARD OF 'voussoirlaw08.PolygonResplit'. -/
def polygonResplitUptoCard : Claim7 := { stood := { row := polygonResplitUptoRow, standIns := [], harness := (true, "e5d4646912f7cd0df7f891edfefe8484b021dd2bf2d9ebca08b2c3072eb8c2b1"), looks := false }, kinds := [], alts := [], laidByText := true, laidKinds := [.data, .pinned], laidTests := true, laidLooks := .later }
def PolygonResplitUptoCardSaid : Prop := Claim7.holds Tryz.pinned (.plain (OpenSpec.upto polygonResplitSpec)) polygonResplitUptoCard

/-- THE SECOND FORM's CARD OF 'voussoirlaw08.PolygonParts'. -/
def polygonPartsUptoCard : Claim7 := { stood := { row := polygonPartsUptoRow, standIns := [], harness := (true, "e5d4646912f7cd0df7f891edfefe8484b021dd2bf2d9ebca08b2c3072eb8c2b1"), looks := false }, kinds := [], alts := [], laidByText := true, laidKinds := [.data, .pinned], laidTests := true, laidLooks := .later }
def PolygonPartsUptoCardSaid : Prop := Claim7.holds Tryz.pinned (.plain (OpenSpec.upto polygonPartsSpec)) polygonPartsUptoCard

/-- THE SECOND FORM's CARD OF 'voussoirlaw08.PolygonQueries'. -/
def polygonQueriesUptoCard : Claim7 := { stood := { row := polygonQueriesUptoRow, standIns := [], harness := (true, "e5d4646912f7cd0df7f891edfefe8484b021dd2bf2d9ebca08b2c3072eb8c2b1"), looks := false }, kinds := [], alts := [], laidByText := true, laidKinds := [.data, .pinned], laidTests := true, laidLooks := .later }
def PolygonQueriesUptoCardSaid : Prop := Claim7.holds Tryz.pinned (.plain (OpenSpec.upto polygonQueriesSpec)) polygonQueriesUptoCard

/-- THE SECOND FORM's CARD OF 'voussoirlaw08.PolygonValidity'. -/
def polygonValidityUptoCard : Claim7 := { stood := { row := polygonValidityUptoRow, standIns := [], harness := (true, "e5d4646912f7cd0df7f891edfefe8484b021dd2bf2d9ebca08b2c3072eb8c2b1"), looks := false }, kinds := [], alts := [], laidByText := true, laidKinds := [.data, .pinned], laidTests := true, laidLooks := .later }
def PolygonValidityUptoCardSaid : Prop := Claim7.holds Tryz.pinned (.plain (OpenSpec.upto polygonValiditySpec)) polygonValidityUptoCard
end Rows
end Go.Proofs.YtoechehmflcnkaaGreatDoor
