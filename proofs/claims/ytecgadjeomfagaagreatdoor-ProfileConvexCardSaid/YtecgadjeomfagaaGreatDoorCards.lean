/-
  DERIVED. GIVEN WITH THE SEED: THE CARDS: each row of YtecgadjeomfagaaGreatDoorRows.lean that lists a variable, with what it lists TIED to the program's text (the seventh form; the later family's looks); each row that meets fmt, with fmt's text TOLD by the authors' own Lean function (tested against real Go, not proved from fmt's source: count such statements apart). THE CARD IS WHAT COUNTS. Prove the row's statement (the work); the ties are given (YtecgadjeomfagaaGreatDoorTie.lean); close each card by the builder's one call (the guide's Derived/Test/ToyasCard.lean, 'card_holds'). Laid BY PROGRAM, IN A SANDBOX (cutbox-door.mjs). By AI agents, Wed Nov 11 2026. No macro, syntax, notation, axiom, sorry.
-/
import Derived.Test.YtecgadjeomfagaaGreatDoorRows
import GoSem.ClaimSeven
namespace Go.Proofs.YtecgadjeomfagaaGreatDoor
namespace Rows

/-- THE TIED CARD OF 'voussoirlaw26.ProfileCanonicalForm'. -/
def profileCanonicalFormCard : Claim7 := { stood := { row := profileCanonicalFormRow, standIns := [], harness := (true, "6891e6b2cf0248261f229c961ed2339ae781543e01778f1e7ed23beee47c934b"), looks := false }, kinds := [], alts := [], laidByText := true, laidKinds := [.data, .pinned], laidTests := true, laidLooks := .later }
def ProfileCanonicalFormCardSaid : Prop := Claim7.holds Tryz.pinned (.plain (OpenSpec.ofChange profileCanonicalFormSpec)) profileCanonicalFormCard

/-- THE TIED CARD OF 'voussoirlaw26.ProfileClassification'. -/
def profileClassificationCard : Claim7 := { stood := { row := profileClassificationRow, standIns := [], harness := (true, "6891e6b2cf0248261f229c961ed2339ae781543e01778f1e7ed23beee47c934b"), looks := false }, kinds := [], alts := [], laidByText := true, laidKinds := [.data, .pinned], laidTests := true, laidLooks := .later }
def ProfileClassificationCardSaid : Prop := Claim7.holds Tryz.pinned (.plain (OpenSpec.ofChange profileClassificationSpec)) profileClassificationCard

/-- THE TIED CARD OF 'voussoirlaw26.ProfileConvex'. -/
def profileConvexCard : Claim7 := { stood := { row := profileConvexRow, standIns := [], harness := (true, "6891e6b2cf0248261f229c961ed2339ae781543e01778f1e7ed23beee47c934b"), looks := false }, kinds := [], alts := [], laidByText := true, laidKinds := [.data, .pinned], laidTests := true, laidLooks := .later }
def ProfileConvexCardSaid : Prop := Claim7.holds Tryz.pinned (.plain (OpenSpec.ofChange profileConvexSpec)) profileConvexCard

/-- THE SECOND FORM's CARD OF 'voussoirlaw26.ProfileCanonicalForm'. -/
def profileCanonicalFormUptoCard : Claim7 := { stood := { row := profileCanonicalFormUptoRow, standIns := [], harness := (true, "6891e6b2cf0248261f229c961ed2339ae781543e01778f1e7ed23beee47c934b"), looks := false }, kinds := [], alts := [], laidByText := true, laidKinds := [.data, .pinned], laidTests := true, laidLooks := .later }
def ProfileCanonicalFormUptoCardSaid : Prop := Claim7.holds Tryz.pinned (.plain (OpenSpec.upto profileCanonicalFormSpec)) profileCanonicalFormUptoCard

/-- THE SECOND FORM's CARD OF 'voussoirlaw26.ProfileClassification'. -/
def profileClassificationUptoCard : Claim7 := { stood := { row := profileClassificationUptoRow, standIns := [], harness := (true, "6891e6b2cf0248261f229c961ed2339ae781543e01778f1e7ed23beee47c934b"), looks := false }, kinds := [], alts := [], laidByText := true, laidKinds := [.data, .pinned], laidTests := true, laidLooks := .later }
def ProfileClassificationUptoCardSaid : Prop := Claim7.holds Tryz.pinned (.plain (OpenSpec.upto profileClassificationSpec)) profileClassificationUptoCard

/-- THE SECOND FORM's CARD OF 'voussoirlaw26.ProfileConvex'. -/
def profileConvexUptoCard : Claim7 := { stood := { row := profileConvexUptoRow, standIns := [], harness := (true, "6891e6b2cf0248261f229c961ed2339ae781543e01778f1e7ed23beee47c934b"), looks := false }, kinds := [], alts := [], laidByText := true, laidKinds := [.data, .pinned], laidTests := true, laidLooks := .later }
def ProfileConvexUptoCardSaid : Prop := Claim7.holds Tryz.pinned (.plain (OpenSpec.upto profileConvexSpec)) profileConvexUptoCard
end Rows
end Go.Proofs.YtecgadjeomfagaaGreatDoor
