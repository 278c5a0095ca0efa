/-
  DERIVED. GIVEN WITH THE SEED: THE CARDS: each row of YtecgadjeomfagaaDoorRows.lean that lists a variable, with what it lists TIED to the program's text (the seventh form; the later family's looks); each row that meets fmt, with fmt's text TOLD by the authors' own Lean function (tested against real Go, not proved from fmt's source: count such statements apart). THE CARD IS WHAT COUNTS. Prove the row's statement (the work); the ties are given (YtecgadjeomfagaaDoorTie.lean); close each card by the builder's one call (the guide's Derived/Test/ToyasCard.lean, 'card_holds'). Laid BY PROGRAM, IN A SANDBOX (cutbox-door.mjs). By AI agents, Wed Nov 11 2026. No macro, syntax, notation, axiom, sorry.
-/
import Derived.Test.YtecgadjeomfagaaDoorRows
import GoSem.ClaimSeven
namespace Go.Proofs.YtecgadjeomfagaaDoor
namespace Rows

/-- THE TIED CARD OF 'voussoirlaw26.ProfileOrientation'. -/
def profileOrientationCard : Claim7 := { stood := { row := profileOrientationRow, standIns := [], harness := (true, "b7c7d9060da50cf133448bc263e435d126892c9a52ef342014dcc07e264f3aa9"), looks := false }, kinds := [], alts := [], laidByText := true, laidKinds := [.data, .pinned], laidTests := true, laidLooks := .later }
def ProfileOrientationCardSaid : Prop := Claim7.holds Tryd.pinned (.plain (OpenSpec.ofChange profileOrientationSpec)) profileOrientationCard

/-- THE TIED CARD OF 'voussoirlaw26.ProfileCollinearVertices'. -/
def profileCollinearVerticesCard : Claim7 := { stood := { row := profileCollinearVerticesRow, standIns := [], harness := (true, "b7c7d9060da50cf133448bc263e435d126892c9a52ef342014dcc07e264f3aa9"), looks := false }, kinds := [], alts := [], laidByText := true, laidKinds := [.data, .pinned], laidTests := true, laidLooks := .later }
def ProfileCollinearVerticesCardSaid : Prop := Claim7.holds Tryd.pinned (.plain (OpenSpec.ofChange profileCollinearVerticesSpec)) profileCollinearVerticesCard

/-- THE TIED CARD OF 'voussoirlaw26.ProfileTranslation'. -/
def profileTranslationCard : Claim7 := { stood := { row := profileTranslationRow, standIns := [], harness := (true, "b7c7d9060da50cf133448bc263e435d126892c9a52ef342014dcc07e264f3aa9"), looks := false }, kinds := [], alts := [], laidByText := true, laidKinds := [.data, .pinned], laidTests := true, laidLooks := .later }
def ProfileTranslationCardSaid : Prop := Claim7.holds Tryd.pinned (.plain (OpenSpec.ofChange profileTranslationSpec)) profileTranslationCard

/-- THE SECOND FORM's CARD OF 'voussoirlaw26.ProfileOrientation'. -/
def profileOrientationUptoCard : Claim7 := { stood := { row := profileOrientationUptoRow, standIns := [], harness := (true, "b7c7d9060da50cf133448bc263e435d126892c9a52ef342014dcc07e264f3aa9"), looks := false }, kinds := [], alts := [], laidByText := true, laidKinds := [.data, .pinned], laidTests := true, laidLooks := .later }
def ProfileOrientationUptoCardSaid : Prop := Claim7.holds Tryd.pinned (.plain (OpenSpec.upto profileOrientationSpec)) profileOrientationUptoCard

/-- THE SECOND FORM's CARD OF 'voussoirlaw26.ProfileCollinearVertices'. -/
def profileCollinearVerticesUptoCard : Claim7 := { stood := { row := profileCollinearVerticesUptoRow, standIns := [], harness := (true, "b7c7d9060da50cf133448bc263e435d126892c9a52ef342014dcc07e264f3aa9"), looks := false }, kinds := [], alts := [], laidByText := true, laidKinds := [.data, .pinned], laidTests := true, laidLooks := .later }
def ProfileCollinearVerticesUptoCardSaid : Prop := Claim7.holds Tryd.pinned (.plain (OpenSpec.upto profileCollinearVerticesSpec)) profileCollinearVerticesUptoCard

/-- THE SECOND FORM's CARD OF 'voussoirlaw26.ProfileTranslation'. -/
def profileTranslationUptoCard : Claim7 := { stood := { row := profileTranslationUptoRow, standIns := [], harness := (true, "b7c7d9060da50cf133448bc263e435d126892c9a52ef342014dcc07e264f3aa9"), looks := false }, kinds := [], alts := [], laidByText := true, laidKinds := [.data, .pinned], laidTests := true, laidLooks := .later }
def ProfileTranslationUptoCardSaid : Prop := Claim7.holds Tryd.pinned (.plain (OpenSpec.upto profileTranslationSpec)) profileTranslationUptoCard
end Rows
end Go.Proofs.YtecgadjeomfagaaDoor
