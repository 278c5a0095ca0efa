/-
  DERIVED. GIVEN WITH THE SEED: THE CARDS: each row of YtecmijganfoiaaaGreatDoorRows.lean that lists a variable, with what it lists TIED to the program's text (the seventh form; the later family's looks); each row that meets fmt, with fmt's text TOLD by the authors' own Lean function (tested against real Go, not proved from fmt's source: count such statements apart). THE CARD IS WHAT COUNTS. Prove the row's statement (the work); the ties are given (YtecmijganfoiaaaGreatDoorTie.lean); close each card by the builder's one call (the guide's Derived/Test/ToyasCard.lean, 'card_holds'). Laid BY PROGRAM, IN A SANDBOX (cutbox-door.mjs). By AI agents, Wed Nov 11 2026. No macro, syntax, notation, axiom, sorry.
-/
import Derived.Test.YtecmijganfoiaaaGreatDoorRows
import GoSem.ClaimSeven
namespace Go.Proofs.YtecmijganfoiaaaGreatDoor
namespace Rows

/-- THE TIED CARD OF 'voussoirlaw07.AffineRotations'. -/
def affineRotationsCard : Claim7 := { stood := { row := affineRotationsRow, standIns := [], harness := (true, "6328b5834812c0b8b4b2167a9b36b40b3727d1656a9f2706b4658581e615960e"), looks := false }, kinds := [], alts := [], laidByText := true, laidKinds := [.data, .pinned], laidTests := true, laidLooks := .later }
def AffineRotationsCardSaid : Prop := Claim7.holds Tryz.pinned (.plain (OpenSpec.ofChange affineRotationsSpec)) affineRotationsCard

/-- THE TIED CARD OF 'voussoirlaw07.AffineComposition'. -/
def affineCompositionCard : Claim7 := { stood := { row := affineCompositionRow, standIns := [], harness := (true, "6328b5834812c0b8b4b2167a9b36b40b3727d1656a9f2706b4658581e615960e"), looks := false }, kinds := [], alts := [], laidByText := true, laidKinds := [.data, .pinned], laidTests := true, laidLooks := .later }
def AffineCompositionCardSaid : Prop := Claim7.holds Tryz.pinned (.plain (OpenSpec.ofChange affineCompositionSpec)) affineCompositionCard

/-- THE TIED CARD OF 'voussoirlaw07.AffineReflections'. -/
def affineReflectionsCard : Claim7 := { stood := { row := affineReflectionsRow, standIns := [], harness := (true, "6328b5834812c0b8b4b2167a9b36b40b3727d1656a9f2706b4658581e615960e"), looks := false }, kinds := [], alts := [], laidByText := true, laidKinds := [.data, .pinned], laidTests := true, laidLooks := .later }
def AffineReflectionsCardSaid : Prop := Claim7.holds Tryz.pinned (.plain (OpenSpec.ofChange affineReflectionsSpec)) affineReflectionsCard

/-- THE TIED CARD OF 'voussoirlaw07.AffinePoints'. -/
def affinePointsCard : Claim7 := { stood := { row := affinePointsRow, standIns := [], harness := (true, "6328b5834812c0b8b4b2167a9b36b40b3727d1656a9f2706b4658581e615960e"), looks := false }, kinds := [], alts := [], laidByText := true, laidKinds := [.data, .pinned], laidTests := true, laidLooks := .later }
def AffinePointsCardSaid : Prop := Claim7.holds Tryz.pinned (.plain (OpenSpec.ofChange affinePointsSpec)) affinePointsCard

/-- THE TIED CARD OF 'voussoirlaw07.AffinePlanes'. -/
def affinePlanesCard : Claim7 := { stood := { row := affinePlanesRow, standIns := [], harness := (true, "6328b5834812c0b8b4b2167a9b36b40b3727d1656a9f2706b4658581e615960e"), looks := false }, kinds := [], alts := [], laidByText := true, laidKinds := [.data, .pinned], laidTests := true, laidLooks := .later }
def AffinePlanesCardSaid : Prop := Claim7.holds Tryz.pinned (.plain (OpenSpec.ofChange affinePlanesSpec)) affinePlanesCard

/-- THE TIED CARD OF 'voussoirlaw07.AffineInverse'. -/
def affineInverseCard : Claim7 := { stood := { row := affineInverseRow, standIns := [], harness := (true, "6328b5834812c0b8b4b2167a9b36b40b3727d1656a9f2706b4658581e615960e"), looks := false }, kinds := [], alts := [], laidByText := true, laidKinds := [.data, .pinned], laidTests := true, laidLooks := .later }
def AffineInverseCardSaid : Prop := Claim7.holds Tryz.pinned (.plain (OpenSpec.ofChange affineInverseSpec)) affineInverseCard

/-- THE TIED CARD OF 'voussoirlaw07.AffinePreservesSides'. -/
def affinePreservesSidesCard : Claim7 := { stood := { row := affinePreservesSidesRow, standIns := [], harness := (true, "6328b5834812c0b8b4b2167a9b36b40b3727d1656a9f2706b4658581e615960e"), looks := false }, kinds := [], alts := [], laidByText := true, laidKinds := [.data, .pinned], laidTests := true, laidLooks := .later }
def AffinePreservesSidesCardSaid : Prop := Claim7.holds Tryz.pinned (.plain (OpenSpec.ofChange affinePreservesSidesSpec)) affinePreservesSidesCard

/-- THE SECOND FORM's CARD OF 'voussoirlaw07.AffineRotations'. -/
def affineRotationsUptoCard : Claim7 := { stood := { row := affineRotationsUptoRow, standIns := [], harness := (true, "6328b5834812c0b8b4b2167a9b36b40b3727d1656a9f2706b4658581e615960e"), looks := false }, kinds := [], alts := [], laidByText := true, laidKinds := [.data, .pinned], laidTests := true, laidLooks := .later }
def AffineRotationsUptoCardSaid : Prop := Claim7.holds Tryz.pinned (.plain (OpenSpec.upto affineRotationsSpec)) affineRotationsUptoCard

/-- THE SECOND FORM's CARD OF 'voussoirlaw07.AffineComposition'. -/
def affineCompositionUptoCard : Claim7 := { stood := { row := affineCompositionUptoRow, standIns := [], harness := (true, "6328b5834812c0b8b4b2167a9b36b40b3727d1656a9f2706b4658581e615960e"), looks := false }, kinds := [], alts := [], laidByText := true, laidKinds := [.data, .pinned], laidTests := true, laidLooks := .later }
def AffineCompositionUptoCardSaid : Prop := Claim7.holds Tryz.pinned (.plain (OpenSpec.upto affineCompositionSpec)) affineCompositionUptoCard

/-- THE SECOND FORM's CARD OF 'voussoirlaw07.AffineReflections'. -/
def affineReflectionsUptoCard : Claim7 := { stood := { row := affineReflectionsUptoRow, standIns := [], harness := (true, "6328b5834812c0b8b4b2167a9b36b40b3727d1656a9f2706b4658581e615960e"), looks := false }, kinds := [], alts := [], laidByText := true, laidKinds := [.data, .pinned], laidTests := true, laidLooks := .later }
def AffineReflectionsUptoCardSaid : Prop := Claim7.holds Tryz.pinned (.plain (OpenSpec.upto affineReflectionsSpec)) affineReflectionsUptoCard

/-- THE SECOND FORM's CARD OF 'voussoirlaw07.AffinePoints'. -/
def affinePointsUptoCard : Claim7 := { stood := { row := affinePointsUptoRow, standIns := [], harness := (true, "6328b5834812c0b8b4b2167a9b36b40b3727d1656a9f2706b4658581e615960e"), looks := false }, kinds := [], alts := [], laidByText := true, laidKinds := [.data, .pinned], laidTests := true, laidLooks := .later }
def AffinePointsUptoCardSaid : Prop := Claim7.holds Tryz.pinned (.plain (OpenSpec.upto affinePointsSpec)) affinePointsUptoCard

/-- THE SECOND FORM's CARD OF 'voussoirlaw07.AffinePlanes'. -/
def affinePlanesUptoCard : Claim7 := { stood := { row := affinePlanesUptoRow, standIns := [], harness := (true, "6328b5834812c0b8b4b2167a9b36b40b3727d1656a9f2706b4658581e615960e"), looks := false }, kinds := [], alts := [], laidByText := true, laidKinds := [.data, .pinned], laidTests := true, laidLooks := .later }
def AffinePlanesUptoCardSaid : Prop := Claim7.holds Tryz.pinned (.plain (OpenSpec.upto affinePlanesSpec)) affinePlanesUptoCard

/-- THE SECOND FORM's CARD OF 'voussoirlaw07.AffineInverse'. -/
def affineInverseUptoCard : Claim7 := { stood := { row := affineInverseUptoRow, standIns := [], harness := (true, "6328b5834812c0b8b4b2167a9b36b40b3727d1656a9f2706b4658581e615960e"), looks := false }, kinds := [], alts := [], laidByText := true, laidKinds := [.data, .pinned], laidTests := true, laidLooks := .later }
def AffineInverseUptoCardSaid : Prop := Claim7.holds Tryz.pinned (.plain (OpenSpec.upto affineInverseSpec)) affineInverseUptoCard

/-- THE SECOND FORM's CARD OF 'voussoirlaw07.AffinePreservesSides'. -/
def affinePreservesSidesUptoCard : Claim7 := { stood := { row := affinePreservesSidesUptoRow, standIns := [], harness := (true, "6328b5834812c0b8b4b2167a9b36b40b3727d1656a9f2706b4658581e615960e"), looks := false }, kinds := [], alts := [], laidByText := true, laidKinds := [.data, .pinned], laidTests := true, laidLooks := .later }
def AffinePreservesSidesUptoCardSaid : Prop := Claim7.holds Tryz.pinned (.plain (OpenSpec.upto affinePreservesSidesSpec)) affinePreservesSidesUptoCard
end Rows
end Go.Proofs.YtecmijganfoiaaaGreatDoor
