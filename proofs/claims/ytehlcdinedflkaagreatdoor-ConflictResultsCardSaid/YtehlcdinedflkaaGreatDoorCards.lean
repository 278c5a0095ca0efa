/-
  DERIVED. GIVEN WITH THE SEED: THE CARDS: each row of YtehlcdinedflkaaGreatDoorRows.lean that lists a variable, with what it lists TIED to the program's text (the seventh form; the later family's looks); each row that meets fmt, with fmt's text TOLD by the authors' own Lean function (tested against real Go, not proved from fmt's source: count such statements apart). THE CARD IS WHAT COUNTS. Prove the row's statement (the work); the ties are given (YtehlcdinedflkaaGreatDoorTie.lean); close each card by the builder's one call (the guide's Derived/Test/ToyasCard.lean, 'card_holds'). Laid BY PROGRAM, IN A SANDBOX (cutbox-door.mjs). By AI agents, Wed Nov 11 2026. No macro, syntax, notation, axiom, sorry.
-/
import Derived.Test.YtehlcdinedflkaaGreatDoorRows
import GoSem.ClaimSeven
namespace Go.Proofs.YtehlcdinedflkaaGreatDoor
namespace Rows

/-- THE TIED CARD OF 'voussoirlaw25.ConflictResults'. -/
def conflictResultsCard : Claim7 := { stood := { row := conflictResultsRow, standIns := [], harness := (true, "29858ecc641962ad40bfdb47bf59354cffef1f7ffc0952a19b385eec1b28bad0"), looks := false }, kinds := [], alts := [], laidByText := true, laidKinds := [.data, .pinned], laidTests := true, laidLooks := .later }
def ConflictResultsCardSaid : Prop := Claim7.holds Tryz.pinned (.plain (OpenSpec.ofChange conflictResultsSpec)) conflictResultsCard

/-- THE TIED CARD OF 'voussoirlaw25.ConflictMinimal'. -/
def conflictMinimalCard : Claim7 := { stood := { row := conflictMinimalRow, standIns := [], harness := (true, "29858ecc641962ad40bfdb47bf59354cffef1f7ffc0952a19b385eec1b28bad0"), looks := false }, kinds := [], alts := [], laidByText := true, laidKinds := [.data, .pinned], laidTests := true, laidLooks := .later }
def ConflictMinimalCardSaid : Prop := Claim7.holds Tryz.pinned (.plain (OpenSpec.ofChange conflictMinimalSpec)) conflictMinimalCard

/-- THE TIED CARD OF 'voussoirlaw25.ConflictBound'. -/
def conflictBoundCard : Claim7 := { stood := { row := conflictBoundRow, standIns := [], harness := (true, "29858ecc641962ad40bfdb47bf59354cffef1f7ffc0952a19b385eec1b28bad0"), looks := false }, kinds := [], alts := [], laidByText := true, laidKinds := [.data, .pinned], laidTests := true, laidLooks := .later }
def ConflictBoundCardSaid : Prop := Claim7.holds Tryz.pinned (.plain (OpenSpec.ofChange conflictBoundSpec)) conflictBoundCard

/-- THE TIED CARD OF 'voussoirlaw25.ConflictDuplicates'. -/
def conflictDuplicatesCard : Claim7 := { stood := { row := conflictDuplicatesRow, standIns := [], harness := (true, "29858ecc641962ad40bfdb47bf59354cffef1f7ffc0952a19b385eec1b28bad0"), looks := false }, kinds := [], alts := [], laidByText := true, laidKinds := [.data, .pinned], laidTests := true, laidLooks := .later }
def ConflictDuplicatesCardSaid : Prop := Claim7.holds Tryz.pinned (.plain (OpenSpec.ofChange conflictDuplicatesSpec)) conflictDuplicatesCard

/-- THE TIED CARD OF 'voussoirlaw25.ConflictScaling'. -/
def conflictScalingCard : Claim7 := { stood := { row := conflictScalingRow, standIns := [], harness := (true, "29858ecc641962ad40bfdb47bf59354cffef1f7ffc0952a19b385eec1b28bad0"), looks := false }, kinds := [], alts := [], laidByText := true, laidKinds := [.data, .pinned], laidTests := true, laidLooks := .later }
def ConflictScalingCardSaid : Prop := Claim7.holds Tryz.pinned (.plain (OpenSpec.ofChange conflictScalingSpec)) conflictScalingCard

/-- THE TIED CARD OF 'voussoirlaw25.ConflictRedundant'. -/
def conflictRedundantCard : Claim7 := { stood := { row := conflictRedundantRow, standIns := [], harness := (true, "29858ecc641962ad40bfdb47bf59354cffef1f7ffc0952a19b385eec1b28bad0"), looks := false }, kinds := [], alts := [], laidByText := true, laidKinds := [.data, .pinned], laidTests := true, laidLooks := .later }
def ConflictRedundantCardSaid : Prop := Claim7.holds Tryz.pinned (.plain (OpenSpec.ofChange conflictRedundantSpec)) conflictRedundantCard

/-- THE SECOND FORM's CARD OF 'voussoirlaw25.ConflictResults'. -/
def conflictResultsUptoCard : Claim7 := { stood := { row := conflictResultsUptoRow, standIns := [], harness := (true, "29858ecc641962ad40bfdb47bf59354cffef1f7ffc0952a19b385eec1b28bad0"), looks := false }, kinds := [], alts := [], laidByText := true, laidKinds := [.data, .pinned], laidTests := true, laidLooks := .later }
def ConflictResultsUptoCardSaid : Prop := Claim7.holds Tryz.pinned (.plain (OpenSpec.upto conflictResultsSpec)) conflictResultsUptoCard

/-- THE SECOND FORM's CARD OF 'voussoirlaw25.ConflictMinimal'. -/
def conflictMinimalUptoCard : Claim7 := { stood := { row := conflictMinimalUptoRow, standIns := [], harness := (true, "29858ecc641962ad40bfdb47bf59354cffef1f7ffc0952a19b385eec1b28bad0"), looks := false }, kinds := [], alts := [], laidByText := true, laidKinds := [.data, .pinned], laidTests := true, laidLooks := .later }
def ConflictMinimalUptoCardSaid : Prop := Claim7.holds Tryz.pinned (.plain (OpenSpec.upto conflictMinimalSpec)) conflictMinimalUptoCard

/-- THE SECOND FORM's CARD OF 'voussoirlaw25.ConflictBound'. -/
def conflictBoundUptoCard : Claim7 := { stood := { row := conflictBoundUptoRow, standIns := [], harness := (true, "29858ecc641962ad40bfdb47bf59354cffef1f7ffc0952a19b385eec1b28bad0"), looks := false }, kinds := [], alts := [], laidByText := true, laidKinds := [.data, .pinned], laidTests := true, laidLooks := .later }
def ConflictBoundUptoCardSaid : Prop := Claim7.holds Tryz.pinned (.plain (OpenSpec.upto conflictBoundSpec)) conflictBoundUptoCard

/-- THE SECOND FORM's CARD OF 'voussoirlaw25.ConflictDuplicates'. -/
def conflictDuplicatesUptoCard : Claim7 := { stood := { row := conflictDuplicatesUptoRow, standIns := [], harness := (true, "29858ecc641962ad40bfdb47bf59354cffef1f7ffc0952a19b385eec1b28bad0"), looks := false }, kinds := [], alts := [], laidByText := true, laidKinds := [.data, .pinned], laidTests := true, laidLooks := .later }
def ConflictDuplicatesUptoCardSaid : Prop := Claim7.holds Tryz.pinned (.plain (OpenSpec.upto conflictDuplicatesSpec)) conflictDuplicatesUptoCard

/-- THE SECOND FORM's CARD OF 'voussoirlaw25.ConflictScaling'. -/
def conflictScalingUptoCard : Claim7 := { stood := { row := conflictScalingUptoRow, standIns := [], harness := (true, "29858ecc641962ad40bfdb47bf59354cffef1f7ffc0952a19b385eec1b28bad0"), looks := false }, kinds := [], alts := [], laidByText := true, laidKinds := [.data, .pinned], laidTests := true, laidLooks := .later }
def ConflictScalingUptoCardSaid : Prop := Claim7.holds Tryz.pinned (.plain (OpenSpec.upto conflictScalingSpec)) conflictScalingUptoCard

/-- THE SECOND FORM's CARD OF 'voussoirlaw25.ConflictRedundant'. -/
def conflictRedundantUptoCard : Claim7 := { stood := { row := conflictRedundantUptoRow, standIns := [], harness := (true, "29858ecc641962ad40bfdb47bf59354cffef1f7ffc0952a19b385eec1b28bad0"), looks := false }, kinds := [], alts := [], laidByText := true, laidKinds := [.data, .pinned], laidTests := true, laidLooks := .later }
def ConflictRedundantUptoCardSaid : Prop := Claim7.holds Tryz.pinned (.plain (OpenSpec.upto conflictRedundantSpec)) conflictRedundantUptoCard
end Rows
end Go.Proofs.YtehlcdinedflkaaGreatDoor
