/-
  DERIVED. GIVEN WITH THE SEED: THE CARDS: each row of YtmhjnlcmmokniaaDoorRows.lean that lists a variable, with what it lists TIED to the program's text (the seventh form; the later family's looks); each row that meets fmt, with fmt's text TOLD by the authors' own Lean function (tested against real Go, not proved from fmt's source: count such statements apart). THE CARD IS WHAT COUNTS. Prove the row's statement (the work); the ties are given (YtmhjnlcmmokniaaDoorTie.lean); close each card by the builder's one call (the guide's Derived/Test/ToyasCard.lean, 'card_holds'). Laid BY PROGRAM, IN A SANDBOX (cutbox-door.mjs). By AI agents, Wed Nov 11 2026. No macro, syntax, notation, axiom, sorry.
-/
import Derived.Test.YtmhjnlcmmokniaaDoorRows
import GoSem.ClaimSeven
namespace Go.Proofs.YtmhjnlcmmokniaaDoor
namespace Rows

/-- THE TIED CARD OF 'voussoirlaw24.LinearInvariance'. -/
def linearInvarianceCard : Claim7 := { stood := { row := linearInvarianceRow, standIns := [], harness := (true, "4bef45ed8d36840dd17e2ee1ef5b1cca2f755c654fe175379b3e267babfe3a89"), looks := false }, kinds := [], alts := [], laidByText := true, laidKinds := [.data, .pinned], laidTests := true, laidLooks := .later }
def LinearInvarianceCardSaid : Prop := Claim7.holds Tryd.pinned (.plain (OpenSpec.ofChange linearInvarianceSpec)) linearInvarianceCard

/-- THE TIED CARD OF 'voussoirlaw24.LinearRemoval'. -/
def linearRemovalCard : Claim7 := { stood := { row := linearRemovalRow, standIns := [], harness := (true, "4bef45ed8d36840dd17e2ee1ef5b1cca2f755c654fe175379b3e267babfe3a89"), looks := false }, kinds := [], alts := [], laidByText := true, laidKinds := [.data, .pinned], laidTests := true, laidLooks := .later }
def LinearRemovalCardSaid : Prop := Claim7.holds Tryd.pinned (.plain (OpenSpec.ofChange linearRemovalSpec)) linearRemovalCard

/-- THE TIED CARD OF 'voussoirlaw24.LinearScaling'. -/
def linearScalingCard : Claim7 := { stood := { row := linearScalingRow, standIns := [], harness := (true, "4bef45ed8d36840dd17e2ee1ef5b1cca2f755c654fe175379b3e267babfe3a89"), looks := false }, kinds := [], alts := [], laidByText := true, laidKinds := [.data, .pinned], laidTests := true, laidLooks := .later }
def LinearScalingCardSaid : Prop := Claim7.holds Tryd.pinned (.plain (OpenSpec.ofChange linearScalingSpec)) linearScalingCard

/-- THE TIED CARD OF 'voussoirlaw24.LinearConsistency'. -/
def linearConsistencyCard : Claim7 := { stood := { row := linearConsistencyRow, standIns := [], harness := (true, "4bef45ed8d36840dd17e2ee1ef5b1cca2f755c654fe175379b3e267babfe3a89"), looks := false }, kinds := [], alts := [], laidByText := true, laidKinds := [.data, .pinned], laidTests := true, laidLooks := .later }
def LinearConsistencyCardSaid : Prop := Claim7.holds Tryd.pinned (.plain (OpenSpec.ofChange linearConsistencySpec)) linearConsistencyCard

/-- THE TIED CARD OF 'voussoirlaw24.LinearSolution'. -/
def linearSolutionCard : Claim7 := { stood := { row := linearSolutionRow, standIns := [], harness := (true, "4bef45ed8d36840dd17e2ee1ef5b1cca2f755c654fe175379b3e267babfe3a89"), looks := false }, kinds := [], alts := [], laidByText := true, laidKinds := [.data, .pinned], laidTests := true, laidLooks := .later }
def LinearSolutionCardSaid : Prop := Claim7.holds Tryd.pinned (.plain (OpenSpec.ofChange linearSolutionSpec)) linearSolutionCard

/-- THE SECOND FORM's CARD OF 'voussoirlaw24.LinearInvariance'. -/
def linearInvarianceUptoCard : Claim7 := { stood := { row := linearInvarianceUptoRow, standIns := [], harness := (true, "4bef45ed8d36840dd17e2ee1ef5b1cca2f755c654fe175379b3e267babfe3a89"), looks := false }, kinds := [], alts := [], laidByText := true, laidKinds := [.data, .pinned], laidTests := true, laidLooks := .later }
def LinearInvarianceUptoCardSaid : Prop := Claim7.holds Tryd.pinned (.plain (OpenSpec.upto linearInvarianceSpec)) linearInvarianceUptoCard

/-- THE SECOND FORM's CARD OF 'voussoirlaw24.LinearRemoval'. -/
def linearRemovalUptoCard : Claim7 := { stood := { row := linearRemovalUptoRow, standIns := [], harness := (true, "4bef45ed8d36840dd17e2ee1ef5b1cca2f755c654fe175379b3e267babfe3a89"), looks := false }, kinds := [], alts := [], laidByText := true, laidKinds := [.data, .pinned], laidTests := true, laidLooks := .later }
def LinearRemovalUptoCardSaid : Prop := Claim7.holds Tryd.pinned (.plain (OpenSpec.upto linearRemovalSpec)) linearRemovalUptoCard

/-- THE SECOND FORM's CARD OF 'voussoirlaw24.LinearScaling'. -/
def linearScalingUptoCard : Claim7 := { stood := { row := linearScalingUptoRow, standIns := [], harness := (true, "4bef45ed8d36840dd17e2ee1ef5b1cca2f755c654fe175379b3e267babfe3a89"), looks := false }, kinds := [], alts := [], laidByText := true, laidKinds := [.data, .pinned], laidTests := true, laidLooks := .later }
def LinearScalingUptoCardSaid : Prop := Claim7.holds Tryd.pinned (.plain (OpenSpec.upto linearScalingSpec)) linearScalingUptoCard

/-- THE SECOND FORM's CARD OF 'voussoirlaw24.LinearConsistency'. -/
def linearConsistencyUptoCard : Claim7 := { stood := { row := linearConsistencyUptoRow, standIns := [], harness := (true, "4bef45ed8d36840dd17e2ee1ef5b1cca2f755c654fe175379b3e267babfe3a89"), looks := false }, kinds := [], alts := [], laidByText := true, laidKinds := [.data, .pinned], laidTests := true, laidLooks := .later }
def LinearConsistencyUptoCardSaid : Prop := Claim7.holds Tryd.pinned (.plain (OpenSpec.upto linearConsistencySpec)) linearConsistencyUptoCard

/-- THE SECOND FORM's CARD OF 'voussoirlaw24.LinearSolution'. -/
def linearSolutionUptoCard : Claim7 := { stood := { row := linearSolutionUptoRow, standIns := [], harness := (true, "4bef45ed8d36840dd17e2ee1ef5b1cca2f755c654fe175379b3e267babfe3a89"), looks := false }, kinds := [], alts := [], laidByText := true, laidKinds := [.data, .pinned], laidTests := true, laidLooks := .later }
def LinearSolutionUptoCardSaid : Prop := Claim7.holds Tryd.pinned (.plain (OpenSpec.upto linearSolutionSpec)) linearSolutionUptoCard
end Rows
end Go.Proofs.YtmhjnlcmmokniaaDoor
