/-
  NARROWER THAN 'FOR EVERY INPUT', by the rows' own cells (each row's printed sentence says how): LinearInvariance: laid · LinearRemoval: laid · LinearScaling: laid · LinearConsistency: laid · LinearSolution: laid.
  DERIVED. THE GIVEN ROWS OF THIS SEAT. 5 by the template 'for every input the law returns true; each argument reads behind the call as it read before'; 0 by the template 'total and deterministic' (their statements: YtmhjnlcmmokniaaDoorTotals.lean).
  GIVEN WITH THE SEED: the statements are not yours to turn. If you find one false, say at which input.
  Laid BY PROGRAM, IN A SANDBOX (cutbox-rows.mjs): the forced cells as the released guide's own fill.sh prints them over the translation 1247e958657f7e27… (all of the seat's roots in one cut). By AI agents, Wed Nov 11 2026. No macro, syntax, notation, axiom, sorry.
-/
import Derived.Test.YtmhjnlcmmokniaaDoorChecked
import GoSem.PinnedTables
import GoSem.Claim
import GoSem.ClaimJoined
import GoSem.ClaimMapViews
import Derived.JoinedTies
import Derived.KernelRfl
namespace Go.Proofs.YtmhjnlcmmokniaaDoor
/- THE CELL 'sum', in the pinned program and in every row, IS THE sha256 OF THE DUMP (.gsa) THAT YtmhjnlcmmokniaaDoorProg.lean LOADS. Nothing in Lean hashes anything: it is a label: what it is worth is what the hold of that sum in a sandbox is worth. -/
noncomputable def Tryd.pinned : Pinned := { name := "ytmhjnlcmmokniaadoor", sum := "1247e958657f7e27243f29b6815d69d20b24bddd04663ccbcb9b65ff6baaea5d", checked := Tryd.checked }
namespace Rows
def none {H : Type} : Left H := { results := [], args := [] }

/- WHAT THE LISTED PACKAGE-LEVEL VARIABLES READ AS WHEN THE CALL BEGINS. Each datum BY PROGRAM (the guide's laid-datum.mjs) off the statement by which the dump's own 'gosem.cut.vars' lays the variable. In a bare row this is a premise. The card (YtmhjnlcmmokniaaDoorCards.lean) ties it to the program's text. -/
def laid_unicode_utf8_acceptRanges {H : Type} : DataW H := .agg [.agg [.lit (.int .u8 128), .lit (.int .u8 191)], .agg [.lit (.int .u8 160), .lit (.int .u8 191)], .agg [.lit (.int .u8 128), .lit (.int .u8 159)], .agg [.lit (.int .u8 144), .lit (.int .u8 191)], .agg [.lit (.int .u8 128), .lit (.int .u8 143)], .agg [.lit (.int .u8 0), .lit (.int .u8 0)], .agg [.lit (.int .u8 0), .lit (.int .u8 0)], .agg [.lit (.int .u8 0), .lit (.int .u8 0)], .agg [.lit (.int .u8 0), .lit (.int .u8 0)], .agg [.lit (.int .u8 0), .lit (.int .u8 0)], .agg [.lit (.int .u8 0), .lit (.int .u8 0)], .agg [.lit (.int .u8 0), .lit (.int .u8 0)], .agg [.lit (.int .u8 0), .lit (.int .u8 0)], .agg [.lit (.int .u8 0), .lit (.int .u8 0)], .agg [.lit (.int .u8 0), .lit (.int .u8 0)], .agg [.lit (.int .u8 0), .lit (.int .u8 0)]]
/-- One of Go's own tables, pinned by name: the form's constant. -/
def laid_unicode_utf8_first : DataW Unit := Go.Pinned.utf8First

/-- 'voussoirlaw24.LinearInvariance': WHATEVER THE INPUT: true; the input reads as it did. -/
def linearInvarianceSpec : ChangeSpec := { name := "linearInvariance", fn := fun _ => fun
  | [d1, d2, d3] => { results := [.lit (.bool true)], args := [d1, d2, d3] }
  | _ => none }
def linearInvarianceRow : OpenClaim := { program := "ytmhjnlcmmokniaadoor", sum := "1247e958657f7e27243f29b6815d69d20b24bddd04663ccbcb9b65ff6baaea5d", func := "voussoir/voussoirlaw24.LinearInvariance", spec := "linearInvariance", inPlace := ["internal/bytealg.IndexByteString", "internal/bytealg.IndexString"], unfollowed := true, recurses := true, named := ["unicode/utf8.first", "unicode/utf8.acceptRanges", "math/bits.overflowError", "internal/bytealg.MaxLen"], apart := false, laid := [("unicode/utf8.acceptRanges", laid_unicode_utf8_acceptRanges), ("unicode/utf8.first", laid_unicode_utf8_first)] }
def LinearInvarianceSaid : Prop := linearInvarianceRow.holds Tryd.pinned (OpenSpec.ofChange linearInvarianceSpec)

/-- ITS FALSE NEIGHBOUR: 'it returns false'. Refute it at one input. -/
def linearInvarianceWrong : ChangeSpec := { name := "linearInvariance", fn := fun _ => fun
  | [d1, d2, d3] => { results := [.lit (.bool false)], args := [d1, d2, d3] }
  | _ => none }
def LinearInvarianceWrongFalsely : Prop := linearInvarianceRow.holds Tryd.pinned (OpenSpec.ofChange linearInvarianceWrong)

/-- 'voussoirlaw24.LinearRemoval': WHATEVER THE INPUT: true; the input reads as it did. -/
def linearRemovalSpec : ChangeSpec := { name := "linearRemoval", fn := fun _ => fun
  | [d1, d2, d3] => { results := [.lit (.bool true)], args := [d1, d2, d3] }
  | _ => none }
def linearRemovalRow : OpenClaim := { program := "ytmhjnlcmmokniaadoor", sum := "1247e958657f7e27243f29b6815d69d20b24bddd04663ccbcb9b65ff6baaea5d", func := "voussoir/voussoirlaw24.LinearRemoval", spec := "linearRemoval", inPlace := ["internal/bytealg.IndexByteString", "internal/bytealg.IndexString"], unfollowed := true, recurses := true, named := ["unicode/utf8.first", "unicode/utf8.acceptRanges", "math/bits.overflowError", "internal/bytealg.MaxLen"], apart := false, laid := [("unicode/utf8.acceptRanges", laid_unicode_utf8_acceptRanges), ("unicode/utf8.first", laid_unicode_utf8_first)] }
def LinearRemovalSaid : Prop := linearRemovalRow.holds Tryd.pinned (OpenSpec.ofChange linearRemovalSpec)

/-- ITS FALSE NEIGHBOUR: 'it returns false'. Refute it at one input. -/
def linearRemovalWrong : ChangeSpec := { name := "linearRemoval", fn := fun _ => fun
  | [d1, d2, d3] => { results := [.lit (.bool false)], args := [d1, d2, d3] }
  | _ => none }
def LinearRemovalWrongFalsely : Prop := linearRemovalRow.holds Tryd.pinned (OpenSpec.ofChange linearRemovalWrong)

/-- 'voussoirlaw24.LinearScaling': WHATEVER THE INPUT: true; the input reads as it did. -/
def linearScalingSpec : ChangeSpec := { name := "linearScaling", fn := fun _ => fun
  | [d1, d2, d3] => { results := [.lit (.bool true)], args := [d1, d2, d3] }
  | _ => none }
def linearScalingRow : OpenClaim := { program := "ytmhjnlcmmokniaadoor", sum := "1247e958657f7e27243f29b6815d69d20b24bddd04663ccbcb9b65ff6baaea5d", func := "voussoir/voussoirlaw24.LinearScaling", spec := "linearScaling", inPlace := ["internal/bytealg.IndexByteString", "internal/bytealg.IndexString"], unfollowed := true, recurses := true, named := ["unicode/utf8.first", "unicode/utf8.acceptRanges", "math/bits.overflowError", "internal/bytealg.MaxLen"], apart := false, laid := [("unicode/utf8.acceptRanges", laid_unicode_utf8_acceptRanges), ("unicode/utf8.first", laid_unicode_utf8_first)] }
def LinearScalingSaid : Prop := linearScalingRow.holds Tryd.pinned (OpenSpec.ofChange linearScalingSpec)

/-- ITS FALSE NEIGHBOUR: 'it returns false'. Refute it at one input. -/
def linearScalingWrong : ChangeSpec := { name := "linearScaling", fn := fun _ => fun
  | [d1, d2, d3] => { results := [.lit (.bool false)], args := [d1, d2, d3] }
  | _ => none }
def LinearScalingWrongFalsely : Prop := linearScalingRow.holds Tryd.pinned (OpenSpec.ofChange linearScalingWrong)

/-- 'voussoirlaw24.LinearConsistency': WHATEVER THE INPUT: true; the input reads as it did. -/
def linearConsistencySpec : ChangeSpec := { name := "linearConsistency", fn := fun _ => fun
  | [d1, d2] => { results := [.lit (.bool true)], args := [d1, d2] }
  | _ => none }
def linearConsistencyRow : OpenClaim := { program := "ytmhjnlcmmokniaadoor", sum := "1247e958657f7e27243f29b6815d69d20b24bddd04663ccbcb9b65ff6baaea5d", func := "voussoir/voussoirlaw24.LinearConsistency", spec := "linearConsistency", inPlace := ["internal/bytealg.IndexByteString", "internal/bytealg.IndexString"], unfollowed := true, recurses := true, named := ["unicode/utf8.first", "unicode/utf8.acceptRanges", "math/bits.overflowError", "internal/bytealg.MaxLen"], apart := false, laid := [("unicode/utf8.acceptRanges", laid_unicode_utf8_acceptRanges), ("unicode/utf8.first", laid_unicode_utf8_first)] }
def LinearConsistencySaid : Prop := linearConsistencyRow.holds Tryd.pinned (OpenSpec.ofChange linearConsistencySpec)

/-- ITS FALSE NEIGHBOUR: 'it returns false'. Refute it at one input. -/
def linearConsistencyWrong : ChangeSpec := { name := "linearConsistency", fn := fun _ => fun
  | [d1, d2] => { results := [.lit (.bool false)], args := [d1, d2] }
  | _ => none }
def LinearConsistencyWrongFalsely : Prop := linearConsistencyRow.holds Tryd.pinned (OpenSpec.ofChange linearConsistencyWrong)

/-- 'voussoirlaw24.LinearSolution': WHATEVER THE INPUT: true; the input reads as it did. -/
def linearSolutionSpec : ChangeSpec := { name := "linearSolution", fn := fun _ => fun
  | [d1, d2, d3] => { results := [.lit (.bool true)], args := [d1, d2, d3] }
  | _ => none }
def linearSolutionRow : OpenClaim := { program := "ytmhjnlcmmokniaadoor", sum := "1247e958657f7e27243f29b6815d69d20b24bddd04663ccbcb9b65ff6baaea5d", func := "voussoir/voussoirlaw24.LinearSolution", spec := "linearSolution", inPlace := ["internal/bytealg.IndexByteString", "internal/bytealg.IndexString"], unfollowed := true, recurses := true, named := ["unicode/utf8.first", "unicode/utf8.acceptRanges", "math/bits.overflowError", "internal/bytealg.MaxLen"], apart := false, laid := [("unicode/utf8.acceptRanges", laid_unicode_utf8_acceptRanges), ("unicode/utf8.first", laid_unicode_utf8_first)] }
def LinearSolutionSaid : Prop := linearSolutionRow.holds Tryd.pinned (OpenSpec.ofChange linearSolutionSpec)

/-- ITS FALSE NEIGHBOUR: 'it returns false'. Refute it at one input. -/
def linearSolutionWrong : ChangeSpec := { name := "linearSolution", fn := fun _ => fun
  | [d1, d2, d3] => { results := [.lit (.bool false)], args := [d1, d2, d3] }
  | _ => none }
def LinearSolutionWrongFalsely : Prop := linearSolutionRow.holds Tryd.pinned (OpenSpec.ofChange linearSolutionWrong)

/- THE SECOND FORM. 'bulk': how many values and letters a reading holds, each counted each time it is reached (what is shared counts as often as it is met; a slice's spare places count too). A statement '..UptoSaid' is the law's where the arguments, and the package variables that the reading takes, are together of bulk at most 1048576: NARROWER than '..Said'. Prove '..Said' where nothing that the law and all that it calls make is longer than what came in: it says more and counts as full. Else prove '..UptoSaid'. A law counts once. -/
mutual
def uptoBulk {H : Type} : DataW H → Nat
  | .lit (.string bytes) => bytes.length + 1
  | .lit _ => 1
  | .nil => 1
  | .ptr d => uptoBulk d + 1
  | .slice elems spare => uptoBulkAll elems + uptoBulkAll spare + 1
  | .agg parts => uptoBulkAll parts + 1
  | .iface _ d => uptoBulk d + 1
  | .map entries => uptoBulkEntries entries + 1
  | .held _ => 1
def uptoBulkAll {H : Type} : List (DataW H) → Nat
  | [] => 0
  | d :: r => uptoBulk d + uptoBulkAll r
def uptoBulkEntries {H : Type} : List (Lit × DataW H) → Nat
  | [] => 0
  | x :: r => uptoBulkEntry x + uptoBulkEntries r
def uptoBulkEntry {H : Type} : Lit × DataW H → Nat
  | (.string bytes, d) => bytes.length + uptoBulk d + 1
  | (_, d) => uptoBulk d + 1
 end
def uptoSmall : (H : Type) → List (DataW H) → Bool := fun _ ds => decide (uptoBulkAll ds ≤ 1048576)
def OpenSpec.upto (s : _root_.Go.ChangeSpec) : _root_.Go.OpenSpec := { _root_.Go.OpenSpec.ofChange s with cond := some uptoSmall }

/-- 'voussoirlaw24.LinearInvariance', WHERE WHAT IT READS IS OF BULK AT MOST 1048576: true; the input reads as it did. -/
def linearInvarianceUptoRow : OpenClaim := { program := "ytmhjnlcmmokniaadoor", sum := "1247e958657f7e27243f29b6815d69d20b24bddd04663ccbcb9b65ff6baaea5d", func := "voussoir/voussoirlaw24.LinearInvariance", spec := "linearInvariance", inPlace := ["internal/bytealg.IndexByteString", "internal/bytealg.IndexString"], unfollowed := true, recurses := true, named := ["unicode/utf8.first", "unicode/utf8.acceptRanges", "math/bits.overflowError", "internal/bytealg.MaxLen"], apart := false, laid := [("unicode/utf8.acceptRanges", laid_unicode_utf8_acceptRanges), ("unicode/utf8.first", laid_unicode_utf8_first)], narrowed := true }
def LinearInvarianceUptoSaid : Prop := linearInvarianceUptoRow.holds Tryd.pinned (OpenSpec.upto linearInvarianceSpec)

/-- 'voussoirlaw24.LinearRemoval', WHERE WHAT IT READS IS OF BULK AT MOST 1048576: true; the input reads as it did. -/
def linearRemovalUptoRow : OpenClaim := { program := "ytmhjnlcmmokniaadoor", sum := "1247e958657f7e27243f29b6815d69d20b24bddd04663ccbcb9b65ff6baaea5d", func := "voussoir/voussoirlaw24.LinearRemoval", spec := "linearRemoval", inPlace := ["internal/bytealg.IndexByteString", "internal/bytealg.IndexString"], unfollowed := true, recurses := true, named := ["unicode/utf8.first", "unicode/utf8.acceptRanges", "math/bits.overflowError", "internal/bytealg.MaxLen"], apart := false, laid := [("unicode/utf8.acceptRanges", laid_unicode_utf8_acceptRanges), ("unicode/utf8.first", laid_unicode_utf8_first)], narrowed := true }
def LinearRemovalUptoSaid : Prop := linearRemovalUptoRow.holds Tryd.pinned (OpenSpec.upto linearRemovalSpec)

/-- 'voussoirlaw24.LinearScaling', WHERE WHAT IT READS IS OF BULK AT MOST 1048576: true; the input reads as it did. -/
def linearScalingUptoRow : OpenClaim := { program := "ytmhjnlcmmokniaadoor", sum := "1247e958657f7e27243f29b6815d69d20b24bddd04663ccbcb9b65ff6baaea5d", func := "voussoir/voussoirlaw24.LinearScaling", spec := "linearScaling", inPlace := ["internal/bytealg.IndexByteString", "internal/bytealg.IndexString"], unfollowed := true, recurses := true, named := ["unicode/utf8.first", "unicode/utf8.acceptRanges", "math/bits.overflowError", "internal/bytealg.MaxLen"], apart := false, laid := [("unicode/utf8.acceptRanges", laid_unicode_utf8_acceptRanges), ("unicode/utf8.first", laid_unicode_utf8_first)], narrowed := true }
def LinearScalingUptoSaid : Prop := linearScalingUptoRow.holds Tryd.pinned (OpenSpec.upto linearScalingSpec)

/-- 'voussoirlaw24.LinearConsistency', WHERE WHAT IT READS IS OF BULK AT MOST 1048576: true; the input reads as it did. -/
def linearConsistencyUptoRow : OpenClaim := { program := "ytmhjnlcmmokniaadoor", sum := "1247e958657f7e27243f29b6815d69d20b24bddd04663ccbcb9b65ff6baaea5d", func := "voussoir/voussoirlaw24.LinearConsistency", spec := "linearConsistency", inPlace := ["internal/bytealg.IndexByteString", "internal/bytealg.IndexString"], unfollowed := true, recurses := true, named := ["unicode/utf8.first", "unicode/utf8.acceptRanges", "math/bits.overflowError", "internal/bytealg.MaxLen"], apart := false, laid := [("unicode/utf8.acceptRanges", laid_unicode_utf8_acceptRanges), ("unicode/utf8.first", laid_unicode_utf8_first)], narrowed := true }
def LinearConsistencyUptoSaid : Prop := linearConsistencyUptoRow.holds Tryd.pinned (OpenSpec.upto linearConsistencySpec)

/-- 'voussoirlaw24.LinearSolution', WHERE WHAT IT READS IS OF BULK AT MOST 1048576: true; the input reads as it did. -/
def linearSolutionUptoRow : OpenClaim := { program := "ytmhjnlcmmokniaadoor", sum := "1247e958657f7e27243f29b6815d69d20b24bddd04663ccbcb9b65ff6baaea5d", func := "voussoir/voussoirlaw24.LinearSolution", spec := "linearSolution", inPlace := ["internal/bytealg.IndexByteString", "internal/bytealg.IndexString"], unfollowed := true, recurses := true, named := ["unicode/utf8.first", "unicode/utf8.acceptRanges", "math/bits.overflowError", "internal/bytealg.MaxLen"], apart := false, laid := [("unicode/utf8.acceptRanges", laid_unicode_utf8_acceptRanges), ("unicode/utf8.first", laid_unicode_utf8_first)], narrowed := true }
def LinearSolutionUptoSaid : Prop := linearSolutionUptoRow.holds Tryd.pinned (OpenSpec.upto linearSolutionSpec)

end Rows
end Go.Proofs.YtmhjnlcmmokniaaDoor
