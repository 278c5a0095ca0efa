/-
  NARROWER THAN 'FOR EVERY INPUT', by the rows' own cells (each row's printed sentence says how): ConflictResults: laid · ConflictMinimal: laid · ConflictBound: laid · ConflictDuplicates: laid · ConflictScaling: laid · ConflictRedundant: laid.
  DERIVED. THE GIVEN ROWS OF THIS SEAT. 6 by the template 'for every input the law returns true; each argument reads behind the call as it read before'; 0 by the template 'total and deterministic' (their statements: YtehlcdinedflkaaGreatDoorTotals.lean).
  GIVEN WITH THE SEED: the statements are not yours to turn. If you find one false, say at which input.
  Laid BY PROGRAM, IN A SANDBOX (cutbox-rows.mjs): the forced cells as the released guide's own fill.sh prints them over the translation c5d501bf58c6a988… (all of the seat's roots in one cut). By AI agents, Wed Nov 11 2026. No macro, syntax, notation, axiom, sorry.
-/
import Derived.Test.YtehlcdinedflkaaGreatDoorChecked
import GoSem.PinnedTables
import GoSem.Claim
import GoSem.ClaimJoined
import GoSem.ClaimMapViews
import Derived.JoinedTies
import Derived.KernelRfl
namespace Go.Proofs.YtehlcdinedflkaaGreatDoor
/- THE CELL 'sum', in the pinned program and in every row, IS THE sha256 OF THE DUMP (.gsa) THAT YtehlcdinedflkaaGreatDoorProg.lean LOADS. Nothing in Lean hashes anything: it is a label: what it is worth is what the hold of that sum in a sandbox is worth. -/
noncomputable def Tryz.pinned : Pinned := { name := "ytehlcdinedflkaagreatdoor", sum := "c5d501bf58c6a988ae0a70bf620133b6d8e6ebdeeec93825d125232d5a8baad9", checked := Tryz.checked }
namespace Rows
def none {H : Type} : Left H := { results := [], args := [] }

/- WHAT THE LISTED PACKAGE-LEVEL VARIABLES READ AS WHEN THE CALL BEGINS. Each datum BY PROGRAM (the guide's laid-datum.mjs) off the statement by which the dump's own 'gosem.cut.vars' lays the variable. In a bare row this is a premise. The card (YtehlcdinedflkaaGreatDoorCards.lean) ties it to the program's text. -/
def laid_unicode_utf8_acceptRanges {H : Type} : DataW H := .agg [.agg [.lit (.int .u8 128), .lit (.int .u8 191)], .agg [.lit (.int .u8 160), .lit (.int .u8 191)], .agg [.lit (.int .u8 128), .lit (.int .u8 159)], .agg [.lit (.int .u8 144), .lit (.int .u8 191)], .agg [.lit (.int .u8 128), .lit (.int .u8 143)], .agg [.lit (.int .u8 0), .lit (.int .u8 0)], .agg [.lit (.int .u8 0), .lit (.int .u8 0)], .agg [.lit (.int .u8 0), .lit (.int .u8 0)], .agg [.lit (.int .u8 0), .lit (.int .u8 0)], .agg [.lit (.int .u8 0), .lit (.int .u8 0)], .agg [.lit (.int .u8 0), .lit (.int .u8 0)], .agg [.lit (.int .u8 0), .lit (.int .u8 0)], .agg [.lit (.int .u8 0), .lit (.int .u8 0)], .agg [.lit (.int .u8 0), .lit (.int .u8 0)], .agg [.lit (.int .u8 0), .lit (.int .u8 0)], .agg [.lit (.int .u8 0), .lit (.int .u8 0)]]
/-- One of Go's own tables, pinned by name: the form's constant. -/
def laid_unicode_utf8_first : DataW Unit := Go.Pinned.utf8First

/-- 'voussoirlaw25.ConflictResults': WHATEVER THE INPUT: true; the input reads as it did. -/
def conflictResultsSpec : ChangeSpec := { name := "conflictResults", fn := fun _ => fun
  | [d1, d2] => { results := [.lit (.bool true)], args := [d1, d2] }
  | _ => none }
def conflictResultsRow : OpenClaim := { program := "ytehlcdinedflkaagreatdoor", sum := "c5d501bf58c6a988ae0a70bf620133b6d8e6ebdeeec93825d125232d5a8baad9", func := "voussoir/voussoirlaw25.ConflictResults", spec := "conflictResults", inPlace := ["internal/bytealg.IndexByteString", "internal/bytealg.IndexString"], unfollowed := true, recurses := true, named := ["unicode/utf8.first", "unicode/utf8.acceptRanges", "math/bits.overflowError", "internal/bytealg.MaxLen"], apart := false, laid := [("unicode/utf8.acceptRanges", laid_unicode_utf8_acceptRanges), ("unicode/utf8.first", laid_unicode_utf8_first)] }
def ConflictResultsSaid : Prop := conflictResultsRow.holds Tryz.pinned (OpenSpec.ofChange conflictResultsSpec)

/-- ITS FALSE NEIGHBOUR: 'it returns false'. Refute it at one input. -/
def conflictResultsWrong : ChangeSpec := { name := "conflictResults", fn := fun _ => fun
  | [d1, d2] => { results := [.lit (.bool false)], args := [d1, d2] }
  | _ => none }
def ConflictResultsWrongFalsely : Prop := conflictResultsRow.holds Tryz.pinned (OpenSpec.ofChange conflictResultsWrong)

/-- 'voussoirlaw25.ConflictMinimal': WHATEVER THE INPUT: true; the input reads as it did. -/
def conflictMinimalSpec : ChangeSpec := { name := "conflictMinimal", fn := fun _ => fun
  | [d1, d2] => { results := [.lit (.bool true)], args := [d1, d2] }
  | _ => none }
def conflictMinimalRow : OpenClaim := { program := "ytehlcdinedflkaagreatdoor", sum := "c5d501bf58c6a988ae0a70bf620133b6d8e6ebdeeec93825d125232d5a8baad9", func := "voussoir/voussoirlaw25.ConflictMinimal", spec := "conflictMinimal", inPlace := ["internal/bytealg.IndexByteString", "internal/bytealg.IndexString"], unfollowed := true, recurses := true, named := ["unicode/utf8.first", "unicode/utf8.acceptRanges", "math/bits.overflowError", "internal/bytealg.MaxLen"], apart := false, laid := [("unicode/utf8.acceptRanges", laid_unicode_utf8_acceptRanges), ("unicode/utf8.first", laid_unicode_utf8_first)] }
def ConflictMinimalSaid : Prop := conflictMinimalRow.holds Tryz.pinned (OpenSpec.ofChange conflictMinimalSpec)

/-- ITS FALSE NEIGHBOUR: 'it returns false'. Refute it at one input. -/
def conflictMinimalWrong : ChangeSpec := { name := "conflictMinimal", fn := fun _ => fun
  | [d1, d2] => { results := [.lit (.bool false)], args := [d1, d2] }
  | _ => none }
def ConflictMinimalWrongFalsely : Prop := conflictMinimalRow.holds Tryz.pinned (OpenSpec.ofChange conflictMinimalWrong)

/-- 'voussoirlaw25.ConflictBound': WHATEVER THE INPUT: true; the input reads as it did. -/
def conflictBoundSpec : ChangeSpec := { name := "conflictBound", fn := fun _ => fun
  | [d1, d2, d3] => { results := [.lit (.bool true)], args := [d1, d2, d3] }
  | _ => none }
def conflictBoundRow : OpenClaim := { program := "ytehlcdinedflkaagreatdoor", sum := "c5d501bf58c6a988ae0a70bf620133b6d8e6ebdeeec93825d125232d5a8baad9", func := "voussoir/voussoirlaw25.ConflictBound", spec := "conflictBound", inPlace := ["internal/bytealg.IndexByteString", "internal/bytealg.IndexString"], unfollowed := true, recurses := true, named := ["unicode/utf8.first", "unicode/utf8.acceptRanges", "math/bits.overflowError", "internal/bytealg.MaxLen"], apart := false, laid := [("unicode/utf8.acceptRanges", laid_unicode_utf8_acceptRanges), ("unicode/utf8.first", laid_unicode_utf8_first)] }
def ConflictBoundSaid : Prop := conflictBoundRow.holds Tryz.pinned (OpenSpec.ofChange conflictBoundSpec)

/-- ITS FALSE NEIGHBOUR: 'it returns false'. Refute it at one input. -/
def conflictBoundWrong : ChangeSpec := { name := "conflictBound", fn := fun _ => fun
  | [d1, d2, d3] => { results := [.lit (.bool false)], args := [d1, d2, d3] }
  | _ => none }
def ConflictBoundWrongFalsely : Prop := conflictBoundRow.holds Tryz.pinned (OpenSpec.ofChange conflictBoundWrong)

/-- 'voussoirlaw25.ConflictDuplicates': WHATEVER THE INPUT: true; the input reads as it did. -/
def conflictDuplicatesSpec : ChangeSpec := { name := "conflictDuplicates", fn := fun _ => fun
  | [d1, d2, d3] => { results := [.lit (.bool true)], args := [d1, d2, d3] }
  | _ => none }
def conflictDuplicatesRow : OpenClaim := { program := "ytehlcdinedflkaagreatdoor", sum := "c5d501bf58c6a988ae0a70bf620133b6d8e6ebdeeec93825d125232d5a8baad9", func := "voussoir/voussoirlaw25.ConflictDuplicates", spec := "conflictDuplicates", inPlace := ["internal/bytealg.IndexByteString", "internal/bytealg.IndexString"], unfollowed := true, recurses := true, named := ["unicode/utf8.first", "unicode/utf8.acceptRanges", "math/bits.overflowError", "internal/bytealg.MaxLen"], apart := false, laid := [("unicode/utf8.acceptRanges", laid_unicode_utf8_acceptRanges), ("unicode/utf8.first", laid_unicode_utf8_first)] }
def ConflictDuplicatesSaid : Prop := conflictDuplicatesRow.holds Tryz.pinned (OpenSpec.ofChange conflictDuplicatesSpec)

/-- ITS FALSE NEIGHBOUR: 'it returns false'. Refute it at one input. -/
def conflictDuplicatesWrong : ChangeSpec := { name := "conflictDuplicates", fn := fun _ => fun
  | [d1, d2, d3] => { results := [.lit (.bool false)], args := [d1, d2, d3] }
  | _ => none }
def ConflictDuplicatesWrongFalsely : Prop := conflictDuplicatesRow.holds Tryz.pinned (OpenSpec.ofChange conflictDuplicatesWrong)

/-- 'voussoirlaw25.ConflictScaling': WHATEVER THE INPUT: true; the input reads as it did. -/
def conflictScalingSpec : ChangeSpec := { name := "conflictScaling", fn := fun _ => fun
  | [d1, d2, d3] => { results := [.lit (.bool true)], args := [d1, d2, d3] }
  | _ => none }
def conflictScalingRow : OpenClaim := { program := "ytehlcdinedflkaagreatdoor", sum := "c5d501bf58c6a988ae0a70bf620133b6d8e6ebdeeec93825d125232d5a8baad9", func := "voussoir/voussoirlaw25.ConflictScaling", spec := "conflictScaling", inPlace := ["internal/bytealg.IndexByteString", "internal/bytealg.IndexString"], unfollowed := true, recurses := true, named := ["unicode/utf8.first", "unicode/utf8.acceptRanges", "math/bits.overflowError", "internal/bytealg.MaxLen"], apart := false, laid := [("unicode/utf8.acceptRanges", laid_unicode_utf8_acceptRanges), ("unicode/utf8.first", laid_unicode_utf8_first)] }
def ConflictScalingSaid : Prop := conflictScalingRow.holds Tryz.pinned (OpenSpec.ofChange conflictScalingSpec)

/-- ITS FALSE NEIGHBOUR: 'it returns false'. Refute it at one input. -/
def conflictScalingWrong : ChangeSpec := { name := "conflictScaling", fn := fun _ => fun
  | [d1, d2, d3] => { results := [.lit (.bool false)], args := [d1, d2, d3] }
  | _ => none }
def ConflictScalingWrongFalsely : Prop := conflictScalingRow.holds Tryz.pinned (OpenSpec.ofChange conflictScalingWrong)

/-- 'voussoirlaw25.ConflictRedundant': WHATEVER THE INPUT: true; the input reads as it did. -/
def conflictRedundantSpec : ChangeSpec := { name := "conflictRedundant", fn := fun _ => fun
  | [d1, d2] => { results := [.lit (.bool true)], args := [d1, d2] }
  | _ => none }
def conflictRedundantRow : OpenClaim := { program := "ytehlcdinedflkaagreatdoor", sum := "c5d501bf58c6a988ae0a70bf620133b6d8e6ebdeeec93825d125232d5a8baad9", func := "voussoir/voussoirlaw25.ConflictRedundant", spec := "conflictRedundant", inPlace := ["internal/bytealg.IndexByteString", "internal/bytealg.IndexString"], unfollowed := true, recurses := true, named := ["unicode/utf8.first", "unicode/utf8.acceptRanges", "math/bits.overflowError", "internal/bytealg.MaxLen"], apart := false, laid := [("unicode/utf8.acceptRanges", laid_unicode_utf8_acceptRanges), ("unicode/utf8.first", laid_unicode_utf8_first)] }
def ConflictRedundantSaid : Prop := conflictRedundantRow.holds Tryz.pinned (OpenSpec.ofChange conflictRedundantSpec)

/-- ITS FALSE NEIGHBOUR: 'it returns false'. Refute it at one input. -/
def conflictRedundantWrong : ChangeSpec := { name := "conflictRedundant", fn := fun _ => fun
  | [d1, d2] => { results := [.lit (.bool false)], args := [d1, d2] }
  | _ => none }
def ConflictRedundantWrongFalsely : Prop := conflictRedundantRow.holds Tryz.pinned (OpenSpec.ofChange conflictRedundantWrong)

/- THE SECOND FORM. 'bulk': how many values and letters a reading holds, each counted each time it is reached (what is shared counts as often as it is met; a slice's spare places count too). A statement '..UptoSaid' is the law's where the arguments, and the package variables that the reading takes, are together of bulk at most 1048576: NARROWER than '..Said'. Prove '..Said' where nothing that the law and all that it calls make is longer than what came in: it says more and counts as full. Else prove '..UptoSaid'. A law counts once. -/
mutual
def uptoBulk {H : Type} : DataW H → Nat
  | .lit (.string bytes) => bytes.length + 1
  | .lit _ => 1
  | .nil => 1
  | .ptr d => uptoBulk d + 1
  | .slice elems spare => uptoBulkAll elems + uptoBulkAll spare + 1
  | .agg parts => uptoBulkAll parts + 1
  | .iface _ d => uptoBulk d + 1
  | .map entries => uptoBulkEntries entries + 1
  | .held _ => 1
def uptoBulkAll {H : Type} : List (DataW H) → Nat
  | [] => 0
  | d :: r => uptoBulk d + uptoBulkAll r
def uptoBulkEntries {H : Type} : List (Lit × DataW H) → Nat
  | [] => 0
  | x :: r => uptoBulkEntry x + uptoBulkEntries r
def uptoBulkEntry {H : Type} : Lit × DataW H → Nat
  | (.string bytes, d) => bytes.length + uptoBulk d + 1
  | (_, d) => uptoBulk d + 1
 end
def uptoSmall : (H : Type) → List (DataW H) → Bool := fun _ ds => decide (uptoBulkAll ds ≤ 1048576)
def OpenSpec.upto (s : _root_.Go.ChangeSpec) : _root_.Go.OpenSpec := { _root_.Go.OpenSpec.ofChange s with cond := some uptoSmall }

/-- 'voussoirlaw25.ConflictResults', WHERE WHAT IT READS IS OF BULK AT MOST 1048576: true; the input reads as it did. -/
def conflictResultsUptoRow : OpenClaim := { program := "ytehlcdinedflkaagreatdoor", sum := "c5d501bf58c6a988ae0a70bf620133b6d8e6ebdeeec93825d125232d5a8baad9", func := "voussoir/voussoirlaw25.ConflictResults", spec := "conflictResults", inPlace := ["internal/bytealg.IndexByteString", "internal/bytealg.IndexString"], unfollowed := true, recurses := true, named := ["unicode/utf8.first", "unicode/utf8.acceptRanges", "math/bits.overflowError", "internal/bytealg.MaxLen"], apart := false, laid := [("unicode/utf8.acceptRanges", laid_unicode_utf8_acceptRanges), ("unicode/utf8.first", laid_unicode_utf8_first)], narrowed := true }
def ConflictResultsUptoSaid : Prop := conflictResultsUptoRow.holds Tryz.pinned (OpenSpec.upto conflictResultsSpec)

/-- 'voussoirlaw25.ConflictMinimal', WHERE WHAT IT READS IS OF BULK AT MOST 1048576: true; the input reads as it did. -/
def conflictMinimalUptoRow : OpenClaim := { program := "ytehlcdinedflkaagreatdoor", sum := "c5d501bf58c6a988ae0a70bf620133b6d8e6ebdeeec93825d125232d5a8baad9", func := "voussoir/voussoirlaw25.ConflictMinimal", spec := "conflictMinimal", inPlace := ["internal/bytealg.IndexByteString", "internal/bytealg.IndexString"], unfollowed := true, recurses := true, named := ["unicode/utf8.first", "unicode/utf8.acceptRanges", "math/bits.overflowError", "internal/bytealg.MaxLen"], apart := false, laid := [("unicode/utf8.acceptRanges", laid_unicode_utf8_acceptRanges), ("unicode/utf8.first", laid_unicode_utf8_first)], narrowed := true }
def ConflictMinimalUptoSaid : Prop := conflictMinimalUptoRow.holds Tryz.pinned (OpenSpec.upto conflictMinimalSpec)

/-- 'voussoirlaw25.ConflictBound', WHERE WHAT IT READS IS OF BULK AT MOST 1048576: true; the input reads as it did. -/
def conflictBoundUptoRow : OpenClaim := { program := "ytehlcdinedflkaagreatdoor", sum := "c5d501bf58c6a988ae0a70bf620133b6d8e6ebdeeec93825d125232d5a8baad9", func := "voussoir/voussoirlaw25.ConflictBound", spec := "conflictBound", inPlace := ["internal/bytealg.IndexByteString", "internal/bytealg.IndexString"], unfollowed := true, recurses := true, named := ["unicode/utf8.first", "unicode/utf8.acceptRanges", "math/bits.overflowError", "internal/bytealg.MaxLen"], apart := false, laid := [("unicode/utf8.acceptRanges", laid_unicode_utf8_acceptRanges), ("unicode/utf8.first", laid_unicode_utf8_first)], narrowed := true }
def ConflictBoundUptoSaid : Prop := conflictBoundUptoRow.holds Tryz.pinned (OpenSpec.upto conflictBoundSpec)

/-- 'voussoirlaw25.ConflictDuplicates', WHERE WHAT IT READS IS OF BULK AT MOST 1048576: true; the input reads as it did. -/
def conflictDuplicatesUptoRow : OpenClaim := { program := "ytehlcdinedflkaagreatdoor", sum := "c5d501bf58c6a988ae0a70bf620133b6d8e6ebdeeec93825d125232d5a8baad9", func := "voussoir/voussoirlaw25.ConflictDuplicates", spec := "conflictDuplicates", inPlace := ["internal/bytealg.IndexByteString", "internal/bytealg.IndexString"], unfollowed := true, recurses := true, named := ["unicode/utf8.first", "unicode/utf8.acceptRanges", "math/bits.overflowError", "internal/bytealg.MaxLen"], apart := false, laid := [("unicode/utf8.acceptRanges", laid_unicode_utf8_acceptRanges), ("unicode/utf8.first", laid_unicode_utf8_first)], narrowed := true }
def ConflictDuplicatesUptoSaid : Prop := conflictDuplicatesUptoRow.holds Tryz.pinned (OpenSpec.upto conflictDuplicatesSpec)

/-- 'voussoirlaw25.ConflictScaling', WHERE WHAT IT READS IS OF BULK AT MOST 1048576: true; the input reads as it did. -/
def conflictScalingUptoRow : OpenClaim := { program := "ytehlcdinedflkaagreatdoor", sum := "c5d501bf58c6a988ae0a70bf620133b6d8e6ebdeeec93825d125232d5a8baad9", func := "voussoir/voussoirlaw25.ConflictScaling", spec := "conflictScaling", inPlace := ["internal/bytealg.IndexByteString", "internal/bytealg.IndexString"], unfollowed := true, recurses := true, named := ["unicode/utf8.first", "unicode/utf8.acceptRanges", "math/bits.overflowError", "internal/bytealg.MaxLen"], apart := false, laid := [("unicode/utf8.acceptRanges", laid_unicode_utf8_acceptRanges), ("unicode/utf8.first", laid_unicode_utf8_first)], narrowed := true }
def ConflictScalingUptoSaid : Prop := conflictScalingUptoRow.holds Tryz.pinned (OpenSpec.upto conflictScalingSpec)

/-- 'voussoirlaw25.ConflictRedundant', WHERE WHAT IT READS IS OF BULK AT MOST 1048576: true; the input reads as it did. -/
def conflictRedundantUptoRow : OpenClaim := { program := "ytehlcdinedflkaagreatdoor", sum := "c5d501bf58c6a988ae0a70bf620133b6d8e6ebdeeec93825d125232d5a8baad9", func := "voussoir/voussoirlaw25.ConflictRedundant", spec := "conflictRedundant", inPlace := ["internal/bytealg.IndexByteString", "internal/bytealg.IndexString"], unfollowed := true, recurses := true, named := ["unicode/utf8.first", "unicode/utf8.acceptRanges", "math/bits.overflowError", "internal/bytealg.MaxLen"], apart := false, laid := [("unicode/utf8.acceptRanges", laid_unicode_utf8_acceptRanges), ("unicode/utf8.first", laid_unicode_utf8_first)], narrowed := true }
def ConflictRedundantUptoSaid : Prop := conflictRedundantUptoRow.holds Tryz.pinned (OpenSpec.upto conflictRedundantSpec)

end Rows
end Go.Proofs.YtehlcdinedflkaaGreatDoor
