/-
  NARROWER THAN 'FOR EVERY INPUT', by the rows' own cells (each row's printed sentence says how): PolygonChecks: laid · PolygonSplits: laid · PolygonResplit: laid · PolygonParts: laid · PolygonQueries: laid · PolygonValidity: laid.
  DERIVED. THE GIVEN ROWS OF THIS SEAT. 6 by the template 'for every input the law returns true; each argument reads behind the call as it read before'; 0 by the template 'total and deterministic' (their statements: YtoechehmflcnkaaGreatDoorTotals.lean).
  GIVEN WITH THE SEED: the statements are not yours to turn. If you find one false, say at which input.
  Laid BY PROGRAM, IN A SANDBOX (cutbox-rows.mjs): the forced cells as the released guide's own fill.sh prints them over the translation 9b0de0d5fdd31d2a… (all of the seat's roots in one cut). By AI agents, Wed Nov 11 2026. No macro, syntax, notation, axiom, sorry.
-/
import Derived.Test.YtoechehmflcnkaaGreatDoorChecked
import GoSem.PinnedTables
import GoSem.Claim
import GoSem.ClaimJoined
import GoSem.ClaimMapViews
import Derived.JoinedTies
import Derived.KernelRfl
namespace Go.Proofs.YtoechehmflcnkaaGreatDoor
/- THE CELL 'sum', in the pinned program and in every row, IS THE sha256 OF THE DUMP (.gsa) THAT YtoechehmflcnkaaGreatDoorProg.lean LOADS. Nothing in Lean hashes anything: it is a label: what it is worth is what the hold of that sum in a sandbox is worth. -/
noncomputable def Tryz.pinned : Pinned := { name := "ytoechehmflcnkaagreatdoor", sum := "9b0de0d5fdd31d2a0c905b2b4e756864a2d75e6acef0ff986278fc7ea60902fb", checked := Tryz.checked }
namespace Rows
def none {H : Type} : Left H := { results := [], args := [] }

/- WHAT THE LISTED PACKAGE-LEVEL VARIABLES READ AS WHEN THE CALL BEGINS. Each datum BY PROGRAM (the guide's laid-datum.mjs) off the statement by which the dump's own 'gosem.cut.vars' lays the variable. In a bare row this is a premise. The card (YtoechehmflcnkaaGreatDoorCards.lean) ties it to the program's text. -/
def laid_unicode_utf8_acceptRanges {H : Type} : DataW H := .agg [.agg [.lit (.int .u8 128), .lit (.int .u8 191)], .agg [.lit (.int .u8 160), .lit (.int .u8 191)], .agg [.lit (.int .u8 128), .lit (.int .u8 159)], .agg [.lit (.int .u8 144), .lit (.int .u8 191)], .agg [.lit (.int .u8 128), .lit (.int .u8 143)], .agg [.lit (.int .u8 0), .lit (.int .u8 0)], .agg [.lit (.int .u8 0), .lit (.int .u8 0)], .agg [.lit (.int .u8 0), .lit (.int .u8 0)], .agg [.lit (.int .u8 0), .lit (.int .u8 0)], .agg [.lit (.int .u8 0), .lit (.int .u8 0)], .agg [.lit (.int .u8 0), .lit (.int .u8 0)], .agg [.lit (.int .u8 0), .lit (.int .u8 0)], .agg [.lit (.int .u8 0), .lit (.int .u8 0)], .agg [.lit (.int .u8 0), .lit (.int .u8 0)], .agg [.lit (.int .u8 0), .lit (.int .u8 0)], .agg [.lit (.int .u8 0), .lit (.int .u8 0)]]
/-- One of Go's own tables, pinned by name: the form's constant. -/
def laid_unicode_utf8_first : DataW Unit := Go.Pinned.utf8First

/-- 'voussoirlaw08.PolygonChecks': WHATEVER THE INPUT: true; the input reads as it did. -/
def polygonChecksSpec : ChangeSpec := { name := "polygonChecks", fn := fun _ => fun
  | [d] => { results := [.lit (.bool true)], args := [d] }
  | _ => none }
def polygonChecksRow : OpenClaim := { program := "ytoechehmflcnkaagreatdoor", sum := "9b0de0d5fdd31d2a0c905b2b4e756864a2d75e6acef0ff986278fc7ea60902fb", func := "voussoir/voussoirlaw08.PolygonChecks", spec := "polygonChecks", inPlace := ["internal/bytealg.IndexByteString", "internal/bytealg.IndexString"], unfollowed := true, recurses := true, named := ["unicode/utf8.first", "unicode/utf8.acceptRanges", "math/bits.overflowError", "internal/bytealg.MaxLen"], apart := false, laid := [("unicode/utf8.acceptRanges", laid_unicode_utf8_acceptRanges), ("unicode/utf8.first", laid_unicode_utf8_first)] }
def PolygonChecksSaid : Prop := polygonChecksRow.holds Tryz.pinned (OpenSpec.ofChange polygonChecksSpec)

/-- ITS FALSE NEIGHBOUR: 'it returns false'. Refute it at one input. -/
def polygonChecksWrong : ChangeSpec := { name := "polygonChecks", fn := fun _ => fun
  | [d] => { results := [.lit (.bool false)], args := [d] }
  | _ => none }
def PolygonChecksWrongFalsely : Prop := polygonChecksRow.holds Tryz.pinned (OpenSpec.ofChange polygonChecksWrong)

/-- 'voussoirlaw08.PolygonSplits': WHATEVER THE INPUT: true; the input reads as it did. -/
def polygonSplitsSpec : ChangeSpec := { name := "polygonSplits", fn := fun _ => fun
  | [d1, d2] => { results := [.lit (.bool true)], args := [d1, d2] }
  | _ => none }
def polygonSplitsRow : OpenClaim := { program := "ytoechehmflcnkaagreatdoor", sum := "9b0de0d5fdd31d2a0c905b2b4e756864a2d75e6acef0ff986278fc7ea60902fb", func := "voussoir/voussoirlaw08.PolygonSplits", spec := "polygonSplits", inPlace := ["internal/bytealg.IndexByteString", "internal/bytealg.IndexString"], unfollowed := true, recurses := true, named := ["unicode/utf8.first", "unicode/utf8.acceptRanges", "math/bits.overflowError", "internal/bytealg.MaxLen"], apart := false, laid := [("unicode/utf8.acceptRanges", laid_unicode_utf8_acceptRanges), ("unicode/utf8.first", laid_unicode_utf8_first)] }
def PolygonSplitsSaid : Prop := polygonSplitsRow.holds Tryz.pinned (OpenSpec.ofChange polygonSplitsSpec)

/-- ITS FALSE NEIGHBOUR: 'it returns false'. Refute it at one input. -/
def polygonSplitsWrong : ChangeSpec := { name := "polygonSplits", fn := fun _ => fun
  | [d1, d2] => { results := [.lit (.bool false)], args := [d1, d2] }
  | _ => none }
def PolygonSplitsWrongFalsely : Prop := polygonSplitsRow.holds Tryz.pinned (OpenSpec.ofChange polygonSplitsWrong)

/-- 'voussoirlaw08.PolygonResplit': WHATEVER THE INPUT: true; the input reads as it did. -/
def polygonResplitSpec : ChangeSpec := { name := "polygonResplit", fn := fun _ => fun
  | [d1, d2] => { results := [.lit (.bool true)], args := [d1, d2] }
  | _ => none }
def polygonResplitRow : OpenClaim := { program := "ytoechehmflcnkaagreatdoor", sum := "9b0de0d5fdd31d2a0c905b2b4e756864a2d75e6acef0ff986278fc7ea60902fb", func := "voussoir/voussoirlaw08.PolygonResplit", spec := "polygonResplit", inPlace := ["internal/bytealg.IndexByteString", "internal/bytealg.IndexString"], unfollowed := true, recurses := true, named := ["unicode/utf8.first", "unicode/utf8.acceptRanges", "math/bits.overflowError", "internal/bytealg.MaxLen"], apart := false, laid := [("unicode/utf8.acceptRanges", laid_unicode_utf8_acceptRanges), ("unicode/utf8.first", laid_unicode_utf8_first)] }
def PolygonResplitSaid : Prop := polygonResplitRow.holds Tryz.pinned (OpenSpec.ofChange polygonResplitSpec)

/-- ITS FALSE NEIGHBOUR: 'it returns false'. Refute it at one input. -/
def polygonResplitWrong : ChangeSpec := { name := "polygonResplit", fn := fun _ => fun
  | [d1, d2] => { results := [.lit (.bool false)], args := [d1, d2] }
  | _ => none }
def PolygonResplitWrongFalsely : Prop := polygonResplitRow.holds Tryz.pinned (OpenSpec.ofChange polygonResplitWrong)

/-- 'voussoirlaw08.PolygonParts': WHATEVER THE INPUT: true; the input reads as it did. -/
def polygonPartsSpec : ChangeSpec := { name := "polygonParts", fn := fun _ => fun
  | [d1, d2, d3] => { results := [.lit (.bool true)], args := [d1, d2, d3] }
  | _ => none }
def polygonPartsRow : OpenClaim := { program := "ytoechehmflcnkaagreatdoor", sum := "9b0de0d5fdd31d2a0c905b2b4e756864a2d75e6acef0ff986278fc7ea60902fb", func := "voussoir/voussoirlaw08.PolygonParts", spec := "polygonParts", inPlace := ["internal/bytealg.IndexByteString", "internal/bytealg.IndexString"], unfollowed := true, recurses := true, named := ["unicode/utf8.first", "unicode/utf8.acceptRanges", "math/bits.overflowError", "internal/bytealg.MaxLen"], apart := false, laid := [("unicode/utf8.acceptRanges", laid_unicode_utf8_acceptRanges), ("unicode/utf8.first", laid_unicode_utf8_first)] }
def PolygonPartsSaid : Prop := polygonPartsRow.holds Tryz.pinned (OpenSpec.ofChange polygonPartsSpec)

/-- ITS FALSE NEIGHBOUR: 'it returns false'. Refute it at one input. -/
def polygonPartsWrong : ChangeSpec := { name := "polygonParts", fn := fun _ => fun
  | [d1, d2, d3] => { results := [.lit (.bool false)], args := [d1, d2, d3] }
  | _ => none }
def PolygonPartsWrongFalsely : Prop := polygonPartsRow.holds Tryz.pinned (OpenSpec.ofChange polygonPartsWrong)

/-- 'voussoirlaw08.PolygonQueries': WHATEVER THE INPUT: true; the input reads as it did. -/
def polygonQueriesSpec : ChangeSpec := { name := "polygonQueries", fn := fun _ => fun
  | [d1, d2] => { results := [.lit (.bool true)], args := [d1, d2] }
  | _ => none }
def polygonQueriesRow : OpenClaim := { program := "ytoechehmflcnkaagreatdoor", sum := "9b0de0d5fdd31d2a0c905b2b4e756864a2d75e6acef0ff986278fc7ea60902fb", func := "voussoir/voussoirlaw08.PolygonQueries", spec := "polygonQueries", inPlace := ["internal/bytealg.IndexByteString", "internal/bytealg.IndexString"], unfollowed := true, recurses := true, named := ["unicode/utf8.first", "unicode/utf8.acceptRanges", "math/bits.overflowError", "internal/bytealg.MaxLen"], apart := false, laid := [("unicode/utf8.acceptRanges", laid_unicode_utf8_acceptRanges), ("unicode/utf8.first", laid_unicode_utf8_first)] }
def PolygonQueriesSaid : Prop := polygonQueriesRow.holds Tryz.pinned (OpenSpec.ofChange polygonQueriesSpec)

/-- ITS FALSE NEIGHBOUR: 'it returns false'. Refute it at one input. -/
def polygonQueriesWrong : ChangeSpec := { name := "polygonQueries", fn := fun _ => fun
  | [d1, d2] => { results := [.lit (.bool false)], args := [d1, d2] }
  | _ => none }
def PolygonQueriesWrongFalsely : Prop := polygonQueriesRow.holds Tryz.pinned (OpenSpec.ofChange polygonQueriesWrong)

/-- 'voussoirlaw08.PolygonValidity': WHATEVER THE INPUT: true; the input reads as it did. -/
def polygonValiditySpec : ChangeSpec := { name := "polygonValidity", fn := fun _ => fun
  | [d1, d2] => { results := [.lit (.bool true)], args := [d1, d2] }
  | _ => none }
def polygonValidityRow : OpenClaim := { program := "ytoechehmflcnkaagreatdoor", sum := "9b0de0d5fdd31d2a0c905b2b4e756864a2d75e6acef0ff986278fc7ea60902fb", func := "voussoir/voussoirlaw08.PolygonValidity", spec := "polygonValidity", inPlace := ["internal/bytealg.IndexByteString", "internal/bytealg.IndexString"], unfollowed := true, recurses := true, named := ["unicode/utf8.first", "unicode/utf8.acceptRanges", "math/bits.overflowError", "internal/bytealg.MaxLen"], apart := false, laid := [("unicode/utf8.acceptRanges", laid_unicode_utf8_acceptRanges), ("unicode/utf8.first", laid_unicode_utf8_first)] }
def PolygonValiditySaid : Prop := polygonValidityRow.holds Tryz.pinned (OpenSpec.ofChange polygonValiditySpec)

/-- ITS FALSE NEIGHBOUR: 'it returns false'. Refute it at one input. -/
def polygonValidityWrong : ChangeSpec := { name := "polygonValidity", fn := fun _ => fun
  | [d1, d2] => { results := [.lit (.bool false)], args := [d1, d2] }
  | _ => none }
def PolygonValidityWrongFalsely : Prop := polygonValidityRow.holds Tryz.pinned (OpenSpec.ofChange polygonValidityWrong)

/- THE SECOND FORM. 'bulk': how many values and letters a reading holds, each counted each time it is reached (what is shared counts as often as it is met; a slice's spare places count too). A statement '..UptoSaid' is the law's where the arguments, and the package variables that the reading takes, are together of bulk at most 1048576: NARROWER than '..Said'. Prove '..Said' where nothing that the law and all that it calls make is longer than what came in: it says more and counts as full. Else prove '..UptoSaid'. A law counts once. -/
mutual
def uptoBulk {H : Type} : DataW H → Nat
  | .lit (.string bytes) => bytes.length + 1
  | .lit _ => 1
  | .nil => 1
  | .ptr d => uptoBulk d + 1
  | .slice elems spare => uptoBulkAll elems + uptoBulkAll spare + 1
  | .agg parts => uptoBulkAll parts + 1
  | .iface _ d => uptoBulk d + 1
  | .map entries => uptoBulkEntries entries + 1
  | .held _ => 1
def uptoBulkAll {H : Type} : List (DataW H) → Nat
  | [] => 0
  | d :: r => uptoBulk d + uptoBulkAll r
def uptoBulkEntries {H : Type} : List (Lit × DataW H) → Nat
  | [] => 0
  | x :: r => uptoBulkEntry x + uptoBulkEntries r
def uptoBulkEntry {H : Type} : Lit × DataW H → Nat
  | (.string bytes, d) => bytes.length + uptoBulk d + 1
  | (_, d) => uptoBulk d + 1
 end
def uptoSmall : (H : Type) → List (DataW H) → Bool := fun _ ds => decide (uptoBulkAll ds ≤ 1048576)
def OpenSpec.upto (s : _root_.Go.ChangeSpec) : _root_.Go.OpenSpec := { _root_.Go.OpenSpec.ofChange s with cond := some uptoSmall }

/-- 'voussoirlaw08.PolygonChecks', WHERE WHAT IT READS IS OF BULK AT MOST 1048576: true; the input reads as it did. -/
def polygonChecksUptoRow : OpenClaim := { program := "ytoechehmflcnkaagreatdoor", sum := "9b0de0d5fdd31d2a0c905b2b4e756864a2d75e6acef0ff986278fc7ea60902fb", func := "voussoir/voussoirlaw08.PolygonChecks", spec := "polygonChecks", inPlace := ["internal/bytealg.IndexByteString", "internal/bytealg.IndexString"], unfollowed := true, recurses := true, named := ["unicode/utf8.first", "unicode/utf8.acceptRanges", "math/bits.overflowError", "internal/bytealg.MaxLen"], apart := false, laid := [("unicode/utf8.acceptRanges", laid_unicode_utf8_acceptRanges), ("unicode/utf8.first", laid_unicode_utf8_first)], narrowed := true }
def PolygonChecksUptoSaid : Prop := polygonChecksUptoRow.holds Tryz.pinned (OpenSpec.upto polygonChecksSpec)

/-- 'voussoirlaw08.PolygonSplits', WHERE WHAT IT READS IS OF BULK AT MOST 1048576: true; the input reads as it did. -/
def polygonSplitsUptoRow : OpenClaim := { program := "ytoechehmflcnkaagreatdoor", sum := "9b0de0d5fdd31d2a0c905b2b4e756864a2d75e6acef0ff986278fc7ea60902fb", func := "voussoir/voussoirlaw08.PolygonSplits", spec := "polygonSplits", inPlace := ["internal/bytealg.IndexByteString", "internal/bytealg.IndexString"], unfollowed := true, recurses := true, named := ["unicode/utf8.first", "unicode/utf8.acceptRanges", "math/bits.overflowError", "internal/bytealg.MaxLen"], apart := false, laid := [("unicode/utf8.acceptRanges", laid_unicode_utf8_acceptRanges), ("unicode/utf8.first", laid_unicode_utf8_first)], narrowed := true }
def PolygonSplitsUptoSaid : Prop := polygonSplitsUptoRow.holds Tryz.pinned (OpenSpec.upto polygonSplitsSpec)

/-- 'voussoirlaw08.PolygonResplit', WHERE WHAT IT READS IS OF BULK AT MOST 1048576: true; the input reads as it did. -/
def polygonResplitUptoRow : OpenClaim := { program := "ytoechehmflcnkaagreatdoor", sum := "9b0de0d5fdd31d2a0c905b2b4e756864a2d75e6acef0ff986278fc7ea60902fb", func := "voussoir/voussoirlaw08.PolygonResplit", spec := "polygonResplit", inPlace := ["internal/bytealg.IndexByteString", "internal/bytealg.IndexString"], unfollowed := true, recurses := true, named := ["unicode/utf8.first", "unicode/utf8.acceptRanges", "math/bits.overflowError", "internal/bytealg.MaxLen"], apart := false, laid := [("unicode/utf8.acceptRanges", laid_unicode_utf8_acceptRanges), ("unicode/utf8.first", laid_unicode_utf8_first)], narrowed := true }
def PolygonResplitUptoSaid : Prop := polygonResplitUptoRow.holds Tryz.pinned (OpenSpec.upto polygonResplitSpec)

/-- 'voussoirlaw08.PolygonParts', WHERE WHAT IT READS IS OF BULK AT MOST 1048576: true; the input reads as it did. -/
def polygonPartsUptoRow : OpenClaim := { program := "ytoechehmflcnkaagreatdoor", sum := "9b0de0d5fdd31d2a0c905b2b4e756864a2d75e6acef0ff986278fc7ea60902fb", func := "voussoir/voussoirlaw08.PolygonParts", spec := "polygonParts", inPlace := ["internal/bytealg.IndexByteString", "internal/bytealg.IndexString"], unfollowed := true, recurses := true, named := ["unicode/utf8.first", "unicode/utf8.acceptRanges", "math/bits.overflowError", "internal/bytealg.MaxLen"], apart := false, laid := [("unicode/utf8.acceptRanges", laid_unicode_utf8_acceptRanges), ("unicode/utf8.first", laid_unicode_utf8_first)], narrowed := true }
def PolygonPartsUptoSaid : Prop := polygonPartsUptoRow.holds Tryz.pinned (OpenSpec.upto polygonPartsSpec)

/-- 'voussoirlaw08.PolygonQueries', WHERE WHAT IT READS IS OF BULK AT MOST 1048576: true; the input reads as it did. -/
def polygonQueriesUptoRow : OpenClaim := { program := "ytoechehmflcnkaagreatdoor", sum := "9b0de0d5fdd31d2a0c905b2b4e756864a2d75e6acef0ff986278fc7ea60902fb", func := "voussoir/voussoirlaw08.PolygonQueries", spec := "polygonQueries", inPlace := ["internal/bytealg.IndexByteString", "internal/bytealg.IndexString"], unfollowed := true, recurses := true, named := ["unicode/utf8.first", "unicode/utf8.acceptRanges", "math/bits.overflowError", "internal/bytealg.MaxLen"], apart := false, laid := [("unicode/utf8.acceptRanges", laid_unicode_utf8_acceptRanges), ("unicode/utf8.first", laid_unicode_utf8_first)], narrowed := true }
def PolygonQueriesUptoSaid : Prop := polygonQueriesUptoRow.holds Tryz.pinned (OpenSpec.upto polygonQueriesSpec)

/-- 'voussoirlaw08.PolygonValidity', WHERE WHAT IT READS IS OF BULK AT MOST 1048576: true; the input reads as it did. -/
def polygonValidityUptoRow : OpenClaim := { program := "ytoechehmflcnkaagreatdoor", sum := "9b0de0d5fdd31d2a0c905b2b4e756864a2d75e6acef0ff986278fc7ea60902fb", func := "voussoir/voussoirlaw08.PolygonValidity", spec := "polygonValidity", inPlace := ["internal/bytealg.IndexByteString", "internal/bytealg.IndexString"], unfollowed := true, recurses := true, named := ["unicode/utf8.first", "unicode/utf8.acceptRanges", "math/bits.overflowError", "internal/bytealg.MaxLen"], apart := false, laid := [("unicode/utf8.acceptRanges", laid_unicode_utf8_acceptRanges), ("unicode/utf8.first", laid_unicode_utf8_first)], narrowed := true }
def PolygonValidityUptoSaid : Prop := polygonValidityUptoRow.holds Tryz.pinned (OpenSpec.upto polygonValiditySpec)

end Rows
end Go.Proofs.YtoechehmflcnkaaGreatDoor
