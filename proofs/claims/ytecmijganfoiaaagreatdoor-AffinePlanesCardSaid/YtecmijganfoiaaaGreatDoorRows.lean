/-
  NARROWER THAN 'FOR EVERY INPUT', by the rows' own cells (each row's printed sentence says how): AffineRotations: laid · AffineComposition: laid · AffineReflections: laid · AffinePoints: laid · AffinePlanes: laid · AffineInverse: laid · AffinePreservesSides: laid.
  DERIVED. THE GIVEN ROWS OF THIS SEAT. 7 by the template 'for every input the law returns true; each argument reads behind the call as it read before'; 0 by the template 'total and deterministic' (their statements: YtecmijganfoiaaaGreatDoorTotals.lean).
  GIVEN WITH THE SEED: the statements are not yours to turn. If you find one false, say at which input.
  Laid BY PROGRAM, IN A SANDBOX (cutbox-rows.mjs): the forced cells as the released guide's own fill.sh prints them over the translation 2962f22be815948d… (all of the seat's roots in one cut). By AI agents, Wed Nov 11 2026. No macro, syntax, notation, axiom, sorry.
-/
import Derived.Test.YtecmijganfoiaaaGreatDoorChecked
import GoSem.PinnedTables
import GoSem.Claim
import GoSem.ClaimJoined
import GoSem.ClaimMapViews
import Derived.JoinedTies
import Derived.KernelRfl
namespace Go.Proofs.YtecmijganfoiaaaGreatDoor
/- THE CELL 'sum', in the pinned program and in every row, IS THE sha256 OF THE DUMP (.gsa) THAT YtecmijganfoiaaaGreatDoorProg.lean LOADS. Nothing in Lean hashes anything: it is a label: what it is worth is what the hold of that sum in a sandbox is worth. -/
noncomputable def Tryz.pinned : Pinned := { name := "ytecmijganfoiaaagreatdoor", sum := "2962f22be815948d412a987c50503fb97ef6d9e8d2e45ebfa18a50f221376126", checked := Tryz.checked }
namespace Rows
def none {H : Type} : Left H := { results := [], args := [] }

/- WHAT THE LISTED PACKAGE-LEVEL VARIABLES READ AS WHEN THE CALL BEGINS. Each datum BY PROGRAM (the guide's laid-datum.mjs) off the statement by which the dump's own 'gosem.cut.vars' lays the variable. In a bare row this is a premise. The card (YtecmijganfoiaaaGreatDoorCards.lean) ties it to the program's text. -/
def laid_unicode_utf8_acceptRanges {H : Type} : DataW H := .agg [.agg [.lit (.int .u8 128), .lit (.int .u8 191)], .agg [.lit (.int .u8 160), .lit (.int .u8 191)], .agg [.lit (.int .u8 128), .lit (.int .u8 159)], .agg [.lit (.int .u8 144), .lit (.int .u8 191)], .agg [.lit (.int .u8 128), .lit (.int .u8 143)], .agg [.lit (.int .u8 0), .lit (.int .u8 0)], .agg [.lit (.int .u8 0), .lit (.int .u8 0)], .agg [.lit (.int .u8 0), .lit (.int .u8 0)], .agg [.lit (.int .u8 0), .lit (.int .u8 0)], .agg [.lit (.int .u8 0), .lit (.int .u8 0)], .agg [.lit (.int .u8 0), .lit (.int .u8 0)], .agg [.lit (.int .u8 0), .lit (.int .u8 0)], .agg [.lit (.int .u8 0), .lit (.int .u8 0)], .agg [.lit (.int .u8 0), .lit (.int .u8 0)], .agg [.lit (.int .u8 0), .lit (.int .u8 0)], .agg [.lit (.int .u8 0), .lit (.int .u8 0)]]
/-- One of Go's own tables, pinned by name: the form's constant. -/
def laid_unicode_utf8_first : DataW Unit := Go.Pinned.utf8First

/-- 'voussoirlaw07.AffineRotations': WHATEVER THE INPUT: true; the input reads as it did. -/
def affineRotationsSpec : ChangeSpec := { name := "affineRotations", fn := fun _ => fun
  | [d1, d2, d3] => { results := [.lit (.bool true)], args := [d1, d2, d3] }
  | _ => none }
def affineRotationsRow : OpenClaim := { program := "ytecmijganfoiaaagreatdoor", sum := "2962f22be815948d412a987c50503fb97ef6d9e8d2e45ebfa18a50f221376126", func := "voussoir/voussoirlaw07.AffineRotations", spec := "affineRotations", inPlace := ["internal/bytealg.IndexByteString", "internal/bytealg.IndexString"], unfollowed := true, recurses := true, named := ["unicode/utf8.first", "unicode/utf8.acceptRanges", "math/bits.overflowError", "internal/bytealg.MaxLen"], apart := false, laid := [("unicode/utf8.acceptRanges", laid_unicode_utf8_acceptRanges), ("unicode/utf8.first", laid_unicode_utf8_first)] }
def AffineRotationsSaid : Prop := affineRotationsRow.holds Tryz.pinned (OpenSpec.ofChange affineRotationsSpec)

/-- ITS FALSE NEIGHBOUR: 'it returns false'. Refute it at one input. -/
def affineRotationsWrong : ChangeSpec := { name := "affineRotations", fn := fun _ => fun
  | [d1, d2, d3] => { results := [.lit (.bool false)], args := [d1, d2, d3] }
  | _ => none }
def AffineRotationsWrongFalsely : Prop := affineRotationsRow.holds Tryz.pinned (OpenSpec.ofChange affineRotationsWrong)

/-- 'voussoirlaw07.AffineComposition': WHATEVER THE INPUT: true; the input reads as it did. -/
def affineCompositionSpec : ChangeSpec := { name := "affineComposition", fn := fun _ => fun
  | [d1, d2, d3, d4] => { results := [.lit (.bool true)], args := [d1, d2, d3, d4] }
  | _ => none }
def affineCompositionRow : OpenClaim := { program := "ytecmijganfoiaaagreatdoor", sum := "2962f22be815948d412a987c50503fb97ef6d9e8d2e45ebfa18a50f221376126", func := "voussoir/voussoirlaw07.AffineComposition", spec := "affineComposition", inPlace := ["internal/bytealg.IndexByteString", "internal/bytealg.IndexString"], unfollowed := true, recurses := true, named := ["unicode/utf8.first", "unicode/utf8.acceptRanges", "math/bits.overflowError", "internal/bytealg.MaxLen"], apart := false, laid := [("unicode/utf8.acceptRanges", laid_unicode_utf8_acceptRanges), ("unicode/utf8.first", laid_unicode_utf8_first)] }
def AffineCompositionSaid : Prop := affineCompositionRow.holds Tryz.pinned (OpenSpec.ofChange affineCompositionSpec)

/-- ITS FALSE NEIGHBOUR: 'it returns false'. Refute it at one input. -/
def affineCompositionWrong : ChangeSpec := { name := "affineComposition", fn := fun _ => fun
  | [d1, d2, d3, d4] => { results := [.lit (.bool false)], args := [d1, d2, d3, d4] }
  | _ => none }
def AffineCompositionWrongFalsely : Prop := affineCompositionRow.holds Tryz.pinned (OpenSpec.ofChange affineCompositionWrong)

/-- 'voussoirlaw07.AffineReflections': WHATEVER THE INPUT: true; the input reads as it did. -/
def affineReflectionsSpec : ChangeSpec := { name := "affineReflections", fn := fun _ => fun
  | [d1, d2] => { results := [.lit (.bool true)], args := [d1, d2] }
  | _ => none }
def affineReflectionsRow : OpenClaim := { program := "ytecmijganfoiaaagreatdoor", sum := "2962f22be815948d412a987c50503fb97ef6d9e8d2e45ebfa18a50f221376126", func := "voussoir/voussoirlaw07.AffineReflections", spec := "affineReflections", inPlace := ["internal/bytealg.IndexByteString", "internal/bytealg.IndexString"], unfollowed := true, recurses := true, named := ["unicode/utf8.first", "unicode/utf8.acceptRanges", "math/bits.overflowError", "internal/bytealg.MaxLen"], apart := false, laid := [("unicode/utf8.acceptRanges", laid_unicode_utf8_acceptRanges), ("unicode/utf8.first", laid_unicode_utf8_first)] }
def AffineReflectionsSaid : Prop := affineReflectionsRow.holds Tryz.pinned (OpenSpec.ofChange affineReflectionsSpec)

/-- ITS FALSE NEIGHBOUR: 'it returns false'. Refute it at one input. -/
def affineReflectionsWrong : ChangeSpec := { name := "affineReflections", fn := fun _ => fun
  | [d1, d2] => { results := [.lit (.bool false)], args := [d1, d2] }
  | _ => none }
def AffineReflectionsWrongFalsely : Prop := affineReflectionsRow.holds Tryz.pinned (OpenSpec.ofChange affineReflectionsWrong)

/-- 'voussoirlaw07.AffinePoints': WHATEVER THE INPUT: true; the input reads as it did. -/
def affinePointsSpec : ChangeSpec := { name := "affinePoints", fn := fun _ => fun
  | [d1, d2, d3] => { results := [.lit (.bool true)], args := [d1, d2, d3] }
  | _ => none }
def affinePointsRow : OpenClaim := { program := "ytecmijganfoiaaagreatdoor", sum := "2962f22be815948d412a987c50503fb97ef6d9e8d2e45ebfa18a50f221376126", func := "voussoir/voussoirlaw07.AffinePoints", spec := "affinePoints", inPlace := ["internal/bytealg.IndexByteString", "internal/bytealg.IndexString"], unfollowed := true, recurses := true, named := ["unicode/utf8.first", "unicode/utf8.acceptRanges", "math/bits.overflowError", "internal/bytealg.MaxLen"], apart := false, laid := [("unicode/utf8.acceptRanges", laid_unicode_utf8_acceptRanges), ("unicode/utf8.first", laid_unicode_utf8_first)] }
def AffinePointsSaid : Prop := affinePointsRow.holds Tryz.pinned (OpenSpec.ofChange affinePointsSpec)

/-- ITS FALSE NEIGHBOUR: 'it returns false'. Refute it at one input. -/
def affinePointsWrong : ChangeSpec := { name := "affinePoints", fn := fun _ => fun
  | [d1, d2, d3] => { results := [.lit (.bool false)], args := [d1, d2, d3] }
  | _ => none }
def AffinePointsWrongFalsely : Prop := affinePointsRow.holds Tryz.pinned (OpenSpec.ofChange affinePointsWrong)

/-- 'voussoirlaw07.AffinePlanes': WHATEVER THE INPUT: true; the input reads as it did. -/
def affinePlanesSpec : ChangeSpec := { name := "affinePlanes", fn := fun _ => fun
  | [d1, d2] => { results := [.lit (.bool true)], args := [d1, d2] }
  | _ => none }
def affinePlanesRow : OpenClaim := { program := "ytecmijganfoiaaagreatdoor", sum := "2962f22be815948d412a987c50503fb97ef6d9e8d2e45ebfa18a50f221376126", func := "voussoir/voussoirlaw07.AffinePlanes", spec := "affinePlanes", inPlace := ["internal/bytealg.IndexByteString", "internal/bytealg.IndexString"], unfollowed := true, recurses := true, named := ["unicode/utf8.first", "unicode/utf8.acceptRanges", "math/bits.overflowError", "internal/bytealg.MaxLen"], apart := false, laid := [("unicode/utf8.acceptRanges", laid_unicode_utf8_acceptRanges), ("unicode/utf8.first", laid_unicode_utf8_first)] }
def AffinePlanesSaid : Prop := affinePlanesRow.holds Tryz.pinned (OpenSpec.ofChange affinePlanesSpec)

/-- ITS FALSE NEIGHBOUR: 'it returns false'. Refute it at one input. -/
def affinePlanesWrong : ChangeSpec := { name := "affinePlanes", fn := fun _ => fun
  | [d1, d2] => { results := [.lit (.bool false)], args := [d1, d2] }
  | _ => none }
def AffinePlanesWrongFalsely : Prop := affinePlanesRow.holds Tryz.pinned (OpenSpec.ofChange affinePlanesWrong)

/-- 'voussoirlaw07.AffineInverse': WHATEVER THE INPUT: true; the input reads as it did. -/
def affineInverseSpec : ChangeSpec := { name := "affineInverse", fn := fun _ => fun
  | [d1, d2, d3] => { results := [.lit (.bool true)], args := [d1, d2, d3] }
  | _ => none }
def affineInverseRow : OpenClaim := { program := "ytecmijganfoiaaagreatdoor", sum := "2962f22be815948d412a987c50503fb97ef6d9e8d2e45ebfa18a50f221376126", func := "voussoir/voussoirlaw07.AffineInverse", spec := "affineInverse", inPlace := ["internal/bytealg.IndexByteString", "internal/bytealg.IndexString"], unfollowed := true, recurses := true, named := ["unicode/utf8.first", "unicode/utf8.acceptRanges", "math/bits.overflowError", "internal/bytealg.MaxLen"], apart := false, laid := [("unicode/utf8.acceptRanges", laid_unicode_utf8_acceptRanges), ("unicode/utf8.first", laid_unicode_utf8_first)] }
def AffineInverseSaid : Prop := affineInverseRow.holds Tryz.pinned (OpenSpec.ofChange affineInverseSpec)

/-- ITS FALSE NEIGHBOUR: 'it returns false'. Refute it at one input. -/
def affineInverseWrong : ChangeSpec := { name := "affineInverse", fn := fun _ => fun
  | [d1, d2, d3] => { results := [.lit (.bool false)], args := [d1, d2, d3] }
  | _ => none }
def AffineInverseWrongFalsely : Prop := affineInverseRow.holds Tryz.pinned (OpenSpec.ofChange affineInverseWrong)

/-- 'voussoirlaw07.AffinePreservesSides': WHATEVER THE INPUT: true; the input reads as it did. -/
def affinePreservesSidesSpec : ChangeSpec := { name := "affinePreservesSides", fn := fun _ => fun
  | [d1, d2, d3] => { results := [.lit (.bool true)], args := [d1, d2, d3] }
  | _ => none }
def affinePreservesSidesRow : OpenClaim := { program := "ytecmijganfoiaaagreatdoor", sum := "2962f22be815948d412a987c50503fb97ef6d9e8d2e45ebfa18a50f221376126", func := "voussoir/voussoirlaw07.AffinePreservesSides", spec := "affinePreservesSides", inPlace := ["internal/bytealg.IndexByteString", "internal/bytealg.IndexString"], unfollowed := true, recurses := true, named := ["unicode/utf8.first", "unicode/utf8.acceptRanges", "math/bits.overflowError", "internal/bytealg.MaxLen"], apart := false, laid := [("unicode/utf8.acceptRanges", laid_unicode_utf8_acceptRanges), ("unicode/utf8.first", laid_unicode_utf8_first)] }
def AffinePreservesSidesSaid : Prop := affinePreservesSidesRow.holds Tryz.pinned (OpenSpec.ofChange affinePreservesSidesSpec)

/-- ITS FALSE NEIGHBOUR: 'it returns false'. Refute it at one input. -/
def affinePreservesSidesWrong : ChangeSpec := { name := "affinePreservesSides", fn := fun _ => fun
  | [d1, d2, d3] => { results := [.lit (.bool false)], args := [d1, d2, d3] }
  | _ => none }
def AffinePreservesSidesWrongFalsely : Prop := affinePreservesSidesRow.holds Tryz.pinned (OpenSpec.ofChange affinePreservesSidesWrong)

/- THE SECOND FORM. 'bulk': how many values and letters a reading holds, each counted each time it is reached (what is shared counts as often as it is met; a slice's spare places count too). A statement '..UptoSaid' is the law's where the arguments, and the package variables that the reading takes, are together of bulk at most 1048576: NARROWER than '..Said'. Prove '..Said' where nothing that the law and all that it calls make is longer than what came in: it says more and counts as full. Else prove '..UptoSaid'. A law counts once. -/
mutual
def uptoBulk {H : Type} : DataW H → Nat
  | .lit (.string bytes) => bytes.length + 1
  | .lit _ => 1
  | .nil => 1
  | .ptr d => uptoBulk d + 1
  | .slice elems spare => uptoBulkAll elems + uptoBulkAll spare + 1
  | .agg parts => uptoBulkAll parts + 1
  | .iface _ d => uptoBulk d + 1
  | .map entries => uptoBulkEntries entries + 1
  | .held _ => 1
def uptoBulkAll {H : Type} : List (DataW H) → Nat
  | [] => 0
  | d :: r => uptoBulk d + uptoBulkAll r
def uptoBulkEntries {H : Type} : List (Lit × DataW H) → Nat
  | [] => 0
  | x :: r => uptoBulkEntry x + uptoBulkEntries r
def uptoBulkEntry {H : Type} : Lit × DataW H → Nat
  | (.string bytes, d) => bytes.length + uptoBulk d + 1
  | (_, d) => uptoBulk d + 1
 end
def uptoSmall : (H : Type) → List (DataW H) → Bool := fun _ ds => decide (uptoBulkAll ds ≤ 1048576)
def OpenSpec.upto (s : _root_.Go.ChangeSpec) : _root_.Go.OpenSpec := { _root_.Go.OpenSpec.ofChange s with cond := some uptoSmall }

/-- 'voussoirlaw07.AffineRotations', WHERE WHAT IT READS IS OF BULK AT MOST 1048576: true; the input reads as it did. -/
def affineRotationsUptoRow : OpenClaim := { program := "ytecmijganfoiaaagreatdoor", sum := "2962f22be815948d412a987c50503fb97ef6d9e8d2e45ebfa18a50f221376126", func := "voussoir/voussoirlaw07.AffineRotations", spec := "affineRotations", inPlace := ["internal/bytealg.IndexByteString", "internal/bytealg.IndexString"], unfollowed := true, recurses := true, named := ["unicode/utf8.first", "unicode/utf8.acceptRanges", "math/bits.overflowError", "internal/bytealg.MaxLen"], apart := false, laid := [("unicode/utf8.acceptRanges", laid_unicode_utf8_acceptRanges), ("unicode/utf8.first", laid_unicode_utf8_first)], narrowed := true }
def AffineRotationsUptoSaid : Prop := affineRotationsUptoRow.holds Tryz.pinned (OpenSpec.upto affineRotationsSpec)

/-- 'voussoirlaw07.AffineComposition', WHERE WHAT IT READS IS OF BULK AT MOST 1048576: true; the input reads as it did. -/
def affineCompositionUptoRow : OpenClaim := { program := "ytecmijganfoiaaagreatdoor", sum := "2962f22be815948d412a987c50503fb97ef6d9e8d2e45ebfa18a50f221376126", func := "voussoir/voussoirlaw07.AffineComposition", spec := "affineComposition", inPlace := ["internal/bytealg.IndexByteString", "internal/bytealg.IndexString"], unfollowed := true, recurses := true, named := ["unicode/utf8.first", "unicode/utf8.acceptRanges", "math/bits.overflowError", "internal/bytealg.MaxLen"], apart := false, laid := [("unicode/utf8.acceptRanges", laid_unicode_utf8_acceptRanges), ("unicode/utf8.first", laid_unicode_utf8_first)], narrowed := true }
def AffineCompositionUptoSaid : Prop := affineCompositionUptoRow.holds Tryz.pinned (OpenSpec.upto affineCompositionSpec)

/-- 'voussoirlaw07.AffineReflections', WHERE WHAT IT READS IS OF BULK AT MOST 1048576: true; the input reads as it did. -/
def affineReflectionsUptoRow : OpenClaim := { program := "ytecmijganfoiaaagreatdoor", sum := "2962f22be815948d412a987c50503fb97ef6d9e8d2e45ebfa18a50f221376126", func := "voussoir/voussoirlaw07.AffineReflections", spec := "affineReflections", inPlace := ["internal/bytealg.IndexByteString", "internal/bytealg.IndexString"], unfollowed := true, recurses := true, named := ["unicode/utf8.first", "unicode/utf8.acceptRanges", "math/bits.overflowError", "internal/bytealg.MaxLen"], apart := false, laid := [("unicode/utf8.acceptRanges", laid_unicode_utf8_acceptRanges), ("unicode/utf8.first", laid_unicode_utf8_first)], narrowed := true }
def AffineReflectionsUptoSaid : Prop := affineReflectionsUptoRow.holds Tryz.pinned (OpenSpec.upto affineReflectionsSpec)

/-- 'voussoirlaw07.AffinePoints', WHERE WHAT IT READS IS OF BULK AT MOST 1048576: true; the input reads as it did. -/
def affinePointsUptoRow : OpenClaim := { program := "ytecmijganfoiaaagreatdoor", sum := "2962f22be815948d412a987c50503fb97ef6d9e8d2e45ebfa18a50f221376126", func := "voussoir/voussoirlaw07.AffinePoints", spec := "affinePoints", inPlace := ["internal/bytealg.IndexByteString", "internal/bytealg.IndexString"], unfollowed := true, recurses := true, named := ["unicode/utf8.first", "unicode/utf8.acceptRanges", "math/bits.overflowError", "internal/bytealg.MaxLen"], apart := false, laid := [("unicode/utf8.acceptRanges", laid_unicode_utf8_acceptRanges), ("unicode/utf8.first", laid_unicode_utf8_first)], narrowed := true }
def AffinePointsUptoSaid : Prop := affinePointsUptoRow.holds Tryz.pinned (OpenSpec.upto affinePointsSpec)

/-- 'voussoirlaw07.AffinePlanes', WHERE WHAT IT READS IS OF BULK AT MOST 1048576: true; the input reads as it did. -/
def affinePlanesUptoRow : OpenClaim := { program := "ytecmijganfoiaaagreatdoor", sum := "2962f22be815948d412a987c50503fb97ef6d9e8d2e45ebfa18a50f221376126", func := "voussoir/voussoirlaw07.AffinePlanes", spec := "affinePlanes", inPlace := ["internal/bytealg.IndexByteString", "internal/bytealg.IndexString"], unfollowed := true, recurses := true, named := ["unicode/utf8.first", "unicode/utf8.acceptRanges", "math/bits.overflowError", "internal/bytealg.MaxLen"], apart := false, laid := [("unicode/utf8.acceptRanges", laid_unicode_utf8_acceptRanges), ("unicode/utf8.first", laid_unicode_utf8_first)], narrowed := true }
def AffinePlanesUptoSaid : Prop := affinePlanesUptoRow.holds Tryz.pinned (OpenSpec.upto affinePlanesSpec)

/-- 'voussoirlaw07.AffineInverse', WHERE WHAT IT READS IS OF BULK AT MOST 1048576: true; the input reads as it did. -/
def affineInverseUptoRow : OpenClaim := { program := "ytecmijganfoiaaagreatdoor", sum := "2962f22be815948d412a987c50503fb97ef6d9e8d2e45ebfa18a50f221376126", func := "voussoir/voussoirlaw07.AffineInverse", spec := "affineInverse", inPlace := ["internal/bytealg.IndexByteString", "internal/bytealg.IndexString"], unfollowed := true, recurses := true, named := ["unicode/utf8.first", "unicode/utf8.acceptRanges", "math/bits.overflowError", "internal/bytealg.MaxLen"], apart := false, laid := [("unicode/utf8.acceptRanges", laid_unicode_utf8_acceptRanges), ("unicode/utf8.first", laid_unicode_utf8_first)], narrowed := true }
def AffineInverseUptoSaid : Prop := affineInverseUptoRow.holds Tryz.pinned (OpenSpec.upto affineInverseSpec)

/-- 'voussoirlaw07.AffinePreservesSides', WHERE WHAT IT READS IS OF BULK AT MOST 1048576: true; the input reads as it did. -/
def affinePreservesSidesUptoRow : OpenClaim := { program := "ytecmijganfoiaaagreatdoor", sum := "2962f22be815948d412a987c50503fb97ef6d9e8d2e45ebfa18a50f221376126", func := "voussoir/voussoirlaw07.AffinePreservesSides", spec := "affinePreservesSides", inPlace := ["internal/bytealg.IndexByteString", "internal/bytealg.IndexString"], unfollowed := true, recurses := true, named := ["unicode/utf8.first", "unicode/utf8.acceptRanges", "math/bits.overflowError", "internal/bytealg.MaxLen"], apart := false, laid := [("unicode/utf8.acceptRanges", laid_unicode_utf8_acceptRanges), ("unicode/utf8.first", laid_unicode_utf8_first)], narrowed := true }
def AffinePreservesSidesUptoSaid : Prop := affinePreservesSidesUptoRow.holds Tryz.pinned (OpenSpec.upto affinePreservesSidesSpec)

end Rows
end Go.Proofs.YtecmijganfoiaaaGreatDoor
