/-
  NARROWER THAN 'FOR EVERY INPUT', by the rows' own cells (each row's printed sentence says how): XmlParses: laid · XmlTexts: laid · XmlBack: loops, laid · XmlLent: loops, laid · XmlDepths: laid · XmlWhite: laid · XmlPrints: loops, laid.
  DERIVED. THE GIVEN ROWS OF THIS SEAT. 7 by the template 'for every input the law returns true; each argument reads behind the call as it read before'; 0 by the template 'total and deterministic' (their statements: YtklcgncaclggcaaDoorTotals.lean).
  GIVEN WITH THE SEED: the statements are not yours to turn. If you find one false, say at which input.
  Laid BY PROGRAM, IN A SANDBOX (cutbox-rows.mjs): the forced cells as the released guide's own fill.sh prints them over the translation 6389d5a36349e9cf… (all of the seat's roots in one cut). By AI agents, Wed Nov 11 2026. No macro, syntax, notation, axiom, sorry.
-/
import Derived.Test.YtklcgncaclggcaaDoorChecked
import GoSem.PinnedTables
import GoSem.Claim
import GoSem.ClaimJoined
import GoSem.ClaimMapViews
import Derived.JoinedTies
import Derived.KernelRfl
namespace Go.Proofs.YtklcgncaclggcaaDoor
/- THE CELL 'sum', in the pinned program and in every row, IS THE sha256 OF THE DUMP (.gsa) THAT YtklcgncaclggcaaDoorProg.lean LOADS. Nothing in Lean hashes anything: it is a label: what it is worth is what the hold of that sum in a sandbox is worth. -/
noncomputable def Tryd.pinned : Pinned := { name := "ytklcgncaclggcaadoor", sum := "6389d5a36349e9cf54de21f263753ef96c2a38531d771c72d21658fb1c225733", checked := Tryd.checked }
namespace Rows
def none {H : Type} : Left H := { results := [], args := [] }

/- WHAT THE LISTED PACKAGE-LEVEL VARIABLES READ AS WHEN THE CALL BEGINS. Each datum BY PROGRAM (the guide's laid-datum.mjs) off the statement by which the dump's own 'gosem.cut.vars' lays the variable. In a bare row this is a premise. The card (YtklcgncaclggcaaDoorCards.lean) ties it to the program's text. -/
def laid_unicode_utf8_acceptRanges {H : Type} : DataW H := .agg [.agg [.lit (.int .u8 128), .lit (.int .u8 191)], .agg [.lit (.int .u8 160), .lit (.int .u8 191)], .agg [.lit (.int .u8 128), .lit (.int .u8 159)], .agg [.lit (.int .u8 144), .lit (.int .u8 191)], .agg [.lit (.int .u8 128), .lit (.int .u8 143)], .agg [.lit (.int .u8 0), .lit (.int .u8 0)], .agg [.lit (.int .u8 0), .lit (.int .u8 0)], .agg [.lit (.int .u8 0), .lit (.int .u8 0)], .agg [.lit (.int .u8 0), .lit (.int .u8 0)], .agg [.lit (.int .u8 0), .lit (.int .u8 0)], .agg [.lit (.int .u8 0), .lit (.int .u8 0)], .agg [.lit (.int .u8 0), .lit (.int .u8 0)], .agg [.lit (.int .u8 0), .lit (.int .u8 0)], .agg [.lit (.int .u8 0), .lit (.int .u8 0)], .agg [.lit (.int .u8 0), .lit (.int .u8 0)], .agg [.lit (.int .u8 0), .lit (.int .u8 0)]]
/-- One of Go's own tables, pinned by name: the form's constant. -/
def laid_unicode_utf8_first : DataW Unit := Go.Pinned.utf8First

/-- 'stowagelaw13.XmlParses': WHATEVER THE INPUT: true; the input reads as it did. -/
def xmlParsesSpec : ChangeSpec := { name := "xmlParses", fn := fun _ => fun
  | [d] => { results := [.lit (.bool true)], args := [d] }
  | _ => none }
def xmlParsesRow : OpenClaim := { program := "ytklcgncaclggcaadoor", sum := "6389d5a36349e9cf54de21f263753ef96c2a38531d771c72d21658fb1c225733", func := "stowage/stowagelaw13.XmlParses", spec := "xmlParses", inPlace := ["internal/bytealg.IndexByteString", "internal/bytealg.IndexString", "internal/bytealg.CountString", "internal/abi.NoEscape", "internal/bytealg.MakeNoZero"], recurses := true, named := ["internal/bytealg.MaxLen", "unicode/utf8.first", "unicode/utf8.acceptRanges"], apart := false, laid := [("unicode/utf8.acceptRanges", laid_unicode_utf8_acceptRanges), ("unicode/utf8.first", laid_unicode_utf8_first)] }
def XmlParsesSaid : Prop := xmlParsesRow.holds Tryd.pinned (OpenSpec.ofChange xmlParsesSpec)

/-- ITS FALSE NEIGHBOUR: 'it returns false'. Refute it at one input. -/
def xmlParsesWrong : ChangeSpec := { name := "xmlParses", fn := fun _ => fun
  | [d] => { results := [.lit (.bool false)], args := [d] }
  | _ => none }
def XmlParsesWrongFalsely : Prop := xmlParsesRow.holds Tryd.pinned (OpenSpec.ofChange xmlParsesWrong)

/-- 'stowagelaw13.XmlTexts': WHATEVER THE INPUT: true; the input reads as it did. -/
def xmlTextsSpec : ChangeSpec := { name := "xmlTexts", fn := fun _ => fun
  | [d] => { results := [.lit (.bool true)], args := [d] }
  | _ => none }
def xmlTextsRow : OpenClaim := { program := "ytklcgncaclggcaadoor", sum := "6389d5a36349e9cf54de21f263753ef96c2a38531d771c72d21658fb1c225733", func := "stowage/stowagelaw13.XmlTexts", spec := "xmlTexts", inPlace := ["internal/bytealg.CountString", "internal/bytealg.IndexByteString", "internal/bytealg.IndexString", "internal/abi.NoEscape", "internal/bytealg.MakeNoZero"], recurses := true, named := ["internal/bytealg.MaxLen", "unicode/utf8.first", "unicode/utf8.acceptRanges"], apart := false, laid := [("unicode/utf8.acceptRanges", laid_unicode_utf8_acceptRanges), ("unicode/utf8.first", laid_unicode_utf8_first)] }
def XmlTextsSaid : Prop := xmlTextsRow.holds Tryd.pinned (OpenSpec.ofChange xmlTextsSpec)

/-- ITS FALSE NEIGHBOUR: 'it returns false'. Refute it at one input. -/
def xmlTextsWrong : ChangeSpec := { name := "xmlTexts", fn := fun _ => fun
  | [d] => { results := [.lit (.bool false)], args := [d] }
  | _ => none }
def XmlTextsWrongFalsely : Prop := xmlTextsRow.holds Tryd.pinned (OpenSpec.ofChange xmlTextsWrong)

/-- 'stowagelaw13.XmlBack': WHATEVER THE INPUT: true; the input reads as it did. -/
def xmlBackSpec : ChangeSpec := { name := "xmlBack", fn := fun _ => fun
  | [d1, d2, d3] => { results := [.lit (.bool true)], args := [d1, d2, d3] }
  | _ => none }
def xmlBackRow : OpenClaim := { program := "ytklcgncaclggcaadoor", sum := "6389d5a36349e9cf54de21f263753ef96c2a38531d771c72d21658fb1c225733", func := "stowage/stowagelaw13.XmlBack", spec := "xmlBack", inPlace := ["internal/bytealg.IndexByteString", "internal/bytealg.IndexString", "internal/bytealg.CountString", "internal/abi.NoEscape", "internal/bytealg.MakeNoZero"], recurses := true, named := ["internal/bytealg.MaxLen", "unicode/utf8.first", "unicode/utf8.acceptRanges"], loops := true, apart := false, laid := [("unicode/utf8.acceptRanges", laid_unicode_utf8_acceptRanges), ("unicode/utf8.first", laid_unicode_utf8_first)] }
def XmlBackSaid : Prop := xmlBackRow.holds Tryd.pinned (OpenSpec.ofChange xmlBackSpec)

/-- ITS FALSE NEIGHBOUR: 'it returns false'. Refute it at one input. -/
def xmlBackWrong : ChangeSpec := { name := "xmlBack", fn := fun _ => fun
  | [d1, d2, d3] => { results := [.lit (.bool false)], args := [d1, d2, d3] }
  | _ => none }
def XmlBackWrongFalsely : Prop := xmlBackRow.holds Tryd.pinned (OpenSpec.ofChange xmlBackWrong)

/-- 'stowagelaw13.XmlLent': WHATEVER THE INPUT: true; the input reads as it did. -/
def xmlLentSpec : ChangeSpec := { name := "xmlLent", fn := fun _ => fun
  | [d1, d2] => { results := [.lit (.bool true)], args := [d1, d2] }
  | _ => none }
def xmlLentRow : OpenClaim := { program := "ytklcgncaclggcaadoor", sum := "6389d5a36349e9cf54de21f263753ef96c2a38531d771c72d21658fb1c225733", func := "stowage/stowagelaw13.XmlLent", spec := "xmlLent", inPlace := ["internal/bytealg.IndexByteString", "internal/bytealg.IndexString", "internal/bytealg.CountString", "internal/abi.NoEscape", "internal/bytealg.MakeNoZero"], recurses := true, named := ["internal/bytealg.MaxLen", "unicode/utf8.first", "unicode/utf8.acceptRanges"], loops := true, apart := false, laid := [("unicode/utf8.acceptRanges", laid_unicode_utf8_acceptRanges), ("unicode/utf8.first", laid_unicode_utf8_first)] }
def XmlLentSaid : Prop := xmlLentRow.holds Tryd.pinned (OpenSpec.ofChange xmlLentSpec)

/-- ITS FALSE NEIGHBOUR: 'it returns false'. Refute it at one input. -/
def xmlLentWrong : ChangeSpec := { name := "xmlLent", fn := fun _ => fun
  | [d1, d2] => { results := [.lit (.bool false)], args := [d1, d2] }
  | _ => none }
def XmlLentWrongFalsely : Prop := xmlLentRow.holds Tryd.pinned (OpenSpec.ofChange xmlLentWrong)

/-- 'stowagelaw13.XmlDepths': WHATEVER THE INPUT: true; the input reads as it did. -/
def xmlDepthsSpec : ChangeSpec := { name := "xmlDepths", fn := fun _ => fun
  | [d1, d2] => { results := [.lit (.bool true)], args := [d1, d2] }
  | _ => none }
def xmlDepthsRow : OpenClaim := { program := "ytklcgncaclggcaadoor", sum := "6389d5a36349e9cf54de21f263753ef96c2a38531d771c72d21658fb1c225733", func := "stowage/stowagelaw13.XmlDepths", spec := "xmlDepths", inPlace := ["internal/bytealg.IndexByteString", "internal/bytealg.IndexString", "internal/bytealg.CountString", "internal/abi.NoEscape", "internal/bytealg.MakeNoZero"], recurses := true, named := ["internal/bytealg.MaxLen", "unicode/utf8.first", "unicode/utf8.acceptRanges"], apart := false, laid := [("unicode/utf8.acceptRanges", laid_unicode_utf8_acceptRanges), ("unicode/utf8.first", laid_unicode_utf8_first)] }
def XmlDepthsSaid : Prop := xmlDepthsRow.holds Tryd.pinned (OpenSpec.ofChange xmlDepthsSpec)

/-- ITS FALSE NEIGHBOUR: 'it returns false'. Refute it at one input. -/
def xmlDepthsWrong : ChangeSpec := { name := "xmlDepths", fn := fun _ => fun
  | [d1, d2] => { results := [.lit (.bool false)], args := [d1, d2] }
  | _ => none }
def XmlDepthsWrongFalsely : Prop := xmlDepthsRow.holds Tryd.pinned (OpenSpec.ofChange xmlDepthsWrong)

/-- 'stowagelaw13.XmlWhite': WHATEVER THE INPUT: true; the input reads as it did. -/
def xmlWhiteSpec : ChangeSpec := { name := "xmlWhite", fn := fun _ => fun
  | [d1, d2, d3] => { results := [.lit (.bool true)], args := [d1, d2, d3] }
  | _ => none }
def xmlWhiteRow : OpenClaim := { program := "ytklcgncaclggcaadoor", sum := "6389d5a36349e9cf54de21f263753ef96c2a38531d771c72d21658fb1c225733", func := "stowage/stowagelaw13.XmlWhite", spec := "xmlWhite", inPlace := ["internal/bytealg.IndexByteString", "internal/bytealg.IndexString", "internal/bytealg.CountString", "internal/abi.NoEscape", "internal/bytealg.MakeNoZero"], recurses := true, named := ["internal/bytealg.MaxLen", "unicode/utf8.first", "unicode/utf8.acceptRanges"], apart := false, laid := [("unicode/utf8.acceptRanges", laid_unicode_utf8_acceptRanges), ("unicode/utf8.first", laid_unicode_utf8_first)] }
def XmlWhiteSaid : Prop := xmlWhiteRow.holds Tryd.pinned (OpenSpec.ofChange xmlWhiteSpec)

/-- ITS FALSE NEIGHBOUR: 'it returns false'. Refute it at one input. -/
def xmlWhiteWrong : ChangeSpec := { name := "xmlWhite", fn := fun _ => fun
  | [d1, d2, d3] => { results := [.lit (.bool false)], args := [d1, d2, d3] }
  | _ => none }
def XmlWhiteWrongFalsely : Prop := xmlWhiteRow.holds Tryd.pinned (OpenSpec.ofChange xmlWhiteWrong)

/-- 'stowagelaw13.XmlPrints': WHATEVER THE INPUT: true; the input reads as it did. -/
def xmlPrintsSpec : ChangeSpec := { name := "xmlPrints", fn := fun _ => fun
  | [d1, d2, d3] => { results := [.lit (.bool true)], args := [d1, d2, d3] }
  | _ => none }
def xmlPrintsRow : OpenClaim := { program := "ytklcgncaclggcaadoor", sum := "6389d5a36349e9cf54de21f263753ef96c2a38531d771c72d21658fb1c225733", func := "stowage/stowagelaw13.XmlPrints", spec := "xmlPrints", inPlace := ["internal/bytealg.IndexByteString", "internal/bytealg.IndexString", "internal/bytealg.CountString", "internal/abi.NoEscape", "internal/bytealg.MakeNoZero"], recurses := true, named := ["internal/bytealg.MaxLen", "unicode/utf8.first", "unicode/utf8.acceptRanges"], loops := true, apart := false, laid := [("unicode/utf8.acceptRanges", laid_unicode_utf8_acceptRanges), ("unicode/utf8.first", laid_unicode_utf8_first)] }
def XmlPrintsSaid : Prop := xmlPrintsRow.holds Tryd.pinned (OpenSpec.ofChange xmlPrintsSpec)

/-- ITS FALSE NEIGHBOUR: 'it returns false'. Refute it at one input. -/
def xmlPrintsWrong : ChangeSpec := { name := "xmlPrints", fn := fun _ => fun
  | [d1, d2, d3] => { results := [.lit (.bool false)], args := [d1, d2, d3] }
  | _ => none }
def XmlPrintsWrongFalsely : Prop := xmlPrintsRow.holds Tryd.pinned (OpenSpec.ofChange xmlPrintsWrong)

/- THE SECOND FORM. 'bulk': how many values and letters a reading holds, each counted each time it is reached (what is shared counts as often as it is met; a slice's spare places count too). A statement '..UptoSaid' is the law's where the arguments, and the package variables that the reading takes, are together of bulk at most 1048576: NARROWER than '..Said'. Prove '..Said' where nothing that the law and all that it calls make is longer than what came in: it says more and counts as full. Else prove '..UptoSaid'. A law counts once. -/
mutual
def uptoBulk {H : Type} : DataW H → Nat
  | .lit (.string bytes) => bytes.length + 1
  | .lit _ => 1
  | .nil => 1
  | .ptr d => uptoBulk d + 1
  | .slice elems spare => uptoBulkAll elems + uptoBulkAll spare + 1
  | .agg parts => uptoBulkAll parts + 1
  | .iface _ d => uptoBulk d + 1
  | .map entries => uptoBulkEntries entries + 1
  | .held _ => 1
def uptoBulkAll {H : Type} : List (DataW H) → Nat
  | [] => 0
  | d :: r => uptoBulk d + uptoBulkAll r
def uptoBulkEntries {H : Type} : List (Lit × DataW H) → Nat
  | [] => 0
  | x :: r => uptoBulkEntry x + uptoBulkEntries r
def uptoBulkEntry {H : Type} : Lit × DataW H → Nat
  | (.string bytes, d) => bytes.length + uptoBulk d + 1
  | (_, d) => uptoBulk d + 1
 end
def uptoSmall : (H : Type) → List (DataW H) → Bool := fun _ ds => decide (uptoBulkAll ds ≤ 1048576)
def OpenSpec.upto (s : _root_.Go.ChangeSpec) : _root_.Go.OpenSpec := { _root_.Go.OpenSpec.ofChange s with cond := some uptoSmall }

/-- 'stowagelaw13.XmlParses', WHERE WHAT IT READS IS OF BULK AT MOST 1048576: true; the input reads as it did. -/
def xmlParsesUptoRow : OpenClaim := { program := "ytklcgncaclggcaadoor", sum := "6389d5a36349e9cf54de21f263753ef96c2a38531d771c72d21658fb1c225733", func := "stowage/stowagelaw13.XmlParses", spec := "xmlParses", inPlace := ["internal/bytealg.IndexByteString", "internal/bytealg.IndexString", "internal/bytealg.CountString", "internal/abi.NoEscape", "internal/bytealg.MakeNoZero"], recurses := true, named := ["internal/bytealg.MaxLen", "unicode/utf8.first", "unicode/utf8.acceptRanges"], apart := false, laid := [("unicode/utf8.acceptRanges", laid_unicode_utf8_acceptRanges), ("unicode/utf8.first", laid_unicode_utf8_first)], narrowed := true }
def XmlParsesUptoSaid : Prop := xmlParsesUptoRow.holds Tryd.pinned (OpenSpec.upto xmlParsesSpec)

/-- 'stowagelaw13.XmlTexts', WHERE WHAT IT READS IS OF BULK AT MOST 1048576: true; the input reads as it did. -/
def xmlTextsUptoRow : OpenClaim := { program := "ytklcgncaclggcaadoor", sum := "6389d5a36349e9cf54de21f263753ef96c2a38531d771c72d21658fb1c225733", func := "stowage/stowagelaw13.XmlTexts", spec := "xmlTexts", inPlace := ["internal/bytealg.CountString", "internal/bytealg.IndexByteString", "internal/bytealg.IndexString", "internal/abi.NoEscape", "internal/bytealg.MakeNoZero"], recurses := true, named := ["internal/bytealg.MaxLen", "unicode/utf8.first", "unicode/utf8.acceptRanges"], apart := false, laid := [("unicode/utf8.acceptRanges", laid_unicode_utf8_acceptRanges), ("unicode/utf8.first", laid_unicode_utf8_first)], narrowed := true }
def XmlTextsUptoSaid : Prop := xmlTextsUptoRow.holds Tryd.pinned (OpenSpec.upto xmlTextsSpec)

/-- 'stowagelaw13.XmlBack', WHERE WHAT IT READS IS OF BULK AT MOST 1048576: true; the input reads as it did. -/
def xmlBackUptoRow : OpenClaim := { program := "ytklcgncaclggcaadoor", sum := "6389d5a36349e9cf54de21f263753ef96c2a38531d771c72d21658fb1c225733", func := "stowage/stowagelaw13.XmlBack", spec := "xmlBack", inPlace := ["internal/bytealg.IndexByteString", "internal/bytealg.IndexString", "internal/bytealg.CountString", "internal/abi.NoEscape", "internal/bytealg.MakeNoZero"], recurses := true, named := ["internal/bytealg.MaxLen", "unicode/utf8.first", "unicode/utf8.acceptRanges"], loops := true, apart := false, laid := [("unicode/utf8.acceptRanges", laid_unicode_utf8_acceptRanges), ("unicode/utf8.first", laid_unicode_utf8_first)], narrowed := true }
def XmlBackUptoSaid : Prop := xmlBackUptoRow.holds Tryd.pinned (OpenSpec.upto xmlBackSpec)

/-- 'stowagelaw13.XmlLent', WHERE WHAT IT READS IS OF BULK AT MOST 1048576: true; the input reads as it did. -/
def xmlLentUptoRow : OpenClaim := { program := "ytklcgncaclggcaadoor", sum := "6389d5a36349e9cf54de21f263753ef96c2a38531d771c72d21658fb1c225733", func := "stowage/stowagelaw13.XmlLent", spec := "xmlLent", inPlace := ["internal/bytealg.IndexByteString", "internal/bytealg.IndexString", "internal/bytealg.CountString", "internal/abi.NoEscape", "internal/bytealg.MakeNoZero"], recurses := true, named := ["internal/bytealg.MaxLen", "unicode/utf8.first", "unicode/utf8.acceptRanges"], loops := true, apart := false, laid := [("unicode/utf8.acceptRanges", laid_unicode_utf8_acceptRanges), ("unicode/utf8.first", laid_unicode_utf8_first)], narrowed := true }
def XmlLentUptoSaid : Prop := xmlLentUptoRow.holds Tryd.pinned (OpenSpec.upto xmlLentSpec)

/-- 'stowagelaw13.XmlDepths', WHERE WHAT IT READS IS OF BULK AT MOST 1048576: true; the input reads as it did. -/
def xmlDepthsUptoRow : OpenClaim := { program := "ytklcgncaclggcaadoor", sum := "6389d5a36349e9cf54de21f263753ef96c2a38531d771c72d21658fb1c225733", func := "stowage/stowagelaw13.XmlDepths", spec := "xmlDepths", inPlace := ["internal/bytealg.IndexByteString", "internal/bytealg.IndexString", "internal/bytealg.CountString", "internal/abi.NoEscape", "internal/bytealg.MakeNoZero"], recurses := true, named := ["internal/bytealg.MaxLen", "unicode/utf8.first", "unicode/utf8.acceptRanges"], apart := false, laid := [("unicode/utf8.acceptRanges", laid_unicode_utf8_acceptRanges), ("unicode/utf8.first", laid_unicode_utf8_first)], narrowed := true }
def XmlDepthsUptoSaid : Prop := xmlDepthsUptoRow.holds Tryd.pinned (OpenSpec.upto xmlDepthsSpec)

/-- 'stowagelaw13.XmlWhite', WHERE WHAT IT READS IS OF BULK AT MOST 1048576: true; the input reads as it did. -/
def xmlWhiteUptoRow : OpenClaim := { program := "ytklcgncaclggcaadoor", sum := "6389d5a36349e9cf54de21f263753ef96c2a38531d771c72d21658fb1c225733", func := "stowage/stowagelaw13.XmlWhite", spec := "xmlWhite", inPlace := ["internal/bytealg.IndexByteString", "internal/bytealg.IndexString", "internal/bytealg.CountString", "internal/abi.NoEscape", "internal/bytealg.MakeNoZero"], recurses := true, named := ["internal/bytealg.MaxLen", "unicode/utf8.first", "unicode/utf8.acceptRanges"], apart := false, laid := [("unicode/utf8.acceptRanges", laid_unicode_utf8_acceptRanges), ("unicode/utf8.first", laid_unicode_utf8_first)], narrowed := true }
def XmlWhiteUptoSaid : Prop := xmlWhiteUptoRow.holds Tryd.pinned (OpenSpec.upto xmlWhiteSpec)

/-- 'stowagelaw13.XmlPrints', WHERE WHAT IT READS IS OF BULK AT MOST 1048576: true; the input reads as it did. -/
def xmlPrintsUptoRow : OpenClaim := { program := "ytklcgncaclggcaadoor", sum := "6389d5a36349e9cf54de21f263753ef96c2a38531d771c72d21658fb1c225733", func := "stowage/stowagelaw13.XmlPrints", spec := "xmlPrints", inPlace := ["internal/bytealg.IndexByteString", "internal/bytealg.IndexString", "internal/bytealg.CountString", "internal/abi.NoEscape", "internal/bytealg.MakeNoZero"], recurses := true, named := ["internal/bytealg.MaxLen", "unicode/utf8.first", "unicode/utf8.acceptRanges"], loops := true, apart := false, laid := [("unicode/utf8.acceptRanges", laid_unicode_utf8_acceptRanges), ("unicode/utf8.first", laid_unicode_utf8_first)], narrowed := true }
def XmlPrintsUptoSaid : Prop := xmlPrintsUptoRow.holds Tryd.pinned (OpenSpec.upto xmlPrintsSpec)

end Rows
end Go.Proofs.YtklcgncaclggcaaDoor
