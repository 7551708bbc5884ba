/-
  No cell of these rows narrows 'for every input' (looked for: loops, veiled, ifaces, maps, wideKeys, modest, calm, conditions, laid).
  DERIVED. THE GIVEN ROWS OF THIS SEAT. 8 by the template 'for every input the law returns true; each argument reads behind the call as it read before'; 0 by the template 'total and deterministic' (their statements: YthjofhklkkmdoaaTotals.lean).
  GIVEN WITH THE SEED: the statements are not yours to turn. If you find one false, say at which input.
  Laid BY PROGRAM, IN A SANDBOX (cutbox-rows.mjs): the forced cells as the released guide's own fill.sh prints them over the translation e6b1642b3cc9843c… (all of the seat's roots in one cut). By AI agents, Wed Nov 11 2026. No macro, syntax, notation, axiom, sorry.
-/
import Derived.Test.YthjofhklkkmdoaaChecked
import GoSem.Claim
import GoSem.ClaimJoined
import GoSem.ClaimMapViews
import Derived.JoinedTies
import Derived.KernelRfl
namespace Go.Proofs.Ythjofhklkkmdoaa
/- THE CELL 'sum', in the pinned program and in every row, IS THE sha256 OF THE DUMP (.gsa) THAT YthjofhklkkmdoaaProg.lean LOADS. Nothing in Lean hashes anything: it is a label: what it is worth is what the hold of that sum in a sandbox is worth. -/
noncomputable def Try.pinned : Pinned := { name := "ythjofhklkkmdoaa", sum := "e6b1642b3cc9843ca64682b262975c8bb1dd2a414b2122564389bed11c3c98eb", checked := Try.checked }
namespace Rows
def none {H : Type} : Left H := { results := [], args := [] }

/-- 'stowagelaw21.CondTags': WHATEVER THE INPUT: true; the input reads as it did. -/
def condTagsSpec : ChangeSpec := { name := "condTags", fn := fun _ => fun
  | [d] => { results := [.lit (.bool true)], args := [d] }
  | _ => none }
def condTagsRow : OpenClaim := { program := "ythjofhklkkmdoaa", sum := "e6b1642b3cc9843ca64682b262975c8bb1dd2a414b2122564389bed11c3c98eb", func := "stowage/stowagelaw21.CondTags", spec := "condTags", inPlace := ["internal/bytealg.IndexByteString", "internal/bytealg.IndexString"], unfollowed := true, recurses := true, named := ["internal/bytealg.MaxLen"], apart := false }
def CondTagsSaid : Prop := condTagsRow.holds Try.pinned (OpenSpec.ofChange condTagsSpec)

/-- ITS FALSE NEIGHBOUR: 'it returns false'. Refute it at one input. -/
def condTagsWrong : ChangeSpec := { name := "condTags", fn := fun _ => fun
  | [d] => { results := [.lit (.bool false)], args := [d] }
  | _ => none }
def CondTagsWrongFalsely : Prop := condTagsRow.holds Try.pinned (OpenSpec.ofChange condTagsWrong)

/-- 'stowagelaw21.CondRanges': WHATEVER THE INPUT: true; the input reads as it did. -/
def condRangesSpec : ChangeSpec := { name := "condRanges", fn := fun _ => fun
  | [d1, d2] => { results := [.lit (.bool true)], args := [d1, d2] }
  | _ => none }
def condRangesRow : OpenClaim := { program := "ythjofhklkkmdoaa", sum := "e6b1642b3cc9843ca64682b262975c8bb1dd2a414b2122564389bed11c3c98eb", func := "stowage/stowagelaw21.CondRanges", spec := "condRanges", inPlace := ["internal/bytealg.IndexByteString", "internal/bytealg.IndexString"], unfollowed := true, recurses := true, named := ["internal/bytealg.MaxLen"], apart := false }
def CondRangesSaid : Prop := condRangesRow.holds Try.pinned (OpenSpec.ofChange condRangesSpec)

/-- ITS FALSE NEIGHBOUR: 'it returns false'. Refute it at one input. -/
def condRangesWrong : ChangeSpec := { name := "condRanges", fn := fun _ => fun
  | [d1, d2] => { results := [.lit (.bool false)], args := [d1, d2] }
  | _ => none }
def CondRangesWrongFalsely : Prop := condRangesRow.holds Try.pinned (OpenSpec.ofChange condRangesWrong)

/-- 'stowagelaw21.CondPairs': WHATEVER THE INPUT: true; the input reads as it did. -/
def condPairsSpec : ChangeSpec := { name := "condPairs", fn := fun _ => fun
  | [d1, d2, d3, d4] => { results := [.lit (.bool true)], args := [d1, d2, d3, d4] }
  | _ => none }
def condPairsRow : OpenClaim := { program := "ythjofhklkkmdoaa", sum := "e6b1642b3cc9843ca64682b262975c8bb1dd2a414b2122564389bed11c3c98eb", func := "stowage/stowagelaw21.CondPairs", spec := "condPairs", inPlace := ["internal/bytealg.IndexByteString", "internal/bytealg.IndexString"], unfollowed := true, recurses := true, named := ["internal/bytealg.MaxLen"], apart := false }
def CondPairsSaid : Prop := condPairsRow.holds Try.pinned (OpenSpec.ofChange condPairsSpec)

/-- ITS FALSE NEIGHBOUR: 'it returns false'. Refute it at one input. -/
def condPairsWrong : ChangeSpec := { name := "condPairs", fn := fun _ => fun
  | [d1, d2, d3, d4] => { results := [.lit (.bool false)], args := [d1, d2, d3, d4] }
  | _ => none }
def CondPairsWrongFalsely : Prop := condPairsRow.holds Try.pinned (OpenSpec.ofChange condPairsWrong)

/-- 'stowagelaw21.CondPieces': WHATEVER THE INPUT: true; the input reads as it did. -/
def condPiecesSpec : ChangeSpec := { name := "condPieces", fn := fun _ => fun
  | [d1, d2, d3] => { results := [.lit (.bool true)], args := [d1, d2, d3] }
  | _ => none }
def condPiecesRow : OpenClaim := { program := "ythjofhklkkmdoaa", sum := "e6b1642b3cc9843ca64682b262975c8bb1dd2a414b2122564389bed11c3c98eb", func := "stowage/stowagelaw21.CondPieces", spec := "condPieces", inPlace := ["internal/bytealg.IndexByteString", "internal/bytealg.IndexString"], unfollowed := true, recurses := true, named := ["internal/bytealg.MaxLen"], apart := false }
def CondPiecesSaid : Prop := condPiecesRow.holds Try.pinned (OpenSpec.ofChange condPiecesSpec)

/-- ITS FALSE NEIGHBOUR: 'it returns false'. Refute it at one input. -/
def condPiecesWrong : ChangeSpec := { name := "condPieces", fn := fun _ => fun
  | [d1, d2, d3] => { results := [.lit (.bool false)], args := [d1, d2, d3] }
  | _ => none }
def CondPiecesWrongFalsely : Prop := condPiecesRow.holds Try.pinned (OpenSpec.ofChange condPiecesWrong)

/-- 'stowagelaw21.CondDates': WHATEVER THE INPUT: true; the input reads as it did. -/
def condDatesSpec : ChangeSpec := { name := "condDates", fn := fun _ => fun
  | [d1, d2] => { results := [.lit (.bool true)], args := [d1, d2] }
  | _ => none }
def condDatesRow : OpenClaim := { program := "ythjofhklkkmdoaa", sum := "e6b1642b3cc9843ca64682b262975c8bb1dd2a414b2122564389bed11c3c98eb", func := "stowage/stowagelaw21.CondDates", spec := "condDates", inPlace := ["internal/bytealg.IndexByteString", "internal/bytealg.IndexString"], unfollowed := true, recurses := true, named := ["internal/bytealg.MaxLen"], apart := false }
def CondDatesSaid : Prop := condDatesRow.holds Try.pinned (OpenSpec.ofChange condDatesSpec)

/-- ITS FALSE NEIGHBOUR: 'it returns false'. Refute it at one input. -/
def condDatesWrong : ChangeSpec := { name := "condDates", fn := fun _ => fun
  | [d1, d2] => { results := [.lit (.bool false)], args := [d1, d2] }
  | _ => none }
def CondDatesWrongFalsely : Prop := condDatesRow.holds Try.pinned (OpenSpec.ofChange condDatesWrong)

/-- 'stowagelaw21.CondFirst': WHATEVER THE INPUT: true; the input reads as it did. -/
def condFirstSpec : ChangeSpec := { name := "condFirst", fn := fun _ => fun
  | [d1, d2, d3] => { results := [.lit (.bool true)], args := [d1, d2, d3] }
  | _ => none }
def condFirstRow : OpenClaim := { program := "ythjofhklkkmdoaa", sum := "e6b1642b3cc9843ca64682b262975c8bb1dd2a414b2122564389bed11c3c98eb", func := "stowage/stowagelaw21.CondFirst", spec := "condFirst", inPlace := ["internal/bytealg.IndexByteString", "internal/bytealg.IndexString"], unfollowed := true, recurses := true, named := ["internal/bytealg.MaxLen"], apart := false }
def CondFirstSaid : Prop := condFirstRow.holds Try.pinned (OpenSpec.ofChange condFirstSpec)

/-- ITS FALSE NEIGHBOUR: 'it returns false'. Refute it at one input. -/
def condFirstWrong : ChangeSpec := { name := "condFirst", fn := fun _ => fun
  | [d1, d2, d3] => { results := [.lit (.bool false)], args := [d1, d2, d3] }
  | _ => none }
def CondFirstWrongFalsely : Prop := condFirstRow.holds Try.pinned (OpenSpec.ofChange condFirstWrong)

/-- 'stowagelaw21.CondAsks': WHATEVER THE INPUT: true; the input reads as it did. -/
def condAsksSpec : ChangeSpec := { name := "condAsks", fn := fun _ => fun
  | [d1, d2, d3, d4] => { results := [.lit (.bool true)], args := [d1, d2, d3, d4] }
  | _ => none }
def condAsksRow : OpenClaim := { program := "ythjofhklkkmdoaa", sum := "e6b1642b3cc9843ca64682b262975c8bb1dd2a414b2122564389bed11c3c98eb", func := "stowage/stowagelaw21.CondAsks", spec := "condAsks", inPlace := ["internal/bytealg.IndexByteString", "internal/bytealg.IndexString"], unfollowed := true, recurses := true, named := ["internal/bytealg.MaxLen"], apart := false }
def CondAsksSaid : Prop := condAsksRow.holds Try.pinned (OpenSpec.ofChange condAsksSpec)

/-- ITS FALSE NEIGHBOUR: 'it returns false'. Refute it at one input. -/
def condAsksWrong : ChangeSpec := { name := "condAsks", fn := fun _ => fun
  | [d1, d2, d3, d4] => { results := [.lit (.bool false)], args := [d1, d2, d3, d4] }
  | _ => none }
def CondAsksWrongFalsely : Prop := condAsksRow.holds Try.pinned (OpenSpec.ofChange condAsksWrong)

/-- 'stowagelaw21.CondDigests': WHATEVER THE INPUT: true; the input reads as it did. -/
def condDigestsSpec : ChangeSpec := { name := "condDigests", fn := fun _ => fun
  | [d1, d2] => { results := [.lit (.bool true)], args := [d1, d2] }
  | _ => none }
def condDigestsRow : OpenClaim := { program := "ythjofhklkkmdoaa", sum := "e6b1642b3cc9843ca64682b262975c8bb1dd2a414b2122564389bed11c3c98eb", func := "stowage/stowagelaw21.CondDigests", spec := "condDigests", inPlace := ["internal/bytealg.IndexByteString", "internal/bytealg.IndexString"], unfollowed := true, recurses := true, named := ["internal/bytealg.MaxLen"], apart := false }
def CondDigestsSaid : Prop := condDigestsRow.holds Try.pinned (OpenSpec.ofChange condDigestsSpec)

/-- ITS FALSE NEIGHBOUR: 'it returns false'. Refute it at one input. -/
def condDigestsWrong : ChangeSpec := { name := "condDigests", fn := fun _ => fun
  | [d1, d2] => { results := [.lit (.bool false)], args := [d1, d2] }
  | _ => none }
def CondDigestsWrongFalsely : Prop := condDigestsRow.holds Try.pinned (OpenSpec.ofChange condDigestsWrong)

/- THE SECOND FORM. 'bulk': how many values and letters a reading holds, each counted each time it is reached (what is shared counts as often as it is met; a slice's spare places count too). A statement '..UptoSaid' is the law's where the arguments, and the package variables that the reading takes, are together of bulk at most 1048576: NARROWER than '..Said'. Prove '..Said' where nothing that the law and all that it calls make is longer than what came in: it says more and counts as full. Else prove '..UptoSaid'. A law counts once. -/
mutual
def uptoBulk {H : Type} : DataW H → Nat
  | .lit (.string bytes) => bytes.length + 1
  | .lit _ => 1
  | .nil => 1
  | .ptr d => uptoBulk d + 1
  | .slice elems spare => uptoBulkAll elems + uptoBulkAll spare + 1
  | .agg parts => uptoBulkAll parts + 1
  | .iface _ d => uptoBulk d + 1
  | .map entries => uptoBulkEntries entries + 1
  | .held _ => 1
def uptoBulkAll {H : Type} : List (DataW H) → Nat
  | [] => 0
  | d :: r => uptoBulk d + uptoBulkAll r
def uptoBulkEntries {H : Type} : List (Lit × DataW H) → Nat
  | [] => 0
  | x :: r => uptoBulkEntry x + uptoBulkEntries r
def uptoBulkEntry {H : Type} : Lit × DataW H → Nat
  | (.string bytes, d) => bytes.length + uptoBulk d + 1
  | (_, d) => uptoBulk d + 1
 end
def uptoSmall : (H : Type) → List (DataW H) → Bool := fun _ ds => decide (uptoBulkAll ds ≤ 1048576)
def OpenSpec.upto (s : _root_.Go.ChangeSpec) : _root_.Go.OpenSpec := { _root_.Go.OpenSpec.ofChange s with cond := some uptoSmall }

/-- 'stowagelaw21.CondTags', WHERE WHAT IT READS IS OF BULK AT MOST 1048576: true; the input reads as it did. -/
def condTagsUptoRow : OpenClaim := { program := "ythjofhklkkmdoaa", sum := "e6b1642b3cc9843ca64682b262975c8bb1dd2a414b2122564389bed11c3c98eb", func := "stowage/stowagelaw21.CondTags", spec := "condTags", inPlace := ["internal/bytealg.IndexByteString", "internal/bytealg.IndexString"], unfollowed := true, recurses := true, named := ["internal/bytealg.MaxLen"], apart := false, narrowed := true }
def CondTagsUptoSaid : Prop := condTagsUptoRow.holds Try.pinned (OpenSpec.upto condTagsSpec)

/-- 'stowagelaw21.CondRanges', WHERE WHAT IT READS IS OF BULK AT MOST 1048576: true; the input reads as it did. -/
def condRangesUptoRow : OpenClaim := { program := "ythjofhklkkmdoaa", sum := "e6b1642b3cc9843ca64682b262975c8bb1dd2a414b2122564389bed11c3c98eb", func := "stowage/stowagelaw21.CondRanges", spec := "condRanges", inPlace := ["internal/bytealg.IndexByteString", "internal/bytealg.IndexString"], unfollowed := true, recurses := true, named := ["internal/bytealg.MaxLen"], apart := false, narrowed := true }
def CondRangesUptoSaid : Prop := condRangesUptoRow.holds Try.pinned (OpenSpec.upto condRangesSpec)

/-- 'stowagelaw21.CondPairs', WHERE WHAT IT READS IS OF BULK AT MOST 1048576: true; the input reads as it did. -/
def condPairsUptoRow : OpenClaim := { program := "ythjofhklkkmdoaa", sum := "e6b1642b3cc9843ca64682b262975c8bb1dd2a414b2122564389bed11c3c98eb", func := "stowage/stowagelaw21.CondPairs", spec := "condPairs", inPlace := ["internal/bytealg.IndexByteString", "internal/bytealg.IndexString"], unfollowed := true, recurses := true, named := ["internal/bytealg.MaxLen"], apart := false, narrowed := true }
def CondPairsUptoSaid : Prop := condPairsUptoRow.holds Try.pinned (OpenSpec.upto condPairsSpec)

/-- 'stowagelaw21.CondPieces', WHERE WHAT IT READS IS OF BULK AT MOST 1048576: true; the input reads as it did. -/
def condPiecesUptoRow : OpenClaim := { program := "ythjofhklkkmdoaa", sum := "e6b1642b3cc9843ca64682b262975c8bb1dd2a414b2122564389bed11c3c98eb", func := "stowage/stowagelaw21.CondPieces", spec := "condPieces", inPlace := ["internal/bytealg.IndexByteString", "internal/bytealg.IndexString"], unfollowed := true, recurses := true, named := ["internal/bytealg.MaxLen"], apart := false, narrowed := true }
def CondPiecesUptoSaid : Prop := condPiecesUptoRow.holds Try.pinned (OpenSpec.upto condPiecesSpec)

/-- 'stowagelaw21.CondDates', WHERE WHAT IT READS IS OF BULK AT MOST 1048576: true; the input reads as it did. -/
def condDatesUptoRow : OpenClaim := { program := "ythjofhklkkmdoaa", sum := "e6b1642b3cc9843ca64682b262975c8bb1dd2a414b2122564389bed11c3c98eb", func := "stowage/stowagelaw21.CondDates", spec := "condDates", inPlace := ["internal/bytealg.IndexByteString", "internal/bytealg.IndexString"], unfollowed := true, recurses := true, named := ["internal/bytealg.MaxLen"], apart := false, narrowed := true }
def CondDatesUptoSaid : Prop := condDatesUptoRow.holds Try.pinned (OpenSpec.upto condDatesSpec)

/-- 'stowagelaw21.CondFirst', WHERE WHAT IT READS IS OF BULK AT MOST 1048576: true; the input reads as it did. -/
def condFirstUptoRow : OpenClaim := { program := "ythjofhklkkmdoaa", sum := "e6b1642b3cc9843ca64682b262975c8bb1dd2a414b2122564389bed11c3c98eb", func := "stowage/stowagelaw21.CondFirst", spec := "condFirst", inPlace := ["internal/bytealg.IndexByteString", "internal/bytealg.IndexString"], unfollowed := true, recurses := true, named := ["internal/bytealg.MaxLen"], apart := false, narrowed := true }
def CondFirstUptoSaid : Prop := condFirstUptoRow.holds Try.pinned (OpenSpec.upto condFirstSpec)

/-- 'stowagelaw21.CondAsks', WHERE WHAT IT READS IS OF BULK AT MOST 1048576: true; the input reads as it did. -/
def condAsksUptoRow : OpenClaim := { program := "ythjofhklkkmdoaa", sum := "e6b1642b3cc9843ca64682b262975c8bb1dd2a414b2122564389bed11c3c98eb", func := "stowage/stowagelaw21.CondAsks", spec := "condAsks", inPlace := ["internal/bytealg.IndexByteString", "internal/bytealg.IndexString"], unfollowed := true, recurses := true, named := ["internal/bytealg.MaxLen"], apart := false, narrowed := true }
def CondAsksUptoSaid : Prop := condAsksUptoRow.holds Try.pinned (OpenSpec.upto condAsksSpec)

/-- 'stowagelaw21.CondDigests', WHERE WHAT IT READS IS OF BULK AT MOST 1048576: true; the input reads as it did. -/
def condDigestsUptoRow : OpenClaim := { program := "ythjofhklkkmdoaa", sum := "e6b1642b3cc9843ca64682b262975c8bb1dd2a414b2122564389bed11c3c98eb", func := "stowage/stowagelaw21.CondDigests", spec := "condDigests", inPlace := ["internal/bytealg.IndexByteString", "internal/bytealg.IndexString"], unfollowed := true, recurses := true, named := ["internal/bytealg.MaxLen"], apart := false, narrowed := true }
def CondDigestsUptoSaid : Prop := condDigestsUptoRow.holds Try.pinned (OpenSpec.upto condDigestsSpec)

end Rows
end Go.Proofs.Ythjofhklkkmdoaa
