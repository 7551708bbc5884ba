/-
  No cell of these rows narrows 'for every input' (looked for: loops, veiled, ifaces, maps, wideKeys, modest, calm, conditions, laid).
  DERIVED. THE GIVEN ROWS OF THIS SEAT. 4 by the template 'for every input the law returns true; each argument reads behind the call as it read before'; 0 by the template 'total and deterministic' (their statements: YtiaihkcadffllaaTotals.lean).
  GIVEN WITH THE SEED: the statements are not yours to turn. If you find one false, say at which input.
  Laid BY PROGRAM, IN A SANDBOX (cutbox-rows.mjs): the forced cells as the released guide's own fill.sh prints them over the translation a6e527aacfed8190… (all of the seat's roots in one cut). By AI agents, Wed Nov 11 2026. No macro, syntax, notation, axiom, sorry.
-/
import Derived.Test.YtiaihkcadffllaaChecked
import GoSem.Claim
import GoSem.ClaimJoined
import GoSem.ClaimMapViews
import Derived.JoinedTies
import Derived.KernelRfl
namespace Go.Proofs.Ytiaihkcadffllaa
/- THE CELL 'sum', in the pinned program and in every row, IS THE sha256 OF THE DUMP (.gsa) THAT YtiaihkcadffllaaProg.lean LOADS. Nothing in Lean hashes anything: it is a label: what it is worth is what the hold of that sum in a sandbox is worth. -/
noncomputable def Try.pinned : Pinned := { name := "ytiaihkcadffllaa", sum := "a6e527aacfed8190401d57887bc0dc70e6aaca0b972d24566c796543c8fd9934", checked := Try.checked }
namespace Rows
def none {H : Type} : Left H := { results := [], args := [] }

/-- 'stowagelaw25.CorsMatches': WHATEVER THE INPUT: true; the input reads as it did. -/
def corsMatchesSpec : ChangeSpec := { name := "corsMatches", fn := fun _ => fun
  | [d1, d2] => { results := [.lit (.bool true)], args := [d1, d2] }
  | _ => none }
def corsMatchesRow : OpenClaim := { program := "ytiaihkcadffllaa", sum := "a6e527aacfed8190401d57887bc0dc70e6aaca0b972d24566c796543c8fd9934", func := "stowage/stowagelaw25.CorsMatches", spec := "corsMatches", inPlace := ["internal/bytealg.IndexByteString", "internal/bytealg.IndexString"], unfollowed := true, recurses := true, named := ["internal/bytealg.MaxLen"], apart := false }
def CorsMatchesSaid : Prop := corsMatchesRow.holds Try.pinned (OpenSpec.ofChange corsMatchesSpec)

/-- ITS FALSE NEIGHBOUR: 'it returns false'. Refute it at one input. -/
def corsMatchesWrong : ChangeSpec := { name := "corsMatches", fn := fun _ => fun
  | [d1, d2] => { results := [.lit (.bool false)], args := [d1, d2] }
  | _ => none }
def CorsMatchesWrongFalsely : Prop := corsMatchesRow.holds Try.pinned (OpenSpec.ofChange corsMatchesWrong)

/-- 'stowagelaw25.CorsStars': WHATEVER THE INPUT: true; the input reads as it did. -/
def corsStarsSpec : ChangeSpec := { name := "corsStars", fn := fun _ => fun
  | [d1, d2, d3] => { results := [.lit (.bool true)], args := [d1, d2, d3] }
  | _ => none }
def corsStarsRow : OpenClaim := { program := "ytiaihkcadffllaa", sum := "a6e527aacfed8190401d57887bc0dc70e6aaca0b972d24566c796543c8fd9934", func := "stowage/stowagelaw25.CorsStars", spec := "corsStars", inPlace := ["internal/bytealg.IndexByteString", "internal/bytealg.IndexString"], unfollowed := true, recurses := true, named := ["internal/bytealg.MaxLen"], apart := false }
def CorsStarsSaid : Prop := corsStarsRow.holds Try.pinned (OpenSpec.ofChange corsStarsSpec)

/-- ITS FALSE NEIGHBOUR: 'it returns false'. Refute it at one input. -/
def corsStarsWrong : ChangeSpec := { name := "corsStars", fn := fun _ => fun
  | [d1, d2, d3] => { results := [.lit (.bool false)], args := [d1, d2, d3] }
  | _ => none }
def CorsStarsWrongFalsely : Prop := corsStarsRow.holds Try.pinned (OpenSpec.ofChange corsStarsWrong)

/-- 'stowagelaw25.CorsFirst': WHATEVER THE INPUT: true; the input reads as it did. -/
def corsFirstSpec : ChangeSpec := { name := "corsFirst", fn := fun _ => fun
  | [d1, d2, d3] => { results := [.lit (.bool true)], args := [d1, d2, d3] }
  | _ => none }
def corsFirstRow : OpenClaim := { program := "ytiaihkcadffllaa", sum := "a6e527aacfed8190401d57887bc0dc70e6aaca0b972d24566c796543c8fd9934", func := "stowage/stowagelaw25.CorsFirst", spec := "corsFirst", inPlace := ["internal/bytealg.IndexByteString", "internal/bytealg.IndexString"], unfollowed := true, recurses := true, named := ["internal/bytealg.MaxLen"], apart := false }
def CorsFirstSaid : Prop := corsFirstRow.holds Try.pinned (OpenSpec.ofChange corsFirstSpec)

/-- ITS FALSE NEIGHBOUR: 'it returns false'. Refute it at one input. -/
def corsFirstWrong : ChangeSpec := { name := "corsFirst", fn := fun _ => fun
  | [d1, d2, d3] => { results := [.lit (.bool false)], args := [d1, d2, d3] }
  | _ => none }
def CorsFirstWrongFalsely : Prop := corsFirstRow.holds Try.pinned (OpenSpec.ofChange corsFirstWrong)

/-- 'stowagelaw25.CorsRules': WHATEVER THE INPUT: true; the input reads as it did. -/
def corsRulesSpec : ChangeSpec := { name := "corsRules", fn := fun _ => fun
  | [d1, d2, d3, d4] => { results := [.lit (.bool true)], args := [d1, d2, d3, d4] }
  | _ => none }
def corsRulesRow : OpenClaim := { program := "ytiaihkcadffllaa", sum := "a6e527aacfed8190401d57887bc0dc70e6aaca0b972d24566c796543c8fd9934", func := "stowage/stowagelaw25.CorsRules", spec := "corsRules", inPlace := ["internal/bytealg.IndexByteString", "internal/bytealg.IndexString"], unfollowed := true, recurses := true, named := ["internal/bytealg.MaxLen"], apart := false }
def CorsRulesSaid : Prop := corsRulesRow.holds Try.pinned (OpenSpec.ofChange corsRulesSpec)

/-- ITS FALSE NEIGHBOUR: 'it returns false'. Refute it at one input. -/
def corsRulesWrong : ChangeSpec := { name := "corsRules", fn := fun _ => fun
  | [d1, d2, d3, d4] => { results := [.lit (.bool false)], args := [d1, d2, d3, d4] }
  | _ => none }
def CorsRulesWrongFalsely : Prop := corsRulesRow.holds Try.pinned (OpenSpec.ofChange corsRulesWrong)

/- THE SECOND FORM. 'bulk': how many values and letters a reading holds, each counted each time it is reached (what is shared counts as often as it is met; a slice's spare places count too). A statement '..UptoSaid' is the law's where the arguments, and the package variables that the reading takes, are together of bulk at most 1048576: NARROWER than '..Said'. Prove '..Said' where nothing that the law and all that it calls make is longer than what came in: it says more and counts as full. Else prove '..UptoSaid'. A law counts once. -/
mutual
def uptoBulk {H : Type} : DataW H → Nat
  | .lit (.string bytes) => bytes.length + 1
  | .lit _ => 1
  | .nil => 1
  | .ptr d => uptoBulk d + 1
  | .slice elems spare => uptoBulkAll elems + uptoBulkAll spare + 1
  | .agg parts => uptoBulkAll parts + 1
  | .iface _ d => uptoBulk d + 1
  | .map entries => uptoBulkEntries entries + 1
  | .held _ => 1
def uptoBulkAll {H : Type} : List (DataW H) → Nat
  | [] => 0
  | d :: r => uptoBulk d + uptoBulkAll r
def uptoBulkEntries {H : Type} : List (Lit × DataW H) → Nat
  | [] => 0
  | x :: r => uptoBulkEntry x + uptoBulkEntries r
def uptoBulkEntry {H : Type} : Lit × DataW H → Nat
  | (.string bytes, d) => bytes.length + uptoBulk d + 1
  | (_, d) => uptoBulk d + 1
 end
def uptoSmall : (H : Type) → List (DataW H) → Bool := fun _ ds => decide (uptoBulkAll ds ≤ 1048576)
def OpenSpec.upto (s : _root_.Go.ChangeSpec) : _root_.Go.OpenSpec := { _root_.Go.OpenSpec.ofChange s with cond := some uptoSmall }

/-- 'stowagelaw25.CorsMatches', WHERE WHAT IT READS IS OF BULK AT MOST 1048576: true; the input reads as it did. -/
def corsMatchesUptoRow : OpenClaim := { program := "ytiaihkcadffllaa", sum := "a6e527aacfed8190401d57887bc0dc70e6aaca0b972d24566c796543c8fd9934", func := "stowage/stowagelaw25.CorsMatches", spec := "corsMatches", inPlace := ["internal/bytealg.IndexByteString", "internal/bytealg.IndexString"], unfollowed := true, recurses := true, named := ["internal/bytealg.MaxLen"], apart := false, narrowed := true }
def CorsMatchesUptoSaid : Prop := corsMatchesUptoRow.holds Try.pinned (OpenSpec.upto corsMatchesSpec)

/-- 'stowagelaw25.CorsStars', WHERE WHAT IT READS IS OF BULK AT MOST 1048576: true; the input reads as it did. -/
def corsStarsUptoRow : OpenClaim := { program := "ytiaihkcadffllaa", sum := "a6e527aacfed8190401d57887bc0dc70e6aaca0b972d24566c796543c8fd9934", func := "stowage/stowagelaw25.CorsStars", spec := "corsStars", inPlace := ["internal/bytealg.IndexByteString", "internal/bytealg.IndexString"], unfollowed := true, recurses := true, named := ["internal/bytealg.MaxLen"], apart := false, narrowed := true }
def CorsStarsUptoSaid : Prop := corsStarsUptoRow.holds Try.pinned (OpenSpec.upto corsStarsSpec)

/-- 'stowagelaw25.CorsFirst', WHERE WHAT IT READS IS OF BULK AT MOST 1048576: true; the input reads as it did. -/
def corsFirstUptoRow : OpenClaim := { program := "ytiaihkcadffllaa", sum := "a6e527aacfed8190401d57887bc0dc70e6aaca0b972d24566c796543c8fd9934", func := "stowage/stowagelaw25.CorsFirst", spec := "corsFirst", inPlace := ["internal/bytealg.IndexByteString", "internal/bytealg.IndexString"], unfollowed := true, recurses := true, named := ["internal/bytealg.MaxLen"], apart := false, narrowed := true }
def CorsFirstUptoSaid : Prop := corsFirstUptoRow.holds Try.pinned (OpenSpec.upto corsFirstSpec)

/-- 'stowagelaw25.CorsRules', WHERE WHAT IT READS IS OF BULK AT MOST 1048576: true; the input reads as it did. -/
def corsRulesUptoRow : OpenClaim := { program := "ytiaihkcadffllaa", sum := "a6e527aacfed8190401d57887bc0dc70e6aaca0b972d24566c796543c8fd9934", func := "stowage/stowagelaw25.CorsRules", spec := "corsRules", inPlace := ["internal/bytealg.IndexByteString", "internal/bytealg.IndexString"], unfollowed := true, recurses := true, named := ["internal/bytealg.MaxLen"], apart := false, narrowed := true }
def CorsRulesUptoSaid : Prop := corsRulesUptoRow.holds Try.pinned (OpenSpec.upto corsRulesSpec)

end Rows
end Go.Proofs.Ytiaihkcadffllaa
