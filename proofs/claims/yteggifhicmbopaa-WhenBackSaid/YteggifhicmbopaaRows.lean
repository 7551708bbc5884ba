/-
  No cell of these rows narrows 'for every input' (looked for: loops, veiled, ifaces, maps, wideKeys, modest, calm, conditions, laid).
  DERIVED. THE GIVEN ROWS OF THIS SEAT. 5 by the template 'for every input the law returns true; each argument reads behind the call as it read before'; 0 by the template 'total and deterministic' (their statements: YteggifhicmbopaaTotals.lean).
  GIVEN WITH THE SEED: the statements are not yours to turn. If you find one false, say at which input.
  Laid BY PROGRAM, IN A SANDBOX (cutbox-rows.mjs): the forced cells as the released guide's own fill.sh prints them over the translation 8857a0ca2b2f189d… (all of the seat's roots in one cut). By AI agents, Wed Nov 11 2026. No macro, syntax, notation, axiom, sorry.
-/
import Derived.Test.YteggifhicmbopaaChecked
import GoSem.Claim
import GoSem.ClaimJoined
import GoSem.ClaimMapViews
import Derived.JoinedTies
import Derived.KernelRfl
namespace Go.Proofs.Yteggifhicmbopaa
/- THE CELL 'sum', in the pinned program and in every row, IS THE sha256 OF THE DUMP (.gsa) THAT YteggifhicmbopaaProg.lean LOADS. Nothing in Lean hashes anything: it is a label: what it is worth is what the hold of that sum in a sandbox is worth. -/
noncomputable def Try.pinned : Pinned := { name := "yteggifhicmbopaa", sum := "8857a0ca2b2f189d3fb097c383db192041d7cef7a196538516078cdca3e0378c", checked := Try.checked }
namespace Rows
def none {H : Type} : Left H := { results := [], args := [] }

/-- 'stowagelaw4.WhenSteps': WHATEVER THE INPUT: true; the input reads as it did. -/
def whenStepsSpec : ChangeSpec := { name := "whenSteps", fn := fun _ => fun
  | [d] => { results := [.lit (.bool true)], args := [d] }
  | _ => none }
def whenStepsRow : OpenClaim := { program := "yteggifhicmbopaa", sum := "8857a0ca2b2f189d3fb097c383db192041d7cef7a196538516078cdca3e0378c", func := "stowage/stowagelaw4.WhenSteps", spec := "whenSteps", unfollowed := true, recurses := true, apart := false }
def WhenStepsSaid : Prop := whenStepsRow.holds Try.pinned (OpenSpec.ofChange whenStepsSpec)

/-- ITS FALSE NEIGHBOUR: 'it returns false'. Refute it at one input. -/
def whenStepsWrong : ChangeSpec := { name := "whenSteps", fn := fun _ => fun
  | [d] => { results := [.lit (.bool false)], args := [d] }
  | _ => none }
def WhenStepsWrongFalsely : Prop := whenStepsRow.holds Try.pinned (OpenSpec.ofChange whenStepsWrong)

/-- 'stowagelaw4.WhenCivil': WHATEVER THE INPUT: true; the input reads as it did. -/
def whenCivilSpec : ChangeSpec := { name := "whenCivil", fn := fun _ => fun
  | [d1, d2, d3, d4, d5, d6, d7] => { results := [.lit (.bool true)], args := [d1, d2, d3, d4, d5, d6, d7] }
  | _ => none }
def whenCivilRow : OpenClaim := { program := "yteggifhicmbopaa", sum := "8857a0ca2b2f189d3fb097c383db192041d7cef7a196538516078cdca3e0378c", func := "stowage/stowagelaw4.WhenCivil", spec := "whenCivil", unfollowed := true, recurses := true, apart := false }
def WhenCivilSaid : Prop := whenCivilRow.holds Try.pinned (OpenSpec.ofChange whenCivilSpec)

/-- ITS FALSE NEIGHBOUR: 'it returns false'. Refute it at one input. -/
def whenCivilWrong : ChangeSpec := { name := "whenCivil", fn := fun _ => fun
  | [d1, d2, d3, d4, d5, d6, d7] => { results := [.lit (.bool false)], args := [d1, d2, d3, d4, d5, d6, d7] }
  | _ => none }
def WhenCivilWrongFalsely : Prop := whenCivilRow.holds Try.pinned (OpenSpec.ofChange whenCivilWrong)

/-- 'stowagelaw4.WhenTexts': WHATEVER THE INPUT: true; the input reads as it did. -/
def whenTextsSpec : ChangeSpec := { name := "whenTexts", fn := fun _ => fun
  | [d] => { results := [.lit (.bool true)], args := [d] }
  | _ => none }
def whenTextsRow : OpenClaim := { program := "yteggifhicmbopaa", sum := "8857a0ca2b2f189d3fb097c383db192041d7cef7a196538516078cdca3e0378c", func := "stowage/stowagelaw4.WhenTexts", spec := "whenTexts", unfollowed := true, recurses := true, apart := false }
def WhenTextsSaid : Prop := whenTextsRow.holds Try.pinned (OpenSpec.ofChange whenTextsSpec)

/-- ITS FALSE NEIGHBOUR: 'it returns false'. Refute it at one input. -/
def whenTextsWrong : ChangeSpec := { name := "whenTexts", fn := fun _ => fun
  | [d] => { results := [.lit (.bool false)], args := [d] }
  | _ => none }
def WhenTextsWrongFalsely : Prop := whenTextsRow.holds Try.pinned (OpenSpec.ofChange whenTextsWrong)

/-- 'stowagelaw4.WhenParses': WHATEVER THE INPUT: true; the input reads as it did. -/
def whenParsesSpec : ChangeSpec := { name := "whenParses", fn := fun _ => fun
  | [d] => { results := [.lit (.bool true)], args := [d] }
  | _ => none }
def whenParsesRow : OpenClaim := { program := "yteggifhicmbopaa", sum := "8857a0ca2b2f189d3fb097c383db192041d7cef7a196538516078cdca3e0378c", func := "stowage/stowagelaw4.WhenParses", spec := "whenParses", inPlace := ["internal/bytealg.IndexByteString", "internal/bytealg.IndexString"], unfollowed := true, recurses := true, named := ["internal/bytealg.MaxLen"], apart := false }
def WhenParsesSaid : Prop := whenParsesRow.holds Try.pinned (OpenSpec.ofChange whenParsesSpec)

/-- ITS FALSE NEIGHBOUR: 'it returns false'. Refute it at one input. -/
def whenParsesWrong : ChangeSpec := { name := "whenParses", fn := fun _ => fun
  | [d] => { results := [.lit (.bool false)], args := [d] }
  | _ => none }
def WhenParsesWrongFalsely : Prop := whenParsesRow.holds Try.pinned (OpenSpec.ofChange whenParsesWrong)

/-- 'stowagelaw4.WhenBack': WHATEVER THE INPUT: true; the input reads as it did. -/
def whenBackSpec : ChangeSpec := { name := "whenBack", fn := fun _ => fun
  | [d1, d2] => { results := [.lit (.bool true)], args := [d1, d2] }
  | _ => none }
def whenBackRow : OpenClaim := { program := "yteggifhicmbopaa", sum := "8857a0ca2b2f189d3fb097c383db192041d7cef7a196538516078cdca3e0378c", func := "stowage/stowagelaw4.WhenBack", spec := "whenBack", inPlace := ["internal/bytealg.IndexByteString", "internal/bytealg.IndexString"], unfollowed := true, recurses := true, named := ["internal/bytealg.MaxLen"], apart := false }
def WhenBackSaid : Prop := whenBackRow.holds Try.pinned (OpenSpec.ofChange whenBackSpec)

/-- ITS FALSE NEIGHBOUR: 'it returns false'. Refute it at one input. -/
def whenBackWrong : ChangeSpec := { name := "whenBack", fn := fun _ => fun
  | [d1, d2] => { results := [.lit (.bool false)], args := [d1, d2] }
  | _ => none }
def WhenBackWrongFalsely : Prop := whenBackRow.holds Try.pinned (OpenSpec.ofChange whenBackWrong)

/- THE SECOND FORM. 'bulk': how many values and letters a reading holds, each counted each time it is reached (what is shared counts as often as it is met; a slice's spare places count too). A statement '..UptoSaid' is the law's where the arguments, and the package variables that the reading takes, are together of bulk at most 1048576: NARROWER than '..Said'. Prove '..Said' where nothing that the law and all that it calls make is longer than what came in: it says more and counts as full. Else prove '..UptoSaid'. A law counts once. -/
mutual
def uptoBulk {H : Type} : DataW H → Nat
  | .lit (.string bytes) => bytes.length + 1
  | .lit _ => 1
  | .nil => 1
  | .ptr d => uptoBulk d + 1
  | .slice elems spare => uptoBulkAll elems + uptoBulkAll spare + 1
  | .agg parts => uptoBulkAll parts + 1
  | .iface _ d => uptoBulk d + 1
  | .map entries => uptoBulkEntries entries + 1
  | .held _ => 1
def uptoBulkAll {H : Type} : List (DataW H) → Nat
  | [] => 0
  | d :: r => uptoBulk d + uptoBulkAll r
def uptoBulkEntries {H : Type} : List (Lit × DataW H) → Nat
  | [] => 0
  | x :: r => uptoBulkEntry x + uptoBulkEntries r
def uptoBulkEntry {H : Type} : Lit × DataW H → Nat
  | (.string bytes, d) => bytes.length + uptoBulk d + 1
  | (_, d) => uptoBulk d + 1
 end
def uptoSmall : (H : Type) → List (DataW H) → Bool := fun _ ds => decide (uptoBulkAll ds ≤ 1048576)
def OpenSpec.upto (s : _root_.Go.ChangeSpec) : _root_.Go.OpenSpec := { _root_.Go.OpenSpec.ofChange s with cond := some uptoSmall }

/-- 'stowagelaw4.WhenSteps', WHERE WHAT IT READS IS OF BULK AT MOST 1048576: true; the input reads as it did. -/
def whenStepsUptoRow : OpenClaim := { program := "yteggifhicmbopaa", sum := "8857a0ca2b2f189d3fb097c383db192041d7cef7a196538516078cdca3e0378c", func := "stowage/stowagelaw4.WhenSteps", spec := "whenSteps", unfollowed := true, recurses := true, apart := false, narrowed := true }
def WhenStepsUptoSaid : Prop := whenStepsUptoRow.holds Try.pinned (OpenSpec.upto whenStepsSpec)

/-- 'stowagelaw4.WhenCivil', WHERE WHAT IT READS IS OF BULK AT MOST 1048576: true; the input reads as it did. -/
def whenCivilUptoRow : OpenClaim := { program := "yteggifhicmbopaa", sum := "8857a0ca2b2f189d3fb097c383db192041d7cef7a196538516078cdca3e0378c", func := "stowage/stowagelaw4.WhenCivil", spec := "whenCivil", unfollowed := true, recurses := true, apart := false, narrowed := true }
def WhenCivilUptoSaid : Prop := whenCivilUptoRow.holds Try.pinned (OpenSpec.upto whenCivilSpec)

/-- 'stowagelaw4.WhenTexts', WHERE WHAT IT READS IS OF BULK AT MOST 1048576: true; the input reads as it did. -/
def whenTextsUptoRow : OpenClaim := { program := "yteggifhicmbopaa", sum := "8857a0ca2b2f189d3fb097c383db192041d7cef7a196538516078cdca3e0378c", func := "stowage/stowagelaw4.WhenTexts", spec := "whenTexts", unfollowed := true, recurses := true, apart := false, narrowed := true }
def WhenTextsUptoSaid : Prop := whenTextsUptoRow.holds Try.pinned (OpenSpec.upto whenTextsSpec)

/-- 'stowagelaw4.WhenParses', WHERE WHAT IT READS IS OF BULK AT MOST 1048576: true; the input reads as it did. -/
def whenParsesUptoRow : OpenClaim := { program := "yteggifhicmbopaa", sum := "8857a0ca2b2f189d3fb097c383db192041d7cef7a196538516078cdca3e0378c", func := "stowage/stowagelaw4.WhenParses", spec := "whenParses", inPlace := ["internal/bytealg.IndexByteString", "internal/bytealg.IndexString"], unfollowed := true, recurses := true, named := ["internal/bytealg.MaxLen"], apart := false, narrowed := true }
def WhenParsesUptoSaid : Prop := whenParsesUptoRow.holds Try.pinned (OpenSpec.upto whenParsesSpec)

/-- 'stowagelaw4.WhenBack', WHERE WHAT IT READS IS OF BULK AT MOST 1048576: true; the input reads as it did. -/
def whenBackUptoRow : OpenClaim := { program := "yteggifhicmbopaa", sum := "8857a0ca2b2f189d3fb097c383db192041d7cef7a196538516078cdca3e0378c", func := "stowage/stowagelaw4.WhenBack", spec := "whenBack", inPlace := ["internal/bytealg.IndexByteString", "internal/bytealg.IndexString"], unfollowed := true, recurses := true, named := ["internal/bytealg.MaxLen"], apart := false, narrowed := true }
def WhenBackUptoSaid : Prop := whenBackUptoRow.holds Try.pinned (OpenSpec.upto whenBackSpec)

end Rows
end Go.Proofs.Yteggifhicmbopaa
