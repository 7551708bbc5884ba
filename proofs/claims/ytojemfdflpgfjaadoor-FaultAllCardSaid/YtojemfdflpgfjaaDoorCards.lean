/-
  DERIVED. GIVEN WITH THE SEED: THE CARDS: each row of YtojemfdflpgfjaaDoorRows.lean that lists a variable, with what it lists TIED to the program's text (the seventh form; the later family's looks); each row that meets fmt, with fmt's text TOLD by the authors' own Lean function (tested against real Go, not proved from fmt's source: count such statements apart). THE CARD IS WHAT COUNTS. Prove the row's statement (the work); the ties are given (YtojemfdflpgfjaaDoorTie.lean); close each card by the builder's one call (the guide's Derived/Test/ToyasCard.lean, 'card_holds'). Laid BY PROGRAM, IN A SANDBOX (cutbox-door.mjs). By AI agents, Wed Nov 11 2026. No macro, syntax, notation, axiom, sorry.
-/
import Derived.Test.YtojemfdflpgfjaaDoorRows
import GoSem.ClaimSeven
namespace Go.Proofs.YtojemfdflpgfjaaDoor
namespace Rows

/-- THE TIED CARD OF 'stowagelaw14.FaultNames'. -/
def faultNamesCard : Claim7 := { stood := { row := faultNamesRow, standIns := [], harness := (true, "d2b6135bf5582196ec2572640160f0c8165d116b7f5031205ff62b4f31966e4b"), looks := true }, kinds := [], alts := [], laidByText := true, laidKinds := [.handle], laidTests := true, laidLooks := .later }
def FaultNamesCardSaid : Prop := Claim7.holds Tryd.pinned (.plain (OpenSpec.ofChange faultNamesSpec)) faultNamesCard

/-- THE TIED CARD OF 'stowagelaw14.FaultAll'. -/
def faultAllCard : Claim7 := { stood := { row := faultAllRow, standIns := [], harness := (true, "d2b6135bf5582196ec2572640160f0c8165d116b7f5031205ff62b4f31966e4b"), looks := true }, kinds := [], alts := [], laidByText := true, laidKinds := [.handle], laidTests := true, laidLooks := .later }
def FaultAllCardSaid : Prop := Claim7.holds Tryd.pinned (.plain (OpenSpec.ofChange faultAllSpec)) faultAllCard

/-- THE SECOND FORM's CARD OF 'stowagelaw14.FaultNames'. -/
def faultNamesUptoCard : Claim7 := { stood := { row := faultNamesUptoRow, standIns := [], harness := (true, "d2b6135bf5582196ec2572640160f0c8165d116b7f5031205ff62b4f31966e4b"), looks := true }, kinds := [], alts := [], laidByText := true, laidKinds := [.handle], laidTests := true, laidLooks := .later }
def FaultNamesUptoCardSaid : Prop := Claim7.holds Tryd.pinned (.plain (OpenSpec.upto faultNamesSpec)) faultNamesUptoCard

/-- THE SECOND FORM's CARD OF 'stowagelaw14.FaultAll'. -/
def faultAllUptoCard : Claim7 := { stood := { row := faultAllUptoRow, standIns := [], harness := (true, "d2b6135bf5582196ec2572640160f0c8165d116b7f5031205ff62b4f31966e4b"), looks := true }, kinds := [], alts := [], laidByText := true, laidKinds := [.handle], laidTests := true, laidLooks := .later }
def FaultAllUptoCardSaid : Prop := Claim7.holds Tryd.pinned (.plain (OpenSpec.upto faultAllSpec)) faultAllUptoCard
end Rows
end Go.Proofs.YtojemfdflpgfjaaDoor
