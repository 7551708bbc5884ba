/-
  DERIVED. GIVEN WITH THE SEED: THE CARDS: each row of YtiaihkcadffllaaDoorRows.lean that lists a variable, with what it lists TIED to the program's text (the seventh form; the later family's looks); each row that meets fmt, with fmt's text TOLD by the authors' own Lean function (tested against real Go, not proved from fmt's source: count such statements apart). THE CARD IS WHAT COUNTS. Prove the row's statement (the work); the ties are given (YtiaihkcadffllaaDoorTie.lean); close each card by the builder's one call (the guide's Derived/Test/ToyasCard.lean, 'card_holds'). Laid BY PROGRAM, IN A SANDBOX (cutbox-door.mjs). By AI agents, Wed Nov 11 2026. No macro, syntax, notation, axiom, sorry.
-/
import Derived.Test.YtiaihkcadffllaaDoorRows
import GoSem.ClaimSeven
namespace Go.Proofs.YtiaihkcadffllaaDoor
namespace Rows

/-- THE TIED CARD OF 'stowagelaw25.CorsAnswers'. -/
def corsAnswersCard : Claim7 := { stood := { row := corsAnswersRow, standIns := [], harness := (true, "7dfbe34b7aa4dab87f98f67995e79d2a64d26148ada252ffa5af1fa6e7bfd7c1"), looks := false }, kinds := [], alts := [], laidByText := true, laidKinds := [.data, .data, .data], laidTests := true, laidLooks := .later }
def CorsAnswersCardSaid : Prop := Claim7.holds Tryd.pinned (.plain (OpenSpec.ofChange corsAnswersSpec)) corsAnswersCard

/-- THE TIED CARD OF 'stowagelaw25.CorsSilent'. -/
def corsSilentCard : Claim7 := { stood := { row := corsSilentRow, standIns := [], harness := (true, "7dfbe34b7aa4dab87f98f67995e79d2a64d26148ada252ffa5af1fa6e7bfd7c1"), looks := false }, kinds := [], alts := [], laidByText := true, laidKinds := [.data, .data, .data], laidTests := true, laidLooks := .later }
def CorsSilentCardSaid : Prop := Claim7.holds Tryd.pinned (.plain (OpenSpec.ofChange corsSilentSpec)) corsSilentCard

/-- THE SECOND FORM's CARD OF 'stowagelaw25.CorsAnswers'. -/
def corsAnswersUptoCard : Claim7 := { stood := { row := corsAnswersUptoRow, standIns := [], harness := (true, "7dfbe34b7aa4dab87f98f67995e79d2a64d26148ada252ffa5af1fa6e7bfd7c1"), looks := false }, kinds := [], alts := [], laidByText := true, laidKinds := [.data, .data, .data], laidTests := true, laidLooks := .later }
def CorsAnswersUptoCardSaid : Prop := Claim7.holds Tryd.pinned (.plain (OpenSpec.upto corsAnswersSpec)) corsAnswersUptoCard

/-- THE SECOND FORM's CARD OF 'stowagelaw25.CorsSilent'. -/
def corsSilentUptoCard : Claim7 := { stood := { row := corsSilentUptoRow, standIns := [], harness := (true, "7dfbe34b7aa4dab87f98f67995e79d2a64d26148ada252ffa5af1fa6e7bfd7c1"), looks := false }, kinds := [], alts := [], laidByText := true, laidKinds := [.data, .data, .data], laidTests := true, laidLooks := .later }
def CorsSilentUptoCardSaid : Prop := Claim7.holds Tryd.pinned (.plain (OpenSpec.upto corsSilentSpec)) corsSilentUptoCard
end Rows
end Go.Proofs.YtiaihkcadffllaaDoor
