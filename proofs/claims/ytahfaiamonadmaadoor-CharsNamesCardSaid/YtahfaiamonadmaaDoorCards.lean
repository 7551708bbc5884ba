/-
  DERIVED. GIVEN WITH THE SEED: THE CARDS: each row of YtahfaiamonadmaaDoorRows.lean that lists a variable, with what it lists TIED to the program's text (the seventh form; the later family's looks); each row that meets fmt, with fmt's text TOLD by the authors' own Lean function (tested against real Go, not proved from fmt's source: count such statements apart). THE CARD IS WHAT COUNTS. Prove the row's statement (the work); the ties are given (YtahfaiamonadmaaDoorTie.lean); close each card by the builder's one call (the guide's Derived/Test/ToyasCard.lean, 'card_holds'). Laid BY PROGRAM, IN A SANDBOX (cutbox-door.mjs). By AI agents, Wed Nov 11 2026. No macro, syntax, notation, axiom, sorry.
-/
import Derived.Test.YtahfaiamonadmaaDoorRows
import GoSem.ClaimSeven
namespace Go.Proofs.YtahfaiamonadmaaDoor
namespace Rows

/-- THE TIED CARD OF 'stowagelaw3.CharsEscapes'. -/
def charsEscapesCard : Claim7 := { stood := { row := charsEscapesRow, standIns := [], harness := (true, "a5a4113227ec79e51fc41c941ed1c1f92d0cbed36137a9fe28fd25ba2fb49fcf"), looks := false }, kinds := [], alts := [], laidByText := true, laidKinds := [.data, .pinned], laidTests := true, laidLooks := .later }
def CharsEscapesCardSaid : Prop := Claim7.holds Tryd.pinned (.plain (OpenSpec.ofChange charsEscapesSpec)) charsEscapesCard

/-- THE TIED CARD OF 'stowagelaw3.CharsBack'. -/
def charsBackCard : Claim7 := { stood := { row := charsBackRow, standIns := [], harness := (true, "a5a4113227ec79e51fc41c941ed1c1f92d0cbed36137a9fe28fd25ba2fb49fcf"), looks := false }, kinds := [], alts := [], laidByText := true, laidKinds := [.data, .pinned], laidTests := true, laidLooks := .later }
def CharsBackCardSaid : Prop := Claim7.holds Tryd.pinned (.plain (OpenSpec.ofChange charsBackSpec)) charsBackCard

/-- THE TIED CARD OF 'stowagelaw3.CharsNames'. -/
def charsNamesCard : Claim7 := { stood := { row := charsNamesRow, standIns := [], harness := (true, "a5a4113227ec79e51fc41c941ed1c1f92d0cbed36137a9fe28fd25ba2fb49fcf"), looks := false }, kinds := [], alts := [], laidByText := true, laidKinds := [.data, .pinned], laidTests := true, laidLooks := .later }
def CharsNamesCardSaid : Prop := Claim7.holds Tryd.pinned (.plain (OpenSpec.ofChange charsNamesSpec)) charsNamesCard

/-- THE TIED CARD OF 'stowagelaw3.CharsCounts'. -/
def charsCountsCard : Claim7 := { stood := { row := charsCountsRow, standIns := [], harness := (true, "a5a4113227ec79e51fc41c941ed1c1f92d0cbed36137a9fe28fd25ba2fb49fcf"), looks := false }, kinds := [], alts := [], laidByText := true, laidKinds := [.data, .pinned], laidTests := true, laidLooks := .later }
def CharsCountsCardSaid : Prop := Claim7.holds Tryd.pinned (.plain (OpenSpec.ofChange charsCountsSpec)) charsCountsCard

/-- THE TIED CARD OF 'stowagelaw3.CharsPairs'. -/
def charsPairsCard : Claim7 := { stood := { row := charsPairsRow, standIns := [], harness := (true, "a5a4113227ec79e51fc41c941ed1c1f92d0cbed36137a9fe28fd25ba2fb49fcf"), looks := false }, kinds := [], alts := [], laidByText := true, laidKinds := [.data, .pinned], laidTests := true, laidLooks := .later }
def CharsPairsCardSaid : Prop := Claim7.holds Tryd.pinned (.plain (OpenSpec.ofChange charsPairsSpec)) charsPairsCard

/-- THE TIED CARD OF 'stowagelaw3.CharsWords'. -/
def charsWordsCard : Claim7 := { stood := { row := charsWordsRow, standIns := [], harness := (true, "a5a4113227ec79e51fc41c941ed1c1f92d0cbed36137a9fe28fd25ba2fb49fcf"), looks := false }, kinds := [], alts := [], laidByText := true, laidKinds := [.data, .pinned], laidTests := true, laidLooks := .later }
def CharsWordsCardSaid : Prop := Claim7.holds Tryd.pinned (.plain (OpenSpec.ofChange charsWordsSpec)) charsWordsCard

/-- THE SECOND FORM's CARD OF 'stowagelaw3.CharsEscapes'. -/
def charsEscapesUptoCard : Claim7 := { stood := { row := charsEscapesUptoRow, standIns := [], harness := (true, "a5a4113227ec79e51fc41c941ed1c1f92d0cbed36137a9fe28fd25ba2fb49fcf"), looks := false }, kinds := [], alts := [], laidByText := true, laidKinds := [.data, .pinned], laidTests := true, laidLooks := .later }
def CharsEscapesUptoCardSaid : Prop := Claim7.holds Tryd.pinned (.plain (OpenSpec.upto charsEscapesSpec)) charsEscapesUptoCard

/-- THE SECOND FORM's CARD OF 'stowagelaw3.CharsBack'. -/
def charsBackUptoCard : Claim7 := { stood := { row := charsBackUptoRow, standIns := [], harness := (true, "a5a4113227ec79e51fc41c941ed1c1f92d0cbed36137a9fe28fd25ba2fb49fcf"), looks := false }, kinds := [], alts := [], laidByText := true, laidKinds := [.data, .pinned], laidTests := true, laidLooks := .later }
def CharsBackUptoCardSaid : Prop := Claim7.holds Tryd.pinned (.plain (OpenSpec.upto charsBackSpec)) charsBackUptoCard

/-- THE SECOND FORM's CARD OF 'stowagelaw3.CharsNames'. -/
def charsNamesUptoCard : Claim7 := { stood := { row := charsNamesUptoRow, standIns := [], harness := (true, "a5a4113227ec79e51fc41c941ed1c1f92d0cbed36137a9fe28fd25ba2fb49fcf"), looks := false }, kinds := [], alts := [], laidByText := true, laidKinds := [.data, .pinned], laidTests := true, laidLooks := .later }
def CharsNamesUptoCardSaid : Prop := Claim7.holds Tryd.pinned (.plain (OpenSpec.upto charsNamesSpec)) charsNamesUptoCard

/-- THE SECOND FORM's CARD OF 'stowagelaw3.CharsCounts'. -/
def charsCountsUptoCard : Claim7 := { stood := { row := charsCountsUptoRow, standIns := [], harness := (true, "a5a4113227ec79e51fc41c941ed1c1f92d0cbed36137a9fe28fd25ba2fb49fcf"), looks := false }, kinds := [], alts := [], laidByText := true, laidKinds := [.data, .pinned], laidTests := true, laidLooks := .later }
def CharsCountsUptoCardSaid : Prop := Claim7.holds Tryd.pinned (.plain (OpenSpec.upto charsCountsSpec)) charsCountsUptoCard

/-- THE SECOND FORM's CARD OF 'stowagelaw3.CharsPairs'. -/
def charsPairsUptoCard : Claim7 := { stood := { row := charsPairsUptoRow, standIns := [], harness := (true, "a5a4113227ec79e51fc41c941ed1c1f92d0cbed36137a9fe28fd25ba2fb49fcf"), looks := false }, kinds := [], alts := [], laidByText := true, laidKinds := [.data, .pinned], laidTests := true, laidLooks := .later }
def CharsPairsUptoCardSaid : Prop := Claim7.holds Tryd.pinned (.plain (OpenSpec.upto charsPairsSpec)) charsPairsUptoCard

/-- THE SECOND FORM's CARD OF 'stowagelaw3.CharsWords'. -/
def charsWordsUptoCard : Claim7 := { stood := { row := charsWordsUptoRow, standIns := [], harness := (true, "a5a4113227ec79e51fc41c941ed1c1f92d0cbed36137a9fe28fd25ba2fb49fcf"), looks := false }, kinds := [], alts := [], laidByText := true, laidKinds := [.data, .pinned], laidTests := true, laidLooks := .later }
def CharsWordsUptoCardSaid : Prop := Claim7.holds Tryd.pinned (.plain (OpenSpec.upto charsWordsSpec)) charsWordsUptoCard
end Rows
end Go.Proofs.YtahfaiamonadmaaDoor
