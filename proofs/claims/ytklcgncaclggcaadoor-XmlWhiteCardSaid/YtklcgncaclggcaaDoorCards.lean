/-
  DERIVED. GIVEN WITH THE SEED: THE CARDS: each row of YtklcgncaclggcaaDoorRows.lean that lists a variable, with what it lists TIED to the program's text (the seventh form; the later family's looks); each row that meets fmt, with fmt's text TOLD by the authors' own Lean function (tested against real Go, not proved from fmt's source: count such statements apart). THE CARD IS WHAT COUNTS. Prove the row's statement (the work); the ties are given (YtklcgncaclggcaaDoorTie.lean); close each card by the builder's one call (the guide's Derived/Test/ToyasCard.lean, 'card_holds'). Laid BY PROGRAM, IN A SANDBOX (cutbox-door.mjs). By AI agents, Wed Nov 11 2026. No macro, syntax, notation, axiom, sorry.
-/
import Derived.Test.YtklcgncaclggcaaDoorRows
import GoSem.ClaimSeven
namespace Go.Proofs.YtklcgncaclggcaaDoor
namespace Rows

/-- THE TIED CARD OF 'stowagelaw13.XmlParses'. -/
def xmlParsesCard : Claim7 := { stood := { row := xmlParsesRow, standIns := [], harness := (true, "db9d5689af080cb1d59663b963026f90bf82e3b8cc2109c1757ab9b706947b04"), looks := false }, kinds := [], alts := [], laidByText := true, laidKinds := [.data, .pinned], laidTests := true, laidLooks := .later }
def XmlParsesCardSaid : Prop := Claim7.holds Tryd.pinned (.plain (OpenSpec.ofChange xmlParsesSpec)) xmlParsesCard

/-- THE TIED CARD OF 'stowagelaw13.XmlTexts'. -/
def xmlTextsCard : Claim7 := { stood := { row := xmlTextsRow, standIns := [], harness := (true, "db9d5689af080cb1d59663b963026f90bf82e3b8cc2109c1757ab9b706947b04"), looks := false }, kinds := [], alts := [], laidByText := true, laidKinds := [.data, .pinned], laidTests := true, laidLooks := .later }
def XmlTextsCardSaid : Prop := Claim7.holds Tryd.pinned (.plain (OpenSpec.ofChange xmlTextsSpec)) xmlTextsCard

/-- THE TIED CARD OF 'stowagelaw13.XmlBack'. -/
def xmlBackCard : Claim7 := { stood := { row := xmlBackRow, standIns := [], harness := (true, "db9d5689af080cb1d59663b963026f90bf82e3b8cc2109c1757ab9b706947b04"), looks := false }, kinds := [], alts := [], laidByText := true, laidKinds := [.data, .pinned], laidTests := true, laidLooks := .later }
def XmlBackCardSaid : Prop := Claim7.holds Tryd.pinned (.plain (OpenSpec.ofChange xmlBackSpec)) xmlBackCard

/-- THE TIED CARD OF 'stowagelaw13.XmlLent'. -/
def xmlLentCard : Claim7 := { stood := { row := xmlLentRow, standIns := [], harness := (true, "db9d5689af080cb1d59663b963026f90bf82e3b8cc2109c1757ab9b706947b04"), looks := false }, kinds := [], alts := [], laidByText := true, laidKinds := [.data, .pinned], laidTests := true, laidLooks := .later }
def XmlLentCardSaid : Prop := Claim7.holds Tryd.pinned (.plain (OpenSpec.ofChange xmlLentSpec)) xmlLentCard

/-- THE TIED CARD OF 'stowagelaw13.XmlDepths'. -/
def xmlDepthsCard : Claim7 := { stood := { row := xmlDepthsRow, standIns := [], harness := (true, "db9d5689af080cb1d59663b963026f90bf82e3b8cc2109c1757ab9b706947b04"), looks := false }, kinds := [], alts := [], laidByText := true, laidKinds := [.data, .pinned], laidTests := true, laidLooks := .later }
def XmlDepthsCardSaid : Prop := Claim7.holds Tryd.pinned (.plain (OpenSpec.ofChange xmlDepthsSpec)) xmlDepthsCard

/-- THE TIED CARD OF 'stowagelaw13.XmlWhite'. -/
def xmlWhiteCard : Claim7 := { stood := { row := xmlWhiteRow, standIns := [], harness := (true, "db9d5689af080cb1d59663b963026f90bf82e3b8cc2109c1757ab9b706947b04"), looks := false }, kinds := [], alts := [], laidByText := true, laidKinds := [.data, .pinned], laidTests := true, laidLooks := .later }
def XmlWhiteCardSaid : Prop := Claim7.holds Tryd.pinned (.plain (OpenSpec.ofChange xmlWhiteSpec)) xmlWhiteCard

/-- THE TIED CARD OF 'stowagelaw13.XmlPrints'. -/
def xmlPrintsCard : Claim7 := { stood := { row := xmlPrintsRow, standIns := [], harness := (true, "db9d5689af080cb1d59663b963026f90bf82e3b8cc2109c1757ab9b706947b04"), looks := false }, kinds := [], alts := [], laidByText := true, laidKinds := [.data, .pinned], laidTests := true, laidLooks := .later }
def XmlPrintsCardSaid : Prop := Claim7.holds Tryd.pinned (.plain (OpenSpec.ofChange xmlPrintsSpec)) xmlPrintsCard

/-- THE SECOND FORM's CARD OF 'stowagelaw13.XmlParses'. -/
def xmlParsesUptoCard : Claim7 := { stood := { row := xmlParsesUptoRow, standIns := [], harness := (true, "db9d5689af080cb1d59663b963026f90bf82e3b8cc2109c1757ab9b706947b04"), looks := false }, kinds := [], alts := [], laidByText := true, laidKinds := [.data, .pinned], laidTests := true, laidLooks := .later }
def XmlParsesUptoCardSaid : Prop := Claim7.holds Tryd.pinned (.plain (OpenSpec.upto xmlParsesSpec)) xmlParsesUptoCard

/-- THE SECOND FORM's CARD OF 'stowagelaw13.XmlTexts'. -/
def xmlTextsUptoCard : Claim7 := { stood := { row := xmlTextsUptoRow, standIns := [], harness := (true, "db9d5689af080cb1d59663b963026f90bf82e3b8cc2109c1757ab9b706947b04"), looks := false }, kinds := [], alts := [], laidByText := true, laidKinds := [.data, .pinned], laidTests := true, laidLooks := .later }
def XmlTextsUptoCardSaid : Prop := Claim7.holds Tryd.pinned (.plain (OpenSpec.upto xmlTextsSpec)) xmlTextsUptoCard

/-- THE SECOND FORM's CARD OF 'stowagelaw13.XmlBack'. -/
def xmlBackUptoCard : Claim7 := { stood := { row := xmlBackUptoRow, standIns := [], harness := (true, "db9d5689af080cb1d59663b963026f90bf82e3b8cc2109c1757ab9b706947b04"), looks := false }, kinds := [], alts := [], laidByText := true, laidKinds := [.data, .pinned], laidTests := true, laidLooks := .later }
def XmlBackUptoCardSaid : Prop := Claim7.holds Tryd.pinned (.plain (OpenSpec.upto xmlBackSpec)) xmlBackUptoCard

/-- THE SECOND FORM's CARD OF 'stowagelaw13.XmlLent'. -/
def xmlLentUptoCard : Claim7 := { stood := { row := xmlLentUptoRow, standIns := [], harness := (true, "db9d5689af080cb1d59663b963026f90bf82e3b8cc2109c1757ab9b706947b04"), looks := false }, kinds := [], alts := [], laidByText := true, laidKinds := [.data, .pinned], laidTests := true, laidLooks := .later }
def XmlLentUptoCardSaid : Prop := Claim7.holds Tryd.pinned (.plain (OpenSpec.upto xmlLentSpec)) xmlLentUptoCard

/-- THE SECOND FORM's CARD OF 'stowagelaw13.XmlDepths'. -/
def xmlDepthsUptoCard : Claim7 := { stood := { row := xmlDepthsUptoRow, standIns := [], harness := (true, "db9d5689af080cb1d59663b963026f90bf82e3b8cc2109c1757ab9b706947b04"), looks := false }, kinds := [], alts := [], laidByText := true, laidKinds := [.data, .pinned], laidTests := true, laidLooks := .later }
def XmlDepthsUptoCardSaid : Prop := Claim7.holds Tryd.pinned (.plain (OpenSpec.upto xmlDepthsSpec)) xmlDepthsUptoCard

/-- THE SECOND FORM's CARD OF 'stowagelaw13.XmlWhite'. -/
def xmlWhiteUptoCard : Claim7 := { stood := { row := xmlWhiteUptoRow, standIns := [], harness := (true, "db9d5689af080cb1d59663b963026f90bf82e3b8cc2109c1757ab9b706947b04"), looks := false }, kinds := [], alts := [], laidByText := true, laidKinds := [.data, .pinned], laidTests := true, laidLooks := .later }
def XmlWhiteUptoCardSaid : Prop := Claim7.holds Tryd.pinned (.plain (OpenSpec.upto xmlWhiteSpec)) xmlWhiteUptoCard

/-- THE SECOND FORM's CARD OF 'stowagelaw13.XmlPrints'. -/
def xmlPrintsUptoCard : Claim7 := { stood := { row := xmlPrintsUptoRow, standIns := [], harness := (true, "db9d5689af080cb1d59663b963026f90bf82e3b8cc2109c1757ab9b706947b04"), looks := false }, kinds := [], alts := [], laidByText := true, laidKinds := [.data, .pinned], laidTests := true, laidLooks := .later }
def XmlPrintsUptoCardSaid : Prop := Claim7.holds Tryd.pinned (.plain (OpenSpec.upto xmlPrintsSpec)) xmlPrintsUptoCard
end Rows
end Go.Proofs.YtklcgncaclggcaaDoor
