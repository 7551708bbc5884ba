/-
  DERIVED. GIVEN WITH THE SEED: THE CARDS: each row of YtieejapamkokaaaDoorRows.lean that lists a variable, with what it lists TIED to the program's text (the seventh form; the later family's looks); each row that meets fmt, with fmt's text TOLD by the authors' own Lean function (tested against real Go, not proved from fmt's source: count such statements apart). THE CARD IS WHAT COUNTS. Prove the row's statement (the work); the ties are given (YtieejapamkokaaaDoorTie.lean); close each card by the builder's one call (the guide's Derived/Test/ToyasCard.lean, 'card_holds'). Laid BY PROGRAM, IN A SANDBOX (cutbox-door.mjs). By AI agents, Wed Nov 11 2026. No macro, syntax, notation, axiom, sorry.
-/
import Derived.Test.YtieejapamkokaaaDoorRows
import GoSem.ClaimSeven
namespace Go.Proofs.YtieejapamkokaaaDoor
namespace Rows

/-- THE TIED CARD OF 'stowagelaw12.MetaKeys'. -/
def metaKeysCard : Claim7 := { stood := { row := metaKeysRow, standIns := [], harness := (true, "d9253523a942e09a714e3452e3f989da0744bb2dca9c5550a0d11100073f0ae2"), looks := false }, kinds := [], alts := [], laidByText := true, laidKinds := [.data, .pinned], laidTests := true, laidLooks := .later }
def MetaKeysCardSaid : Prop := Claim7.holds Tryd.pinned (.plain (OpenSpec.ofChange metaKeysSpec)) metaKeysCard

/-- THE TIED CARD OF 'stowagelaw12.MetaOrder'. -/
def metaOrderCard : Claim7 := { stood := { row := metaOrderRow, standIns := [], harness := (true, "d9253523a942e09a714e3452e3f989da0744bb2dca9c5550a0d11100073f0ae2"), looks := false }, kinds := [], alts := [], laidByText := true, laidKinds := [.data, .pinned], laidTests := true, laidLooks := .later }
def MetaOrderCardSaid : Prop := Claim7.holds Tryd.pinned (.plain (OpenSpec.ofChange metaOrderSpec)) metaOrderCard

/-- THE TIED CARD OF 'stowagelaw12.MetaParses'. -/
def metaParsesCard : Claim7 := { stood := { row := metaParsesRow, standIns := [], harness := (true, "d9253523a942e09a714e3452e3f989da0744bb2dca9c5550a0d11100073f0ae2"), looks := false }, kinds := [], alts := [], laidByText := true, laidKinds := [.data, .pinned], laidTests := true, laidLooks := .later }
def MetaParsesCardSaid : Prop := Claim7.holds Tryd.pinned (.plain (OpenSpec.ofChange metaParsesSpec)) metaParsesCard

/-- THE TIED CARD OF 'stowagelaw12.MetaApart'. -/
def metaApartCard : Claim7 := { stood := { row := metaApartRow, standIns := [], harness := (true, "d9253523a942e09a714e3452e3f989da0744bb2dca9c5550a0d11100073f0ae2"), looks := false }, kinds := [], alts := [], laidByText := true, laidKinds := [.data, .pinned], laidTests := true, laidLooks := .later }
def MetaApartCardSaid : Prop := Claim7.holds Tryd.pinned (.plain (OpenSpec.ofChange metaApartSpec)) metaApartCard

/-- THE TIED CARD OF 'stowagelaw12.MetaReads'. -/
def metaReadsCard : Claim7 := { stood := { row := metaReadsRow, standIns := [], harness := (true, "d9253523a942e09a714e3452e3f989da0744bb2dca9c5550a0d11100073f0ae2"), looks := false }, kinds := [], alts := [], laidByText := true, laidKinds := [.data, .pinned], laidTests := true, laidLooks := .later }
def MetaReadsCardSaid : Prop := Claim7.holds Tryd.pinned (.plain (OpenSpec.ofChange metaReadsSpec)) metaReadsCard

/-- THE TIED CARD OF 'stowagelaw12.MetaRecords'. -/
def metaRecordsCard : Claim7 := { stood := { row := metaRecordsRow, standIns := [], harness := (true, "d9253523a942e09a714e3452e3f989da0744bb2dca9c5550a0d11100073f0ae2"), looks := false }, kinds := [], alts := [], laidByText := true, laidKinds := [.data, .data, .data, .data, .pinned], laidTests := true, laidLooks := .later }
def MetaRecordsCardSaid : Prop := Claim7.holds Tryd.pinned (.plain (OpenSpec.ofChange metaRecordsSpec)) metaRecordsCard

/-- THE TIED CARD OF 'stowagelaw12.MetaBack'. -/
def metaBackCard : Claim7 := { stood := { row := metaBackRow, standIns := [], harness := (true, "d9253523a942e09a714e3452e3f989da0744bb2dca9c5550a0d11100073f0ae2"), looks := false }, kinds := [], alts := [], laidByText := true, laidKinds := [.data, .data, .data, .data, .pinned], laidTests := true, laidLooks := .later }
def MetaBackCardSaid : Prop := Claim7.holds Tryd.pinned (.plain (OpenSpec.ofChange metaBackSpec)) metaBackCard

/-- THE SECOND FORM's CARD OF 'stowagelaw12.MetaKeys'. -/
def metaKeysUptoCard : Claim7 := { stood := { row := metaKeysUptoRow, standIns := [], harness := (true, "d9253523a942e09a714e3452e3f989da0744bb2dca9c5550a0d11100073f0ae2"), looks := false }, kinds := [], alts := [], laidByText := true, laidKinds := [.data, .pinned], laidTests := true, laidLooks := .later }
def MetaKeysUptoCardSaid : Prop := Claim7.holds Tryd.pinned (.plain (OpenSpec.upto metaKeysSpec)) metaKeysUptoCard

/-- THE SECOND FORM's CARD OF 'stowagelaw12.MetaOrder'. -/
def metaOrderUptoCard : Claim7 := { stood := { row := metaOrderUptoRow, standIns := [], harness := (true, "d9253523a942e09a714e3452e3f989da0744bb2dca9c5550a0d11100073f0ae2"), looks := false }, kinds := [], alts := [], laidByText := true, laidKinds := [.data, .pinned], laidTests := true, laidLooks := .later }
def MetaOrderUptoCardSaid : Prop := Claim7.holds Tryd.pinned (.plain (OpenSpec.upto metaOrderSpec)) metaOrderUptoCard

/-- THE SECOND FORM's CARD OF 'stowagelaw12.MetaParses'. -/
def metaParsesUptoCard : Claim7 := { stood := { row := metaParsesUptoRow, standIns := [], harness := (true, "d9253523a942e09a714e3452e3f989da0744bb2dca9c5550a0d11100073f0ae2"), looks := false }, kinds := [], alts := [], laidByText := true, laidKinds := [.data, .pinned], laidTests := true, laidLooks := .later }
def MetaParsesUptoCardSaid : Prop := Claim7.holds Tryd.pinned (.plain (OpenSpec.upto metaParsesSpec)) metaParsesUptoCard

/-- THE SECOND FORM's CARD OF 'stowagelaw12.MetaApart'. -/
def metaApartUptoCard : Claim7 := { stood := { row := metaApartUptoRow, standIns := [], harness := (true, "d9253523a942e09a714e3452e3f989da0744bb2dca9c5550a0d11100073f0ae2"), looks := false }, kinds := [], alts := [], laidByText := true, laidKinds := [.data, .pinned], laidTests := true, laidLooks := .later }
def MetaApartUptoCardSaid : Prop := Claim7.holds Tryd.pinned (.plain (OpenSpec.upto metaApartSpec)) metaApartUptoCard

/-- THE SECOND FORM's CARD OF 'stowagelaw12.MetaReads'. -/
def metaReadsUptoCard : Claim7 := { stood := { row := metaReadsUptoRow, standIns := [], harness := (true, "d9253523a942e09a714e3452e3f989da0744bb2dca9c5550a0d11100073f0ae2"), looks := false }, kinds := [], alts := [], laidByText := true, laidKinds := [.data, .pinned], laidTests := true, laidLooks := .later }
def MetaReadsUptoCardSaid : Prop := Claim7.holds Tryd.pinned (.plain (OpenSpec.upto metaReadsSpec)) metaReadsUptoCard

/-- THE SECOND FORM's CARD OF 'stowagelaw12.MetaRecords'. -/
def metaRecordsUptoCard : Claim7 := { stood := { row := metaRecordsUptoRow, standIns := [], harness := (true, "d9253523a942e09a714e3452e3f989da0744bb2dca9c5550a0d11100073f0ae2"), looks := false }, kinds := [], alts := [], laidByText := true, laidKinds := [.data, .data, .data, .data, .pinned], laidTests := true, laidLooks := .later }
def MetaRecordsUptoCardSaid : Prop := Claim7.holds Tryd.pinned (.plain (OpenSpec.upto metaRecordsSpec)) metaRecordsUptoCard

/-- THE SECOND FORM's CARD OF 'stowagelaw12.MetaBack'. -/
def metaBackUptoCard : Claim7 := { stood := { row := metaBackUptoRow, standIns := [], harness := (true, "d9253523a942e09a714e3452e3f989da0744bb2dca9c5550a0d11100073f0ae2"), looks := false }, kinds := [], alts := [], laidByText := true, laidKinds := [.data, .data, .data, .data, .pinned], laidTests := true, laidLooks := .later }
def MetaBackUptoCardSaid : Prop := Claim7.holds Tryd.pinned (.plain (OpenSpec.upto metaBackSpec)) metaBackUptoCard
end Rows
end Go.Proofs.YtieejapamkokaaaDoor
