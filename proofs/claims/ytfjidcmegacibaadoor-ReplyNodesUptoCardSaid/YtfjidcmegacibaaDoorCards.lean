/-
  DERIVED. GIVEN WITH THE SEED: THE CARDS: each row of YtfjidcmegacibaaDoorRows.lean that lists a variable, with what it lists TIED to the program's text (the seventh form; the later family's looks); each row that meets fmt, with fmt's text TOLD by the authors' own Lean function (tested against real Go, not proved from fmt's source: count such statements apart). THE CARD IS WHAT COUNTS. Prove the row's statement (the work); the ties are given (YtfjidcmegacibaaDoorTie.lean); close each card by the builder's one call (the guide's Derived/Test/ToyasCard.lean, 'card_holds'). Laid BY PROGRAM, IN A SANDBOX (cutbox-door.mjs). By AI agents, Wed Nov 11 2026. No macro, syntax, notation, axiom, sorry.
-/
import Derived.Test.YtfjidcmegacibaaDoorRows
import GoSem.ClaimSeven
namespace Go.Proofs.YtfjidcmegacibaaDoor
namespace Rows

/-- THE TIED CARD OF 'stowagelaw17.ReplyPipes'. -/
def replyPipesCard : Claim7 := { stood := { row := replyPipesRow, standIns := [], harness := (true, "28993756359425637c9d6a6dcf37f74af3f0654a1997e5395ed63230070c0deb"), looks := false }, kinds := [], alts := [], laidByText := true, laidKinds := [.data, .data, .data], laidTests := true, laidLooks := .later }
def ReplyPipesCardSaid : Prop := Claim7.holds Tryd.pinned (.plain (OpenSpec.ofChange replyPipesSpec)) replyPipesCard

/-- THE TIED CARD OF 'stowagelaw17.ReplyPrints'. -/
def replyPrintsCard : Claim7 := { stood := { row := replyPrintsRow, standIns := [], harness := (true, "28993756359425637c9d6a6dcf37f74af3f0654a1997e5395ed63230070c0deb"), looks := false }, kinds := [], alts := [], laidByText := true, laidKinds := [.data, .data, .data], laidTests := true, laidLooks := .later }
def ReplyPrintsCardSaid : Prop := Claim7.holds Tryd.pinned (.plain (OpenSpec.ofChange replyPrintsSpec)) replyPrintsCard

/-- THE TIED CARD OF 'stowagelaw17.ReplyParses'. -/
def replyParsesCard : Claim7 := { stood := { row := replyParsesRow, standIns := [], harness := (true, "28993756359425637c9d6a6dcf37f74af3f0654a1997e5395ed63230070c0deb"), looks := false }, kinds := [], alts := [], laidByText := true, laidKinds := [.data, .data, .data], laidTests := true, laidLooks := .later }
def ReplyParsesCardSaid : Prop := Claim7.holds Tryd.pinned (.plain (OpenSpec.ofChange replyParsesSpec)) replyParsesCard

/-- THE TIED CARD OF 'stowagelaw17.ReplyNodes'. -/
def replyNodesCard : Claim7 := { stood := { row := replyNodesRow, standIns := [], harness := (true, "28993756359425637c9d6a6dcf37f74af3f0654a1997e5395ed63230070c0deb"), looks := false }, kinds := [], alts := [], laidByText := true, laidKinds := [.data, .data, .data], laidTests := true, laidLooks := .later }
def ReplyNodesCardSaid : Prop := Claim7.holds Tryd.pinned (.plain (OpenSpec.ofChange replyNodesSpec)) replyNodesCard

/-- THE SECOND FORM's CARD OF 'stowagelaw17.ReplyPipes'. -/
def replyPipesUptoCard : Claim7 := { stood := { row := replyPipesUptoRow, standIns := [], harness := (true, "28993756359425637c9d6a6dcf37f74af3f0654a1997e5395ed63230070c0deb"), looks := false }, kinds := [], alts := [], laidByText := true, laidKinds := [.data, .data, .data], laidTests := true, laidLooks := .later }
def ReplyPipesUptoCardSaid : Prop := Claim7.holds Tryd.pinned (.plain (OpenSpec.upto replyPipesSpec)) replyPipesUptoCard

/-- THE SECOND FORM's CARD OF 'stowagelaw17.ReplyPrints'. -/
def replyPrintsUptoCard : Claim7 := { stood := { row := replyPrintsUptoRow, standIns := [], harness := (true, "28993756359425637c9d6a6dcf37f74af3f0654a1997e5395ed63230070c0deb"), looks := false }, kinds := [], alts := [], laidByText := true, laidKinds := [.data, .data, .data], laidTests := true, laidLooks := .later }
def ReplyPrintsUptoCardSaid : Prop := Claim7.holds Tryd.pinned (.plain (OpenSpec.upto replyPrintsSpec)) replyPrintsUptoCard

/-- THE SECOND FORM's CARD OF 'stowagelaw17.ReplyParses'. -/
def replyParsesUptoCard : Claim7 := { stood := { row := replyParsesUptoRow, standIns := [], harness := (true, "28993756359425637c9d6a6dcf37f74af3f0654a1997e5395ed63230070c0deb"), looks := false }, kinds := [], alts := [], laidByText := true, laidKinds := [.data, .data, .data], laidTests := true, laidLooks := .later }
def ReplyParsesUptoCardSaid : Prop := Claim7.holds Tryd.pinned (.plain (OpenSpec.upto replyParsesSpec)) replyParsesUptoCard

/-- THE SECOND FORM's CARD OF 'stowagelaw17.ReplyNodes'. -/
def replyNodesUptoCard : Claim7 := { stood := { row := replyNodesUptoRow, standIns := [], harness := (true, "28993756359425637c9d6a6dcf37f74af3f0654a1997e5395ed63230070c0deb"), looks := false }, kinds := [], alts := [], laidByText := true, laidKinds := [.data, .data, .data], laidTests := true, laidLooks := .later }
def ReplyNodesUptoCardSaid : Prop := Claim7.holds Tryd.pinned (.plain (OpenSpec.upto replyNodesSpec)) replyNodesUptoCard
end Rows
end Go.Proofs.YtfjidcmegacibaaDoor
