/-
  DERIVED. GIVEN WITH THE SEED: THE CARDS: each row of YthfokedilloheaaGreatDoorRows.lean that lists a variable, with what it lists TIED to the program's text (the seventh form; the later family's looks); each row that meets fmt, with fmt's text TOLD by the authors' own Lean function (tested against real Go, not proved from fmt's source: count such statements apart). THE CARD IS WHAT COUNTS. Prove the row's statement (the work); the ties are given (YthfokedilloheaaGreatDoorTie.lean); close each card by the builder's one call (the guide's Derived/Test/ToyasCard.lean, 'card_holds'). Laid BY PROGRAM, IN A SANDBOX (cutbox-door.mjs). By AI agents, Wed Nov 11 2026. No macro, syntax, notation, axiom, sorry.
-/
import Derived.Test.YthfokedilloheaaGreatDoorRows
import GoSem.ClaimSeven
namespace Go.Proofs.YthfokedilloheaaGreatDoor
namespace Rows

/-- THE TIED CARD OF 'yardsticklaw28.ExchangeClosed'. -/
def exchangeClosedCard : Claim7 := { stood := { row := exchangeClosedRow, standIns := [], harness := (true, "56b0a94900a19a7f9c6a91fa9dd7557a4d349c62bffad5ecf815a2c14385180e"), looks := true }, kinds := [], alts := [], laidByText := true, laidKinds := [.data, .data, .data, .data, .sentinel, .sentinel, .data, .pinned], laidTests := true, laidLooks := .later }
def ExchangeClosedCardSaid : Prop := Claim7.holds Tryz.pinned (.plain (OpenSpec.ofChange exchangeClosedSpec)) exchangeClosedCard

/-- THE SECOND FORM's CARD OF 'yardsticklaw28.ExchangeClosed'. -/
def exchangeClosedUptoCard : Claim7 := { stood := { row := exchangeClosedUptoRow, standIns := [], harness := (true, "56b0a94900a19a7f9c6a91fa9dd7557a4d349c62bffad5ecf815a2c14385180e"), looks := true }, kinds := [], alts := [], laidByText := true, laidKinds := [.data, .data, .data, .data, .sentinel, .sentinel, .data, .pinned], laidTests := true, laidLooks := .later }
def ExchangeClosedUptoCardSaid : Prop := Claim7.holds Tryz.pinned (.plain (OpenSpec.upto exchangeClosedSpec)) exchangeClosedUptoCard
end Rows
end Go.Proofs.YthfokedilloheaaGreatDoor
