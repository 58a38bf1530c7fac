/-
  DERIVED. GIVEN WITH THE SEED: THE CARDS: each row of YtdaajghondabnaaGreatDoorRows.lean that lists a variable, with what it lists TIED to the program's text (the seventh form; the later family's looks); each row that meets fmt, with fmt's text TOLD by the authors' own Lean function (tested against real Go, not proved from fmt's source: count such statements apart). THE CARD IS WHAT COUNTS. Prove the row's statement (the work); the ties are given (YtdaajghondabnaaGreatDoorTie.lean); close each card by the builder's one call (the guide's Derived/Test/ToyasCard.lean, 'card_holds'). Laid BY PROGRAM, IN A SANDBOX (cutbox-door.mjs). By AI agents, Wed Nov 11 2026. No macro, syntax, notation, axiom, sorry.
-/
import Derived.Test.YtdaajghondabnaaGreatDoorRows
import GoSem.ClaimSeven
namespace Go.Proofs.YtdaajghondabnaaGreatDoor
namespace Rows

/-- THE TIED CARD OF 'yardsticklaw28.ExchangeRefuses'. -/
def exchangeRefusesCard : Claim7 := { stood := { row := exchangeRefusesRow, standIns := [], harness := (true, "50e4d2ecfb47c889c9ad439061af9a5c4d46853118b163a7c6fe19fafb3d47eb"), looks := true }, kinds := [], alts := [], laidByText := true, laidKinds := [.data, .data, .data, .data, .sentinel, .sentinel, .data, .pinned], laidTests := true, laidLooks := .later }
def ExchangeRefusesCardSaid : Prop := Claim7.holds Tryz.pinned (.plain (OpenSpec.ofChange exchangeRefusesSpec)) exchangeRefusesCard

/-- THE SECOND FORM's CARD OF 'yardsticklaw28.ExchangeRefuses'. -/
def exchangeRefusesUptoCard : Claim7 := { stood := { row := exchangeRefusesUptoRow, standIns := [], harness := (true, "50e4d2ecfb47c889c9ad439061af9a5c4d46853118b163a7c6fe19fafb3d47eb"), looks := true }, kinds := [], alts := [], laidByText := true, laidKinds := [.data, .data, .data, .data, .sentinel, .sentinel, .data, .pinned], laidTests := true, laidLooks := .later }
def ExchangeRefusesUptoCardSaid : Prop := Claim7.holds Tryz.pinned (.plain (OpenSpec.upto exchangeRefusesSpec)) exchangeRefusesUptoCard
end Rows
end Go.Proofs.YtdaajghondabnaaGreatDoor
