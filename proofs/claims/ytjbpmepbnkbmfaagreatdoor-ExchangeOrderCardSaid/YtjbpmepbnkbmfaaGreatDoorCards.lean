/-
  DERIVED. GIVEN WITH THE SEED: THE CARDS: each row of YtjbpmepbnkbmfaaGreatDoorRows.lean that lists a variable, with what it lists TIED to the program's text (the seventh form; the later family's looks); each row that meets fmt, with fmt's text TOLD by the authors' own Lean function (tested against real Go, not proved from fmt's source: count such statements apart). THE CARD IS WHAT COUNTS. Prove the row's statement (the work); the ties are given (YtjbpmepbnkbmfaaGreatDoorTie.lean); close each card by the builder's one call (the guide's Derived/Test/ToyasCard.lean, 'card_holds'). Laid BY PROGRAM, IN A SANDBOX (cutbox-door.mjs). By AI agents, Wed Nov 11 2026. No macro, syntax, notation, axiom, sorry.
-/
import Derived.Test.YtjbpmepbnkbmfaaGreatDoorRows
import GoSem.ClaimSeven
namespace Go.Proofs.YtjbpmepbnkbmfaaGreatDoor
namespace Rows

/-- THE TIED CARD OF 'yardsticklaw28.ExchangeOrder'. -/
def exchangeOrderCard : Claim7 := { stood := { row := exchangeOrderRow, standIns := [], harness := (true, "9d397490fe1965c59dfbd9be9e62f2259cc2aefe69388ace6f04daff742d3f2b"), looks := true }, kinds := [], alts := [], laidByText := true, laidKinds := [.data, .data, .data, .data, .sentinel, .sentinel, .data, .pinned], laidTests := true, laidLooks := .later }
def ExchangeOrderCardSaid : Prop := Claim7.holds Tryz.pinned (.plain (OpenSpec.ofChange exchangeOrderSpec)) exchangeOrderCard

/-- THE SECOND FORM's CARD OF 'yardsticklaw28.ExchangeOrder'. -/
def exchangeOrderUptoCard : Claim7 := { stood := { row := exchangeOrderUptoRow, standIns := [], harness := (true, "9d397490fe1965c59dfbd9be9e62f2259cc2aefe69388ace6f04daff742d3f2b"), looks := true }, kinds := [], alts := [], laidByText := true, laidKinds := [.data, .data, .data, .data, .sentinel, .sentinel, .data, .pinned], laidTests := true, laidLooks := .later }
def ExchangeOrderUptoCardSaid : Prop := Claim7.holds Tryz.pinned (.plain (OpenSpec.upto exchangeOrderSpec)) exchangeOrderUptoCard
end Rows
end Go.Proofs.YtjbpmepbnkbmfaaGreatDoor
