/-
  DERIVED. GIVEN WITH THE SEED: THE CARDS: each row of YtobbbklaopaiaaaGreatDoorRows.lean that lists a variable, with what it lists TIED to the program's text (the seventh form; the later family's looks); each row that meets fmt, with fmt's text TOLD by the authors' own Lean function (tested against real Go, not proved from fmt's source: count such statements apart). THE CARD IS WHAT COUNTS. Prove the row's statement (the work); the ties are given (YtobbbklaopaiaaaGreatDoorTie.lean); close each card by the builder's one call (the guide's Derived/Test/ToyasCard.lean, 'card_holds'). Laid BY PROGRAM, IN A SANDBOX (cutbox-door.mjs). By AI agents, Wed Nov 11 2026. No macro, syntax, notation, axiom, sorry.
-/
import Derived.Test.YtobbbklaopaiaaaGreatDoorRows
import GoSem.ClaimSeven
namespace Go.Proofs.YtobbbklaopaiaaaGreatDoor
namespace Rows

/-- THE TIED CARD OF 'yardsticklaw28.ExchangeLossy'. -/
def exchangeLossyCard : Claim7 := { stood := { row := exchangeLossyRow, standIns := [], harness := (true, "9d3f902bd1003bd32b1f43eb68bf929594b653817bc6c3e785ab54594ff69ce0"), looks := true }, kinds := [], alts := [], laidByText := true, laidKinds := [.data, .data, .data, .data, .sentinel, .sentinel, .data, .pinned], laidTests := true, laidLooks := .later }
def ExchangeLossyCardSaid : Prop := Claim7.holds Tryz.pinned (.plain (OpenSpec.ofChange exchangeLossySpec)) exchangeLossyCard

/-- THE SECOND FORM's CARD OF 'yardsticklaw28.ExchangeLossy'. -/
def exchangeLossyUptoCard : Claim7 := { stood := { row := exchangeLossyUptoRow, standIns := [], harness := (true, "9d3f902bd1003bd32b1f43eb68bf929594b653817bc6c3e785ab54594ff69ce0"), looks := true }, kinds := [], alts := [], laidByText := true, laidKinds := [.data, .data, .data, .data, .sentinel, .sentinel, .data, .pinned], laidTests := true, laidLooks := .later }
def ExchangeLossyUptoCardSaid : Prop := Claim7.holds Tryz.pinned (.plain (OpenSpec.upto exchangeLossySpec)) exchangeLossyUptoCard
end Rows
end Go.Proofs.YtobbbklaopaiaaaGreatDoor
