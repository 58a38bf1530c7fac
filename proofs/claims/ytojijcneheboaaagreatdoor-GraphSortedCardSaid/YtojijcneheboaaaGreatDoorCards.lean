/-
  DERIVED. GIVEN WITH THE SEED: THE CARDS: each row of YtojijcneheboaaaGreatDoorRows.lean that lists a variable, with what it lists TIED to the program's text (the seventh form; the later family's looks); each row that meets fmt, with fmt's text TOLD by the authors' own Lean function (tested against real Go, not proved from fmt's source: count such statements apart). THE CARD IS WHAT COUNTS. Prove the row's statement (the work); the ties are given (YtojijcneheboaaaGreatDoorTie.lean); close each card by the builder's one call (the guide's Derived/Test/ToyasCard.lean, 'card_holds'). Laid BY PROGRAM, IN A SANDBOX (cutbox-door.mjs). By AI agents, Wed Nov 11 2026. No macro, syntax, notation, axiom, sorry.
-/
import Derived.Test.YtojijcneheboaaaGreatDoorRows
import GoSem.ClaimSeven
namespace Go.Proofs.YtojijcneheboaaaGreatDoor
namespace Rows

/-- THE TIED CARD OF 'yardsticklaw22.GraphSorted'. -/
def graphSortedCard : Claim7 := { stood := { row := graphSortedRow, standIns := [], harness := (true, "c586b31e678324d8fff34d65b9b452594cb6ed91a21fc8a24214d3f4b0622971"), looks := true }, kinds := [], alts := [], laidByText := true, laidKinds := [.data, .data, .data, .data, .sentinel, .sentinel, .data, .pinned], laidTests := true, laidLooks := .later }
def GraphSortedCardSaid : Prop := Claim7.holds Tryz.pinned (.plain (OpenSpec.ofChange graphSortedSpec)) graphSortedCard

/-- THE SECOND FORM's CARD OF 'yardsticklaw22.GraphSorted'. -/
def graphSortedUptoCard : Claim7 := { stood := { row := graphSortedUptoRow, standIns := [], harness := (true, "c586b31e678324d8fff34d65b9b452594cb6ed91a21fc8a24214d3f4b0622971"), looks := true }, kinds := [], alts := [], laidByText := true, laidKinds := [.data, .data, .data, .data, .sentinel, .sentinel, .data, .pinned], laidTests := true, laidLooks := .later }
def GraphSortedUptoCardSaid : Prop := Claim7.holds Tryz.pinned (.plain (OpenSpec.upto graphSortedSpec)) graphSortedUptoCard
end Rows
end Go.Proofs.YtojijcneheboaaaGreatDoor
