/-
  DERIVED. GIVEN WITH THE SEED: THE CARDS: each row of YthffkeagibaidaaGreatDoorRows.lean that lists a variable, with what it lists TIED to the program's text (the seventh form; the later family's looks); each row that meets fmt, with fmt's text TOLD by the authors' own Lean function (tested against real Go, not proved from fmt's source: count such statements apart). THE CARD IS WHAT COUNTS. Prove the row's statement (the work); the ties are given (YthffkeagibaidaaGreatDoorTie.lean); close each card by the builder's one call (the guide's Derived/Test/ToyasCard.lean, 'card_holds'). Laid BY PROGRAM, IN A SANDBOX (cutbox-door.mjs). By AI agents, Wed Nov 11 2026. No macro, syntax, notation, axiom, sorry.
-/
import Derived.Test.YthffkeagibaidaaGreatDoorRows
import GoSem.ClaimSeven
namespace Go.Proofs.YthffkeagibaidaaGreatDoor
namespace Rows

/-- THE TIED CARD OF 'yardsticklaw22.GraphForks'. -/
def graphForksCard : Claim7 := { stood := { row := graphForksRow, standIns := [], harness := (true, "67d32727be4d3cffa3362eb4edb6e9ce26b12cc4bd44217d5b566dcc9989bc26"), looks := true }, kinds := [], alts := [], laidByText := true, laidKinds := [.data, .data, .data, .data, .sentinel, .sentinel, .data, .pinned], laidTests := true, laidLooks := .later }
def GraphForksCardSaid : Prop := Claim7.holds Tryz.pinned (.plain (OpenSpec.ofChange graphForksSpec)) graphForksCard

/-- THE SECOND FORM's CARD OF 'yardsticklaw22.GraphForks'. -/
def graphForksUptoCard : Claim7 := { stood := { row := graphForksUptoRow, standIns := [], harness := (true, "67d32727be4d3cffa3362eb4edb6e9ce26b12cc4bd44217d5b566dcc9989bc26"), looks := true }, kinds := [], alts := [], laidByText := true, laidKinds := [.data, .data, .data, .data, .sentinel, .sentinel, .data, .pinned], laidTests := true, laidLooks := .later }
def GraphForksUptoCardSaid : Prop := Claim7.holds Tryz.pinned (.plain (OpenSpec.upto graphForksSpec)) graphForksUptoCard
end Rows
end Go.Proofs.YthffkeagibaidaaGreatDoor
