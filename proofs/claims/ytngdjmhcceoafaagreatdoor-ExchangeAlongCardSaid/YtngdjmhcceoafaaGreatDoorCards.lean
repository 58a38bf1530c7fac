/-
  DERIVED. GIVEN WITH THE SEED: THE CARDS: each row of YtngdjmhcceoafaaGreatDoorRows.lean that lists a variable, with what it lists TIED to the program's text (the seventh form; the later family's looks); each row that meets fmt, with fmt's text TOLD by the authors' own Lean function (tested against real Go, not proved from fmt's source: count such statements apart). THE CARD IS WHAT COUNTS. Prove the row's statement (the work); the ties are given (YtngdjmhcceoafaaGreatDoorTie.lean); close each card by the builder's one call (the guide's Derived/Test/ToyasCard.lean, 'card_holds'). Laid BY PROGRAM, IN A SANDBOX (cutbox-door.mjs). By AI agents, Wed Nov 11 2026. No macro, syntax, notation, axiom, sorry.
-/
import Derived.Test.YtngdjmhcceoafaaGreatDoorRows
import GoSem.ClaimSeven
namespace Go.Proofs.YtngdjmhcceoafaaGreatDoor
namespace Rows

/-- THE TIED CARD OF 'yardsticklaw28.ExchangeAlong'. -/
def exchangeAlongCard : Claim7 := { stood := { row := exchangeAlongRow, standIns := [], harness := (true, "c9bd3950063cda76b90401f863cc822eef9645d5093847a81f528a30e9966070"), looks := true }, kinds := [], alts := [], laidByText := true, laidKinds := [.data, .data, .data, .data, .sentinel, .sentinel, .data, .pinned], laidTests := true, laidLooks := .later }
def ExchangeAlongCardSaid : Prop := Claim7.holds Tryz.pinned (.plain (OpenSpec.ofChange exchangeAlongSpec)) exchangeAlongCard

/-- THE SECOND FORM's CARD OF 'yardsticklaw28.ExchangeAlong'. -/
def exchangeAlongUptoCard : Claim7 := { stood := { row := exchangeAlongUptoRow, standIns := [], harness := (true, "c9bd3950063cda76b90401f863cc822eef9645d5093847a81f528a30e9966070"), looks := true }, kinds := [], alts := [], laidByText := true, laidKinds := [.data, .data, .data, .data, .sentinel, .sentinel, .data, .pinned], laidTests := true, laidLooks := .later }
def ExchangeAlongUptoCardSaid : Prop := Claim7.holds Tryz.pinned (.plain (OpenSpec.upto exchangeAlongSpec)) exchangeAlongUptoCard
end Rows
end Go.Proofs.YtngdjmhcceoafaaGreatDoor
