/-
  DERIVED. GIVEN WITH THE SEED: THE CARDS: each row of YtlbhdmbfdcohhaaGreatDoorRows.lean that lists a variable, with what it lists TIED to the program's text (the seventh form; the later family's looks); each row that meets fmt, with fmt's text TOLD by the authors' own Lean function (tested against real Go, not proved from fmt's source: count such statements apart). THE CARD IS WHAT COUNTS. Prove the row's statement (the work); the ties are given (YtlbhdmbfdcohhaaGreatDoorTie.lean); close each card by the builder's one call (the guide's Derived/Test/ToyasCard.lean, 'card_holds'). Laid BY PROGRAM, IN A SANDBOX (cutbox-door.mjs). By AI agents, Wed Nov 11 2026. No macro, syntax, notation, axiom, sorry.
-/
import Derived.Test.YtlbhdmbfdcohhaaGreatDoorRows
import GoSem.ClaimSeven
namespace Go.Proofs.YtlbhdmbfdcohhaaGreatDoor
namespace Rows

/-- THE TIED CARD OF 'yardsticklaw22.GraphOrder'. -/
def graphOrderCard : Claim7 := { stood := { row := graphOrderRow, standIns := [], harness := (true, "56e114718464d5c995b4c5c07a4122fa4910b2cc3870d7422c418940f44386d7"), looks := true }, kinds := [], alts := [], laidByText := true, laidKinds := [.data, .data, .data, .data, .sentinel, .sentinel, .data, .pinned], laidTests := true, laidLooks := .later }
def GraphOrderCardSaid : Prop := Claim7.holds Tryz.pinned (.plain (OpenSpec.ofChange graphOrderSpec)) graphOrderCard

/-- THE TIED CARD OF 'yardsticklaw22.GraphRealized'. -/
def graphRealizedCard : Claim7 := { stood := { row := graphRealizedRow, standIns := [], harness := (true, "56e114718464d5c995b4c5c07a4122fa4910b2cc3870d7422c418940f44386d7"), looks := true }, kinds := [], alts := [], laidByText := true, laidKinds := [.data, .data, .data, .data, .sentinel, .sentinel, .data, .pinned], laidTests := true, laidLooks := .later }
def GraphRealizedCardSaid : Prop := Claim7.holds Tryz.pinned (.plain (OpenSpec.ofChange graphRealizedSpec)) graphRealizedCard

/-- THE TIED CARD OF 'yardsticklaw22.GraphAncestors'. -/
def graphAncestorsCard : Claim7 := { stood := { row := graphAncestorsRow, standIns := [], harness := (true, "56e114718464d5c995b4c5c07a4122fa4910b2cc3870d7422c418940f44386d7"), looks := true }, kinds := [], alts := [], laidByText := true, laidKinds := [.data, .data, .data, .data, .sentinel, .sentinel, .data, .pinned], laidTests := true, laidLooks := .later }
def GraphAncestorsCardSaid : Prop := Claim7.holds Tryz.pinned (.plain (OpenSpec.ofChange graphAncestorsSpec)) graphAncestorsCard

/-- THE TIED CARD OF 'yardsticklaw22.GraphMissing'. -/
def graphMissingCard : Claim7 := { stood := { row := graphMissingRow, standIns := [], harness := (true, "56e114718464d5c995b4c5c07a4122fa4910b2cc3870d7422c418940f44386d7"), looks := true }, kinds := [], alts := [], laidByText := true, laidKinds := [.data, .data, .data, .data, .sentinel, .sentinel, .data, .pinned], laidTests := true, laidLooks := .later }
def GraphMissingCardSaid : Prop := Claim7.holds Tryz.pinned (.plain (OpenSpec.ofChange graphMissingSpec)) graphMissingCard

/-- THE TIED CARD OF 'yardsticklaw22.GraphHeads'. -/
def graphHeadsCard : Claim7 := { stood := { row := graphHeadsRow, standIns := [], harness := (true, "56e114718464d5c995b4c5c07a4122fa4910b2cc3870d7422c418940f44386d7"), looks := true }, kinds := [], alts := [], laidByText := true, laidKinds := [.data, .data, .data, .data, .sentinel, .sentinel, .data, .pinned], laidTests := true, laidLooks := .later }
def GraphHeadsCardSaid : Prop := Claim7.holds Tryz.pinned (.plain (OpenSpec.ofChange graphHeadsSpec)) graphHeadsCard

/-- THE SECOND FORM's CARD OF 'yardsticklaw22.GraphOrder'. -/
def graphOrderUptoCard : Claim7 := { stood := { row := graphOrderUptoRow, standIns := [], harness := (true, "56e114718464d5c995b4c5c07a4122fa4910b2cc3870d7422c418940f44386d7"), looks := true }, kinds := [], alts := [], laidByText := true, laidKinds := [.data, .data, .data, .data, .sentinel, .sentinel, .data, .pinned], laidTests := true, laidLooks := .later }
def GraphOrderUptoCardSaid : Prop := Claim7.holds Tryz.pinned (.plain (OpenSpec.upto graphOrderSpec)) graphOrderUptoCard

/-- THE SECOND FORM's CARD OF 'yardsticklaw22.GraphRealized'. -/
def graphRealizedUptoCard : Claim7 := { stood := { row := graphRealizedUptoRow, standIns := [], harness := (true, "56e114718464d5c995b4c5c07a4122fa4910b2cc3870d7422c418940f44386d7"), looks := true }, kinds := [], alts := [], laidByText := true, laidKinds := [.data, .data, .data, .data, .sentinel, .sentinel, .data, .pinned], laidTests := true, laidLooks := .later }
def GraphRealizedUptoCardSaid : Prop := Claim7.holds Tryz.pinned (.plain (OpenSpec.upto graphRealizedSpec)) graphRealizedUptoCard

/-- THE SECOND FORM's CARD OF 'yardsticklaw22.GraphAncestors'. -/
def graphAncestorsUptoCard : Claim7 := { stood := { row := graphAncestorsUptoRow, standIns := [], harness := (true, "56e114718464d5c995b4c5c07a4122fa4910b2cc3870d7422c418940f44386d7"), looks := true }, kinds := [], alts := [], laidByText := true, laidKinds := [.data, .data, .data, .data, .sentinel, .sentinel, .data, .pinned], laidTests := true, laidLooks := .later }
def GraphAncestorsUptoCardSaid : Prop := Claim7.holds Tryz.pinned (.plain (OpenSpec.upto graphAncestorsSpec)) graphAncestorsUptoCard

/-- THE SECOND FORM's CARD OF 'yardsticklaw22.GraphMissing'. -/
def graphMissingUptoCard : Claim7 := { stood := { row := graphMissingUptoRow, standIns := [], harness := (true, "56e114718464d5c995b4c5c07a4122fa4910b2cc3870d7422c418940f44386d7"), looks := true }, kinds := [], alts := [], laidByText := true, laidKinds := [.data, .data, .data, .data, .sentinel, .sentinel, .data, .pinned], laidTests := true, laidLooks := .later }
def GraphMissingUptoCardSaid : Prop := Claim7.holds Tryz.pinned (.plain (OpenSpec.upto graphMissingSpec)) graphMissingUptoCard

/-- THE SECOND FORM's CARD OF 'yardsticklaw22.GraphHeads'. -/
def graphHeadsUptoCard : Claim7 := { stood := { row := graphHeadsUptoRow, standIns := [], harness := (true, "56e114718464d5c995b4c5c07a4122fa4910b2cc3870d7422c418940f44386d7"), looks := true }, kinds := [], alts := [], laidByText := true, laidKinds := [.data, .data, .data, .data, .sentinel, .sentinel, .data, .pinned], laidTests := true, laidLooks := .later }
def GraphHeadsUptoCardSaid : Prop := Claim7.holds Tryz.pinned (.plain (OpenSpec.upto graphHeadsSpec)) graphHeadsUptoCard
end Rows
end Go.Proofs.YtlbhdmbfdcohhaaGreatDoor
