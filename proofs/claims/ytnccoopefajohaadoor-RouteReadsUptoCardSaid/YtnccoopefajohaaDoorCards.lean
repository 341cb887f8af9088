/-
  DERIVED. GIVEN WITH THE SEED: THE CARDS: each row of YtnccoopefajohaaDoorRows.lean that lists a variable, with what it lists TIED to the program's text (the seventh form; the later family's looks); each row that meets fmt, with fmt's text TOLD by the authors' own Lean function (tested against real Go, not proved from fmt's source: count such statements apart). THE CARD IS WHAT COUNTS. Prove the row's statement (the work); the ties are given (YtnccoopefajohaaDoorTie.lean); close each card by the builder's one call (the guide's Derived/Test/ToyasCard.lean, 'card_holds'). Laid BY PROGRAM, IN A SANDBOX (cutbox-door.mjs). By AI agents, Wed Nov 11 2026. No macro, syntax, notation, axiom, sorry.
-/
import Derived.Test.YtnccoopefajohaaDoorRows
import GoSem.ClaimSeven
namespace Go.Proofs.YtnccoopefajohaaDoor
namespace Rows

/-- THE TIED CARD OF 'marshalyardlaw17.RouteDecides'. -/
def routeDecidesCard : Claim7 := { stood := { row := routeDecidesRow, standIns := [], harness := (true, "192edc4954eff1fcd0f263eea4256765a8d3137883d2ab4e4ac601f964ead843"), looks := true }, kinds := [], alts := [], laidByText := true, laidKinds := [.data, .data, .data, .data, .sentinel, .sentinel, .pinned], laidTests := true, laidLooks := .later }
def RouteDecidesCardSaid : Prop := Claim7.holds Tryd.pinned (.plain (OpenSpec.ofChange routeDecidesSpec)) routeDecidesCard

/-- THE TIED CARD OF 'marshalyardlaw17.RouteTexts'. -/
def routeTextsCard : Claim7 := { stood := { row := routeTextsRow, standIns := [], harness := (true, "192edc4954eff1fcd0f263eea4256765a8d3137883d2ab4e4ac601f964ead843"), looks := true }, kinds := [], alts := [], laidByText := true, laidKinds := [.data, .data, .data, .data, .sentinel, .sentinel, .pinned], laidTests := true, laidLooks := .later }
def RouteTextsCardSaid : Prop := Claim7.holds Tryd.pinned (.plain (OpenSpec.ofChange routeTextsSpec)) routeTextsCard

/-- THE TIED CARD OF 'marshalyardlaw17.RouteReads'. -/
def routeReadsCard : Claim7 := { stood := { row := routeReadsRow, standIns := [], harness := (true, "192edc4954eff1fcd0f263eea4256765a8d3137883d2ab4e4ac601f964ead843"), looks := true }, kinds := [], alts := [], laidByText := true, laidKinds := [.data, .data, .data, .data, .sentinel, .sentinel, .pinned], laidTests := true, laidLooks := .later }
def RouteReadsCardSaid : Prop := Claim7.holds Tryd.pinned (.plain (OpenSpec.ofChange routeReadsSpec)) routeReadsCard

/-- THE TIED CARD OF 'marshalyardlaw17.RouteServes'. -/
def routeServesCard : Claim7 := { stood := { row := routeServesRow, standIns := [], harness := (true, "192edc4954eff1fcd0f263eea4256765a8d3137883d2ab4e4ac601f964ead843"), looks := true }, kinds := [], alts := [], laidByText := true, laidKinds := [.data, .data, .data, .data, .sentinel, .sentinel, .pinned], laidTests := true, laidLooks := .later }
def RouteServesCardSaid : Prop := Claim7.holds Tryd.pinned (.plain (OpenSpec.ofChange routeServesSpec)) routeServesCard

/-- THE TIED CARD OF 'marshalyardlaw17.RouteLeads'. -/
def routeLeadsCard : Claim7 := { stood := { row := routeLeadsRow, standIns := [], harness := (true, "192edc4954eff1fcd0f263eea4256765a8d3137883d2ab4e4ac601f964ead843"), looks := true }, kinds := [], alts := [], laidByText := true, laidKinds := [.data, .data, .data, .data, .sentinel, .sentinel, .pinned], laidTests := true, laidLooks := .later }
def RouteLeadsCardSaid : Prop := Claim7.holds Tryd.pinned (.plain (OpenSpec.ofChange routeLeadsSpec)) routeLeadsCard

/-- THE TIED CARD OF 'marshalyardlaw17.RouteTurned'. -/
def routeTurnedCard : Claim7 := { stood := { row := routeTurnedRow, standIns := [], harness := (true, "192edc4954eff1fcd0f263eea4256765a8d3137883d2ab4e4ac601f964ead843"), looks := true }, kinds := [], alts := [], laidByText := true, laidKinds := [.data, .data, .data, .data, .sentinel, .sentinel, .pinned], laidTests := true, laidLooks := .later }
def RouteTurnedCardSaid : Prop := Claim7.holds Tryd.pinned (.plain (OpenSpec.ofChange routeTurnedSpec)) routeTurnedCard

/-- THE SECOND FORM's CARD OF 'marshalyardlaw17.RouteDecides'. -/
def routeDecidesUptoCard : Claim7 := { stood := { row := routeDecidesUptoRow, standIns := [], harness := (true, "192edc4954eff1fcd0f263eea4256765a8d3137883d2ab4e4ac601f964ead843"), looks := true }, kinds := [], alts := [], laidByText := true, laidKinds := [.data, .data, .data, .data, .sentinel, .sentinel, .pinned], laidTests := true, laidLooks := .later }
def RouteDecidesUptoCardSaid : Prop := Claim7.holds Tryd.pinned (.plain (OpenSpec.upto routeDecidesSpec)) routeDecidesUptoCard

/-- THE SECOND FORM's CARD OF 'marshalyardlaw17.RouteTexts'. -/
def routeTextsUptoCard : Claim7 := { stood := { row := routeTextsUptoRow, standIns := [], harness := (true, "192edc4954eff1fcd0f263eea4256765a8d3137883d2ab4e4ac601f964ead843"), looks := true }, kinds := [], alts := [], laidByText := true, laidKinds := [.data, .data, .data, .data, .sentinel, .sentinel, .pinned], laidTests := true, laidLooks := .later }
def RouteTextsUptoCardSaid : Prop := Claim7.holds Tryd.pinned (.plain (OpenSpec.upto routeTextsSpec)) routeTextsUptoCard

/-- THE SECOND FORM's CARD OF 'marshalyardlaw17.RouteReads'. -/
def routeReadsUptoCard : Claim7 := { stood := { row := routeReadsUptoRow, standIns := [], harness := (true, "192edc4954eff1fcd0f263eea4256765a8d3137883d2ab4e4ac601f964ead843"), looks := true }, kinds := [], alts := [], laidByText := true, laidKinds := [.data, .data, .data, .data, .sentinel, .sentinel, .pinned], laidTests := true, laidLooks := .later }
def RouteReadsUptoCardSaid : Prop := Claim7.holds Tryd.pinned (.plain (OpenSpec.upto routeReadsSpec)) routeReadsUptoCard

/-- THE SECOND FORM's CARD OF 'marshalyardlaw17.RouteServes'. -/
def routeServesUptoCard : Claim7 := { stood := { row := routeServesUptoRow, standIns := [], harness := (true, "192edc4954eff1fcd0f263eea4256765a8d3137883d2ab4e4ac601f964ead843"), looks := true }, kinds := [], alts := [], laidByText := true, laidKinds := [.data, .data, .data, .data, .sentinel, .sentinel, .pinned], laidTests := true, laidLooks := .later }
def RouteServesUptoCardSaid : Prop := Claim7.holds Tryd.pinned (.plain (OpenSpec.upto routeServesSpec)) routeServesUptoCard

/-- THE SECOND FORM's CARD OF 'marshalyardlaw17.RouteLeads'. -/
def routeLeadsUptoCard : Claim7 := { stood := { row := routeLeadsUptoRow, standIns := [], harness := (true, "192edc4954eff1fcd0f263eea4256765a8d3137883d2ab4e4ac601f964ead843"), looks := true }, kinds := [], alts := [], laidByText := true, laidKinds := [.data, .data, .data, .data, .sentinel, .sentinel, .pinned], laidTests := true, laidLooks := .later }
def RouteLeadsUptoCardSaid : Prop := Claim7.holds Tryd.pinned (.plain (OpenSpec.upto routeLeadsSpec)) routeLeadsUptoCard

/-- THE SECOND FORM's CARD OF 'marshalyardlaw17.RouteTurned'. -/
def routeTurnedUptoCard : Claim7 := { stood := { row := routeTurnedUptoRow, standIns := [], harness := (true, "192edc4954eff1fcd0f263eea4256765a8d3137883d2ab4e4ac601f964ead843"), looks := true }, kinds := [], alts := [], laidByText := true, laidKinds := [.data, .data, .data, .data, .sentinel, .sentinel, .pinned], laidTests := true, laidLooks := .later }
def RouteTurnedUptoCardSaid : Prop := Claim7.holds Tryd.pinned (.plain (OpenSpec.upto routeTurnedSpec)) routeTurnedUptoCard
end Rows
end Go.Proofs.YtnccoopefajohaaDoor
