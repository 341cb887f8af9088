/-
  DERIVED. GIVEN WITH THE SEED: THE CARDS: each row of YtnlchdjknebmfaaDoorRows.lean that lists a variable, with what it lists TIED to the program's text (the seventh form; the later family's looks); each row that meets fmt, with fmt's text TOLD by the authors' own Lean function (tested against real Go, not proved from fmt's source: count such statements apart). THE CARD IS WHAT COUNTS. Prove the row's statement (the work); the ties are given (YtnlchdjknebmfaaDoorTie.lean); close each card by the builder's one call (the guide's Derived/Test/ToyasCard.lean, 'card_holds'). Laid BY PROGRAM, IN A SANDBOX (cutbox-door.mjs). By AI agents, Wed Nov 11 2026. No macro, syntax, notation, axiom, sorry.
-/
import Derived.Test.YtnlchdjknebmfaaDoorRows
import GoSem.ClaimSeven
namespace Go.Proofs.YtnlchdjknebmfaaDoor
namespace Rows

/-- THE TIED CARD OF 'marshalyardlaw02.SlotTags'. -/
def slotTagsCard : Claim7 := { stood := { row := slotTagsRow, standIns := [], harness := (true, "7814b371e82f13643f0186dd1fb44c18fd8db53e8534a368eb780aea16be5d69"), looks := true }, kinds := [], alts := [], laidByText := true, laidKinds := [.data, .data, .data, .data, .sentinel, .sentinel, .listed, .data], laidTests := true, laidLooks := .later }
def SlotTagsCardSaid : Prop := Claim7.holds Tryd.pinned (.plain (OpenSpec.ofChange slotTagsSpec)) slotTagsCard

/-- THE TIED CARD OF 'marshalyardlaw02.SlotOf'. -/
def slotOfCard : Claim7 := { stood := { row := slotOfRow, standIns := [], harness := (true, "7814b371e82f13643f0186dd1fb44c18fd8db53e8534a368eb780aea16be5d69"), looks := true }, kinds := [], alts := [], laidByText := true, laidKinds := [.data, .data, .data, .data, .sentinel, .sentinel, .listed, .data], laidTests := true, laidLooks := .later }
def SlotOfCardSaid : Prop := Claim7.holds Tryd.pinned (.plain (OpenSpec.ofChange slotOfSpec)) slotOfCard

/-- THE TIED CARD OF 'marshalyardlaw02.SlotAlike'. -/
def slotAlikeCard : Claim7 := { stood := { row := slotAlikeRow, standIns := [], harness := (true, "7814b371e82f13643f0186dd1fb44c18fd8db53e8534a368eb780aea16be5d69"), looks := true }, kinds := [], alts := [], laidByText := true, laidKinds := [.data, .data, .data, .data, .sentinel, .sentinel, .listed, .data], laidTests := true, laidLooks := .later }
def SlotAlikeCardSaid : Prop := Claim7.holds Tryd.pinned (.plain (OpenSpec.ofChange slotAlikeSpec)) slotAlikeCard

/-- THE TIED CARD OF 'marshalyardlaw02.SlotCounts'. -/
def slotCountsCard : Claim7 := { stood := { row := slotCountsRow, standIns := [], harness := (true, "7814b371e82f13643f0186dd1fb44c18fd8db53e8534a368eb780aea16be5d69"), looks := true }, kinds := [], alts := [], laidByText := true, laidKinds := [.data, .data, .data, .data, .sentinel, .sentinel, .listed, .data], laidTests := true, laidLooks := .later }
def SlotCountsCardSaid : Prop := Claim7.holds Tryd.pinned (.plain (OpenSpec.ofChange slotCountsSpec)) slotCountsCard

/-- THE TIED CARD OF 'marshalyardlaw02.SlotRanges'. -/
def slotRangesCard : Claim7 := { stood := { row := slotRangesRow, standIns := [], harness := (true, "7814b371e82f13643f0186dd1fb44c18fd8db53e8534a368eb780aea16be5d69"), looks := true }, kinds := [], alts := [], laidByText := true, laidKinds := [.data, .data, .data, .data, .sentinel, .sentinel, .listed, .data], laidTests := true, laidLooks := .later }
def SlotRangesCardSaid : Prop := Claim7.holds Tryd.pinned (.plain (OpenSpec.ofChange slotRangesSpec)) slotRangesCard

/-- THE TIED CARD OF 'marshalyardlaw02.SlotMakes'. -/
def slotMakesCard : Claim7 := { stood := { row := slotMakesRow, standIns := [], harness := (true, "7814b371e82f13643f0186dd1fb44c18fd8db53e8534a368eb780aea16be5d69"), looks := true }, kinds := [], alts := [], laidByText := true, laidKinds := [.data, .data, .data, .data, .sentinel, .sentinel, .listed, .data], laidTests := true, laidLooks := .later }
def SlotMakesCardSaid : Prop := Claim7.holds Tryd.pinned (.plain (OpenSpec.ofChange slotMakesSpec)) slotMakesCard

/-- THE TIED CARD OF 'marshalyardlaw02.SlotPrints'. -/
def slotPrintsCard : Claim7 := { stood := { row := slotPrintsRow, standIns := [], harness := (true, "7814b371e82f13643f0186dd1fb44c18fd8db53e8534a368eb780aea16be5d69"), looks := true }, kinds := [], alts := [], laidByText := true, laidKinds := [.data, .data, .data, .data, .sentinel, .sentinel, .listed, .data], laidTests := true, laidLooks := .later }
def SlotPrintsCardSaid : Prop := Claim7.holds Tryd.pinned (.plain (OpenSpec.ofChange slotPrintsSpec)) slotPrintsCard

/-- THE TIED CARD OF 'marshalyardlaw02.SlotParses'. -/
def slotParsesCard : Claim7 := { stood := { row := slotParsesRow, standIns := [], harness := (true, "7814b371e82f13643f0186dd1fb44c18fd8db53e8534a368eb780aea16be5d69"), looks := true }, kinds := [], alts := [], laidByText := true, laidKinds := [.data, .data, .data, .data, .sentinel, .sentinel, .listed, .data], laidTests := true, laidLooks := .later }
def SlotParsesCardSaid : Prop := Claim7.holds Tryd.pinned (.plain (OpenSpec.ofChange slotParsesSpec)) slotParsesCard

/-- THE TIED CARD OF 'marshalyardlaw02.SlotTwice'. -/
def slotTwiceCard : Claim7 := { stood := { row := slotTwiceRow, standIns := [], harness := (true, "7814b371e82f13643f0186dd1fb44c18fd8db53e8534a368eb780aea16be5d69"), looks := true }, kinds := [], alts := [], laidByText := true, laidKinds := [.data, .data, .data, .data, .sentinel, .sentinel, .listed, .data], laidTests := true, laidLooks := .later }
def SlotTwiceCardSaid : Prop := Claim7.holds Tryd.pinned (.plain (OpenSpec.ofChange slotTwiceSpec)) slotTwiceCard

/-- THE TIED CARD OF 'marshalyardlaw02.SlotJoins'. -/
def slotJoinsCard : Claim7 := { stood := { row := slotJoinsRow, standIns := [], harness := (true, "7814b371e82f13643f0186dd1fb44c18fd8db53e8534a368eb780aea16be5d69"), looks := true }, kinds := [], alts := [], laidByText := true, laidKinds := [.data, .data, .data, .data, .sentinel, .sentinel, .listed, .data], laidTests := true, laidLooks := .later }
def SlotJoinsCardSaid : Prop := Claim7.holds Tryd.pinned (.plain (OpenSpec.ofChange slotJoinsSpec)) slotJoinsCard

/-- THE TIED CARD OF 'marshalyardlaw02.SlotSets'. -/
def slotSetsCard : Claim7 := { stood := { row := slotSetsRow, standIns := [], harness := (true, "7814b371e82f13643f0186dd1fb44c18fd8db53e8534a368eb780aea16be5d69"), looks := true }, kinds := [], alts := [], laidByText := true, laidKinds := [.data, .data, .data, .data, .sentinel, .sentinel, .listed, .data], laidTests := true, laidLooks := .later }
def SlotSetsCardSaid : Prop := Claim7.holds Tryd.pinned (.plain (OpenSpec.ofChange slotSetsSpec)) slotSetsCard

/-- THE SECOND FORM's CARD OF 'marshalyardlaw02.SlotTags'. -/
def slotTagsUptoCard : Claim7 := { stood := { row := slotTagsUptoRow, standIns := [], harness := (true, "7814b371e82f13643f0186dd1fb44c18fd8db53e8534a368eb780aea16be5d69"), looks := true }, kinds := [], alts := [], laidByText := true, laidKinds := [.data, .data, .data, .data, .sentinel, .sentinel, .listed, .data], laidTests := true, laidLooks := .later }
def SlotTagsUptoCardSaid : Prop := Claim7.holds Tryd.pinned (.plain (OpenSpec.upto slotTagsSpec)) slotTagsUptoCard

/-- THE SECOND FORM's CARD OF 'marshalyardlaw02.SlotOf'. -/
def slotOfUptoCard : Claim7 := { stood := { row := slotOfUptoRow, standIns := [], harness := (true, "7814b371e82f13643f0186dd1fb44c18fd8db53e8534a368eb780aea16be5d69"), looks := true }, kinds := [], alts := [], laidByText := true, laidKinds := [.data, .data, .data, .data, .sentinel, .sentinel, .listed, .data], laidTests := true, laidLooks := .later }
def SlotOfUptoCardSaid : Prop := Claim7.holds Tryd.pinned (.plain (OpenSpec.upto slotOfSpec)) slotOfUptoCard

/-- THE SECOND FORM's CARD OF 'marshalyardlaw02.SlotAlike'. -/
def slotAlikeUptoCard : Claim7 := { stood := { row := slotAlikeUptoRow, standIns := [], harness := (true, "7814b371e82f13643f0186dd1fb44c18fd8db53e8534a368eb780aea16be5d69"), looks := true }, kinds := [], alts := [], laidByText := true, laidKinds := [.data, .data, .data, .data, .sentinel, .sentinel, .listed, .data], laidTests := true, laidLooks := .later }
def SlotAlikeUptoCardSaid : Prop := Claim7.holds Tryd.pinned (.plain (OpenSpec.upto slotAlikeSpec)) slotAlikeUptoCard

/-- THE SECOND FORM's CARD OF 'marshalyardlaw02.SlotCounts'. -/
def slotCountsUptoCard : Claim7 := { stood := { row := slotCountsUptoRow, standIns := [], harness := (true, "7814b371e82f13643f0186dd1fb44c18fd8db53e8534a368eb780aea16be5d69"), looks := true }, kinds := [], alts := [], laidByText := true, laidKinds := [.data, .data, .data, .data, .sentinel, .sentinel, .listed, .data], laidTests := true, laidLooks := .later }
def SlotCountsUptoCardSaid : Prop := Claim7.holds Tryd.pinned (.plain (OpenSpec.upto slotCountsSpec)) slotCountsUptoCard

/-- THE SECOND FORM's CARD OF 'marshalyardlaw02.SlotRanges'. -/
def slotRangesUptoCard : Claim7 := { stood := { row := slotRangesUptoRow, standIns := [], harness := (true, "7814b371e82f13643f0186dd1fb44c18fd8db53e8534a368eb780aea16be5d69"), looks := true }, kinds := [], alts := [], laidByText := true, laidKinds := [.data, .data, .data, .data, .sentinel, .sentinel, .listed, .data], laidTests := true, laidLooks := .later }
def SlotRangesUptoCardSaid : Prop := Claim7.holds Tryd.pinned (.plain (OpenSpec.upto slotRangesSpec)) slotRangesUptoCard

/-- THE SECOND FORM's CARD OF 'marshalyardlaw02.SlotMakes'. -/
def slotMakesUptoCard : Claim7 := { stood := { row := slotMakesUptoRow, standIns := [], harness := (true, "7814b371e82f13643f0186dd1fb44c18fd8db53e8534a368eb780aea16be5d69"), looks := true }, kinds := [], alts := [], laidByText := true, laidKinds := [.data, .data, .data, .data, .sentinel, .sentinel, .listed, .data], laidTests := true, laidLooks := .later }
def SlotMakesUptoCardSaid : Prop := Claim7.holds Tryd.pinned (.plain (OpenSpec.upto slotMakesSpec)) slotMakesUptoCard

/-- THE SECOND FORM's CARD OF 'marshalyardlaw02.SlotPrints'. -/
def slotPrintsUptoCard : Claim7 := { stood := { row := slotPrintsUptoRow, standIns := [], harness := (true, "7814b371e82f13643f0186dd1fb44c18fd8db53e8534a368eb780aea16be5d69"), looks := true }, kinds := [], alts := [], laidByText := true, laidKinds := [.data, .data, .data, .data, .sentinel, .sentinel, .listed, .data], laidTests := true, laidLooks := .later }
def SlotPrintsUptoCardSaid : Prop := Claim7.holds Tryd.pinned (.plain (OpenSpec.upto slotPrintsSpec)) slotPrintsUptoCard

/-- THE SECOND FORM's CARD OF 'marshalyardlaw02.SlotParses'. -/
def slotParsesUptoCard : Claim7 := { stood := { row := slotParsesUptoRow, standIns := [], harness := (true, "7814b371e82f13643f0186dd1fb44c18fd8db53e8534a368eb780aea16be5d69"), looks := true }, kinds := [], alts := [], laidByText := true, laidKinds := [.data, .data, .data, .data, .sentinel, .sentinel, .listed, .data], laidTests := true, laidLooks := .later }
def SlotParsesUptoCardSaid : Prop := Claim7.holds Tryd.pinned (.plain (OpenSpec.upto slotParsesSpec)) slotParsesUptoCard

/-- THE SECOND FORM's CARD OF 'marshalyardlaw02.SlotTwice'. -/
def slotTwiceUptoCard : Claim7 := { stood := { row := slotTwiceUptoRow, standIns := [], harness := (true, "7814b371e82f13643f0186dd1fb44c18fd8db53e8534a368eb780aea16be5d69"), looks := true }, kinds := [], alts := [], laidByText := true, laidKinds := [.data, .data, .data, .data, .sentinel, .sentinel, .listed, .data], laidTests := true, laidLooks := .later }
def SlotTwiceUptoCardSaid : Prop := Claim7.holds Tryd.pinned (.plain (OpenSpec.upto slotTwiceSpec)) slotTwiceUptoCard

/-- THE SECOND FORM's CARD OF 'marshalyardlaw02.SlotJoins'. -/
def slotJoinsUptoCard : Claim7 := { stood := { row := slotJoinsUptoRow, standIns := [], harness := (true, "7814b371e82f13643f0186dd1fb44c18fd8db53e8534a368eb780aea16be5d69"), looks := true }, kinds := [], alts := [], laidByText := true, laidKinds := [.data, .data, .data, .data, .sentinel, .sentinel, .listed, .data], laidTests := true, laidLooks := .later }
def SlotJoinsUptoCardSaid : Prop := Claim7.holds Tryd.pinned (.plain (OpenSpec.upto slotJoinsSpec)) slotJoinsUptoCard

/-- THE SECOND FORM's CARD OF 'marshalyardlaw02.SlotSets'. -/
def slotSetsUptoCard : Claim7 := { stood := { row := slotSetsUptoRow, standIns := [], harness := (true, "7814b371e82f13643f0186dd1fb44c18fd8db53e8534a368eb780aea16be5d69"), looks := true }, kinds := [], alts := [], laidByText := true, laidKinds := [.data, .data, .data, .data, .sentinel, .sentinel, .listed, .data], laidTests := true, laidLooks := .later }
def SlotSetsUptoCardSaid : Prop := Claim7.holds Tryd.pinned (.plain (OpenSpec.upto slotSetsSpec)) slotSetsUptoCard
end Rows
end Go.Proofs.YtnlchdjknebmfaaDoor
