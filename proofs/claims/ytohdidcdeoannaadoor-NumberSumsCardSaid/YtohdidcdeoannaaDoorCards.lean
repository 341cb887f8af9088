/-
  DERIVED. GIVEN WITH THE SEED: THE CARDS: each row of YtohdidcdeoannaaDoorRows.lean that lists a variable, with what it lists TIED to the program's text (the seventh form; the later family's looks); each row that meets fmt, with fmt's text TOLD by the authors' own Lean function (tested against real Go, not proved from fmt's source: count such statements apart). THE CARD IS WHAT COUNTS. Prove the row's statement (the work); the ties are given (YtohdidcdeoannaaDoorTie.lean); close each card by the builder's one call (the guide's Derived/Test/ToyasCard.lean, 'card_holds'). Laid BY PROGRAM, IN A SANDBOX (cutbox-door.mjs). By AI agents, Wed Nov 11 2026. No macro, syntax, notation, axiom, sorry.
-/
import Derived.Test.YtohdidcdeoannaaDoorRows
import GoSem.ClaimSeven
namespace Go.Proofs.YtohdidcdeoannaaDoor
namespace Rows

/-- THE TIED CARD OF 'marshalyardlaw05.NumberParses'. -/
def numberParsesCard : Claim7 := { stood := { row := numberParsesRow, standIns := [], harness := (true, "79a67cd187df3e16e49cd057e1a1646b796096d682305f5ad763f53bf13638e9"), looks := true }, kinds := [], alts := [], laidByText := true, laidKinds := [.data, .data, .data, .sentinel, .sentinel], laidTests := true, laidLooks := .later }
def NumberParsesCardSaid : Prop := Claim7.holds Tryd.pinned (.plain (OpenSpec.ofChange numberParsesSpec)) numberParsesCard

/-- THE TIED CARD OF 'marshalyardlaw05.NumberPrints'. -/
def numberPrintsCard : Claim7 := { stood := { row := numberPrintsRow, standIns := [], harness := (true, "79a67cd187df3e16e49cd057e1a1646b796096d682305f5ad763f53bf13638e9"), looks := true }, kinds := [], alts := [], laidByText := true, laidKinds := [.data, .data, .data, .sentinel, .sentinel], laidTests := true, laidLooks := .later }
def NumberPrintsCardSaid : Prop := Claim7.holds Tryd.pinned (.plain (OpenSpec.ofChange numberPrintsSpec)) numberPrintsCard

/-- THE TIED CARD OF 'marshalyardlaw05.NumberAgain'. -/
def numberAgainCard : Claim7 := { stood := { row := numberAgainRow, standIns := [], harness := (true, "79a67cd187df3e16e49cd057e1a1646b796096d682305f5ad763f53bf13638e9"), looks := true }, kinds := [], alts := [], laidByText := true, laidKinds := [.data, .data, .data, .sentinel, .sentinel], laidTests := true, laidLooks := .later }
def NumberAgainCardSaid : Prop := Claim7.holds Tryd.pinned (.plain (OpenSpec.ofChange numberAgainSpec)) numberAgainCard

/-- THE TIED CARD OF 'marshalyardlaw05.NumberClamps'. -/
def numberClampsCard : Claim7 := { stood := { row := numberClampsRow, standIns := [], harness := (true, "79a67cd187df3e16e49cd057e1a1646b796096d682305f5ad763f53bf13638e9"), looks := true }, kinds := [], alts := [], laidByText := true, laidKinds := [.data, .data, .data, .sentinel, .sentinel], laidTests := true, laidLooks := .later }
def NumberClampsCardSaid : Prop := Claim7.holds Tryd.pinned (.plain (OpenSpec.ofChange numberClampsSpec)) numberClampsCard

/-- THE TIED CARD OF 'marshalyardlaw05.NumberWhole'. -/
def numberWholeCard : Claim7 := { stood := { row := numberWholeRow, standIns := [], harness := (true, "79a67cd187df3e16e49cd057e1a1646b796096d682305f5ad763f53bf13638e9"), looks := true }, kinds := [], alts := [], laidByText := true, laidKinds := [.data, .data, .data, .sentinel, .sentinel], laidTests := true, laidLooks := .later }
def NumberWholeCardSaid : Prop := Claim7.holds Tryd.pinned (.plain (OpenSpec.ofChange numberWholeSpec)) numberWholeCard

/-- THE TIED CARD OF 'marshalyardlaw05.NumberAdds'. -/
def numberAddsCard : Claim7 := { stood := { row := numberAddsRow, standIns := [], harness := (true, "79a67cd187df3e16e49cd057e1a1646b796096d682305f5ad763f53bf13638e9"), looks := true }, kinds := [], alts := [], laidByText := true, laidKinds := [.data, .data, .data, .sentinel, .sentinel], laidTests := true, laidLooks := .later }
def NumberAddsCardSaid : Prop := Claim7.holds Tryd.pinned (.plain (OpenSpec.ofChange numberAddsSpec)) numberAddsCard

/-- THE TIED CARD OF 'marshalyardlaw05.NumberSums'. -/
def numberSumsCard : Claim7 := { stood := { row := numberSumsRow, standIns := [], harness := (true, "79a67cd187df3e16e49cd057e1a1646b796096d682305f5ad763f53bf13638e9"), looks := true }, kinds := [], alts := [], laidByText := true, laidKinds := [.data, .data, .data, .sentinel, .sentinel], laidTests := true, laidLooks := .later }
def NumberSumsCardSaid : Prop := Claim7.holds Tryd.pinned (.plain (OpenSpec.ofChange numberSumsSpec)) numberSumsCard

/-- THE SECOND FORM's CARD OF 'marshalyardlaw05.NumberParses'. -/
def numberParsesUptoCard : Claim7 := { stood := { row := numberParsesUptoRow, standIns := [], harness := (true, "79a67cd187df3e16e49cd057e1a1646b796096d682305f5ad763f53bf13638e9"), looks := true }, kinds := [], alts := [], laidByText := true, laidKinds := [.data, .data, .data, .sentinel, .sentinel], laidTests := true, laidLooks := .later }
def NumberParsesUptoCardSaid : Prop := Claim7.holds Tryd.pinned (.plain (OpenSpec.upto numberParsesSpec)) numberParsesUptoCard

/-- THE SECOND FORM's CARD OF 'marshalyardlaw05.NumberPrints'. -/
def numberPrintsUptoCard : Claim7 := { stood := { row := numberPrintsUptoRow, standIns := [], harness := (true, "79a67cd187df3e16e49cd057e1a1646b796096d682305f5ad763f53bf13638e9"), looks := true }, kinds := [], alts := [], laidByText := true, laidKinds := [.data, .data, .data, .sentinel, .sentinel], laidTests := true, laidLooks := .later }
def NumberPrintsUptoCardSaid : Prop := Claim7.holds Tryd.pinned (.plain (OpenSpec.upto numberPrintsSpec)) numberPrintsUptoCard

/-- THE SECOND FORM's CARD OF 'marshalyardlaw05.NumberAgain'. -/
def numberAgainUptoCard : Claim7 := { stood := { row := numberAgainUptoRow, standIns := [], harness := (true, "79a67cd187df3e16e49cd057e1a1646b796096d682305f5ad763f53bf13638e9"), looks := true }, kinds := [], alts := [], laidByText := true, laidKinds := [.data, .data, .data, .sentinel, .sentinel], laidTests := true, laidLooks := .later }
def NumberAgainUptoCardSaid : Prop := Claim7.holds Tryd.pinned (.plain (OpenSpec.upto numberAgainSpec)) numberAgainUptoCard

/-- THE SECOND FORM's CARD OF 'marshalyardlaw05.NumberClamps'. -/
def numberClampsUptoCard : Claim7 := { stood := { row := numberClampsUptoRow, standIns := [], harness := (true, "79a67cd187df3e16e49cd057e1a1646b796096d682305f5ad763f53bf13638e9"), looks := true }, kinds := [], alts := [], laidByText := true, laidKinds := [.data, .data, .data, .sentinel, .sentinel], laidTests := true, laidLooks := .later }
def NumberClampsUptoCardSaid : Prop := Claim7.holds Tryd.pinned (.plain (OpenSpec.upto numberClampsSpec)) numberClampsUptoCard

/-- THE SECOND FORM's CARD OF 'marshalyardlaw05.NumberWhole'. -/
def numberWholeUptoCard : Claim7 := { stood := { row := numberWholeUptoRow, standIns := [], harness := (true, "79a67cd187df3e16e49cd057e1a1646b796096d682305f5ad763f53bf13638e9"), looks := true }, kinds := [], alts := [], laidByText := true, laidKinds := [.data, .data, .data, .sentinel, .sentinel], laidTests := true, laidLooks := .later }
def NumberWholeUptoCardSaid : Prop := Claim7.holds Tryd.pinned (.plain (OpenSpec.upto numberWholeSpec)) numberWholeUptoCard

/-- THE SECOND FORM's CARD OF 'marshalyardlaw05.NumberAdds'. -/
def numberAddsUptoCard : Claim7 := { stood := { row := numberAddsUptoRow, standIns := [], harness := (true, "79a67cd187df3e16e49cd057e1a1646b796096d682305f5ad763f53bf13638e9"), looks := true }, kinds := [], alts := [], laidByText := true, laidKinds := [.data, .data, .data, .sentinel, .sentinel], laidTests := true, laidLooks := .later }
def NumberAddsUptoCardSaid : Prop := Claim7.holds Tryd.pinned (.plain (OpenSpec.upto numberAddsSpec)) numberAddsUptoCard

/-- THE SECOND FORM's CARD OF 'marshalyardlaw05.NumberSums'. -/
def numberSumsUptoCard : Claim7 := { stood := { row := numberSumsUptoRow, standIns := [], harness := (true, "79a67cd187df3e16e49cd057e1a1646b796096d682305f5ad763f53bf13638e9"), looks := true }, kinds := [], alts := [], laidByText := true, laidKinds := [.data, .data, .data, .sentinel, .sentinel], laidTests := true, laidLooks := .later }
def NumberSumsUptoCardSaid : Prop := Claim7.holds Tryd.pinned (.plain (OpenSpec.upto numberSumsSpec)) numberSumsUptoCard
end Rows
end Go.Proofs.YtohdidcdeoannaaDoor
