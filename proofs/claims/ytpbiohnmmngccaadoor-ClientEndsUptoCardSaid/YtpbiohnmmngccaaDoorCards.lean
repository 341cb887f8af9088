/-
  DERIVED. GIVEN WITH THE SEED: THE CARDS: each row of YtpbiohnmmngccaaDoorRows.lean that lists a variable, with what it lists TIED to the program's text (the seventh form; the later family's looks); each row that meets fmt, with fmt's text TOLD by the authors' own Lean function (tested against real Go, not proved from fmt's source: count such statements apart). THE CARD IS WHAT COUNTS. Prove the row's statement (the work); the ties are given (YtpbiohnmmngccaaDoorTie.lean); close each card by the builder's one call (the guide's Derived/Test/ToyasCard.lean, 'card_holds'). Laid BY PROGRAM, IN A SANDBOX (cutbox-door.mjs). By AI agents, Wed Nov 11 2026. No macro, syntax, notation, axiom, sorry.
-/
import Derived.Test.YtpbiohnmmngccaaDoorRows
import GoSem.ClaimSeven
namespace Go.Proofs.YtpbiohnmmngccaaDoor
namespace Rows

/-- THE TIED CARD OF 'marshalyardlaw21.ClientEnds'. -/
def clientEndsCard : Claim7 := { stood := { row := clientEndsRow, standIns := [], harness := (true, "7022cce0a7abfc565028d4d7b3eed5e071774cc2b02df589b701cabefbae1000"), looks := true }, kinds := [], alts := [], laidByText := true, laidKinds := [.data, .data, .data, .data, .data, .sentinel, .sentinel, .pinned], laidTests := true, laidLooks := .later }
def ClientEndsCardSaid : Prop := Claim7.holds Tryd.pinned (.plain (OpenSpec.ofChange clientEndsSpec)) clientEndsCard

/-- THE TIED CARD OF 'marshalyardlaw21.ClientNumbers'. -/
def clientNumbersCard : Claim7 := { stood := { row := clientNumbersRow, standIns := [], harness := (true, "7022cce0a7abfc565028d4d7b3eed5e071774cc2b02df589b701cabefbae1000"), looks := true }, kinds := [], alts := [], laidByText := true, laidKinds := [.data, .data, .data, .data, .data, .sentinel, .sentinel, .pinned], laidTests := true, laidLooks := .later }
def ClientNumbersCardSaid : Prop := Claim7.holds Tryd.pinned (.plain (OpenSpec.ofChange clientNumbersSpec)) clientNumbersCard

/-- THE TIED CARD OF 'marshalyardlaw21.ClientLearns'. -/
def clientLearnsCard : Claim7 := { stood := { row := clientLearnsRow, standIns := [], harness := (true, "7022cce0a7abfc565028d4d7b3eed5e071774cc2b02df589b701cabefbae1000"), looks := true }, kinds := [], alts := [], laidByText := true, laidKinds := [.data, .data, .data, .data, .data, .sentinel, .sentinel, .pinned], laidTests := true, laidLooks := .later }
def ClientLearnsCardSaid : Prop := Claim7.holds Tryd.pinned (.plain (OpenSpec.ofChange clientLearnsSpec)) clientLearnsCard

/-- THE TIED CARD OF 'marshalyardlaw21.ClientRests'. -/
def clientRestsCard : Claim7 := { stood := { row := clientRestsRow, standIns := [], harness := (true, "7022cce0a7abfc565028d4d7b3eed5e071774cc2b02df589b701cabefbae1000"), looks := true }, kinds := [], alts := [], laidByText := true, laidKinds := [.data, .data, .data, .data, .data, .sentinel, .sentinel, .pinned], laidTests := true, laidLooks := .later }
def ClientRestsCardSaid : Prop := Claim7.holds Tryd.pinned (.plain (OpenSpec.ofChange clientRestsSpec)) clientRestsCard

/-- THE SECOND FORM's CARD OF 'marshalyardlaw21.ClientEnds'. -/
def clientEndsUptoCard : Claim7 := { stood := { row := clientEndsUptoRow, standIns := [], harness := (true, "7022cce0a7abfc565028d4d7b3eed5e071774cc2b02df589b701cabefbae1000"), looks := true }, kinds := [], alts := [], laidByText := true, laidKinds := [.data, .data, .data, .data, .data, .sentinel, .sentinel, .pinned], laidTests := true, laidLooks := .later }
def ClientEndsUptoCardSaid : Prop := Claim7.holds Tryd.pinned (.plain (OpenSpec.upto clientEndsSpec)) clientEndsUptoCard

/-- THE SECOND FORM's CARD OF 'marshalyardlaw21.ClientNumbers'. -/
def clientNumbersUptoCard : Claim7 := { stood := { row := clientNumbersUptoRow, standIns := [], harness := (true, "7022cce0a7abfc565028d4d7b3eed5e071774cc2b02df589b701cabefbae1000"), looks := true }, kinds := [], alts := [], laidByText := true, laidKinds := [.data, .data, .data, .data, .data, .sentinel, .sentinel, .pinned], laidTests := true, laidLooks := .later }
def ClientNumbersUptoCardSaid : Prop := Claim7.holds Tryd.pinned (.plain (OpenSpec.upto clientNumbersSpec)) clientNumbersUptoCard

/-- THE SECOND FORM's CARD OF 'marshalyardlaw21.ClientLearns'. -/
def clientLearnsUptoCard : Claim7 := { stood := { row := clientLearnsUptoRow, standIns := [], harness := (true, "7022cce0a7abfc565028d4d7b3eed5e071774cc2b02df589b701cabefbae1000"), looks := true }, kinds := [], alts := [], laidByText := true, laidKinds := [.data, .data, .data, .data, .data, .sentinel, .sentinel, .pinned], laidTests := true, laidLooks := .later }
def ClientLearnsUptoCardSaid : Prop := Claim7.holds Tryd.pinned (.plain (OpenSpec.upto clientLearnsSpec)) clientLearnsUptoCard

/-- THE SECOND FORM's CARD OF 'marshalyardlaw21.ClientRests'. -/
def clientRestsUptoCard : Claim7 := { stood := { row := clientRestsUptoRow, standIns := [], harness := (true, "7022cce0a7abfc565028d4d7b3eed5e071774cc2b02df589b701cabefbae1000"), looks := true }, kinds := [], alts := [], laidByText := true, laidKinds := [.data, .data, .data, .data, .data, .sentinel, .sentinel, .pinned], laidTests := true, laidLooks := .later }
def ClientRestsUptoCardSaid : Prop := Claim7.holds Tryd.pinned (.plain (OpenSpec.upto clientRestsSpec)) clientRestsUptoCard
end Rows
end Go.Proofs.YtpbiohnmmngccaaDoor
