/-
  DERIVED. GIVEN WITH THE SEED: THE CARDS: each row of YtgdcnenlelckhaaGreatDoorRows.lean that lists a variable, with what it lists TIED to the program's text (the seventh form; the later family's looks); each row that meets fmt, with fmt's text TOLD by the authors' own Lean function (tested against real Go, not proved from fmt's source: count such statements apart). THE CARD IS WHAT COUNTS. Prove the row's statement (the work); the ties are given (YtgdcnenlelckhaaGreatDoorTie.lean); close each card by the builder's one call (the guide's Derived/Test/ToyasCard.lean, 'card_holds'). Laid BY PROGRAM, IN A SANDBOX (cutbox-door.mjs). By AI agents, Wed Nov 11 2026. No macro, syntax, notation, axiom, sorry.
-/
import Derived.Test.YtgdcnenlelckhaaGreatDoorRows
import GoSem.ClaimSeven
namespace Go.Proofs.YtgdcnenlelckhaaGreatDoor
namespace Rows

/-- THE TIED CARD OF 'marshalyardlaw16.BusMeets'. -/
def busMeetsCard : Claim7 := { stood := { row := busMeetsRow, standIns := [], harness := (true, "94f22c363d27c7ff46e6f767ca757fb0bc79e01d673d84a2041c2a4ea2798708"), looks := true }, kinds := [], alts := [], laidByText := true, laidKinds := [.data, .data, .data, .data, .sentinel, .sentinel, .listed, .data], laidTests := true, laidLooks := .later }
def BusMeetsCardSaid : Prop := Claim7.holds Tryz.pinned (.plain (OpenSpec.ofChange busMeetsSpec)) busMeetsCard

/-- THE TIED CARD OF 'marshalyardlaw16.BusAll'. -/
def busAllCard : Claim7 := { stood := { row := busAllRow, standIns := [], harness := (true, "94f22c363d27c7ff46e6f767ca757fb0bc79e01d673d84a2041c2a4ea2798708"), looks := true }, kinds := [], alts := [], laidByText := true, laidKinds := [.data, .data, .data, .data, .sentinel, .sentinel, .listed, .data], laidTests := true, laidLooks := .later }
def BusAllCardSaid : Prop := Claim7.holds Tryz.pinned (.plain (OpenSpec.ofChange busAllSpec)) busAllCard

/-- THE TIED CARD OF 'marshalyardlaw16.BusIgnores'. -/
def busIgnoresCard : Claim7 := { stood := { row := busIgnoresRow, standIns := [], harness := (true, "94f22c363d27c7ff46e6f767ca757fb0bc79e01d673d84a2041c2a4ea2798708"), looks := true }, kinds := [], alts := [], laidByText := true, laidKinds := [.data, .data, .data, .data, .sentinel, .sentinel, .listed, .data], laidTests := true, laidLooks := .later }
def BusIgnoresCardSaid : Prop := Claim7.holds Tryz.pinned (.plain (OpenSpec.ofChange busIgnoresSpec)) busIgnoresCard

/-- THE TIED CARD OF 'marshalyardlaw16.BusTwice'. -/
def busTwiceCard : Claim7 := { stood := { row := busTwiceRow, standIns := [], harness := (true, "94f22c363d27c7ff46e6f767ca757fb0bc79e01d673d84a2041c2a4ea2798708"), looks := true }, kinds := [], alts := [], laidByText := true, laidKinds := [.data, .data, .data, .data, .sentinel, .sentinel, .listed, .data], laidTests := true, laidLooks := .later }
def BusTwiceCardSaid : Prop := Claim7.holds Tryz.pinned (.plain (OpenSpec.ofChange busTwiceSpec)) busTwiceCard

/-- THE SECOND FORM's CARD OF 'marshalyardlaw16.BusMeets'. -/
def busMeetsUptoCard : Claim7 := { stood := { row := busMeetsUptoRow, standIns := [], harness := (true, "94f22c363d27c7ff46e6f767ca757fb0bc79e01d673d84a2041c2a4ea2798708"), looks := true }, kinds := [], alts := [], laidByText := true, laidKinds := [.data, .data, .data, .data, .sentinel, .sentinel, .listed, .data], laidTests := true, laidLooks := .later }
def BusMeetsUptoCardSaid : Prop := Claim7.holds Tryz.pinned (.plain (OpenSpec.upto busMeetsSpec)) busMeetsUptoCard

/-- THE SECOND FORM's CARD OF 'marshalyardlaw16.BusAll'. -/
def busAllUptoCard : Claim7 := { stood := { row := busAllUptoRow, standIns := [], harness := (true, "94f22c363d27c7ff46e6f767ca757fb0bc79e01d673d84a2041c2a4ea2798708"), looks := true }, kinds := [], alts := [], laidByText := true, laidKinds := [.data, .data, .data, .data, .sentinel, .sentinel, .listed, .data], laidTests := true, laidLooks := .later }
def BusAllUptoCardSaid : Prop := Claim7.holds Tryz.pinned (.plain (OpenSpec.upto busAllSpec)) busAllUptoCard

/-- THE SECOND FORM's CARD OF 'marshalyardlaw16.BusIgnores'. -/
def busIgnoresUptoCard : Claim7 := { stood := { row := busIgnoresUptoRow, standIns := [], harness := (true, "94f22c363d27c7ff46e6f767ca757fb0bc79e01d673d84a2041c2a4ea2798708"), looks := true }, kinds := [], alts := [], laidByText := true, laidKinds := [.data, .data, .data, .data, .sentinel, .sentinel, .listed, .data], laidTests := true, laidLooks := .later }
def BusIgnoresUptoCardSaid : Prop := Claim7.holds Tryz.pinned (.plain (OpenSpec.upto busIgnoresSpec)) busIgnoresUptoCard

/-- THE SECOND FORM's CARD OF 'marshalyardlaw16.BusTwice'. -/
def busTwiceUptoCard : Claim7 := { stood := { row := busTwiceUptoRow, standIns := [], harness := (true, "94f22c363d27c7ff46e6f767ca757fb0bc79e01d673d84a2041c2a4ea2798708"), looks := true }, kinds := [], alts := [], laidByText := true, laidKinds := [.data, .data, .data, .data, .sentinel, .sentinel, .listed, .data], laidTests := true, laidLooks := .later }
def BusTwiceUptoCardSaid : Prop := Claim7.holds Tryz.pinned (.plain (OpenSpec.upto busTwiceSpec)) busTwiceUptoCard
end Rows
end Go.Proofs.YtgdcnenlelckhaaGreatDoor
