/-
  DERIVED. GIVEN WITH THE SEED: THE CARDS: each row of YtbpjfjdndaoekaaDoorRows.lean that lists a variable, with what it lists TIED to the program's text (the seventh form; the later family's looks); each row that meets fmt, with fmt's text TOLD by the authors' own Lean function (tested against real Go, not proved from fmt's source: count such statements apart). THE CARD IS WHAT COUNTS. Prove the row's statement (the work); the ties are given (YtbpjfjdndaoekaaDoorTie.lean); close each card by the builder's one call (the guide's Derived/Test/ToyasCard.lean, 'card_holds'). Laid BY PROGRAM, IN A SANDBOX (cutbox-door.mjs). By AI agents, Wed Nov 11 2026. No macro, syntax, notation, axiom, sorry.
-/
import Derived.Test.YtbpjfjdndaoekaaDoorRows
import GoSem.ClaimSeven
namespace Go.Proofs.YtbpjfjdndaoekaaDoor
namespace Rows

/-- THE TIED CARD OF 'marshalyardlaw14.PacketWrites'. -/
def packetWritesCard : Claim7 := { stood := { row := packetWritesRow, standIns := [], harness := (true, "fe4b7d0824263f2e7b08e8a3b08d3fbcfcea94191e71dedb0fa48645a0aa1ebf"), looks := true }, kinds := [], alts := [], laidByText := true, laidKinds := [.data, .data, .data, .data, .sentinel, .sentinel, .listed, .data], laidTests := true, laidLooks := .later }
def PacketWritesCardSaid : Prop := Claim7.holds Tryd.pinned (.plain (OpenSpec.ofChange packetWritesSpec)) packetWritesCard

/-- THE TIED CARD OF 'marshalyardlaw14.PacketReads'. -/
def packetReadsCard : Claim7 := { stood := { row := packetReadsRow, standIns := [], harness := (true, "fe4b7d0824263f2e7b08e8a3b08d3fbcfcea94191e71dedb0fa48645a0aa1ebf"), looks := true }, kinds := [], alts := [], laidByText := true, laidKinds := [.data, .data, .data, .data, .sentinel, .sentinel, .listed, .data], laidTests := true, laidLooks := .later }
def PacketReadsCardSaid : Prop := Claim7.holds Tryd.pinned (.plain (OpenSpec.ofChange packetReadsSpec)) packetReadsCard

/-- THE TIED CARD OF 'marshalyardlaw14.PacketBack'. -/
def packetBackCard : Claim7 := { stood := { row := packetBackRow, standIns := [], harness := (true, "fe4b7d0824263f2e7b08e8a3b08d3fbcfcea94191e71dedb0fa48645a0aa1ebf"), looks := true }, kinds := [], alts := [], laidByText := true, laidKinds := [.data, .data, .data, .data, .sentinel, .sentinel, .listed, .data], laidTests := true, laidLooks := .later }
def PacketBackCardSaid : Prop := Claim7.holds Tryd.pinned (.plain (OpenSpec.ofChange packetBackSpec)) packetBackCard

/-- THE TIED CARD OF 'marshalyardlaw14.PacketBursts'. -/
def packetBurstsCard : Claim7 := { stood := { row := packetBurstsRow, standIns := [], harness := (true, "fe4b7d0824263f2e7b08e8a3b08d3fbcfcea94191e71dedb0fa48645a0aa1ebf"), looks := true }, kinds := [], alts := [], laidByText := true, laidKinds := [.data, .data, .data, .data, .sentinel, .sentinel, .listed, .data], laidTests := true, laidLooks := .later }
def PacketBurstsCardSaid : Prop := Claim7.holds Tryd.pinned (.plain (OpenSpec.ofChange packetBurstsSpec)) packetBurstsCard

/-- THE TIED CARD OF 'marshalyardlaw14.PacketCuts'. -/
def packetCutsCard : Claim7 := { stood := { row := packetCutsRow, standIns := [], harness := (true, "fe4b7d0824263f2e7b08e8a3b08d3fbcfcea94191e71dedb0fa48645a0aa1ebf"), looks := true }, kinds := [], alts := [], laidByText := true, laidKinds := [.data, .data, .data, .data, .sentinel, .sentinel, .listed, .data], laidTests := true, laidLooks := .later }
def PacketCutsCardSaid : Prop := Claim7.holds Tryd.pinned (.plain (OpenSpec.ofChange packetCutsSpec)) packetCutsCard

/-- THE TIED CARD OF 'marshalyardlaw14.PacketUnlike'. -/
def packetUnlikeCard : Claim7 := { stood := { row := packetUnlikeRow, standIns := [], harness := (true, "fe4b7d0824263f2e7b08e8a3b08d3fbcfcea94191e71dedb0fa48645a0aa1ebf"), looks := true }, kinds := [], alts := [], laidByText := true, laidKinds := [.data, .data, .data, .data, .sentinel, .sentinel, .listed, .data], laidTests := true, laidLooks := .later }
def PacketUnlikeCardSaid : Prop := Claim7.holds Tryd.pinned (.plain (OpenSpec.ofChange packetUnlikeSpec)) packetUnlikeCard

/-- THE SECOND FORM's CARD OF 'marshalyardlaw14.PacketWrites'. -/
def packetWritesUptoCard : Claim7 := { stood := { row := packetWritesUptoRow, standIns := [], harness := (true, "fe4b7d0824263f2e7b08e8a3b08d3fbcfcea94191e71dedb0fa48645a0aa1ebf"), looks := true }, kinds := [], alts := [], laidByText := true, laidKinds := [.data, .data, .data, .data, .sentinel, .sentinel, .listed, .data], laidTests := true, laidLooks := .later }
def PacketWritesUptoCardSaid : Prop := Claim7.holds Tryd.pinned (.plain (OpenSpec.upto packetWritesSpec)) packetWritesUptoCard

/-- THE SECOND FORM's CARD OF 'marshalyardlaw14.PacketReads'. -/
def packetReadsUptoCard : Claim7 := { stood := { row := packetReadsUptoRow, standIns := [], harness := (true, "fe4b7d0824263f2e7b08e8a3b08d3fbcfcea94191e71dedb0fa48645a0aa1ebf"), looks := true }, kinds := [], alts := [], laidByText := true, laidKinds := [.data, .data, .data, .data, .sentinel, .sentinel, .listed, .data], laidTests := true, laidLooks := .later }
def PacketReadsUptoCardSaid : Prop := Claim7.holds Tryd.pinned (.plain (OpenSpec.upto packetReadsSpec)) packetReadsUptoCard

/-- THE SECOND FORM's CARD OF 'marshalyardlaw14.PacketBack'. -/
def packetBackUptoCard : Claim7 := { stood := { row := packetBackUptoRow, standIns := [], harness := (true, "fe4b7d0824263f2e7b08e8a3b08d3fbcfcea94191e71dedb0fa48645a0aa1ebf"), looks := true }, kinds := [], alts := [], laidByText := true, laidKinds := [.data, .data, .data, .data, .sentinel, .sentinel, .listed, .data], laidTests := true, laidLooks := .later }
def PacketBackUptoCardSaid : Prop := Claim7.holds Tryd.pinned (.plain (OpenSpec.upto packetBackSpec)) packetBackUptoCard

/-- THE SECOND FORM's CARD OF 'marshalyardlaw14.PacketBursts'. -/
def packetBurstsUptoCard : Claim7 := { stood := { row := packetBurstsUptoRow, standIns := [], harness := (true, "fe4b7d0824263f2e7b08e8a3b08d3fbcfcea94191e71dedb0fa48645a0aa1ebf"), looks := true }, kinds := [], alts := [], laidByText := true, laidKinds := [.data, .data, .data, .data, .sentinel, .sentinel, .listed, .data], laidTests := true, laidLooks := .later }
def PacketBurstsUptoCardSaid : Prop := Claim7.holds Tryd.pinned (.plain (OpenSpec.upto packetBurstsSpec)) packetBurstsUptoCard

/-- THE SECOND FORM's CARD OF 'marshalyardlaw14.PacketCuts'. -/
def packetCutsUptoCard : Claim7 := { stood := { row := packetCutsUptoRow, standIns := [], harness := (true, "fe4b7d0824263f2e7b08e8a3b08d3fbcfcea94191e71dedb0fa48645a0aa1ebf"), looks := true }, kinds := [], alts := [], laidByText := true, laidKinds := [.data, .data, .data, .data, .sentinel, .sentinel, .listed, .data], laidTests := true, laidLooks := .later }
def PacketCutsUptoCardSaid : Prop := Claim7.holds Tryd.pinned (.plain (OpenSpec.upto packetCutsSpec)) packetCutsUptoCard

/-- THE SECOND FORM's CARD OF 'marshalyardlaw14.PacketUnlike'. -/
def packetUnlikeUptoCard : Claim7 := { stood := { row := packetUnlikeUptoRow, standIns := [], harness := (true, "fe4b7d0824263f2e7b08e8a3b08d3fbcfcea94191e71dedb0fa48645a0aa1ebf"), looks := true }, kinds := [], alts := [], laidByText := true, laidKinds := [.data, .data, .data, .data, .sentinel, .sentinel, .listed, .data], laidTests := true, laidLooks := .later }
def PacketUnlikeUptoCardSaid : Prop := Claim7.holds Tryd.pinned (.plain (OpenSpec.upto packetUnlikeSpec)) packetUnlikeUptoCard
end Rows
end Go.Proofs.YtbpjfjdndaoekaaDoor
