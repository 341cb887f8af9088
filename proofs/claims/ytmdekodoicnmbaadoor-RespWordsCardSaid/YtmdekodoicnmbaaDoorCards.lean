/-
  DERIVED. GIVEN WITH THE SEED: THE CARDS: each row of YtmdekodoicnmbaaDoorRows.lean that lists a variable, with what it lists TIED to the program's text (the seventh form; the later family's looks); each row that meets fmt, with fmt's text TOLD by the authors' own Lean function (tested against real Go, not proved from fmt's source: count such statements apart). THE CARD IS WHAT COUNTS. Prove the row's statement (the work); the ties are given (YtmdekodoicnmbaaDoorTie.lean); close each card by the builder's one call (the guide's Derived/Test/ToyasCard.lean, 'card_holds'). Laid BY PROGRAM, IN A SANDBOX (cutbox-door.mjs). By AI agents, Wed Nov 11 2026. No macro, syntax, notation, axiom, sorry.
-/
import Derived.Test.YtmdekodoicnmbaaDoorRows
import GoSem.ClaimSeven
namespace Go.Proofs.YtmdekodoicnmbaaDoor
namespace Rows

/-- THE TIED CARD OF 'marshalyardlaw03.RespAgain'. -/
def respAgainCard : Claim7 := { stood := { row := respAgainRow, standIns := [], harness := (true, "1f3dad902a216b9d86a4c456042c5f4510ddf81d2625ed61514e7b3a38f32707"), looks := true }, kinds := [], alts := [], laidByText := true, laidKinds := [.data, .data, .data, .sentinel, .sentinel], laidTests := true, laidLooks := .later }
def RespAgainCardSaid : Prop := Claim7.holds Tryd.pinned (.plain (OpenSpec.ofChange respAgainSpec)) respAgainCard

/-- THE TIED CARD OF 'marshalyardlaw03.RespWrites'. -/
def respWritesCard : Claim7 := { stood := { row := respWritesRow, standIns := [], harness := (true, "1f3dad902a216b9d86a4c456042c5f4510ddf81d2625ed61514e7b3a38f32707"), looks := true }, kinds := [], alts := [], laidByText := true, laidKinds := [.data, .data, .data, .sentinel, .sentinel], laidTests := true, laidLooks := .later }
def RespWritesCardSaid : Prop := Claim7.holds Tryd.pinned (.plain (OpenSpec.ofChange respWritesSpec)) respWritesCard

/-- THE TIED CARD OF 'marshalyardlaw03.RespBack'. -/
def respBackCard : Claim7 := { stood := { row := respBackRow, standIns := [], harness := (true, "1f3dad902a216b9d86a4c456042c5f4510ddf81d2625ed61514e7b3a38f32707"), looks := true }, kinds := [], alts := [], laidByText := true, laidKinds := [.data, .data, .data, .sentinel, .sentinel], laidTests := true, laidLooks := .later }
def RespBackCardSaid : Prop := Claim7.holds Tryd.pinned (.plain (OpenSpec.ofChange respBackSpec)) respBackCard

/-- THE TIED CARD OF 'marshalyardlaw03.RespWords'. -/
def respWordsCard : Claim7 := { stood := { row := respWordsRow, standIns := [], harness := (true, "1f3dad902a216b9d86a4c456042c5f4510ddf81d2625ed61514e7b3a38f32707"), looks := true }, kinds := [], alts := [], laidByText := true, laidKinds := [.data, .data, .data, .sentinel, .sentinel], laidTests := true, laidLooks := .later }
def RespWordsCardSaid : Prop := Claim7.holds Tryd.pinned (.plain (OpenSpec.ofChange respWordsSpec)) respWordsCard

/-- THE SECOND FORM's CARD OF 'marshalyardlaw03.RespAgain'. -/
def respAgainUptoCard : Claim7 := { stood := { row := respAgainUptoRow, standIns := [], harness := (true, "1f3dad902a216b9d86a4c456042c5f4510ddf81d2625ed61514e7b3a38f32707"), looks := true }, kinds := [], alts := [], laidByText := true, laidKinds := [.data, .data, .data, .sentinel, .sentinel], laidTests := true, laidLooks := .later }
def RespAgainUptoCardSaid : Prop := Claim7.holds Tryd.pinned (.plain (OpenSpec.upto respAgainSpec)) respAgainUptoCard

/-- THE SECOND FORM's CARD OF 'marshalyardlaw03.RespWrites'. -/
def respWritesUptoCard : Claim7 := { stood := { row := respWritesUptoRow, standIns := [], harness := (true, "1f3dad902a216b9d86a4c456042c5f4510ddf81d2625ed61514e7b3a38f32707"), looks := true }, kinds := [], alts := [], laidByText := true, laidKinds := [.data, .data, .data, .sentinel, .sentinel], laidTests := true, laidLooks := .later }
def RespWritesUptoCardSaid : Prop := Claim7.holds Tryd.pinned (.plain (OpenSpec.upto respWritesSpec)) respWritesUptoCard

/-- THE SECOND FORM's CARD OF 'marshalyardlaw03.RespBack'. -/
def respBackUptoCard : Claim7 := { stood := { row := respBackUptoRow, standIns := [], harness := (true, "1f3dad902a216b9d86a4c456042c5f4510ddf81d2625ed61514e7b3a38f32707"), looks := true }, kinds := [], alts := [], laidByText := true, laidKinds := [.data, .data, .data, .sentinel, .sentinel], laidTests := true, laidLooks := .later }
def RespBackUptoCardSaid : Prop := Claim7.holds Tryd.pinned (.plain (OpenSpec.upto respBackSpec)) respBackUptoCard

/-- THE SECOND FORM's CARD OF 'marshalyardlaw03.RespWords'. -/
def respWordsUptoCard : Claim7 := { stood := { row := respWordsUptoRow, standIns := [], harness := (true, "1f3dad902a216b9d86a4c456042c5f4510ddf81d2625ed61514e7b3a38f32707"), looks := true }, kinds := [], alts := [], laidByText := true, laidKinds := [.data, .data, .data, .sentinel, .sentinel], laidTests := true, laidLooks := .later }
def RespWordsUptoCardSaid : Prop := Claim7.holds Tryd.pinned (.plain (OpenSpec.upto respWordsSpec)) respWordsUptoCard
end Rows
end Go.Proofs.YtmdekodoicnmbaaDoor
