/-
  DERIVED. GIVEN WITH THE SEED: THE CARDS: each row of YtbopfhbeegkkaabGreatDoorRows.lean that lists a variable, with what it lists TIED to the program's text (the seventh form; the later family's looks); each row that meets fmt, with fmt's text TOLD by the authors' own Lean function (tested against real Go, not proved from fmt's source: count such statements apart). THE CARD IS WHAT COUNTS. Prove the row's statement (the work); the ties are given (YtbopfhbeegkkaabGreatDoorTie.lean); close each card by the builder's one call (the guide's Derived/Test/ToyasCard.lean, 'card_holds'). Laid BY PROGRAM, IN A SANDBOX (cutbox-door.mjs). By AI agents, Wed Nov 11 2026. No macro, syntax, notation, axiom, sorry.
-/
import Derived.Test.YtbopfhbeegkkaabGreatDoorRows
import GoSem.ClaimSeven
namespace Go.Proofs.YtbopfhbeegkkaabGreatDoor
namespace Rows

/-- THE TIED CARD OF 'copselaw.SitePlays'. -/
def sitePlaysCard : Claim7 := { stood := { row := sitePlaysRow, standIns := [], harness := (true, "db42dded0c1dc305d42a33db6908f5f85324214e36283f6c3c79c66ecd0c09e8"), looks := true }, kinds := [], alts := [], laidByText := true, laidKinds := [.handle], laidTests := true, laidLooks := .later }
def SitePlaysCardSaid : Prop := Claim7.holds Tryz.pinned (.plain (OpenSpec.ofChange sitePlaysSpec)) sitePlaysCard

/-- THE TIED CARD OF 'copselaw.SessionPlays'. -/
def sessionPlaysCard : Claim7 := { stood := { row := sessionPlaysRow, standIns := [], harness := (true, "db42dded0c1dc305d42a33db6908f5f85324214e36283f6c3c79c66ecd0c09e8"), looks := true }, kinds := [], alts := [], laidByText := true, laidKinds := [.handle], laidTests := true, laidLooks := .later }
def SessionPlaysCardSaid : Prop := Claim7.holds Tryz.pinned (.plain (OpenSpec.ofChange sessionPlaysSpec)) sessionPlaysCard

/-- THE TIED CARD OF 'copsekeep.WorldCausal'. -/
def worldCausalCard : Claim7 := { stood := { row := worldCausalRow, standIns := [], harness := (true, "db42dded0c1dc305d42a33db6908f5f85324214e36283f6c3c79c66ecd0c09e8"), looks := true }, kinds := [], alts := [], laidByText := true, laidKinds := [.handle], laidTests := true, laidLooks := .later }
def WorldCausalCardSaid : Prop := Claim7.holds Tryz.pinned (.plain (OpenSpec.ofChange worldCausalSpec)) worldCausalCard

/-- THE TIED CARD OF 'copsekeep.WorldMeets'. -/
def worldMeetsCard : Claim7 := { stood := { row := worldMeetsRow, standIns := [], harness := (true, "db42dded0c1dc305d42a33db6908f5f85324214e36283f6c3c79c66ecd0c09e8"), looks := true }, kinds := [], alts := [], laidByText := true, laidKinds := [.handle], laidTests := true, laidLooks := .later }
def WorldMeetsCardSaid : Prop := Claim7.holds Tryz.pinned (.plain (OpenSpec.ofChange worldMeetsSpec)) worldMeetsCard

/-- THE TIED CARD OF 'copsekeep.WorldSwept'. -/
def worldSweptCard : Claim7 := { stood := { row := worldSweptRow, standIns := [], harness := (true, "db42dded0c1dc305d42a33db6908f5f85324214e36283f6c3c79c66ecd0c09e8"), looks := true }, kinds := [], alts := [], laidByText := true, laidKinds := [.handle], laidTests := true, laidLooks := .later }
def WorldSweptCardSaid : Prop := Claim7.holds Tryz.pinned (.plain (OpenSpec.ofChange worldSweptSpec)) worldSweptCard

/-- THE TIED CARD OF 'copselaw.WorldPlays'. -/
def worldPlaysCard : Claim7 := { stood := { row := worldPlaysRow, standIns := [], harness := (true, "db42dded0c1dc305d42a33db6908f5f85324214e36283f6c3c79c66ecd0c09e8"), looks := true }, kinds := [], alts := [], laidByText := true, laidKinds := [.handle], laidTests := true, laidLooks := .later }
def WorldPlaysCardSaid : Prop := Claim7.holds Tryz.pinned (.plain (OpenSpec.ofChange worldPlaysSpec)) worldPlaysCard

/-- THE TIED CARD OF 'copsekeep.DeskPieces'. -/
def deskPiecesCard : Claim7 := { stood := { row := deskPiecesRow, standIns := [], harness := (true, "db42dded0c1dc305d42a33db6908f5f85324214e36283f6c3c79c66ecd0c09e8"), looks := true }, kinds := [], alts := [], laidByText := true, laidKinds := [.data, .data, .data, .data, .handle, .sentinel, .sentinel, .pinned], laidTests := true, laidLooks := .later }
def DeskPiecesCardSaid : Prop := Claim7.holds Tryz.pinned (.plain (OpenSpec.ofChange deskPiecesSpec)) deskPiecesCard

/-- THE TIED CARD OF 'copselaw.DeskAnswers'. -/
def deskAnswersCard : Claim7 := { stood := { row := deskAnswersRow, standIns := [], harness := (true, "db42dded0c1dc305d42a33db6908f5f85324214e36283f6c3c79c66ecd0c09e8"), looks := true }, kinds := [], alts := [], laidByText := true, laidKinds := [.data, .data, .data, .data, .handle, .sentinel, .sentinel, .mapped, .pinned], laidTests := true, laidLooks := .later }
def DeskAnswersCardSaid : Prop := Claim7.holds Tryz.pinned (.plain (OpenSpec.ofChange deskAnswersSpec)) deskAnswersCard

/-- THE SECOND FORM's CARD OF 'copselaw.SitePlays'. -/
def sitePlaysUptoCard : Claim7 := { stood := { row := sitePlaysUptoRow, standIns := [], harness := (true, "db42dded0c1dc305d42a33db6908f5f85324214e36283f6c3c79c66ecd0c09e8"), looks := true }, kinds := [], alts := [], laidByText := true, laidKinds := [.handle], laidTests := true, laidLooks := .later }
def SitePlaysUptoCardSaid : Prop := Claim7.holds Tryz.pinned (.plain (OpenSpec.upto sitePlaysSpec)) sitePlaysUptoCard

/-- THE SECOND FORM's CARD OF 'copselaw.SessionPlays'. -/
def sessionPlaysUptoCard : Claim7 := { stood := { row := sessionPlaysUptoRow, standIns := [], harness := (true, "db42dded0c1dc305d42a33db6908f5f85324214e36283f6c3c79c66ecd0c09e8"), looks := true }, kinds := [], alts := [], laidByText := true, laidKinds := [.handle], laidTests := true, laidLooks := .later }
def SessionPlaysUptoCardSaid : Prop := Claim7.holds Tryz.pinned (.plain (OpenSpec.upto sessionPlaysSpec)) sessionPlaysUptoCard

/-- THE SECOND FORM's CARD OF 'copsekeep.WorldCausal'. -/
def worldCausalUptoCard : Claim7 := { stood := { row := worldCausalUptoRow, standIns := [], harness := (true, "db42dded0c1dc305d42a33db6908f5f85324214e36283f6c3c79c66ecd0c09e8"), looks := true }, kinds := [], alts := [], laidByText := true, laidKinds := [.handle], laidTests := true, laidLooks := .later }
def WorldCausalUptoCardSaid : Prop := Claim7.holds Tryz.pinned (.plain (OpenSpec.upto worldCausalSpec)) worldCausalUptoCard

/-- THE SECOND FORM's CARD OF 'copsekeep.WorldMeets'. -/
def worldMeetsUptoCard : Claim7 := { stood := { row := worldMeetsUptoRow, standIns := [], harness := (true, "db42dded0c1dc305d42a33db6908f5f85324214e36283f6c3c79c66ecd0c09e8"), looks := true }, kinds := [], alts := [], laidByText := true, laidKinds := [.handle], laidTests := true, laidLooks := .later }
def WorldMeetsUptoCardSaid : Prop := Claim7.holds Tryz.pinned (.plain (OpenSpec.upto worldMeetsSpec)) worldMeetsUptoCard

/-- THE SECOND FORM's CARD OF 'copsekeep.WorldSwept'. -/
def worldSweptUptoCard : Claim7 := { stood := { row := worldSweptUptoRow, standIns := [], harness := (true, "db42dded0c1dc305d42a33db6908f5f85324214e36283f6c3c79c66ecd0c09e8"), looks := true }, kinds := [], alts := [], laidByText := true, laidKinds := [.handle], laidTests := true, laidLooks := .later }
def WorldSweptUptoCardSaid : Prop := Claim7.holds Tryz.pinned (.plain (OpenSpec.upto worldSweptSpec)) worldSweptUptoCard

/-- THE SECOND FORM's CARD OF 'copselaw.WorldPlays'. -/
def worldPlaysUptoCard : Claim7 := { stood := { row := worldPlaysUptoRow, standIns := [], harness := (true, "db42dded0c1dc305d42a33db6908f5f85324214e36283f6c3c79c66ecd0c09e8"), looks := true }, kinds := [], alts := [], laidByText := true, laidKinds := [.handle], laidTests := true, laidLooks := .later }
def WorldPlaysUptoCardSaid : Prop := Claim7.holds Tryz.pinned (.plain (OpenSpec.upto worldPlaysSpec)) worldPlaysUptoCard

/-- THE SECOND FORM's CARD OF 'copsekeep.DeskPieces'. -/
def deskPiecesUptoCard : Claim7 := { stood := { row := deskPiecesUptoRow, standIns := [], harness := (true, "db42dded0c1dc305d42a33db6908f5f85324214e36283f6c3c79c66ecd0c09e8"), looks := true }, kinds := [], alts := [], laidByText := true, laidKinds := [.data, .data, .data, .data, .handle, .sentinel, .sentinel, .pinned], laidTests := true, laidLooks := .later }
def DeskPiecesUptoCardSaid : Prop := Claim7.holds Tryz.pinned (.plain (OpenSpec.upto deskPiecesSpec)) deskPiecesUptoCard

/-- THE SECOND FORM's CARD OF 'copselaw.DeskAnswers'. -/
def deskAnswersUptoCard : Claim7 := { stood := { row := deskAnswersUptoRow, standIns := [], harness := (true, "db42dded0c1dc305d42a33db6908f5f85324214e36283f6c3c79c66ecd0c09e8"), looks := true }, kinds := [], alts := [], laidByText := true, laidKinds := [.data, .data, .data, .data, .handle, .sentinel, .sentinel, .mapped, .pinned], laidTests := true, laidLooks := .later }
def DeskAnswersUptoCardSaid : Prop := Claim7.holds Tryz.pinned (.plain (OpenSpec.upto deskAnswersSpec)) deskAnswersUptoCard
end Rows
end Go.Proofs.YtbopfhbeegkkaabGreatDoor
