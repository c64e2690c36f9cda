/-
  DERIVED. GIVEN WITH THE SEED: THE CARDS: each row of YtbopfhbeegkkaaaDoorRows.lean that lists a variable, with what it lists TIED to the program's text (the seventh form; the later family's looks); each row that meets fmt, with fmt's text TOLD by the authors' own Lean function (tested against real Go, not proved from fmt's source: count such statements apart). THE CARD IS WHAT COUNTS. Prove the row's statement (the work); the ties are given (YtbopfhbeegkkaaaDoorTie.lean); close each card by the builder's one call (the guide's Derived/Test/ToyasCard.lean, 'card_holds'). Laid BY PROGRAM, IN A SANDBOX (cutbox-door.mjs). By AI agents, Wed Nov 11 2026. No macro, syntax, notation, axiom, sorry.
-/
import Derived.Test.YtbopfhbeegkkaaaDoorRows
import GoSem.ClaimSeven
namespace Go.Proofs.YtbopfhbeegkkaaaDoor
namespace Rows

/-- THE TIED CARD OF 'copselaw.ClockStamps'. -/
def clockStampsCard : Claim7 := { stood := { row := clockStampsRow, standIns := [], harness := (true, "ba6b30cad7d9473f30755d349367892773cf4703fbd0c815a6417d038a5044a8"), looks := true }, kinds := [], alts := [], laidByText := true, laidKinds := [.handle], laidTests := true, laidLooks := .later }
def ClockStampsCardSaid : Prop := Claim7.holds Tryd.pinned (.plain (OpenSpec.ofChange clockStampsSpec)) clockStampsCard

/-- THE TIED CARD OF 'copselaw.WireWrites'. -/
def wireWritesCard : Claim7 := { stood := { row := wireWritesRow, standIns := [], harness := (true, "ba6b30cad7d9473f30755d349367892773cf4703fbd0c815a6417d038a5044a8"), looks := true }, kinds := [], alts := [], laidByText := true, laidKinds := [.handle], laidTests := true, laidLooks := .later }
def WireWritesCardSaid : Prop := Claim7.holds Tryd.pinned (.plain (OpenSpec.ofChange wireWritesSpec)) wireWritesCard

/-- THE TIED CARD OF 'copselaw.WireReads'. -/
def wireReadsCard : Claim7 := { stood := { row := wireReadsRow, standIns := [], harness := (true, "ba6b30cad7d9473f30755d349367892773cf4703fbd0c815a6417d038a5044a8"), looks := true }, kinds := [], alts := [], laidByText := true, laidKinds := [.handle], laidTests := true, laidLooks := .later }
def WireReadsCardSaid : Prop := Claim7.holds Tryd.pinned (.plain (OpenSpec.ofChange wireReadsSpec)) wireReadsCard

/-- THE TIED CARD OF 'copsekeep.StoreSwept'. -/
def storeSweptCard : Claim7 := { stood := { row := storeSweptRow, standIns := [], harness := (true, "ba6b30cad7d9473f30755d349367892773cf4703fbd0c815a6417d038a5044a8"), looks := true }, kinds := [], alts := [], laidByText := true, laidKinds := [.handle], laidTests := true, laidLooks := .later }
def StoreSweptCardSaid : Prop := Claim7.holds Tryd.pinned (.plain (OpenSpec.ofChange storeSweptSpec)) storeSweptCard

/-- THE TIED CARD OF 'copselaw.StorePlays'. -/
def storePlaysCard : Claim7 := { stood := { row := storePlaysRow, standIns := [], harness := (true, "ba6b30cad7d9473f30755d349367892773cf4703fbd0c815a6417d038a5044a8"), looks := true }, kinds := [], alts := [], laidByText := true, laidKinds := [.handle], laidTests := true, laidLooks := .later }
def StorePlaysCardSaid : Prop := Claim7.holds Tryd.pinned (.plain (OpenSpec.ofChange storePlaysSpec)) storePlaysCard

/-- THE TIED CARD OF 'copsekeep.SiteOrder'. -/
def siteOrderCard : Claim7 := { stood := { row := siteOrderRow, standIns := [], harness := (true, "ba6b30cad7d9473f30755d349367892773cf4703fbd0c815a6417d038a5044a8"), looks := true }, kinds := [], alts := [], laidByText := true, laidKinds := [.handle], laidTests := true, laidLooks := .later }
def SiteOrderCardSaid : Prop := Claim7.holds Tryd.pinned (.plain (OpenSpec.ofChange siteOrderSpec)) siteOrderCard

/-- THE SECOND FORM's CARD OF 'copselaw.ClockStamps'. -/
def clockStampsUptoCard : Claim7 := { stood := { row := clockStampsUptoRow, standIns := [], harness := (true, "ba6b30cad7d9473f30755d349367892773cf4703fbd0c815a6417d038a5044a8"), looks := true }, kinds := [], alts := [], laidByText := true, laidKinds := [.handle], laidTests := true, laidLooks := .later }
def ClockStampsUptoCardSaid : Prop := Claim7.holds Tryd.pinned (.plain (OpenSpec.upto clockStampsSpec)) clockStampsUptoCard

/-- THE SECOND FORM's CARD OF 'copselaw.WireWrites'. -/
def wireWritesUptoCard : Claim7 := { stood := { row := wireWritesUptoRow, standIns := [], harness := (true, "ba6b30cad7d9473f30755d349367892773cf4703fbd0c815a6417d038a5044a8"), looks := true }, kinds := [], alts := [], laidByText := true, laidKinds := [.handle], laidTests := true, laidLooks := .later }
def WireWritesUptoCardSaid : Prop := Claim7.holds Tryd.pinned (.plain (OpenSpec.upto wireWritesSpec)) wireWritesUptoCard

/-- THE SECOND FORM's CARD OF 'copselaw.WireReads'. -/
def wireReadsUptoCard : Claim7 := { stood := { row := wireReadsUptoRow, standIns := [], harness := (true, "ba6b30cad7d9473f30755d349367892773cf4703fbd0c815a6417d038a5044a8"), looks := true }, kinds := [], alts := [], laidByText := true, laidKinds := [.handle], laidTests := true, laidLooks := .later }
def WireReadsUptoCardSaid : Prop := Claim7.holds Tryd.pinned (.plain (OpenSpec.upto wireReadsSpec)) wireReadsUptoCard

/-- THE SECOND FORM's CARD OF 'copsekeep.StoreSwept'. -/
def storeSweptUptoCard : Claim7 := { stood := { row := storeSweptUptoRow, standIns := [], harness := (true, "ba6b30cad7d9473f30755d349367892773cf4703fbd0c815a6417d038a5044a8"), looks := true }, kinds := [], alts := [], laidByText := true, laidKinds := [.handle], laidTests := true, laidLooks := .later }
def StoreSweptUptoCardSaid : Prop := Claim7.holds Tryd.pinned (.plain (OpenSpec.upto storeSweptSpec)) storeSweptUptoCard

/-- THE SECOND FORM's CARD OF 'copselaw.StorePlays'. -/
def storePlaysUptoCard : Claim7 := { stood := { row := storePlaysUptoRow, standIns := [], harness := (true, "ba6b30cad7d9473f30755d349367892773cf4703fbd0c815a6417d038a5044a8"), looks := true }, kinds := [], alts := [], laidByText := true, laidKinds := [.handle], laidTests := true, laidLooks := .later }
def StorePlaysUptoCardSaid : Prop := Claim7.holds Tryd.pinned (.plain (OpenSpec.upto storePlaysSpec)) storePlaysUptoCard

/-- THE SECOND FORM's CARD OF 'copsekeep.SiteOrder'. -/
def siteOrderUptoCard : Claim7 := { stood := { row := siteOrderUptoRow, standIns := [], harness := (true, "ba6b30cad7d9473f30755d349367892773cf4703fbd0c815a6417d038a5044a8"), looks := true }, kinds := [], alts := [], laidByText := true, laidKinds := [.handle], laidTests := true, laidLooks := .later }
def SiteOrderUptoCardSaid : Prop := Claim7.holds Tryd.pinned (.plain (OpenSpec.upto siteOrderSpec)) siteOrderUptoCard
end Rows
end Go.Proofs.YtbopfhbeegkkaaaDoor
