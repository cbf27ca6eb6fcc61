/-
  DERIVED. GIVEN WITH THE SEED: THE CARDS: each row of YtfgdbeijjbijnaaGreatDoorRows.lean that lists a variable, with what it lists TIED to the program's text (the seventh form; the later family's looks); each row that meets fmt, with fmt's text TOLD by the authors' own Lean function (tested against real Go, not proved from fmt's source: count such statements apart). THE CARD IS WHAT COUNTS. Prove the row's statement (the work); the ties are given (YtfgdbeijjbijnaaGreatDoorTie.lean); close each card by the builder's one call (the guide's Derived/Test/ToyasCard.lean, 'card_holds'). Laid BY PROGRAM, IN A SANDBOX (cutbox-door.mjs). By AI agents, Wed Nov 11 2026. No macro, syntax, notation, axiom, sorry.
-/
import Derived.Test.YtfgdbeijjbijnaaGreatDoorRows
import GoSem.ClaimSeven
namespace Go.Proofs.YtfgdbeijjbijnaaGreatDoor
namespace Rows

/-- THE TIED CARD OF 'lampblacktop.TopSeenSignals'. -/
def topSeenSignalsCard : Claim7 := { stood := { row := topSeenSignalsRow, standIns := [], harness := (true, "7018513539a633957124618ea3e7cb2b3155090ad55daff33148fa2e513cb794"), looks := false }, kinds := [], alts := [], laidByText := true, laidKinds := [.data, .data], laidTests := true, laidLooks := .later }
def TopSeenSignalsCardSaid : Prop := Claim7.holds Tryz.pinned (.plain (OpenSpec.ofChange topSeenSignalsSpec)) topSeenSignalsCard

/-- THE TIED CARD OF 'lampblacktop.TopSureReach'. -/
def topSureReachCard : Claim7 := { stood := { row := topSureReachRow, standIns := [], harness := (true, "7018513539a633957124618ea3e7cb2b3155090ad55daff33148fa2e513cb794"), looks := false }, kinds := [], alts := [], laidByText := true, laidKinds := [.data, .data, .data], laidTests := true, laidLooks := .later }
def TopSureReachCardSaid : Prop := Claim7.holds Tryz.pinned (.plain (OpenSpec.ofChange topSureReachSpec)) topSureReachCard

/-- THE TIED CARD OF 'lampblacktop.TopCheapestLamps'. -/
def topCheapestLampsCard : Claim7 := { stood := { row := topCheapestLampsRow, standIns := [], harness := (true, "7018513539a633957124618ea3e7cb2b3155090ad55daff33148fa2e513cb794"), looks := false }, kinds := [], alts := [], laidByText := true, laidKinds := [.data, .data, .data], laidTests := true, laidLooks := .later }
def TopCheapestLampsCardSaid : Prop := Claim7.holds Tryz.pinned (.plain (OpenSpec.ofChange topCheapestLampsSpec)) topCheapestLampsCard

/-- THE TIED CARD OF 'lampblacktop.TopStreetUnits'. -/
def topStreetUnitsCard : Claim7 := { stood := { row := topStreetUnitsRow, standIns := [], harness := (true, "7018513539a633957124618ea3e7cb2b3155090ad55daff33148fa2e513cb794"), looks := false }, kinds := [], alts := [], laidByText := true, laidKinds := [.data, .data, .data], laidTests := true, laidLooks := .later }
def TopStreetUnitsCardSaid : Prop := Claim7.holds Tryz.pinned (.plain (OpenSpec.ofChange topStreetUnitsSpec)) topStreetUnitsCard

/-- THE SECOND FORM's CARD OF 'lampblacktop.TopSeenSignals'. -/
def topSeenSignalsUptoCard : Claim7 := { stood := { row := topSeenSignalsUptoRow, standIns := [], harness := (true, "7018513539a633957124618ea3e7cb2b3155090ad55daff33148fa2e513cb794"), looks := false }, kinds := [], alts := [], laidByText := true, laidKinds := [.data, .data], laidTests := true, laidLooks := .later }
def TopSeenSignalsUptoCardSaid : Prop := Claim7.holds Tryz.pinned (.plain (OpenSpec.upto topSeenSignalsSpec)) topSeenSignalsUptoCard

/-- THE SECOND FORM's CARD OF 'lampblacktop.TopSureReach'. -/
def topSureReachUptoCard : Claim7 := { stood := { row := topSureReachUptoRow, standIns := [], harness := (true, "7018513539a633957124618ea3e7cb2b3155090ad55daff33148fa2e513cb794"), looks := false }, kinds := [], alts := [], laidByText := true, laidKinds := [.data, .data, .data], laidTests := true, laidLooks := .later }
def TopSureReachUptoCardSaid : Prop := Claim7.holds Tryz.pinned (.plain (OpenSpec.upto topSureReachSpec)) topSureReachUptoCard

/-- THE SECOND FORM's CARD OF 'lampblacktop.TopCheapestLamps'. -/
def topCheapestLampsUptoCard : Claim7 := { stood := { row := topCheapestLampsUptoRow, standIns := [], harness := (true, "7018513539a633957124618ea3e7cb2b3155090ad55daff33148fa2e513cb794"), looks := false }, kinds := [], alts := [], laidByText := true, laidKinds := [.data, .data, .data], laidTests := true, laidLooks := .later }
def TopCheapestLampsUptoCardSaid : Prop := Claim7.holds Tryz.pinned (.plain (OpenSpec.upto topCheapestLampsSpec)) topCheapestLampsUptoCard

/-- THE SECOND FORM's CARD OF 'lampblacktop.TopStreetUnits'. -/
def topStreetUnitsUptoCard : Claim7 := { stood := { row := topStreetUnitsUptoRow, standIns := [], harness := (true, "7018513539a633957124618ea3e7cb2b3155090ad55daff33148fa2e513cb794"), looks := false }, kinds := [], alts := [], laidByText := true, laidKinds := [.data, .data, .data], laidTests := true, laidLooks := .later }
def TopStreetUnitsUptoCardSaid : Prop := Claim7.holds Tryz.pinned (.plain (OpenSpec.upto topStreetUnitsSpec)) topStreetUnitsUptoCard
end Rows
end Go.Proofs.YtfgdbeijjbijnaaGreatDoor
