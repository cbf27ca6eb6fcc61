/-
  DERIVED. GIVEN WITH THE SEED: THE CARDS: each row of YteamgbndnfjoaaaDoorRows.lean that lists a variable, with what it lists TIED to the program's text (the seventh form; the later family's looks); each row that meets fmt, with fmt's text TOLD by the authors' own Lean function (tested against real Go, not proved from fmt's source: count such statements apart). THE CARD IS WHAT COUNTS. Prove the row's statement (the work); the ties are given (YteamgbndnfjoaaaDoorTie.lean); close each card by the builder's one call (the guide's Derived/Test/ToyasCard.lean, 'card_holds'). Laid BY PROGRAM, IN A SANDBOX (cutbox-door.mjs). By AI agents, Wed Nov 11 2026. No macro, syntax, notation, axiom, sorry.
-/
import Derived.Test.YteamgbndnfjoaaaDoorRows
import GoSem.ClaimSeven
namespace Go.Proofs.YteamgbndnfjoaaaDoor
namespace Rows

/-- THE TIED CARD OF 'lampblacklaw07.StreetLights'. -/
def streetLightsCard : Claim7 := { stood := { row := streetLightsRow, standIns := [], harness := (true, "286210eb56fdde810be707a1c4a2bbbea8310cd30e1bb8263ea98efaa1e001c8"), looks := false }, kinds := [], alts := [], laidByText := true, laidKinds := [.data], laidTests := true, laidLooks := .later }
def StreetLightsCardSaid : Prop := Claim7.holds Tryd.pinned (.plain (OpenSpec.ofChange streetLightsSpec)) streetLightsCard

/-- THE TIED CARD OF 'lampblacklaw07.StreetDarks'. -/
def streetDarksCard : Claim7 := { stood := { row := streetDarksRow, standIns := [], harness := (true, "286210eb56fdde810be707a1c4a2bbbea8310cd30e1bb8263ea98efaa1e001c8"), looks := false }, kinds := [], alts := [], laidByText := true, laidKinds := [.data], laidTests := true, laidLooks := .later }
def StreetDarksCardSaid : Prop := Claim7.holds Tryd.pinned (.plain (OpenSpec.ofChange streetDarksSpec)) streetDarksCard

/-- THE TIED CARD OF 'lampblacklaw07.StreetCheapest'. -/
def streetCheapestCard : Claim7 := { stood := { row := streetCheapestRow, standIns := [], harness := (true, "286210eb56fdde810be707a1c4a2bbbea8310cd30e1bb8263ea98efaa1e001c8"), looks := false }, kinds := [], alts := [], laidByText := true, laidKinds := [.data], laidTests := true, laidLooks := .later }
def StreetCheapestCardSaid : Prop := Claim7.holds Tryd.pinned (.plain (OpenSpec.ofChange streetCheapestSpec)) streetCheapestCard

/-- THE TIED CARD OF 'lampblacklaw07.StreetPrices'. -/
def streetPricesCard : Claim7 := { stood := { row := streetPricesRow, standIns := [], harness := (true, "286210eb56fdde810be707a1c4a2bbbea8310cd30e1bb8263ea98efaa1e001c8"), looks := false }, kinds := [], alts := [], laidByText := true, laidKinds := [.data], laidTests := true, laidLooks := .later }
def StreetPricesCardSaid : Prop := Claim7.holds Tryd.pinned (.plain (OpenSpec.ofChange streetPricesSpec)) streetPricesCard

/-- THE TIED CARD OF 'lampblacklaw07.StreetProved'. -/
def streetProvedCard : Claim7 := { stood := { row := streetProvedRow, standIns := [], harness := (true, "286210eb56fdde810be707a1c4a2bbbea8310cd30e1bb8263ea98efaa1e001c8"), looks := false }, kinds := [], alts := [], laidByText := true, laidKinds := [.data], laidTests := true, laidLooks := .later }
def StreetProvedCardSaid : Prop := Claim7.holds Tryd.pinned (.plain (OpenSpec.ofChange streetProvedSpec)) streetProvedCard

/-- THE TIED CARD OF 'lampblacklaw07.StreetEither'. -/
def streetEitherCard : Claim7 := { stood := { row := streetEitherRow, standIns := [], harness := (true, "286210eb56fdde810be707a1c4a2bbbea8310cd30e1bb8263ea98efaa1e001c8"), looks := false }, kinds := [], alts := [], laidByText := true, laidKinds := [.data], laidTests := true, laidLooks := .later }
def StreetEitherCardSaid : Prop := Claim7.holds Tryd.pinned (.plain (OpenSpec.ofChange streetEitherSpec)) streetEitherCard

/-- THE TIED CARD OF 'lampblacklaw07.StreetMore'. -/
def streetMoreCard : Claim7 := { stood := { row := streetMoreRow, standIns := [], harness := (true, "286210eb56fdde810be707a1c4a2bbbea8310cd30e1bb8263ea98efaa1e001c8"), looks := false }, kinds := [], alts := [], laidByText := true, laidKinds := [.data], laidTests := true, laidLooks := .later }
def StreetMoreCardSaid : Prop := Claim7.holds Tryd.pinned (.plain (OpenSpec.ofChange streetMoreSpec)) streetMoreCard

/-- THE TIED CARD OF 'lampblacklaw07.StreetTurned'. -/
def streetTurnedCard : Claim7 := { stood := { row := streetTurnedRow, standIns := [], harness := (true, "286210eb56fdde810be707a1c4a2bbbea8310cd30e1bb8263ea98efaa1e001c8"), looks := false }, kinds := [], alts := [], laidByText := true, laidKinds := [.data], laidTests := true, laidLooks := .later }
def StreetTurnedCardSaid : Prop := Claim7.holds Tryd.pinned (.plain (OpenSpec.ofChange streetTurnedSpec)) streetTurnedCard

/-- THE TIED CARD OF 'lampblacklaw07.StreetJoined'. -/
def streetJoinedCard : Claim7 := { stood := { row := streetJoinedRow, standIns := [], harness := (true, "286210eb56fdde810be707a1c4a2bbbea8310cd30e1bb8263ea98efaa1e001c8"), looks := false }, kinds := [], alts := [], laidByText := true, laidKinds := [.data], laidTests := true, laidLooks := .later }
def StreetJoinedCardSaid : Prop := Claim7.holds Tryd.pinned (.plain (OpenSpec.ofChange streetJoinedSpec)) streetJoinedCard

/-- THE TIED CARD OF 'lampblacklaw07.StreetKnown'. -/
def streetKnownCard : Claim7 := { stood := { row := streetKnownRow, standIns := [], harness := (true, "286210eb56fdde810be707a1c4a2bbbea8310cd30e1bb8263ea98efaa1e001c8"), looks := false }, kinds := [], alts := [], laidByText := true, laidKinds := [.data], laidTests := true, laidLooks := .later }
def StreetKnownCardSaid : Prop := Claim7.holds Tryd.pinned (.plain (OpenSpec.ofChange streetKnownSpec)) streetKnownCard

/-- THE SECOND FORM's CARD OF 'lampblacklaw07.StreetLights'. -/
def streetLightsUptoCard : Claim7 := { stood := { row := streetLightsUptoRow, standIns := [], harness := (true, "286210eb56fdde810be707a1c4a2bbbea8310cd30e1bb8263ea98efaa1e001c8"), looks := false }, kinds := [], alts := [], laidByText := true, laidKinds := [.data], laidTests := true, laidLooks := .later }
def StreetLightsUptoCardSaid : Prop := Claim7.holds Tryd.pinned (.plain (OpenSpec.upto streetLightsSpec)) streetLightsUptoCard

/-- THE SECOND FORM's CARD OF 'lampblacklaw07.StreetDarks'. -/
def streetDarksUptoCard : Claim7 := { stood := { row := streetDarksUptoRow, standIns := [], harness := (true, "286210eb56fdde810be707a1c4a2bbbea8310cd30e1bb8263ea98efaa1e001c8"), looks := false }, kinds := [], alts := [], laidByText := true, laidKinds := [.data], laidTests := true, laidLooks := .later }
def StreetDarksUptoCardSaid : Prop := Claim7.holds Tryd.pinned (.plain (OpenSpec.upto streetDarksSpec)) streetDarksUptoCard

/-- THE SECOND FORM's CARD OF 'lampblacklaw07.StreetCheapest'. -/
def streetCheapestUptoCard : Claim7 := { stood := { row := streetCheapestUptoRow, standIns := [], harness := (true, "286210eb56fdde810be707a1c4a2bbbea8310cd30e1bb8263ea98efaa1e001c8"), looks := false }, kinds := [], alts := [], laidByText := true, laidKinds := [.data], laidTests := true, laidLooks := .later }
def StreetCheapestUptoCardSaid : Prop := Claim7.holds Tryd.pinned (.plain (OpenSpec.upto streetCheapestSpec)) streetCheapestUptoCard

/-- THE SECOND FORM's CARD OF 'lampblacklaw07.StreetPrices'. -/
def streetPricesUptoCard : Claim7 := { stood := { row := streetPricesUptoRow, standIns := [], harness := (true, "286210eb56fdde810be707a1c4a2bbbea8310cd30e1bb8263ea98efaa1e001c8"), looks := false }, kinds := [], alts := [], laidByText := true, laidKinds := [.data], laidTests := true, laidLooks := .later }
def StreetPricesUptoCardSaid : Prop := Claim7.holds Tryd.pinned (.plain (OpenSpec.upto streetPricesSpec)) streetPricesUptoCard

/-- THE SECOND FORM's CARD OF 'lampblacklaw07.StreetProved'. -/
def streetProvedUptoCard : Claim7 := { stood := { row := streetProvedUptoRow, standIns := [], harness := (true, "286210eb56fdde810be707a1c4a2bbbea8310cd30e1bb8263ea98efaa1e001c8"), looks := false }, kinds := [], alts := [], laidByText := true, laidKinds := [.data], laidTests := true, laidLooks := .later }
def StreetProvedUptoCardSaid : Prop := Claim7.holds Tryd.pinned (.plain (OpenSpec.upto streetProvedSpec)) streetProvedUptoCard

/-- THE SECOND FORM's CARD OF 'lampblacklaw07.StreetEither'. -/
def streetEitherUptoCard : Claim7 := { stood := { row := streetEitherUptoRow, standIns := [], harness := (true, "286210eb56fdde810be707a1c4a2bbbea8310cd30e1bb8263ea98efaa1e001c8"), looks := false }, kinds := [], alts := [], laidByText := true, laidKinds := [.data], laidTests := true, laidLooks := .later }
def StreetEitherUptoCardSaid : Prop := Claim7.holds Tryd.pinned (.plain (OpenSpec.upto streetEitherSpec)) streetEitherUptoCard

/-- THE SECOND FORM's CARD OF 'lampblacklaw07.StreetMore'. -/
def streetMoreUptoCard : Claim7 := { stood := { row := streetMoreUptoRow, standIns := [], harness := (true, "286210eb56fdde810be707a1c4a2bbbea8310cd30e1bb8263ea98efaa1e001c8"), looks := false }, kinds := [], alts := [], laidByText := true, laidKinds := [.data], laidTests := true, laidLooks := .later }
def StreetMoreUptoCardSaid : Prop := Claim7.holds Tryd.pinned (.plain (OpenSpec.upto streetMoreSpec)) streetMoreUptoCard

/-- THE SECOND FORM's CARD OF 'lampblacklaw07.StreetTurned'. -/
def streetTurnedUptoCard : Claim7 := { stood := { row := streetTurnedUptoRow, standIns := [], harness := (true, "286210eb56fdde810be707a1c4a2bbbea8310cd30e1bb8263ea98efaa1e001c8"), looks := false }, kinds := [], alts := [], laidByText := true, laidKinds := [.data], laidTests := true, laidLooks := .later }
def StreetTurnedUptoCardSaid : Prop := Claim7.holds Tryd.pinned (.plain (OpenSpec.upto streetTurnedSpec)) streetTurnedUptoCard

/-- THE SECOND FORM's CARD OF 'lampblacklaw07.StreetJoined'. -/
def streetJoinedUptoCard : Claim7 := { stood := { row := streetJoinedUptoRow, standIns := [], harness := (true, "286210eb56fdde810be707a1c4a2bbbea8310cd30e1bb8263ea98efaa1e001c8"), looks := false }, kinds := [], alts := [], laidByText := true, laidKinds := [.data], laidTests := true, laidLooks := .later }
def StreetJoinedUptoCardSaid : Prop := Claim7.holds Tryd.pinned (.plain (OpenSpec.upto streetJoinedSpec)) streetJoinedUptoCard

/-- THE SECOND FORM's CARD OF 'lampblacklaw07.StreetKnown'. -/
def streetKnownUptoCard : Claim7 := { stood := { row := streetKnownUptoRow, standIns := [], harness := (true, "286210eb56fdde810be707a1c4a2bbbea8310cd30e1bb8263ea98efaa1e001c8"), looks := false }, kinds := [], alts := [], laidByText := true, laidKinds := [.data], laidTests := true, laidLooks := .later }
def StreetKnownUptoCardSaid : Prop := Claim7.holds Tryd.pinned (.plain (OpenSpec.upto streetKnownSpec)) streetKnownUptoCard
end Rows
end Go.Proofs.YteamgbndnfjoaaaDoor
