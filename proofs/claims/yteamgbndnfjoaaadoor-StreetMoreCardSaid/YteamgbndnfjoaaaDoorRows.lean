/-
  NARROWER THAN 'FOR EVERY INPUT', by the rows' own cells (each row's printed sentence says how): StreetLights: laid · StreetDarks: laid · StreetCheapest: laid · StreetPrices: laid · StreetProved: laid · StreetEither: laid · StreetMore: laid · StreetTurned: laid · StreetJoined: laid · StreetKnown: laid.
  DERIVED. THE GIVEN ROWS OF THIS SEAT. 10 by the template 'for every input the law returns true; each argument reads behind the call as it read before'; 0 by the template 'total and deterministic' (their statements: YteamgbndnfjoaaaDoorTotals.lean).
  GIVEN WITH THE SEED: the statements are not yours to turn. If you find one false, say at which input.
  Laid BY PROGRAM, IN A SANDBOX (cutbox-rows.mjs): the forced cells as the released guide's own fill.sh prints them over the translation 2348338546225d74… (all of the seat's roots in one cut). By AI agents, Wed Nov 11 2026. No macro, syntax, notation, axiom, sorry.
-/
import Derived.Test.YteamgbndnfjoaaaDoorChecked
import GoSem.Claim
import GoSem.ClaimJoined
import GoSem.ClaimMapViews
import Derived.JoinedTies
import Derived.KernelRfl
namespace Go.Proofs.YteamgbndnfjoaaaDoor
/- THE CELL 'sum', in the pinned program and in every row, IS THE sha256 OF THE DUMP (.gsa) THAT YteamgbndnfjoaaaDoorProg.lean LOADS. Nothing in Lean hashes anything: it is a label: what it is worth is what the hold of that sum in a sandbox is worth. -/
noncomputable def Tryd.pinned : Pinned := { name := "yteamgbndnfjoaaadoor", sum := "2348338546225d74370d40d4a1e0902b978726ffee3fa60b00e0fcbe929db8b3", checked := Tryd.checked }
namespace Rows
def none {H : Type} : Left H := { results := [], args := [] }

/- WHAT THE LISTED PACKAGE-LEVEL VARIABLES READ AS WHEN THE CALL BEGINS. Each datum BY PROGRAM (the guide's laid-datum.mjs) off the statement by which the dump's own 'gosem.cut.vars' lays the variable. In a bare row this is a premise. The card (YteamgbndnfjoaaaDoorCards.lean) ties it to the program's text. -/
def laid_lampblack_street_none {H : Type} : DataW H := .agg [.lit (.int .i64 0), .lit (.int .i64 0), .lit (.int .i64 0), .lit (.int .i64 (-2))]

/-- 'lampblacklaw07.StreetLights': WHATEVER THE INPUT: true; the input reads as it did. -/
def streetLightsSpec : ChangeSpec := { name := "streetLights", fn := fun _ => fun
  | [d1, d2] => { results := [.lit (.bool true)], args := [d1, d2] }
  | _ => none }
def streetLightsRow : OpenClaim := { program := "yteamgbndnfjoaaadoor", sum := "2348338546225d74370d40d4a1e0902b978726ffee3fa60b00e0fcbe929db8b3", func := "lampblack/lampblacklaw07.StreetLights", spec := "streetLights", unfollowed := true, recurses := true, named := ["lampblack/street.none"], apart := false, laid := [("lampblack/street.none", laid_lampblack_street_none)] }
def StreetLightsSaid : Prop := streetLightsRow.holds Tryd.pinned (OpenSpec.ofChange streetLightsSpec)

/-- ITS FALSE NEIGHBOUR: 'it returns false'. Refute it at one input. -/
def streetLightsWrong : ChangeSpec := { name := "streetLights", fn := fun _ => fun
  | [d1, d2] => { results := [.lit (.bool false)], args := [d1, d2] }
  | _ => none }
def StreetLightsWrongFalsely : Prop := streetLightsRow.holds Tryd.pinned (OpenSpec.ofChange streetLightsWrong)

/-- 'lampblacklaw07.StreetDarks': WHATEVER THE INPUT: true; the input reads as it did. -/
def streetDarksSpec : ChangeSpec := { name := "streetDarks", fn := fun _ => fun
  | [d1, d2, d3, d4] => { results := [.lit (.bool true)], args := [d1, d2, d3, d4] }
  | _ => none }
def streetDarksRow : OpenClaim := { program := "yteamgbndnfjoaaadoor", sum := "2348338546225d74370d40d4a1e0902b978726ffee3fa60b00e0fcbe929db8b3", func := "lampblack/lampblacklaw07.StreetDarks", spec := "streetDarks", unfollowed := true, recurses := true, named := ["lampblack/street.none"], apart := false, laid := [("lampblack/street.none", laid_lampblack_street_none)] }
def StreetDarksSaid : Prop := streetDarksRow.holds Tryd.pinned (OpenSpec.ofChange streetDarksSpec)

/-- ITS FALSE NEIGHBOUR: 'it returns false'. Refute it at one input. -/
def streetDarksWrong : ChangeSpec := { name := "streetDarks", fn := fun _ => fun
  | [d1, d2, d3, d4] => { results := [.lit (.bool false)], args := [d1, d2, d3, d4] }
  | _ => none }
def StreetDarksWrongFalsely : Prop := streetDarksRow.holds Tryd.pinned (OpenSpec.ofChange streetDarksWrong)

/-- 'lampblacklaw07.StreetCheapest': WHATEVER THE INPUT: true; the input reads as it did. -/
def streetCheapestSpec : ChangeSpec := { name := "streetCheapest", fn := fun _ => fun
  | [d] => { results := [.lit (.bool true)], args := [d] }
  | _ => none }
def streetCheapestRow : OpenClaim := { program := "yteamgbndnfjoaaadoor", sum := "2348338546225d74370d40d4a1e0902b978726ffee3fa60b00e0fcbe929db8b3", func := "lampblack/lampblacklaw07.StreetCheapest", spec := "streetCheapest", unfollowed := true, recurses := true, named := ["lampblack/street.none"], apart := false, laid := [("lampblack/street.none", laid_lampblack_street_none)] }
def StreetCheapestSaid : Prop := streetCheapestRow.holds Tryd.pinned (OpenSpec.ofChange streetCheapestSpec)

/-- ITS FALSE NEIGHBOUR: 'it returns false'. Refute it at one input. -/
def streetCheapestWrong : ChangeSpec := { name := "streetCheapest", fn := fun _ => fun
  | [d] => { results := [.lit (.bool false)], args := [d] }
  | _ => none }
def StreetCheapestWrongFalsely : Prop := streetCheapestRow.holds Tryd.pinned (OpenSpec.ofChange streetCheapestWrong)

/-- 'lampblacklaw07.StreetPrices': WHATEVER THE INPUT: true; the input reads as it did. -/
def streetPricesSpec : ChangeSpec := { name := "streetPrices", fn := fun _ => fun
  | [d1, d2] => { results := [.lit (.bool true)], args := [d1, d2] }
  | _ => none }
def streetPricesRow : OpenClaim := { program := "yteamgbndnfjoaaadoor", sum := "2348338546225d74370d40d4a1e0902b978726ffee3fa60b00e0fcbe929db8b3", func := "lampblack/lampblacklaw07.StreetPrices", spec := "streetPrices", unfollowed := true, recurses := true, named := ["lampblack/street.none"], apart := false, laid := [("lampblack/street.none", laid_lampblack_street_none)] }
def StreetPricesSaid : Prop := streetPricesRow.holds Tryd.pinned (OpenSpec.ofChange streetPricesSpec)

/-- ITS FALSE NEIGHBOUR: 'it returns false'. Refute it at one input. -/
def streetPricesWrong : ChangeSpec := { name := "streetPrices", fn := fun _ => fun
  | [d1, d2] => { results := [.lit (.bool false)], args := [d1, d2] }
  | _ => none }
def StreetPricesWrongFalsely : Prop := streetPricesRow.holds Tryd.pinned (OpenSpec.ofChange streetPricesWrong)

/-- 'lampblacklaw07.StreetProved': WHATEVER THE INPUT: true; the input reads as it did. -/
def streetProvedSpec : ChangeSpec := { name := "streetProved", fn := fun _ => fun
  | [d1, d2, d3] => { results := [.lit (.bool true)], args := [d1, d2, d3] }
  | _ => none }
def streetProvedRow : OpenClaim := { program := "yteamgbndnfjoaaadoor", sum := "2348338546225d74370d40d4a1e0902b978726ffee3fa60b00e0fcbe929db8b3", func := "lampblack/lampblacklaw07.StreetProved", spec := "streetProved", unfollowed := true, recurses := true, named := ["lampblack/street.none"], apart := false, laid := [("lampblack/street.none", laid_lampblack_street_none)] }
def StreetProvedSaid : Prop := streetProvedRow.holds Tryd.pinned (OpenSpec.ofChange streetProvedSpec)

/-- ITS FALSE NEIGHBOUR: 'it returns false'. Refute it at one input. -/
def streetProvedWrong : ChangeSpec := { name := "streetProved", fn := fun _ => fun
  | [d1, d2, d3] => { results := [.lit (.bool false)], args := [d1, d2, d3] }
  | _ => none }
def StreetProvedWrongFalsely : Prop := streetProvedRow.holds Tryd.pinned (OpenSpec.ofChange streetProvedWrong)

/-- 'lampblacklaw07.StreetEither': WHATEVER THE INPUT: true; the input reads as it did. -/
def streetEitherSpec : ChangeSpec := { name := "streetEither", fn := fun _ => fun
  | [d1, d2, d3, d4] => { results := [.lit (.bool true)], args := [d1, d2, d3, d4] }
  | _ => none }
def streetEitherRow : OpenClaim := { program := "yteamgbndnfjoaaadoor", sum := "2348338546225d74370d40d4a1e0902b978726ffee3fa60b00e0fcbe929db8b3", func := "lampblack/lampblacklaw07.StreetEither", spec := "streetEither", unfollowed := true, recurses := true, named := ["lampblack/street.none"], apart := false, laid := [("lampblack/street.none", laid_lampblack_street_none)] }
def StreetEitherSaid : Prop := streetEitherRow.holds Tryd.pinned (OpenSpec.ofChange streetEitherSpec)

/-- ITS FALSE NEIGHBOUR: 'it returns false'. Refute it at one input. -/
def streetEitherWrong : ChangeSpec := { name := "streetEither", fn := fun _ => fun
  | [d1, d2, d3, d4] => { results := [.lit (.bool false)], args := [d1, d2, d3, d4] }
  | _ => none }
def StreetEitherWrongFalsely : Prop := streetEitherRow.holds Tryd.pinned (OpenSpec.ofChange streetEitherWrong)

/-- 'lampblacklaw07.StreetMore': WHATEVER THE INPUT: true; the input reads as it did. -/
def streetMoreSpec : ChangeSpec := { name := "streetMore", fn := fun _ => fun
  | [d1, d2, d3] => { results := [.lit (.bool true)], args := [d1, d2, d3] }
  | _ => none }
def streetMoreRow : OpenClaim := { program := "yteamgbndnfjoaaadoor", sum := "2348338546225d74370d40d4a1e0902b978726ffee3fa60b00e0fcbe929db8b3", func := "lampblack/lampblacklaw07.StreetMore", spec := "streetMore", unfollowed := true, recurses := true, named := ["lampblack/street.none"], apart := false, laid := [("lampblack/street.none", laid_lampblack_street_none)] }
def StreetMoreSaid : Prop := streetMoreRow.holds Tryd.pinned (OpenSpec.ofChange streetMoreSpec)

/-- ITS FALSE NEIGHBOUR: 'it returns false'. Refute it at one input. -/
def streetMoreWrong : ChangeSpec := { name := "streetMore", fn := fun _ => fun
  | [d1, d2, d3] => { results := [.lit (.bool false)], args := [d1, d2, d3] }
  | _ => none }
def StreetMoreWrongFalsely : Prop := streetMoreRow.holds Tryd.pinned (OpenSpec.ofChange streetMoreWrong)

/-- 'lampblacklaw07.StreetTurned': WHATEVER THE INPUT: true; the input reads as it did. -/
def streetTurnedSpec : ChangeSpec := { name := "streetTurned", fn := fun _ => fun
  | [d1, d2] => { results := [.lit (.bool true)], args := [d1, d2] }
  | _ => none }
def streetTurnedRow : OpenClaim := { program := "yteamgbndnfjoaaadoor", sum := "2348338546225d74370d40d4a1e0902b978726ffee3fa60b00e0fcbe929db8b3", func := "lampblack/lampblacklaw07.StreetTurned", spec := "streetTurned", unfollowed := true, recurses := true, named := ["lampblack/street.none"], apart := false, laid := [("lampblack/street.none", laid_lampblack_street_none)] }
def StreetTurnedSaid : Prop := streetTurnedRow.holds Tryd.pinned (OpenSpec.ofChange streetTurnedSpec)

/-- ITS FALSE NEIGHBOUR: 'it returns false'. Refute it at one input. -/
def streetTurnedWrong : ChangeSpec := { name := "streetTurned", fn := fun _ => fun
  | [d1, d2] => { results := [.lit (.bool false)], args := [d1, d2] }
  | _ => none }
def StreetTurnedWrongFalsely : Prop := streetTurnedRow.holds Tryd.pinned (OpenSpec.ofChange streetTurnedWrong)

/-- 'lampblacklaw07.StreetJoined': WHATEVER THE INPUT: true; the input reads as it did. -/
def streetJoinedSpec : ChangeSpec := { name := "streetJoined", fn := fun _ => fun
  | [d1, d2] => { results := [.lit (.bool true)], args := [d1, d2] }
  | _ => none }
def streetJoinedRow : OpenClaim := { program := "yteamgbndnfjoaaadoor", sum := "2348338546225d74370d40d4a1e0902b978726ffee3fa60b00e0fcbe929db8b3", func := "lampblack/lampblacklaw07.StreetJoined", spec := "streetJoined", unfollowed := true, recurses := true, named := ["lampblack/street.none"], apart := false, laid := [("lampblack/street.none", laid_lampblack_street_none)] }
def StreetJoinedSaid : Prop := streetJoinedRow.holds Tryd.pinned (OpenSpec.ofChange streetJoinedSpec)

/-- ITS FALSE NEIGHBOUR: 'it returns false'. Refute it at one input. -/
def streetJoinedWrong : ChangeSpec := { name := "streetJoined", fn := fun _ => fun
  | [d1, d2] => { results := [.lit (.bool false)], args := [d1, d2] }
  | _ => none }
def StreetJoinedWrongFalsely : Prop := streetJoinedRow.holds Tryd.pinned (OpenSpec.ofChange streetJoinedWrong)

/-- 'lampblacklaw07.StreetKnown': WHATEVER THE INPUT: true; the input reads as it did. -/
def streetKnownSpec : ChangeSpec := { name := "streetKnown", fn := fun _ => fun
  | [] => { results := [.lit (.bool true)], args := [] }
  | _ => none }
def streetKnownRow : OpenClaim := { program := "yteamgbndnfjoaaadoor", sum := "2348338546225d74370d40d4a1e0902b978726ffee3fa60b00e0fcbe929db8b3", func := "lampblack/lampblacklaw07.StreetKnown", spec := "streetKnown", unfollowed := true, recurses := true, named := ["lampblack/street.none"], apart := false, laid := [("lampblack/street.none", laid_lampblack_street_none)] }
def StreetKnownSaid : Prop := streetKnownRow.holds Tryd.pinned (OpenSpec.ofChange streetKnownSpec)

/-- ITS FALSE NEIGHBOUR: 'it returns false'. Refute it at one input. -/
def streetKnownWrong : ChangeSpec := { name := "streetKnown", fn := fun _ => fun
  | [] => { results := [.lit (.bool false)], args := [] }
  | _ => none }
def StreetKnownWrongFalsely : Prop := streetKnownRow.holds Tryd.pinned (OpenSpec.ofChange streetKnownWrong)

/- THE SECOND FORM. 'bulk': how many values and letters a reading holds, each counted each time it is reached (what is shared counts as often as it is met; a slice's spare places count too). A statement '..UptoSaid' is the law's where the arguments, and the package variables that the reading takes, are together of bulk at most 1048576: NARROWER than '..Said'. Prove '..Said' where nothing that the law and all that it calls make is longer than what came in: it says more and counts as full. Else prove '..UptoSaid'. A law counts once. -/
mutual
def uptoBulk {H : Type} : DataW H → Nat
  | .lit (.string bytes) => bytes.length + 1
  | .lit _ => 1
  | .nil => 1
  | .ptr d => uptoBulk d + 1
  | .slice elems spare => uptoBulkAll elems + uptoBulkAll spare + 1
  | .agg parts => uptoBulkAll parts + 1
  | .iface _ d => uptoBulk d + 1
  | .map entries => uptoBulkEntries entries + 1
  | .held _ => 1
def uptoBulkAll {H : Type} : List (DataW H) → Nat
  | [] => 0
  | d :: r => uptoBulk d + uptoBulkAll r
def uptoBulkEntries {H : Type} : List (Lit × DataW H) → Nat
  | [] => 0
  | x :: r => uptoBulkEntry x + uptoBulkEntries r
def uptoBulkEntry {H : Type} : Lit × DataW H → Nat
  | (.string bytes, d) => bytes.length + uptoBulk d + 1
  | (_, d) => uptoBulk d + 1
 end
def uptoSmall : (H : Type) → List (DataW H) → Bool := fun _ ds => decide (uptoBulkAll ds ≤ 1048576)
def OpenSpec.upto (s : _root_.Go.ChangeSpec) : _root_.Go.OpenSpec := { _root_.Go.OpenSpec.ofChange s with cond := some uptoSmall }

/-- 'lampblacklaw07.StreetLights', WHERE WHAT IT READS IS OF BULK AT MOST 1048576: true; the input reads as it did. -/
def streetLightsUptoRow : OpenClaim := { program := "yteamgbndnfjoaaadoor", sum := "2348338546225d74370d40d4a1e0902b978726ffee3fa60b00e0fcbe929db8b3", func := "lampblack/lampblacklaw07.StreetLights", spec := "streetLights", unfollowed := true, recurses := true, named := ["lampblack/street.none"], apart := false, laid := [("lampblack/street.none", laid_lampblack_street_none)], narrowed := true }
def StreetLightsUptoSaid : Prop := streetLightsUptoRow.holds Tryd.pinned (OpenSpec.upto streetLightsSpec)

/-- 'lampblacklaw07.StreetDarks', WHERE WHAT IT READS IS OF BULK AT MOST 1048576: true; the input reads as it did. -/
def streetDarksUptoRow : OpenClaim := { program := "yteamgbndnfjoaaadoor", sum := "2348338546225d74370d40d4a1e0902b978726ffee3fa60b00e0fcbe929db8b3", func := "lampblack/lampblacklaw07.StreetDarks", spec := "streetDarks", unfollowed := true, recurses := true, named := ["lampblack/street.none"], apart := false, laid := [("lampblack/street.none", laid_lampblack_street_none)], narrowed := true }
def StreetDarksUptoSaid : Prop := streetDarksUptoRow.holds Tryd.pinned (OpenSpec.upto streetDarksSpec)

/-- 'lampblacklaw07.StreetCheapest', WHERE WHAT IT READS IS OF BULK AT MOST 1048576: true; the input reads as it did. -/
def streetCheapestUptoRow : OpenClaim := { program := "yteamgbndnfjoaaadoor", sum := "2348338546225d74370d40d4a1e0902b978726ffee3fa60b00e0fcbe929db8b3", func := "lampblack/lampblacklaw07.StreetCheapest", spec := "streetCheapest", unfollowed := true, recurses := true, named := ["lampblack/street.none"], apart := false, laid := [("lampblack/street.none", laid_lampblack_street_none)], narrowed := true }
def StreetCheapestUptoSaid : Prop := streetCheapestUptoRow.holds Tryd.pinned (OpenSpec.upto streetCheapestSpec)

/-- 'lampblacklaw07.StreetPrices', WHERE WHAT IT READS IS OF BULK AT MOST 1048576: true; the input reads as it did. -/
def streetPricesUptoRow : OpenClaim := { program := "yteamgbndnfjoaaadoor", sum := "2348338546225d74370d40d4a1e0902b978726ffee3fa60b00e0fcbe929db8b3", func := "lampblack/lampblacklaw07.StreetPrices", spec := "streetPrices", unfollowed := true, recurses := true, named := ["lampblack/street.none"], apart := false, laid := [("lampblack/street.none", laid_lampblack_street_none)], narrowed := true }
def StreetPricesUptoSaid : Prop := streetPricesUptoRow.holds Tryd.pinned (OpenSpec.upto streetPricesSpec)

/-- 'lampblacklaw07.StreetProved', WHERE WHAT IT READS IS OF BULK AT MOST 1048576: true; the input reads as it did. -/
def streetProvedUptoRow : OpenClaim := { program := "yteamgbndnfjoaaadoor", sum := "2348338546225d74370d40d4a1e0902b978726ffee3fa60b00e0fcbe929db8b3", func := "lampblack/lampblacklaw07.StreetProved", spec := "streetProved", unfollowed := true, recurses := true, named := ["lampblack/street.none"], apart := false, laid := [("lampblack/street.none", laid_lampblack_street_none)], narrowed := true }
def StreetProvedUptoSaid : Prop := streetProvedUptoRow.holds Tryd.pinned (OpenSpec.upto streetProvedSpec)

/-- 'lampblacklaw07.StreetEither', WHERE WHAT IT READS IS OF BULK AT MOST 1048576: true; the input reads as it did. -/
def streetEitherUptoRow : OpenClaim := { program := "yteamgbndnfjoaaadoor", sum := "2348338546225d74370d40d4a1e0902b978726ffee3fa60b00e0fcbe929db8b3", func := "lampblack/lampblacklaw07.StreetEither", spec := "streetEither", unfollowed := true, recurses := true, named := ["lampblack/street.none"], apart := false, laid := [("lampblack/street.none", laid_lampblack_street_none)], narrowed := true }
def StreetEitherUptoSaid : Prop := streetEitherUptoRow.holds Tryd.pinned (OpenSpec.upto streetEitherSpec)

/-- 'lampblacklaw07.StreetMore', WHERE WHAT IT READS IS OF BULK AT MOST 1048576: true; the input reads as it did. -/
def streetMoreUptoRow : OpenClaim := { program := "yteamgbndnfjoaaadoor", sum := "2348338546225d74370d40d4a1e0902b978726ffee3fa60b00e0fcbe929db8b3", func := "lampblack/lampblacklaw07.StreetMore", spec := "streetMore", unfollowed := true, recurses := true, named := ["lampblack/street.none"], apart := false, laid := [("lampblack/street.none", laid_lampblack_street_none)], narrowed := true }
def StreetMoreUptoSaid : Prop := streetMoreUptoRow.holds Tryd.pinned (OpenSpec.upto streetMoreSpec)

/-- 'lampblacklaw07.StreetTurned', WHERE WHAT IT READS IS OF BULK AT MOST 1048576: true; the input reads as it did. -/
def streetTurnedUptoRow : OpenClaim := { program := "yteamgbndnfjoaaadoor", sum := "2348338546225d74370d40d4a1e0902b978726ffee3fa60b00e0fcbe929db8b3", func := "lampblack/lampblacklaw07.StreetTurned", spec := "streetTurned", unfollowed := true, recurses := true, named := ["lampblack/street.none"], apart := false, laid := [("lampblack/street.none", laid_lampblack_street_none)], narrowed := true }
def StreetTurnedUptoSaid : Prop := streetTurnedUptoRow.holds Tryd.pinned (OpenSpec.upto streetTurnedSpec)

/-- 'lampblacklaw07.StreetJoined', WHERE WHAT IT READS IS OF BULK AT MOST 1048576: true; the input reads as it did. -/
def streetJoinedUptoRow : OpenClaim := { program := "yteamgbndnfjoaaadoor", sum := "2348338546225d74370d40d4a1e0902b978726ffee3fa60b00e0fcbe929db8b3", func := "lampblack/lampblacklaw07.StreetJoined", spec := "streetJoined", unfollowed := true, recurses := true, named := ["lampblack/street.none"], apart := false, laid := [("lampblack/street.none", laid_lampblack_street_none)], narrowed := true }
def StreetJoinedUptoSaid : Prop := streetJoinedUptoRow.holds Tryd.pinned (OpenSpec.upto streetJoinedSpec)

/-- 'lampblacklaw07.StreetKnown', WHERE WHAT IT READS IS OF BULK AT MOST 1048576: true; the input reads as it did. -/
def streetKnownUptoRow : OpenClaim := { program := "yteamgbndnfjoaaadoor", sum := "2348338546225d74370d40d4a1e0902b978726ffee3fa60b00e0fcbe929db8b3", func := "lampblack/lampblacklaw07.StreetKnown", spec := "streetKnown", unfollowed := true, recurses := true, named := ["lampblack/street.none"], apart := false, laid := [("lampblack/street.none", laid_lampblack_street_none)], narrowed := true }
def StreetKnownUptoSaid : Prop := streetKnownUptoRow.holds Tryd.pinned (OpenSpec.upto streetKnownSpec)

end Rows
end Go.Proofs.YteamgbndnfjoaaaDoor
