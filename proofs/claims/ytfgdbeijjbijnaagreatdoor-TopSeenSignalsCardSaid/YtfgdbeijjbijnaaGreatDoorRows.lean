/-
  NARROWER THAN 'FOR EVERY INPUT', by the rows' own cells (each row's printed sentence says how): TopSeenSignals: laid · TopSureReach: laid · TopCheapestLamps: laid · TopStreetUnits: laid.
  DERIVED. THE GIVEN ROWS OF THIS SEAT. 4 by the template 'for every input the law returns true; each argument reads behind the call as it read before'; 0 by the template 'total and deterministic' (their statements: YtfgdbeijjbijnaaGreatDoorTotals.lean).
  GIVEN WITH THE SEED: the statements are not yours to turn. If you find one false, say at which input.
  Laid BY PROGRAM, IN A SANDBOX (cutbox-rows.mjs): the forced cells as the released guide's own fill.sh prints them over the translation 4a09261487ba95e7… (all of the seat's roots in one cut). By AI agents, Wed Nov 11 2026. No macro, syntax, notation, axiom, sorry.
-/
import Derived.Test.YtfgdbeijjbijnaaGreatDoorChecked
import GoSem.Claim
import GoSem.ClaimJoined
import GoSem.ClaimMapViews
import Derived.JoinedTies
import Derived.KernelRfl
namespace Go.Proofs.YtfgdbeijjbijnaaGreatDoor
/- THE CELL 'sum', in the pinned program and in every row, IS THE sha256 OF THE DUMP (.gsa) THAT YtfgdbeijjbijnaaGreatDoorProg.lean LOADS. Nothing in Lean hashes anything: it is a label: what it is worth is what the hold of that sum in a sandbox is worth. -/
noncomputable def Tryz.pinned : Pinned := { name := "ytfgdbeijjbijnaagreatdoor", sum := "4a09261487ba95e74eb8dd1ce1c387d46e7943a0dd3c5b16d3a6390251e077af", checked := Tryz.checked }
namespace Rows
def none {H : Type} : Left H := { results := [], args := [] }

/- WHAT THE LISTED PACKAGE-LEVEL VARIABLES READ AS WHEN THE CALL BEGINS. Each datum BY PROGRAM (the guide's laid-datum.mjs) off the statement by which the dump's own 'gosem.cut.vars' lays the variable. In a bare row this is a premise. The card (YtfgdbeijjbijnaaGreatDoorCards.lean) ties it to the program's text. -/
def laid_math_bits_deBruijn64tab {H : Type} : DataW H := .agg [.lit (.int .u8 0), .lit (.int .u8 1), .lit (.int .u8 56), .lit (.int .u8 2), .lit (.int .u8 57), .lit (.int .u8 49), .lit (.int .u8 28), .lit (.int .u8 3), .lit (.int .u8 61), .lit (.int .u8 58), .lit (.int .u8 42), .lit (.int .u8 50), .lit (.int .u8 38), .lit (.int .u8 29), .lit (.int .u8 17), .lit (.int .u8 4), .lit (.int .u8 62), .lit (.int .u8 47), .lit (.int .u8 59), .lit (.int .u8 36), .lit (.int .u8 45), .lit (.int .u8 43), .lit (.int .u8 51), .lit (.int .u8 22), .lit (.int .u8 53), .lit (.int .u8 39), .lit (.int .u8 33), .lit (.int .u8 30), .lit (.int .u8 24), .lit (.int .u8 18), .lit (.int .u8 12), .lit (.int .u8 5), .lit (.int .u8 63), .lit (.int .u8 55), .lit (.int .u8 48), .lit (.int .u8 27), .lit (.int .u8 60), .lit (.int .u8 41), .lit (.int .u8 37), .lit (.int .u8 16), .lit (.int .u8 46), .lit (.int .u8 35), .lit (.int .u8 44), .lit (.int .u8 21), .lit (.int .u8 52), .lit (.int .u8 32), .lit (.int .u8 23), .lit (.int .u8 11), .lit (.int .u8 54), .lit (.int .u8 26), .lit (.int .u8 40), .lit (.int .u8 15), .lit (.int .u8 34), .lit (.int .u8 20), .lit (.int .u8 31), .lit (.int .u8 10), .lit (.int .u8 25), .lit (.int .u8 14), .lit (.int .u8 19), .lit (.int .u8 9), .lit (.int .u8 13), .lit (.int .u8 8), .lit (.int .u8 7), .lit (.int .u8 6)]
def laid_lampblack_unit_first {H : Type} : DataW H := .agg [.lit (.int .i64 1), .lit (.int .i64 0), .lit (.int .i64 0), .lit (.int .i64 1)]
def laid_lampblack_street_none {H : Type} : DataW H := .agg [.lit (.int .i64 0), .lit (.int .i64 0), .lit (.int .i64 0), .lit (.int .i64 (-2))]

/-- 'lampblacktop.TopSeenSignals': WHATEVER THE INPUT: true; the input reads as it did. -/
def topSeenSignalsSpec : ChangeSpec := { name := "topSeenSignals", fn := fun _ => fun
  | [d1, d2, d3, d4] => { results := [.lit (.bool true)], args := [d1, d2, d3, d4] }
  | _ => none }
def topSeenSignalsRow : OpenClaim := { program := "ytfgdbeijjbijnaagreatdoor", sum := "4a09261487ba95e74eb8dd1ce1c387d46e7943a0dd3c5b16d3a6390251e077af", func := "lampblack/lampblacktop.TopSeenSignals", spec := "topSeenSignals", unfollowed := true, recurses := true, named := ["lampblack/unit.first", "math/bits.deBruijn64tab"], plainKeys := false, apart := false, laid := [("math/bits.deBruijn64tab", laid_math_bits_deBruijn64tab), ("lampblack/unit.first", laid_lampblack_unit_first)] }
def TopSeenSignalsSaid : Prop := topSeenSignalsRow.holds Tryz.pinned (OpenSpec.ofChange topSeenSignalsSpec)

/-- ITS FALSE NEIGHBOUR: 'it returns false'. Refute it at one input. -/
def topSeenSignalsWrong : ChangeSpec := { name := "topSeenSignals", fn := fun _ => fun
  | [d1, d2, d3, d4] => { results := [.lit (.bool false)], args := [d1, d2, d3, d4] }
  | _ => none }
def TopSeenSignalsWrongFalsely : Prop := topSeenSignalsRow.holds Tryz.pinned (OpenSpec.ofChange topSeenSignalsWrong)

/-- 'lampblacktop.TopSureReach': WHATEVER THE INPUT: true; the input reads as it did. -/
def topSureReachSpec : ChangeSpec := { name := "topSureReach", fn := fun _ => fun
  | [d1, d2, d3, d4, d5, d6, d7] => { results := [.lit (.bool true)], args := [d1, d2, d3, d4, d5, d6, d7] }
  | _ => none }
def topSureReachRow : OpenClaim := { program := "ytfgdbeijjbijnaagreatdoor", sum := "4a09261487ba95e74eb8dd1ce1c387d46e7943a0dd3c5b16d3a6390251e077af", func := "lampblack/lampblacktop.TopSureReach", spec := "topSureReach", unfollowed := true, recurses := true, named := ["lampblack/unit.first", "math/bits.deBruijn64tab", "lampblack/street.none"], plainKeys := false, apart := false, laid := [("math/bits.deBruijn64tab", laid_math_bits_deBruijn64tab), ("lampblack/street.none", laid_lampblack_street_none), ("lampblack/unit.first", laid_lampblack_unit_first)] }
def TopSureReachSaid : Prop := topSureReachRow.holds Tryz.pinned (OpenSpec.ofChange topSureReachSpec)

/-- ITS FALSE NEIGHBOUR: 'it returns false'. Refute it at one input. -/
def topSureReachWrong : ChangeSpec := { name := "topSureReach", fn := fun _ => fun
  | [d1, d2, d3, d4, d5, d6, d7] => { results := [.lit (.bool false)], args := [d1, d2, d3, d4, d5, d6, d7] }
  | _ => none }
def TopSureReachWrongFalsely : Prop := topSureReachRow.holds Tryz.pinned (OpenSpec.ofChange topSureReachWrong)

/-- 'lampblacktop.TopCheapestLamps': WHATEVER THE INPUT: true; the input reads as it did. -/
def topCheapestLampsSpec : ChangeSpec := { name := "topCheapestLamps", fn := fun _ => fun
  | [d1, d2, d3] => { results := [.lit (.bool true)], args := [d1, d2, d3] }
  | _ => none }
def topCheapestLampsRow : OpenClaim := { program := "ytfgdbeijjbijnaagreatdoor", sum := "4a09261487ba95e74eb8dd1ce1c387d46e7943a0dd3c5b16d3a6390251e077af", func := "lampblack/lampblacktop.TopCheapestLamps", spec := "topCheapestLamps", unfollowed := true, recurses := true, named := ["lampblack/unit.first", "math/bits.deBruijn64tab", "lampblack/street.none"], plainKeys := false, apart := false, laid := [("math/bits.deBruijn64tab", laid_math_bits_deBruijn64tab), ("lampblack/street.none", laid_lampblack_street_none), ("lampblack/unit.first", laid_lampblack_unit_first)] }
def TopCheapestLampsSaid : Prop := topCheapestLampsRow.holds Tryz.pinned (OpenSpec.ofChange topCheapestLampsSpec)

/-- ITS FALSE NEIGHBOUR: 'it returns false'. Refute it at one input. -/
def topCheapestLampsWrong : ChangeSpec := { name := "topCheapestLamps", fn := fun _ => fun
  | [d1, d2, d3] => { results := [.lit (.bool false)], args := [d1, d2, d3] }
  | _ => none }
def TopCheapestLampsWrongFalsely : Prop := topCheapestLampsRow.holds Tryz.pinned (OpenSpec.ofChange topCheapestLampsWrong)

/-- 'lampblacktop.TopStreetUnits': WHATEVER THE INPUT: true; the input reads as it did. -/
def topStreetUnitsSpec : ChangeSpec := { name := "topStreetUnits", fn := fun _ => fun
  | [d1, d2] => { results := [.lit (.bool true)], args := [d1, d2] }
  | _ => none }
def topStreetUnitsRow : OpenClaim := { program := "ytfgdbeijjbijnaagreatdoor", sum := "4a09261487ba95e74eb8dd1ce1c387d46e7943a0dd3c5b16d3a6390251e077af", func := "lampblack/lampblacktop.TopStreetUnits", spec := "topStreetUnits", unfollowed := true, recurses := true, named := ["lampblack/unit.first", "math/bits.deBruijn64tab", "lampblack/street.none"], plainKeys := false, apart := false, laid := [("math/bits.deBruijn64tab", laid_math_bits_deBruijn64tab), ("lampblack/street.none", laid_lampblack_street_none), ("lampblack/unit.first", laid_lampblack_unit_first)] }
def TopStreetUnitsSaid : Prop := topStreetUnitsRow.holds Tryz.pinned (OpenSpec.ofChange topStreetUnitsSpec)

/-- ITS FALSE NEIGHBOUR: 'it returns false'. Refute it at one input. -/
def topStreetUnitsWrong : ChangeSpec := { name := "topStreetUnits", fn := fun _ => fun
  | [d1, d2] => { results := [.lit (.bool false)], args := [d1, d2] }
  | _ => none }
def TopStreetUnitsWrongFalsely : Prop := topStreetUnitsRow.holds Tryz.pinned (OpenSpec.ofChange topStreetUnitsWrong)

/- THE SECOND FORM. 'bulk': how many values and letters a reading holds, each counted each time it is reached (what is shared counts as often as it is met; a slice's spare places count too). A statement '..UptoSaid' is the law's where the arguments, and the package variables that the reading takes, are together of bulk at most 1048576: NARROWER than '..Said'. Prove '..Said' where nothing that the law and all that it calls make is longer than what came in: it says more and counts as full. Else prove '..UptoSaid'. A law counts once. -/
mutual
def uptoBulk {H : Type} : DataW H → Nat
  | .lit (.string bytes) => bytes.length + 1
  | .lit _ => 1
  | .nil => 1
  | .ptr d => uptoBulk d + 1
  | .slice elems spare => uptoBulkAll elems + uptoBulkAll spare + 1
  | .agg parts => uptoBulkAll parts + 1
  | .iface _ d => uptoBulk d + 1
  | .map entries => uptoBulkEntries entries + 1
  | .held _ => 1
def uptoBulkAll {H : Type} : List (DataW H) → Nat
  | [] => 0
  | d :: r => uptoBulk d + uptoBulkAll r
def uptoBulkEntries {H : Type} : List (Lit × DataW H) → Nat
  | [] => 0
  | x :: r => uptoBulkEntry x + uptoBulkEntries r
def uptoBulkEntry {H : Type} : Lit × DataW H → Nat
  | (.string bytes, d) => bytes.length + uptoBulk d + 1
  | (_, d) => uptoBulk d + 1
 end
def uptoSmall : (H : Type) → List (DataW H) → Bool := fun _ ds => decide (uptoBulkAll ds ≤ 1048576)
def OpenSpec.upto (s : _root_.Go.ChangeSpec) : _root_.Go.OpenSpec := { _root_.Go.OpenSpec.ofChange s with cond := some uptoSmall }

/-- 'lampblacktop.TopSeenSignals', WHERE WHAT IT READS IS OF BULK AT MOST 1048576: true; the input reads as it did. -/
def topSeenSignalsUptoRow : OpenClaim := { program := "ytfgdbeijjbijnaagreatdoor", sum := "4a09261487ba95e74eb8dd1ce1c387d46e7943a0dd3c5b16d3a6390251e077af", func := "lampblack/lampblacktop.TopSeenSignals", spec := "topSeenSignals", unfollowed := true, recurses := true, named := ["lampblack/unit.first", "math/bits.deBruijn64tab"], plainKeys := false, apart := false, laid := [("math/bits.deBruijn64tab", laid_math_bits_deBruijn64tab), ("lampblack/unit.first", laid_lampblack_unit_first)], narrowed := true }
def TopSeenSignalsUptoSaid : Prop := topSeenSignalsUptoRow.holds Tryz.pinned (OpenSpec.upto topSeenSignalsSpec)

/-- 'lampblacktop.TopSureReach', WHERE WHAT IT READS IS OF BULK AT MOST 1048576: true; the input reads as it did. -/
def topSureReachUptoRow : OpenClaim := { program := "ytfgdbeijjbijnaagreatdoor", sum := "4a09261487ba95e74eb8dd1ce1c387d46e7943a0dd3c5b16d3a6390251e077af", func := "lampblack/lampblacktop.TopSureReach", spec := "topSureReach", unfollowed := true, recurses := true, named := ["lampblack/unit.first", "math/bits.deBruijn64tab", "lampblack/street.none"], plainKeys := false, apart := false, laid := [("math/bits.deBruijn64tab", laid_math_bits_deBruijn64tab), ("lampblack/street.none", laid_lampblack_street_none), ("lampblack/unit.first", laid_lampblack_unit_first)], narrowed := true }
def TopSureReachUptoSaid : Prop := topSureReachUptoRow.holds Tryz.pinned (OpenSpec.upto topSureReachSpec)

/-- 'lampblacktop.TopCheapestLamps', WHERE WHAT IT READS IS OF BULK AT MOST 1048576: true; the input reads as it did. -/
def topCheapestLampsUptoRow : OpenClaim := { program := "ytfgdbeijjbijnaagreatdoor", sum := "4a09261487ba95e74eb8dd1ce1c387d46e7943a0dd3c5b16d3a6390251e077af", func := "lampblack/lampblacktop.TopCheapestLamps", spec := "topCheapestLamps", unfollowed := true, recurses := true, named := ["lampblack/unit.first", "math/bits.deBruijn64tab", "lampblack/street.none"], plainKeys := false, apart := false, laid := [("math/bits.deBruijn64tab", laid_math_bits_deBruijn64tab), ("lampblack/street.none", laid_lampblack_street_none), ("lampblack/unit.first", laid_lampblack_unit_first)], narrowed := true }
def TopCheapestLampsUptoSaid : Prop := topCheapestLampsUptoRow.holds Tryz.pinned (OpenSpec.upto topCheapestLampsSpec)

/-- 'lampblacktop.TopStreetUnits', WHERE WHAT IT READS IS OF BULK AT MOST 1048576: true; the input reads as it did. -/
def topStreetUnitsUptoRow : OpenClaim := { program := "ytfgdbeijjbijnaagreatdoor", sum := "4a09261487ba95e74eb8dd1ce1c387d46e7943a0dd3c5b16d3a6390251e077af", func := "lampblack/lampblacktop.TopStreetUnits", spec := "topStreetUnits", unfollowed := true, recurses := true, named := ["lampblack/unit.first", "math/bits.deBruijn64tab", "lampblack/street.none"], plainKeys := false, apart := false, laid := [("math/bits.deBruijn64tab", laid_math_bits_deBruijn64tab), ("lampblack/street.none", laid_lampblack_street_none), ("lampblack/unit.first", laid_lampblack_unit_first)], narrowed := true }
def TopStreetUnitsUptoSaid : Prop := topStreetUnitsUptoRow.holds Tryz.pinned (OpenSpec.upto topStreetUnitsSpec)

end Rows
end Go.Proofs.YtfgdbeijjbijnaaGreatDoor
