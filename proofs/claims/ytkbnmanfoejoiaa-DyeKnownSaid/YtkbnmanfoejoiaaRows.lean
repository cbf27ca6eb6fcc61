/-
  No cell of these rows narrows 'for every input' (looked for: loops, veiled, ifaces, maps, wideKeys, modest, calm, conditions, laid).
  DERIVED. THE GIVEN ROWS OF THIS SEAT. 10 by the template 'for every input the law returns true; each argument reads behind the call as it read before'; 0 by the template 'total and deterministic' (their statements: YtkbnmanfoejoiaaTotals.lean).
  GIVEN WITH THE SEED: the statements are not yours to turn. If you find one false, say at which input.
  Laid BY PROGRAM, IN A SANDBOX (cutbox-rows.mjs): the forced cells as the released guide's own fill.sh prints them over the translation 05f1811b2599d680… (all of the seat's roots in one cut). By AI agents, Wed Nov 11 2026. No macro, syntax, notation, axiom, sorry.
-/
import Derived.Test.YtkbnmanfoejoiaaChecked
import GoSem.Claim
import GoSem.ClaimJoined
import GoSem.ClaimMapViews
import Derived.JoinedTies
import Derived.KernelRfl
namespace Go.Proofs.Ytkbnmanfoejoiaa
/- THE CELL 'sum', in the pinned program and in every row, IS THE sha256 OF THE DUMP (.gsa) THAT YtkbnmanfoejoiaaProg.lean LOADS. Nothing in Lean hashes anything: it is a label: what it is worth is what the hold of that sum in a sandbox is worth. -/
noncomputable def Try.pinned : Pinned := { name := "ytkbnmanfoejoiaa", sum := "05f1811b2599d680d048386d84a7877a0d130cf3d050a8f60c50d3801abaf809", checked := Try.checked }
namespace Rows
def none {H : Type} : Left H := { results := [], args := [] }

/-- 'lampblacklaw09.DyeMixes': WHATEVER THE INPUT: true; the input reads as it did. -/
def dyeMixesSpec : ChangeSpec := { name := "dyeMixes", fn := fun _ => fun
  | [d1, d2, d3] => { results := [.lit (.bool true)], args := [d1, d2, d3] }
  | _ => none }
def dyeMixesRow : OpenClaim := { program := "ytkbnmanfoejoiaa", sum := "05f1811b2599d680d048386d84a7877a0d130cf3d050a8f60c50d3801abaf809", func := "lampblack/lampblacklaw09.DyeMixes", spec := "dyeMixes", unfollowed := true, recurses := true, plainKeys := false, apart := false }
def DyeMixesSaid : Prop := dyeMixesRow.holds Try.pinned (OpenSpec.ofChange dyeMixesSpec)

/-- ITS FALSE NEIGHBOUR: 'it returns false'. Refute it at one input. -/
def dyeMixesWrong : ChangeSpec := { name := "dyeMixes", fn := fun _ => fun
  | [d1, d2, d3] => { results := [.lit (.bool false)], args := [d1, d2, d3] }
  | _ => none }
def DyeMixesWrongFalsely : Prop := dyeMixesRow.holds Try.pinned (OpenSpec.ofChange dyeMixesWrong)

/-- 'lampblacklaw09.DyeCheapest': WHATEVER THE INPUT: true; the input reads as it did. -/
def dyeCheapestSpec : ChangeSpec := { name := "dyeCheapest", fn := fun _ => fun
  | [d1, d2] => { results := [.lit (.bool true)], args := [d1, d2] }
  | _ => none }
def dyeCheapestRow : OpenClaim := { program := "ytkbnmanfoejoiaa", sum := "05f1811b2599d680d048386d84a7877a0d130cf3d050a8f60c50d3801abaf809", func := "lampblack/lampblacklaw09.DyeCheapest", spec := "dyeCheapest", unfollowed := true, recurses := true, plainKeys := false, apart := false }
def DyeCheapestSaid : Prop := dyeCheapestRow.holds Try.pinned (OpenSpec.ofChange dyeCheapestSpec)

/-- ITS FALSE NEIGHBOUR: 'it returns false'. Refute it at one input. -/
def dyeCheapestWrong : ChangeSpec := { name := "dyeCheapest", fn := fun _ => fun
  | [d1, d2] => { results := [.lit (.bool false)], args := [d1, d2] }
  | _ => none }
def DyeCheapestWrongFalsely : Prop := dyeCheapestRow.holds Try.pinned (OpenSpec.ofChange dyeCheapestWrong)

/-- 'lampblacklaw09.DyeTables': WHATEVER THE INPUT: true; the input reads as it did. -/
def dyeTablesSpec : ChangeSpec := { name := "dyeTables", fn := fun _ => fun
  | [d1, d2, d3, d4] => { results := [.lit (.bool true)], args := [d1, d2, d3, d4] }
  | _ => none }
def dyeTablesRow : OpenClaim := { program := "ytkbnmanfoejoiaa", sum := "05f1811b2599d680d048386d84a7877a0d130cf3d050a8f60c50d3801abaf809", func := "lampblack/lampblacklaw09.DyeTables", spec := "dyeTables", unfollowed := true, recurses := true, plainKeys := false, apart := false }
def DyeTablesSaid : Prop := dyeTablesRow.holds Try.pinned (OpenSpec.ofChange dyeTablesSpec)

/-- ITS FALSE NEIGHBOUR: 'it returns false'. Refute it at one input. -/
def dyeTablesWrong : ChangeSpec := { name := "dyeTables", fn := fun _ => fun
  | [d1, d2, d3, d4] => { results := [.lit (.bool false)], args := [d1, d2, d3, d4] }
  | _ => none }
def DyeTablesWrongFalsely : Prop := dyeTablesRow.holds Try.pinned (OpenSpec.ofChange dyeTablesWrong)

/-- 'lampblacklaw09.DyeProved': WHATEVER THE INPUT: true; the input reads as it did. -/
def dyeProvedSpec : ChangeSpec := { name := "dyeProved", fn := fun _ => fun
  | [d1, d2, d3, d4] => { results := [.lit (.bool true)], args := [d1, d2, d3, d4] }
  | _ => none }
def dyeProvedRow : OpenClaim := { program := "ytkbnmanfoejoiaa", sum := "05f1811b2599d680d048386d84a7877a0d130cf3d050a8f60c50d3801abaf809", func := "lampblack/lampblacklaw09.DyeProved", spec := "dyeProved", unfollowed := true, recurses := true, plainKeys := false, apart := false }
def DyeProvedSaid : Prop := dyeProvedRow.holds Try.pinned (OpenSpec.ofChange dyeProvedSpec)

/-- ITS FALSE NEIGHBOUR: 'it returns false'. Refute it at one input. -/
def dyeProvedWrong : ChangeSpec := { name := "dyeProved", fn := fun _ => fun
  | [d1, d2, d3, d4] => { results := [.lit (.bool false)], args := [d1, d2, d3, d4] }
  | _ => none }
def DyeProvedWrongFalsely : Prop := dyeProvedRow.holds Try.pinned (OpenSpec.ofChange dyeProvedWrong)

/-- 'lampblacklaw09.DyeTogether': WHATEVER THE INPUT: true; the input reads as it did. -/
def dyeTogetherSpec : ChangeSpec := { name := "dyeTogether", fn := fun _ => fun
  | [d1, d2, d3] => { results := [.lit (.bool true)], args := [d1, d2, d3] }
  | _ => none }
def dyeTogetherRow : OpenClaim := { program := "ytkbnmanfoejoiaa", sum := "05f1811b2599d680d048386d84a7877a0d130cf3d050a8f60c50d3801abaf809", func := "lampblack/lampblacklaw09.DyeTogether", spec := "dyeTogether", unfollowed := true, recurses := true, plainKeys := false, apart := false }
def DyeTogetherSaid : Prop := dyeTogetherRow.holds Try.pinned (OpenSpec.ofChange dyeTogetherSpec)

/-- ITS FALSE NEIGHBOUR: 'it returns false'. Refute it at one input. -/
def dyeTogetherWrong : ChangeSpec := { name := "dyeTogether", fn := fun _ => fun
  | [d1, d2, d3] => { results := [.lit (.bool false)], args := [d1, d2, d3] }
  | _ => none }
def DyeTogetherWrongFalsely : Prop := dyeTogetherRow.holds Try.pinned (OpenSpec.ofChange dyeTogetherWrong)

/-- 'lampblacklaw09.DyeMore': WHATEVER THE INPUT: true; the input reads as it did. -/
def dyeMoreSpec : ChangeSpec := { name := "dyeMore", fn := fun _ => fun
  | [d1, d2, d3, d4] => { results := [.lit (.bool true)], args := [d1, d2, d3, d4] }
  | _ => none }
def dyeMoreRow : OpenClaim := { program := "ytkbnmanfoejoiaa", sum := "05f1811b2599d680d048386d84a7877a0d130cf3d050a8f60c50d3801abaf809", func := "lampblack/lampblacklaw09.DyeMore", spec := "dyeMore", unfollowed := true, recurses := true, plainKeys := false, apart := false }
def DyeMoreSaid : Prop := dyeMoreRow.holds Try.pinned (OpenSpec.ofChange dyeMoreSpec)

/-- ITS FALSE NEIGHBOUR: 'it returns false'. Refute it at one input. -/
def dyeMoreWrong : ChangeSpec := { name := "dyeMore", fn := fun _ => fun
  | [d1, d2, d3, d4] => { results := [.lit (.bool false)], args := [d1, d2, d3, d4] }
  | _ => none }
def DyeMoreWrongFalsely : Prop := dyeMoreRow.holds Try.pinned (OpenSpec.ofChange dyeMoreWrong)

/-- 'lampblacklaw09.DyeTurned': WHATEVER THE INPUT: true; the input reads as it did. -/
def dyeTurnedSpec : ChangeSpec := { name := "dyeTurned", fn := fun _ => fun
  | [d1, d2, d3] => { results := [.lit (.bool true)], args := [d1, d2, d3] }
  | _ => none }
def dyeTurnedRow : OpenClaim := { program := "ytkbnmanfoejoiaa", sum := "05f1811b2599d680d048386d84a7877a0d130cf3d050a8f60c50d3801abaf809", func := "lampblack/lampblacklaw09.DyeTurned", spec := "dyeTurned", unfollowed := true, recurses := true, plainKeys := false, apart := false }
def DyeTurnedSaid : Prop := dyeTurnedRow.holds Try.pinned (OpenSpec.ofChange dyeTurnedSpec)

/-- ITS FALSE NEIGHBOUR: 'it returns false'. Refute it at one input. -/
def dyeTurnedWrong : ChangeSpec := { name := "dyeTurned", fn := fun _ => fun
  | [d1, d2, d3] => { results := [.lit (.bool false)], args := [d1, d2, d3] }
  | _ => none }
def DyeTurnedWrongFalsely : Prop := dyeTurnedRow.holds Try.pinned (OpenSpec.ofChange dyeTurnedWrong)

/-- 'lampblacklaw09.DyePrices': WHATEVER THE INPUT: true; the input reads as it did. -/
def dyePricesSpec : ChangeSpec := { name := "dyePrices", fn := fun _ => fun
  | [d1, d2, d3, d4] => { results := [.lit (.bool true)], args := [d1, d2, d3, d4] }
  | _ => none }
def dyePricesRow : OpenClaim := { program := "ytkbnmanfoejoiaa", sum := "05f1811b2599d680d048386d84a7877a0d130cf3d050a8f60c50d3801abaf809", func := "lampblack/lampblacklaw09.DyePrices", spec := "dyePrices", unfollowed := true, recurses := true, plainKeys := false, apart := false }
def DyePricesSaid : Prop := dyePricesRow.holds Try.pinned (OpenSpec.ofChange dyePricesSpec)

/-- ITS FALSE NEIGHBOUR: 'it returns false'. Refute it at one input. -/
def dyePricesWrong : ChangeSpec := { name := "dyePrices", fn := fun _ => fun
  | [d1, d2, d3, d4] => { results := [.lit (.bool false)], args := [d1, d2, d3, d4] }
  | _ => none }
def DyePricesWrongFalsely : Prop := dyePricesRow.holds Try.pinned (OpenSpec.ofChange dyePricesWrong)

/-- 'lampblacklaw09.DyeGrades': WHATEVER THE INPUT: true; the input reads as it did. -/
def dyeGradesSpec : ChangeSpec := { name := "dyeGrades", fn := fun _ => fun
  | [d1, d2, d3] => { results := [.lit (.bool true)], args := [d1, d2, d3] }
  | _ => none }
def dyeGradesRow : OpenClaim := { program := "ytkbnmanfoejoiaa", sum := "05f1811b2599d680d048386d84a7877a0d130cf3d050a8f60c50d3801abaf809", func := "lampblack/lampblacklaw09.DyeGrades", spec := "dyeGrades", unfollowed := true, recurses := true, plainKeys := false, apart := false }
def DyeGradesSaid : Prop := dyeGradesRow.holds Try.pinned (OpenSpec.ofChange dyeGradesSpec)

/-- ITS FALSE NEIGHBOUR: 'it returns false'. Refute it at one input. -/
def dyeGradesWrong : ChangeSpec := { name := "dyeGrades", fn := fun _ => fun
  | [d1, d2, d3] => { results := [.lit (.bool false)], args := [d1, d2, d3] }
  | _ => none }
def DyeGradesWrongFalsely : Prop := dyeGradesRow.holds Try.pinned (OpenSpec.ofChange dyeGradesWrong)

/-- 'lampblacklaw09.DyeKnown': WHATEVER THE INPUT: true; the input reads as it did. -/
def dyeKnownSpec : ChangeSpec := { name := "dyeKnown", fn := fun _ => fun
  | [] => { results := [.lit (.bool true)], args := [] }
  | _ => none }
def dyeKnownRow : OpenClaim := { program := "ytkbnmanfoejoiaa", sum := "05f1811b2599d680d048386d84a7877a0d130cf3d050a8f60c50d3801abaf809", func := "lampblack/lampblacklaw09.DyeKnown", spec := "dyeKnown", unfollowed := true, recurses := true, plainKeys := false, apart := false }
def DyeKnownSaid : Prop := dyeKnownRow.holds Try.pinned (OpenSpec.ofChange dyeKnownSpec)

/-- ITS FALSE NEIGHBOUR: 'it returns false'. Refute it at one input. -/
def dyeKnownWrong : ChangeSpec := { name := "dyeKnown", fn := fun _ => fun
  | [] => { results := [.lit (.bool false)], args := [] }
  | _ => none }
def DyeKnownWrongFalsely : Prop := dyeKnownRow.holds Try.pinned (OpenSpec.ofChange dyeKnownWrong)

/- THE SECOND FORM. 'bulk': how many values and letters a reading holds, each counted each time it is reached (what is shared counts as often as it is met; a slice's spare places count too). A statement '..UptoSaid' is the law's where the arguments, and the package variables that the reading takes, are together of bulk at most 1048576: NARROWER than '..Said'. Prove '..Said' where nothing that the law and all that it calls make is longer than what came in: it says more and counts as full. Else prove '..UptoSaid'. A law counts once. -/
mutual
def uptoBulk {H : Type} : DataW H → Nat
  | .lit (.string bytes) => bytes.length + 1
  | .lit _ => 1
  | .nil => 1
  | .ptr d => uptoBulk d + 1
  | .slice elems spare => uptoBulkAll elems + uptoBulkAll spare + 1
  | .agg parts => uptoBulkAll parts + 1
  | .iface _ d => uptoBulk d + 1
  | .map entries => uptoBulkEntries entries + 1
  | .held _ => 1
def uptoBulkAll {H : Type} : List (DataW H) → Nat
  | [] => 0
  | d :: r => uptoBulk d + uptoBulkAll r
def uptoBulkEntries {H : Type} : List (Lit × DataW H) → Nat
  | [] => 0
  | x :: r => uptoBulkEntry x + uptoBulkEntries r
def uptoBulkEntry {H : Type} : Lit × DataW H → Nat
  | (.string bytes, d) => bytes.length + uptoBulk d + 1
  | (_, d) => uptoBulk d + 1
 end
def uptoSmall : (H : Type) → List (DataW H) → Bool := fun _ ds => decide (uptoBulkAll ds ≤ 1048576)
def OpenSpec.upto (s : _root_.Go.ChangeSpec) : _root_.Go.OpenSpec := { _root_.Go.OpenSpec.ofChange s with cond := some uptoSmall }

/-- 'lampblacklaw09.DyeMixes', WHERE WHAT IT READS IS OF BULK AT MOST 1048576: true; the input reads as it did. -/
def dyeMixesUptoRow : OpenClaim := { program := "ytkbnmanfoejoiaa", sum := "05f1811b2599d680d048386d84a7877a0d130cf3d050a8f60c50d3801abaf809", func := "lampblack/lampblacklaw09.DyeMixes", spec := "dyeMixes", unfollowed := true, recurses := true, plainKeys := false, apart := false, narrowed := true }
def DyeMixesUptoSaid : Prop := dyeMixesUptoRow.holds Try.pinned (OpenSpec.upto dyeMixesSpec)

/-- 'lampblacklaw09.DyeCheapest', WHERE WHAT IT READS IS OF BULK AT MOST 1048576: true; the input reads as it did. -/
def dyeCheapestUptoRow : OpenClaim := { program := "ytkbnmanfoejoiaa", sum := "05f1811b2599d680d048386d84a7877a0d130cf3d050a8f60c50d3801abaf809", func := "lampblack/lampblacklaw09.DyeCheapest", spec := "dyeCheapest", unfollowed := true, recurses := true, plainKeys := false, apart := false, narrowed := true }
def DyeCheapestUptoSaid : Prop := dyeCheapestUptoRow.holds Try.pinned (OpenSpec.upto dyeCheapestSpec)

/-- 'lampblacklaw09.DyeTables', WHERE WHAT IT READS IS OF BULK AT MOST 1048576: true; the input reads as it did. -/
def dyeTablesUptoRow : OpenClaim := { program := "ytkbnmanfoejoiaa", sum := "05f1811b2599d680d048386d84a7877a0d130cf3d050a8f60c50d3801abaf809", func := "lampblack/lampblacklaw09.DyeTables", spec := "dyeTables", unfollowed := true, recurses := true, plainKeys := false, apart := false, narrowed := true }
def DyeTablesUptoSaid : Prop := dyeTablesUptoRow.holds Try.pinned (OpenSpec.upto dyeTablesSpec)

/-- 'lampblacklaw09.DyeProved', WHERE WHAT IT READS IS OF BULK AT MOST 1048576: true; the input reads as it did. -/
def dyeProvedUptoRow : OpenClaim := { program := "ytkbnmanfoejoiaa", sum := "05f1811b2599d680d048386d84a7877a0d130cf3d050a8f60c50d3801abaf809", func := "lampblack/lampblacklaw09.DyeProved", spec := "dyeProved", unfollowed := true, recurses := true, plainKeys := false, apart := false, narrowed := true }
def DyeProvedUptoSaid : Prop := dyeProvedUptoRow.holds Try.pinned (OpenSpec.upto dyeProvedSpec)

/-- 'lampblacklaw09.DyeTogether', WHERE WHAT IT READS IS OF BULK AT MOST 1048576: true; the input reads as it did. -/
def dyeTogetherUptoRow : OpenClaim := { program := "ytkbnmanfoejoiaa", sum := "05f1811b2599d680d048386d84a7877a0d130cf3d050a8f60c50d3801abaf809", func := "lampblack/lampblacklaw09.DyeTogether", spec := "dyeTogether", unfollowed := true, recurses := true, plainKeys := false, apart := false, narrowed := true }
def DyeTogetherUptoSaid : Prop := dyeTogetherUptoRow.holds Try.pinned (OpenSpec.upto dyeTogetherSpec)

/-- 'lampblacklaw09.DyeMore', WHERE WHAT IT READS IS OF BULK AT MOST 1048576: true; the input reads as it did. -/
def dyeMoreUptoRow : OpenClaim := { program := "ytkbnmanfoejoiaa", sum := "05f1811b2599d680d048386d84a7877a0d130cf3d050a8f60c50d3801abaf809", func := "lampblack/lampblacklaw09.DyeMore", spec := "dyeMore", unfollowed := true, recurses := true, plainKeys := false, apart := false, narrowed := true }
def DyeMoreUptoSaid : Prop := dyeMoreUptoRow.holds Try.pinned (OpenSpec.upto dyeMoreSpec)

/-- 'lampblacklaw09.DyeTurned', WHERE WHAT IT READS IS OF BULK AT MOST 1048576: true; the input reads as it did. -/
def dyeTurnedUptoRow : OpenClaim := { program := "ytkbnmanfoejoiaa", sum := "05f1811b2599d680d048386d84a7877a0d130cf3d050a8f60c50d3801abaf809", func := "lampblack/lampblacklaw09.DyeTurned", spec := "dyeTurned", unfollowed := true, recurses := true, plainKeys := false, apart := false, narrowed := true }
def DyeTurnedUptoSaid : Prop := dyeTurnedUptoRow.holds Try.pinned (OpenSpec.upto dyeTurnedSpec)

/-- 'lampblacklaw09.DyePrices', WHERE WHAT IT READS IS OF BULK AT MOST 1048576: true; the input reads as it did. -/
def dyePricesUptoRow : OpenClaim := { program := "ytkbnmanfoejoiaa", sum := "05f1811b2599d680d048386d84a7877a0d130cf3d050a8f60c50d3801abaf809", func := "lampblack/lampblacklaw09.DyePrices", spec := "dyePrices", unfollowed := true, recurses := true, plainKeys := false, apart := false, narrowed := true }
def DyePricesUptoSaid : Prop := dyePricesUptoRow.holds Try.pinned (OpenSpec.upto dyePricesSpec)

/-- 'lampblacklaw09.DyeGrades', WHERE WHAT IT READS IS OF BULK AT MOST 1048576: true; the input reads as it did. -/
def dyeGradesUptoRow : OpenClaim := { program := "ytkbnmanfoejoiaa", sum := "05f1811b2599d680d048386d84a7877a0d130cf3d050a8f60c50d3801abaf809", func := "lampblack/lampblacklaw09.DyeGrades", spec := "dyeGrades", unfollowed := true, recurses := true, plainKeys := false, apart := false, narrowed := true }
def DyeGradesUptoSaid : Prop := dyeGradesUptoRow.holds Try.pinned (OpenSpec.upto dyeGradesSpec)

/-- 'lampblacklaw09.DyeKnown', WHERE WHAT IT READS IS OF BULK AT MOST 1048576: true; the input reads as it did. -/
def dyeKnownUptoRow : OpenClaim := { program := "ytkbnmanfoejoiaa", sum := "05f1811b2599d680d048386d84a7877a0d130cf3d050a8f60c50d3801abaf809", func := "lampblack/lampblacklaw09.DyeKnown", spec := "dyeKnown", unfollowed := true, recurses := true, plainKeys := false, apart := false, narrowed := true }
def DyeKnownUptoSaid : Prop := dyeKnownUptoRow.holds Try.pinned (OpenSpec.upto dyeKnownSpec)

end Rows
end Go.Proofs.Ytkbnmanfoejoiaa
