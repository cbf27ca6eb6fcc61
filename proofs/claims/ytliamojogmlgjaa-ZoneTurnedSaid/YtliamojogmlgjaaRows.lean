/-
  No cell of these rows narrows 'for every input' (looked for: loops, veiled, ifaces, maps, wideKeys, modest, calm, conditions, laid).
  DERIVED. THE GIVEN ROWS OF THIS SEAT. 12 by the template 'for every input the law returns true; each argument reads behind the call as it read before'; 0 by the template 'total and deterministic' (their statements: YtliamojogmlgjaaTotals.lean).
  GIVEN WITH THE SEED: the statements are not yours to turn. If you find one false, say at which input.
  Laid BY PROGRAM, IN A SANDBOX (cutbox-rows.mjs): the forced cells as the released guide's own fill.sh prints them over the translation 03e2c6bd4381a5ab… (all of the seat's roots in one cut). By AI agents, Wed Nov 11 2026. No macro, syntax, notation, axiom, sorry.
-/
import Derived.Test.YtliamojogmlgjaaChecked
import GoSem.Claim
import GoSem.ClaimJoined
import GoSem.ClaimMapViews
import Derived.JoinedTies
import Derived.KernelRfl
namespace Go.Proofs.Ytliamojogmlgjaa
/- THE CELL 'sum', in the pinned program and in every row, IS THE sha256 OF THE DUMP (.gsa) THAT YtliamojogmlgjaaProg.lean LOADS. Nothing in Lean hashes anything: it is a label: what it is worth is what the hold of that sum in a sandbox is worth. -/
noncomputable def Try.pinned : Pinned := { name := "ytliamojogmlgjaa", sum := "03e2c6bd4381a5abe69460057ea4c9dd4cf730b88a7d8a72115e0735cade3e9d", checked := Try.checked }
namespace Rows
def none {H : Type} : Left H := { results := [], args := [] }

/-- 'lampblacklaw03.ZoneLamps': WHATEVER THE INPUT: true; the input reads as it did. -/
def zoneLampsSpec : ChangeSpec := { name := "zoneLamps", fn := fun _ => fun
  | [d1, d2] => { results := [.lit (.bool true)], args := [d1, d2] }
  | _ => none }
def zoneLampsRow : OpenClaim := { program := "ytliamojogmlgjaa", sum := "03e2c6bd4381a5abe69460057ea4c9dd4cf730b88a7d8a72115e0735cade3e9d", func := "lampblack/lampblacklaw03.ZoneLamps", spec := "zoneLamps", unfollowed := true, recurses := true, apart := false }
def ZoneLampsSaid : Prop := zoneLampsRow.holds Try.pinned (OpenSpec.ofChange zoneLampsSpec)

/-- ITS FALSE NEIGHBOUR: 'it returns false'. Refute it at one input. -/
def zoneLampsWrong : ChangeSpec := { name := "zoneLamps", fn := fun _ => fun
  | [d1, d2] => { results := [.lit (.bool false)], args := [d1, d2] }
  | _ => none }
def ZoneLampsWrongFalsely : Prop := zoneLampsRow.holds Try.pinned (OpenSpec.ofChange zoneLampsWrong)

/-- 'lampblacklaw03.ZoneDoubts': WHATEVER THE INPUT: true; the input reads as it did. -/
def zoneDoubtsSpec : ChangeSpec := { name := "zoneDoubts", fn := fun _ => fun
  | [d1, d2, d3] => { results := [.lit (.bool true)], args := [d1, d2, d3] }
  | _ => none }
def zoneDoubtsRow : OpenClaim := { program := "ytliamojogmlgjaa", sum := "03e2c6bd4381a5abe69460057ea4c9dd4cf730b88a7d8a72115e0735cade3e9d", func := "lampblack/lampblacklaw03.ZoneDoubts", spec := "zoneDoubts", unfollowed := true, recurses := true, apart := false }
def ZoneDoubtsSaid : Prop := zoneDoubtsRow.holds Try.pinned (OpenSpec.ofChange zoneDoubtsSpec)

/-- ITS FALSE NEIGHBOUR: 'it returns false'. Refute it at one input. -/
def zoneDoubtsWrong : ChangeSpec := { name := "zoneDoubts", fn := fun _ => fun
  | [d1, d2, d3] => { results := [.lit (.bool false)], args := [d1, d2, d3] }
  | _ => none }
def ZoneDoubtsWrongFalsely : Prop := zoneDoubtsRow.holds Try.pinned (OpenSpec.ofChange zoneDoubtsWrong)

/-- 'lampblacklaw03.ZoneSpans': WHATEVER THE INPUT: true; the input reads as it did. -/
def zoneSpansSpec : ChangeSpec := { name := "zoneSpans", fn := fun _ => fun
  | [d1, d2, d3, d4] => { results := [.lit (.bool true)], args := [d1, d2, d3, d4] }
  | _ => none }
def zoneSpansRow : OpenClaim := { program := "ytliamojogmlgjaa", sum := "03e2c6bd4381a5abe69460057ea4c9dd4cf730b88a7d8a72115e0735cade3e9d", func := "lampblack/lampblacklaw03.ZoneSpans", spec := "zoneSpans", unfollowed := true, recurses := true, apart := false }
def ZoneSpansSaid : Prop := zoneSpansRow.holds Try.pinned (OpenSpec.ofChange zoneSpansSpec)

/-- ITS FALSE NEIGHBOUR: 'it returns false'. Refute it at one input. -/
def zoneSpansWrong : ChangeSpec := { name := "zoneSpans", fn := fun _ => fun
  | [d1, d2, d3, d4] => { results := [.lit (.bool false)], args := [d1, d2, d3, d4] }
  | _ => none }
def ZoneSpansWrongFalsely : Prop := zoneSpansRow.holds Try.pinned (OpenSpec.ofChange zoneSpansWrong)

/-- 'lampblacklaw03.ZoneNexts': WHATEVER THE INPUT: true; the input reads as it did. -/
def zoneNextsSpec : ChangeSpec := { name := "zoneNexts", fn := fun _ => fun
  | [d1, d2] => { results := [.lit (.bool true)], args := [d1, d2] }
  | _ => none }
def zoneNextsRow : OpenClaim := { program := "ytliamojogmlgjaa", sum := "03e2c6bd4381a5abe69460057ea4c9dd4cf730b88a7d8a72115e0735cade3e9d", func := "lampblack/lampblacklaw03.ZoneNexts", spec := "zoneNexts", unfollowed := true, recurses := true, apart := false }
def ZoneNextsSaid : Prop := zoneNextsRow.holds Try.pinned (OpenSpec.ofChange zoneNextsSpec)

/-- ITS FALSE NEIGHBOUR: 'it returns false'. Refute it at one input. -/
def zoneNextsWrong : ChangeSpec := { name := "zoneNexts", fn := fun _ => fun
  | [d1, d2] => { results := [.lit (.bool false)], args := [d1, d2] }
  | _ => none }
def ZoneNextsWrongFalsely : Prop := zoneNextsRow.holds Try.pinned (OpenSpec.ofChange zoneNextsWrong)

/-- 'lampblacklaw03.ZoneHeld': WHATEVER THE INPUT: true; the input reads as it did. -/
def zoneHeldSpec : ChangeSpec := { name := "zoneHeld", fn := fun _ => fun
  | [d1, d2, d3, d4, d5] => { results := [.lit (.bool true)], args := [d1, d2, d3, d4, d5] }
  | _ => none }
def zoneHeldRow : OpenClaim := { program := "ytliamojogmlgjaa", sum := "03e2c6bd4381a5abe69460057ea4c9dd4cf730b88a7d8a72115e0735cade3e9d", func := "lampblack/lampblacklaw03.ZoneHeld", spec := "zoneHeld", unfollowed := true, recurses := true, apart := false }
def ZoneHeldSaid : Prop := zoneHeldRow.holds Try.pinned (OpenSpec.ofChange zoneHeldSpec)

/-- ITS FALSE NEIGHBOUR: 'it returns false'. Refute it at one input. -/
def zoneHeldWrong : ChangeSpec := { name := "zoneHeld", fn := fun _ => fun
  | [d1, d2, d3, d4, d5] => { results := [.lit (.bool false)], args := [d1, d2, d3, d4, d5] }
  | _ => none }
def ZoneHeldWrongFalsely : Prop := zoneHeldRow.holds Try.pinned (OpenSpec.ofChange zoneHeldWrong)

/-- 'lampblacklaw03.ZoneEither': WHATEVER THE INPUT: true; the input reads as it did. -/
def zoneEitherSpec : ChangeSpec := { name := "zoneEither", fn := fun _ => fun
  | [d1, d2, d3] => { results := [.lit (.bool true)], args := [d1, d2, d3] }
  | _ => none }
def zoneEitherRow : OpenClaim := { program := "ytliamojogmlgjaa", sum := "03e2c6bd4381a5abe69460057ea4c9dd4cf730b88a7d8a72115e0735cade3e9d", func := "lampblack/lampblacklaw03.ZoneEither", spec := "zoneEither", unfollowed := true, recurses := true, apart := false }
def ZoneEitherSaid : Prop := zoneEitherRow.holds Try.pinned (OpenSpec.ofChange zoneEitherSpec)

/-- ITS FALSE NEIGHBOUR: 'it returns false'. Refute it at one input. -/
def zoneEitherWrong : ChangeSpec := { name := "zoneEither", fn := fun _ => fun
  | [d1, d2, d3] => { results := [.lit (.bool false)], args := [d1, d2, d3] }
  | _ => none }
def ZoneEitherWrongFalsely : Prop := zoneEitherRow.holds Try.pinned (OpenSpec.ofChange zoneEitherWrong)

/-- 'lampblacklaw03.ZoneNarrower': WHATEVER THE INPUT: true; the input reads as it did. -/
def zoneNarrowerSpec : ChangeSpec := { name := "zoneNarrower", fn := fun _ => fun
  | [d1, d2, d3, d4] => { results := [.lit (.bool true)], args := [d1, d2, d3, d4] }
  | _ => none }
def zoneNarrowerRow : OpenClaim := { program := "ytliamojogmlgjaa", sum := "03e2c6bd4381a5abe69460057ea4c9dd4cf730b88a7d8a72115e0735cade3e9d", func := "lampblack/lampblacklaw03.ZoneNarrower", spec := "zoneNarrower", unfollowed := true, recurses := true, apart := false }
def ZoneNarrowerSaid : Prop := zoneNarrowerRow.holds Try.pinned (OpenSpec.ofChange zoneNarrowerSpec)

/-- ITS FALSE NEIGHBOUR: 'it returns false'. Refute it at one input. -/
def zoneNarrowerWrong : ChangeSpec := { name := "zoneNarrower", fn := fun _ => fun
  | [d1, d2, d3, d4] => { results := [.lit (.bool false)], args := [d1, d2, d3, d4] }
  | _ => none }
def ZoneNarrowerWrongFalsely : Prop := zoneNarrowerRow.holds Try.pinned (OpenSpec.ofChange zoneNarrowerWrong)

/-- 'lampblacklaw03.ZoneTurned': WHATEVER THE INPUT: true; the input reads as it did. -/
def zoneTurnedSpec : ChangeSpec := { name := "zoneTurned", fn := fun _ => fun
  | [d1, d2] => { results := [.lit (.bool true)], args := [d1, d2] }
  | _ => none }
def zoneTurnedRow : OpenClaim := { program := "ytliamojogmlgjaa", sum := "03e2c6bd4381a5abe69460057ea4c9dd4cf730b88a7d8a72115e0735cade3e9d", func := "lampblack/lampblacklaw03.ZoneTurned", spec := "zoneTurned", unfollowed := true, recurses := true, apart := false }
def ZoneTurnedSaid : Prop := zoneTurnedRow.holds Try.pinned (OpenSpec.ofChange zoneTurnedSpec)

/-- ITS FALSE NEIGHBOUR: 'it returns false'. Refute it at one input. -/
def zoneTurnedWrong : ChangeSpec := { name := "zoneTurned", fn := fun _ => fun
  | [d1, d2] => { results := [.lit (.bool false)], args := [d1, d2] }
  | _ => none }
def ZoneTurnedWrongFalsely : Prop := zoneTurnedRow.holds Try.pinned (OpenSpec.ofChange zoneTurnedWrong)

/-- 'lampblacklaw03.ZoneSums': WHATEVER THE INPUT: true; the input reads as it did. -/
def zoneSumsSpec : ChangeSpec := { name := "zoneSums", fn := fun _ => fun
  | [d1, d2, d3] => { results := [.lit (.bool true)], args := [d1, d2, d3] }
  | _ => none }
def zoneSumsRow : OpenClaim := { program := "ytliamojogmlgjaa", sum := "03e2c6bd4381a5abe69460057ea4c9dd4cf730b88a7d8a72115e0735cade3e9d", func := "lampblack/lampblacklaw03.ZoneSums", spec := "zoneSums", unfollowed := true, recurses := true, apart := false }
def ZoneSumsSaid : Prop := zoneSumsRow.holds Try.pinned (OpenSpec.ofChange zoneSumsSpec)

/-- ITS FALSE NEIGHBOUR: 'it returns false'. Refute it at one input. -/
def zoneSumsWrong : ChangeSpec := { name := "zoneSums", fn := fun _ => fun
  | [d1, d2, d3] => { results := [.lit (.bool false)], args := [d1, d2, d3] }
  | _ => none }
def ZoneSumsWrongFalsely : Prop := zoneSumsRow.holds Try.pinned (OpenSpec.ofChange zoneSumsWrong)

/-- 'lampblacklaw03.ZoneCoated': WHATEVER THE INPUT: true; the input reads as it did. -/
def zoneCoatedSpec : ChangeSpec := { name := "zoneCoated", fn := fun _ => fun
  | [d1, d2, d3] => { results := [.lit (.bool true)], args := [d1, d2, d3] }
  | _ => none }
def zoneCoatedRow : OpenClaim := { program := "ytliamojogmlgjaa", sum := "03e2c6bd4381a5abe69460057ea4c9dd4cf730b88a7d8a72115e0735cade3e9d", func := "lampblack/lampblacklaw03.ZoneCoated", spec := "zoneCoated", unfollowed := true, recurses := true, apart := false }
def ZoneCoatedSaid : Prop := zoneCoatedRow.holds Try.pinned (OpenSpec.ofChange zoneCoatedSpec)

/-- ITS FALSE NEIGHBOUR: 'it returns false'. Refute it at one input. -/
def zoneCoatedWrong : ChangeSpec := { name := "zoneCoated", fn := fun _ => fun
  | [d1, d2, d3] => { results := [.lit (.bool false)], args := [d1, d2, d3] }
  | _ => none }
def ZoneCoatedWrongFalsely : Prop := zoneCoatedRow.holds Try.pinned (OpenSpec.ofChange zoneCoatedWrong)

/-- 'lampblacklaw03.ZoneTested': WHATEVER THE INPUT: true; the input reads as it did. -/
def zoneTestedSpec : ChangeSpec := { name := "zoneTested", fn := fun _ => fun
  | [d1, d2, d3, d4] => { results := [.lit (.bool true)], args := [d1, d2, d3, d4] }
  | _ => none }
def zoneTestedRow : OpenClaim := { program := "ytliamojogmlgjaa", sum := "03e2c6bd4381a5abe69460057ea4c9dd4cf730b88a7d8a72115e0735cade3e9d", func := "lampblack/lampblacklaw03.ZoneTested", spec := "zoneTested", unfollowed := true, recurses := true, apart := false }
def ZoneTestedSaid : Prop := zoneTestedRow.holds Try.pinned (OpenSpec.ofChange zoneTestedSpec)

/-- ITS FALSE NEIGHBOUR: 'it returns false'. Refute it at one input. -/
def zoneTestedWrong : ChangeSpec := { name := "zoneTested", fn := fun _ => fun
  | [d1, d2, d3, d4] => { results := [.lit (.bool false)], args := [d1, d2, d3, d4] }
  | _ => none }
def ZoneTestedWrongFalsely : Prop := zoneTestedRow.holds Try.pinned (OpenSpec.ofChange zoneTestedWrong)

/-- 'lampblacklaw03.ZoneKnown': WHATEVER THE INPUT: true; the input reads as it did. -/
def zoneKnownSpec : ChangeSpec := { name := "zoneKnown", fn := fun _ => fun
  | [] => { results := [.lit (.bool true)], args := [] }
  | _ => none }
def zoneKnownRow : OpenClaim := { program := "ytliamojogmlgjaa", sum := "03e2c6bd4381a5abe69460057ea4c9dd4cf730b88a7d8a72115e0735cade3e9d", func := "lampblack/lampblacklaw03.ZoneKnown", spec := "zoneKnown", unfollowed := true, recurses := true, apart := false }
def ZoneKnownSaid : Prop := zoneKnownRow.holds Try.pinned (OpenSpec.ofChange zoneKnownSpec)

/-- ITS FALSE NEIGHBOUR: 'it returns false'. Refute it at one input. -/
def zoneKnownWrong : ChangeSpec := { name := "zoneKnown", fn := fun _ => fun
  | [] => { results := [.lit (.bool false)], args := [] }
  | _ => none }
def ZoneKnownWrongFalsely : Prop := zoneKnownRow.holds Try.pinned (OpenSpec.ofChange zoneKnownWrong)

/- THE SECOND FORM. 'bulk': how many values and letters a reading holds, each counted each time it is reached (what is shared counts as often as it is met; a slice's spare places count too). A statement '..UptoSaid' is the law's where the arguments, and the package variables that the reading takes, are together of bulk at most 1048576: NARROWER than '..Said'. Prove '..Said' where nothing that the law and all that it calls make is longer than what came in: it says more and counts as full. Else prove '..UptoSaid'. A law counts once. -/
mutual
def uptoBulk {H : Type} : DataW H → Nat
  | .lit (.string bytes) => bytes.length + 1
  | .lit _ => 1
  | .nil => 1
  | .ptr d => uptoBulk d + 1
  | .slice elems spare => uptoBulkAll elems + uptoBulkAll spare + 1
  | .agg parts => uptoBulkAll parts + 1
  | .iface _ d => uptoBulk d + 1
  | .map entries => uptoBulkEntries entries + 1
  | .held _ => 1
def uptoBulkAll {H : Type} : List (DataW H) → Nat
  | [] => 0
  | d :: r => uptoBulk d + uptoBulkAll r
def uptoBulkEntries {H : Type} : List (Lit × DataW H) → Nat
  | [] => 0
  | x :: r => uptoBulkEntry x + uptoBulkEntries r
def uptoBulkEntry {H : Type} : Lit × DataW H → Nat
  | (.string bytes, d) => bytes.length + uptoBulk d + 1
  | (_, d) => uptoBulk d + 1
 end
def uptoSmall : (H : Type) → List (DataW H) → Bool := fun _ ds => decide (uptoBulkAll ds ≤ 1048576)
def OpenSpec.upto (s : _root_.Go.ChangeSpec) : _root_.Go.OpenSpec := { _root_.Go.OpenSpec.ofChange s with cond := some uptoSmall }

/-- 'lampblacklaw03.ZoneLamps', WHERE WHAT IT READS IS OF BULK AT MOST 1048576: true; the input reads as it did. -/
def zoneLampsUptoRow : OpenClaim := { program := "ytliamojogmlgjaa", sum := "03e2c6bd4381a5abe69460057ea4c9dd4cf730b88a7d8a72115e0735cade3e9d", func := "lampblack/lampblacklaw03.ZoneLamps", spec := "zoneLamps", unfollowed := true, recurses := true, apart := false, narrowed := true }
def ZoneLampsUptoSaid : Prop := zoneLampsUptoRow.holds Try.pinned (OpenSpec.upto zoneLampsSpec)

/-- 'lampblacklaw03.ZoneDoubts', WHERE WHAT IT READS IS OF BULK AT MOST 1048576: true; the input reads as it did. -/
def zoneDoubtsUptoRow : OpenClaim := { program := "ytliamojogmlgjaa", sum := "03e2c6bd4381a5abe69460057ea4c9dd4cf730b88a7d8a72115e0735cade3e9d", func := "lampblack/lampblacklaw03.ZoneDoubts", spec := "zoneDoubts", unfollowed := true, recurses := true, apart := false, narrowed := true }
def ZoneDoubtsUptoSaid : Prop := zoneDoubtsUptoRow.holds Try.pinned (OpenSpec.upto zoneDoubtsSpec)

/-- 'lampblacklaw03.ZoneSpans', WHERE WHAT IT READS IS OF BULK AT MOST 1048576: true; the input reads as it did. -/
def zoneSpansUptoRow : OpenClaim := { program := "ytliamojogmlgjaa", sum := "03e2c6bd4381a5abe69460057ea4c9dd4cf730b88a7d8a72115e0735cade3e9d", func := "lampblack/lampblacklaw03.ZoneSpans", spec := "zoneSpans", unfollowed := true, recurses := true, apart := false, narrowed := true }
def ZoneSpansUptoSaid : Prop := zoneSpansUptoRow.holds Try.pinned (OpenSpec.upto zoneSpansSpec)

/-- 'lampblacklaw03.ZoneNexts', WHERE WHAT IT READS IS OF BULK AT MOST 1048576: true; the input reads as it did. -/
def zoneNextsUptoRow : OpenClaim := { program := "ytliamojogmlgjaa", sum := "03e2c6bd4381a5abe69460057ea4c9dd4cf730b88a7d8a72115e0735cade3e9d", func := "lampblack/lampblacklaw03.ZoneNexts", spec := "zoneNexts", unfollowed := true, recurses := true, apart := false, narrowed := true }
def ZoneNextsUptoSaid : Prop := zoneNextsUptoRow.holds Try.pinned (OpenSpec.upto zoneNextsSpec)

/-- 'lampblacklaw03.ZoneHeld', WHERE WHAT IT READS IS OF BULK AT MOST 1048576: true; the input reads as it did. -/
def zoneHeldUptoRow : OpenClaim := { program := "ytliamojogmlgjaa", sum := "03e2c6bd4381a5abe69460057ea4c9dd4cf730b88a7d8a72115e0735cade3e9d", func := "lampblack/lampblacklaw03.ZoneHeld", spec := "zoneHeld", unfollowed := true, recurses := true, apart := false, narrowed := true }
def ZoneHeldUptoSaid : Prop := zoneHeldUptoRow.holds Try.pinned (OpenSpec.upto zoneHeldSpec)

/-- 'lampblacklaw03.ZoneEither', WHERE WHAT IT READS IS OF BULK AT MOST 1048576: true; the input reads as it did. -/
def zoneEitherUptoRow : OpenClaim := { program := "ytliamojogmlgjaa", sum := "03e2c6bd4381a5abe69460057ea4c9dd4cf730b88a7d8a72115e0735cade3e9d", func := "lampblack/lampblacklaw03.ZoneEither", spec := "zoneEither", unfollowed := true, recurses := true, apart := false, narrowed := true }
def ZoneEitherUptoSaid : Prop := zoneEitherUptoRow.holds Try.pinned (OpenSpec.upto zoneEitherSpec)

/-- 'lampblacklaw03.ZoneNarrower', WHERE WHAT IT READS IS OF BULK AT MOST 1048576: true; the input reads as it did. -/
def zoneNarrowerUptoRow : OpenClaim := { program := "ytliamojogmlgjaa", sum := "03e2c6bd4381a5abe69460057ea4c9dd4cf730b88a7d8a72115e0735cade3e9d", func := "lampblack/lampblacklaw03.ZoneNarrower", spec := "zoneNarrower", unfollowed := true, recurses := true, apart := false, narrowed := true }
def ZoneNarrowerUptoSaid : Prop := zoneNarrowerUptoRow.holds Try.pinned (OpenSpec.upto zoneNarrowerSpec)

/-- 'lampblacklaw03.ZoneTurned', WHERE WHAT IT READS IS OF BULK AT MOST 1048576: true; the input reads as it did. -/
def zoneTurnedUptoRow : OpenClaim := { program := "ytliamojogmlgjaa", sum := "03e2c6bd4381a5abe69460057ea4c9dd4cf730b88a7d8a72115e0735cade3e9d", func := "lampblack/lampblacklaw03.ZoneTurned", spec := "zoneTurned", unfollowed := true, recurses := true, apart := false, narrowed := true }
def ZoneTurnedUptoSaid : Prop := zoneTurnedUptoRow.holds Try.pinned (OpenSpec.upto zoneTurnedSpec)

/-- 'lampblacklaw03.ZoneSums', WHERE WHAT IT READS IS OF BULK AT MOST 1048576: true; the input reads as it did. -/
def zoneSumsUptoRow : OpenClaim := { program := "ytliamojogmlgjaa", sum := "03e2c6bd4381a5abe69460057ea4c9dd4cf730b88a7d8a72115e0735cade3e9d", func := "lampblack/lampblacklaw03.ZoneSums", spec := "zoneSums", unfollowed := true, recurses := true, apart := false, narrowed := true }
def ZoneSumsUptoSaid : Prop := zoneSumsUptoRow.holds Try.pinned (OpenSpec.upto zoneSumsSpec)

/-- 'lampblacklaw03.ZoneCoated', WHERE WHAT IT READS IS OF BULK AT MOST 1048576: true; the input reads as it did. -/
def zoneCoatedUptoRow : OpenClaim := { program := "ytliamojogmlgjaa", sum := "03e2c6bd4381a5abe69460057ea4c9dd4cf730b88a7d8a72115e0735cade3e9d", func := "lampblack/lampblacklaw03.ZoneCoated", spec := "zoneCoated", unfollowed := true, recurses := true, apart := false, narrowed := true }
def ZoneCoatedUptoSaid : Prop := zoneCoatedUptoRow.holds Try.pinned (OpenSpec.upto zoneCoatedSpec)

/-- 'lampblacklaw03.ZoneTested', WHERE WHAT IT READS IS OF BULK AT MOST 1048576: true; the input reads as it did. -/
def zoneTestedUptoRow : OpenClaim := { program := "ytliamojogmlgjaa", sum := "03e2c6bd4381a5abe69460057ea4c9dd4cf730b88a7d8a72115e0735cade3e9d", func := "lampblack/lampblacklaw03.ZoneTested", spec := "zoneTested", unfollowed := true, recurses := true, apart := false, narrowed := true }
def ZoneTestedUptoSaid : Prop := zoneTestedUptoRow.holds Try.pinned (OpenSpec.upto zoneTestedSpec)

/-- 'lampblacklaw03.ZoneKnown', WHERE WHAT IT READS IS OF BULK AT MOST 1048576: true; the input reads as it did. -/
def zoneKnownUptoRow : OpenClaim := { program := "ytliamojogmlgjaa", sum := "03e2c6bd4381a5abe69460057ea4c9dd4cf730b88a7d8a72115e0735cade3e9d", func := "lampblack/lampblacklaw03.ZoneKnown", spec := "zoneKnown", unfollowed := true, recurses := true, apart := false, narrowed := true }
def ZoneKnownUptoSaid : Prop := zoneKnownUptoRow.holds Try.pinned (OpenSpec.upto zoneKnownSpec)

end Rows
end Go.Proofs.Ytliamojogmlgjaa
