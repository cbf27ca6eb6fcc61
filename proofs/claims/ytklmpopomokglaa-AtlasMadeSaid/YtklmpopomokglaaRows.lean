/-
  No cell of these rows narrows 'for every input' (looked for: loops, veiled, ifaces, maps, wideKeys, modest, calm, conditions, laid).
  DERIVED. THE GIVEN ROWS OF THIS SEAT. 11 by the template 'for every input the law returns true; each argument reads behind the call as it read before'; 0 by the template 'total and deterministic' (their statements: YtklmpopomokglaaTotals.lean).
  GIVEN WITH THE SEED: the statements are not yours to turn. If you find one false, say at which input.
  Laid BY PROGRAM, IN A SANDBOX (cutbox-rows.mjs): the forced cells as the released guide's own fill.sh prints them over the translation 4e9ee64a6a52b0db… (all of the seat's roots in one cut). By AI agents, Wed Nov 11 2026. No macro, syntax, notation, axiom, sorry.
-/
import Derived.Test.YtklmpopomokglaaChecked
import GoSem.Claim
import GoSem.ClaimJoined
import GoSem.ClaimMapViews
import Derived.JoinedTies
import Derived.KernelRfl
namespace Go.Proofs.Ytklmpopomokglaa
/- THE CELL 'sum', in the pinned program and in every row, IS THE sha256 OF THE DUMP (.gsa) THAT YtklmpopomokglaaProg.lean LOADS. Nothing in Lean hashes anything: it is a label: what it is worth is what the hold of that sum in a sandbox is worth. -/
noncomputable def Try.pinned : Pinned := { name := "ytklmpopomokglaa", sum := "4e9ee64a6a52b0db7a0973224e4eca07d190fec557b3a087ca26786a09341ebb", checked := Try.checked }
namespace Rows
def none {H : Type} : Left H := { results := [], args := [] }

/-- 'lampblacklaw05.AtlasPlans': WHATEVER THE INPUT: true; the input reads as it did. -/
def atlasPlansSpec : ChangeSpec := { name := "atlasPlans", fn := fun _ => fun
  | [d1, d2] => { results := [.lit (.bool true)], args := [d1, d2] }
  | _ => none }
def atlasPlansRow : OpenClaim := { program := "ytklmpopomokglaa", sum := "4e9ee64a6a52b0db7a0973224e4eca07d190fec557b3a087ca26786a09341ebb", func := "lampblack/lampblacklaw05.AtlasPlans", spec := "atlasPlans", unfollowed := true, recurses := true, plainKeys := false, apart := false }
def AtlasPlansSaid : Prop := atlasPlansRow.holds Try.pinned (OpenSpec.ofChange atlasPlansSpec)

/-- ITS FALSE NEIGHBOUR: 'it returns false'. Refute it at one input. -/
def atlasPlansWrong : ChangeSpec := { name := "atlasPlans", fn := fun _ => fun
  | [d1, d2] => { results := [.lit (.bool false)], args := [d1, d2] }
  | _ => none }
def AtlasPlansWrongFalsely : Prop := atlasPlansRow.holds Try.pinned (OpenSpec.ofChange atlasPlansWrong)

/-- 'lampblacklaw05.AtlasCases': WHATEVER THE INPUT: true; the input reads as it did. -/
def atlasCasesSpec : ChangeSpec := { name := "atlasCases", fn := fun _ => fun
  | [d1, d2] => { results := [.lit (.bool true)], args := [d1, d2] }
  | _ => none }
def atlasCasesRow : OpenClaim := { program := "ytklmpopomokglaa", sum := "4e9ee64a6a52b0db7a0973224e4eca07d190fec557b3a087ca26786a09341ebb", func := "lampblack/lampblacklaw05.AtlasCases", spec := "atlasCases", unfollowed := true, recurses := true, plainKeys := false, apart := false }
def AtlasCasesSaid : Prop := atlasCasesRow.holds Try.pinned (OpenSpec.ofChange atlasCasesSpec)

/-- ITS FALSE NEIGHBOUR: 'it returns false'. Refute it at one input. -/
def atlasCasesWrong : ChangeSpec := { name := "atlasCases", fn := fun _ => fun
  | [d1, d2] => { results := [.lit (.bool false)], args := [d1, d2] }
  | _ => none }
def AtlasCasesWrongFalsely : Prop := atlasCasesRow.holds Try.pinned (OpenSpec.ofChange atlasCasesWrong)

/-- 'lampblacklaw05.AtlasClashes': WHATEVER THE INPUT: true; the input reads as it did. -/
def atlasClashesSpec : ChangeSpec := { name := "atlasClashes", fn := fun _ => fun
  | [d1, d2, d3] => { results := [.lit (.bool true)], args := [d1, d2, d3] }
  | _ => none }
def atlasClashesRow : OpenClaim := { program := "ytklmpopomokglaa", sum := "4e9ee64a6a52b0db7a0973224e4eca07d190fec557b3a087ca26786a09341ebb", func := "lampblack/lampblacklaw05.AtlasClashes", spec := "atlasClashes", unfollowed := true, recurses := true, plainKeys := false, apart := false }
def AtlasClashesSaid : Prop := atlasClashesRow.holds Try.pinned (OpenSpec.ofChange atlasClashesSpec)

/-- ITS FALSE NEIGHBOUR: 'it returns false'. Refute it at one input. -/
def atlasClashesWrong : ChangeSpec := { name := "atlasClashes", fn := fun _ => fun
  | [d1, d2, d3] => { results := [.lit (.bool false)], args := [d1, d2, d3] }
  | _ => none }
def AtlasClashesWrongFalsely : Prop := atlasClashesRow.holds Try.pinned (OpenSpec.ofChange atlasClashesWrong)

/-- 'lampblacklaw05.AtlasMosts': WHATEVER THE INPUT: true; the input reads as it did. -/
def atlasMostsSpec : ChangeSpec := { name := "atlasMosts", fn := fun _ => fun
  | [d1, d2] => { results := [.lit (.bool true)], args := [d1, d2] }
  | _ => none }
def atlasMostsRow : OpenClaim := { program := "ytklmpopomokglaa", sum := "4e9ee64a6a52b0db7a0973224e4eca07d190fec557b3a087ca26786a09341ebb", func := "lampblack/lampblacklaw05.AtlasMosts", spec := "atlasMosts", unfollowed := true, recurses := true, plainKeys := false, apart := false }
def AtlasMostsSaid : Prop := atlasMostsRow.holds Try.pinned (OpenSpec.ofChange atlasMostsSpec)

/-- ITS FALSE NEIGHBOUR: 'it returns false'. Refute it at one input. -/
def atlasMostsWrong : ChangeSpec := { name := "atlasMosts", fn := fun _ => fun
  | [d1, d2] => { results := [.lit (.bool false)], args := [d1, d2] }
  | _ => none }
def AtlasMostsWrongFalsely : Prop := atlasMostsRow.holds Try.pinned (OpenSpec.ofChange atlasMostsWrong)

/-- 'lampblacklaw05.AtlasTold': WHATEVER THE INPUT: true; the input reads as it did. -/
def atlasToldSpec : ChangeSpec := { name := "atlasTold", fn := fun _ => fun
  | [d1, d2, d3] => { results := [.lit (.bool true)], args := [d1, d2, d3] }
  | _ => none }
def atlasToldRow : OpenClaim := { program := "ytklmpopomokglaa", sum := "4e9ee64a6a52b0db7a0973224e4eca07d190fec557b3a087ca26786a09341ebb", func := "lampblack/lampblacklaw05.AtlasTold", spec := "atlasTold", unfollowed := true, recurses := true, plainKeys := false, apart := false }
def AtlasToldSaid : Prop := atlasToldRow.holds Try.pinned (OpenSpec.ofChange atlasToldSpec)

/-- ITS FALSE NEIGHBOUR: 'it returns false'. Refute it at one input. -/
def atlasToldWrong : ChangeSpec := { name := "atlasTold", fn := fun _ => fun
  | [d1, d2, d3] => { results := [.lit (.bool false)], args := [d1, d2, d3] }
  | _ => none }
def AtlasToldWrongFalsely : Prop := atlasToldRow.holds Try.pinned (OpenSpec.ofChange atlasToldWrong)

/-- 'lampblacklaw05.AtlasMade': WHATEVER THE INPUT: true; the input reads as it did. -/
def atlasMadeSpec : ChangeSpec := { name := "atlasMade", fn := fun _ => fun
  | [d1, d2] => { results := [.lit (.bool true)], args := [d1, d2] }
  | _ => none }
def atlasMadeRow : OpenClaim := { program := "ytklmpopomokglaa", sum := "4e9ee64a6a52b0db7a0973224e4eca07d190fec557b3a087ca26786a09341ebb", func := "lampblack/lampblacklaw05.AtlasMade", spec := "atlasMade", unfollowed := true, recurses := true, plainKeys := false, apart := false }
def AtlasMadeSaid : Prop := atlasMadeRow.holds Try.pinned (OpenSpec.ofChange atlasMadeSpec)

/-- ITS FALSE NEIGHBOUR: 'it returns false'. Refute it at one input. -/
def atlasMadeWrong : ChangeSpec := { name := "atlasMade", fn := fun _ => fun
  | [d1, d2] => { results := [.lit (.bool false)], args := [d1, d2] }
  | _ => none }
def AtlasMadeWrongFalsely : Prop := atlasMadeRow.holds Try.pinned (OpenSpec.ofChange atlasMadeWrong)

/-- 'lampblacklaw05.AtlasBound': WHATEVER THE INPUT: true; the input reads as it did. -/
def atlasBoundSpec : ChangeSpec := { name := "atlasBound", fn := fun _ => fun
  | [d] => { results := [.lit (.bool true)], args := [d] }
  | _ => none }
def atlasBoundRow : OpenClaim := { program := "ytklmpopomokglaa", sum := "4e9ee64a6a52b0db7a0973224e4eca07d190fec557b3a087ca26786a09341ebb", func := "lampblack/lampblacklaw05.AtlasBound", spec := "atlasBound", unfollowed := true, recurses := true, plainKeys := false, apart := false }
def AtlasBoundSaid : Prop := atlasBoundRow.holds Try.pinned (OpenSpec.ofChange atlasBoundSpec)

/-- ITS FALSE NEIGHBOUR: 'it returns false'. Refute it at one input. -/
def atlasBoundWrong : ChangeSpec := { name := "atlasBound", fn := fun _ => fun
  | [d] => { results := [.lit (.bool false)], args := [d] }
  | _ => none }
def AtlasBoundWrongFalsely : Prop := atlasBoundRow.holds Try.pinned (OpenSpec.ofChange atlasBoundWrong)

/-- 'lampblacklaw05.AtlasAll': WHATEVER THE INPUT: true; the input reads as it did. -/
def atlasAllSpec : ChangeSpec := { name := "atlasAll", fn := fun _ => fun
  | [d1, d2] => { results := [.lit (.bool true)], args := [d1, d2] }
  | _ => none }
def atlasAllRow : OpenClaim := { program := "ytklmpopomokglaa", sum := "4e9ee64a6a52b0db7a0973224e4eca07d190fec557b3a087ca26786a09341ebb", func := "lampblack/lampblacklaw05.AtlasAll", spec := "atlasAll", unfollowed := true, recurses := true, plainKeys := false, apart := false }
def AtlasAllSaid : Prop := atlasAllRow.holds Try.pinned (OpenSpec.ofChange atlasAllSpec)

/-- ITS FALSE NEIGHBOUR: 'it returns false'. Refute it at one input. -/
def atlasAllWrong : ChangeSpec := { name := "atlasAll", fn := fun _ => fun
  | [d1, d2] => { results := [.lit (.bool false)], args := [d1, d2] }
  | _ => none }
def AtlasAllWrongFalsely : Prop := atlasAllRow.holds Try.pinned (OpenSpec.ofChange atlasAllWrong)

/-- 'lampblacklaw05.AtlasTurned': WHATEVER THE INPUT: true; the input reads as it did. -/
def atlasTurnedSpec : ChangeSpec := { name := "atlasTurned", fn := fun _ => fun
  | [d1, d2, d3, d4] => { results := [.lit (.bool true)], args := [d1, d2, d3, d4] }
  | _ => none }
def atlasTurnedRow : OpenClaim := { program := "ytklmpopomokglaa", sum := "4e9ee64a6a52b0db7a0973224e4eca07d190fec557b3a087ca26786a09341ebb", func := "lampblack/lampblacklaw05.AtlasTurned", spec := "atlasTurned", unfollowed := true, recurses := true, plainKeys := false, apart := false }
def AtlasTurnedSaid : Prop := atlasTurnedRow.holds Try.pinned (OpenSpec.ofChange atlasTurnedSpec)

/-- ITS FALSE NEIGHBOUR: 'it returns false'. Refute it at one input. -/
def atlasTurnedWrong : ChangeSpec := { name := "atlasTurned", fn := fun _ => fun
  | [d1, d2, d3, d4] => { results := [.lit (.bool false)], args := [d1, d2, d3, d4] }
  | _ => none }
def AtlasTurnedWrongFalsely : Prop := atlasTurnedRow.holds Try.pinned (OpenSpec.ofChange atlasTurnedWrong)

/-- 'lampblacklaw05.AtlasMore': WHATEVER THE INPUT: true; the input reads as it did. -/
def atlasMoreSpec : ChangeSpec := { name := "atlasMore", fn := fun _ => fun
  | [d1, d2, d3] => { results := [.lit (.bool true)], args := [d1, d2, d3] }
  | _ => none }
def atlasMoreRow : OpenClaim := { program := "ytklmpopomokglaa", sum := "4e9ee64a6a52b0db7a0973224e4eca07d190fec557b3a087ca26786a09341ebb", func := "lampblack/lampblacklaw05.AtlasMore", spec := "atlasMore", unfollowed := true, recurses := true, plainKeys := false, apart := false }
def AtlasMoreSaid : Prop := atlasMoreRow.holds Try.pinned (OpenSpec.ofChange atlasMoreSpec)

/-- ITS FALSE NEIGHBOUR: 'it returns false'. Refute it at one input. -/
def atlasMoreWrong : ChangeSpec := { name := "atlasMore", fn := fun _ => fun
  | [d1, d2, d3] => { results := [.lit (.bool false)], args := [d1, d2, d3] }
  | _ => none }
def AtlasMoreWrongFalsely : Prop := atlasMoreRow.holds Try.pinned (OpenSpec.ofChange atlasMoreWrong)

/-- 'lampblacklaw05.AtlasKnown': WHATEVER THE INPUT: true; the input reads as it did. -/
def atlasKnownSpec : ChangeSpec := { name := "atlasKnown", fn := fun _ => fun
  | [] => { results := [.lit (.bool true)], args := [] }
  | _ => none }
def atlasKnownRow : OpenClaim := { program := "ytklmpopomokglaa", sum := "4e9ee64a6a52b0db7a0973224e4eca07d190fec557b3a087ca26786a09341ebb", func := "lampblack/lampblacklaw05.AtlasKnown", spec := "atlasKnown", unfollowed := true, recurses := true, plainKeys := false, apart := false }
def AtlasKnownSaid : Prop := atlasKnownRow.holds Try.pinned (OpenSpec.ofChange atlasKnownSpec)

/-- ITS FALSE NEIGHBOUR: 'it returns false'. Refute it at one input. -/
def atlasKnownWrong : ChangeSpec := { name := "atlasKnown", fn := fun _ => fun
  | [] => { results := [.lit (.bool false)], args := [] }
  | _ => none }
def AtlasKnownWrongFalsely : Prop := atlasKnownRow.holds Try.pinned (OpenSpec.ofChange atlasKnownWrong)

/- THE SECOND FORM. 'bulk': how many values and letters a reading holds, each counted each time it is reached (what is shared counts as often as it is met; a slice's spare places count too). A statement '..UptoSaid' is the law's where the arguments, and the package variables that the reading takes, are together of bulk at most 1048576: NARROWER than '..Said'. Prove '..Said' where nothing that the law and all that it calls make is longer than what came in: it says more and counts as full. Else prove '..UptoSaid'. A law counts once. -/
mutual
def uptoBulk {H : Type} : DataW H → Nat
  | .lit (.string bytes) => bytes.length + 1
  | .lit _ => 1
  | .nil => 1
  | .ptr d => uptoBulk d + 1
  | .slice elems spare => uptoBulkAll elems + uptoBulkAll spare + 1
  | .agg parts => uptoBulkAll parts + 1
  | .iface _ d => uptoBulk d + 1
  | .map entries => uptoBulkEntries entries + 1
  | .held _ => 1
def uptoBulkAll {H : Type} : List (DataW H) → Nat
  | [] => 0
  | d :: r => uptoBulk d + uptoBulkAll r
def uptoBulkEntries {H : Type} : List (Lit × DataW H) → Nat
  | [] => 0
  | x :: r => uptoBulkEntry x + uptoBulkEntries r
def uptoBulkEntry {H : Type} : Lit × DataW H → Nat
  | (.string bytes, d) => bytes.length + uptoBulk d + 1
  | (_, d) => uptoBulk d + 1
 end
def uptoSmall : (H : Type) → List (DataW H) → Bool := fun _ ds => decide (uptoBulkAll ds ≤ 1048576)
def OpenSpec.upto (s : _root_.Go.ChangeSpec) : _root_.Go.OpenSpec := { _root_.Go.OpenSpec.ofChange s with cond := some uptoSmall }

/-- 'lampblacklaw05.AtlasPlans', WHERE WHAT IT READS IS OF BULK AT MOST 1048576: true; the input reads as it did. -/
def atlasPlansUptoRow : OpenClaim := { program := "ytklmpopomokglaa", sum := "4e9ee64a6a52b0db7a0973224e4eca07d190fec557b3a087ca26786a09341ebb", func := "lampblack/lampblacklaw05.AtlasPlans", spec := "atlasPlans", unfollowed := true, recurses := true, plainKeys := false, apart := false, narrowed := true }
def AtlasPlansUptoSaid : Prop := atlasPlansUptoRow.holds Try.pinned (OpenSpec.upto atlasPlansSpec)

/-- 'lampblacklaw05.AtlasCases', WHERE WHAT IT READS IS OF BULK AT MOST 1048576: true; the input reads as it did. -/
def atlasCasesUptoRow : OpenClaim := { program := "ytklmpopomokglaa", sum := "4e9ee64a6a52b0db7a0973224e4eca07d190fec557b3a087ca26786a09341ebb", func := "lampblack/lampblacklaw05.AtlasCases", spec := "atlasCases", unfollowed := true, recurses := true, plainKeys := false, apart := false, narrowed := true }
def AtlasCasesUptoSaid : Prop := atlasCasesUptoRow.holds Try.pinned (OpenSpec.upto atlasCasesSpec)

/-- 'lampblacklaw05.AtlasClashes', WHERE WHAT IT READS IS OF BULK AT MOST 1048576: true; the input reads as it did. -/
def atlasClashesUptoRow : OpenClaim := { program := "ytklmpopomokglaa", sum := "4e9ee64a6a52b0db7a0973224e4eca07d190fec557b3a087ca26786a09341ebb", func := "lampblack/lampblacklaw05.AtlasClashes", spec := "atlasClashes", unfollowed := true, recurses := true, plainKeys := false, apart := false, narrowed := true }
def AtlasClashesUptoSaid : Prop := atlasClashesUptoRow.holds Try.pinned (OpenSpec.upto atlasClashesSpec)

/-- 'lampblacklaw05.AtlasMosts', WHERE WHAT IT READS IS OF BULK AT MOST 1048576: true; the input reads as it did. -/
def atlasMostsUptoRow : OpenClaim := { program := "ytklmpopomokglaa", sum := "4e9ee64a6a52b0db7a0973224e4eca07d190fec557b3a087ca26786a09341ebb", func := "lampblack/lampblacklaw05.AtlasMosts", spec := "atlasMosts", unfollowed := true, recurses := true, plainKeys := false, apart := false, narrowed := true }
def AtlasMostsUptoSaid : Prop := atlasMostsUptoRow.holds Try.pinned (OpenSpec.upto atlasMostsSpec)

/-- 'lampblacklaw05.AtlasTold', WHERE WHAT IT READS IS OF BULK AT MOST 1048576: true; the input reads as it did. -/
def atlasToldUptoRow : OpenClaim := { program := "ytklmpopomokglaa", sum := "4e9ee64a6a52b0db7a0973224e4eca07d190fec557b3a087ca26786a09341ebb", func := "lampblack/lampblacklaw05.AtlasTold", spec := "atlasTold", unfollowed := true, recurses := true, plainKeys := false, apart := false, narrowed := true }
def AtlasToldUptoSaid : Prop := atlasToldUptoRow.holds Try.pinned (OpenSpec.upto atlasToldSpec)

/-- 'lampblacklaw05.AtlasMade', WHERE WHAT IT READS IS OF BULK AT MOST 1048576: true; the input reads as it did. -/
def atlasMadeUptoRow : OpenClaim := { program := "ytklmpopomokglaa", sum := "4e9ee64a6a52b0db7a0973224e4eca07d190fec557b3a087ca26786a09341ebb", func := "lampblack/lampblacklaw05.AtlasMade", spec := "atlasMade", unfollowed := true, recurses := true, plainKeys := false, apart := false, narrowed := true }
def AtlasMadeUptoSaid : Prop := atlasMadeUptoRow.holds Try.pinned (OpenSpec.upto atlasMadeSpec)

/-- 'lampblacklaw05.AtlasBound', WHERE WHAT IT READS IS OF BULK AT MOST 1048576: true; the input reads as it did. -/
def atlasBoundUptoRow : OpenClaim := { program := "ytklmpopomokglaa", sum := "4e9ee64a6a52b0db7a0973224e4eca07d190fec557b3a087ca26786a09341ebb", func := "lampblack/lampblacklaw05.AtlasBound", spec := "atlasBound", unfollowed := true, recurses := true, plainKeys := false, apart := false, narrowed := true }
def AtlasBoundUptoSaid : Prop := atlasBoundUptoRow.holds Try.pinned (OpenSpec.upto atlasBoundSpec)

/-- 'lampblacklaw05.AtlasAll', WHERE WHAT IT READS IS OF BULK AT MOST 1048576: true; the input reads as it did. -/
def atlasAllUptoRow : OpenClaim := { program := "ytklmpopomokglaa", sum := "4e9ee64a6a52b0db7a0973224e4eca07d190fec557b3a087ca26786a09341ebb", func := "lampblack/lampblacklaw05.AtlasAll", spec := "atlasAll", unfollowed := true, recurses := true, plainKeys := false, apart := false, narrowed := true }
def AtlasAllUptoSaid : Prop := atlasAllUptoRow.holds Try.pinned (OpenSpec.upto atlasAllSpec)

/-- 'lampblacklaw05.AtlasTurned', WHERE WHAT IT READS IS OF BULK AT MOST 1048576: true; the input reads as it did. -/
def atlasTurnedUptoRow : OpenClaim := { program := "ytklmpopomokglaa", sum := "4e9ee64a6a52b0db7a0973224e4eca07d190fec557b3a087ca26786a09341ebb", func := "lampblack/lampblacklaw05.AtlasTurned", spec := "atlasTurned", unfollowed := true, recurses := true, plainKeys := false, apart := false, narrowed := true }
def AtlasTurnedUptoSaid : Prop := atlasTurnedUptoRow.holds Try.pinned (OpenSpec.upto atlasTurnedSpec)

/-- 'lampblacklaw05.AtlasMore', WHERE WHAT IT READS IS OF BULK AT MOST 1048576: true; the input reads as it did. -/
def atlasMoreUptoRow : OpenClaim := { program := "ytklmpopomokglaa", sum := "4e9ee64a6a52b0db7a0973224e4eca07d190fec557b3a087ca26786a09341ebb", func := "lampblack/lampblacklaw05.AtlasMore", spec := "atlasMore", unfollowed := true, recurses := true, plainKeys := false, apart := false, narrowed := true }
def AtlasMoreUptoSaid : Prop := atlasMoreUptoRow.holds Try.pinned (OpenSpec.upto atlasMoreSpec)

/-- 'lampblacklaw05.AtlasKnown', WHERE WHAT IT READS IS OF BULK AT MOST 1048576: true; the input reads as it did. -/
def atlasKnownUptoRow : OpenClaim := { program := "ytklmpopomokglaa", sum := "4e9ee64a6a52b0db7a0973224e4eca07d190fec557b3a087ca26786a09341ebb", func := "lampblack/lampblacklaw05.AtlasKnown", spec := "atlasKnown", unfollowed := true, recurses := true, plainKeys := false, apart := false, narrowed := true }
def AtlasKnownUptoSaid : Prop := atlasKnownUptoRow.holds Try.pinned (OpenSpec.upto atlasKnownSpec)

end Rows
end Go.Proofs.Ytklmpopomokglaa
