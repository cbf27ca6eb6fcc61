/-
  No cell of these rows narrows 'for every input' (looked for: loops, veiled, ifaces, maps, wideKeys, modest, calm, conditions, laid).
  DERIVED. THE GIVEN ROWS OF THIS SEAT. 10 by the template 'for every input the law returns true; each argument reads behind the call as it read before'; 0 by the template 'total and deterministic' (their statements: YtjkpfojkkfopmaaTotals.lean).
  GIVEN WITH THE SEED: the statements are not yours to turn. If you find one false, say at which input.
  Laid BY PROGRAM, IN A SANDBOX (cutbox-rows.mjs): the forced cells as the released guide's own fill.sh prints them over the translation 59cc00037b6da84b… (all of the seat's roots in one cut). By AI agents, Wed Nov 11 2026. No macro, syntax, notation, axiom, sorry.
-/
import Derived.Test.YtjkpfojkkfopmaaChecked
import GoSem.Claim
import GoSem.ClaimJoined
import GoSem.ClaimMapViews
import Derived.JoinedTies
import Derived.KernelRfl
namespace Go.Proofs.Ytjkpfojkkfopmaa
/- THE CELL 'sum', in the pinned program and in every row, IS THE sha256 OF THE DUMP (.gsa) THAT YtjkpfojkkfopmaaProg.lean LOADS. Nothing in Lean hashes anything: it is a label: what it is worth is what the hold of that sum in a sandbox is worth. -/
noncomputable def Try.pinned : Pinned := { name := "ytjkpfojkkfopmaa", sum := "59cc00037b6da84ba90573b0e182ae18a814e4b17c79c24871a69aba13db0ec7", checked := Try.checked }
namespace Rows
def none {H : Type} : Left H := { results := [], args := [] }

/-- 'lampblacklaw04.MetamerNumbers': WHATEVER THE INPUT: true; the input reads as it did. -/
def metamerNumbersSpec : ChangeSpec := { name := "metamerNumbers", fn := fun _ => fun
  | [d1, d2, d3] => { results := [.lit (.bool true)], args := [d1, d2, d3] }
  | _ => none }
def metamerNumbersRow : OpenClaim := { program := "ytjkpfojkkfopmaa", sum := "59cc00037b6da84ba90573b0e182ae18a814e4b17c79c24871a69aba13db0ec7", func := "lampblack/lampblacklaw04.MetamerNumbers", spec := "metamerNumbers", unfollowed := true, recurses := true, plainKeys := false, apart := false }
def MetamerNumbersSaid : Prop := metamerNumbersRow.holds Try.pinned (OpenSpec.ofChange metamerNumbersSpec)

/-- ITS FALSE NEIGHBOUR: 'it returns false'. Refute it at one input. -/
def metamerNumbersWrong : ChangeSpec := { name := "metamerNumbers", fn := fun _ => fun
  | [d1, d2, d3] => { results := [.lit (.bool false)], args := [d1, d2, d3] }
  | _ => none }
def MetamerNumbersWrongFalsely : Prop := metamerNumbersRow.holds Try.pinned (OpenSpec.ofChange metamerNumbersWrong)

/-- 'lampblacklaw04.MetamerMatches': WHATEVER THE INPUT: true; the input reads as it did. -/
def metamerMatchesSpec : ChangeSpec := { name := "metamerMatches", fn := fun _ => fun
  | [d1, d2, d3] => { results := [.lit (.bool true)], args := [d1, d2, d3] }
  | _ => none }
def metamerMatchesRow : OpenClaim := { program := "ytjkpfojkkfopmaa", sum := "59cc00037b6da84ba90573b0e182ae18a814e4b17c79c24871a69aba13db0ec7", func := "lampblack/lampblacklaw04.MetamerMatches", spec := "metamerMatches", unfollowed := true, recurses := true, plainKeys := false, apart := false }
def MetamerMatchesSaid : Prop := metamerMatchesRow.holds Try.pinned (OpenSpec.ofChange metamerMatchesSpec)

/-- ITS FALSE NEIGHBOUR: 'it returns false'. Refute it at one input. -/
def metamerMatchesWrong : ChangeSpec := { name := "metamerMatches", fn := fun _ => fun
  | [d1, d2, d3] => { results := [.lit (.bool false)], args := [d1, d2, d3] }
  | _ => none }
def MetamerMatchesWrongFalsely : Prop := metamerMatchesRow.holds Try.pinned (OpenSpec.ofChange metamerMatchesWrong)

/-- 'lampblacklaw04.MetamerFits': WHATEVER THE INPUT: true; the input reads as it did. -/
def metamerFitsSpec : ChangeSpec := { name := "metamerFits", fn := fun _ => fun
  | [d1, d2, d3] => { results := [.lit (.bool true)], args := [d1, d2, d3] }
  | _ => none }
def metamerFitsRow : OpenClaim := { program := "ytjkpfojkkfopmaa", sum := "59cc00037b6da84ba90573b0e182ae18a814e4b17c79c24871a69aba13db0ec7", func := "lampblack/lampblacklaw04.MetamerFits", spec := "metamerFits", unfollowed := true, recurses := true, plainKeys := false, apart := false }
def MetamerFitsSaid : Prop := metamerFitsRow.holds Try.pinned (OpenSpec.ofChange metamerFitsSpec)

/-- ITS FALSE NEIGHBOUR: 'it returns false'. Refute it at one input. -/
def metamerFitsWrong : ChangeSpec := { name := "metamerFits", fn := fun _ => fun
  | [d1, d2, d3] => { results := [.lit (.bool false)], args := [d1, d2, d3] }
  | _ => none }
def MetamerFitsWrongFalsely : Prop := metamerFitsRow.holds Try.pinned (OpenSpec.ofChange metamerFitsWrong)

/-- 'lampblacklaw04.MetamerClashes': WHATEVER THE INPUT: true; the input reads as it did. -/
def metamerClashesSpec : ChangeSpec := { name := "metamerClashes", fn := fun _ => fun
  | [d] => { results := [.lit (.bool true)], args := [d] }
  | _ => none }
def metamerClashesRow : OpenClaim := { program := "ytjkpfojkkfopmaa", sum := "59cc00037b6da84ba90573b0e182ae18a814e4b17c79c24871a69aba13db0ec7", func := "lampblack/lampblacklaw04.MetamerClashes", spec := "metamerClashes", unfollowed := true, recurses := true, plainKeys := false, apart := false }
def MetamerClashesSaid : Prop := metamerClashesRow.holds Try.pinned (OpenSpec.ofChange metamerClashesSpec)

/-- ITS FALSE NEIGHBOUR: 'it returns false'. Refute it at one input. -/
def metamerClashesWrong : ChangeSpec := { name := "metamerClashes", fn := fun _ => fun
  | [d] => { results := [.lit (.bool false)], args := [d] }
  | _ => none }
def MetamerClashesWrongFalsely : Prop := metamerClashesRow.holds Try.pinned (OpenSpec.ofChange metamerClashesWrong)

/-- 'lampblacklaw04.MetamerParted': WHATEVER THE INPUT: true; the input reads as it did. -/
def metamerPartedSpec : ChangeSpec := { name := "metamerParted", fn := fun _ => fun
  | [d1, d2, d3, d4] => { results := [.lit (.bool true)], args := [d1, d2, d3, d4] }
  | _ => none }
def metamerPartedRow : OpenClaim := { program := "ytjkpfojkkfopmaa", sum := "59cc00037b6da84ba90573b0e182ae18a814e4b17c79c24871a69aba13db0ec7", func := "lampblack/lampblacklaw04.MetamerParted", spec := "metamerParted", unfollowed := true, recurses := true, plainKeys := false, apart := false }
def MetamerPartedSaid : Prop := metamerPartedRow.holds Try.pinned (OpenSpec.ofChange metamerPartedSpec)

/-- ITS FALSE NEIGHBOUR: 'it returns false'. Refute it at one input. -/
def metamerPartedWrong : ChangeSpec := { name := "metamerParted", fn := fun _ => fun
  | [d1, d2, d3, d4] => { results := [.lit (.bool false)], args := [d1, d2, d3, d4] }
  | _ => none }
def MetamerPartedWrongFalsely : Prop := metamerPartedRow.holds Try.pinned (OpenSpec.ofChange metamerPartedWrong)

/-- 'lampblacklaw04.MetamerBoxed': WHATEVER THE INPUT: true; the input reads as it did. -/
def metamerBoxedSpec : ChangeSpec := { name := "metamerBoxed", fn := fun _ => fun
  | [d1, d2, d3, d4, d5] => { results := [.lit (.bool true)], args := [d1, d2, d3, d4, d5] }
  | _ => none }
def metamerBoxedRow : OpenClaim := { program := "ytjkpfojkkfopmaa", sum := "59cc00037b6da84ba90573b0e182ae18a814e4b17c79c24871a69aba13db0ec7", func := "lampblack/lampblacklaw04.MetamerBoxed", spec := "metamerBoxed", unfollowed := true, recurses := true, plainKeys := false, apart := false }
def MetamerBoxedSaid : Prop := metamerBoxedRow.holds Try.pinned (OpenSpec.ofChange metamerBoxedSpec)

/-- ITS FALSE NEIGHBOUR: 'it returns false'. Refute it at one input. -/
def metamerBoxedWrong : ChangeSpec := { name := "metamerBoxed", fn := fun _ => fun
  | [d1, d2, d3, d4, d5] => { results := [.lit (.bool false)], args := [d1, d2, d3, d4, d5] }
  | _ => none }
def MetamerBoxedWrongFalsely : Prop := metamerBoxedRow.holds Try.pinned (OpenSpec.ofChange metamerBoxedWrong)

/-- 'lampblacklaw04.MetamerNarrower': WHATEVER THE INPUT: true; the input reads as it did. -/
def metamerNarrowerSpec : ChangeSpec := { name := "metamerNarrower", fn := fun _ => fun
  | [d1, d2, d3, d4, d5] => { results := [.lit (.bool true)], args := [d1, d2, d3, d4, d5] }
  | _ => none }
def metamerNarrowerRow : OpenClaim := { program := "ytjkpfojkkfopmaa", sum := "59cc00037b6da84ba90573b0e182ae18a814e4b17c79c24871a69aba13db0ec7", func := "lampblack/lampblacklaw04.MetamerNarrower", spec := "metamerNarrower", unfollowed := true, recurses := true, plainKeys := false, apart := false }
def MetamerNarrowerSaid : Prop := metamerNarrowerRow.holds Try.pinned (OpenSpec.ofChange metamerNarrowerSpec)

/-- ITS FALSE NEIGHBOUR: 'it returns false'. Refute it at one input. -/
def metamerNarrowerWrong : ChangeSpec := { name := "metamerNarrower", fn := fun _ => fun
  | [d1, d2, d3, d4, d5] => { results := [.lit (.bool false)], args := [d1, d2, d3, d4, d5] }
  | _ => none }
def MetamerNarrowerWrongFalsely : Prop := metamerNarrowerRow.holds Try.pinned (OpenSpec.ofChange metamerNarrowerWrong)

/-- 'lampblacklaw04.MetamerAdded': WHATEVER THE INPUT: true; the input reads as it did. -/
def metamerAddedSpec : ChangeSpec := { name := "metamerAdded", fn := fun _ => fun
  | [d1, d2, d3, d4, d5, d6] => { results := [.lit (.bool true)], args := [d1, d2, d3, d4, d5, d6] }
  | _ => none }
def metamerAddedRow : OpenClaim := { program := "ytjkpfojkkfopmaa", sum := "59cc00037b6da84ba90573b0e182ae18a814e4b17c79c24871a69aba13db0ec7", func := "lampblack/lampblacklaw04.MetamerAdded", spec := "metamerAdded", unfollowed := true, recurses := true, plainKeys := false, apart := false }
def MetamerAddedSaid : Prop := metamerAddedRow.holds Try.pinned (OpenSpec.ofChange metamerAddedSpec)

/-- ITS FALSE NEIGHBOUR: 'it returns false'. Refute it at one input. -/
def metamerAddedWrong : ChangeSpec := { name := "metamerAdded", fn := fun _ => fun
  | [d1, d2, d3, d4, d5, d6] => { results := [.lit (.bool false)], args := [d1, d2, d3, d4, d5, d6] }
  | _ => none }
def MetamerAddedWrongFalsely : Prop := metamerAddedRow.holds Try.pinned (OpenSpec.ofChange metamerAddedWrong)

/-- 'lampblacklaw04.MetamerTold': WHATEVER THE INPUT: true; the input reads as it did. -/
def metamerToldSpec : ChangeSpec := { name := "metamerTold", fn := fun _ => fun
  | [d1, d2, d3, d4] => { results := [.lit (.bool true)], args := [d1, d2, d3, d4] }
  | _ => none }
def metamerToldRow : OpenClaim := { program := "ytjkpfojkkfopmaa", sum := "59cc00037b6da84ba90573b0e182ae18a814e4b17c79c24871a69aba13db0ec7", func := "lampblack/lampblacklaw04.MetamerTold", spec := "metamerTold", unfollowed := true, recurses := true, plainKeys := false, apart := false }
def MetamerToldSaid : Prop := metamerToldRow.holds Try.pinned (OpenSpec.ofChange metamerToldSpec)

/-- ITS FALSE NEIGHBOUR: 'it returns false'. Refute it at one input. -/
def metamerToldWrong : ChangeSpec := { name := "metamerTold", fn := fun _ => fun
  | [d1, d2, d3, d4] => { results := [.lit (.bool false)], args := [d1, d2, d3, d4] }
  | _ => none }
def MetamerToldWrongFalsely : Prop := metamerToldRow.holds Try.pinned (OpenSpec.ofChange metamerToldWrong)

/-- 'lampblacklaw04.MetamerKnown': WHATEVER THE INPUT: true; the input reads as it did. -/
def metamerKnownSpec : ChangeSpec := { name := "metamerKnown", fn := fun _ => fun
  | [] => { results := [.lit (.bool true)], args := [] }
  | _ => none }
def metamerKnownRow : OpenClaim := { program := "ytjkpfojkkfopmaa", sum := "59cc00037b6da84ba90573b0e182ae18a814e4b17c79c24871a69aba13db0ec7", func := "lampblack/lampblacklaw04.MetamerKnown", spec := "metamerKnown", unfollowed := true, recurses := true, plainKeys := false, apart := false }
def MetamerKnownSaid : Prop := metamerKnownRow.holds Try.pinned (OpenSpec.ofChange metamerKnownSpec)

/-- ITS FALSE NEIGHBOUR: 'it returns false'. Refute it at one input. -/
def metamerKnownWrong : ChangeSpec := { name := "metamerKnown", fn := fun _ => fun
  | [] => { results := [.lit (.bool false)], args := [] }
  | _ => none }
def MetamerKnownWrongFalsely : Prop := metamerKnownRow.holds Try.pinned (OpenSpec.ofChange metamerKnownWrong)

/- THE SECOND FORM. 'bulk': how many values and letters a reading holds, each counted each time it is reached (what is shared counts as often as it is met; a slice's spare places count too). A statement '..UptoSaid' is the law's where the arguments, and the package variables that the reading takes, are together of bulk at most 1048576: NARROWER than '..Said'. Prove '..Said' where nothing that the law and all that it calls make is longer than what came in: it says more and counts as full. Else prove '..UptoSaid'. A law counts once. -/
mutual
def uptoBulk {H : Type} : DataW H → Nat
  | .lit (.string bytes) => bytes.length + 1
  | .lit _ => 1
  | .nil => 1
  | .ptr d => uptoBulk d + 1
  | .slice elems spare => uptoBulkAll elems + uptoBulkAll spare + 1
  | .agg parts => uptoBulkAll parts + 1
  | .iface _ d => uptoBulk d + 1
  | .map entries => uptoBulkEntries entries + 1
  | .held _ => 1
def uptoBulkAll {H : Type} : List (DataW H) → Nat
  | [] => 0
  | d :: r => uptoBulk d + uptoBulkAll r
def uptoBulkEntries {H : Type} : List (Lit × DataW H) → Nat
  | [] => 0
  | x :: r => uptoBulkEntry x + uptoBulkEntries r
def uptoBulkEntry {H : Type} : Lit × DataW H → Nat
  | (.string bytes, d) => bytes.length + uptoBulk d + 1
  | (_, d) => uptoBulk d + 1
 end
def uptoSmall : (H : Type) → List (DataW H) → Bool := fun _ ds => decide (uptoBulkAll ds ≤ 1048576)
def OpenSpec.upto (s : _root_.Go.ChangeSpec) : _root_.Go.OpenSpec := { _root_.Go.OpenSpec.ofChange s with cond := some uptoSmall }

/-- 'lampblacklaw04.MetamerNumbers', WHERE WHAT IT READS IS OF BULK AT MOST 1048576: true; the input reads as it did. -/
def metamerNumbersUptoRow : OpenClaim := { program := "ytjkpfojkkfopmaa", sum := "59cc00037b6da84ba90573b0e182ae18a814e4b17c79c24871a69aba13db0ec7", func := "lampblack/lampblacklaw04.MetamerNumbers", spec := "metamerNumbers", unfollowed := true, recurses := true, plainKeys := false, apart := false, narrowed := true }
def MetamerNumbersUptoSaid : Prop := metamerNumbersUptoRow.holds Try.pinned (OpenSpec.upto metamerNumbersSpec)

/-- 'lampblacklaw04.MetamerMatches', WHERE WHAT IT READS IS OF BULK AT MOST 1048576: true; the input reads as it did. -/
def metamerMatchesUptoRow : OpenClaim := { program := "ytjkpfojkkfopmaa", sum := "59cc00037b6da84ba90573b0e182ae18a814e4b17c79c24871a69aba13db0ec7", func := "lampblack/lampblacklaw04.MetamerMatches", spec := "metamerMatches", unfollowed := true, recurses := true, plainKeys := false, apart := false, narrowed := true }
def MetamerMatchesUptoSaid : Prop := metamerMatchesUptoRow.holds Try.pinned (OpenSpec.upto metamerMatchesSpec)

/-- 'lampblacklaw04.MetamerFits', WHERE WHAT IT READS IS OF BULK AT MOST 1048576: true; the input reads as it did. -/
def metamerFitsUptoRow : OpenClaim := { program := "ytjkpfojkkfopmaa", sum := "59cc00037b6da84ba90573b0e182ae18a814e4b17c79c24871a69aba13db0ec7", func := "lampblack/lampblacklaw04.MetamerFits", spec := "metamerFits", unfollowed := true, recurses := true, plainKeys := false, apart := false, narrowed := true }
def MetamerFitsUptoSaid : Prop := metamerFitsUptoRow.holds Try.pinned (OpenSpec.upto metamerFitsSpec)

/-- 'lampblacklaw04.MetamerClashes', WHERE WHAT IT READS IS OF BULK AT MOST 1048576: true; the input reads as it did. -/
def metamerClashesUptoRow : OpenClaim := { program := "ytjkpfojkkfopmaa", sum := "59cc00037b6da84ba90573b0e182ae18a814e4b17c79c24871a69aba13db0ec7", func := "lampblack/lampblacklaw04.MetamerClashes", spec := "metamerClashes", unfollowed := true, recurses := true, plainKeys := false, apart := false, narrowed := true }
def MetamerClashesUptoSaid : Prop := metamerClashesUptoRow.holds Try.pinned (OpenSpec.upto metamerClashesSpec)

/-- 'lampblacklaw04.MetamerParted', WHERE WHAT IT READS IS OF BULK AT MOST 1048576: true; the input reads as it did. -/
def metamerPartedUptoRow : OpenClaim := { program := "ytjkpfojkkfopmaa", sum := "59cc00037b6da84ba90573b0e182ae18a814e4b17c79c24871a69aba13db0ec7", func := "lampblack/lampblacklaw04.MetamerParted", spec := "metamerParted", unfollowed := true, recurses := true, plainKeys := false, apart := false, narrowed := true }
def MetamerPartedUptoSaid : Prop := metamerPartedUptoRow.holds Try.pinned (OpenSpec.upto metamerPartedSpec)

/-- 'lampblacklaw04.MetamerBoxed', WHERE WHAT IT READS IS OF BULK AT MOST 1048576: true; the input reads as it did. -/
def metamerBoxedUptoRow : OpenClaim := { program := "ytjkpfojkkfopmaa", sum := "59cc00037b6da84ba90573b0e182ae18a814e4b17c79c24871a69aba13db0ec7", func := "lampblack/lampblacklaw04.MetamerBoxed", spec := "metamerBoxed", unfollowed := true, recurses := true, plainKeys := false, apart := false, narrowed := true }
def MetamerBoxedUptoSaid : Prop := metamerBoxedUptoRow.holds Try.pinned (OpenSpec.upto metamerBoxedSpec)

/-- 'lampblacklaw04.MetamerNarrower', WHERE WHAT IT READS IS OF BULK AT MOST 1048576: true; the input reads as it did. -/
def metamerNarrowerUptoRow : OpenClaim := { program := "ytjkpfojkkfopmaa", sum := "59cc00037b6da84ba90573b0e182ae18a814e4b17c79c24871a69aba13db0ec7", func := "lampblack/lampblacklaw04.MetamerNarrower", spec := "metamerNarrower", unfollowed := true, recurses := true, plainKeys := false, apart := false, narrowed := true }
def MetamerNarrowerUptoSaid : Prop := metamerNarrowerUptoRow.holds Try.pinned (OpenSpec.upto metamerNarrowerSpec)

/-- 'lampblacklaw04.MetamerAdded', WHERE WHAT IT READS IS OF BULK AT MOST 1048576: true; the input reads as it did. -/
def metamerAddedUptoRow : OpenClaim := { program := "ytjkpfojkkfopmaa", sum := "59cc00037b6da84ba90573b0e182ae18a814e4b17c79c24871a69aba13db0ec7", func := "lampblack/lampblacklaw04.MetamerAdded", spec := "metamerAdded", unfollowed := true, recurses := true, plainKeys := false, apart := false, narrowed := true }
def MetamerAddedUptoSaid : Prop := metamerAddedUptoRow.holds Try.pinned (OpenSpec.upto metamerAddedSpec)

/-- 'lampblacklaw04.MetamerTold', WHERE WHAT IT READS IS OF BULK AT MOST 1048576: true; the input reads as it did. -/
def metamerToldUptoRow : OpenClaim := { program := "ytjkpfojkkfopmaa", sum := "59cc00037b6da84ba90573b0e182ae18a814e4b17c79c24871a69aba13db0ec7", func := "lampblack/lampblacklaw04.MetamerTold", spec := "metamerTold", unfollowed := true, recurses := true, plainKeys := false, apart := false, narrowed := true }
def MetamerToldUptoSaid : Prop := metamerToldUptoRow.holds Try.pinned (OpenSpec.upto metamerToldSpec)

/-- 'lampblacklaw04.MetamerKnown', WHERE WHAT IT READS IS OF BULK AT MOST 1048576: true; the input reads as it did. -/
def metamerKnownUptoRow : OpenClaim := { program := "ytjkpfojkkfopmaa", sum := "59cc00037b6da84ba90573b0e182ae18a814e4b17c79c24871a69aba13db0ec7", func := "lampblack/lampblacklaw04.MetamerKnown", spec := "metamerKnown", unfollowed := true, recurses := true, plainKeys := false, apart := false, narrowed := true }
def MetamerKnownUptoSaid : Prop := metamerKnownUptoRow.holds Try.pinned (OpenSpec.upto metamerKnownSpec)

end Rows
end Go.Proofs.Ytjkpfojkkfopmaa
