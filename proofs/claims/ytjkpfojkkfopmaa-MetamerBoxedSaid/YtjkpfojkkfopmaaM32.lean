/- Metamers: the law of boxes, once more. -/
import Derived.Test.YtjkpfojkkfopmaaM31
set_option linter.unusedSimpArgs false
set_option linter.unusedVariables false
set_option maxRecDepth 100000
namespace Go.Proofs.Ytjkpfojkkfopmaa
open Go Go.Abs Go.Proofs
theorem boxedLaw2 (c : Cs) (a b by' : List Int) (cu : Int) (hby : B16 by') (h0 : 0 ≤ cu) (h1 : cu ≤ 255) : Pure Try.prog 8 [csV c, ints a, ints b, u16s by', .c (.d (.int .u8 cu))] (B true) := boxedLaw c a b by' cu hby ⟨h0, by omega⟩
end Go.Proofs.Ytjkpfojkkfopmaa
