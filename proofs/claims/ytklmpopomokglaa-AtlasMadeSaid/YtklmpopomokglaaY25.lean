/- A map of codes, looked up. -/
import Derived.Test.YtklmpopomokglaaY8
set_option linter.unusedSimpArgs false
set_option linter.unusedVariables false
namespace Go.Proofs.Ytklmpopomokglaa
open Go Go.Abs Go.Proofs
def sameC (rows : List (List Int)) (x c : Int × Int) : Bool := (cd rows x 0 == cd rows c 0) && (cd rows x 1 == cd rows c 1) && (cd rows x 2 == cd rows c 2) && (cd rows x 3 == cd rows c 3)
theorem keyEq_code (rows : List (List Int)) (x c : Int × Int) : keyEq (codeV rows x) (codeV rows c) = some (sameC rows x c) := by
  simp [keyEq, codeV, codeC, eqCs, eqC, sameC, Bool.and_assoc, Bool.beq_eq_decide_eq]
theorem findE_code (rows : List (List Int)) (x : Int × Int) : ∀ (l : List (Int × Int)) (i : Nat), findE (codeV rows x) (l.map fun c => (codeV rows c, caseV c)) i = some (((l.zipIdx i).find? (fun p => sameC rows x p.1)).map fun p => (p.2, caseV p.1))
  | [], _ => rfl
  | c :: l, i => by
    simp only [List.map_cons, findE, keyEq_code, List.zipIdx_cons, List.find?_cons]
    cases sameC rows x c with
    | true => rfl
    | false => exact findE_code rows x l (i + 1)
end Go.Proofs.Ytklmpopomokglaa
