/- Calls of examples, run by the kernel. -/
import Derived.Test.YtfgdbeijjbijnaaGreatDoorJW6A
import Derived.Test.YtfgdbeijjbijnaaGreatDoorJW6B
import Derived.Test.YtfgdbeijjbijnaaGreatDoorJW6C
import Derived.Test.YtfgdbeijjbijnaaGreatDoorJV1
set_option linter.unusedSimpArgs false
set_option linter.unusedVariables false
set_option linter.unusedVariables false
set_option maxRecDepth 100000
namespace Go.Proofs.YtfgdbeijjbijnaaGreatDoor
open Go Go.Abs Go.Proofs
def Jw : V := .c (.d (.bool true))
theorem Q2 : PureG Tryz.prog GH0 43 [] Jw := pure_yres (X := tx) (E := exW ((aDX ++ aDZ) ++ aD0)) 50000 wmo (Al _ (Bb (Bb aHF aHG) aHH)) rfl (by kernel_rfl) (by kernel_rfl) (by kernel_rfl)
def aFh : List (Nat × List V × List AB × V) := [(43, [], GH0, Jw)]
theorem aPd : ∀ e ∈ aFh, PureG Tryz.prog e.2.2.1 e.1 e.2.1 e.2.2.2 := (Ab Q2 Ae)
end Go.Proofs.YtfgdbeijjbijnaaGreatDoor
set_option linter.unusedVariables false
set_option maxRecDepth 100000
namespace Go.Proofs.YtfgdbeijjbijnaaGreatDoor
open Go Go.Abs Go.Proofs
def EK : V := .c (.d (.bool true))
theorem Mu : PureG Tryz.prog GH2 9 [] EK := pure_yres (X := tx) (E := exW ((((aDU ++ OD) ++ OB) ++ aFh) ++ TG)) 50000 wmo (Al _ (Bb (Bb (Bb (Bb aHE SJ) SI) aPd) aDT)) rfl (by kernel_rfl) (by kernel_rfl) (by kernel_rfl)
def aD1 : List (Nat × List V × List AB × V) := [(9, [], GH2, EK)]
theorem aHI : ∀ e ∈ aD1, PureG Tryz.prog e.2.2.1 e.1 e.2.1 e.2.2.2 := (Ab Mu Ae)
end Go.Proofs.YtfgdbeijjbijnaaGreatDoor
