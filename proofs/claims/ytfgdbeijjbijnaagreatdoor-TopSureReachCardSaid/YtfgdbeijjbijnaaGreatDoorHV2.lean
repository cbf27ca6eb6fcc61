/- Calls of examples, run by the kernel. -/
import Derived.Test.YtfgdbeijjbijnaaGreatDoorHW6A
import Derived.Test.YtfgdbeijjbijnaaGreatDoorHW6B
import Derived.Test.YtfgdbeijjbijnaaGreatDoorHW6C
import Derived.Test.YtfgdbeijjbijnaaGreatDoorHW7A
import Derived.Test.YtfgdbeijjbijnaaGreatDoorHW7B
import Derived.Test.YtfgdbeijjbijnaaGreatDoorHV1
set_option linter.unusedSimpArgs false
set_option linter.unusedVariables false
set_option linter.unusedVariables false
set_option maxRecDepth 100000
namespace Go.Proofs.YtfgdbeijjbijnaaGreatDoor
open Go Go.Abs Go.Proofs
def Jj : V := .c (.d (.bool true))
theorem Rr : PureG Tryz.prog GH0 43 [] Jj := pure_yres (X := tx) (E := exW ((aEC ++ aEE) ++ aEF)) 50000 wmo (Ag _ (AD (AD aID aIE) aIF)) rfl (by kernel_rfl) (by kernel_rfl) (by kernel_rfl)
def aEN : List (Nat × List V × List AB × V) := [(43, [], GH0, Jj)]
theorem aGh : ∀ e ∈ aEN, PureG Tryz.prog e.2.2.1 e.1 e.2.1 e.2.2.2 := (Aa Rr Ab)
end Go.Proofs.YtfgdbeijjbijnaaGreatDoor
set_option linter.unusedVariables false
set_option maxRecDepth 100000
namespace Go.Proofs.YtfgdbeijjbijnaaGreatDoor
open Go Go.Abs Go.Proofs
def Jk : V := .c (.d (.bool true))
theorem Rs : PureG Tryz.prog GH1 65 [] Jk := pure_yres (X := tx) (E := exW (aEJ ++ aEM)) 50000 wmo (Ag _ (AD aIG aIH)) rfl (by kernel_rfl) (by kernel_rfl) (by kernel_rfl)
def aEO : List (Nat × List V × List AB × V) := [(65, [], GH1, Jk)]
theorem aGi : ∀ e ∈ aEO, PureG Tryz.prog e.2.2.1 e.1 e.2.1 e.2.2.2 := (Aa Rs Ab)
end Go.Proofs.YtfgdbeijjbijnaaGreatDoor
set_option linter.unusedVariables false
set_option maxRecDepth 100000
namespace Go.Proofs.YtfgdbeijjbijnaaGreatDoor
open Go Go.Abs Go.Proofs
def HV : V := .c (.d (.bool true))
theorem OW : PureG Tryz.prog GH3 9 [] HV := pure_yres (X := tx) (E := exW (((((S3 ++ LO) ++ LN) ++ aEN) ++ aEO) ++ Ri)) 50000 wmo (Ag _ (AD (AD (AD (AD (AD aEz OS) OQ) aGh) aGi) Uf)) rfl (by kernel_rfl) (by kernel_rfl) (by kernel_rfl)
def Fc : V := .c (.d (.bool true))
theorem OX : PureG Tryz.prog GH3 24 [] Fc := pure_yres (X := tx) (E := exW (((((S3 ++ LO) ++ LN) ++ aEN) ++ aEO) ++ Ri)) 50000 wmo (Ag _ (AD (AD (AD (AD (AD aEz OS) OQ) aGh) aGi) Uf)) rfl (by kernel_rfl) (by kernel_rfl) (by kernel_rfl)
def aEP : List (Nat × List V × List AB × V) := [(9, [], GH3, HV), (24, [], GH3, Fc)]
theorem aII : ∀ e ∈ aEP, PureG Tryz.prog e.2.2.1 e.1 e.2.1 e.2.2.2 := (Aa OW (Aa OX Ab))
end Go.Proofs.YtfgdbeijjbijnaaGreatDoor
