/- Calls of examples, run by the kernel. -/
import Derived.Test.YtfgdbeijjbijnaaGreatDoorHW2A
import Derived.Test.YtfgdbeijjbijnaaGreatDoorHW2B
import Derived.Test.YtfgdbeijjbijnaaGreatDoorHW2C
import Derived.Test.YtfgdbeijjbijnaaGreatDoorHW2D
import Derived.Test.YtfgdbeijjbijnaaGreatDoorHW3A
import Derived.Test.YtfgdbeijjbijnaaGreatDoorHW3N
import Derived.Test.YtfgdbeijjbijnaaGreatDoorHW3O
import Derived.Test.YtfgdbeijjbijnaaGreatDoorHW3W
import Derived.Test.YtfgdbeijjbijnaaGreatDoorHW1w
import Derived.Test.YtfgdbeijjbijnaaGreatDoorHW4A
import Derived.Test.YtfgdbeijjbijnaaGreatDoorHW4B
import Derived.Test.YtfgdbeijjbijnaaGreatDoorHW5w
set_option linter.unusedSimpArgs false
set_option linter.unusedVariables false
set_option linter.unusedVariables false
set_option maxRecDepth 100000
namespace Go.Proofs.YtfgdbeijjbijnaaGreatDoor
open Go Go.Abs Go.Proofs
def Jg : V := .c (.d (.bool true))
theorem Re : PureG Tryz.prog GH3 174 [] Jg := pure_yres (X := tx) (E := exW (((aDZ ++ aEc) ++ aEd) ++ aEe)) 50000 wmo (Ag _ (AD (AD (AD aIr aIs) aIt) aIu)) rfl (by kernel_rfl) (by kernel_rfl) (by kernel_rfl)
def aGf : List (Nat × List V × List AB × V) := [(174, [], GH3, Jg)]
theorem aQb : ∀ e ∈ aGf, PureG Tryz.prog e.2.2.1 e.1 e.2.1 e.2.2.2 := (Aa Re Ab)
end Go.Proofs.YtfgdbeijjbijnaaGreatDoor
set_option linter.unusedVariables false
set_option maxRecDepth 100000
namespace Go.Proofs.YtfgdbeijjbijnaaGreatDoor
open Go Go.Abs Go.Proofs
def Jh : V := .c (.d (.bool true))
theorem Rf : PureG Tryz.prog GH0 175 [] Jh := pure_yres (X := tx) (E := exW (((aEk ++ aEp) ++ SX) ++ aEu)) 50000 wmo (Ag _ (AD (AD (AD aIv aIz) aEo) aIA)) rfl (by kernel_rfl) (by kernel_rfl) (by kernel_rfl)
def aGg : List (Nat × List V × List AB × V) := [(175, [], GH0, Jh)]
theorem aQc : ∀ e ∈ aGg, PureG Tryz.prog e.2.2.1 e.1 e.2.1 e.2.2.2 := (Aa Rf Ab)
end Go.Proofs.YtfgdbeijjbijnaaGreatDoor
set_option linter.unusedVariables false
set_option maxRecDepth 100000
namespace Go.Proofs.YtfgdbeijjbijnaaGreatDoor
open Go Go.Abs Go.Proofs
def HQ : V := .c (.d (.bool true))
theorem OR : PureG Tryz.prog GH3 92 [] HQ := pure_yres (X := tx) (E := exW ((aDW ++ aGf) ++ aGg)) 50000 wmo (Ag _ (AD (AD aIq aQb) aQc)) rfl (by kernel_rfl) (by kernel_rfl) (by kernel_rfl)
def LO : List (Nat × List V × List AB × V) := [(92, [], GH3, HQ)]
theorem OS : ∀ e ∈ LO, PureG Tryz.prog e.2.2.1 e.1 e.2.1 e.2.2.2 := (Aa OR Ab)
end Go.Proofs.YtfgdbeijjbijnaaGreatDoor
set_option linter.unusedVariables false
set_option maxRecDepth 100000
namespace Go.Proofs.YtfgdbeijjbijnaaGreatDoor
open Go Go.Abs Go.Proofs
def Ji : V := .c (.d (.bool true))
theorem Rh : PureG Tryz.prog GH0 93 [] Ji := pure_yres (X := tx) (E := exW (aEv ++ aEy)) 50000 wmo (Ag _ (AD aIB aIC)) rfl (by kernel_rfl) (by kernel_rfl) (by kernel_rfl)
def Ri : List (Nat × List V × List AB × V) := [(93, [], GH0, Ji)]
theorem Uf : ∀ e ∈ Ri, PureG Tryz.prog e.2.2.1 e.1 e.2.1 e.2.2.2 := (Aa Rh Ab)
end Go.Proofs.YtfgdbeijjbijnaaGreatDoor
set_option linter.unusedVariables false
set_option maxRecDepth 100000
namespace Go.Proofs.YtfgdbeijjbijnaaGreatDoor
open Go Go.Abs Go.Proofs
def HR : V := .c (.d (.bool true))
theorem OT : PureG Tryz.prog GH3 41 [] HR := pure_yres (X := tx) (E := exW ((LO ++ Ri) ++ LN)) 50000 wmo (Ag _ (AD (AD OS Uf) OQ)) rfl (by kernel_rfl) (by kernel_rfl) (by kernel_rfl)
def HT : V := .c (.d (.bool true))
theorem OU : PureG Tryz.prog GH3 64 [] HT := pure_yres (X := tx) (E := exW ((LO ++ Ri) ++ LN)) 50000 wmo (Ag _ (AD (AD OS Uf) OQ)) rfl (by kernel_rfl) (by kernel_rfl) (by kernel_rfl)
def S3 : List (Nat × List V × List AB × V) := [(41, [], GH3, HR), (64, [], GH3, HT)]
theorem aEz : ∀ e ∈ S3, PureG Tryz.prog e.2.2.1 e.1 e.2.1 e.2.2.2 := (Aa OT (Aa OU Ab))
end Go.Proofs.YtfgdbeijjbijnaaGreatDoor
