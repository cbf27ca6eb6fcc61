/- Calls of examples, run by the kernel. -/
import Derived.Test.YtfgdbeijjbijnaaGreatDoorJW2A
import Derived.Test.YtfgdbeijjbijnaaGreatDoorJW2B
import Derived.Test.YtfgdbeijjbijnaaGreatDoorJW2C
import Derived.Test.YtfgdbeijjbijnaaGreatDoorJW2D
import Derived.Test.YtfgdbeijjbijnaaGreatDoorJW3A
import Derived.Test.YtfgdbeijjbijnaaGreatDoorJW3N
import Derived.Test.YtfgdbeijjbijnaaGreatDoorJW3O
import Derived.Test.YtfgdbeijjbijnaaGreatDoorJW3W
import Derived.Test.YtfgdbeijjbijnaaGreatDoorJW1w
import Derived.Test.YtfgdbeijjbijnaaGreatDoorJW4A
import Derived.Test.YtfgdbeijjbijnaaGreatDoorJW4B
import Derived.Test.YtfgdbeijjbijnaaGreatDoorJW5w
set_option linter.unusedSimpArgs false
set_option linter.unusedVariables false
set_option linter.unusedVariables false
set_option maxRecDepth 100000
namespace Go.Proofs.YtfgdbeijjbijnaaGreatDoor
open Go Go.Abs Go.Proofs
def Jt : V := .c (.d (.bool true))
theorem QW : PureG Tryz.prog GH2 174 [] Jt := pure_yres (X := tx) (E := exW (((aDj ++ aDw) ++ aDx) ++ aDy)) 50000 wmo (Al _ (Bb (Bb (Bb aHs aHt) aHu) aHv)) rfl (by kernel_rfl) (by kernel_rfl) (by kernel_rfl)
def aFf : List (Nat × List V × List AB × V) := [(174, [], GH2, Jt)]
theorem aPb : ∀ e ∈ aFf, PureG Tryz.prog e.2.2.1 e.1 e.2.1 e.2.2.2 := (Ab QW Ae)
end Go.Proofs.YtfgdbeijjbijnaaGreatDoor
set_option linter.unusedVariables false
set_option maxRecDepth 100000
namespace Go.Proofs.YtfgdbeijjbijnaaGreatDoor
open Go Go.Abs Go.Proofs
def Ju : V := .c (.d (.bool true))
theorem QX : PureG Tryz.prog GH0 175 [] Ju := pure_yres (X := tx) (E := exW (((aDE ++ aDJ) ++ SD) ++ aDO)) 50000 wmo (Al _ (Bb (Bb (Bb aHw aHA) aDI) aHB)) rfl (by kernel_rfl) (by kernel_rfl) (by kernel_rfl)
def aFg : List (Nat × List V × List AB × V) := [(175, [], GH0, Ju)]
theorem aPc : ∀ e ∈ aFg, PureG Tryz.prog e.2.2.1 e.1 e.2.1 e.2.2.2 := (Ab QX Ae)
end Go.Proofs.YtfgdbeijjbijnaaGreatDoor
set_option linter.unusedVariables false
set_option maxRecDepth 100000
namespace Go.Proofs.YtfgdbeijjbijnaaGreatDoor
open Go Go.Abs Go.Proofs
def H6 : V := .c (.d (.bool true))
theorem OC : PureG Tryz.prog GH2 92 [] H6 := pure_yres (X := tx) (E := exW ((aDg ++ aFf) ++ aFg)) 50000 wmo (Al _ (Bb (Bb aHr aPb) aPc)) rfl (by kernel_rfl) (by kernel_rfl) (by kernel_rfl)
def OD : List (Nat × List V × List AB × V) := [(92, [], GH2, H6)]
theorem SJ : ∀ e ∈ OD, PureG Tryz.prog e.2.2.1 e.1 e.2.1 e.2.2.2 := (Ab OC Ae)
end Go.Proofs.YtfgdbeijjbijnaaGreatDoor
set_option linter.unusedVariables false
set_option maxRecDepth 100000
namespace Go.Proofs.YtfgdbeijjbijnaaGreatDoor
open Go Go.Abs Go.Proofs
def Jv : V := .c (.d (.bool true))
theorem QY : PureG Tryz.prog GH0 93 [] Jv := pure_yres (X := tx) (E := exW (aDP ++ aDS)) 50000 wmo (Al _ (Bb aHC aHD)) rfl (by kernel_rfl) (by kernel_rfl) (by kernel_rfl)
def TG : List (Nat × List V × List AB × V) := [(93, [], GH0, Jv)]
theorem aDT : ∀ e ∈ TG, PureG Tryz.prog e.2.2.1 e.1 e.2.1 e.2.2.2 := (Ab QY Ae)
end Go.Proofs.YtfgdbeijjbijnaaGreatDoor
set_option linter.unusedVariables false
set_option maxRecDepth 100000
namespace Go.Proofs.YtfgdbeijjbijnaaGreatDoor
open Go Go.Abs Go.Proofs
def H7 : V := .c (.d (.bool true))
theorem OE : PureG Tryz.prog GH2 41 [] H7 := pure_yres (X := tx) (E := exW ((OD ++ TG) ++ OB)) 50000 wmo (Al _ (Bb (Bb SJ aDT) SI)) rfl (by kernel_rfl) (by kernel_rfl) (by kernel_rfl)
def H8 : V := .c (.d (.bool true))
theorem OF : PureG Tryz.prog GH2 64 [] H8 := pure_yres (X := tx) (E := exW ((OD ++ TG) ++ OB)) 50000 wmo (Al _ (Bb (Bb SJ aDT) SI)) rfl (by kernel_rfl) (by kernel_rfl) (by kernel_rfl)
def aDU : List (Nat × List V × List AB × V) := [(41, [], GH2, H7), (64, [], GH2, H8)]
theorem aHE : ∀ e ∈ aDU, PureG Tryz.prog e.2.2.1 e.1 e.2.1 e.2.2.2 := (Ab OE (Ab OF Ae))
end Go.Proofs.YtfgdbeijjbijnaaGreatDoor
