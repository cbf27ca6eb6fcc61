/- Calls of examples, run by the kernel. -/
import Derived.Test.YtfgdbeijjbijnaaGreatDoorW2A
import Derived.Test.YtfgdbeijjbijnaaGreatDoorW2B
import Derived.Test.YtfgdbeijjbijnaaGreatDoorW2C
import Derived.Test.YtfgdbeijjbijnaaGreatDoorW2D
import Derived.Test.YtfgdbeijjbijnaaGreatDoorW3A
import Derived.Test.YtfgdbeijjbijnaaGreatDoorW3N
import Derived.Test.YtfgdbeijjbijnaaGreatDoorW3O
import Derived.Test.YtfgdbeijjbijnaaGreatDoorW3W
import Derived.Test.YtfgdbeijjbijnaaGreatDoorW1w
import Derived.Test.YtfgdbeijjbijnaaGreatDoorW4A
import Derived.Test.YtfgdbeijjbijnaaGreatDoorW4B
import Derived.Test.YtfgdbeijjbijnaaGreatDoorW5w
set_option linter.unusedSimpArgs false
set_option linter.unusedVariables false
set_option linter.unusedVariables false
set_option maxRecDepth 100000
namespace Go.Proofs.YtfgdbeijjbijnaaGreatDoor
open Go Go.Abs Go.Proofs
def y_w2w_law02 : V := .c (.d (.bool true))
theorem k_w2w_law02 : PureG Tryz.prog GH3 174 [] y_w2w_law02 := pure_yres (X := tx) (E := exW (((KN_W2A ++ KN_W2B) ++ KN_W2C) ++ KN_W2D)) 50000 wmo (xw_ok _ (kn_app (kn_app (kn_app kn_W2A kn_W2B) kn_W2C) kn_W2D)) rfl (by kernel_rfl) (by kernel_rfl) (by kernel_rfl)
def KN_W2 : List (Nat × List V × List AB × V) := [(174, [], GH3, y_w2w_law02)]
theorem kn_W2 : ∀ e ∈ KN_W2, PureG Tryz.prog e.2.2.1 e.1 e.2.1 e.2.2.2 := (kn_cons k_w2w_law02 kn_nil)
end Go.Proofs.YtfgdbeijjbijnaaGreatDoor

/- Calls of examples, run by the kernel. -/
set_option linter.unusedVariables false
set_option maxRecDepth 100000
namespace Go.Proofs.YtfgdbeijjbijnaaGreatDoor
open Go Go.Abs Go.Proofs
def y_w3w_law03 : V := .c (.d (.bool true))
theorem k_w3w_law03 : PureG Tryz.prog GH0 175 [] y_w3w_law03 := pure_yres (X := tx) (E := exW (((KN_W3A ++ KN_W3N) ++ KN_W3O) ++ KN_W3W)) 50000 wmo (xw_ok _ (kn_app (kn_app (kn_app kn_W3A kn_W3N) kn_W3O) kn_W3W)) rfl (by kernel_rfl) (by kernel_rfl) (by kernel_rfl)
def KN_W3 : List (Nat × List V × List AB × V) := [(175, [], GH0, y_w3w_law03)]
theorem kn_W3 : ∀ e ∈ KN_W3, PureG Tryz.prog e.2.2.1 e.1 e.2.1 e.2.2.2 := (kn_cons k_w3w_law03 kn_nil)
end Go.Proofs.YtfgdbeijjbijnaaGreatDoor

/- Calls of examples, run by the kernel. -/
set_option linter.unusedVariables false
set_option maxRecDepth 100000
namespace Go.Proofs.YtfgdbeijjbijnaaGreatDoor
open Go Go.Abs Go.Proofs
def y_ww_works03 : V := .c (.d (.bool true))
theorem k_ww_works03 : PureG Tryz.prog GH3 92 [] y_ww_works03 := pure_yres (X := tx) (E := exW ((KN_W1w ++ KN_W2) ++ KN_W3)) 50000 wmo (xw_ok _ (kn_app (kn_app kn_W1w kn_W2) kn_W3)) rfl (by kernel_rfl) (by kernel_rfl) (by kernel_rfl)
def KN_WW3 : List (Nat × List V × List AB × V) := [(92, [], GH3, y_ww_works03)]
theorem kn_WW3 : ∀ e ∈ KN_WW3, PureG Tryz.prog e.2.2.1 e.1 e.2.1 e.2.2.2 := (kn_cons k_ww_works03 kn_nil)
end Go.Proofs.YtfgdbeijjbijnaaGreatDoor

/- Calls of examples, run by the kernel. -/
set_option linter.unusedVariables false
set_option maxRecDepth 100000
namespace Go.Proofs.YtfgdbeijjbijnaaGreatDoor
open Go Go.Abs Go.Proofs
def y_w4w_law04 : V := .c (.d (.bool true))
theorem k_w4w_law04 : PureG Tryz.prog GH0 93 [] y_w4w_law04 := pure_yres (X := tx) (E := exW (KN_W4A ++ KN_W4B)) 50000 wmo (xw_ok _ (kn_app kn_W4A kn_W4B)) rfl (by kernel_rfl) (by kernel_rfl) (by kernel_rfl)
def KN_W4 : List (Nat × List V × List AB × V) := [(93, [], GH0, y_w4w_law04)]
theorem kn_W4 : ∀ e ∈ KN_W4, PureG Tryz.prog e.2.2.1 e.1 e.2.1 e.2.2.2 := (kn_cons k_w4w_law04 kn_nil)
end Go.Proofs.YtfgdbeijjbijnaaGreatDoor

/- Calls of examples, run by the kernel. -/
set_option linter.unusedVariables false
set_option maxRecDepth 100000
namespace Go.Proofs.YtfgdbeijjbijnaaGreatDoor
open Go Go.Abs Go.Proofs
def y_wx_works04 : V := .c (.d (.bool true))
theorem k_wx_works04 : PureG Tryz.prog GH3 41 [] y_wx_works04 := pure_yres (X := tx) (E := exW ((KN_WW3 ++ KN_W4) ++ KN_W5w)) 50000 wmo (xw_ok _ (kn_app (kn_app kn_WW3 kn_W4) kn_W5w)) rfl (by kernel_rfl) (by kernel_rfl) (by kernel_rfl)
def y_wx_works05 : V := .c (.d (.bool true))
theorem k_wx_works05 : PureG Tryz.prog GH3 64 [] y_wx_works05 := pure_yres (X := tx) (E := exW ((KN_WW3 ++ KN_W4) ++ KN_W5w)) 50000 wmo (xw_ok _ (kn_app (kn_app kn_WW3 kn_W4) kn_W5w)) rfl (by kernel_rfl) (by kernel_rfl) (by kernel_rfl)
def KN_WW5 : List (Nat × List V × List AB × V) := [(41, [], GH3, y_wx_works04), (64, [], GH3, y_wx_works05)]
theorem kn_WW5 : ∀ e ∈ KN_WW5, PureG Tryz.prog e.2.2.1 e.1 e.2.1 e.2.2.2 := (kn_cons k_wx_works04 (kn_cons k_wx_works05 kn_nil))
end Go.Proofs.YtfgdbeijjbijnaaGreatDoor

