/- Calls of examples, run by the kernel. -/
import Derived.Test.YtfgdbeijjbijnaaGreatDoorW6A
import Derived.Test.YtfgdbeijjbijnaaGreatDoorW6B
import Derived.Test.YtfgdbeijjbijnaaGreatDoorW6C
import Derived.Test.YtfgdbeijjbijnaaGreatDoorW7A
import Derived.Test.YtfgdbeijjbijnaaGreatDoorW7B
import Derived.Test.YtfgdbeijjbijnaaGreatDoorV1
set_option linter.unusedSimpArgs false
set_option linter.unusedVariables false
set_option linter.unusedVariables false
set_option maxRecDepth 100000
namespace Go.Proofs.YtfgdbeijjbijnaaGreatDoor
open Go Go.Abs Go.Proofs
def y_w6w_law06 : V := .c (.d (.bool true))
theorem k_w6w_law06 : PureG Tryz.prog GH0 43 [] y_w6w_law06 := pure_yres (X := tx) (E := exW ((KN_W6A ++ KN_W6B) ++ KN_W6C)) 50000 wmo (xw_ok _ (kn_app (kn_app kn_W6A kn_W6B) kn_W6C)) rfl (by kernel_rfl) (by kernel_rfl) (by kernel_rfl)
def KN_W6 : List (Nat × List V × List AB × V) := [(43, [], GH0, y_w6w_law06)]
theorem kn_W6 : ∀ e ∈ KN_W6, PureG Tryz.prog e.2.2.1 e.1 e.2.1 e.2.2.2 := (kn_cons k_w6w_law06 kn_nil)
end Go.Proofs.YtfgdbeijjbijnaaGreatDoor

/- Calls of examples, run by the kernel. -/
set_option linter.unusedVariables false
set_option maxRecDepth 100000
namespace Go.Proofs.YtfgdbeijjbijnaaGreatDoor
open Go Go.Abs Go.Proofs
def y_w7b_law07 : V := .c (.d (.bool true))
theorem k_w7b_law07 : PureG Tryz.prog GH1 65 [] y_w7b_law07 := pure_yres (X := tx) (E := exW (KN_W7A ++ KN_W7B)) 50000 wmo (xw_ok _ (kn_app kn_W7A kn_W7B)) rfl (by kernel_rfl) (by kernel_rfl) (by kernel_rfl)
def KN_W7 : List (Nat × List V × List AB × V) := [(65, [], GH1, y_w7b_law07)]
theorem kn_W7 : ∀ e ∈ KN_W7, PureG Tryz.prog e.2.2.1 e.1 e.2.1 e.2.2.2 := (kn_cons k_w7b_law07 kn_nil)
end Go.Proofs.YtfgdbeijjbijnaaGreatDoor

/- Calls of examples, run by the kernel. -/
set_option linter.unusedVariables false
set_option maxRecDepth 100000
namespace Go.Proofs.YtfgdbeijjbijnaaGreatDoor
open Go Go.Abs Go.Proofs
def y_wy_works06 : V := .c (.d (.bool true))
theorem k_wy_works06 : PureG Tryz.prog GH3 9 [] y_wy_works06 := pure_yres (X := tx) (E := exW (((((KN_WW5 ++ KN_WW3) ++ KN_W5w) ++ KN_W6) ++ KN_W7) ++ KN_W4)) 50000 wmo (xw_ok _ (kn_app (kn_app (kn_app (kn_app (kn_app kn_WW5 kn_WW3) kn_W5w) kn_W6) kn_W7) kn_W4)) rfl (by kernel_rfl) (by kernel_rfl) (by kernel_rfl)
def y_wy_works07 : V := .c (.d (.bool true))
theorem k_wy_works07 : PureG Tryz.prog GH3 24 [] y_wy_works07 := pure_yres (X := tx) (E := exW (((((KN_WW5 ++ KN_WW3) ++ KN_W5w) ++ KN_W6) ++ KN_W7) ++ KN_W4)) 50000 wmo (xw_ok _ (kn_app (kn_app (kn_app (kn_app (kn_app kn_WW5 kn_WW3) kn_W5w) kn_W6) kn_W7) kn_W4)) rfl (by kernel_rfl) (by kernel_rfl) (by kernel_rfl)
def KN_WW7 : List (Nat × List V × List AB × V) := [(9, [], GH3, y_wy_works06), (24, [], GH3, y_wy_works07)]
theorem kn_WW7 : ∀ e ∈ KN_WW7, PureG Tryz.prog e.2.2.1 e.1 e.2.1 e.2.2.2 := (kn_cons k_wy_works06 (kn_cons k_wy_works07 kn_nil))
end Go.Proofs.YtfgdbeijjbijnaaGreatDoor

