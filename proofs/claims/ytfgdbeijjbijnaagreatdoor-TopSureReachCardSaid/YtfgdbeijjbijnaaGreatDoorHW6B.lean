/- Calls of examples, run by the kernel. -/
import Derived.Test.YtfgdbeijjbijnaaGreatDoorHWD
set_option linter.unusedSimpArgs false
set_option linter.unusedVariables false
set_option linter.unusedVariables false
set_option maxRecDepth 100000
namespace Go.Proofs.YtfgdbeijjbijnaaGreatDoor
open Go Go.Abs Go.Proofs
def LU : V := .tup [.agg [.d (.int .i64 0), .d (.int .i64 0), .d (.int .i64 0)], .c (.d (.int .i64 21))]
theorem S7 : PureG Tryz.prog GH0 16 [B7, Jy 3 2] LU := pure_yres (X := tx) (E := exW []) 50000 wmo (Ag _ Ab) rfl (by kernel_rfl) (by kernel_rfl) (by kernel_rfl)
def LV : V := .tup [.agg [.d (.int .i64 4), .d (.int .i64 4), .d (.int .i64 20)], .c (.d (.int .i64 0))]
theorem S8 : PureG Tryz.prog GH0 16 [B7, Jy 4 2] LV := pure_yres (X := tx) (E := exW []) 50000 wmo (Ag _ Ab) rfl (by kernel_rfl) (by kernel_rfl) (by kernel_rfl)
def NH : V := .tup [.agg [.d (.int .i64 3), .d (.int .i64 2), .d (.int .i64 1)], .c (.d (.int .i64 0))]
theorem VM : PureG Tryz.prog GH0 114 [B7, Jy 3 2] NH := pure_yres (X := tx) (E := exW []) 50000 wmo (Ag _ Ab) rfl (by kernel_rfl) (by kernel_rfl) (by kernel_rfl)
def Rl : V := .tup [.agg [.d (.int .i64 1), .d (.int .i64 2)], .c (.d (.int .i64 0))]
theorem aED : PureG Tryz.prog GH0 115 [B7, Jy 4 2] Rl := pure_yres (X := tx) (E := exW []) 50000 wmo (Ag _ Ab) rfl (by kernel_rfl) (by kernel_rfl) (by kernel_rfl)
def aEE : List (Nat × List V × List AB × V) := [(16, [B7, Jy 3 2], GH0, LU), (16, [B7, Jy 4 2], GH0, LV), (114, [B7, Jy 3 2], GH0, NH), (115, [B7, Jy 4 2], GH0, Rl)]
theorem aIE : ∀ e ∈ aEE, PureG Tryz.prog e.2.2.1 e.1 e.2.1 e.2.2.2 := (Aa S7 (Aa S8 (Aa VM (Aa aED Ab))))
end Go.Proofs.YtfgdbeijjbijnaaGreatDoor
