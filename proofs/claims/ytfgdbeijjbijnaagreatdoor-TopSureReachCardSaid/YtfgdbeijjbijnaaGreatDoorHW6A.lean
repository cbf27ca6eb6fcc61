/- Calls of examples, run by the kernel. -/
import Derived.Test.YtfgdbeijjbijnaaGreatDoorHWD
set_option linter.unusedSimpArgs false
set_option linter.unusedVariables false
set_option linter.unusedVariables false
set_option maxRecDepth 100000
namespace Go.Proofs.YtfgdbeijjbijnaaGreatDoor
open Go Go.Abs Go.Proofs
def LP : V := .agg [.full [[.int .i64 0, .int .i64 0], [.int .i64 4, .int .i64 0], [.int .i64 0, .int .i64 4]], .full [[.sl [[.int .i64 0, .int .i64 0], [.int .i64 1, .int .i64 0]]]]]
theorem S4 : PureG Tryz.prog GH0 108 [] LP := pure_yres (X := tx) (E := exW []) 50000 wmo (Ag _ Ab) rfl (by kernel_rfl) (by kernel_rfl) (by kernel_rfl)
def LQ : V := .agg [.full [[.int .i64 6, .int .i64 0]], .full []]
theorem S5 : PureG Tryz.prog GH0 109 [iv 6, iv 0] LQ := pure_yres (X := tx) (E := exW []) 50000 wmo (Ag _ Ab) rfl (by kernel_rfl) (by kernel_rfl) (by kernel_rfl)
def NG : V := .tup [.c (.d (.sl [[.int .i64 0, .int .i64 0], [.int .i64 5, .int .i64 0], [.int .i64 1, .int .i64 4], [.int .i64 0, .int .i64 4]])), .c (.d (.int .i64 0))]
theorem VL : PureG Tryz.prog GH0 110 [B7] NG := pure_yres (X := tx) (E := exW []) 50000 wmo (Ag _ Ab) rfl (by kernel_rfl) (by kernel_rfl) (by kernel_rfl)
def LS : V := .tup [.c (.d (.bool true)), .c (.d (.int .i64 0))]
theorem S6 : PureG Tryz.prog GH0 15 [B7, rgV 3 2] LS := pure_yres (X := tx) (E := exW []) 50000 wmo (Ag _ Ab) rfl (by kernel_rfl) (by kernel_rfl) (by kernel_rfl)
def HU : V := .tup [.agg [.d (.int .i64 5), .d (.int .i64 0)], .c (.d (.int .i64 0))]
theorem OV : PureG Tryz.prog GH0 112 [B7, .c (.d (.sl [r2 0 0, r2 4 0, r2 4 4, r2 0 4]))] HU := pure_yres (X := tx) (E := exW []) 50000 wmo (Ag _ Ab) rfl (by kernel_rfl) (by kernel_rfl) (by kernel_rfl)
def Rj : V := .c (.d (.int .i64 0))
theorem aEA : PureG Tryz.prog GH0 113 [B7, Jy 6 0, .agg [.d (.int .i64 1), .d (.int .i64 0), .d (.int .i64 5)]] Rj := pure_yres (X := tx) (E := exW []) 50000 wmo (Ag _ Ab) rfl (by kernel_rfl) (by kernel_rfl) (by kernel_rfl)
def Rk : V := .c (.d (.int .i64 14))
theorem aEB : PureG Tryz.prog GH0 113 [B7, Jy 6 0, .agg [.d (.int .i64 1), .d (.int .i64 0), .d (.int .i64 6)]] Rk := pure_yres (X := tx) (E := exW []) 50000 wmo (Ag _ Ab) rfl (by kernel_rfl) (by kernel_rfl) (by kernel_rfl)
def aEC : List (Nat × List V × List AB × V) := [(108, [], GH0, LP), (109, [iv 6, iv 0], GH0, LQ), (110, [B7], GH0, NG), (15, [B7, rgV 3 2], GH0, LS), (112, [B7, .c (.d (.sl [r2 0 0, r2 4 0, r2 4 4, r2 0 4]))], GH0, HU), (113, [B7, Jy 6 0, .agg [.d (.int .i64 1), .d (.int .i64 0), .d (.int .i64 5)]], GH0, Rj), (113, [B7, Jy 6 0, .agg [.d (.int .i64 1), .d (.int .i64 0), .d (.int .i64 6)]], GH0, Rk)]
theorem aID : ∀ e ∈ aEC, PureG Tryz.prog e.2.2.1 e.1 e.2.1 e.2.2.2 := (Aa S4 (Aa S5 (Aa VL (Aa S6 (Aa OV (Aa aEA (Aa aEB Ab)))))))
end Go.Proofs.YtfgdbeijjbijnaaGreatDoor
