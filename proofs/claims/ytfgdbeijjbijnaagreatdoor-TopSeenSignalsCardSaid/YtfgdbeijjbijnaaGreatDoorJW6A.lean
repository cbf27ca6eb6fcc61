/- Calls of examples, run by the kernel. -/
import Derived.Test.YtfgdbeijjbijnaaGreatDoorJWD
set_option linter.unusedSimpArgs false
set_option linter.unusedVariables false
set_option linter.unusedVariables false
set_option maxRecDepth 100000
namespace Go.Proofs.YtfgdbeijjbijnaaGreatDoor
open Go Go.Abs Go.Proofs
def LU : V := .agg [.full [[.int .i64 0, .int .i64 0], [.int .i64 4, .int .i64 0], [.int .i64 0, .int .i64 4]], .full [[.sl [[.int .i64 0, .int .i64 0], [.int .i64 1, .int .i64 0]]]]]
theorem SK : PureG Tryz.prog GH0 108 [] LU := pure_yres (X := tx) (E := exW []) 50000 wmo (Al _ Ae) rfl (by kernel_rfl) (by kernel_rfl) (by kernel_rfl)
def LV : V := .agg [.full [[.int .i64 6, .int .i64 0]], .full []]
theorem SL : PureG Tryz.prog GH0 109 [iv 6, iv 0] LV := pure_yres (X := tx) (E := exW []) 50000 wmo (Al _ Ae) rfl (by kernel_rfl) (by kernel_rfl) (by kernel_rfl)
def Nu : V := .tup [.c (.d (.sl [[.int .i64 0, .int .i64 0], [.int .i64 5, .int .i64 0], [.int .i64 1, .int .i64 4], [.int .i64 0, .int .i64 4]])), .c (.d (.int .i64 0))]
theorem U5 : PureG Tryz.prog GH0 110 [CA] Nu := pure_yres (X := tx) (E := exW []) 50000 wmo (Al _ Ae) rfl (by kernel_rfl) (by kernel_rfl) (by kernel_rfl)
def LW : V := .tup [.c (.d (.bool true)), .c (.d (.int .i64 0))]
theorem SM : PureG Tryz.prog GH0 15 [CA, rgV 3 2] LW := pure_yres (X := tx) (E := exW []) 50000 wmo (Al _ Ae) rfl (by kernel_rfl) (by kernel_rfl) (by kernel_rfl)
def H9 : V := .tup [.agg [.d (.int .i64 5), .d (.int .i64 0)], .c (.d (.int .i64 0))]
theorem OG : PureG Tryz.prog GH0 112 [CA, .c (.d (.sl [r2 0 0, r2 4 0, r2 4 4, r2 0 4]))] H9 := pure_yres (X := tx) (E := exW []) 50000 wmo (Al _ Ae) rfl (by kernel_rfl) (by kernel_rfl) (by kernel_rfl)
def QZ : V := .c (.d (.int .i64 0))
theorem aDV : PureG Tryz.prog GH0 113 [CA, JL 6 0, .agg [.d (.int .i64 1), .d (.int .i64 0), .d (.int .i64 5)]] QZ := pure_yres (X := tx) (E := exW []) 50000 wmo (Al _ Ae) rfl (by kernel_rfl) (by kernel_rfl) (by kernel_rfl)
def Q0 : V := .c (.d (.int .i64 14))
theorem aDW : PureG Tryz.prog GH0 113 [CA, JL 6 0, .agg [.d (.int .i64 1), .d (.int .i64 0), .d (.int .i64 6)]] Q0 := pure_yres (X := tx) (E := exW []) 50000 wmo (Al _ Ae) rfl (by kernel_rfl) (by kernel_rfl) (by kernel_rfl)
def aDX : List (Nat × List V × List AB × V) := [(108, [], GH0, LU), (109, [iv 6, iv 0], GH0, LV), (110, [CA], GH0, Nu), (15, [CA, rgV 3 2], GH0, LW), (112, [CA, .c (.d (.sl [r2 0 0, r2 4 0, r2 4 4, r2 0 4]))], GH0, H9), (113, [CA, JL 6 0, .agg [.d (.int .i64 1), .d (.int .i64 0), .d (.int .i64 5)]], GH0, QZ), (113, [CA, JL 6 0, .agg [.d (.int .i64 1), .d (.int .i64 0), .d (.int .i64 6)]], GH0, Q0)]
theorem aHF : ∀ e ∈ aDX, PureG Tryz.prog e.2.2.1 e.1 e.2.1 e.2.2.2 := (Ab SK (Ab SL (Ab U5 (Ab SM (Ab OG (Ab aDV (Ab aDW Ae)))))))
end Go.Proofs.YtfgdbeijjbijnaaGreatDoor
