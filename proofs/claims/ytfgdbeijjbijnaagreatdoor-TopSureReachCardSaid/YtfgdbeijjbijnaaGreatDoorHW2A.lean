/- Calls of examples, run by the kernel. -/
import Derived.Test.YtfgdbeijjbijnaaGreatDoorHWD
set_option linter.unusedSimpArgs false
set_option linter.unusedVariables false
set_option linter.unusedVariables false
set_option maxRecDepth 100000
namespace Go.Proofs.YtfgdbeijjbijnaaGreatDoor
open Go Go.Abs Go.Proofs
def Lb : V := .c (.full [[.int .i64 0, .int .i64 1], [.int .i64 1, .int .i64 2], [.int .i64 0, .int .i64 1]])
theorem Sq : PureG Tryz.prog GH0 257 [] Lb := pure_yres (X := tx) (E := exW []) 50000 wmo (Ag _ Ab) rfl (by kernel_rfl) (by kernel_rfl) (by kernel_rfl)
def Qw : V := .tup [.c (.full [[.int .i64 9], [.int .i64 5], [.int .i64 3]]), .c (.d (.int .i64 0))]
theorem aDX : PureG Tryz.prog GH0 32 [.c (.d (.sl [r2 0 1, r2 1 2, r2 0 1])), is [3, 9, 5]] Qw := pure_yres (X := tx) (E := exW []) 50000 wmo (Ag _ Ab) rfl (by kernel_rfl) (by kernel_rfl) (by kernel_rfl)
def Lc : V := .tup [.c (.d (.int .i64 3)), .c (.d (.int .i64 0))]
theorem Sr : PureG Tryz.prog GH0 258 [iv 3, .c (.d (.sl [r2 0 1, r2 1 2, r2 0 1]))] Lc := pure_yres (X := tx) (E := exW []) 50000 wmo (Ag _ Ab) rfl (by kernel_rfl) (by kernel_rfl) (by kernel_rfl)
def IS : V := .tup [.c (.full [[.int .i64 1, .int .i64 2], [.int .i64 1, .int .i64 2], [.int .i64 0, .int .i64 0]]), .c (.d (.int .i64 0))]
theorem Qx : PureG Tryz.prog GH0 263 [.c (.d (.sl [r2 10 12, r2 11 15, r2 20 20]))] IS := pure_yres (X := tx) (E := exW []) 50000 wmo (Ag _ Ab) rfl (by kernel_rfl) (by kernel_rfl) (by kernel_rfl)
def Qy : V := .agg [.d (.int .i64 300), .d (.int .i64 50), .d (.int .i64 100), .d (.int .i64 100), .d (.int .i64 100), .d (.int .i64 150), .d (.int .i64 0), .d (.int .i64 1000)]
theorem aDY : PureG Tryz.prog GH0 265 [iv 1000] Qy := pure_yres (X := tx) (E := exW []) 50000 wmo (Ag _ Ab) rfl (by kernel_rfl) (by kernel_rfl) (by kernel_rfl)
def IT : V := .tup [.c (.d (.sl [[.int .i64 0, .int .i64 2], [.int .i64 1, .int .i64 3], [.int .i64 0, .int .i64 1], [.int .i64 2, .int .i64 3], [.int .i64 1, .int .i64 2]])), .c (.d (.int .i64 0))]
theorem Qz : PureG Tryz.prog GH0 31 [iv 4] IT := pure_yres (X := tx) (E := exW []) 50000 wmo (Ag _ Ab) rfl (by kernel_rfl) (by kernel_rfl) (by kernel_rfl)
def IU : V := .tup [.agg [.d (.int .i64 155), .d (.int .i64 2), .d (.int .i64 400), .d (.int .i64 1)], .c (.d (.int .i64 0))]
theorem QA : PureG Tryz.prog GH0 264 [barV] IU := pure_yres (X := tx) (E := exW []) 50000 wmo (Ag _ Ab) rfl (by kernel_rfl) (by kernel_rfl) (by kernel_rfl)
def IV : V := .tup [.c (.full []), .c (.d (.int .i64 5))]
theorem QB : PureG Tryz.prog GH0 266 [iv 4, .c (.d (.sl [r2 0 2, r2 1 3, r2 0 1, r2 2 3, r2 1 2])), iv 4] IV := pure_yres (X := tx) (E := exW []) 50000 wmo (Ag _ Ab) rfl (by kernel_rfl) (by kernel_rfl) (by kernel_rfl)
def aDZ : List (Nat × List V × List AB × V) := [(257, [], GH0, Lb), (32, [.c (.d (.sl [r2 0 1, r2 1 2, r2 0 1])), is [3, 9, 5]], GH0, Qw), (258, [iv 3, .c (.d (.sl [r2 0 1, r2 1 2, r2 0 1]))], GH0, Lc), (263, [.c (.d (.sl [r2 10 12, r2 11 15, r2 20 20]))], GH0, IS), (265, [iv 1000], GH0, Qy), (31, [iv 4], GH0, IT), (264, [barV], GH0, IU), (266, [iv 4, .c (.d (.sl [r2 0 2, r2 1 3, r2 0 1, r2 2 3, r2 1 2])), iv 4], GH0, IV)]
theorem aIr : ∀ e ∈ aDZ, PureG Tryz.prog e.2.2.1 e.1 e.2.1 e.2.2.2 := (Aa Sq (Aa aDX (Aa Sr (Aa Qx (Aa aDY (Aa Qz (Aa QA (Aa QB Ab))))))))
end Go.Proofs.YtfgdbeijjbijnaaGreatDoor
