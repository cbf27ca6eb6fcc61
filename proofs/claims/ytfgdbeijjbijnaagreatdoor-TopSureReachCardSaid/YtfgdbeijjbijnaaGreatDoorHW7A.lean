/- Calls of examples, run by the kernel. -/
import Derived.Test.YtfgdbeijjbijnaaGreatDoorHWD
set_option linter.unusedSimpArgs false
set_option linter.unusedVariables false
set_option linter.unusedVariables false
set_option maxRecDepth 100000
namespace Go.Proofs.YtfgdbeijjbijnaaGreatDoor
open Go Go.Abs Go.Proofs
def Rm : V := .tup [.c (.full [[.int .i64 1], [.int .i64 2], [.int .i64 1], [.int .i64 1]]), .c (.d (.int .i64 0))]
theorem aEG : PureG Tryz.prog GH0 28 [.agg [.d (.int .i64 4), .d (.int .i64 0), .d (.int .i64 0), .d (.sl rd7)], .c (.d (.sl [[.int .i64 0], [.int .i64 1]]))] Rm := pure_yres (X := tx) (E := exW []) 50000 wmo (Ag _ Ab) rfl (by kernel_rfl) (by kernel_rfl) (by kernel_rfl)
def Rn : V := .tup [.c (.d (.int .i64 9)), .c (.d (.int .i64 0))]
theorem aEH : PureG Tryz.prog GH0 29 [.agg [.d (.int .i64 4), .d (.int .i64 0), .d (.int .i64 0), .d (.sl rd7)], .c (.d (.sl [[.int .i64 0], [.int .i64 2]]))] Rn := pure_yres (X := tx) (E := exW []) 50000 wmo (Ag _ Ab) rfl (by kernel_rfl) (by kernel_rfl) (by kernel_rfl)
def Ro : V := .tup [.c (.d (.int .i64 0)), .c (.d (.int .i64 18))]
theorem aEI : PureG Tryz.prog GH0 29 [.agg [.d (.int .i64 4), .d (.int .i64 0), .d (.int .i64 0), .d (.sl rd7)], .c (.d (.sl [[.int .i64 1], [.int .i64 2]]))] Ro := pure_yres (X := tx) (E := exW []) 50000 wmo (Ag _ Ab) rfl (by kernel_rfl) (by kernel_rfl) (by kernel_rfl)
def Ug : V := .tup [.c (.d (.int .i64 9)), .c (.d (.int .i64 0))]
theorem aFU : PureG Tryz.prog GH0 36 [.agg [.d (.int .i64 4), .d (.int .i64 0), .d (.int .i64 0), .d (.sl rd7)], .c (.d (.sl [[.int .i64 5], [.int .i64 0], [.int .i64 0], [.int .i64 4]]))] Ug := pure_yres (X := tx) (E := exW []) 50000 wmo (Ag _ Ab) rfl (by kernel_rfl) (by kernel_rfl) (by kernel_rfl)
def Uh : V := .c (.d (.int .i64 0))
theorem aFV : PureG Tryz.prog GH0 146 [.agg [.d (.int .i64 4), .d (.int .i64 1), .d (.int .i64 0), .d (.sl rd7)], .c (.d (.sl [[.int .i64 0], [.int .i64 1], [.int .i64 2]])), .c (.d (.int .i64 0)), .c (.d (.sl [[.int .i64 0]]))] Uh := pure_yres (X := tx) (E := exW []) 50000 wmo (Ag _ Ab) rfl (by kernel_rfl) (by kernel_rfl) (by kernel_rfl)
def Ui : V := .tup [.c (.d (.int .i64 0)), .c (.d (.sl [[.int .i64 0]])), .c (.d (.int .i64 0))]
theorem aFW : PureG Tryz.prog GH0 147 [.agg [.d (.int .i64 4), .d (.int .i64 1), .d (.int .i64 0), .d (.sl rd7)], .c (.d (.sl [[.int .i64 0], [.int .i64 1], [.int .i64 2]]))] Ui := pure_yres (X := tx) (E := exW []) 50000 wmo (Ag _ Ab) rfl (by kernel_rfl) (by kernel_rfl) (by kernel_rfl)
def aEJ : List (Nat × List V × List AB × V) := [(28, [.agg [.d (.int .i64 4), .d (.int .i64 0), .d (.int .i64 0), .d (.sl rd7)], .c (.d (.sl [[.int .i64 0], [.int .i64 1]]))], GH0, Rm), (29, [.agg [.d (.int .i64 4), .d (.int .i64 0), .d (.int .i64 0), .d (.sl rd7)], .c (.d (.sl [[.int .i64 0], [.int .i64 2]]))], GH0, Rn), (29, [.agg [.d (.int .i64 4), .d (.int .i64 0), .d (.int .i64 0), .d (.sl rd7)], .c (.d (.sl [[.int .i64 1], [.int .i64 2]]))], GH0, Ro), (36, [.agg [.d (.int .i64 4), .d (.int .i64 0), .d (.int .i64 0), .d (.sl rd7)], .c (.d (.sl [[.int .i64 5], [.int .i64 0], [.int .i64 0], [.int .i64 4]]))], GH0, Ug), (146, [.agg [.d (.int .i64 4), .d (.int .i64 1), .d (.int .i64 0), .d (.sl rd7)], .c (.d (.sl [[.int .i64 0], [.int .i64 1], [.int .i64 2]])), .c (.d (.int .i64 0)), .c (.d (.sl [[.int .i64 0]]))], GH0, Uh), (147, [.agg [.d (.int .i64 4), .d (.int .i64 1), .d (.int .i64 0), .d (.sl rd7)], .c (.d (.sl [[.int .i64 0], [.int .i64 1], [.int .i64 2]]))], GH0, Ui)]
theorem aIG : ∀ e ∈ aEJ, PureG Tryz.prog e.2.2.1 e.1 e.2.1 e.2.2.2 := (Aa aEG (Aa aEH (Aa aEI (Aa aFU (Aa aFV (Aa aFW Ab))))))
end Go.Proofs.YtfgdbeijjbijnaaGreatDoor
