/- Calls of examples, run by the kernel. -/
import Derived.Test.YtfgdbeijjbijnaaGreatDoorHWD
set_option linter.unusedSimpArgs false
set_option linter.unusedVariables false
set_option linter.unusedVariables false
set_option maxRecDepth 100000
namespace Go.Proofs.YtfgdbeijjbijnaaGreatDoor
open Go Go.Abs Go.Proofs
def Rp : V := .tup [.c (.d (.sl [[.int .i64 0], [.int .i64 2]])), .c (.d (.int .i64 9)), .c (.d (.int .i64 0))]
theorem aEK : PureG Tryz.prog GH1 30 [.agg [.d (.int .i64 4), .d (.int .i64 0), .d (.int .i64 0), .d (.sl rd7)]] Rp := pure_yres (X := tx) (E := exW []) 50000 wmo (Ag _ Ab) rfl (by kernel_rfl) (by kernel_rfl) (by kernel_rfl)
def Rq : V := .tup [.c (.d (.sl [[.int .i64 0], [.int .i64 2], [.int .i64 3]])), .c (.d (.int .i64 19)), .c (.d (.int .i64 0))]
theorem aEL : PureG Tryz.prog GH1 30 [.agg [.d (.int .i64 4), .d (.int .i64 1), .d (.int .i64 0), .d (.sl rd7)]] Rq := pure_yres (X := tx) (E := exW []) 50000 wmo (Ag _ Ab) rfl (by kernel_rfl) (by kernel_rfl) (by kernel_rfl)
def Uj : V := .tup [.c (.d (.sl [[.int .i64 6], [.int .i64 0], [.int .i64 1], [.int .i64 3]])), .c (.d (.int .i64 0))]
theorem aFX : PureG Tryz.prog GH1 35 [.agg [.d (.int .i64 4), .d (.int .i64 1), .d (.int .i64 0), .d (.sl rd7)]] Uj := pure_yres (X := tx) (E := exW []) 50000 wmo (Ag _ Ab) rfl (by kernel_rfl) (by kernel_rfl) (by kernel_rfl)
def aEM : List (Nat × List V × List AB × V) := [(30, [.agg [.d (.int .i64 4), .d (.int .i64 0), .d (.int .i64 0), .d (.sl rd7)]], GH1, Rp), (30, [.agg [.d (.int .i64 4), .d (.int .i64 1), .d (.int .i64 0), .d (.sl rd7)]], GH1, Rq), (35, [.agg [.d (.int .i64 4), .d (.int .i64 1), .d (.int .i64 0), .d (.sl rd7)]], GH1, Uj)]
theorem aIH : ∀ e ∈ aEM, PureG Tryz.prog e.2.2.1 e.1 e.2.1 e.2.2.2 := (Aa aEK (Aa aEL (Aa aFX Ab)))
end Go.Proofs.YtfgdbeijjbijnaaGreatDoor
