/- Calls of examples, run by the kernel. -/
import Derived.Test.YtfgdbeijjbijnaaGreatDoorJWD
set_option linter.unusedSimpArgs false
set_option linter.unusedVariables false
set_option linter.unusedVariables false
set_option maxRecDepth 100000
namespace Go.Proofs.YtfgdbeijjbijnaaGreatDoor
open Go Go.Abs Go.Proofs
def LB : V := .tup [.c (.d (.int .i64 22)), .c (.d (.bool true))]
theorem Sq : PureG Tryz.prog GH0 352 [.c (.dp AT), iv 4, rgV 4 4] LB := pure_yres (X := tx) (E := exW []) 50000 wmo (Al _ Ae) rfl (by kernel_rfl) (by kernel_rfl) (by kernel_rfl)
def LC : V := .tup [.c (.d (.int .i64 23)), .c (.d (.bool true))]
theorem Sr : PureG Tryz.prog GH0 352 [.c (.dp AT), iv 4, rgV 5 5] LC := pure_yres (X := tx) (E := exW []) 50000 wmo (Al _ Ae) rfl (by kernel_rfl) (by kernel_rfl) (by kernel_rfl)
def LD : V := .tup [.c (.d (.int .i64 23)), .c (.d (.bool true))]
theorem Ss : PureG Tryz.prog GH0 352 [.c (.dp AT), iv 4, rgV 6 6] LD := pure_yres (X := tx) (E := exW []) 50000 wmo (Al _ Ae) rfl (by kernel_rfl) (by kernel_rfl) (by kernel_rfl)
def LF : V := .tup [.c (.d (.int .i64 22)), .c (.d (.bool true))]
theorem Su : PureG Tryz.prog GH0 352 [.c (.dp AT), iv 4, rgV 7 7] LF := pure_yres (X := tx) (E := exW []) 50000 wmo (Al _ Ae) rfl (by kernel_rfl) (by kernel_rfl) (by kernel_rfl)
def LG : V := .tup [.c (.d (.int .i64 21)), .c (.d (.bool true))]
theorem Sv : PureG Tryz.prog GH0 352 [.c (.dp AT), iv 4, rgV 8 8] LG := pure_yres (X := tx) (E := exW []) 50000 wmo (Al _ Ae) rfl (by kernel_rfl) (by kernel_rfl) (by kernel_rfl)
def LH : V := .tup [.c (.d (.int .i64 20)), .c (.d (.bool true))]
theorem Sw : PureG Tryz.prog GH0 352 [.c (.dp AT), iv 4, rgV 9 9] LH := pure_yres (X := tx) (E := exW []) 50000 wmo (Al _ Ae) rfl (by kernel_rfl) (by kernel_rfl) (by kernel_rfl)
def LI : V := .tup [.c (.d (.int .i64 20)), .c (.d (.bool true))]
theorem Sx : PureG Tryz.prog GH0 352 [.c (.dp AT), iv 5, rgV 5 5] LI := pure_yres (X := tx) (E := exW []) 50000 wmo (Al _ Ae) rfl (by kernel_rfl) (by kernel_rfl) (by kernel_rfl)
def LJ : V := .tup [.c (.d (.int .i64 22)), .c (.d (.bool true))]
theorem Sy : PureG Tryz.prog GH0 352 [.c (.dp AT), iv 5, rgV 6 6] LJ := pure_yres (X := tx) (E := exW []) 50000 wmo (Al _ Ae) rfl (by kernel_rfl) (by kernel_rfl) (by kernel_rfl)
def LK : V := .tup [.c (.d (.int .i64 23)), .c (.d (.bool true))]
theorem Sz : PureG Tryz.prog GH0 352 [.c (.dp AT), iv 5, rgV 7 7] LK := pure_yres (X := tx) (E := exW []) 50000 wmo (Al _ Ae) rfl (by kernel_rfl) (by kernel_rfl) (by kernel_rfl)
def LL : V := .tup [.c (.d (.int .i64 24)), .c (.d (.bool true))]
theorem SA : PureG Tryz.prog GH0 352 [.c (.dp AT), iv 5, rgV 8 8] LL := pure_yres (X := tx) (E := exW []) 50000 wmo (Al _ Ae) rfl (by kernel_rfl) (by kernel_rfl) (by kernel_rfl)
def LM : V := .tup [.c (.d (.int .i64 25)), .c (.d (.bool true))]
theorem SB : PureG Tryz.prog GH0 352 [.c (.dp AT), iv 5, rgV 9 9] LM := pure_yres (X := tx) (E := exW []) 50000 wmo (Al _ Ae) rfl (by kernel_rfl) (by kernel_rfl) (by kernel_rfl)
def aDH : List (Nat × List V × List AB × V) := [(352, [.c (.dp AT), iv 4, rgV 4 4], GH0, LB), (352, [.c (.dp AT), iv 4, rgV 5 5], GH0, LC), (352, [.c (.dp AT), iv 4, rgV 6 6], GH0, LD), (352, [.c (.dp AT), iv 4, rgV 7 7], GH0, LF), (352, [.c (.dp AT), iv 4, rgV 8 8], GH0, LG), (352, [.c (.dp AT), iv 4, rgV 9 9], GH0, LH), (352, [.c (.dp AT), iv 5, rgV 5 5], GH0, LI), (352, [.c (.dp AT), iv 5, rgV 6 6], GH0, LJ), (352, [.c (.dp AT), iv 5, rgV 7 7], GH0, LK), (352, [.c (.dp AT), iv 5, rgV 8 8], GH0, LL), (352, [.c (.dp AT), iv 5, rgV 9 9], GH0, LM)]
theorem aHz : ∀ e ∈ aDH, PureG Tryz.prog e.2.2.1 e.1 e.2.1 e.2.2.2 := (Ab Sq (Ab Sr (Ab Ss (Ab Su (Ab Sv (Ab Sw (Ab Sx (Ab Sy (Ab Sz (Ab SA (Ab SB Ae)))))))))))
end Go.Proofs.YtfgdbeijjbijnaaGreatDoor
