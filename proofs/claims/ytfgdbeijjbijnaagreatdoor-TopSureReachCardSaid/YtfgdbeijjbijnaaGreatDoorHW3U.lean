/- Calls of examples, run by the kernel. -/
import Derived.Test.YtfgdbeijjbijnaaGreatDoorHWD
set_option linter.unusedSimpArgs false
set_option linter.unusedVariables false
set_option linter.unusedVariables false
set_option maxRecDepth 100000
namespace Go.Proofs.YtfgdbeijjbijnaaGreatDoor
open Go Go.Abs Go.Proofs
def Ll : V := .tup [.c (.d (.int .i64 19)), .c (.d (.bool true))]
theorem SA : PureG Tryz.prog GH0 352 [.c (.dp AG), iv 2, rgV 4 4] Ll := pure_yres (X := tx) (E := exW []) 50000 wmo (Ag _ Ab) rfl (by kernel_rfl) (by kernel_rfl) (by kernel_rfl)
def Lm : V := .tup [.c (.d (.int .i64 19)), .c (.d (.bool true))]
theorem SB : PureG Tryz.prog GH0 352 [.c (.dp AG), iv 2, rgV 5 5] Lm := pure_yres (X := tx) (E := exW []) 50000 wmo (Ag _ Ab) rfl (by kernel_rfl) (by kernel_rfl) (by kernel_rfl)
def Ln : V := .tup [.c (.d (.int .i64 19)), .c (.d (.bool true))]
theorem SC : PureG Tryz.prog GH0 352 [.c (.dp AG), iv 2, rgV 6 6] Ln := pure_yres (X := tx) (E := exW []) 50000 wmo (Ag _ Ab) rfl (by kernel_rfl) (by kernel_rfl) (by kernel_rfl)
def Lp : V := .tup [.c (.d (.int .i64 18)), .c (.d (.bool true))]
theorem SD : PureG Tryz.prog GH0 352 [.c (.dp AG), iv 2, rgV 7 7] Lp := pure_yres (X := tx) (E := exW []) 50000 wmo (Ag _ Ab) rfl (by kernel_rfl) (by kernel_rfl) (by kernel_rfl)
def Lq : V := .tup [.c (.d (.int .i64 17)), .c (.d (.bool true))]
theorem SE : PureG Tryz.prog GH0 352 [.c (.dp AG), iv 2, rgV 8 8] Lq := pure_yres (X := tx) (E := exW []) 50000 wmo (Ag _ Ab) rfl (by kernel_rfl) (by kernel_rfl) (by kernel_rfl)
def Ls : V := .tup [.c (.d (.int .i64 16)), .c (.d (.bool true))]
theorem SF : PureG Tryz.prog GH0 352 [.c (.dp AG), iv 2, rgV 9 9] Ls := pure_yres (X := tx) (E := exW []) 50000 wmo (Ag _ Ab) rfl (by kernel_rfl) (by kernel_rfl) (by kernel_rfl)
def I5 : V := .tup [.c (.d (.int .i64 15)), .c (.d (.bool true))]
theorem Q2 : PureG Tryz.prog GH0 352 [.c (.dp AG), iv 2, rgV 10 10] I5 := pure_yres (X := tx) (E := exW []) 50000 wmo (Ag _ Ab) rfl (by kernel_rfl) (by kernel_rfl) (by kernel_rfl)
def I6 : V := .tup [.c (.d (.int .i64 13)), .c (.d (.bool true))]
theorem Q3 : PureG Tryz.prog GH0 352 [.c (.dp AG), iv 2, rgV 11 11] I6 := pure_yres (X := tx) (E := exW []) 50000 wmo (Ag _ Ab) rfl (by kernel_rfl) (by kernel_rfl) (by kernel_rfl)
def I7 : V := .tup [.c (.d (.int .i64 11)), .c (.d (.bool true))]
theorem Q4 : PureG Tryz.prog GH0 352 [.c (.dp AG), iv 2, rgV 12 12] I7 := pure_yres (X := tx) (E := exW []) 50000 wmo (Ag _ Ab) rfl (by kernel_rfl) (by kernel_rfl) (by kernel_rfl)
def Lt : V := .tup [.c (.d (.int .i64 27)), .c (.d (.bool true))]
theorem SG : PureG Tryz.prog GH0 352 [.c (.dp AG), iv 3, rgV 4 4] Lt := pure_yres (X := tx) (E := exW []) 50000 wmo (Ag _ Ab) rfl (by kernel_rfl) (by kernel_rfl) (by kernel_rfl)
def Lu : V := .tup [.c (.d (.int .i64 24)), .c (.d (.bool true))]
theorem SI : PureG Tryz.prog GH0 352 [.c (.dp AG), iv 3, rgV 5 5] Lu := pure_yres (X := tx) (E := exW []) 50000 wmo (Ag _ Ab) rfl (by kernel_rfl) (by kernel_rfl) (by kernel_rfl)
def Lv : V := .tup [.c (.d (.int .i64 20)), .c (.d (.bool true))]
theorem SJ : PureG Tryz.prog GH0 352 [.c (.dp AG), iv 3, rgV 6 6] Lv := pure_yres (X := tx) (E := exW []) 50000 wmo (Ag _ Ab) rfl (by kernel_rfl) (by kernel_rfl) (by kernel_rfl)
def aEm : List (Nat × List V × List AB × V) := [(352, [.c (.dp AG), iv 2, rgV 4 4], GH0, Ll), (352, [.c (.dp AG), iv 2, rgV 5 5], GH0, Lm), (352, [.c (.dp AG), iv 2, rgV 6 6], GH0, Ln), (352, [.c (.dp AG), iv 2, rgV 7 7], GH0, Lp), (352, [.c (.dp AG), iv 2, rgV 8 8], GH0, Lq), (352, [.c (.dp AG), iv 2, rgV 9 9], GH0, Ls), (352, [.c (.dp AG), iv 2, rgV 10 10], GH0, I5), (352, [.c (.dp AG), iv 2, rgV 11 11], GH0, I6), (352, [.c (.dp AG), iv 2, rgV 12 12], GH0, I7), (352, [.c (.dp AG), iv 3, rgV 4 4], GH0, Lt), (352, [.c (.dp AG), iv 3, rgV 5 5], GH0, Lu), (352, [.c (.dp AG), iv 3, rgV 6 6], GH0, Lv)]
theorem aIx : ∀ e ∈ aEm, PureG Tryz.prog e.2.2.1 e.1 e.2.1 e.2.2.2 := (Aa SA (Aa SB (Aa SC (Aa SD (Aa SE (Aa SF (Aa Q2 (Aa Q3 (Aa Q4 (Aa SG (Aa SI (Aa SJ Ab))))))))))))
end Go.Proofs.YtfgdbeijjbijnaaGreatDoor
