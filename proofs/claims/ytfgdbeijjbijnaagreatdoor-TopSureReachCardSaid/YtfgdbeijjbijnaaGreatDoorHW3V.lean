/- Calls of examples, run by the kernel. -/
import Derived.Test.YtfgdbeijjbijnaaGreatDoorHWD
set_option linter.unusedSimpArgs false
set_option linter.unusedVariables false
set_option linter.unusedVariables false
set_option maxRecDepth 100000
namespace Go.Proofs.YtfgdbeijjbijnaaGreatDoor
open Go Go.Abs Go.Proofs
def Lw : V := .tup [.c (.d (.int .i64 22)), .c (.d (.bool true))]
theorem SK : PureG Tryz.prog GH0 352 [.c (.dp AG), iv 4, rgV 4 4] Lw := pure_yres (X := tx) (E := exW []) 50000 wmo (Ag _ Ab) rfl (by kernel_rfl) (by kernel_rfl) (by kernel_rfl)
def Lx : V := .tup [.c (.d (.int .i64 23)), .c (.d (.bool true))]
theorem SM : PureG Tryz.prog GH0 352 [.c (.dp AG), iv 4, rgV 5 5] Lx := pure_yres (X := tx) (E := exW []) 50000 wmo (Ag _ Ab) rfl (by kernel_rfl) (by kernel_rfl) (by kernel_rfl)
def Ly : V := .tup [.c (.d (.int .i64 23)), .c (.d (.bool true))]
theorem SN : PureG Tryz.prog GH0 352 [.c (.dp AG), iv 4, rgV 6 6] Ly := pure_yres (X := tx) (E := exW []) 50000 wmo (Ag _ Ab) rfl (by kernel_rfl) (by kernel_rfl) (by kernel_rfl)
def Lz : V := .tup [.c (.d (.int .i64 22)), .c (.d (.bool true))]
theorem SO : PureG Tryz.prog GH0 352 [.c (.dp AG), iv 4, rgV 7 7] Lz := pure_yres (X := tx) (E := exW []) 50000 wmo (Ag _ Ab) rfl (by kernel_rfl) (by kernel_rfl) (by kernel_rfl)
def LA : V := .tup [.c (.d (.int .i64 21)), .c (.d (.bool true))]
theorem SP : PureG Tryz.prog GH0 352 [.c (.dp AG), iv 4, rgV 8 8] LA := pure_yres (X := tx) (E := exW []) 50000 wmo (Ag _ Ab) rfl (by kernel_rfl) (by kernel_rfl) (by kernel_rfl)
def LB : V := .tup [.c (.d (.int .i64 20)), .c (.d (.bool true))]
theorem SQ : PureG Tryz.prog GH0 352 [.c (.dp AG), iv 4, rgV 9 9] LB := pure_yres (X := tx) (E := exW []) 50000 wmo (Ag _ Ab) rfl (by kernel_rfl) (by kernel_rfl) (by kernel_rfl)
def LC : V := .tup [.c (.d (.int .i64 20)), .c (.d (.bool true))]
theorem SR : PureG Tryz.prog GH0 352 [.c (.dp AG), iv 5, rgV 5 5] LC := pure_yres (X := tx) (E := exW []) 50000 wmo (Ag _ Ab) rfl (by kernel_rfl) (by kernel_rfl) (by kernel_rfl)
def LD : V := .tup [.c (.d (.int .i64 22)), .c (.d (.bool true))]
theorem SS : PureG Tryz.prog GH0 352 [.c (.dp AG), iv 5, rgV 6 6] LD := pure_yres (X := tx) (E := exW []) 50000 wmo (Ag _ Ab) rfl (by kernel_rfl) (by kernel_rfl) (by kernel_rfl)
def LF : V := .tup [.c (.d (.int .i64 23)), .c (.d (.bool true))]
theorem ST : PureG Tryz.prog GH0 352 [.c (.dp AG), iv 5, rgV 7 7] LF := pure_yres (X := tx) (E := exW []) 50000 wmo (Ag _ Ab) rfl (by kernel_rfl) (by kernel_rfl) (by kernel_rfl)
def LG : V := .tup [.c (.d (.int .i64 24)), .c (.d (.bool true))]
theorem SU : PureG Tryz.prog GH0 352 [.c (.dp AG), iv 5, rgV 8 8] LG := pure_yres (X := tx) (E := exW []) 50000 wmo (Ag _ Ab) rfl (by kernel_rfl) (by kernel_rfl) (by kernel_rfl)
def LH : V := .tup [.c (.d (.int .i64 25)), .c (.d (.bool true))]
theorem SV : PureG Tryz.prog GH0 352 [.c (.dp AG), iv 5, rgV 9 9] LH := pure_yres (X := tx) (E := exW []) 50000 wmo (Ag _ Ab) rfl (by kernel_rfl) (by kernel_rfl) (by kernel_rfl)
def aEn : List (Nat × List V × List AB × V) := [(352, [.c (.dp AG), iv 4, rgV 4 4], GH0, Lw), (352, [.c (.dp AG), iv 4, rgV 5 5], GH0, Lx), (352, [.c (.dp AG), iv 4, rgV 6 6], GH0, Ly), (352, [.c (.dp AG), iv 4, rgV 7 7], GH0, Lz), (352, [.c (.dp AG), iv 4, rgV 8 8], GH0, LA), (352, [.c (.dp AG), iv 4, rgV 9 9], GH0, LB), (352, [.c (.dp AG), iv 5, rgV 5 5], GH0, LC), (352, [.c (.dp AG), iv 5, rgV 6 6], GH0, LD), (352, [.c (.dp AG), iv 5, rgV 7 7], GH0, LF), (352, [.c (.dp AG), iv 5, rgV 8 8], GH0, LG), (352, [.c (.dp AG), iv 5, rgV 9 9], GH0, LH)]
theorem aIy : ∀ e ∈ aEn, PureG Tryz.prog e.2.2.1 e.1 e.2.1 e.2.2.2 := (Aa SK (Aa SM (Aa SN (Aa SO (Aa SP (Aa SQ (Aa SR (Aa SS (Aa ST (Aa SU (Aa SV Ab)))))))))))
end Go.Proofs.YtfgdbeijjbijnaaGreatDoor
