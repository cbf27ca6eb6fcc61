/- Calls of examples, run by the kernel. -/
import Derived.Test.YtfgdbeijjbijnaaGreatDoorHWD
set_option linter.unusedSimpArgs false
set_option linter.unusedVariables false
set_option linter.unusedVariables false
set_option maxRecDepth 100000
namespace Go.Proofs.YtfgdbeijjbijnaaGreatDoor
open Go Go.Abs Go.Proofs
def IZ : V := .tup [.c (.d (.int .i64 23)), .c (.d (.bool true))]
theorem QW : PureG Tryz.prog GH0 352 [.c (.dp AG), iv 0, rgV 10 10] IZ := pure_yres (X := tx) (E := exW []) 50000 wmo (Ag _ Ab) rfl (by kernel_rfl) (by kernel_rfl) (by kernel_rfl)
def I0 : V := .tup [.c (.d (.int .i64 25)), .c (.d (.bool true))]
theorem QX : PureG Tryz.prog GH0 352 [.c (.dp AG), iv 0, rgV 11 11] I0 := pure_yres (X := tx) (E := exW []) 50000 wmo (Ag _ Ab) rfl (by kernel_rfl) (by kernel_rfl) (by kernel_rfl)
def I1 : V := .tup [.c (.d (.int .i64 27)), .c (.d (.bool true))]
theorem QY : PureG Tryz.prog GH0 352 [.c (.dp AG), iv 0, rgV 12 12] I1 := pure_yres (X := tx) (E := exW []) 50000 wmo (Ag _ Ab) rfl (by kernel_rfl) (by kernel_rfl) (by kernel_rfl)
def Lf : V := .tup [.c (.d (.int .i64 11)), .c (.d (.bool true))]
theorem Su : PureG Tryz.prog GH0 352 [.c (.dp AG), iv 1, rgV 4 4] Lf := pure_yres (X := tx) (E := exW []) 50000 wmo (Ag _ Ab) rfl (by kernel_rfl) (by kernel_rfl) (by kernel_rfl)
def Lg : V := .tup [.c (.d (.int .i64 13)), .c (.d (.bool true))]
theorem Sv : PureG Tryz.prog GH0 352 [.c (.dp AG), iv 1, rgV 5 5] Lg := pure_yres (X := tx) (E := exW []) 50000 wmo (Ag _ Ab) rfl (by kernel_rfl) (by kernel_rfl) (by kernel_rfl)
def Lh : V := .tup [.c (.d (.int .i64 15)), .c (.d (.bool true))]
theorem Sw : PureG Tryz.prog GH0 352 [.c (.dp AG), iv 1, rgV 6 6] Lh := pure_yres (X := tx) (E := exW []) 50000 wmo (Ag _ Ab) rfl (by kernel_rfl) (by kernel_rfl) (by kernel_rfl)
def Li : V := .tup [.c (.d (.int .i64 16)), .c (.d (.bool true))]
theorem Sx : PureG Tryz.prog GH0 352 [.c (.dp AG), iv 1, rgV 7 7] Li := pure_yres (X := tx) (E := exW []) 50000 wmo (Ag _ Ab) rfl (by kernel_rfl) (by kernel_rfl) (by kernel_rfl)
def Lj : V := .tup [.c (.d (.int .i64 17)), .c (.d (.bool true))]
theorem Sy : PureG Tryz.prog GH0 352 [.c (.dp AG), iv 1, rgV 8 8] Lj := pure_yres (X := tx) (E := exW []) 50000 wmo (Ag _ Ab) rfl (by kernel_rfl) (by kernel_rfl) (by kernel_rfl)
def Lk : V := .tup [.c (.d (.int .i64 18)), .c (.d (.bool true))]
theorem Sz : PureG Tryz.prog GH0 352 [.c (.dp AG), iv 1, rgV 9 9] Lk := pure_yres (X := tx) (E := exW []) 50000 wmo (Ag _ Ab) rfl (by kernel_rfl) (by kernel_rfl) (by kernel_rfl)
def I2 : V := .tup [.c (.d (.int .i64 19)), .c (.d (.bool true))]
theorem QZ : PureG Tryz.prog GH0 352 [.c (.dp AG), iv 1, rgV 10 10] I2 := pure_yres (X := tx) (E := exW []) 50000 wmo (Ag _ Ab) rfl (by kernel_rfl) (by kernel_rfl) (by kernel_rfl)
def I3 : V := .tup [.c (.d (.int .i64 19)), .c (.d (.bool true))]
theorem Q0 : PureG Tryz.prog GH0 352 [.c (.dp AG), iv 1, rgV 11 11] I3 := pure_yres (X := tx) (E := exW []) 50000 wmo (Ag _ Ab) rfl (by kernel_rfl) (by kernel_rfl) (by kernel_rfl)
def I4 : V := .tup [.c (.d (.int .i64 19)), .c (.d (.bool true))]
theorem Q1 : PureG Tryz.prog GH0 352 [.c (.dp AG), iv 1, rgV 12 12] I4 := pure_yres (X := tx) (E := exW []) 50000 wmo (Ag _ Ab) rfl (by kernel_rfl) (by kernel_rfl) (by kernel_rfl)
def aEl : List (Nat × List V × List AB × V) := [(352, [.c (.dp AG), iv 0, rgV 10 10], GH0, IZ), (352, [.c (.dp AG), iv 0, rgV 11 11], GH0, I0), (352, [.c (.dp AG), iv 0, rgV 12 12], GH0, I1), (352, [.c (.dp AG), iv 1, rgV 4 4], GH0, Lf), (352, [.c (.dp AG), iv 1, rgV 5 5], GH0, Lg), (352, [.c (.dp AG), iv 1, rgV 6 6], GH0, Lh), (352, [.c (.dp AG), iv 1, rgV 7 7], GH0, Li), (352, [.c (.dp AG), iv 1, rgV 8 8], GH0, Lj), (352, [.c (.dp AG), iv 1, rgV 9 9], GH0, Lk), (352, [.c (.dp AG), iv 1, rgV 10 10], GH0, I2), (352, [.c (.dp AG), iv 1, rgV 11 11], GH0, I3), (352, [.c (.dp AG), iv 1, rgV 12 12], GH0, I4)]
theorem aIw : ∀ e ∈ aEl, PureG Tryz.prog e.2.2.1 e.1 e.2.1 e.2.2.2 := (Aa QW (Aa QX (Aa QY (Aa Su (Aa Sv (Aa Sw (Aa Sx (Aa Sy (Aa Sz (Aa QZ (Aa Q0 (Aa Q1 Ab))))))))))))
end Go.Proofs.YtfgdbeijjbijnaaGreatDoor
