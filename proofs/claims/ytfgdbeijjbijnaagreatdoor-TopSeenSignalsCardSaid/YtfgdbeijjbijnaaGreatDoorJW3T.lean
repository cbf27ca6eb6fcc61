/- Calls of examples, run by the kernel. -/
import Derived.Test.YtfgdbeijjbijnaaGreatDoorJWD
set_option linter.unusedSimpArgs false
set_option linter.unusedVariables false
set_option linter.unusedVariables false
set_option maxRecDepth 100000
namespace Go.Proofs.YtfgdbeijjbijnaaGreatDoor
open Go Go.Abs Go.Proofs
def Jc : V := .tup [.c (.d (.int .i64 23)), .c (.d (.bool true))]
theorem QF : PureG Tryz.prog GH0 352 [.c (.dp AT), iv 0, rgV 10 10] Jc := pure_yres (X := tx) (E := exW []) 50000 wmo (Al _ Ae) rfl (by kernel_rfl) (by kernel_rfl) (by kernel_rfl)
def Jd : V := .tup [.c (.d (.int .i64 25)), .c (.d (.bool true))]
theorem QG : PureG Tryz.prog GH0 352 [.c (.dp AT), iv 0, rgV 11 11] Jd := pure_yres (X := tx) (E := exW []) 50000 wmo (Al _ Ae) rfl (by kernel_rfl) (by kernel_rfl) (by kernel_rfl)
def Je : V := .tup [.c (.d (.int .i64 27)), .c (.d (.bool true))]
theorem QH : PureG Tryz.prog GH0 352 [.c (.dp AT), iv 0, rgV 12 12] Je := pure_yres (X := tx) (E := exW []) 50000 wmo (Al _ Ae) rfl (by kernel_rfl) (by kernel_rfl) (by kernel_rfl)
def Ll : V := .tup [.c (.d (.int .i64 11)), .c (.d (.bool true))]
theorem Sb : PureG Tryz.prog GH0 352 [.c (.dp AT), iv 1, rgV 4 4] Ll := pure_yres (X := tx) (E := exW []) 50000 wmo (Al _ Ae) rfl (by kernel_rfl) (by kernel_rfl) (by kernel_rfl)
def Lm : V := .tup [.c (.d (.int .i64 13)), .c (.d (.bool true))]
theorem Sc : PureG Tryz.prog GH0 352 [.c (.dp AT), iv 1, rgV 5 5] Lm := pure_yres (X := tx) (E := exW []) 50000 wmo (Al _ Ae) rfl (by kernel_rfl) (by kernel_rfl) (by kernel_rfl)
def Ln : V := .tup [.c (.d (.int .i64 15)), .c (.d (.bool true))]
theorem Sd : PureG Tryz.prog GH0 352 [.c (.dp AT), iv 1, rgV 6 6] Ln := pure_yres (X := tx) (E := exW []) 50000 wmo (Al _ Ae) rfl (by kernel_rfl) (by kernel_rfl) (by kernel_rfl)
def Lo : V := .tup [.c (.d (.int .i64 16)), .c (.d (.bool true))]
theorem Se : PureG Tryz.prog GH0 352 [.c (.dp AT), iv 1, rgV 7 7] Lo := pure_yres (X := tx) (E := exW []) 50000 wmo (Al _ Ae) rfl (by kernel_rfl) (by kernel_rfl) (by kernel_rfl)
def Lp : V := .tup [.c (.d (.int .i64 17)), .c (.d (.bool true))]
theorem Sf : PureG Tryz.prog GH0 352 [.c (.dp AT), iv 1, rgV 8 8] Lp := pure_yres (X := tx) (E := exW []) 50000 wmo (Al _ Ae) rfl (by kernel_rfl) (by kernel_rfl) (by kernel_rfl)
def Lq : V := .tup [.c (.d (.int .i64 18)), .c (.d (.bool true))]
theorem Sg : PureG Tryz.prog GH0 352 [.c (.dp AT), iv 1, rgV 9 9] Lq := pure_yres (X := tx) (E := exW []) 50000 wmo (Al _ Ae) rfl (by kernel_rfl) (by kernel_rfl) (by kernel_rfl)
def Jf : V := .tup [.c (.d (.int .i64 19)), .c (.d (.bool true))]
theorem QI : PureG Tryz.prog GH0 352 [.c (.dp AT), iv 1, rgV 10 10] Jf := pure_yres (X := tx) (E := exW []) 50000 wmo (Al _ Ae) rfl (by kernel_rfl) (by kernel_rfl) (by kernel_rfl)
def Jg : V := .tup [.c (.d (.int .i64 19)), .c (.d (.bool true))]
theorem QJ : PureG Tryz.prog GH0 352 [.c (.dp AT), iv 1, rgV 11 11] Jg := pure_yres (X := tx) (E := exW []) 50000 wmo (Al _ Ae) rfl (by kernel_rfl) (by kernel_rfl) (by kernel_rfl)
def Jh : V := .tup [.c (.d (.int .i64 19)), .c (.d (.bool true))]
theorem QK : PureG Tryz.prog GH0 352 [.c (.dp AT), iv 1, rgV 12 12] Jh := pure_yres (X := tx) (E := exW []) 50000 wmo (Al _ Ae) rfl (by kernel_rfl) (by kernel_rfl) (by kernel_rfl)
def aDF : List (Nat × List V × List AB × V) := [(352, [.c (.dp AT), iv 0, rgV 10 10], GH0, Jc), (352, [.c (.dp AT), iv 0, rgV 11 11], GH0, Jd), (352, [.c (.dp AT), iv 0, rgV 12 12], GH0, Je), (352, [.c (.dp AT), iv 1, rgV 4 4], GH0, Ll), (352, [.c (.dp AT), iv 1, rgV 5 5], GH0, Lm), (352, [.c (.dp AT), iv 1, rgV 6 6], GH0, Ln), (352, [.c (.dp AT), iv 1, rgV 7 7], GH0, Lo), (352, [.c (.dp AT), iv 1, rgV 8 8], GH0, Lp), (352, [.c (.dp AT), iv 1, rgV 9 9], GH0, Lq), (352, [.c (.dp AT), iv 1, rgV 10 10], GH0, Jf), (352, [.c (.dp AT), iv 1, rgV 11 11], GH0, Jg), (352, [.c (.dp AT), iv 1, rgV 12 12], GH0, Jh)]
theorem aHx : ∀ e ∈ aDF, PureG Tryz.prog e.2.2.1 e.1 e.2.1 e.2.2.2 := (Ab QF (Ab QG (Ab QH (Ab Sb (Ab Sc (Ab Sd (Ab Se (Ab Sf (Ab Sg (Ab QI (Ab QJ (Ab QK Ae))))))))))))
end Go.Proofs.YtfgdbeijjbijnaaGreatDoor
