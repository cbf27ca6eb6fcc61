/- Calls of examples, run by the kernel. -/
import Derived.Test.YtfgdbeijjbijnaaGreatDoorJWD
set_option linter.unusedSimpArgs false
set_option linter.unusedVariables false
set_option linter.unusedVariables false
set_option maxRecDepth 100000
namespace Go.Proofs.YtfgdbeijjbijnaaGreatDoor
open Go Go.Abs Go.Proofs
def Ls : V := .tup [.c (.d (.int .i64 19)), .c (.d (.bool true))]
theorem Sh : PureG Tryz.prog GH0 352 [.c (.dp AT), iv 2, rgV 4 4] Ls := pure_yres (X := tx) (E := exW []) 50000 wmo (Al _ Ae) rfl (by kernel_rfl) (by kernel_rfl) (by kernel_rfl)
def Lt : V := .tup [.c (.d (.int .i64 19)), .c (.d (.bool true))]
theorem Si : PureG Tryz.prog GH0 352 [.c (.dp AT), iv 2, rgV 5 5] Lt := pure_yres (X := tx) (E := exW []) 50000 wmo (Al _ Ae) rfl (by kernel_rfl) (by kernel_rfl) (by kernel_rfl)
def Lu : V := .tup [.c (.d (.int .i64 19)), .c (.d (.bool true))]
theorem Sj : PureG Tryz.prog GH0 352 [.c (.dp AT), iv 2, rgV 6 6] Lu := pure_yres (X := tx) (E := exW []) 50000 wmo (Al _ Ae) rfl (by kernel_rfl) (by kernel_rfl) (by kernel_rfl)
def Lv : V := .tup [.c (.d (.int .i64 18)), .c (.d (.bool true))]
theorem Sk : PureG Tryz.prog GH0 352 [.c (.dp AT), iv 2, rgV 7 7] Lv := pure_yres (X := tx) (E := exW []) 50000 wmo (Al _ Ae) rfl (by kernel_rfl) (by kernel_rfl) (by kernel_rfl)
def Lw : V := .tup [.c (.d (.int .i64 17)), .c (.d (.bool true))]
theorem Sl : PureG Tryz.prog GH0 352 [.c (.dp AT), iv 2, rgV 8 8] Lw := pure_yres (X := tx) (E := exW []) 50000 wmo (Al _ Ae) rfl (by kernel_rfl) (by kernel_rfl) (by kernel_rfl)
def Lx : V := .tup [.c (.d (.int .i64 16)), .c (.d (.bool true))]
theorem Sm : PureG Tryz.prog GH0 352 [.c (.dp AT), iv 2, rgV 9 9] Lx := pure_yres (X := tx) (E := exW []) 50000 wmo (Al _ Ae) rfl (by kernel_rfl) (by kernel_rfl) (by kernel_rfl)
def Ji : V := .tup [.c (.d (.int .i64 15)), .c (.d (.bool true))]
theorem QL : PureG Tryz.prog GH0 352 [.c (.dp AT), iv 2, rgV 10 10] Ji := pure_yres (X := tx) (E := exW []) 50000 wmo (Al _ Ae) rfl (by kernel_rfl) (by kernel_rfl) (by kernel_rfl)
def Jj : V := .tup [.c (.d (.int .i64 13)), .c (.d (.bool true))]
theorem QM : PureG Tryz.prog GH0 352 [.c (.dp AT), iv 2, rgV 11 11] Jj := pure_yres (X := tx) (E := exW []) 50000 wmo (Al _ Ae) rfl (by kernel_rfl) (by kernel_rfl) (by kernel_rfl)
def Jk : V := .tup [.c (.d (.int .i64 11)), .c (.d (.bool true))]
theorem QN : PureG Tryz.prog GH0 352 [.c (.dp AT), iv 2, rgV 12 12] Jk := pure_yres (X := tx) (E := exW []) 50000 wmo (Al _ Ae) rfl (by kernel_rfl) (by kernel_rfl) (by kernel_rfl)
def Ly : V := .tup [.c (.d (.int .i64 27)), .c (.d (.bool true))]
theorem Sn : PureG Tryz.prog GH0 352 [.c (.dp AT), iv 3, rgV 4 4] Ly := pure_yres (X := tx) (E := exW []) 50000 wmo (Al _ Ae) rfl (by kernel_rfl) (by kernel_rfl) (by kernel_rfl)
def Lz : V := .tup [.c (.d (.int .i64 24)), .c (.d (.bool true))]
theorem So : PureG Tryz.prog GH0 352 [.c (.dp AT), iv 3, rgV 5 5] Lz := pure_yres (X := tx) (E := exW []) 50000 wmo (Al _ Ae) rfl (by kernel_rfl) (by kernel_rfl) (by kernel_rfl)
def LA : V := .tup [.c (.d (.int .i64 20)), .c (.d (.bool true))]
theorem Sp : PureG Tryz.prog GH0 352 [.c (.dp AT), iv 3, rgV 6 6] LA := pure_yres (X := tx) (E := exW []) 50000 wmo (Al _ Ae) rfl (by kernel_rfl) (by kernel_rfl) (by kernel_rfl)
def aDG : List (Nat × List V × List AB × V) := [(352, [.c (.dp AT), iv 2, rgV 4 4], GH0, Ls), (352, [.c (.dp AT), iv 2, rgV 5 5], GH0, Lt), (352, [.c (.dp AT), iv 2, rgV 6 6], GH0, Lu), (352, [.c (.dp AT), iv 2, rgV 7 7], GH0, Lv), (352, [.c (.dp AT), iv 2, rgV 8 8], GH0, Lw), (352, [.c (.dp AT), iv 2, rgV 9 9], GH0, Lx), (352, [.c (.dp AT), iv 2, rgV 10 10], GH0, Ji), (352, [.c (.dp AT), iv 2, rgV 11 11], GH0, Jj), (352, [.c (.dp AT), iv 2, rgV 12 12], GH0, Jk), (352, [.c (.dp AT), iv 3, rgV 4 4], GH0, Ly), (352, [.c (.dp AT), iv 3, rgV 5 5], GH0, Lz), (352, [.c (.dp AT), iv 3, rgV 6 6], GH0, LA)]
theorem aHy : ∀ e ∈ aDG, PureG Tryz.prog e.2.2.1 e.1 e.2.1 e.2.2.2 := (Ab Sh (Ab Si (Ab Sj (Ab Sk (Ab Sl (Ab Sm (Ab QL (Ab QM (Ab QN (Ab Sn (Ab So (Ab Sp Ae))))))))))))
end Go.Proofs.YtfgdbeijjbijnaaGreatDoor
