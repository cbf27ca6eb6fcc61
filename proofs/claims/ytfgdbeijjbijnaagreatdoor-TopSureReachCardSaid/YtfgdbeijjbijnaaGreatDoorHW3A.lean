/- Calls of examples, run by the kernel. -/
import Derived.Test.YtfgdbeijjbijnaaGreatDoorHWD
set_option linter.unusedSimpArgs false
set_option linter.unusedVariables false
set_option linter.unusedVariables false
set_option maxRecDepth 100000
namespace Go.Proofs.YtfgdbeijjbijnaaGreatDoor
open Go Go.Abs Go.Proofs
def Nz : V := .agg [.full [[.int .i64 0], [.int .i64 3], [.int .i64 5]], .full [[.int .i64 10, .int .i64 12], [.int .i64 4, .int .i64 6], [.int .i64 5, .int .i64 9]], .full [[.bool true], [.bool false]], .full [[.int .i64 1], [.int .i64 1], [.int .i64 1], [.int .i64 1], [.int .i64 1], [.int .i64 1]]]
theorem VE : PureG Tryz.prog GH0 271 [] Nz := pure_yres (X := tx) (E := exW []) 50000 wmo (Ag _ Ab) rfl (by kernel_rfl) (by kernel_rfl) (by kernel_rfl)
def NA : V := .tup [.c (.d (.int .i64 45)), .c (.d (.int .i64 0))]
theorem VF : PureG Tryz.prog GH0 272 [Da, is [11, 9, 9, 5, 5, 6]] NA := pure_yres (X := tx) (E := exW []) 50000 wmo (Ag _ Ab) rfl (by kernel_rfl) (by kernel_rfl) (by kernel_rfl)
def NB : V := .tup [.agg [.d (.int .i64 31), .d (.int .i64 60)], .c (.d (.int .i64 0))]
theorem VG : PureG Tryz.prog GH0 273 [Da] NB := pure_yres (X := tx) (E := exW []) 50000 wmo (Ag _ Ab) rfl (by kernel_rfl) (by kernel_rfl) (by kernel_rfl)
def QR : V := .tup [.agg [.d (.int .i64 4), .d (.int .i64 12)], .c (.d (.int .i64 0))]
theorem aEf : PureG Tryz.prog GH0 26 [Da, iv 1] QR := pure_yres (X := tx) (E := exW []) 50000 wmo (Ag _ Ab) rfl (by kernel_rfl) (by kernel_rfl) (by kernel_rfl)
def QS : V := .tup [.agg [.d (.int .i64 4), .d (.int .i64 9)], .c (.d (.int .i64 0))]
theorem aEg : PureG Tryz.prog GH0 26 [Da, iv 4] QS := pure_yres (X := tx) (E := exW []) 50000 wmo (Ag _ Ab) rfl (by kernel_rfl) (by kernel_rfl) (by kernel_rfl)
def NC : V := .tup [.agg [.d (.int .i64 15), .d (.int .i64 60)], .c (.d (.int .i64 0))]
theorem VH : PureG Tryz.prog GH0 274 [Da, rgV 500 1000] NC := pure_yres (X := tx) (E := exW []) 50000 wmo (Ag _ Ab) rfl (by kernel_rfl) (by kernel_rfl) (by kernel_rfl)
def QT : V := .c (.d (.int .i64 14))
theorem aEh : PureG Tryz.prog GH0 276 [Da, iv 0, iv 1] QT := pure_yres (X := tx) (E := exW []) 50000 wmo (Ag _ Ab) rfl (by kernel_rfl) (by kernel_rfl) (by kernel_rfl)
def QU : V := .c (.d (.int .i64 0))
theorem aEi : PureG Tryz.prog GH0 276 [GV, iv 0, iv 1] QU := pure_yres (X := tx) (E := exW []) 50000 wmo (Ag _ Ab) rfl (by kernel_rfl) (by kernel_rfl) (by kernel_rfl)
def QV : V := .tup [.c (.full [[.int .i64 12], [.int .i64 12], [.int .i64 12], [.int .i64 6], [.int .i64 9], [.int .i64 9]]), .c (.d (.int .i64 0))]
theorem aEj : PureG Tryz.prog GH0 279 [Da, bv true] QV := pure_yres (X := tx) (E := exW []) 50000 wmo (Ag _ Ab) rfl (by kernel_rfl) (by kernel_rfl) (by kernel_rfl)
def Le : V := .tup [.c (.d (.int .i64 0)), .c (.d (.int .i64 1)), .c (.d (.int .i64 0))]
theorem Ss : PureG Tryz.prog GH0 280 [GV] Le := pure_yres (X := tx) (E := exW []) 50000 wmo (Ag _ Ab) rfl (by kernel_rfl) (by kernel_rfl) (by kernel_rfl)
def aEk : List (Nat × List V × List AB × V) := [(271, [], GH0, Nz), (272, [Da, is [11, 9, 9, 5, 5, 6]], GH0, NA), (273, [Da], GH0, NB), (26, [Da, iv 1], GH0, QR), (26, [Da, iv 4], GH0, QS), (274, [Da, rgV 500 1000], GH0, NC), (276, [Da, iv 0, iv 1], GH0, QT), (276, [GV, iv 0, iv 1], GH0, QU), (279, [Da, bv true], GH0, QV), (280, [GV], GH0, Le)]
theorem aIv : ∀ e ∈ aEk, PureG Tryz.prog e.2.2.1 e.1 e.2.1 e.2.2.2 := (Aa VE (Aa VF (Aa VG (Aa aEf (Aa aEg (Aa VH (Aa aEh (Aa aEi (Aa aEj (Aa Ss Ab))))))))))
end Go.Proofs.YtfgdbeijjbijnaaGreatDoor
