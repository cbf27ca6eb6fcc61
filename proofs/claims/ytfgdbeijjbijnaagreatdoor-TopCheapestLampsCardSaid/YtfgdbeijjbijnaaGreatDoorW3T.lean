/- Calls of examples, run by the kernel. -/
import Derived.Test.YtfgdbeijjbijnaaGreatDoorWD
set_option linter.unusedSimpArgs false
set_option linter.unusedVariables false
set_option linter.unusedVariables false
set_option maxRecDepth 100000
namespace Go.Proofs.YtfgdbeijjbijnaaGreatDoor
open Go Go.Abs Go.Proofs
def y_w3t_t0_10 : V := .tup [.c (.d (.int .i64 23)), .c (.d (.bool true))]
theorem k_w3t_t0_10 : PureG Tryz.prog GH0 352 [.c (.dp tabD), iv 0, rgV 10 10] y_w3t_t0_10 := pure_yres (X := tx) (E := exW []) 50000 wmo (xw_ok _ kn_nil) rfl (by kernel_rfl) (by kernel_rfl) (by kernel_rfl)
def y_w3t_t0_11 : V := .tup [.c (.d (.int .i64 25)), .c (.d (.bool true))]
theorem k_w3t_t0_11 : PureG Tryz.prog GH0 352 [.c (.dp tabD), iv 0, rgV 11 11] y_w3t_t0_11 := pure_yres (X := tx) (E := exW []) 50000 wmo (xw_ok _ kn_nil) rfl (by kernel_rfl) (by kernel_rfl) (by kernel_rfl)
def y_w3t_t0_12 : V := .tup [.c (.d (.int .i64 27)), .c (.d (.bool true))]
theorem k_w3t_t0_12 : PureG Tryz.prog GH0 352 [.c (.dp tabD), iv 0, rgV 12 12] y_w3t_t0_12 := pure_yres (X := tx) (E := exW []) 50000 wmo (xw_ok _ kn_nil) rfl (by kernel_rfl) (by kernel_rfl) (by kernel_rfl)
def y_w3t_t1_4 : V := .tup [.c (.d (.int .i64 11)), .c (.d (.bool true))]
theorem k_w3t_t1_4 : PureG Tryz.prog GH0 352 [.c (.dp tabD), iv 1, rgV 4 4] y_w3t_t1_4 := pure_yres (X := tx) (E := exW []) 50000 wmo (xw_ok _ kn_nil) rfl (by kernel_rfl) (by kernel_rfl) (by kernel_rfl)
def y_w3t_t1_5 : V := .tup [.c (.d (.int .i64 13)), .c (.d (.bool true))]
theorem k_w3t_t1_5 : PureG Tryz.prog GH0 352 [.c (.dp tabD), iv 1, rgV 5 5] y_w3t_t1_5 := pure_yres (X := tx) (E := exW []) 50000 wmo (xw_ok _ kn_nil) rfl (by kernel_rfl) (by kernel_rfl) (by kernel_rfl)
def y_w3t_t1_6 : V := .tup [.c (.d (.int .i64 15)), .c (.d (.bool true))]
theorem k_w3t_t1_6 : PureG Tryz.prog GH0 352 [.c (.dp tabD), iv 1, rgV 6 6] y_w3t_t1_6 := pure_yres (X := tx) (E := exW []) 50000 wmo (xw_ok _ kn_nil) rfl (by kernel_rfl) (by kernel_rfl) (by kernel_rfl)
def y_w3t_t1_7 : V := .tup [.c (.d (.int .i64 16)), .c (.d (.bool true))]
theorem k_w3t_t1_7 : PureG Tryz.prog GH0 352 [.c (.dp tabD), iv 1, rgV 7 7] y_w3t_t1_7 := pure_yres (X := tx) (E := exW []) 50000 wmo (xw_ok _ kn_nil) rfl (by kernel_rfl) (by kernel_rfl) (by kernel_rfl)
def y_w3t_t1_8 : V := .tup [.c (.d (.int .i64 17)), .c (.d (.bool true))]
theorem k_w3t_t1_8 : PureG Tryz.prog GH0 352 [.c (.dp tabD), iv 1, rgV 8 8] y_w3t_t1_8 := pure_yres (X := tx) (E := exW []) 50000 wmo (xw_ok _ kn_nil) rfl (by kernel_rfl) (by kernel_rfl) (by kernel_rfl)
def y_w3t_t1_9 : V := .tup [.c (.d (.int .i64 18)), .c (.d (.bool true))]
theorem k_w3t_t1_9 : PureG Tryz.prog GH0 352 [.c (.dp tabD), iv 1, rgV 9 9] y_w3t_t1_9 := pure_yres (X := tx) (E := exW []) 50000 wmo (xw_ok _ kn_nil) rfl (by kernel_rfl) (by kernel_rfl) (by kernel_rfl)
def y_w3t_t1_10 : V := .tup [.c (.d (.int .i64 19)), .c (.d (.bool true))]
theorem k_w3t_t1_10 : PureG Tryz.prog GH0 352 [.c (.dp tabD), iv 1, rgV 10 10] y_w3t_t1_10 := pure_yres (X := tx) (E := exW []) 50000 wmo (xw_ok _ kn_nil) rfl (by kernel_rfl) (by kernel_rfl) (by kernel_rfl)
def y_w3t_t1_11 : V := .tup [.c (.d (.int .i64 19)), .c (.d (.bool true))]
theorem k_w3t_t1_11 : PureG Tryz.prog GH0 352 [.c (.dp tabD), iv 1, rgV 11 11] y_w3t_t1_11 := pure_yres (X := tx) (E := exW []) 50000 wmo (xw_ok _ kn_nil) rfl (by kernel_rfl) (by kernel_rfl) (by kernel_rfl)
def y_w3t_t1_12 : V := .tup [.c (.d (.int .i64 19)), .c (.d (.bool true))]
theorem k_w3t_t1_12 : PureG Tryz.prog GH0 352 [.c (.dp tabD), iv 1, rgV 12 12] y_w3t_t1_12 := pure_yres (X := tx) (E := exW []) 50000 wmo (xw_ok _ kn_nil) rfl (by kernel_rfl) (by kernel_rfl) (by kernel_rfl)
def KN_W3T : List (Nat × List V × List AB × V) := [(352, [.c (.dp tabD), iv 0, rgV 10 10], GH0, y_w3t_t0_10), (352, [.c (.dp tabD), iv 0, rgV 11 11], GH0, y_w3t_t0_11), (352, [.c (.dp tabD), iv 0, rgV 12 12], GH0, y_w3t_t0_12), (352, [.c (.dp tabD), iv 1, rgV 4 4], GH0, y_w3t_t1_4), (352, [.c (.dp tabD), iv 1, rgV 5 5], GH0, y_w3t_t1_5), (352, [.c (.dp tabD), iv 1, rgV 6 6], GH0, y_w3t_t1_6), (352, [.c (.dp tabD), iv 1, rgV 7 7], GH0, y_w3t_t1_7), (352, [.c (.dp tabD), iv 1, rgV 8 8], GH0, y_w3t_t1_8), (352, [.c (.dp tabD), iv 1, rgV 9 9], GH0, y_w3t_t1_9), (352, [.c (.dp tabD), iv 1, rgV 10 10], GH0, y_w3t_t1_10), (352, [.c (.dp tabD), iv 1, rgV 11 11], GH0, y_w3t_t1_11), (352, [.c (.dp tabD), iv 1, rgV 12 12], GH0, y_w3t_t1_12)]
theorem kn_W3T : ∀ e ∈ KN_W3T, PureG Tryz.prog e.2.2.1 e.1 e.2.1 e.2.2.2 := (kn_cons k_w3t_t0_10 (kn_cons k_w3t_t0_11 (kn_cons k_w3t_t0_12 (kn_cons k_w3t_t1_4 (kn_cons k_w3t_t1_5 (kn_cons k_w3t_t1_6 (kn_cons k_w3t_t1_7 (kn_cons k_w3t_t1_8 (kn_cons k_w3t_t1_9 (kn_cons k_w3t_t1_10 (kn_cons k_w3t_t1_11 (kn_cons k_w3t_t1_12 kn_nil))))))))))))
end Go.Proofs.YtfgdbeijjbijnaaGreatDoor

