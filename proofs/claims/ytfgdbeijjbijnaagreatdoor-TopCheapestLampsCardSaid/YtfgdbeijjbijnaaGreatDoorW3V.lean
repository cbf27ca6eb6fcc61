/- Calls of examples, run by the kernel. -/
import Derived.Test.YtfgdbeijjbijnaaGreatDoorWD
set_option linter.unusedSimpArgs false
set_option linter.unusedVariables false
set_option linter.unusedVariables false
set_option maxRecDepth 100000
namespace Go.Proofs.YtfgdbeijjbijnaaGreatDoor
open Go Go.Abs Go.Proofs
def y_w3t_t4_4 : V := .tup [.c (.d (.int .i64 22)), .c (.d (.bool true))]
theorem k_w3t_t4_4 : PureG Tryz.prog GH0 352 [.c (.dp tabD), iv 4, rgV 4 4] y_w3t_t4_4 := pure_yres (X := tx) (E := exW []) 50000 wmo (xw_ok _ kn_nil) rfl (by kernel_rfl) (by kernel_rfl) (by kernel_rfl)
def y_w3t_t4_5 : V := .tup [.c (.d (.int .i64 23)), .c (.d (.bool true))]
theorem k_w3t_t4_5 : PureG Tryz.prog GH0 352 [.c (.dp tabD), iv 4, rgV 5 5] y_w3t_t4_5 := pure_yres (X := tx) (E := exW []) 50000 wmo (xw_ok _ kn_nil) rfl (by kernel_rfl) (by kernel_rfl) (by kernel_rfl)
def y_w3t_t4_6 : V := .tup [.c (.d (.int .i64 23)), .c (.d (.bool true))]
theorem k_w3t_t4_6 : PureG Tryz.prog GH0 352 [.c (.dp tabD), iv 4, rgV 6 6] y_w3t_t4_6 := pure_yres (X := tx) (E := exW []) 50000 wmo (xw_ok _ kn_nil) rfl (by kernel_rfl) (by kernel_rfl) (by kernel_rfl)
def y_w3t_t4_7 : V := .tup [.c (.d (.int .i64 22)), .c (.d (.bool true))]
theorem k_w3t_t4_7 : PureG Tryz.prog GH0 352 [.c (.dp tabD), iv 4, rgV 7 7] y_w3t_t4_7 := pure_yres (X := tx) (E := exW []) 50000 wmo (xw_ok _ kn_nil) rfl (by kernel_rfl) (by kernel_rfl) (by kernel_rfl)
def y_w3t_t4_8 : V := .tup [.c (.d (.int .i64 21)), .c (.d (.bool true))]
theorem k_w3t_t4_8 : PureG Tryz.prog GH0 352 [.c (.dp tabD), iv 4, rgV 8 8] y_w3t_t4_8 := pure_yres (X := tx) (E := exW []) 50000 wmo (xw_ok _ kn_nil) rfl (by kernel_rfl) (by kernel_rfl) (by kernel_rfl)
def y_w3t_t4_9 : V := .tup [.c (.d (.int .i64 20)), .c (.d (.bool true))]
theorem k_w3t_t4_9 : PureG Tryz.prog GH0 352 [.c (.dp tabD), iv 4, rgV 9 9] y_w3t_t4_9 := pure_yres (X := tx) (E := exW []) 50000 wmo (xw_ok _ kn_nil) rfl (by kernel_rfl) (by kernel_rfl) (by kernel_rfl)
def y_w3t_t5_5 : V := .tup [.c (.d (.int .i64 20)), .c (.d (.bool true))]
theorem k_w3t_t5_5 : PureG Tryz.prog GH0 352 [.c (.dp tabD), iv 5, rgV 5 5] y_w3t_t5_5 := pure_yres (X := tx) (E := exW []) 50000 wmo (xw_ok _ kn_nil) rfl (by kernel_rfl) (by kernel_rfl) (by kernel_rfl)
def y_w3t_t5_6 : V := .tup [.c (.d (.int .i64 22)), .c (.d (.bool true))]
theorem k_w3t_t5_6 : PureG Tryz.prog GH0 352 [.c (.dp tabD), iv 5, rgV 6 6] y_w3t_t5_6 := pure_yres (X := tx) (E := exW []) 50000 wmo (xw_ok _ kn_nil) rfl (by kernel_rfl) (by kernel_rfl) (by kernel_rfl)
def y_w3t_t5_7 : V := .tup [.c (.d (.int .i64 23)), .c (.d (.bool true))]
theorem k_w3t_t5_7 : PureG Tryz.prog GH0 352 [.c (.dp tabD), iv 5, rgV 7 7] y_w3t_t5_7 := pure_yres (X := tx) (E := exW []) 50000 wmo (xw_ok _ kn_nil) rfl (by kernel_rfl) (by kernel_rfl) (by kernel_rfl)
def y_w3t_t5_8 : V := .tup [.c (.d (.int .i64 24)), .c (.d (.bool true))]
theorem k_w3t_t5_8 : PureG Tryz.prog GH0 352 [.c (.dp tabD), iv 5, rgV 8 8] y_w3t_t5_8 := pure_yres (X := tx) (E := exW []) 50000 wmo (xw_ok _ kn_nil) rfl (by kernel_rfl) (by kernel_rfl) (by kernel_rfl)
def y_w3t_t5_9 : V := .tup [.c (.d (.int .i64 25)), .c (.d (.bool true))]
theorem k_w3t_t5_9 : PureG Tryz.prog GH0 352 [.c (.dp tabD), iv 5, rgV 9 9] y_w3t_t5_9 := pure_yres (X := tx) (E := exW []) 50000 wmo (xw_ok _ kn_nil) rfl (by kernel_rfl) (by kernel_rfl) (by kernel_rfl)
def KN_W3V : List (Nat × List V × List AB × V) := [(352, [.c (.dp tabD), iv 4, rgV 4 4], GH0, y_w3t_t4_4), (352, [.c (.dp tabD), iv 4, rgV 5 5], GH0, y_w3t_t4_5), (352, [.c (.dp tabD), iv 4, rgV 6 6], GH0, y_w3t_t4_6), (352, [.c (.dp tabD), iv 4, rgV 7 7], GH0, y_w3t_t4_7), (352, [.c (.dp tabD), iv 4, rgV 8 8], GH0, y_w3t_t4_8), (352, [.c (.dp tabD), iv 4, rgV 9 9], GH0, y_w3t_t4_9), (352, [.c (.dp tabD), iv 5, rgV 5 5], GH0, y_w3t_t5_5), (352, [.c (.dp tabD), iv 5, rgV 6 6], GH0, y_w3t_t5_6), (352, [.c (.dp tabD), iv 5, rgV 7 7], GH0, y_w3t_t5_7), (352, [.c (.dp tabD), iv 5, rgV 8 8], GH0, y_w3t_t5_8), (352, [.c (.dp tabD), iv 5, rgV 9 9], GH0, y_w3t_t5_9)]
theorem kn_W3V : ∀ e ∈ KN_W3V, PureG Tryz.prog e.2.2.1 e.1 e.2.1 e.2.2.2 := (kn_cons k_w3t_t4_4 (kn_cons k_w3t_t4_5 (kn_cons k_w3t_t4_6 (kn_cons k_w3t_t4_7 (kn_cons k_w3t_t4_8 (kn_cons k_w3t_t4_9 (kn_cons k_w3t_t5_5 (kn_cons k_w3t_t5_6 (kn_cons k_w3t_t5_7 (kn_cons k_w3t_t5_8 (kn_cons k_w3t_t5_9 kn_nil)))))))))))
end Go.Proofs.YtfgdbeijjbijnaaGreatDoor

