/- Calls of examples, run by the kernel. -/
import Derived.Test.YtfgdbeijjbijnaaGreatDoorWD
set_option linter.unusedSimpArgs false
set_option linter.unusedVariables false
set_option linter.unusedVariables false
set_option maxRecDepth 100000
namespace Go.Proofs.YtfgdbeijjbijnaaGreatDoor
open Go Go.Abs Go.Proofs
def y_w4_mixes0 : V := .c (.d (.sl [[.sl [[.int .i64 0]]], [.sl [[.int .i64 1]]], [.sl [[.int .i64 2]]], [.sl [[.int .i64 3]]], [.sl [[.int .i64 4]]], [.sl [[.int .i64 5]]], [.sl [[.int .i64 6]]], [.sl [[.int .i64 7]]]]))
theorem k_w4_mixes0 : PureG Tryz.prog GH0 286 [palV 0] y_w4_mixes0 := pure_yres (X := tx) (E := exW []) 50000 wmo (xw_ok _ kn_nil) rfl (by kernel_rfl) (by kernel_rfl) (by kernel_rfl)
def y_w4_mixes1 : V := .c (.d (.sl [[.sl [[.int .i64 0]]], [.sl [[.int .i64 1]]], [.sl [[.int .i64 2]]], [.sl [[.int .i64 3]]], [.sl [[.int .i64 4]]], [.sl [[.int .i64 5]]], [.sl [[.int .i64 6]]], [.sl [[.int .i64 7]]]]))
theorem k_w4_mixes1 : PureG Tryz.prog GH0 286 [palV 1] y_w4_mixes1 := pure_yres (X := tx) (E := exW []) 50000 wmo (xw_ok _ kn_nil) rfl (by kernel_rfl) (by kernel_rfl) (by kernel_rfl)
def y_w4_fit : V := .tup [.c (.d (.sl [[.int .i64 4], [.int .i64 5], [.int .i64 6]])), .c (.d (.int .i64 0))]
theorem k_w4_fit : PureG Tryz.prog GH0 178 [palV 1, is [5]] y_w4_fit := pure_yres (X := tx) (E := exW []) 50000 wmo (xw_ok _ kn_nil) rfl (by kernel_rfl) (by kernel_rfl) (by kernel_rfl)
def y_w4_mix : V := .tup [.c (.d (.sl [[.int .i64 5]])), .c (.d (.int .i64 0))]
theorem k_w4_mix : PureG Tryz.prog GH0 181 [palV 0, iv 5] y_w4_mix := pure_yres (X := tx) (E := exW []) 50000 wmo (xw_ok _ kn_nil) rfl (by kernel_rfl) (by kernel_rfl) (by kernel_rfl)
def y_w4_clash0 : V := .tup [.c (.d (.int .i64 0)), .c (.d (.int .i64 0)), .c (.d (.int .i64 5))]
theorem k_w4_clash0 : PureG Tryz.prog GH0 180 [palV 0] y_w4_clash0 := pure_yres (X := tx) (E := exW []) 50000 wmo (xw_ok _ kn_nil) rfl (by kernel_rfl) (by kernel_rfl) (by kernel_rfl)
def y_w4_clash1 : V := .tup [.c (.d (.int .i64 0)), .c (.d (.int .i64 1)), .c (.d (.int .i64 0))]
theorem k_w4_clash1 : PureG Tryz.prog GH0 180 [palV 1] y_w4_clash1 := pure_yres (X := tx) (E := exW []) 50000 wmo (xw_ok _ kn_nil) rfl (by kernel_rfl) (by kernel_rfl) (by kernel_rfl)
def KN_W4B : List (Nat × List V × List AB × V) := [(286, [palV 0], GH0, y_w4_mixes0), (286, [palV 1], GH0, y_w4_mixes1), (178, [palV 1, is [5]], GH0, y_w4_fit), (181, [palV 0, iv 5], GH0, y_w4_mix), (180, [palV 0], GH0, y_w4_clash0), (180, [palV 1], GH0, y_w4_clash1)]
theorem kn_W4B : ∀ e ∈ KN_W4B, PureG Tryz.prog e.2.2.1 e.1 e.2.1 e.2.2.2 := (kn_cons k_w4_mixes0 (kn_cons k_w4_mixes1 (kn_cons k_w4_fit (kn_cons k_w4_mix (kn_cons k_w4_clash0 (kn_cons k_w4_clash1 kn_nil))))))
end Go.Proofs.YtfgdbeijjbijnaaGreatDoor

