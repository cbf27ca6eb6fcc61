/- Calls of examples, run by the kernel. -/
import Derived.Test.YtfgdbeijjbijnaaGreatDoorWD
set_option linter.unusedSimpArgs false
set_option linter.unusedVariables false
set_option linter.unusedVariables false
set_option maxRecDepth 100000
namespace Go.Proofs.YtfgdbeijjbijnaaGreatDoor
open Go Go.Abs Go.Proofs
def y_w3_lamp : V := .agg [.full [[.int .i64 0], [.int .i64 3], [.int .i64 5]], .full [[.int .i64 10, .int .i64 12], [.int .i64 4, .int .i64 6], [.int .i64 5, .int .i64 9]], .full [[.bool true], [.bool false]], .full [[.int .i64 1], [.int .i64 1], [.int .i64 1], [.int .i64 1], [.int .i64 1], [.int .i64 1]]]
theorem k_w3_lamp : PureG Tryz.prog GH0 271 [] y_w3_lamp := pure_yres (X := tx) (E := exW []) 50000 wmo (xw_ok _ kn_nil) rfl (by kernel_rfl) (by kernel_rfl) (by kernel_rfl)
def y_w3_flux : V := .tup [.c (.d (.int .i64 45)), .c (.d (.int .i64 0))]
theorem k_w3_flux : PureG Tryz.prog GH0 272 [lampV, is [11, 9, 9, 5, 5, 6]] y_w3_flux := pure_yres (X := tx) (E := exW []) 50000 wmo (xw_ok _ kn_nil) rfl (by kernel_rfl) (by kernel_rfl) (by kernel_rfl)
def y_w3_span : V := .tup [.agg [.d (.int .i64 31), .d (.int .i64 60)], .c (.d (.int .i64 0))]
theorem k_w3_span : PureG Tryz.prog GH0 273 [lampV] y_w3_span := pure_yres (X := tx) (E := exW []) 50000 wmo (xw_ok _ kn_nil) rfl (by kernel_rfl) (by kernel_rfl) (by kernel_rfl)
def y_w3_at1 : V := .tup [.agg [.d (.int .i64 4), .d (.int .i64 12)], .c (.d (.int .i64 0))]
theorem k_w3_at1 : PureG Tryz.prog GH0 26 [lampV, iv 1] y_w3_at1 := pure_yres (X := tx) (E := exW []) 50000 wmo (xw_ok _ kn_nil) rfl (by kernel_rfl) (by kernel_rfl) (by kernel_rfl)
def y_w3_at4 : V := .tup [.agg [.d (.int .i64 4), .d (.int .i64 9)], .c (.d (.int .i64 0))]
theorem k_w3_at4 : PureG Tryz.prog GH0 26 [lampV, iv 4] y_w3_at4 := pure_yres (X := tx) (E := exW []) 50000 wmo (xw_ok _ kn_nil) rfl (by kernel_rfl) (by kernel_rfl) (by kernel_rfl)
def y_w3_coat : V := .tup [.agg [.d (.int .i64 15), .d (.int .i64 60)], .c (.d (.int .i64 0))]
theorem k_w3_coat : PureG Tryz.prog GH0 274 [lampV, rgV 500 1000] y_w3_coat := pure_yres (X := tx) (E := exW []) 50000 wmo (xw_ok _ kn_nil) rfl (by kernel_rfl) (by kernel_rfl) (by kernel_rfl)
def y_w3_cd1 : V := .c (.d (.int .i64 14))
theorem k_w3_cd1 : PureG Tryz.prog GH0 276 [lampV, iv 0, iv 1] y_w3_cd1 := pure_yres (X := tx) (E := exW []) 50000 wmo (xw_ok _ kn_nil) rfl (by kernel_rfl) (by kernel_rfl) (by kernel_rfl)
def y_w3_cd2 : V := .c (.d (.int .i64 0))
theorem k_w3_cd2 : PureG Tryz.prog GH0 276 [wrongV, iv 0, iv 1] y_w3_cd2 := pure_yres (X := tx) (E := exW []) 50000 wmo (xw_ok _ kn_nil) rfl (by kernel_rfl) (by kernel_rfl) (by kernel_rfl)
def y_w3_end : V := .tup [.c (.full [[.int .i64 12], [.int .i64 12], [.int .i64 12], [.int .i64 6], [.int .i64 9], [.int .i64 9]]), .c (.d (.int .i64 0))]
theorem k_w3_end : PureG Tryz.prog GH0 279 [lampV, bv true] y_w3_end := pure_yres (X := tx) (E := exW []) 50000 wmo (xw_ok _ kn_nil) rfl (by kernel_rfl) (by kernel_rfl) (by kernel_rfl)
def y_w3_doubt : V := .tup [.c (.d (.int .i64 0)), .c (.d (.int .i64 1)), .c (.d (.int .i64 0))]
theorem k_w3_doubt : PureG Tryz.prog GH0 280 [wrongV] y_w3_doubt := pure_yres (X := tx) (E := exW []) 50000 wmo (xw_ok _ kn_nil) rfl (by kernel_rfl) (by kernel_rfl) (by kernel_rfl)
def KN_W3A : List (Nat × List V × List AB × V) := [(271, [], GH0, y_w3_lamp), (272, [lampV, is [11, 9, 9, 5, 5, 6]], GH0, y_w3_flux), (273, [lampV], GH0, y_w3_span), (26, [lampV, iv 1], GH0, y_w3_at1), (26, [lampV, iv 4], GH0, y_w3_at4), (274, [lampV, rgV 500 1000], GH0, y_w3_coat), (276, [lampV, iv 0, iv 1], GH0, y_w3_cd1), (276, [wrongV, iv 0, iv 1], GH0, y_w3_cd2), (279, [lampV, bv true], GH0, y_w3_end), (280, [wrongV], GH0, y_w3_doubt)]
theorem kn_W3A : ∀ e ∈ KN_W3A, PureG Tryz.prog e.2.2.1 e.1 e.2.1 e.2.2.2 := (kn_cons k_w3_lamp (kn_cons k_w3_flux (kn_cons k_w3_span (kn_cons k_w3_at1 (kn_cons k_w3_at4 (kn_cons k_w3_coat (kn_cons k_w3_cd1 (kn_cons k_w3_cd2 (kn_cons k_w3_end (kn_cons k_w3_doubt kn_nil))))))))))
end Go.Proofs.YtfgdbeijjbijnaaGreatDoor

