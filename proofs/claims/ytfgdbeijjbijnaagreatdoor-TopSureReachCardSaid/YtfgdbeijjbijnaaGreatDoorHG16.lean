/- The types of the program, as the logic wants them: a table, and that it tells the program's types. -/
import Derived.Test.YtfgdbeijjbijnaaGreatDoorHG11
import Derived.KernelRfl
import Derived.Test.YtfgdbeijjbijnaaGreatDoorHG12
import Derived.Test.YtfgdbeijjbijnaaGreatDoorProg
set_option linter.unusedSimpArgs false
set_option linter.unusedVariables false
set_option maxRecDepth 100000
namespace Go.Proofs.YtfgdbeijjbijnaaGreatDoor
open Go Go.Abs Go.Proofs
def ti1 : TI := ⟨.func #[] #[] false, 1, 8, .c (.any)⟩
def ti2 : TI := ⟨.int .i64, 1, 8, .c (.d (.int .i64 0))⟩
def ti3 : TI := ⟨.int .i64, 1, 8, .c (.d (.int .i64 0))⟩
def ti4 : TI := ⟨.bool, 1, 1, .c (.d (.bool false))⟩
def ti5 : TI := ⟨.int .u8, 1, 1, .c (.d (.int .u8 0))⟩
def aGA : TI := ⟨.int .u64, 1, 8, .c (.d (.int .u64 0))⟩
def aGB : TI := ⟨.int .i32, 1, 4, .c (.d (.int .i32 0))⟩
def aGC : TI := ⟨.slice 23, 1, 24, .c (.full [])⟩
def aGD : TI := ⟨.slice 46, 1, 24, .c (.full [])⟩
def aGE : TI := ⟨.struct #[fld 22 0, fld 23 1], 2, 48, .agg ([.full [], .full []])⟩
def aGF : TI := ⟨.struct #[fld 22 0, fld 23 1], 2, 48, .agg ([.full [], .full []])⟩
def aGG : TI := ⟨.slice 2, 1, 24, .c (.full [])⟩
def aGH : TI := ⟨.slice 216, 1, 24, .c (.full [])⟩
def aGI : TI := ⟨.func #[] #[] false, 1, 8, .c (.any)⟩
def aGJ : TI := ⟨.int .i64, 1, 8, .c (.d (.int .i64 0))⟩
def aGK : TI := ⟨.func #[] #[] false, 1, 8, .c (.any)⟩
def aGL : TI := ⟨.func #[] #[] false, 1, 8, .c (.any)⟩
def aGM : TI := ⟨.slice 26, 1, 24, .c (.full [])⟩
def aGN : TI := ⟨.struct #[fld 32 0, fld 26 1], 2, 48, .agg ([.full [], .full []])⟩
def aGO : TI := ⟨.struct #[fld 32 0, fld 26 1], 2, 48, .agg ([.full [], .full []])⟩
def aGP : TI := ⟨.func #[] #[] false, 1, 8, .c (.any)⟩
def aGQ : TI := ⟨.func #[] #[] false, 1, 8, .c (.any)⟩
def aGR : TI := ⟨.func #[] #[] false, 1, 8, .c (.any)⟩
def aGS : TI := ⟨.slice 51, 1, 24, .c (.full [])⟩
def aGT : TI := ⟨.slice 40, 1, 24, .c (.full [])⟩
def aGU : TI := ⟨.struct #[fld 40 0, fld 41 1], 2, 48, .agg ([.full [], .full []])⟩
def aGV : TI := ⟨.struct #[fld 40 0, fld 41 1], 2, 48, .agg ([.full [], .full []])⟩
def aGW : TI := ⟨.func #[] #[] false, 1, 8, .c (.any)⟩
def aGX : TI := ⟨.struct #[fld 2 0, fld 2 1], 2, 16, .agg ([.d (.int .i64 0), .d (.int .i64 0)])⟩
def aGY : TI := ⟨.struct #[fld 2 0, fld 2 1], 2, 16, .agg ([.d (.int .i64 0), .d (.int .i64 0)])⟩
def aGZ : TI := ⟨.func #[] #[] false, 1, 8, .c (.any)⟩
def aG0 : TI := ⟨.func #[] #[] false, 1, 8, .c (.any)⟩
def aG1 : TI := ⟨.struct #[fld 2 0, fld 2 1], 2, 16, .agg ([.d (.int .i64 0), .d (.int .i64 0)])⟩
def aG2 : TI := ⟨.struct #[fld 2 0, fld 2 1], 2, 16, .agg ([.d (.int .i64 0), .d (.int .i64 0)])⟩
def aG3 : TI := ⟨.struct #[fld 2 0, fld 2 1, fld 2 2], 3, 24, .agg ([.d (.int .i64 0), .d (.int .i64 0), .d (.int .i64 0)])⟩
def aG4 : TI := ⟨.struct #[fld 2 0, fld 2 1, fld 2 2], 3, 24, .agg ([.d (.int .i64 0), .d (.int .i64 0), .d (.int .i64 0)])⟩
def aG5 : TI := ⟨.func #[] #[] false, 1, 8, .c (.any)⟩
def aG6 : TI := ⟨.func #[] #[] false, 1, 8, .c (.any)⟩
def aG7 : TI := ⟨.func #[] #[] false, 1, 8, .c (.any)⟩
def aG8 : TI := ⟨.func #[] #[] false, 1, 8, .c (.any)⟩
def aG9 : TI := ⟨.func #[] #[] false, 1, 8, .c (.any)⟩
def aHa : TI := ⟨.func #[] #[] false, 1, 8, .c (.any)⟩
def aHb : TI := ⟨.struct #[fld 2 0, fld 2 1, fld 2 2], 3, 24, .agg ([.d (.int .i64 0), .d (.int .i64 0), .d (.int .i64 0)])⟩
def aHc : TI := ⟨.struct #[fld 2 0, fld 2 1, fld 2 2], 3, 24, .agg ([.d (.int .i64 0), .d (.int .i64 0), .d (.int .i64 0)])⟩
def aHd : TI := ⟨.func #[] #[] false, 1, 8, .c (.any)⟩
def aHe : TI := ⟨.slice 4, 1, 24, .c (.full [])⟩
def aHf : TI := ⟨.struct #[fld 26 0, fld 23 1, fld 65 2, fld 26 3], 4, 96, .agg ([.full [], .full [], .full [], .full []])⟩
def aHg : TI := ⟨.struct #[fld 26 0, fld 23 1, fld 65 2, fld 26 3], 4, 96, .agg ([.full [], .full [], .full [], .full []])⟩
def aHh : TI := ⟨.slice 5, 1, 24, .c (.full [])⟩
def aHi : TI := ⟨.slice 78, 1, 24, .c (.full [])⟩
def aHj : TI := ⟨.int .u32, 1, 4, .c (.d (.int .u32 0))⟩
def aHk : TI := ⟨.func #[] #[] false, 1, 8, .c (.any)⟩
def aHl : TI := ⟨.func #[] #[] false, 1, 8, .c (.any)⟩
def aHm : TI := ⟨.func #[] #[] false, 1, 8, .c (.any)⟩
def aHn : TI := ⟨.slice 80, 1, 24, .c (.full [])⟩
def aHo : TI := ⟨.struct #[fld 3 0, fld 3 1, fld 3 2, fld 75 3], 4, 48, .agg ([.d (.int .i64 0), .d (.int .i64 0), .d (.int .i64 0), .full []])⟩
def aHp : TI := ⟨.struct #[fld 3 0, fld 3 1, fld 3 2, fld 75 3], 4, 48, .agg ([.d (.int .i64 0), .d (.int .i64 0), .d (.int .i64 0), .full []])⟩
def aHq : TI := ⟨.array 2 5, 2, 2, .agg ([.d (.int .u8 0), .d (.int .u8 0)])⟩
def aHr : TI := ⟨.struct #[fld 3 0, fld 3 1, fld 2 2], 3, 24, .agg ([.d (.int .i64 0), .d (.int .i64 0), .d (.int .i64 0)])⟩
def aHs : TI := ⟨.struct #[fld 3 0, fld 3 1, fld 2 2], 3, 24, .agg ([.d (.int .i64 0), .d (.int .i64 0), .d (.int .i64 0)])⟩
def aHt : TI := ⟨.slice 3, 1, 24, .c (.full [])⟩
def aHu : TI := ⟨.func #[] #[] false, 1, 8, .c (.any)⟩
def aHv : TI := ⟨.func #[] #[] false, 1, 8, .c (.any)⟩
def aHw : TI := ⟨.func #[] #[] false, 1, 8, .c (.any)⟩
def aHx : TI := ⟨.func #[] #[] false, 1, 8, .c (.any)⟩
def aHy : TI := ⟨.func #[] #[] false, 1, 8, .c (.any)⟩
def aHz : TI := ⟨.slice 70, 1, 24, .c (.full [])⟩
def aHA : TI := ⟨.slice 166, 1, 24, .c (.full [])⟩
def aHB : TI := ⟨.func #[] #[] false, 1, 8, .c (.any)⟩
def aHC : TI := ⟨.func #[] #[] false, 1, 8, .c (.any)⟩
def aHD : TI := ⟨.func #[] #[] false, 1, 8, .c (.any)⟩
def aHE : TI := ⟨.func #[] #[] false, 1, 8, .c (.any)⟩
def aHF : TI := ⟨.func #[] #[] false, 1, 8, .c (.any)⟩
def aHG : TI := ⟨.func #[] #[] false, 1, 8, .c (.any)⟩
def aHH : TI := ⟨.struct #[fld 2 0, fld 2 1], 2, 16, .agg ([.d (.int .i64 0), .d (.int .i64 0)])⟩
def Wz : TI := ⟨.struct #[fld 2 0, fld 2 1], 2, 16, .agg ([.d (.int .i64 0), .d (.int .i64 0)])⟩
def WA : TI := ⟨.struct #[fld 100 0, fld 100 2], 4, 32, .agg ([.d (.int .i64 0), .d (.int .i64 0), .d (.int .i64 0), .d (.int .i64 0)])⟩
def WB : TI := ⟨.struct #[fld 100 0, fld 100 2], 4, 32, .agg ([.d (.int .i64 0), .d (.int .i64 0), .d (.int .i64 0), .d (.int .i64 0)])⟩
def WC : TI := ⟨.func #[] #[] false, 1, 8, .c (.any)⟩
def WD : TI := ⟨.func #[] #[] false, 1, 8, .c (.any)⟩
def WE : TI := ⟨.slice 102, 1, 24, .c (.full [])⟩
def WF : TI := ⟨.func #[] #[] false, 1, 8, .c (.any)⟩
def WG : TI := ⟨.func #[] #[] false, 1, 8, .c (.any)⟩
def WH : TI := ⟨.func #[] #[] false, 1, 8, .c (.any)⟩
def WI : TI := ⟨.func #[] #[] false, 1, 8, .c (.any)⟩
def WJ : TI := ⟨.struct #[fld 25 0], 2, 48, .agg ([.full [], .full []])⟩
def WK : TI := ⟨.struct #[fld 25 0], 2, 48, .agg ([.full [], .full []])⟩
def WL : TI := ⟨.func #[] #[] false, 1, 8, .c (.any)⟩
def WM : TI := ⟨.func #[] #[] false, 1, 8, .c (.any)⟩
def WN : TI := ⟨.func #[] #[] false, 1, 8, .c (.any)⟩
def WO : TI := ⟨.array 3 2, 3, 24, .agg ([.d (.int .i64 0), .d (.int .i64 0), .d (.int .i64 0)])⟩
def WP : TI := ⟨.array 3 2, 3, 24, .agg ([.d (.int .i64 0), .d (.int .i64 0), .d (.int .i64 0)])⟩
def WQ : TI := ⟨.func #[] #[] false, 1, 8, .c (.any)⟩
def WR : TI := ⟨.func #[] #[] false, 1, 8, .c (.any)⟩
def WS : TI := ⟨.func #[] #[] false, 1, 8, .c (.any)⟩
def WT : TI := ⟨.func #[] #[] false, 1, 8, .c (.any)⟩
def WU : TI := ⟨.pointer 130, 1, 8, .c (.nilp)⟩
def WV : TI := ⟨.func #[] #[] false, 1, 8, .c (.any)⟩
def WW : TI := ⟨.func #[] #[] false, 1, 8, .c (.any)⟩
def WX : TI := ⟨.func #[] #[] false, 1, 8, .c (.any)⟩
def WY : TI := ⟨.slice 132, 1, 24, .c (.full [])⟩
def WZ : TI := ⟨.struct #[fld 43 0, fld 128 2], 3, 72, .agg ([.full [], .full [], .full []])⟩
def W0 : TI := ⟨.struct #[fld 43 0, fld 128 2], 3, 72, .agg ([.full [], .full [], .full []])⟩
def W1 : TI := ⟨.array 2 2, 2, 16, .agg ([.d (.int .i64 0), .d (.int .i64 0)])⟩
def W2 : TI := ⟨.array 2 2, 2, 16, .agg ([.d (.int .i64 0), .d (.int .i64 0)])⟩
def W3 : TI := ⟨.func #[] #[] false, 1, 8, .c (.any)⟩
def W4 : TI := ⟨.func #[] #[] false, 1, 8, .c (.any)⟩
def W5 : TI := ⟨.struct #[fld 3 0, fld 3 1], 2, 16, .agg ([.d (.int .i64 0), .d (.int .i64 0)])⟩
def W6 : TI := ⟨.struct #[fld 3 0, fld 3 1], 2, 16, .agg ([.d (.int .i64 0), .d (.int .i64 0)])⟩
def W7 : TI := ⟨.func #[] #[] false, 1, 8, .c (.any)⟩
def W8 : TI := ⟨.func #[] #[] false, 1, 8, .c (.any)⟩
def W9 : TI := ⟨.func #[] #[] false, 1, 8, .c (.any)⟩
def Xa : TI := ⟨.func #[] #[] false, 1, 8, .c (.any)⟩
def Xb : TI := ⟨.func #[] #[] false, 1, 8, .c (.any)⟩
def Xc : TI := ⟨.func #[] #[] false, 1, 8, .c (.any)⟩
def Xd : TI := ⟨.func #[] #[] false, 1, 8, .c (.any)⟩
def Xf : TI := ⟨.func #[] #[] false, 1, 8, .c (.any)⟩
def Xg : TI := ⟨.pointer 256, 1, 8, .c (.nilp)⟩
def Xh : TI := ⟨.func #[] #[] false, 1, 8, .c (.any)⟩
def Xi : TI := ⟨.func #[] #[] false, 1, 8, .c (.any)⟩
def Xj : TI := ⟨.pointer 261, 1, 8, .c (.nilp)⟩
def Xk : TI := ⟨.func #[] #[] false, 1, 8, .c (.any)⟩
def Xl : TI := ⟨.func #[] #[] false, 1, 8, .c (.any)⟩
def Xm : TI := ⟨.func #[] #[] false, 1, 8, .c (.any)⟩
def Xn : TI := ⟨.func #[] #[] false, 1, 8, .c (.any)⟩
def Xo : TI := ⟨.func #[] #[] false, 1, 8, .c (.any)⟩
def Xp : TI := ⟨.func #[] #[] false, 1, 8, .c (.any)⟩
def Xq : TI := ⟨.array 41 2, 41, 328, .agg (List.replicate 41 (.d (.int .i64 0)))⟩
def Xr : TI := ⟨.array 41 2, 41, 328, .agg (List.replicate 41 (.d (.int .i64 0)))⟩
def Xs : TI := ⟨.func #[] #[] false, 1, 8, .c (.any)⟩
def Xt : TI := ⟨.struct #[fld 3 0, fld 3 1], 2, 16, .agg ([.d (.int .i64 0), .d (.int .i64 0)])⟩
def Xu : TI := ⟨.struct #[fld 3 0, fld 3 1], 2, 16, .agg ([.d (.int .i64 0), .d (.int .i64 0)])⟩
def Xv : TI := ⟨.func #[] #[] false, 1, 8, .c (.any)⟩
def Xw : TI := ⟨.func #[] #[] false, 1, 8, .c (.any)⟩
def Xx : TI := ⟨.func #[] #[] false, 1, 8, .c (.any)⟩
def Xy : TI := ⟨.func #[] #[] false, 1, 8, .c (.any)⟩
def Xz : TI := ⟨.func #[] #[] false, 1, 8, .c (.any)⟩
def XA : TI := ⟨.func #[] #[] false, 1, 8, .c (.any)⟩
def XB : TI := ⟨.func #[] #[] false, 1, 8, .c (.any)⟩
def XC : TI := ⟨.func #[] #[] false, 1, 8, .c (.any)⟩
def XD : TI := ⟨.func #[] #[] false, 1, 8, .c (.any)⟩
def XE : TI := ⟨.func #[] #[] false, 1, 8, .c (.any)⟩
def XF : TI := ⟨.func #[] #[] false, 1, 8, .c (.any)⟩
def XG : TI := ⟨.slice 81, 1, 24, .c (.full [])⟩
def XH : TI := ⟨.struct #[fld 3 0, fld 179 1], 2, 32, .agg ([.d (.int .i64 0), .full []])⟩
def XI : TI := ⟨.struct #[fld 3 0, fld 179 1], 2, 32, .agg ([.d (.int .i64 0), .full []])⟩
def XJ : TI := ⟨.func #[] #[] false, 1, 8, .c (.any)⟩
def XK : TI := ⟨.func #[] #[] false, 1, 8, .c (.any)⟩
def XL : TI := ⟨.struct #[fld 3 0, fld 3 1], 2, 16, .agg ([.d (.int .i64 0), .d (.int .i64 0)])⟩
def XM : TI := ⟨.struct #[fld 3 0, fld 3 1], 2, 16, .agg ([.d (.int .i64 0), .d (.int .i64 0)])⟩
def XN : TI := ⟨.func #[] #[] false, 1, 8, .c (.any)⟩
def XO : TI := ⟨.slice 185, 1, 24, .c (.full [])⟩
def XP : TI := ⟨.func #[] #[] false, 1, 8, .c (.any)⟩
def XQ : TI := ⟨.func #[] #[] false, 1, 8, .c (.any)⟩
def XR : TI := ⟨.func #[] #[] false, 1, 8, .c (.any)⟩
def XS : TI := ⟨.func #[] #[] false, 1, 8, .c (.any)⟩
def XT : TI := ⟨.func #[] #[] false, 1, 8, .c (.any)⟩
def XU : TI := ⟨.func #[] #[] false, 1, 8, .c (.any)⟩
def XV : TI := ⟨.func #[] #[] false, 1, 8, .c (.any)⟩
def XW : TI := ⟨.func #[] #[] false, 1, 8, .c (.any)⟩
def XX : TI := ⟨.func #[] #[] false, 1, 8, .c (.any)⟩
def XY : TI := ⟨.func #[] #[] false, 1, 8, .c (.any)⟩
def XZ : TI := ⟨.func #[] #[] false, 1, 8, .c (.any)⟩
def X0 : TI := ⟨.func #[] #[] false, 1, 8, .c (.any)⟩
def X1 : TI := ⟨.func #[] #[] false, 1, 8, .c (.any)⟩
def X2 : TI := ⟨.func #[] #[] false, 1, 8, .c (.any)⟩
def X3 : TI := ⟨.func #[] #[] false, 1, 8, .c (.any)⟩
def X4 : TI := ⟨.func #[] #[] false, 1, 8, .c (.any)⟩
def X5 : TI := ⟨.func #[] #[] false, 1, 8, .c (.any)⟩
def X6 : TI := ⟨.slice 43, 1, 24, .c (.full [])⟩
def X7 : TI := ⟨.func #[] #[] false, 1, 8, .c (.any)⟩
def X8 : TI := ⟨.int .u16, 1, 2, .c (.d (.int .u16 0))⟩
def X9 : TI := ⟨.func #[] #[] false, 1, 8, .c (.any)⟩
def Ya : TI := ⟨.func #[] #[] false, 1, 8, .c (.any)⟩
def Yb : TI := ⟨.func #[] #[] false, 1, 8, .c (.any)⟩
def Yc : TI := ⟨.func #[] #[] false, 1, 8, .c (.any)⟩
def Yd : TI := ⟨.func #[] #[] false, 1, 8, .c (.any)⟩
def Ye : TI := ⟨.func #[] #[] false, 1, 8, .c (.any)⟩
def Yf : TI := ⟨.func #[] #[] false, 1, 8, .c (.any)⟩
def Yg : TI := ⟨.func #[] #[] false, 1, 8, .c (.any)⟩
def Yh : TI := ⟨.func #[] #[] false, 1, 8, .c (.any)⟩
def Yi : TI := ⟨.func #[] #[] false, 1, 8, .c (.any)⟩
def Yj : TI := ⟨.func #[] #[] false, 1, 8, .c (.any)⟩
def Yk : TI := ⟨.func #[] #[] false, 1, 8, .c (.any)⟩
def Yl : TI := ⟨.func #[] #[] false, 1, 8, .c (.any)⟩
def Ym : TI := ⟨.func #[] #[] false, 1, 8, .c (.any)⟩
def Yn : TI := ⟨.struct #[fld 132 0, fld 132 2], 4, 32, .agg ([.d (.int .i64 0), .d (.int .i64 0), .d (.int .i64 0), .d (.int .i64 0)])⟩
def Yo : TI := ⟨.struct #[fld 132 0, fld 132 2], 4, 32, .agg ([.d (.int .i64 0), .d (.int .i64 0), .d (.int .i64 0), .d (.int .i64 0)])⟩
def Yp : TI := ⟨.func #[] #[] false, 1, 8, .c (.any)⟩
def Yq : TI := ⟨.slice 128, 1, 24, .c (.full [])⟩
def Yr : TI := ⟨.func #[] #[] false, 1, 8, .c (.any)⟩
def Ys : TI := ⟨.func #[] #[] false, 1, 8, .c (.any)⟩
def Yt : TI := ⟨.func #[] #[] false, 1, 8, .c (.any)⟩
def Yu : TI := ⟨.func #[] #[] false, 1, 8, .c (.any)⟩
def Yv : TI := ⟨.func #[] #[] false, 1, 8, .c (.any)⟩
def Yw : TI := ⟨.func #[] #[] false, 1, 8, .c (.any)⟩
def Yx : TI := ⟨.func #[] #[] false, 1, 8, .c (.any)⟩
def Yy : TI := ⟨.func #[] #[] false, 1, 8, .c (.any)⟩
def Yz : TI := ⟨.func #[] #[] false, 1, 8, .c (.any)⟩
def YA : TI := ⟨.func #[] #[] false, 1, 8, .c (.any)⟩
def YB : TI := ⟨.func #[] #[] false, 1, 8, .c (.any)⟩
def YD : TI := ⟨.struct #[fld 3 0, fld 3 1], 2, 16, .agg ([.d (.int .i64 0), .d (.int .i64 0)])⟩
def YE : TI := ⟨.struct #[fld 3 0, fld 3 1], 2, 16, .agg ([.d (.int .i64 0), .d (.int .i64 0)])⟩
def YF : TI := ⟨.func #[] #[] false, 1, 8, .c (.any)⟩
def YG : TI := ⟨.func #[] #[] false, 1, 8, .c (.any)⟩
def YH : TI := ⟨.array 11 46, 22, 176, .agg (List.replicate 22 (.d (.int .i64 0)))⟩
def YI : TI := ⟨.array 11 46, 22, 176, .agg (List.replicate 22 (.d (.int .i64 0)))⟩
def YJ : TI := ⟨.array 91 46, 182, 1456, .agg (List.replicate 182 (.d (.int .i64 0)))⟩
def YK : TI := ⟨.struct #[fld 67 0, fld 253 4, fld 254 26], 208, 1728, .agg (List.replicate 4 (.full []) ++ List.replicate 204 (.d (.int .i64 0)))⟩
def YL : TI := ⟨.struct #[fld 67 0, fld 253 4, fld 254 26], 208, 1728, .agg (List.replicate 4 (.full []) ++ List.replicate 204 (.d (.int .i64 0)))⟩
def YM : TI := ⟨.func #[] #[] false, 1, 8, .c (.any)⟩
def YN : TI := ⟨.array 24 3, 24, 192, .agg (List.replicate 24 (.d (.int .i64 0)))⟩
def YO : TI := ⟨.array 40 3, 40, 320, .agg (List.replicate 40 (.d (.int .i64 0)))⟩
def YP : TI := ⟨.struct #[fld 77 0, fld 258 4, fld 259 28], 68, 560, .agg ([.d (.int .i64 0), .d (.int .i64 0), .d (.int .i64 0)] ++ [.full []] ++ List.replicate 64 (.d (.int .i64 0)))⟩
def YQ : TI := ⟨.struct #[fld 77 0, fld 258 4, fld 259 28], 68, 560, .agg ([.d (.int .i64 0), .d (.int .i64 0), .d (.int .i64 0)] ++ [.full []] ++ List.replicate 64 (.d (.int .i64 0)))⟩
def YR : TI := ⟨.func #[] #[] false, 1, 8, .c (.any)⟩
def YS : TI := ⟨.func #[] #[] false, 1, 8, .c (.any)⟩
def YT : TI := ⟨.func #[] #[] false, 1, 8, .c (.any)⟩
def YU : TI := ⟨.func #[] #[] false, 1, 8, .c (.any)⟩
def YV : TI := ⟨.map 3 270, 1, 8, .c (.any)⟩
def YW : TI := ⟨.func #[] #[] false, 1, 8, .c (.any)⟩
def YX : TI := ⟨.struct #[fld 3 0, fld 3 1, fld 2 2, fld 3 3], 4, 32, .agg ([.d (.int .i64 0), .d (.int .i64 0), .d (.int .i64 0), .d (.int .i64 0)])⟩
def YY : TI := ⟨.struct #[fld 3 0, fld 3 1, fld 2 2, fld 3 3], 4, 32, .agg ([.d (.int .i64 0), .d (.int .i64 0), .d (.int .i64 0), .d (.int .i64 0)])⟩
def YZ : TI := ⟨.func #[] #[] false, 1, 8, .c (.any)⟩
def Y0 : TI := ⟨.func #[] #[] false, 1, 8, .c (.any)⟩
def Y1 : TI := ⟨.func #[] #[] false, 1, 8, .c (.any)⟩
def Y2 : TI := ⟨.func #[] #[] false, 1, 8, .c (.any)⟩
def Y3 : TI := ⟨.func #[] #[] false, 1, 8, .c (.any)⟩
def Y4 : TI := ⟨.func #[] #[] false, 1, 8, .c (.any)⟩
def Y5 : TI := ⟨.func #[] #[] false, 1, 8, .c (.any)⟩
def Y6 : TI := ⟨.func #[] #[] false, 1, 8, .c (.any)⟩
def Y7 : TI := ⟨.struct #[fld 102 0], 4, 32, .agg ([.d (.int .i64 0), .d (.int .i64 0), .d (.int .i64 0), .d (.int .i64 0)])⟩
def Y8 : TI := ⟨.struct #[fld 102 0], 4, 32, .agg ([.d (.int .i64 0), .d (.int .i64 0), .d (.int .i64 0), .d (.int .i64 0)])⟩
def Y9 : TI := ⟨.func #[] #[] false, 1, 8, .c (.any)⟩
def Za : TI := ⟨.func #[] #[] false, 1, 8, .c (.any)⟩
def Zb : TI := ⟨.func #[] #[] false, 1, 8, .c (.any)⟩
def Zc : TI := ⟨.func #[] #[] false, 1, 8, .c (.any)⟩
def Zd : TI := ⟨.struct #[fld 32 0, fld 2 1], 2, 32, .agg ([.full [], .d (.int .i64 0)])⟩
def Ze : TI := ⟨.struct #[fld 32 0, fld 2 1], 2, 32, .agg ([.full [], .d (.int .i64 0)])⟩
def Zf : TI := ⟨.func #[] #[] false, 1, 8, .c (.any)⟩
def Zg : TI := ⟨.func #[] #[] false, 1, 8, .c (.any)⟩
def Zh : TI := ⟨.func #[] #[] false, 1, 8, .c (.any)⟩
def Zi : TI := ⟨.func #[] #[] false, 1, 8, .c (.any)⟩
def Zj : TI := ⟨.pointer 410, 1, 8, .c (.nilp)⟩
def Zk : TI := ⟨.func #[] #[] false, 1, 8, .c (.any)⟩
def Zl : TI := ⟨.array 4 3, 4, 32, .agg ([.d (.int .i64 0), .d (.int .i64 0), .d (.int .i64 0), .d (.int .i64 0)])⟩
def Zm : TI := ⟨.array 4 3, 4, 32, .agg ([.d (.int .i64 0), .d (.int .i64 0), .d (.int .i64 0), .d (.int .i64 0)])⟩
def Zn : TI := ⟨.func #[] #[] false, 1, 8, .c (.any)⟩
def Zp : TI := ⟨.func #[] #[] false, 1, 8, .c (.any)⟩
def Zq : TI := ⟨.func #[] #[] false, 1, 8, .c (.any)⟩
def Zr : TI := ⟨.func #[] #[] false, 1, 8, .c (.any)⟩
def Zs : TI := ⟨.func #[] #[] false, 1, 8, .c (.any)⟩
def Zt : TI := ⟨.func #[] #[] false, 1, 8, .c (.any)⟩
def Zu : TI := ⟨.map 297 185, 1, 8, .c (.any)⟩
def Zv : TI := ⟨.func #[] #[] false, 1, 8, .c (.any)⟩
def Zw : TI := ⟨.map 297 3, 1, 8, .c (.any)⟩
def Zx : TI := ⟨.slice 297, 1, 24, .c (.full [])⟩
def Zy : TI := ⟨.func #[] #[] false, 1, 8, .c (.any)⟩
def Zz : TI := ⟨.func #[] #[] false, 1, 8, .c (.any)⟩
def ZA : TI := ⟨.func #[] #[] false, 1, 8, .c (.any)⟩
def ZB : TI := ⟨.func #[] #[] false, 1, 8, .c (.any)⟩
def ZC : TI := ⟨.func #[] #[] false, 1, 8, .c (.any)⟩
def ZD : TI := ⟨.func #[] #[] false, 1, 8, .c (.any)⟩
def ZE : TI := ⟨.func #[] #[] false, 1, 8, .c (.any)⟩
def ZF : TI := ⟨.func #[] #[] false, 1, 8, .c (.any)⟩
def ZG : TI := ⟨.func #[] #[] false, 1, 8, .c (.any)⟩
def ZH : TI := ⟨.func #[] #[] false, 1, 8, .c (.any)⟩
def ZI : TI := ⟨.array 2 128, 2, 48, .agg ([.full [], .full []])⟩
def ZJ : TI := ⟨.array 2 320, 4, 96, .agg ([.full [], .full [], .full [], .full []])⟩
def ZK : TI := ⟨.func #[] #[] false, 1, 8, .c (.any)⟩
def ZL : TI := ⟨.slice 100, 1, 24, .c (.full [])⟩
def ZM : TI := ⟨.func #[] #[] false, 1, 8, .c (.any)⟩
def ZN : TI := ⟨.func #[] #[] false, 1, 8, .c (.any)⟩
def ZO : TI := ⟨.func #[] #[] false, 1, 8, .c (.any)⟩
def ZP : TI := ⟨.func #[] #[] false, 1, 8, .c (.any)⟩
def ZQ : TI := ⟨.func #[] #[] false, 1, 8, .c (.any)⟩
def ZR : TI := ⟨.slice 123, 1, 24, .c (.full [])⟩
def ZS : TI := ⟨.map 334 3, 1, 8, .c (.any)⟩
def ZT : TI := ⟨.struct #[fld 3 0, fld 3 1], 2, 16, .agg ([.d (.int .i64 0), .d (.int .i64 0)])⟩
def ZU : TI := ⟨.struct #[fld 3 0, fld 3 1], 2, 16, .agg ([.d (.int .i64 0), .d (.int .i64 0)])⟩
def ZV : TI := ⟨.func #[] #[] false, 1, 8, .c (.any)⟩
def ZW : TI := ⟨.func #[] #[] false, 1, 8, .c (.any)⟩
def ZX : TI := ⟨.func #[] #[] false, 1, 8, .c (.any)⟩
def ZY : TI := ⟨.func #[] #[] false, 1, 8, .c (.any)⟩
def ZZ : TI := ⟨.func #[] #[] false, 1, 8, .c (.any)⟩
def Z0 : TI := ⟨.func #[] #[] false, 1, 8, .c (.any)⟩
def Z1 : TI := ⟨.func #[] #[] false, 1, 8, .c (.any)⟩
def Z2 : TI := ⟨.func #[] #[] false, 1, 8, .c (.any)⟩
def Z3 : TI := ⟨.func #[] #[] false, 1, 8, .c (.any)⟩
def Z4 : TI := ⟨.func #[] #[] false, 1, 8, .c (.any)⟩
def Z5 : TI := ⟨.func #[] #[] false, 1, 8, .c (.any)⟩
def Z6 : TI := ⟨.func #[] #[] false, 1, 8, .c (.any)⟩
def Z7 : TI := ⟨.func #[] #[] false, 1, 8, .c (.any)⟩
def Z8 : TI := ⟨.func #[] #[] false, 1, 8, .c (.any)⟩
def Z9 : TI := ⟨.func #[] #[] false, 1, 8, .c (.any)⟩
def aAa : TI := ⟨.func #[] #[] false, 1, 8, .c (.any)⟩
def aAb : TI := ⟨.func #[] #[] false, 1, 8, .c (.any)⟩
def aAc : TI := ⟨.func #[] #[] false, 1, 8, .c (.any)⟩
def aAd : TI := ⟨.func #[] #[] false, 1, 8, .c (.any)⟩
def aAe : TI := ⟨.func #[] #[] false, 1, 8, .c (.any)⟩
def aAf : TI := ⟨.func #[] #[] false, 1, 8, .c (.any)⟩
def aAg : TI := ⟨.func #[] #[] false, 1, 8, .c (.any)⟩
def aAh : TI := ⟨.func #[] #[] false, 1, 8, .c (.any)⟩
def aAi : TI := ⟨.func #[] #[] false, 1, 8, .c (.any)⟩
def aAj : TI := ⟨.func #[] #[] false, 1, 8, .c (.any)⟩
def aAk : TI := ⟨.func #[] #[] false, 1, 8, .c (.any)⟩
def aAl : TI := ⟨.func #[] #[] false, 1, 8, .c (.any)⟩
def aAm : TI := ⟨.func #[] #[] false, 1, 8, .c (.any)⟩
def aAn : TI := ⟨.func #[] #[] false, 1, 8, .c (.any)⟩
def aAo : TI := ⟨.func #[] #[] false, 1, 8, .c (.any)⟩
def aAp : TI := ⟨.func #[] #[] false, 1, 8, .c (.any)⟩
def aAq : TI := ⟨.func #[] #[] false, 1, 8, .c (.any)⟩
def aAr : TI := ⟨.func #[] #[] false, 1, 8, .c (.any)⟩
def aAs : TI := ⟨.func #[] #[] false, 1, 8, .c (.any)⟩
def aAt : TI := ⟨.struct #[fld 100 0, fld 100 2], 4, 32, .agg ([.d (.int .i64 0), .d (.int .i64 0), .d (.int .i64 0), .d (.int .i64 0)])⟩
def aAu : TI := ⟨.struct #[fld 100 0, fld 100 2], 4, 32, .agg ([.d (.int .i64 0), .d (.int .i64 0), .d (.int .i64 0), .d (.int .i64 0)])⟩
def aAv : TI := ⟨.func #[] #[] false, 1, 8, .c (.any)⟩
def aAw : TI := ⟨.func #[] #[] false, 1, 8, .c (.any)⟩
def aAx : TI := ⟨.func #[] #[] false, 1, 8, .c (.any)⟩
def aAy : TI := ⟨.func #[] #[] false, 1, 8, .c (.any)⟩
def aAz : TI := ⟨.func #[] #[] false, 1, 8, .c (.any)⟩
def aAA : TI := ⟨.func #[] #[] false, 1, 8, .c (.any)⟩
def aAB : TI := ⟨.func #[] #[] false, 1, 8, .c (.any)⟩
def aAC : TI := ⟨.func #[] #[] false, 1, 8, .c (.any)⟩
def aAD : TI := ⟨.func #[] #[] false, 1, 8, .c (.any)⟩
def aAE : TI := ⟨.struct #[fld 100 0, fld 100 2], 4, 32, .agg ([.d (.int .i64 0), .d (.int .i64 0), .d (.int .i64 0), .d (.int .i64 0)])⟩
def aAF : TI := ⟨.func #[] #[] false, 1, 8, .c (.any)⟩
def aAG : TI := ⟨.struct #[fld 2 0, fld 2 1, fld 46 2, fld 46 4, fld 46 6], 8, 64, .agg ([.d (.int .i64 0), .d (.int .i64 0), .d (.int .i64 0), .d (.int .i64 0), .d (.int .i64 0), .d (.int .i64 0), .d (.int .i64 0), .d (.int .i64 0)])⟩
def aAH : TI := ⟨.struct #[fld 2 0, fld 2 1, fld 46 2, fld 46 4, fld 46 6], 8, 64, .agg ([.d (.int .i64 0), .d (.int .i64 0), .d (.int .i64 0), .d (.int .i64 0), .d (.int .i64 0), .d (.int .i64 0), .d (.int .i64 0), .d (.int .i64 0)])⟩
def aAI : TI := ⟨.func #[] #[] false, 1, 8, .c (.any)⟩
def aAJ : TI := ⟨.func #[] #[] false, 1, 8, .c (.any)⟩
def aAK : TI := ⟨.func #[] #[] false, 1, 8, .c (.any)⟩
def aAL : TI := ⟨.func #[] #[] false, 1, 8, .c (.any)⟩
def aAM : TI := ⟨.func #[] #[] false, 1, 8, .c (.any)⟩
def aAN : TI := ⟨.func #[] #[] false, 1, 8, .c (.any)⟩
def aAO : TI := ⟨.func #[] #[] false, 1, 8, .c (.any)⟩
def aAP : TI := ⟨.func #[] #[] false, 1, 8, .c (.any)⟩
def aAQ : TI := ⟨.func #[] #[] false, 1, 8, .c (.any)⟩
def aAR : TI := ⟨.func #[] #[] false, 1, 8, .c (.any)⟩
def aAS : TI := ⟨.func #[] #[] false, 1, 8, .c (.any)⟩
def aAT : TI := ⟨.func #[] #[] false, 1, 8, .c (.any)⟩
def aAU : TI := ⟨.func #[] #[] false, 1, 8, .c (.any)⟩
def aAV : TI := ⟨.func #[] #[] false, 1, 8, .c (.any)⟩
def aAW : TI := ⟨.func #[] #[] false, 1, 8, .c (.any)⟩
def aAX : TI := ⟨.func #[] #[] false, 1, 8, .c (.any)⟩
def aAY : TI := ⟨.map 404 81, 1, 8, .c (.any)⟩
def aAZ : TI := ⟨.struct #[fld 2 0, fld 2 1], 2, 16, .agg ([.d (.int .i64 0), .d (.int .i64 0)])⟩
def aA0 : TI := ⟨.struct #[fld 2 0, fld 2 1], 2, 16, .agg ([.d (.int .i64 0), .d (.int .i64 0)])⟩
def aA1 : TI := ⟨.func #[] #[] false, 1, 8, .c (.any)⟩
def aA2 : TI := ⟨.func #[] #[] false, 1, 8, .c (.any)⟩
def aA3 : TI := ⟨.func #[] #[] false, 1, 8, .c (.any)⟩
def aA4 : TI := ⟨.array 39 297, 156, 1248, .agg (List.replicate 156 (.d (.int .i64 0)))⟩
def aA5 : TI := ⟨.struct #[fld 181 0, fld 408 2], 158, 1280, .agg ([.d (.int .i64 0)] ++ [.full []] ++ List.replicate 156 (.d (.int .i64 0)))⟩
def aA6 : TI := ⟨.struct #[fld 181 0, fld 408 2], 158, 1280, .agg ([.d (.int .i64 0)] ++ [.full []] ++ List.replicate 156 (.d (.int .i64 0)))⟩
def aA7 : TI := ⟨.func #[] #[] false, 1, 8, .c (.any)⟩
def aA8 : TI := ⟨.func #[] #[] false, 1, 8, .c (.any)⟩
def aA9 : TI := ⟨.func #[] #[] false, 1, 8, .c (.any)⟩
def aBa : TI := ⟨.func #[] #[] false, 1, 8, .c (.any)⟩
def aBb : TI := ⟨.func #[] #[] false, 1, 8, .c (.any)⟩
def aBc : TI := ⟨.func #[] #[] false, 1, 8, .c (.any)⟩
def aBd : TI := ⟨.func #[] #[] false, 1, 8, .c (.any)⟩
def aBe : TI := ⟨.func #[] #[] false, 1, 8, .c (.any)⟩
def aBf : TI := ⟨.func #[] #[] false, 1, 8, .c (.any)⟩
def aBg : TI := ⟨.int .u64, 1, 8, .c (.d (.int .u64 0))⟩
def aBh : TI := ⟨.func #[] #[] false, 1, 8, .c (.any)⟩
def aBi : TI := ⟨.func #[] #[] false, 1, 8, .c (.any)⟩
def aBj : TI := ⟨.func #[] #[] false, 1, 8, .c (.any)⟩
def aBk : TI := ⟨.func #[] #[] false, 1, 8, .c (.any)⟩
def aBl : TI := ⟨.func #[] #[] false, 1, 8, .c (.any)⟩
def aBm : TI := ⟨.func #[] #[] false, 1, 8, .c (.any)⟩
def aBn : TI := ⟨.struct #[fld 3 0, fld 3 1], 2, 16, .agg ([.d (.int .i64 0), .d (.int .i64 0)])⟩
def aBo : TI := ⟨.struct #[fld 3 0, fld 3 1], 2, 16, .agg ([.d (.int .i64 0), .d (.int .i64 0)])⟩
def aBp : TI := ⟨.array 2 3, 2, 16, .agg ([.d (.int .i64 0), .d (.int .i64 0)])⟩
def aBq : TI := ⟨.func #[] #[] false, 1, 8, .c (.any)⟩
def aBr : TI := ⟨.func #[] #[] false, 1, 8, .c (.any)⟩
def aBs : TI := ⟨.func #[] #[] false, 1, 8, .c (.any)⟩
def aBt : TI := ⟨.func #[] #[] false, 1, 8, .c (.any)⟩
def aBu : TI := ⟨.array 4 2, 4, 32, .agg ([.d (.int .i64 0), .d (.int .i64 0), .d (.int .i64 0), .d (.int .i64 0)])⟩
def aBv : TI := ⟨.array 4 2, 4, 32, .agg ([.d (.int .i64 0), .d (.int .i64 0), .d (.int .i64 0), .d (.int .i64 0)])⟩
def aBw : TI := ⟨.func #[] #[] false, 1, 8, .c (.any)⟩
def aBx : TI := ⟨.func #[] #[] false, 1, 8, .c (.any)⟩
def aBy : TI := ⟨.func #[] #[] false, 1, 8, .c (.any)⟩
def aBz : TI := ⟨.func #[] #[] false, 1, 8, .c (.any)⟩
def aBA : TI := ⟨.func #[] #[] false, 1, 8, .c (.any)⟩
def aBB : TI := ⟨.func #[] #[] false, 1, 8, .c (.any)⟩
def aBC : TI := ⟨.array 12 3, 12, 96, .agg (List.replicate 12 (.d (.int .i64 0)))⟩
def aBD : TI := ⟨.func #[] #[] false, 1, 8, .c (.any)⟩
def aBE : TI := ⟨.pointer 491, 1, 8, .c (.nilp)⟩
def aBF : TI := ⟨.int .u64, 1, 8, .c (.d (.int .u64 0))⟩
def aBG : TI := ⟨.array 64 445, 64, 512, .agg (List.replicate 64 (.d (.int .u64 0)))⟩
def aBH : TI := ⟨.array 64 445, 64, 512, .agg (List.replicate 64 (.d (.int .u64 0)))⟩
def aBI : TI := ⟨.func #[] #[] false, 1, 8, .c (.any)⟩
def aBJ : TI := ⟨.func #[] #[] false, 1, 8, .c (.any)⟩
def aBK : TI := ⟨.func #[] #[] false, 1, 8, .c (.any)⟩
def aBL : TI := ⟨.func #[] #[] false, 1, 8, .c (.any)⟩
def aBM : TI := ⟨.func #[] #[] false, 1, 8, .c (.any)⟩
def aBN : TI := ⟨.func #[] #[] false, 1, 8, .c (.any)⟩
def aBO : TI := ⟨.func #[] #[] false, 1, 8, .c (.any)⟩
def aBP : TI := ⟨.func #[] #[] false, 1, 8, .c (.any)⟩
def aBQ : TI := ⟨.func #[] #[] false, 1, 8, .c (.any)⟩
def aBR : TI := ⟨.struct #[fld 384 0], 8, 64, .agg ([.d (.int .i64 0), .d (.int .i64 0), .d (.int .i64 0), .d (.int .i64 0), .d (.int .i64 0), .d (.int .i64 0), .d (.int .i64 0), .d (.int .i64 0)])⟩
def aBS : TI := ⟨.struct #[fld 384 0], 8, 64, .agg ([.d (.int .i64 0), .d (.int .i64 0), .d (.int .i64 0), .d (.int .i64 0), .d (.int .i64 0), .d (.int .i64 0), .d (.int .i64 0), .d (.int .i64 0)])⟩
def aBT : TI := ⟨.struct #[fld 2 0, fld 2 1, fld 2 2], 3, 24, .agg ([.d (.int .i64 0), .d (.int .i64 0), .d (.int .i64 0)])⟩
def aBU : TI := ⟨.struct #[fld 2 0, fld 2 1, fld 2 2], 3, 24, .agg ([.d (.int .i64 0), .d (.int .i64 0), .d (.int .i64 0)])⟩
def aBV : TI := ⟨.func #[] #[] false, 1, 8, .c (.any)⟩
def aBW : TI := ⟨.func #[] #[] false, 1, 8, .c (.any)⟩
def aBX : TI := ⟨.func #[] #[] false, 1, 8, .c (.any)⟩
def aBY : TI := ⟨.func #[] #[] false, 1, 8, .c (.any)⟩
def aBZ : TI := ⟨.func #[] #[] false, 1, 8, .c (.any)⟩
def aB0 : TI := ⟨.func #[] #[] false, 1, 8, .c (.any)⟩
def aB1 : TI := ⟨.func #[] #[] false, 1, 8, .c (.any)⟩
def aB2 : TI := ⟨.func #[] #[] false, 1, 8, .c (.any)⟩
def aB3 : TI := ⟨.func #[] #[] false, 1, 8, .c (.any)⟩
def aB4 : TI := ⟨.func #[] #[] false, 1, 8, .c (.any)⟩
def aB5 : TI := ⟨.func #[] #[] false, 1, 8, .c (.any)⟩
def aB6 : TI := ⟨.func #[] #[] false, 1, 8, .c (.any)⟩
def aB7 : TI := ⟨.func #[] #[] false, 1, 8, .c (.any)⟩
def aB8 : TI := ⟨.func #[] #[] false, 1, 8, .c (.any)⟩
def aB9 : TI := ⟨.int .i64, 1, 8, .c (.d (.int .i64 0))⟩
def aCa : TI := ⟨.func #[] #[] false, 1, 8, .c (.any)⟩
def aCb : TI := ⟨.func #[] #[] false, 1, 8, .c (.any)⟩
def aCc : TI := ⟨.func #[] #[] false, 1, 8, .c (.any)⟩
def aCd : TI := ⟨.func #[] #[] false, 1, 8, .c (.any)⟩
def aCe : TI := ⟨.func #[] #[] false, 1, 8, .c (.any)⟩
def aCf : TI := ⟨.func #[] #[] false, 1, 8, .c (.any)⟩
def aCg : TI := ⟨.func #[] #[] false, 1, 8, .c (.any)⟩
def aCh : TI := ⟨.func #[] #[] false, 1, 8, .c (.any)⟩
def aCi : TI := ⟨.func #[] #[] false, 1, 8, .c (.any)⟩
def aCj : TI := ⟨.func #[] #[] false, 1, 8, .c (.any)⟩
def aCk : TI := ⟨.func #[] #[] false, 1, 8, .c (.any)⟩
def aCl : TI := ⟨.slice 447, 1, 24, .c (.full [])⟩
def aCm : TI := ⟨.struct #[fld 91 0, fld 3 1, fld 489 2], 3, 56, .agg ([.full [], .d (.int .i64 0), .full []])⟩
def aCn : TI := ⟨.struct #[fld 91 0, fld 3 1, fld 489 2], 3, 56, .agg ([.full [], .d (.int .i64 0), .full []])⟩
def aCo : TI := ⟨.func #[] #[] false, 1, 8, .c (.any)⟩
def aCp : TI := ⟨.func #[] #[] false, 1, 8, .c (.any)⟩
def aCq : TI := ⟨.func #[] #[] false, 1, 8, .c (.any)⟩
def aCr : TI := ⟨.func #[] #[] false, 1, 8, .c (.any)⟩
def aCs : TI := ⟨.func #[] #[] false, 1, 8, .c (.any)⟩
def aCt : TI := ⟨.func #[] #[] false, 1, 8, .c (.any)⟩
def aCu : TI := ⟨.func #[] #[] false, 1, 8, .c (.any)⟩
def aCv : TI := ⟨.int .u64, 1, 8, .c (.d (.int .u64 0))⟩
def aCw : TI := ⟨.func #[] #[] false, 1, 8, .c (.any)⟩
def aCx : TI := ⟨.func #[] #[] false, 1, 8, .c (.any)⟩
def aCy : TI := ⟨.func #[] #[] false, 1, 8, .c (.any)⟩
def aCz : TI := ⟨.pointer 3, 1, 8, .c (.nilp)⟩
def aCA : TI := ⟨.func #[] #[] false, 1, 8, .c (.any)⟩
def aCB : TI := ⟨.pointer 499, 1, 8, .c (.nilp)⟩
def aCC : TI := ⟨.func #[] #[] false, 1, 8, .c (.any)⟩
def aCD : TI := ⟨.array 64 5, 64, 64, .agg (List.replicate 64 (.d (.int .u8 0)))⟩
def aCE : TI := ⟨.func #[] #[] false, 1, 8, .c (.any)⟩
def aCF : TI := ⟨.func #[] #[] false, 1, 8, .c (.any)⟩
def aCG : TI := ⟨.pointer 5, 1, 8, .c (.nilp)⟩
def ttA : List (List (Option TI)) := [[none, some ti1, some ti2, some ti3, some ti4, some ti5, none, none, none, none, none, none, some aGA],
 [none, none, none, none, none, some aGB, some aGC, some aGD, some aGE, some aGF, some aGG, some aGH, some aGI, some aGJ, some aGK, some aGL],
 [some aGM, some aGN, some aGO, some aGP, none, some aGQ, none, some aGR, some aGS, some aGT, some aGU, some aGV, some aGW, some aGX, some aGY, some aGZ],
 [none, some aG0, some aG1, some aG2, some aG3, some aG4, none, some aG5, none, some aG6, some aG7, some aG8, some aG9, some aHa, some aHb, some aHc],
 [some aHd, some aHe, some aHf, some aHg, some aHh, some aHi, some aHj, some aHk, some aHl, none, some aHm, some aHn, some aHo, some aHp, some aHq, some aHr],
 [some aHs, some aHt, some aHu, none, some aHv, none, some aHw, none, some aHx, some aHy, some aHz, some aHA, none, some aHB, some aHC, some aHD],
 [some aHE, some aHF, some aHG, some aHH, some Wz, some WA, some WB, none, some WC, some WD, some WE, some WF, some WG, some WH, some WI, some WJ],
 [some WK, none, some WL, some WM, some WN, some WO, some WP, some WQ, some WR, some WS, some WT, some WU, none, some WV, some WW, some WX],
 [some WY, some WZ, some W0, some W1, some W2, none, some W3, none, some W4, some W5, some W6, none, some W7, some W8, some W9, some Xa],
 [some Xb, some Xc, none, some Xd, some Xf, some Xg, none, some Xh, some Xi, some Xj, none, some Xk, some Xl, some Xm, some Xn, some Xo],
 [some Xp, some Xq, some Xr, none, some Xs, some Xt, some Xu, some Xv, some Xw, some Xx, some Xy, some Xz, some XA, some XB, none, some XC],
 [some XD, some XE, some XF, some XG, some XH, some XI, some XJ, some XK, some XL, some XM, some XN, some XO, none, some XP, none, some XQ],
 [some XR, none, some XS, none, some XT, some XU, some XV, some XW, some XX, some XY, some XZ, none, some X0, some X1, none, some X2],
 [none, some X3, none, some X4, none, some X5, some X6, some X7, some X8, some X9, some Ya, some Yb, some Yc, some Yd, some Ye, some Yf],
 [some Yg, some Yh, some Yi, some Yj, some Yk, some Yl, some Ym, some Yn, some Yo, some Yp, some Yq, none, some Yr, some Ys, some Yt, some Yu],
 [some Yv, some Yw, some Yx, none, some Yy, some Yz, some YA, some YB, some YD, some YE, some YF, some YG, some YH, some YI, some YJ, some YK],
 [some YL, some YM, some YN, some YO, some YP, some YQ, some YR, some YS, some YT, some YU, some YV, none, some YW, some YX, some YY],
 [some YZ, some Y0, some Y1, some Y2, some Y3, some Y4, some Y5, some Y6, some Y7, some Y8, some Y9, none, some Za, some Zb, some Zc, some Zd],
 [some Ze, some Zf, some Zg, some Zh, some Zi, some Zj, none, some Zk, some Zl, some Zm, some Zn, some Zp, some Zq, some Zr, some Zs, some Zt],
 [some Zu, none, some Zv, some Zw, some Zx, some Zy, some Zz, some ZA, some ZB, some ZC, none, some ZD, some ZE, some ZF, some ZG, some ZH],
 [some ZI, some ZJ, none, some ZK, some ZL, some ZM, none, some ZN, some ZO, some ZP, some ZQ, some ZR, some ZS, some ZT, some ZU, some ZV],
 [some ZW, some ZX, some ZY, some ZZ, some Z0, some Z1, some Z2, some Z3, some Z4, some Z5, some Z6, some Z7, some Z8, some Z9, some aAa, some aAb],
 [some aAc, some aAd, some aAe, some aAf, some aAg, some aAh, some aAi, some aAj, some aAk, some aAl, some aAm, some aAn, some aAo, some aAp, some aAq, some aAr],
 [some aAs, some aAt, some aAu, some aAv, some aAw, some aAx, some aAy, some aAz, some aAA, some aAB, some aAC, some aAD, some aAE, none, some aAF, some aAG],
 [some aAH, some aAI, some aAJ, some aAK, some aAL, some aAM, some aAN, some aAO, none, some aAP, some aAQ, some aAR, some aAS, some aAT, some aAU, some aAV],
 [some aAW, some aAX, some aAY, some aAZ, some aA0, some aA1, some aA2, some aA3, some aA4, some aA5, some aA6, some aA7, some aA8, some aA9, some aBa, some aBb],
 [some aBc, some aBd, some aBe, some aBf, some aBg, some aBh, some aBi, some aBj, some aBk, some aBl, some aBm, some aBn, some aBo, some aBp, some aBq, some aBr],
 [some aBs, some aBt, some aBu, some aBv, some aBw, some aBx, some aBy, some aBz, some aBA, some aBB, some aBC, some aBD, some aBE, some aBF, some aBG, some aBH],
 [some aBI, some aBJ, some aBK, some aBL, some aBM, some aBN, some aBO, some aBP, some aBQ, some aBR, some aBS, some aBT, some aBU, some aBV, some aBW, some aBX],
 [some aBY, some aBZ, some aB0, some aB1, some aB2, some aB3, some aB4, some aB5, some aB6, some aB7, some aB8, some aB9, none, some aCa, some aCb, some aCc],
 [some aCd, some aCe, some aCf, some aCg, some aCh, some aCi, some aCj, none, some aCk, some aCl, some aCm, some aCn, some aCo, some aCp, some aCq, some aCr],
 [some aCs, some aCt, some aCu, some aCv, some aCw, some aCx, some aCy, some aCz, some aCA, some aCB, some aCC, some aCD, some aCE],
 [none, none, some aCF, none, none, none, some aCG]]
theorem ttOk : A9 Tryz.prog (ME ttA) := UH (by kernel_rfl)
def eqM : Nat := 418993997810711742039712283975699320721096273624216818089225773255014614693352940854590147177985606542851052092160467571770140050579553857710990875951104
noncomputable def tx : Tx := { P := Tryz.prog, tt := ME ttA, eqs := eqM.testBit, ok := ttOk, eok := Wj (N := 508) (of_decide_eq_true (by kernel_rfl)) (by kernel_rfl) }
theorem aIM : tx.vm = false := rfl
noncomputable def txv : Tx := { tx with vm := true }
theorem aHI : txv.vm = true := rfl
theorem aHJ : txv.tt = tx.tt := rfl
theorem aFa : txv.eqs = tx.eqs := rfl
end Go.Proofs.YtfgdbeijjbijnaaGreatDoor
set_option maxRecDepth 100000
namespace Go.Proofs.YtfgdbeijjbijnaaGreatDoor
open Go Go.Abs Go.Proofs
theorem tt1 : tx.tt 1 = some ti1 := by kernel_rfl
theorem tt2 : tx.tt 2 = some ti2 := by kernel_rfl
theorem tt3 : tx.tt 3 = some ti3 := by kernel_rfl
theorem tt4 : tx.tt 4 = some ti4 := by kernel_rfl
theorem tt5 : tx.tt 5 = some ti5 := by kernel_rfl
theorem tt12 : tx.tt 12 = some aGA := by kernel_rfl
theorem tt21 : tx.tt 21 = some aGB := by kernel_rfl
theorem tt22 : tx.tt 22 = some aGC := by kernel_rfl
theorem tt23 : tx.tt 23 = some aGD := by kernel_rfl
theorem tt24 : tx.tt 24 = some aGE := by kernel_rfl
theorem tt25 : tx.tt 25 = some aGF := by kernel_rfl
theorem tt26 : tx.tt 26 = some aGG := by kernel_rfl
theorem tt27 : tx.tt 27 = some aGH := by kernel_rfl
theorem tt28 : tx.tt 28 = some aGI := by kernel_rfl
theorem tt29 : tx.tt 29 = some aGJ := by kernel_rfl
theorem tt30 : tx.tt 30 = some aGK := by kernel_rfl
theorem tt31 : tx.tt 31 = some aGL := by kernel_rfl
theorem tt32 : tx.tt 32 = some aGM := by kernel_rfl
theorem tt33 : tx.tt 33 = some aGN := by kernel_rfl
theorem tt34 : tx.tt 34 = some aGO := by kernel_rfl
theorem tt35 : tx.tt 35 = some aGP := by kernel_rfl
theorem tt37 : tx.tt 37 = some aGQ := by kernel_rfl
theorem tt39 : tx.tt 39 = some aGR := by kernel_rfl
theorem tt40 : tx.tt 40 = some aGS := by kernel_rfl
theorem tt41 : tx.tt 41 = some aGT := by kernel_rfl
theorem tt42 : tx.tt 42 = some aGU := by kernel_rfl
theorem tt43 : tx.tt 43 = some aGV := by kernel_rfl
theorem tt44 : tx.tt 44 = some aGW := by kernel_rfl
theorem tt45 : tx.tt 45 = some aGX := by kernel_rfl
theorem tt46 : tx.tt 46 = some aGY := by kernel_rfl
theorem tt47 : tx.tt 47 = some aGZ := by kernel_rfl
theorem tt49 : tx.tt 49 = some aG0 := by kernel_rfl
theorem tt50 : tx.tt 50 = some aG1 := by kernel_rfl
theorem tt51 : tx.tt 51 = some aG2 := by kernel_rfl
theorem tt52 : tx.tt 52 = some aG3 := by kernel_rfl
theorem tt53 : tx.tt 53 = some aG4 := by kernel_rfl
theorem tt55 : tx.tt 55 = some aG5 := by kernel_rfl
theorem tt57 : tx.tt 57 = some aG6 := by kernel_rfl
theorem tt58 : tx.tt 58 = some aG7 := by kernel_rfl
theorem tt59 : tx.tt 59 = some aG8 := by kernel_rfl
theorem tt60 : tx.tt 60 = some aG9 := by kernel_rfl
theorem tt61 : tx.tt 61 = some aHa := by kernel_rfl
theorem tt62 : tx.tt 62 = some aHb := by kernel_rfl
theorem tt63 : tx.tt 63 = some aHc := by kernel_rfl
theorem tt64 : tx.tt 64 = some aHd := by kernel_rfl
theorem tt65 : tx.tt 65 = some aHe := by kernel_rfl
theorem tt66 : tx.tt 66 = some aHf := by kernel_rfl
theorem tt67 : tx.tt 67 = some aHg := by kernel_rfl
theorem tt68 : tx.tt 68 = some aHh := by kernel_rfl
theorem tt69 : tx.tt 69 = some aHi := by kernel_rfl
theorem tt70 : tx.tt 70 = some aHj := by kernel_rfl
theorem tt71 : tx.tt 71 = some aHk := by kernel_rfl
theorem tt72 : tx.tt 72 = some aHl := by kernel_rfl
theorem tt74 : tx.tt 74 = some aHm := by kernel_rfl
theorem tt75 : tx.tt 75 = some aHn := by kernel_rfl
theorem tt76 : tx.tt 76 = some aHo := by kernel_rfl
theorem tt77 : tx.tt 77 = some aHp := by kernel_rfl
theorem tt78 : tx.tt 78 = some aHq := by kernel_rfl
theorem tt79 : tx.tt 79 = some aHr := by kernel_rfl
theorem tt80 : tx.tt 80 = some aHs := by kernel_rfl
theorem tt81 : tx.tt 81 = some aHt := by kernel_rfl
theorem tt82 : tx.tt 82 = some aHu := by kernel_rfl
theorem tt84 : tx.tt 84 = some aHv := by kernel_rfl
theorem tt86 : tx.tt 86 = some aHw := by kernel_rfl
theorem tt88 : tx.tt 88 = some aHx := by kernel_rfl
theorem tt89 : tx.tt 89 = some aHy := by kernel_rfl
theorem tt90 : tx.tt 90 = some aHz := by kernel_rfl
theorem tt91 : tx.tt 91 = some aHA := by kernel_rfl
theorem tt93 : tx.tt 93 = some aHB := by kernel_rfl
theorem tt94 : tx.tt 94 = some aHC := by kernel_rfl
theorem tt95 : tx.tt 95 = some aHD := by kernel_rfl
theorem tt96 : tx.tt 96 = some aHE := by kernel_rfl
theorem tt97 : tx.tt 97 = some aHF := by kernel_rfl
theorem tt98 : tx.tt 98 = some aHG := by kernel_rfl
theorem tt99 : tx.tt 99 = some aHH := by kernel_rfl
theorem aIN : tx.tt 100 = some Wz := by kernel_rfl
theorem aIO : tx.tt 101 = some WA := by kernel_rfl
theorem aIP : tx.tt 102 = some WB := by kernel_rfl
theorem aIQ : tx.tt 104 = some WC := by kernel_rfl
theorem aIR : tx.tt 105 = some WD := by kernel_rfl
theorem aIS : tx.tt 106 = some WE := by kernel_rfl
theorem aIT : tx.tt 107 = some WF := by kernel_rfl
theorem aIU : tx.tt 108 = some WG := by kernel_rfl
theorem aIV : tx.tt 109 = some WH := by kernel_rfl
theorem aIW : tx.tt 110 = some WI := by kernel_rfl
theorem aIX : tx.tt 111 = some WJ := by kernel_rfl
theorem aIY : tx.tt 112 = some WK := by kernel_rfl
theorem aIZ : tx.tt 114 = some WL := by kernel_rfl
theorem aI0 : tx.tt 115 = some WM := by kernel_rfl
theorem aI1 : tx.tt 116 = some WN := by kernel_rfl
theorem aI2 : tx.tt 117 = some WO := by kernel_rfl
theorem aI3 : tx.tt 118 = some WP := by kernel_rfl
theorem aI4 : tx.tt 119 = some WQ := by kernel_rfl
theorem aI5 : tx.tt 120 = some WR := by kernel_rfl
theorem aI6 : tx.tt 121 = some WS := by kernel_rfl
theorem aI7 : tx.tt 122 = some WT := by kernel_rfl
theorem aI8 : tx.tt 123 = some WU := by kernel_rfl
theorem aI9 : tx.tt 125 = some WV := by kernel_rfl
theorem aJa : tx.tt 126 = some WW := by kernel_rfl
theorem aJb : tx.tt 127 = some WX := by kernel_rfl
theorem aJc : tx.tt 128 = some WY := by kernel_rfl
theorem aJd : tx.tt 129 = some WZ := by kernel_rfl
theorem aJe : tx.tt 130 = some W0 := by kernel_rfl
theorem aJf : tx.tt 131 = some W1 := by kernel_rfl
theorem aJg : tx.tt 132 = some W2 := by kernel_rfl
theorem aJh : tx.tt 134 = some W3 := by kernel_rfl
theorem aJi : tx.tt 136 = some W4 := by kernel_rfl
theorem aJj : tx.tt 137 = some W5 := by kernel_rfl
theorem aJk : tx.tt 138 = some W6 := by kernel_rfl
theorem aJl : tx.tt 140 = some W7 := by kernel_rfl
theorem aJm : tx.tt 141 = some W8 := by kernel_rfl
theorem aJn : tx.tt 142 = some W9 := by kernel_rfl
theorem aJo : tx.tt 143 = some Xa := by kernel_rfl
theorem aJp : tx.tt 144 = some Xb := by kernel_rfl
theorem aJq : tx.tt 145 = some Xc := by kernel_rfl
theorem aJr : tx.tt 147 = some Xd := by kernel_rfl
theorem aJs : tx.tt 148 = some Xf := by kernel_rfl
theorem aJt : tx.tt 149 = some Xg := by kernel_rfl
theorem aJu : tx.tt 151 = some Xh := by kernel_rfl
theorem aJv : tx.tt 152 = some Xi := by kernel_rfl
theorem aJw : tx.tt 153 = some Xj := by kernel_rfl
theorem aJx : tx.tt 155 = some Xk := by kernel_rfl
theorem aJy : tx.tt 156 = some Xl := by kernel_rfl
theorem aJz : tx.tt 157 = some Xm := by kernel_rfl
theorem aJA : tx.tt 158 = some Xn := by kernel_rfl
theorem aJB : tx.tt 159 = some Xo := by kernel_rfl
theorem aJC : tx.tt 160 = some Xp := by kernel_rfl
theorem aJD : tx.tt 161 = some Xq := by kernel_rfl
theorem aJE : tx.tt 162 = some Xr := by kernel_rfl
theorem aJF : tx.tt 164 = some Xs := by kernel_rfl
theorem aJG : tx.tt 165 = some Xt := by kernel_rfl
theorem aJH : tx.tt 166 = some Xu := by kernel_rfl
theorem aJI : tx.tt 167 = some Xv := by kernel_rfl
theorem aJJ : tx.tt 168 = some Xw := by kernel_rfl
theorem aJK : tx.tt 169 = some Xx := by kernel_rfl
theorem aJL : tx.tt 170 = some Xy := by kernel_rfl
theorem aJM : tx.tt 171 = some Xz := by kernel_rfl
theorem aJN : tx.tt 172 = some XA := by kernel_rfl
theorem aJO : tx.tt 173 = some XB := by kernel_rfl
theorem aJP : tx.tt 175 = some XC := by kernel_rfl
theorem aJQ : tx.tt 176 = some XD := by kernel_rfl
theorem aJR : tx.tt 177 = some XE := by kernel_rfl
theorem aJS : tx.tt 178 = some XF := by kernel_rfl
theorem aJT : tx.tt 179 = some XG := by kernel_rfl
theorem aJU : tx.tt 180 = some XH := by kernel_rfl
theorem aJV : tx.tt 181 = some XI := by kernel_rfl
theorem aJW : tx.tt 182 = some XJ := by kernel_rfl
theorem aJX : tx.tt 183 = some XK := by kernel_rfl
theorem aJY : tx.tt 184 = some XL := by kernel_rfl
theorem aJZ : tx.tt 185 = some XM := by kernel_rfl
theorem aJ0 : tx.tt 186 = some XN := by kernel_rfl
theorem aJ1 : tx.tt 187 = some XO := by kernel_rfl
theorem aJ2 : tx.tt 189 = some XP := by kernel_rfl
theorem aJ3 : tx.tt 191 = some XQ := by kernel_rfl
theorem aJ4 : tx.tt 192 = some XR := by kernel_rfl
theorem aJ5 : tx.tt 194 = some XS := by kernel_rfl
theorem aJ6 : tx.tt 196 = some XT := by kernel_rfl
theorem aJ7 : tx.tt 197 = some XU := by kernel_rfl
theorem aJ8 : tx.tt 198 = some XV := by kernel_rfl
theorem aJ9 : tx.tt 199 = some XW := by kernel_rfl
theorem aKa : tx.tt 200 = some XX := by kernel_rfl
theorem aKb : tx.tt 201 = some XY := by kernel_rfl
theorem aKc : tx.tt 202 = some XZ := by kernel_rfl
theorem aKd : tx.tt 204 = some X0 := by kernel_rfl
theorem aKe : tx.tt 205 = some X1 := by kernel_rfl
theorem aKf : tx.tt 207 = some X2 := by kernel_rfl
theorem aKg : tx.tt 209 = some X3 := by kernel_rfl
theorem aKh : tx.tt 211 = some X4 := by kernel_rfl
theorem aKi : tx.tt 213 = some X5 := by kernel_rfl
theorem aKj : tx.tt 214 = some X6 := by kernel_rfl
theorem aKk : tx.tt 215 = some X7 := by kernel_rfl
theorem aKl : tx.tt 216 = some X8 := by kernel_rfl
theorem aKm : tx.tt 217 = some X9 := by kernel_rfl
theorem aKn : tx.tt 218 = some Ya := by kernel_rfl
theorem aKo : tx.tt 219 = some Yb := by kernel_rfl
theorem aKp : tx.tt 220 = some Yc := by kernel_rfl
theorem aKq : tx.tt 221 = some Yd := by kernel_rfl
theorem aKr : tx.tt 222 = some Ye := by kernel_rfl
theorem aKs : tx.tt 223 = some Yf := by kernel_rfl
theorem aKt : tx.tt 224 = some Yg := by kernel_rfl
theorem aKu : tx.tt 225 = some Yh := by kernel_rfl
theorem aKv : tx.tt 226 = some Yi := by kernel_rfl
theorem aKw : tx.tt 227 = some Yj := by kernel_rfl
theorem aKx : tx.tt 228 = some Yk := by kernel_rfl
theorem aKy : tx.tt 229 = some Yl := by kernel_rfl
theorem aKz : tx.tt 230 = some Ym := by kernel_rfl
theorem aKA : tx.tt 231 = some Yn := by kernel_rfl
theorem aKB : tx.tt 232 = some Yo := by kernel_rfl
theorem aKC : tx.tt 233 = some Yp := by kernel_rfl
theorem aKD : tx.tt 234 = some Yq := by kernel_rfl
theorem aKE : tx.tt 236 = some Yr := by kernel_rfl
theorem aKF : tx.tt 237 = some Ys := by kernel_rfl
theorem aKG : tx.tt 238 = some Yt := by kernel_rfl
theorem aKH : tx.tt 239 = some Yu := by kernel_rfl
theorem aKI : tx.tt 240 = some Yv := by kernel_rfl
theorem aKJ : tx.tt 241 = some Yw := by kernel_rfl
theorem aKK : tx.tt 242 = some Yx := by kernel_rfl
theorem aKL : tx.tt 244 = some Yy := by kernel_rfl
theorem aKM : tx.tt 245 = some Yz := by kernel_rfl
theorem aKN : tx.tt 246 = some YA := by kernel_rfl
theorem aKO : tx.tt 247 = some YB := by kernel_rfl
theorem aKP : tx.tt 248 = some YD := by kernel_rfl
theorem aKQ : tx.tt 249 = some YE := by kernel_rfl
theorem aKR : tx.tt 250 = some YF := by kernel_rfl
theorem aKS : tx.tt 251 = some YG := by kernel_rfl
theorem aKT : tx.tt 252 = some YH := by kernel_rfl
theorem aKU : tx.tt 253 = some YI := by kernel_rfl
theorem aKV : tx.tt 254 = some YJ := by kernel_rfl
theorem aKW : tx.tt 255 = some YK := by kernel_rfl
theorem aKX : tx.tt 256 = some YL := by kernel_rfl
theorem aKY : tx.tt 257 = some YM := by kernel_rfl
theorem aKZ : tx.tt 258 = some YN := by kernel_rfl
theorem aK0 : tx.tt 259 = some YO := by kernel_rfl
theorem aK1 : tx.tt 260 = some YP := by kernel_rfl
theorem aK2 : tx.tt 261 = some YQ := by kernel_rfl
theorem aK3 : tx.tt 262 = some YR := by kernel_rfl
theorem aK4 : tx.tt 263 = some YS := by kernel_rfl
theorem aK5 : tx.tt 264 = some YT := by kernel_rfl
theorem aK6 : tx.tt 265 = some YU := by kernel_rfl
theorem aK7 : tx.tt 266 = some YV := by kernel_rfl
theorem aK8 : tx.tt 268 = some YW := by kernel_rfl
theorem aK9 : tx.tt 269 = some YX := by kernel_rfl
theorem aLa : tx.tt 270 = some YY := by kernel_rfl
theorem aLb : tx.tt 272 = some YZ := by kernel_rfl
theorem aLc : tx.tt 273 = some Y0 := by kernel_rfl
theorem aLd : tx.tt 274 = some Y1 := by kernel_rfl
theorem aLe : tx.tt 275 = some Y2 := by kernel_rfl
theorem aLf : tx.tt 276 = some Y3 := by kernel_rfl
theorem aLg : tx.tt 277 = some Y4 := by kernel_rfl
theorem aLh : tx.tt 278 = some Y5 := by kernel_rfl
theorem aLi : tx.tt 279 = some Y6 := by kernel_rfl
theorem aLj : tx.tt 280 = some Y7 := by kernel_rfl
theorem aLk : tx.tt 281 = some Y8 := by kernel_rfl
theorem aLl : tx.tt 282 = some Y9 := by kernel_rfl
theorem aLm : tx.tt 284 = some Za := by kernel_rfl
theorem aLn : tx.tt 285 = some Zb := by kernel_rfl
theorem aLo : tx.tt 286 = some Zc := by kernel_rfl
theorem aLp : tx.tt 287 = some Zd := by kernel_rfl
theorem aLq : tx.tt 288 = some Ze := by kernel_rfl
theorem aLr : tx.tt 289 = some Zf := by kernel_rfl
theorem aLs : tx.tt 290 = some Zg := by kernel_rfl
theorem aLt : tx.tt 291 = some Zh := by kernel_rfl
theorem aLu : tx.tt 292 = some Zi := by kernel_rfl
theorem aLv : tx.tt 293 = some Zj := by kernel_rfl
theorem aLw : tx.tt 295 = some Zk := by kernel_rfl
theorem aLx : tx.tt 296 = some Zl := by kernel_rfl
theorem aLy : tx.tt 297 = some Zm := by kernel_rfl
theorem aLz : tx.tt 298 = some Zn := by kernel_rfl
theorem aLA : tx.tt 299 = some Zp := by kernel_rfl
theorem aLB : tx.tt 300 = some Zq := by kernel_rfl
theorem aLC : tx.tt 301 = some Zr := by kernel_rfl
theorem aLD : tx.tt 302 = some Zs := by kernel_rfl
theorem aLE : tx.tt 303 = some Zt := by kernel_rfl
theorem aLF : tx.tt 304 = some Zu := by kernel_rfl
theorem aLG : tx.tt 306 = some Zv := by kernel_rfl
theorem aLH : tx.tt 307 = some Zw := by kernel_rfl
theorem aLI : tx.tt 308 = some Zx := by kernel_rfl
theorem aLJ : tx.tt 309 = some Zy := by kernel_rfl
theorem aLK : tx.tt 310 = some Zz := by kernel_rfl
theorem aLL : tx.tt 311 = some ZA := by kernel_rfl
theorem aLM : tx.tt 312 = some ZB := by kernel_rfl
theorem aLN : tx.tt 313 = some ZC := by kernel_rfl
theorem aLO : tx.tt 315 = some ZD := by kernel_rfl
theorem aLP : tx.tt 316 = some ZE := by kernel_rfl
theorem aLQ : tx.tt 317 = some ZF := by kernel_rfl
theorem aLR : tx.tt 318 = some ZG := by kernel_rfl
theorem aLS : tx.tt 319 = some ZH := by kernel_rfl
theorem aLT : tx.tt 320 = some ZI := by kernel_rfl
theorem aLU : tx.tt 321 = some ZJ := by kernel_rfl
theorem aLV : tx.tt 323 = some ZK := by kernel_rfl
theorem aLW : tx.tt 324 = some ZL := by kernel_rfl
theorem aLX : tx.tt 325 = some ZM := by kernel_rfl
theorem aLY : tx.tt 327 = some ZN := by kernel_rfl
theorem aLZ : tx.tt 328 = some ZO := by kernel_rfl
theorem aL0 : tx.tt 329 = some ZP := by kernel_rfl
theorem aL1 : tx.tt 330 = some ZQ := by kernel_rfl
theorem aL2 : tx.tt 331 = some ZR := by kernel_rfl
theorem aL3 : tx.tt 332 = some ZS := by kernel_rfl
theorem aL4 : tx.tt 333 = some ZT := by kernel_rfl
theorem aL5 : tx.tt 334 = some ZU := by kernel_rfl
theorem aL6 : tx.tt 335 = some ZV := by kernel_rfl
theorem aL7 : tx.tt 336 = some ZW := by kernel_rfl
theorem aL8 : tx.tt 337 = some ZX := by kernel_rfl
theorem aL9 : tx.tt 338 = some ZY := by kernel_rfl
theorem aMa : tx.tt 339 = some ZZ := by kernel_rfl
theorem aMb : tx.tt 340 = some Z0 := by kernel_rfl
theorem aMc : tx.tt 341 = some Z1 := by kernel_rfl
theorem aMd : tx.tt 342 = some Z2 := by kernel_rfl
theorem aMe : tx.tt 343 = some Z3 := by kernel_rfl
theorem aMf : tx.tt 344 = some Z4 := by kernel_rfl
theorem aMg : tx.tt 345 = some Z5 := by kernel_rfl
theorem aMh : tx.tt 346 = some Z6 := by kernel_rfl
theorem aMi : tx.tt 347 = some Z7 := by kernel_rfl
theorem aMj : tx.tt 348 = some Z8 := by kernel_rfl
theorem aMk : tx.tt 349 = some Z9 := by kernel_rfl
theorem aMl : tx.tt 350 = some aAa := by kernel_rfl
theorem aMm : tx.tt 351 = some aAb := by kernel_rfl
theorem aMn : tx.tt 352 = some aAc := by kernel_rfl
theorem aMo : tx.tt 353 = some aAd := by kernel_rfl
theorem aMp : tx.tt 354 = some aAe := by kernel_rfl
theorem aMq : tx.tt 355 = some aAf := by kernel_rfl
theorem aMr : tx.tt 356 = some aAg := by kernel_rfl
theorem aMs : tx.tt 357 = some aAh := by kernel_rfl
theorem aMt : tx.tt 358 = some aAi := by kernel_rfl
theorem aMu : tx.tt 359 = some aAj := by kernel_rfl
theorem aMv : tx.tt 360 = some aAk := by kernel_rfl
theorem aMw : tx.tt 361 = some aAl := by kernel_rfl
theorem aMx : tx.tt 362 = some aAm := by kernel_rfl
theorem aMy : tx.tt 363 = some aAn := by kernel_rfl
theorem aMz : tx.tt 364 = some aAo := by kernel_rfl
theorem aMA : tx.tt 365 = some aAp := by kernel_rfl
theorem aMB : tx.tt 366 = some aAq := by kernel_rfl
theorem aMC : tx.tt 367 = some aAr := by kernel_rfl
theorem aMD : tx.tt 368 = some aAs := by kernel_rfl
theorem aME : tx.tt 369 = some aAt := by kernel_rfl
theorem aMF : tx.tt 370 = some aAu := by kernel_rfl
theorem aMG : tx.tt 371 = some aAv := by kernel_rfl
theorem aMH : tx.tt 372 = some aAw := by kernel_rfl
theorem aMI : tx.tt 373 = some aAx := by kernel_rfl
theorem aMJ : tx.tt 374 = some aAy := by kernel_rfl
theorem aMK : tx.tt 375 = some aAz := by kernel_rfl
theorem aML : tx.tt 376 = some aAA := by kernel_rfl
theorem aMM : tx.tt 377 = some aAB := by kernel_rfl
theorem aMN : tx.tt 378 = some aAC := by kernel_rfl
theorem aMO : tx.tt 379 = some aAD := by kernel_rfl
theorem aMP : tx.tt 380 = some aAE := by kernel_rfl
theorem aMQ : tx.tt 382 = some aAF := by kernel_rfl
theorem aMR : tx.tt 383 = some aAG := by kernel_rfl
theorem aMS : tx.tt 384 = some aAH := by kernel_rfl
theorem aMT : tx.tt 385 = some aAI := by kernel_rfl
theorem aMU : tx.tt 386 = some aAJ := by kernel_rfl
theorem aMV : tx.tt 387 = some aAK := by kernel_rfl
theorem aMW : tx.tt 388 = some aAL := by kernel_rfl
theorem aMX : tx.tt 389 = some aAM := by kernel_rfl
theorem aMY : tx.tt 390 = some aAN := by kernel_rfl
theorem aMZ : tx.tt 391 = some aAO := by kernel_rfl
theorem aM0 : tx.tt 393 = some aAP := by kernel_rfl
theorem aM1 : tx.tt 394 = some aAQ := by kernel_rfl
theorem aM2 : tx.tt 395 = some aAR := by kernel_rfl
theorem aM3 : tx.tt 396 = some aAS := by kernel_rfl
theorem aM4 : tx.tt 397 = some aAT := by kernel_rfl
theorem aM5 : tx.tt 398 = some aAU := by kernel_rfl
theorem aM6 : tx.tt 399 = some aAV := by kernel_rfl
theorem aM7 : tx.tt 400 = some aAW := by kernel_rfl
theorem aM8 : tx.tt 401 = some aAX := by kernel_rfl
theorem aM9 : tx.tt 402 = some aAY := by kernel_rfl
theorem aNa : tx.tt 403 = some aAZ := by kernel_rfl
theorem aNb : tx.tt 404 = some aA0 := by kernel_rfl
theorem aNc : tx.tt 405 = some aA1 := by kernel_rfl
theorem aNd : tx.tt 406 = some aA2 := by kernel_rfl
theorem aNe : tx.tt 407 = some aA3 := by kernel_rfl
theorem aNf : tx.tt 408 = some aA4 := by kernel_rfl
theorem aNg : tx.tt 409 = some aA5 := by kernel_rfl
theorem aNh : tx.tt 410 = some aA6 := by kernel_rfl
theorem aNi : tx.tt 411 = some aA7 := by kernel_rfl
theorem aNj : tx.tt 412 = some aA8 := by kernel_rfl
theorem aNk : tx.tt 413 = some aA9 := by kernel_rfl
theorem aNl : tx.tt 414 = some aBa := by kernel_rfl
theorem aNm : tx.tt 415 = some aBb := by kernel_rfl
theorem aNn : tx.tt 416 = some aBc := by kernel_rfl
theorem aNo : tx.tt 417 = some aBd := by kernel_rfl
theorem aNp : tx.tt 418 = some aBe := by kernel_rfl
theorem aNq : tx.tt 419 = some aBf := by kernel_rfl
theorem aNr : tx.tt 420 = some aBg := by kernel_rfl
theorem aNs : tx.tt 421 = some aBh := by kernel_rfl
theorem aNt : tx.tt 422 = some aBi := by kernel_rfl
theorem aNu : tx.tt 423 = some aBj := by kernel_rfl
theorem aNv : tx.tt 424 = some aBk := by kernel_rfl
theorem aNw : tx.tt 425 = some aBl := by kernel_rfl
theorem aNx : tx.tt 426 = some aBm := by kernel_rfl
theorem aNy : tx.tt 427 = some aBn := by kernel_rfl
theorem aNz : tx.tt 428 = some aBo := by kernel_rfl
theorem aNA : tx.tt 429 = some aBp := by kernel_rfl
theorem aNB : tx.tt 430 = some aBq := by kernel_rfl
theorem aNC : tx.tt 431 = some aBr := by kernel_rfl
theorem aND : tx.tt 432 = some aBs := by kernel_rfl
theorem aNE : tx.tt 433 = some aBt := by kernel_rfl
theorem aNF : tx.tt 434 = some aBu := by kernel_rfl
theorem aNG : tx.tt 435 = some aBv := by kernel_rfl
theorem aNH : tx.tt 436 = some aBw := by kernel_rfl
theorem aNI : tx.tt 437 = some aBx := by kernel_rfl
theorem aNJ : tx.tt 438 = some aBy := by kernel_rfl
theorem aNK : tx.tt 439 = some aBz := by kernel_rfl
theorem aNL : tx.tt 440 = some aBA := by kernel_rfl
theorem aNM : tx.tt 441 = some aBB := by kernel_rfl
theorem aNN : tx.tt 442 = some aBC := by kernel_rfl
theorem aNO : tx.tt 443 = some aBD := by kernel_rfl
theorem aNP : tx.tt 444 = some aBE := by kernel_rfl
theorem aNQ : tx.tt 445 = some aBF := by kernel_rfl
theorem aNR : tx.tt 446 = some aBG := by kernel_rfl
theorem aNS : tx.tt 447 = some aBH := by kernel_rfl
theorem aNT : tx.tt 448 = some aBI := by kernel_rfl
theorem aNU : tx.tt 449 = some aBJ := by kernel_rfl
theorem aNV : tx.tt 450 = some aBK := by kernel_rfl
theorem aNW : tx.tt 451 = some aBL := by kernel_rfl
theorem aNX : tx.tt 452 = some aBM := by kernel_rfl
theorem aNY : tx.tt 453 = some aBN := by kernel_rfl
theorem aNZ : tx.tt 454 = some aBO := by kernel_rfl
theorem aN0 : tx.tt 455 = some aBP := by kernel_rfl
theorem aN1 : tx.tt 456 = some aBQ := by kernel_rfl
theorem aN2 : tx.tt 457 = some aBR := by kernel_rfl
theorem aN3 : tx.tt 458 = some aBS := by kernel_rfl
theorem aN4 : tx.tt 459 = some aBT := by kernel_rfl
theorem aN5 : tx.tt 460 = some aBU := by kernel_rfl
theorem aN6 : tx.tt 461 = some aBV := by kernel_rfl
theorem aN7 : tx.tt 462 = some aBW := by kernel_rfl
theorem aN8 : tx.tt 463 = some aBX := by kernel_rfl
theorem aN9 : tx.tt 464 = some aBY := by kernel_rfl
theorem aOa : tx.tt 465 = some aBZ := by kernel_rfl
theorem aOb : tx.tt 466 = some aB0 := by kernel_rfl
theorem aOc : tx.tt 467 = some aB1 := by kernel_rfl
theorem aOd : tx.tt 468 = some aB2 := by kernel_rfl
theorem aOe : tx.tt 469 = some aB3 := by kernel_rfl
theorem aOf : tx.tt 470 = some aB4 := by kernel_rfl
theorem aOg : tx.tt 471 = some aB5 := by kernel_rfl
theorem aOh : tx.tt 472 = some aB6 := by kernel_rfl
theorem aOi : tx.tt 473 = some aB7 := by kernel_rfl
theorem aOj : tx.tt 474 = some aB8 := by kernel_rfl
theorem aOk : tx.tt 475 = some aB9 := by kernel_rfl
theorem aOl : tx.tt 477 = some aCa := by kernel_rfl
theorem aOm : tx.tt 478 = some aCb := by kernel_rfl
theorem aOn : tx.tt 479 = some aCc := by kernel_rfl
theorem aOo : tx.tt 480 = some aCd := by kernel_rfl
theorem aOp : tx.tt 481 = some aCe := by kernel_rfl
theorem aOq : tx.tt 482 = some aCf := by kernel_rfl
theorem aOr : tx.tt 483 = some aCg := by kernel_rfl
theorem aOs : tx.tt 484 = some aCh := by kernel_rfl
theorem aOt : tx.tt 485 = some aCi := by kernel_rfl
theorem aOu : tx.tt 486 = some aCj := by kernel_rfl
theorem aOv : tx.tt 488 = some aCk := by kernel_rfl
theorem aOw : tx.tt 489 = some aCl := by kernel_rfl
theorem aOx : tx.tt 490 = some aCm := by kernel_rfl
theorem aOy : tx.tt 491 = some aCn := by kernel_rfl
theorem aOz : tx.tt 492 = some aCo := by kernel_rfl
theorem aOA : tx.tt 493 = some aCp := by kernel_rfl
theorem aOB : tx.tt 494 = some aCq := by kernel_rfl
theorem aOC : tx.tt 495 = some aCr := by kernel_rfl
theorem aOD : tx.tt 496 = some aCs := by kernel_rfl
theorem aOE : tx.tt 497 = some aCt := by kernel_rfl
theorem aOF : tx.tt 498 = some aCu := by kernel_rfl
theorem aOG : tx.tt 499 = some aCv := by kernel_rfl
theorem aOH : tx.tt 500 = some aCw := by kernel_rfl
theorem aOI : tx.tt 501 = some aCx := by kernel_rfl
theorem aOJ : tx.tt 502 = some aCy := by kernel_rfl
theorem aOK : tx.tt 503 = some aCz := by kernel_rfl
theorem aOL : tx.tt 504 = some aCA := by kernel_rfl
theorem aOM : tx.tt 505 = some aCB := by kernel_rfl
theorem aON : tx.tt 506 = some aCC := by kernel_rfl
theorem aOO : tx.tt 507 = some aCD := by kernel_rfl
theorem aOP : tx.tt 508 = some aCE := by kernel_rfl
theorem aOQ : tx.tt 514 = some aCF := by kernel_rfl
theorem aOR : tx.tt 518 = some aCG := by kernel_rfl
theorem eq45 : tx.eqs 45 = true := by kernel_rfl
theorem eq46 : tx.eqs 46 = true := by kernel_rfl
theorem eq50 : tx.eqs 50 = true := by kernel_rfl
theorem eq51 : tx.eqs 51 = true := by kernel_rfl
theorem eq52 : tx.eqs 52 = true := by kernel_rfl
theorem eq53 : tx.eqs 53 = true := by kernel_rfl
theorem eq62 : tx.eqs 62 = true := by kernel_rfl
theorem eq63 : tx.eqs 63 = true := by kernel_rfl
theorem eq78 : tx.eqs 78 = true := by kernel_rfl
theorem eq79 : tx.eqs 79 = true := by kernel_rfl
theorem eq80 : tx.eqs 80 = true := by kernel_rfl
theorem eq99 : tx.eqs 99 = true := by kernel_rfl
theorem aOS : tx.eqs 100 = true := by kernel_rfl
theorem aOT : tx.eqs 101 = true := by kernel_rfl
theorem aOU : tx.eqs 102 = true := by kernel_rfl
theorem aOV : tx.eqs 117 = true := by kernel_rfl
theorem aOW : tx.eqs 118 = true := by kernel_rfl
theorem aOX : tx.eqs 131 = true := by kernel_rfl
theorem aOY : tx.eqs 132 = true := by kernel_rfl
theorem aOZ : tx.eqs 137 = true := by kernel_rfl
theorem aO0 : tx.eqs 138 = true := by kernel_rfl
theorem aO1 : tx.eqs 161 = true := by kernel_rfl
theorem aO2 : tx.eqs 162 = true := by kernel_rfl
theorem aO3 : tx.eqs 165 = true := by kernel_rfl
theorem aO4 : tx.eqs 166 = true := by kernel_rfl
theorem aO5 : tx.eqs 184 = true := by kernel_rfl
theorem aO6 : tx.eqs 185 = true := by kernel_rfl
theorem aO7 : tx.eqs 231 = true := by kernel_rfl
theorem aO8 : tx.eqs 232 = true := by kernel_rfl
theorem aO9 : tx.eqs 248 = true := by kernel_rfl
theorem aPa : tx.eqs 249 = true := by kernel_rfl
theorem aPb : tx.eqs 252 = true := by kernel_rfl
theorem aPc : tx.eqs 253 = true := by kernel_rfl
theorem aPd : tx.eqs 254 = true := by kernel_rfl
theorem aPe : tx.eqs 258 = true := by kernel_rfl
theorem aPf : tx.eqs 259 = true := by kernel_rfl
theorem aPg : tx.eqs 269 = true := by kernel_rfl
theorem aPh : tx.eqs 270 = true := by kernel_rfl
theorem aPi : tx.eqs 280 = true := by kernel_rfl
theorem aPj : tx.eqs 281 = true := by kernel_rfl
theorem aPk : tx.eqs 296 = true := by kernel_rfl
theorem aPl : tx.eqs 297 = true := by kernel_rfl
theorem aPm : tx.eqs 333 = true := by kernel_rfl
theorem aPn : tx.eqs 334 = true := by kernel_rfl
theorem aPo : tx.eqs 369 = true := by kernel_rfl
theorem aPp : tx.eqs 370 = true := by kernel_rfl
theorem aPq : tx.eqs 380 = true := by kernel_rfl
theorem aPr : tx.eqs 383 = true := by kernel_rfl
theorem aPs : tx.eqs 384 = true := by kernel_rfl
theorem aPt : tx.eqs 403 = true := by kernel_rfl
theorem aPu : tx.eqs 404 = true := by kernel_rfl
theorem aPv : tx.eqs 408 = true := by kernel_rfl
theorem aPw : tx.eqs 427 = true := by kernel_rfl
theorem aPx : tx.eqs 428 = true := by kernel_rfl
theorem aPy : tx.eqs 429 = true := by kernel_rfl
theorem aPz : tx.eqs 434 = true := by kernel_rfl
theorem aPA : tx.eqs 435 = true := by kernel_rfl
theorem aPB : tx.eqs 442 = true := by kernel_rfl
theorem aPC : tx.eqs 446 = true := by kernel_rfl
theorem aPD : tx.eqs 447 = true := by kernel_rfl
theorem aPE : tx.eqs 457 = true := by kernel_rfl
theorem aPF : tx.eqs 458 = true := by kernel_rfl
theorem aPG : tx.eqs 459 = true := by kernel_rfl
theorem aPH : tx.eqs 460 = true := by kernel_rfl
theorem aPI : tx.eqs 507 = true := by kernel_rfl
end Go.Proofs.YtfgdbeijjbijnaaGreatDoor
namespace Go.Proofs.YtfgdbeijjbijnaaGreatDoor
open Go Go.Abs
attribute [go_sem] tt1 tt2 tt3 tt4 tt5 tt12 tt21 tt22 tt23 tt24 tt25 tt26 tt27 tt28 tt29 tt30 tt31 tt32 tt33 tt34 tt35 tt37 tt39 tt40 tt41 tt42 tt43 tt44 tt45 tt46 tt47 tt49 tt50 tt51 tt52 tt53 tt55 tt57 tt58 tt59 tt60 tt61 tt62 tt63 tt64 tt65 tt66 tt67 tt68 tt69 tt70 tt71 tt72 tt74 tt75 tt76 tt77 tt78 tt79 tt80 tt81 tt82 tt84 tt86 tt88 tt89 tt90 tt91 tt93 tt94 tt95 tt96 tt97 tt98 tt99 aIN aIO aIP aIQ aIR aIS aIT aIU aIV aIW aIX aIY aIZ aI0 aI1 aI2 aI3 aI4 aI5 aI6 aI7 aI8 aI9 aJa aJb aJc aJd aJe aJf aJg aJh aJi aJj aJk aJl aJm aJn aJo aJp aJq aJr aJs aJt aJu aJv aJw aJx aJy aJz aJA aJB aJC aJD aJE aJF aJG aJH aJI aJJ aJK aJL aJM aJN aJO aJP aJQ aJR aJS aJT aJU aJV aJW aJX aJY aJZ aJ0 aJ1 aJ2 aJ3 aJ4 aJ5 aJ6 aJ7 aJ8 aJ9 aKa aKb aKc aKd aKe aKf aKg aKh aKi aKj aKk aKl aKm aKn aKo aKp aKq aKr aKs aKt aKu aKv aKw aKx aKy aKz aKA aKB aKC aKD aKE aKF aKG aKH aKI aKJ aKK aKL aKM aKN aKO aKP aKQ aKR aKS aKT aKU aKV aKW aKX aKY aKZ aK0 aK1 aK2 aK3 aK4 aK5 aK6 aK7 aK8 aK9 aLa aLb aLc aLd aLe aLf aLg aLh aLi aLj aLk aLl aLm aLn aLo aLp aLq aLr aLs aLt aLu aLv aLw aLx aLy aLz aLA aLB aLC aLD aLE aLF aLG aLH aLI aLJ aLK aLL aLM aLN aLO aLP aLQ aLR aLS aLT aLU aLV aLW aLX aLY aLZ aL0 aL1 aL2 aL3 aL4 aL5 aL6 aL7 aL8 aL9 aMa aMb aMc aMd aMe aMf aMg aMh aMi aMj aMk aMl aMm aMn aMo aMp aMq aMr aMs aMt aMu aMv aMw aMx aMy aMz aMA aMB aMC aMD aME aMF aMG aMH aMI aMJ aMK aML aMM aMN aMO aMP aMQ aMR aMS aMT aMU aMV aMW aMX aMY aMZ aM0 aM1 aM2 aM3 aM4 aM5 aM6 aM7 aM8 aM9 aNa aNb aNc aNd aNe aNf aNg aNh aNi aNj aNk aNl aNm aNn aNo aNp aNq aNr aNs aNt aNu aNv aNw aNx aNy aNz aNA aNB aNC aND aNE aNF aNG aNH aNI aNJ aNK aNL aNM aNN aNO aNP aNQ aNR aNS aNT aNU aNV aNW aNX aNY aNZ aN0 aN1 aN2 aN3 aN4 aN5 aN6 aN7 aN8 aN9 aOa aOb aOc aOd aOe aOf aOg aOh aOi aOj aOk aOl aOm aOn aOo aOp aOq aOr aOs aOt aOu aOv aOw aOx aOy aOz aOA aOB aOC aOD aOE aOF aOG aOH aOI aOJ aOK aOL aOM aON aOO aOP aOQ aOR eq45 eq46 eq50 eq51 eq52 eq53 eq62 eq63 eq78 eq79 eq80 eq99 aOS aOT aOU aOV aOW aOX aOY aOZ aO0 aO1 aO2 aO3 aO4 aO5 aO6 aO7 aO8 aO9 aPa aPb aPc aPd aPe aPf aPg aPh aPi aPj aPk aPl aPm aPn aPo aPp aPq aPr aPs aPt aPu aPv aPw aPx aPy aPz aPA aPB aPC aPD aPE aPF aPG aPH aPI ti1 ti2 ti3 ti4 ti5 aGA aGB aGC aGD aGE aGF aGG aGH aGI aGJ aGK aGL aGM aGN aGO aGP aGQ aGR aGS aGT aGU aGV aGW aGX aGY aGZ aG0 aG1 aG2 aG3 aG4 aG5 aG6 aG7 aG8 aG9 aHa aHb aHc aHd aHe aHf aHg aHh aHi aHj aHk aHl aHm aHn aHo aHp aHq aHr aHs aHt aHu aHv aHw aHx aHy aHz aHA aHB aHC aHD aHE aHF aHG aHH Wz WA WB WC WD WE WF WG WH WI WJ WK WL WM WN WO WP WQ WR WS WT WU WV WW WX WY WZ W0 W1 W2 W3 W4 W5 W6 W7 W8 W9 Xa Xb Xc Xd Xf Xg Xh Xi Xj Xk Xl Xm Xn Xo Xp Xq Xr Xs Xt Xu Xv Xw Xx Xy Xz XA XB XC XD XE XF XG XH XI XJ XK XL XM XN XO XP XQ XR XS XT XU XV XW XX XY XZ X0 X1 X2 X3 X4 X5 X6 X7 X8 X9 Ya Yb Yc Yd Ye Yf Yg Yh Yi Yj Yk Yl Ym Yn Yo Yp Yq Yr Ys Yt Yu Yv Yw Yx Yy Yz YA YB YD YE YF YG YH YI YJ YK YL YM YN YO YP YQ YR YS YT YU YV YW YX YY YZ Y0 Y1 Y2 Y3 Y4 Y5 Y6 Y7 Y8 Y9 Za Zb Zc Zd Ze Zf Zg Zh Zi Zj Zk Zl Zm Zn Zp Zq Zr Zs Zt Zu Zv Zw Zx Zy Zz ZA ZB ZC ZD ZE ZF ZG ZH ZI ZJ ZK ZL ZM ZN ZO ZP ZQ ZR ZS ZT ZU ZV ZW ZX ZY ZZ Z0 Z1 Z2 Z3 Z4 Z5 Z6 Z7 Z8 Z9 aAa aAb aAc aAd aAe aAf aAg aAh aAi aAj aAk aAl aAm aAn aAo aAp aAq aAr aAs aAt aAu aAv aAw aAx aAy aAz aAA aAB aAC aAD aAE aAF aAG aAH aAI aAJ aAK aAL aAM aAN aAO aAP aAQ aAR aAS aAT aAU aAV aAW aAX aAY aAZ aA0 aA1 aA2 aA3 aA4 aA5 aA6 aA7 aA8 aA9 aBa aBb aBc aBd aBe aBf aBg aBh aBi aBj aBk aBl aBm aBn aBo aBp aBq aBr aBs aBt aBu aBv aBw aBx aBy aBz aBA aBB aBC aBD aBE aBF aBG aBH aBI aBJ aBK aBL aBM aBN aBO aBP aBQ aBR aBS aBT aBU aBV aBW aBX aBY aBZ aB0 aB1 aB2 aB3 aB4 aB5 aB6 aB7 aB8 aB9 aCa aCb aCc aCd aCe aCf aCg aCh aCi aCj aCk aCl aCm aCn aCo aCp aCq aCr aCs aCt aCu aCv aCw aCx aCy aCz aCA aCB aCC aCD aCE aCF aCG
attribute [go_sem] Be zc List.replicate_succ List.replicate_zero List.flatten_cons List.flatten_nil CR toD A4 Dv CG List.all_cons List.all_nil List.all_map Function.comp_def List.take_nil List.drop_nil List.toList_toArray C.eqbL BZ eqC List.drop_one List.tail_cons lim
end Go.Proofs.YtfgdbeijjbijnaaGreatDoor
