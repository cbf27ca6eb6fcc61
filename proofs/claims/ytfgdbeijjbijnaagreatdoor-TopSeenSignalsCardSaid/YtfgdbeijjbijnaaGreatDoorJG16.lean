/- The types of the program, as the logic wants them: a table, and that it tells the program's types. -/
import Derived.Test.YtfgdbeijjbijnaaGreatDoorJG11
import Derived.KernelRfl
import Derived.Test.YtfgdbeijjbijnaaGreatDoorJG12
import Derived.Test.YtfgdbeijjbijnaaGreatDoorProg
set_option linter.unusedSimpArgs false
set_option linter.unusedVariables false
set_option maxRecDepth 100000
namespace Go.Proofs.YtfgdbeijjbijnaaGreatDoor
open Go Go.Abs Go.Proofs
def ti1 : TI := ⟨.func #[] #[] false, 1, 8, .c (.any)⟩
def ti2 : TI := ⟨.int .i64, 1, 8, .c (.d (.int .i64 0))⟩
def ti3 : TI := ⟨.int .i64, 1, 8, .c (.d (.int .i64 0))⟩
def ti4 : TI := ⟨.bool, 1, 1, .c (.d (.bool false))⟩
def ti5 : TI := ⟨.int .u8, 1, 1, .c (.d (.int .u8 0))⟩
def aFA : TI := ⟨.int .u64, 1, 8, .c (.d (.int .u64 0))⟩
def aFB : TI := ⟨.int .i32, 1, 4, .c (.d (.int .i32 0))⟩
def aFC : TI := ⟨.slice 23, 1, 24, .c (.full [])⟩
def aFD : TI := ⟨.slice 46, 1, 24, .c (.full [])⟩
def aFE : TI := ⟨.struct #[fld 22 0, fld 23 1], 2, 48, .agg ([.full [], .full []])⟩
def aFF : TI := ⟨.struct #[fld 22 0, fld 23 1], 2, 48, .agg ([.full [], .full []])⟩
def aFG : TI := ⟨.slice 2, 1, 24, .c (.full [])⟩
def aFH : TI := ⟨.slice 216, 1, 24, .c (.full [])⟩
def aFI : TI := ⟨.func #[] #[] false, 1, 8, .c (.any)⟩
def aFJ : TI := ⟨.int .i64, 1, 8, .c (.d (.int .i64 0))⟩
def aFK : TI := ⟨.func #[] #[] false, 1, 8, .c (.any)⟩
def aFL : TI := ⟨.func #[] #[] false, 1, 8, .c (.any)⟩
def aFM : TI := ⟨.slice 26, 1, 24, .c (.full [])⟩
def aFN : TI := ⟨.struct #[fld 32 0, fld 26 1], 2, 48, .agg ([.full [], .full []])⟩
def aFO : TI := ⟨.struct #[fld 32 0, fld 26 1], 2, 48, .agg ([.full [], .full []])⟩
def aFP : TI := ⟨.func #[] #[] false, 1, 8, .c (.any)⟩
def aFQ : TI := ⟨.func #[] #[] false, 1, 8, .c (.any)⟩
def aFR : TI := ⟨.func #[] #[] false, 1, 8, .c (.any)⟩
def aFS : TI := ⟨.slice 51, 1, 24, .c (.full [])⟩
def aFT : TI := ⟨.slice 40, 1, 24, .c (.full [])⟩
def aFU : TI := ⟨.struct #[fld 40 0, fld 41 1], 2, 48, .agg ([.full [], .full []])⟩
def aFV : TI := ⟨.struct #[fld 40 0, fld 41 1], 2, 48, .agg ([.full [], .full []])⟩
def aFW : TI := ⟨.func #[] #[] false, 1, 8, .c (.any)⟩
def aFX : TI := ⟨.struct #[fld 2 0, fld 2 1], 2, 16, .agg ([.d (.int .i64 0), .d (.int .i64 0)])⟩
def aFY : TI := ⟨.struct #[fld 2 0, fld 2 1], 2, 16, .agg ([.d (.int .i64 0), .d (.int .i64 0)])⟩
def aFZ : TI := ⟨.func #[] #[] false, 1, 8, .c (.any)⟩
def aF0 : TI := ⟨.func #[] #[] false, 1, 8, .c (.any)⟩
def aF1 : TI := ⟨.struct #[fld 2 0, fld 2 1], 2, 16, .agg ([.d (.int .i64 0), .d (.int .i64 0)])⟩
def aF2 : TI := ⟨.struct #[fld 2 0, fld 2 1], 2, 16, .agg ([.d (.int .i64 0), .d (.int .i64 0)])⟩
def aF3 : TI := ⟨.struct #[fld 2 0, fld 2 1, fld 2 2], 3, 24, .agg ([.d (.int .i64 0), .d (.int .i64 0), .d (.int .i64 0)])⟩
def aF4 : TI := ⟨.struct #[fld 2 0, fld 2 1, fld 2 2], 3, 24, .agg ([.d (.int .i64 0), .d (.int .i64 0), .d (.int .i64 0)])⟩
def aF5 : TI := ⟨.func #[] #[] false, 1, 8, .c (.any)⟩
def aF6 : TI := ⟨.func #[] #[] false, 1, 8, .c (.any)⟩
def aF7 : TI := ⟨.func #[] #[] false, 1, 8, .c (.any)⟩
def aF8 : TI := ⟨.func #[] #[] false, 1, 8, .c (.any)⟩
def aF9 : TI := ⟨.func #[] #[] false, 1, 8, .c (.any)⟩
def aGa : TI := ⟨.func #[] #[] false, 1, 8, .c (.any)⟩
def aGb : TI := ⟨.struct #[fld 2 0, fld 2 1, fld 2 2], 3, 24, .agg ([.d (.int .i64 0), .d (.int .i64 0), .d (.int .i64 0)])⟩
def aGc : TI := ⟨.struct #[fld 2 0, fld 2 1, fld 2 2], 3, 24, .agg ([.d (.int .i64 0), .d (.int .i64 0), .d (.int .i64 0)])⟩
def aGd : TI := ⟨.func #[] #[] false, 1, 8, .c (.any)⟩
def aGe : TI := ⟨.slice 4, 1, 24, .c (.full [])⟩
def aGf : TI := ⟨.struct #[fld 26 0, fld 23 1, fld 65 2, fld 26 3], 4, 96, .agg ([.full [], .full [], .full [], .full []])⟩
def aGg : TI := ⟨.struct #[fld 26 0, fld 23 1, fld 65 2, fld 26 3], 4, 96, .agg ([.full [], .full [], .full [], .full []])⟩
def aGh : TI := ⟨.slice 5, 1, 24, .c (.full [])⟩
def aGi : TI := ⟨.slice 78, 1, 24, .c (.full [])⟩
def aGj : TI := ⟨.int .u32, 1, 4, .c (.d (.int .u32 0))⟩
def aGk : TI := ⟨.func #[] #[] false, 1, 8, .c (.any)⟩
def aGl : TI := ⟨.func #[] #[] false, 1, 8, .c (.any)⟩
def aGm : TI := ⟨.func #[] #[] false, 1, 8, .c (.any)⟩
def aGn : TI := ⟨.slice 80, 1, 24, .c (.full [])⟩
def aGo : TI := ⟨.struct #[fld 3 0, fld 3 1, fld 3 2, fld 75 3], 4, 48, .agg ([.d (.int .i64 0), .d (.int .i64 0), .d (.int .i64 0), .full []])⟩
def aGp : TI := ⟨.struct #[fld 3 0, fld 3 1, fld 3 2, fld 75 3], 4, 48, .agg ([.d (.int .i64 0), .d (.int .i64 0), .d (.int .i64 0), .full []])⟩
def aGq : TI := ⟨.array 2 5, 2, 2, .agg ([.d (.int .u8 0), .d (.int .u8 0)])⟩
def aGr : TI := ⟨.struct #[fld 3 0, fld 3 1, fld 2 2], 3, 24, .agg ([.d (.int .i64 0), .d (.int .i64 0), .d (.int .i64 0)])⟩
def aGs : TI := ⟨.struct #[fld 3 0, fld 3 1, fld 2 2], 3, 24, .agg ([.d (.int .i64 0), .d (.int .i64 0), .d (.int .i64 0)])⟩
def aGt : TI := ⟨.slice 3, 1, 24, .c (.full [])⟩
def aGu : TI := ⟨.func #[] #[] false, 1, 8, .c (.any)⟩
def aGv : TI := ⟨.func #[] #[] false, 1, 8, .c (.any)⟩
def aGw : TI := ⟨.func #[] #[] false, 1, 8, .c (.any)⟩
def aGx : TI := ⟨.func #[] #[] false, 1, 8, .c (.any)⟩
def aGy : TI := ⟨.func #[] #[] false, 1, 8, .c (.any)⟩
def aGz : TI := ⟨.slice 70, 1, 24, .c (.full [])⟩
def aGA : TI := ⟨.slice 166, 1, 24, .c (.full [])⟩
def aGB : TI := ⟨.func #[] #[] false, 1, 8, .c (.any)⟩
def aGC : TI := ⟨.func #[] #[] false, 1, 8, .c (.any)⟩
def aGD : TI := ⟨.func #[] #[] false, 1, 8, .c (.any)⟩
def aGE : TI := ⟨.func #[] #[] false, 1, 8, .c (.any)⟩
def aGF : TI := ⟨.func #[] #[] false, 1, 8, .c (.any)⟩
def aGG : TI := ⟨.func #[] #[] false, 1, 8, .c (.any)⟩
def aGH : TI := ⟨.struct #[fld 2 0, fld 2 1], 2, 16, .agg ([.d (.int .i64 0), .d (.int .i64 0)])⟩
def VQ : TI := ⟨.struct #[fld 2 0, fld 2 1], 2, 16, .agg ([.d (.int .i64 0), .d (.int .i64 0)])⟩
def VR : TI := ⟨.struct #[fld 100 0, fld 100 2], 4, 32, .agg ([.d (.int .i64 0), .d (.int .i64 0), .d (.int .i64 0), .d (.int .i64 0)])⟩
def VS : TI := ⟨.struct #[fld 100 0, fld 100 2], 4, 32, .agg ([.d (.int .i64 0), .d (.int .i64 0), .d (.int .i64 0), .d (.int .i64 0)])⟩
def VT : TI := ⟨.func #[] #[] false, 1, 8, .c (.any)⟩
def VU : TI := ⟨.func #[] #[] false, 1, 8, .c (.any)⟩
def VV : TI := ⟨.slice 102, 1, 24, .c (.full [])⟩
def VW : TI := ⟨.func #[] #[] false, 1, 8, .c (.any)⟩
def VX : TI := ⟨.func #[] #[] false, 1, 8, .c (.any)⟩
def VY : TI := ⟨.func #[] #[] false, 1, 8, .c (.any)⟩
def VZ : TI := ⟨.func #[] #[] false, 1, 8, .c (.any)⟩
def V0 : TI := ⟨.struct #[fld 25 0], 2, 48, .agg ([.full [], .full []])⟩
def V1 : TI := ⟨.struct #[fld 25 0], 2, 48, .agg ([.full [], .full []])⟩
def V2 : TI := ⟨.func #[] #[] false, 1, 8, .c (.any)⟩
def V3 : TI := ⟨.func #[] #[] false, 1, 8, .c (.any)⟩
def V4 : TI := ⟨.func #[] #[] false, 1, 8, .c (.any)⟩
def V5 : TI := ⟨.array 3 2, 3, 24, .agg ([.d (.int .i64 0), .d (.int .i64 0), .d (.int .i64 0)])⟩
def V6 : TI := ⟨.array 3 2, 3, 24, .agg ([.d (.int .i64 0), .d (.int .i64 0), .d (.int .i64 0)])⟩
def V7 : TI := ⟨.func #[] #[] false, 1, 8, .c (.any)⟩
def V8 : TI := ⟨.func #[] #[] false, 1, 8, .c (.any)⟩
def V9 : TI := ⟨.func #[] #[] false, 1, 8, .c (.any)⟩
def Wa : TI := ⟨.func #[] #[] false, 1, 8, .c (.any)⟩
def Wb : TI := ⟨.pointer 130, 1, 8, .c (.nilp)⟩
def Wc : TI := ⟨.func #[] #[] false, 1, 8, .c (.any)⟩
def We : TI := ⟨.func #[] #[] false, 1, 8, .c (.any)⟩
def Wf : TI := ⟨.func #[] #[] false, 1, 8, .c (.any)⟩
def Wg : TI := ⟨.slice 132, 1, 24, .c (.full [])⟩
def Wh : TI := ⟨.struct #[fld 43 0, fld 128 2], 3, 72, .agg ([.full [], .full [], .full []])⟩
def Wi : TI := ⟨.struct #[fld 43 0, fld 128 2], 3, 72, .agg ([.full [], .full [], .full []])⟩
def Wj : TI := ⟨.array 2 2, 2, 16, .agg ([.d (.int .i64 0), .d (.int .i64 0)])⟩
def Wk : TI := ⟨.array 2 2, 2, 16, .agg ([.d (.int .i64 0), .d (.int .i64 0)])⟩
def Wl : TI := ⟨.func #[] #[] false, 1, 8, .c (.any)⟩
def Wm : TI := ⟨.func #[] #[] false, 1, 8, .c (.any)⟩
def Wn : TI := ⟨.struct #[fld 3 0, fld 3 1], 2, 16, .agg ([.d (.int .i64 0), .d (.int .i64 0)])⟩
def Wo : TI := ⟨.struct #[fld 3 0, fld 3 1], 2, 16, .agg ([.d (.int .i64 0), .d (.int .i64 0)])⟩
def Wp : TI := ⟨.func #[] #[] false, 1, 8, .c (.any)⟩
def Wq : TI := ⟨.func #[] #[] false, 1, 8, .c (.any)⟩
def Wr : TI := ⟨.func #[] #[] false, 1, 8, .c (.any)⟩
def Ws : TI := ⟨.func #[] #[] false, 1, 8, .c (.any)⟩
def Wt : TI := ⟨.func #[] #[] false, 1, 8, .c (.any)⟩
def Wu : TI := ⟨.func #[] #[] false, 1, 8, .c (.any)⟩
def Wv : TI := ⟨.func #[] #[] false, 1, 8, .c (.any)⟩
def Ww : TI := ⟨.func #[] #[] false, 1, 8, .c (.any)⟩
def Wx : TI := ⟨.pointer 256, 1, 8, .c (.nilp)⟩
def Wy : TI := ⟨.func #[] #[] false, 1, 8, .c (.any)⟩
def Wz : TI := ⟨.func #[] #[] false, 1, 8, .c (.any)⟩
def WA : TI := ⟨.pointer 261, 1, 8, .c (.nilp)⟩
def WB : TI := ⟨.func #[] #[] false, 1, 8, .c (.any)⟩
def WC : TI := ⟨.func #[] #[] false, 1, 8, .c (.any)⟩
def WD : TI := ⟨.func #[] #[] false, 1, 8, .c (.any)⟩
def WE : TI := ⟨.func #[] #[] false, 1, 8, .c (.any)⟩
def WF : TI := ⟨.func #[] #[] false, 1, 8, .c (.any)⟩
def WG : TI := ⟨.func #[] #[] false, 1, 8, .c (.any)⟩
def WH : TI := ⟨.array 41 2, 41, 328, .agg (List.replicate 41 (.d (.int .i64 0)))⟩
def WI : TI := ⟨.array 41 2, 41, 328, .agg (List.replicate 41 (.d (.int .i64 0)))⟩
def WJ : TI := ⟨.func #[] #[] false, 1, 8, .c (.any)⟩
def WK : TI := ⟨.struct #[fld 3 0, fld 3 1], 2, 16, .agg ([.d (.int .i64 0), .d (.int .i64 0)])⟩
def WL : TI := ⟨.struct #[fld 3 0, fld 3 1], 2, 16, .agg ([.d (.int .i64 0), .d (.int .i64 0)])⟩
def WM : TI := ⟨.func #[] #[] false, 1, 8, .c (.any)⟩
def WN : TI := ⟨.func #[] #[] false, 1, 8, .c (.any)⟩
def WO : TI := ⟨.func #[] #[] false, 1, 8, .c (.any)⟩
def WP : TI := ⟨.func #[] #[] false, 1, 8, .c (.any)⟩
def WQ : TI := ⟨.func #[] #[] false, 1, 8, .c (.any)⟩
def WR : TI := ⟨.func #[] #[] false, 1, 8, .c (.any)⟩
def WS : TI := ⟨.func #[] #[] false, 1, 8, .c (.any)⟩
def WT : TI := ⟨.func #[] #[] false, 1, 8, .c (.any)⟩
def WU : TI := ⟨.func #[] #[] false, 1, 8, .c (.any)⟩
def WV : TI := ⟨.func #[] #[] false, 1, 8, .c (.any)⟩
def WW : TI := ⟨.func #[] #[] false, 1, 8, .c (.any)⟩
def WX : TI := ⟨.slice 81, 1, 24, .c (.full [])⟩
def WY : TI := ⟨.struct #[fld 3 0, fld 179 1], 2, 32, .agg ([.d (.int .i64 0), .full []])⟩
def WZ : TI := ⟨.struct #[fld 3 0, fld 179 1], 2, 32, .agg ([.d (.int .i64 0), .full []])⟩
def W0 : TI := ⟨.func #[] #[] false, 1, 8, .c (.any)⟩
def W1 : TI := ⟨.func #[] #[] false, 1, 8, .c (.any)⟩
def W2 : TI := ⟨.struct #[fld 3 0, fld 3 1], 2, 16, .agg ([.d (.int .i64 0), .d (.int .i64 0)])⟩
def W3 : TI := ⟨.struct #[fld 3 0, fld 3 1], 2, 16, .agg ([.d (.int .i64 0), .d (.int .i64 0)])⟩
def W4 : TI := ⟨.func #[] #[] false, 1, 8, .c (.any)⟩
def W5 : TI := ⟨.slice 185, 1, 24, .c (.full [])⟩
def W6 : TI := ⟨.func #[] #[] false, 1, 8, .c (.any)⟩
def W7 : TI := ⟨.func #[] #[] false, 1, 8, .c (.any)⟩
def W8 : TI := ⟨.func #[] #[] false, 1, 8, .c (.any)⟩
def W9 : TI := ⟨.func #[] #[] false, 1, 8, .c (.any)⟩
def Xa : TI := ⟨.func #[] #[] false, 1, 8, .c (.any)⟩
def Xb : TI := ⟨.func #[] #[] false, 1, 8, .c (.any)⟩
def Xc : TI := ⟨.func #[] #[] false, 1, 8, .c (.any)⟩
def Xd : TI := ⟨.func #[] #[] false, 1, 8, .c (.any)⟩
def Xf : TI := ⟨.func #[] #[] false, 1, 8, .c (.any)⟩
def Xg : TI := ⟨.func #[] #[] false, 1, 8, .c (.any)⟩
def Xh : TI := ⟨.func #[] #[] false, 1, 8, .c (.any)⟩
def Xi : TI := ⟨.func #[] #[] false, 1, 8, .c (.any)⟩
def Xj : TI := ⟨.func #[] #[] false, 1, 8, .c (.any)⟩
def Xk : TI := ⟨.func #[] #[] false, 1, 8, .c (.any)⟩
def Xl : TI := ⟨.func #[] #[] false, 1, 8, .c (.any)⟩
def Xm : TI := ⟨.func #[] #[] false, 1, 8, .c (.any)⟩
def Xn : TI := ⟨.func #[] #[] false, 1, 8, .c (.any)⟩
def Xo : TI := ⟨.slice 43, 1, 24, .c (.full [])⟩
def Xp : TI := ⟨.func #[] #[] false, 1, 8, .c (.any)⟩
def Xq : TI := ⟨.int .u16, 1, 2, .c (.d (.int .u16 0))⟩
def Xr : TI := ⟨.func #[] #[] false, 1, 8, .c (.any)⟩
def Xs : TI := ⟨.func #[] #[] false, 1, 8, .c (.any)⟩
def Xt : TI := ⟨.func #[] #[] false, 1, 8, .c (.any)⟩
def Xu : TI := ⟨.func #[] #[] false, 1, 8, .c (.any)⟩
def Xv : TI := ⟨.func #[] #[] false, 1, 8, .c (.any)⟩
def Xw : TI := ⟨.func #[] #[] false, 1, 8, .c (.any)⟩
def Xx : TI := ⟨.func #[] #[] false, 1, 8, .c (.any)⟩
def Xy : TI := ⟨.func #[] #[] false, 1, 8, .c (.any)⟩
def Xz : TI := ⟨.func #[] #[] false, 1, 8, .c (.any)⟩
def XA : TI := ⟨.func #[] #[] false, 1, 8, .c (.any)⟩
def XB : TI := ⟨.func #[] #[] false, 1, 8, .c (.any)⟩
def XC : TI := ⟨.func #[] #[] false, 1, 8, .c (.any)⟩
def XD : TI := ⟨.func #[] #[] false, 1, 8, .c (.any)⟩
def XE : TI := ⟨.func #[] #[] false, 1, 8, .c (.any)⟩
def XF : TI := ⟨.struct #[fld 132 0, fld 132 2], 4, 32, .agg ([.d (.int .i64 0), .d (.int .i64 0), .d (.int .i64 0), .d (.int .i64 0)])⟩
def XG : TI := ⟨.struct #[fld 132 0, fld 132 2], 4, 32, .agg ([.d (.int .i64 0), .d (.int .i64 0), .d (.int .i64 0), .d (.int .i64 0)])⟩
def XH : TI := ⟨.func #[] #[] false, 1, 8, .c (.any)⟩
def XI : TI := ⟨.slice 128, 1, 24, .c (.full [])⟩
def XJ : TI := ⟨.func #[] #[] false, 1, 8, .c (.any)⟩
def XK : TI := ⟨.func #[] #[] false, 1, 8, .c (.any)⟩
def XL : TI := ⟨.func #[] #[] false, 1, 8, .c (.any)⟩
def XM : TI := ⟨.func #[] #[] false, 1, 8, .c (.any)⟩
def XN : TI := ⟨.func #[] #[] false, 1, 8, .c (.any)⟩
def XO : TI := ⟨.func #[] #[] false, 1, 8, .c (.any)⟩
def XP : TI := ⟨.func #[] #[] false, 1, 8, .c (.any)⟩
def XQ : TI := ⟨.func #[] #[] false, 1, 8, .c (.any)⟩
def XR : TI := ⟨.func #[] #[] false, 1, 8, .c (.any)⟩
def XS : TI := ⟨.func #[] #[] false, 1, 8, .c (.any)⟩
def XT : TI := ⟨.func #[] #[] false, 1, 8, .c (.any)⟩
def XU : TI := ⟨.struct #[fld 3 0, fld 3 1], 2, 16, .agg ([.d (.int .i64 0), .d (.int .i64 0)])⟩
def XV : TI := ⟨.struct #[fld 3 0, fld 3 1], 2, 16, .agg ([.d (.int .i64 0), .d (.int .i64 0)])⟩
def XW : TI := ⟨.func #[] #[] false, 1, 8, .c (.any)⟩
def XX : TI := ⟨.func #[] #[] false, 1, 8, .c (.any)⟩
def XY : TI := ⟨.array 11 46, 22, 176, .agg (List.replicate 22 (.d (.int .i64 0)))⟩
def XZ : TI := ⟨.array 11 46, 22, 176, .agg (List.replicate 22 (.d (.int .i64 0)))⟩
def X0 : TI := ⟨.array 91 46, 182, 1456, .agg (List.replicate 182 (.d (.int .i64 0)))⟩
def X1 : TI := ⟨.struct #[fld 67 0, fld 253 4, fld 254 26], 208, 1728, .agg (List.replicate 4 (.full []) ++ List.replicate 204 (.d (.int .i64 0)))⟩
def X2 : TI := ⟨.struct #[fld 67 0, fld 253 4, fld 254 26], 208, 1728, .agg (List.replicate 4 (.full []) ++ List.replicate 204 (.d (.int .i64 0)))⟩
def X3 : TI := ⟨.func #[] #[] false, 1, 8, .c (.any)⟩
def X4 : TI := ⟨.array 24 3, 24, 192, .agg (List.replicate 24 (.d (.int .i64 0)))⟩
def X5 : TI := ⟨.array 40 3, 40, 320, .agg (List.replicate 40 (.d (.int .i64 0)))⟩
def X6 : TI := ⟨.struct #[fld 77 0, fld 258 4, fld 259 28], 68, 560, .agg ([.d (.int .i64 0), .d (.int .i64 0), .d (.int .i64 0)] ++ [.full []] ++ List.replicate 64 (.d (.int .i64 0)))⟩
def X7 : TI := ⟨.struct #[fld 77 0, fld 258 4, fld 259 28], 68, 560, .agg ([.d (.int .i64 0), .d (.int .i64 0), .d (.int .i64 0)] ++ [.full []] ++ List.replicate 64 (.d (.int .i64 0)))⟩
def X8 : TI := ⟨.func #[] #[] false, 1, 8, .c (.any)⟩
def X9 : TI := ⟨.func #[] #[] false, 1, 8, .c (.any)⟩
def Ya : TI := ⟨.func #[] #[] false, 1, 8, .c (.any)⟩
def Yb : TI := ⟨.func #[] #[] false, 1, 8, .c (.any)⟩
def Yc : TI := ⟨.map 3 270, 1, 8, .c (.any)⟩
def Yd : TI := ⟨.func #[] #[] false, 1, 8, .c (.any)⟩
def Ye : TI := ⟨.struct #[fld 3 0, fld 3 1, fld 2 2, fld 3 3], 4, 32, .agg ([.d (.int .i64 0), .d (.int .i64 0), .d (.int .i64 0), .d (.int .i64 0)])⟩
def Yf : TI := ⟨.struct #[fld 3 0, fld 3 1, fld 2 2, fld 3 3], 4, 32, .agg ([.d (.int .i64 0), .d (.int .i64 0), .d (.int .i64 0), .d (.int .i64 0)])⟩
def Yg : TI := ⟨.func #[] #[] false, 1, 8, .c (.any)⟩
def Yh : TI := ⟨.func #[] #[] false, 1, 8, .c (.any)⟩
def Yi : TI := ⟨.func #[] #[] false, 1, 8, .c (.any)⟩
def Yj : TI := ⟨.func #[] #[] false, 1, 8, .c (.any)⟩
def Yk : TI := ⟨.func #[] #[] false, 1, 8, .c (.any)⟩
def Yl : TI := ⟨.func #[] #[] false, 1, 8, .c (.any)⟩
def Ym : TI := ⟨.func #[] #[] false, 1, 8, .c (.any)⟩
def Yn : TI := ⟨.func #[] #[] false, 1, 8, .c (.any)⟩
def Yo : TI := ⟨.struct #[fld 102 0], 4, 32, .agg ([.d (.int .i64 0), .d (.int .i64 0), .d (.int .i64 0), .d (.int .i64 0)])⟩
def Yp : TI := ⟨.struct #[fld 102 0], 4, 32, .agg ([.d (.int .i64 0), .d (.int .i64 0), .d (.int .i64 0), .d (.int .i64 0)])⟩
def Yq : TI := ⟨.func #[] #[] false, 1, 8, .c (.any)⟩
def Yr : TI := ⟨.func #[] #[] false, 1, 8, .c (.any)⟩
def Ys : TI := ⟨.func #[] #[] false, 1, 8, .c (.any)⟩
def Yt : TI := ⟨.func #[] #[] false, 1, 8, .c (.any)⟩
def Yu : TI := ⟨.struct #[fld 32 0, fld 2 1], 2, 32, .agg ([.full [], .d (.int .i64 0)])⟩
def Yv : TI := ⟨.struct #[fld 32 0, fld 2 1], 2, 32, .agg ([.full [], .d (.int .i64 0)])⟩
def Yw : TI := ⟨.func #[] #[] false, 1, 8, .c (.any)⟩
def Yx : TI := ⟨.func #[] #[] false, 1, 8, .c (.any)⟩
def Yy : TI := ⟨.func #[] #[] false, 1, 8, .c (.any)⟩
def Yz : TI := ⟨.func #[] #[] false, 1, 8, .c (.any)⟩
def YA : TI := ⟨.pointer 410, 1, 8, .c (.nilp)⟩
def YB : TI := ⟨.func #[] #[] false, 1, 8, .c (.any)⟩
def YD : TI := ⟨.array 4 3, 4, 32, .agg ([.d (.int .i64 0), .d (.int .i64 0), .d (.int .i64 0), .d (.int .i64 0)])⟩
def YE : TI := ⟨.array 4 3, 4, 32, .agg ([.d (.int .i64 0), .d (.int .i64 0), .d (.int .i64 0), .d (.int .i64 0)])⟩
def YF : TI := ⟨.func #[] #[] false, 1, 8, .c (.any)⟩
def YG : TI := ⟨.func #[] #[] false, 1, 8, .c (.any)⟩
def YH : TI := ⟨.func #[] #[] false, 1, 8, .c (.any)⟩
def YI : TI := ⟨.func #[] #[] false, 1, 8, .c (.any)⟩
def YJ : TI := ⟨.func #[] #[] false, 1, 8, .c (.any)⟩
def YK : TI := ⟨.func #[] #[] false, 1, 8, .c (.any)⟩
def YL : TI := ⟨.map 297 185, 1, 8, .c (.any)⟩
def YM : TI := ⟨.func #[] #[] false, 1, 8, .c (.any)⟩
def YN : TI := ⟨.map 297 3, 1, 8, .c (.any)⟩
def YO : TI := ⟨.slice 297, 1, 24, .c (.full [])⟩
def YP : TI := ⟨.func #[] #[] false, 1, 8, .c (.any)⟩
def YQ : TI := ⟨.func #[] #[] false, 1, 8, .c (.any)⟩
def YR : TI := ⟨.func #[] #[] false, 1, 8, .c (.any)⟩
def YS : TI := ⟨.func #[] #[] false, 1, 8, .c (.any)⟩
def YT : TI := ⟨.func #[] #[] false, 1, 8, .c (.any)⟩
def YU : TI := ⟨.func #[] #[] false, 1, 8, .c (.any)⟩
def YV : TI := ⟨.func #[] #[] false, 1, 8, .c (.any)⟩
def YW : TI := ⟨.func #[] #[] false, 1, 8, .c (.any)⟩
def YX : TI := ⟨.func #[] #[] false, 1, 8, .c (.any)⟩
def YY : TI := ⟨.func #[] #[] false, 1, 8, .c (.any)⟩
def YZ : TI := ⟨.array 2 128, 2, 48, .agg ([.full [], .full []])⟩
def Y0 : TI := ⟨.array 2 320, 4, 96, .agg ([.full [], .full [], .full [], .full []])⟩
def Y1 : TI := ⟨.func #[] #[] false, 1, 8, .c (.any)⟩
def Y2 : TI := ⟨.slice 100, 1, 24, .c (.full [])⟩
def Y3 : TI := ⟨.func #[] #[] false, 1, 8, .c (.any)⟩
def Y4 : TI := ⟨.func #[] #[] false, 1, 8, .c (.any)⟩
def Y5 : TI := ⟨.func #[] #[] false, 1, 8, .c (.any)⟩
def Y6 : TI := ⟨.func #[] #[] false, 1, 8, .c (.any)⟩
def Y7 : TI := ⟨.func #[] #[] false, 1, 8, .c (.any)⟩
def Y8 : TI := ⟨.slice 123, 1, 24, .c (.full [])⟩
def Y9 : TI := ⟨.map 334 3, 1, 8, .c (.any)⟩
def Za : TI := ⟨.struct #[fld 3 0, fld 3 1], 2, 16, .agg ([.d (.int .i64 0), .d (.int .i64 0)])⟩
def Zb : TI := ⟨.struct #[fld 3 0, fld 3 1], 2, 16, .agg ([.d (.int .i64 0), .d (.int .i64 0)])⟩
def Zc : TI := ⟨.func #[] #[] false, 1, 8, .c (.any)⟩
def Zd : TI := ⟨.func #[] #[] false, 1, 8, .c (.any)⟩
def Ze : TI := ⟨.func #[] #[] false, 1, 8, .c (.any)⟩
def Zf : TI := ⟨.func #[] #[] false, 1, 8, .c (.any)⟩
def Zg : TI := ⟨.func #[] #[] false, 1, 8, .c (.any)⟩
def Zh : TI := ⟨.func #[] #[] false, 1, 8, .c (.any)⟩
def Zi : TI := ⟨.func #[] #[] false, 1, 8, .c (.any)⟩
def Zj : TI := ⟨.func #[] #[] false, 1, 8, .c (.any)⟩
def Zk : TI := ⟨.func #[] #[] false, 1, 8, .c (.any)⟩
def Zl : TI := ⟨.func #[] #[] false, 1, 8, .c (.any)⟩
def Zm : TI := ⟨.func #[] #[] false, 1, 8, .c (.any)⟩
def Zn : TI := ⟨.func #[] #[] false, 1, 8, .c (.any)⟩
def Zo : TI := ⟨.func #[] #[] false, 1, 8, .c (.any)⟩
def Zp : TI := ⟨.func #[] #[] false, 1, 8, .c (.any)⟩
def Zq : TI := ⟨.func #[] #[] false, 1, 8, .c (.any)⟩
def Zr : TI := ⟨.func #[] #[] false, 1, 8, .c (.any)⟩
def Zs : TI := ⟨.func #[] #[] false, 1, 8, .c (.any)⟩
def Zt : TI := ⟨.func #[] #[] false, 1, 8, .c (.any)⟩
def Zu : TI := ⟨.func #[] #[] false, 1, 8, .c (.any)⟩
def Zv : TI := ⟨.func #[] #[] false, 1, 8, .c (.any)⟩
def Zw : TI := ⟨.func #[] #[] false, 1, 8, .c (.any)⟩
def Zx : TI := ⟨.func #[] #[] false, 1, 8, .c (.any)⟩
def Zy : TI := ⟨.func #[] #[] false, 1, 8, .c (.any)⟩
def Zz : TI := ⟨.func #[] #[] false, 1, 8, .c (.any)⟩
def ZA : TI := ⟨.func #[] #[] false, 1, 8, .c (.any)⟩
def ZB : TI := ⟨.func #[] #[] false, 1, 8, .c (.any)⟩
def ZC : TI := ⟨.func #[] #[] false, 1, 8, .c (.any)⟩
def ZD : TI := ⟨.func #[] #[] false, 1, 8, .c (.any)⟩
def ZE : TI := ⟨.func #[] #[] false, 1, 8, .c (.any)⟩
def ZF : TI := ⟨.func #[] #[] false, 1, 8, .c (.any)⟩
def ZG : TI := ⟨.func #[] #[] false, 1, 8, .c (.any)⟩
def ZH : TI := ⟨.func #[] #[] false, 1, 8, .c (.any)⟩
def ZI : TI := ⟨.func #[] #[] false, 1, 8, .c (.any)⟩
def ZJ : TI := ⟨.func #[] #[] false, 1, 8, .c (.any)⟩
def ZK : TI := ⟨.struct #[fld 100 0, fld 100 2], 4, 32, .agg ([.d (.int .i64 0), .d (.int .i64 0), .d (.int .i64 0), .d (.int .i64 0)])⟩
def ZL : TI := ⟨.struct #[fld 100 0, fld 100 2], 4, 32, .agg ([.d (.int .i64 0), .d (.int .i64 0), .d (.int .i64 0), .d (.int .i64 0)])⟩
def ZM : TI := ⟨.func #[] #[] false, 1, 8, .c (.any)⟩
def ZN : TI := ⟨.func #[] #[] false, 1, 8, .c (.any)⟩
def ZO : TI := ⟨.func #[] #[] false, 1, 8, .c (.any)⟩
def ZP : TI := ⟨.func #[] #[] false, 1, 8, .c (.any)⟩
def ZQ : TI := ⟨.func #[] #[] false, 1, 8, .c (.any)⟩
def ZR : TI := ⟨.func #[] #[] false, 1, 8, .c (.any)⟩
def ZS : TI := ⟨.func #[] #[] false, 1, 8, .c (.any)⟩
def ZT : TI := ⟨.func #[] #[] false, 1, 8, .c (.any)⟩
def ZU : TI := ⟨.func #[] #[] false, 1, 8, .c (.any)⟩
def ZV : TI := ⟨.struct #[fld 100 0, fld 100 2], 4, 32, .agg ([.d (.int .i64 0), .d (.int .i64 0), .d (.int .i64 0), .d (.int .i64 0)])⟩
def ZW : TI := ⟨.func #[] #[] false, 1, 8, .c (.any)⟩
def ZX : TI := ⟨.struct #[fld 2 0, fld 2 1, fld 46 2, fld 46 4, fld 46 6], 8, 64, .agg ([.d (.int .i64 0), .d (.int .i64 0), .d (.int .i64 0), .d (.int .i64 0), .d (.int .i64 0), .d (.int .i64 0), .d (.int .i64 0), .d (.int .i64 0)])⟩
def ZY : TI := ⟨.struct #[fld 2 0, fld 2 1, fld 46 2, fld 46 4, fld 46 6], 8, 64, .agg ([.d (.int .i64 0), .d (.int .i64 0), .d (.int .i64 0), .d (.int .i64 0), .d (.int .i64 0), .d (.int .i64 0), .d (.int .i64 0), .d (.int .i64 0)])⟩
def ZZ : TI := ⟨.func #[] #[] false, 1, 8, .c (.any)⟩
def Z0 : TI := ⟨.func #[] #[] false, 1, 8, .c (.any)⟩
def Z1 : TI := ⟨.func #[] #[] false, 1, 8, .c (.any)⟩
def Z2 : TI := ⟨.func #[] #[] false, 1, 8, .c (.any)⟩
def Z3 : TI := ⟨.func #[] #[] false, 1, 8, .c (.any)⟩
def Z4 : TI := ⟨.func #[] #[] false, 1, 8, .c (.any)⟩
def Z5 : TI := ⟨.func #[] #[] false, 1, 8, .c (.any)⟩
def Z6 : TI := ⟨.func #[] #[] false, 1, 8, .c (.any)⟩
def Z7 : TI := ⟨.func #[] #[] false, 1, 8, .c (.any)⟩
def Z8 : TI := ⟨.func #[] #[] false, 1, 8, .c (.any)⟩
def Z9 : TI := ⟨.func #[] #[] false, 1, 8, .c (.any)⟩
def aAa : TI := ⟨.func #[] #[] false, 1, 8, .c (.any)⟩
def aAb : TI := ⟨.func #[] #[] false, 1, 8, .c (.any)⟩
def aAc : TI := ⟨.func #[] #[] false, 1, 8, .c (.any)⟩
def aAd : TI := ⟨.func #[] #[] false, 1, 8, .c (.any)⟩
def aAe : TI := ⟨.func #[] #[] false, 1, 8, .c (.any)⟩
def aAf : TI := ⟨.map 404 81, 1, 8, .c (.any)⟩
def aAg : TI := ⟨.struct #[fld 2 0, fld 2 1], 2, 16, .agg ([.d (.int .i64 0), .d (.int .i64 0)])⟩
def aAh : TI := ⟨.struct #[fld 2 0, fld 2 1], 2, 16, .agg ([.d (.int .i64 0), .d (.int .i64 0)])⟩
def aAi : TI := ⟨.func #[] #[] false, 1, 8, .c (.any)⟩
def aAj : TI := ⟨.func #[] #[] false, 1, 8, .c (.any)⟩
def aAk : TI := ⟨.func #[] #[] false, 1, 8, .c (.any)⟩
def aAl : TI := ⟨.array 39 297, 156, 1248, .agg (List.replicate 156 (.d (.int .i64 0)))⟩
def aAm : TI := ⟨.struct #[fld 181 0, fld 408 2], 158, 1280, .agg ([.d (.int .i64 0)] ++ [.full []] ++ List.replicate 156 (.d (.int .i64 0)))⟩
def aAn : TI := ⟨.struct #[fld 181 0, fld 408 2], 158, 1280, .agg ([.d (.int .i64 0)] ++ [.full []] ++ List.replicate 156 (.d (.int .i64 0)))⟩
def aAo : TI := ⟨.func #[] #[] false, 1, 8, .c (.any)⟩
def aAp : TI := ⟨.func #[] #[] false, 1, 8, .c (.any)⟩
def aAq : TI := ⟨.func #[] #[] false, 1, 8, .c (.any)⟩
def aAr : TI := ⟨.func #[] #[] false, 1, 8, .c (.any)⟩
def aAs : TI := ⟨.func #[] #[] false, 1, 8, .c (.any)⟩
def aAt : TI := ⟨.func #[] #[] false, 1, 8, .c (.any)⟩
def aAu : TI := ⟨.func #[] #[] false, 1, 8, .c (.any)⟩
def aAv : TI := ⟨.func #[] #[] false, 1, 8, .c (.any)⟩
def aAw : TI := ⟨.func #[] #[] false, 1, 8, .c (.any)⟩
def aAx : TI := ⟨.int .u64, 1, 8, .c (.d (.int .u64 0))⟩
def aAy : TI := ⟨.func #[] #[] false, 1, 8, .c (.any)⟩
def aAz : TI := ⟨.func #[] #[] false, 1, 8, .c (.any)⟩
def aAA : TI := ⟨.func #[] #[] false, 1, 8, .c (.any)⟩
def aAB : TI := ⟨.func #[] #[] false, 1, 8, .c (.any)⟩
def aAC : TI := ⟨.func #[] #[] false, 1, 8, .c (.any)⟩
def aAD : TI := ⟨.func #[] #[] false, 1, 8, .c (.any)⟩
def aAE : TI := ⟨.struct #[fld 3 0, fld 3 1], 2, 16, .agg ([.d (.int .i64 0), .d (.int .i64 0)])⟩
def aAF : TI := ⟨.struct #[fld 3 0, fld 3 1], 2, 16, .agg ([.d (.int .i64 0), .d (.int .i64 0)])⟩
def aAG : TI := ⟨.array 2 3, 2, 16, .agg ([.d (.int .i64 0), .d (.int .i64 0)])⟩
def aAH : TI := ⟨.func #[] #[] false, 1, 8, .c (.any)⟩
def aAI : TI := ⟨.func #[] #[] false, 1, 8, .c (.any)⟩
def aAJ : TI := ⟨.func #[] #[] false, 1, 8, .c (.any)⟩
def aAK : TI := ⟨.func #[] #[] false, 1, 8, .c (.any)⟩
def aAL : TI := ⟨.array 4 2, 4, 32, .agg ([.d (.int .i64 0), .d (.int .i64 0), .d (.int .i64 0), .d (.int .i64 0)])⟩
def aAM : TI := ⟨.array 4 2, 4, 32, .agg ([.d (.int .i64 0), .d (.int .i64 0), .d (.int .i64 0), .d (.int .i64 0)])⟩
def aAN : TI := ⟨.func #[] #[] false, 1, 8, .c (.any)⟩
def aAO : TI := ⟨.func #[] #[] false, 1, 8, .c (.any)⟩
def aAP : TI := ⟨.func #[] #[] false, 1, 8, .c (.any)⟩
def aAQ : TI := ⟨.func #[] #[] false, 1, 8, .c (.any)⟩
def aAR : TI := ⟨.func #[] #[] false, 1, 8, .c (.any)⟩
def aAS : TI := ⟨.func #[] #[] false, 1, 8, .c (.any)⟩
def aAT : TI := ⟨.array 12 3, 12, 96, .agg (List.replicate 12 (.d (.int .i64 0)))⟩
def aAU : TI := ⟨.func #[] #[] false, 1, 8, .c (.any)⟩
def aAV : TI := ⟨.pointer 491, 1, 8, .c (.nilp)⟩
def aAW : TI := ⟨.int .u64, 1, 8, .c (.d (.int .u64 0))⟩
def aAX : TI := ⟨.array 64 445, 64, 512, .agg (List.replicate 64 (.d (.int .u64 0)))⟩
def aAY : TI := ⟨.array 64 445, 64, 512, .agg (List.replicate 64 (.d (.int .u64 0)))⟩
def aAZ : TI := ⟨.func #[] #[] false, 1, 8, .c (.any)⟩
def aA0 : TI := ⟨.func #[] #[] false, 1, 8, .c (.any)⟩
def aA1 : TI := ⟨.func #[] #[] false, 1, 8, .c (.any)⟩
def aA2 : TI := ⟨.func #[] #[] false, 1, 8, .c (.any)⟩
def aA3 : TI := ⟨.func #[] #[] false, 1, 8, .c (.any)⟩
def aA4 : TI := ⟨.func #[] #[] false, 1, 8, .c (.any)⟩
def aA5 : TI := ⟨.func #[] #[] false, 1, 8, .c (.any)⟩
def aA6 : TI := ⟨.func #[] #[] false, 1, 8, .c (.any)⟩
def aA7 : TI := ⟨.func #[] #[] false, 1, 8, .c (.any)⟩
def aA8 : TI := ⟨.struct #[fld 384 0], 8, 64, .agg ([.d (.int .i64 0), .d (.int .i64 0), .d (.int .i64 0), .d (.int .i64 0), .d (.int .i64 0), .d (.int .i64 0), .d (.int .i64 0), .d (.int .i64 0)])⟩
def aA9 : TI := ⟨.struct #[fld 384 0], 8, 64, .agg ([.d (.int .i64 0), .d (.int .i64 0), .d (.int .i64 0), .d (.int .i64 0), .d (.int .i64 0), .d (.int .i64 0), .d (.int .i64 0), .d (.int .i64 0)])⟩
def aBa : TI := ⟨.struct #[fld 2 0, fld 2 1, fld 2 2], 3, 24, .agg ([.d (.int .i64 0), .d (.int .i64 0), .d (.int .i64 0)])⟩
def aBb : TI := ⟨.struct #[fld 2 0, fld 2 1, fld 2 2], 3, 24, .agg ([.d (.int .i64 0), .d (.int .i64 0), .d (.int .i64 0)])⟩
def aBc : TI := ⟨.func #[] #[] false, 1, 8, .c (.any)⟩
def aBd : TI := ⟨.func #[] #[] false, 1, 8, .c (.any)⟩
def aBe : TI := ⟨.func #[] #[] false, 1, 8, .c (.any)⟩
def aBf : TI := ⟨.func #[] #[] false, 1, 8, .c (.any)⟩
def aBg : TI := ⟨.func #[] #[] false, 1, 8, .c (.any)⟩
def aBh : TI := ⟨.func #[] #[] false, 1, 8, .c (.any)⟩
def aBi : TI := ⟨.func #[] #[] false, 1, 8, .c (.any)⟩
def aBj : TI := ⟨.func #[] #[] false, 1, 8, .c (.any)⟩
def aBk : TI := ⟨.func #[] #[] false, 1, 8, .c (.any)⟩
def aBl : TI := ⟨.func #[] #[] false, 1, 8, .c (.any)⟩
def aBm : TI := ⟨.func #[] #[] false, 1, 8, .c (.any)⟩
def aBn : TI := ⟨.func #[] #[] false, 1, 8, .c (.any)⟩
def aBo : TI := ⟨.func #[] #[] false, 1, 8, .c (.any)⟩
def aBp : TI := ⟨.func #[] #[] false, 1, 8, .c (.any)⟩
def aBq : TI := ⟨.int .i64, 1, 8, .c (.d (.int .i64 0))⟩
def aBr : TI := ⟨.func #[] #[] false, 1, 8, .c (.any)⟩
def aBs : TI := ⟨.func #[] #[] false, 1, 8, .c (.any)⟩
def aBt : TI := ⟨.func #[] #[] false, 1, 8, .c (.any)⟩
def aBu : TI := ⟨.func #[] #[] false, 1, 8, .c (.any)⟩
def aBv : TI := ⟨.func #[] #[] false, 1, 8, .c (.any)⟩
def aBw : TI := ⟨.func #[] #[] false, 1, 8, .c (.any)⟩
def aBx : TI := ⟨.func #[] #[] false, 1, 8, .c (.any)⟩
def aBy : TI := ⟨.func #[] #[] false, 1, 8, .c (.any)⟩
def aBz : TI := ⟨.func #[] #[] false, 1, 8, .c (.any)⟩
def aBA : TI := ⟨.func #[] #[] false, 1, 8, .c (.any)⟩
def aBB : TI := ⟨.func #[] #[] false, 1, 8, .c (.any)⟩
def aBC : TI := ⟨.slice 447, 1, 24, .c (.full [])⟩
def aBD : TI := ⟨.struct #[fld 91 0, fld 3 1, fld 489 2], 3, 56, .agg ([.full [], .d (.int .i64 0), .full []])⟩
def aBE : TI := ⟨.struct #[fld 91 0, fld 3 1, fld 489 2], 3, 56, .agg ([.full [], .d (.int .i64 0), .full []])⟩
def aBF : TI := ⟨.func #[] #[] false, 1, 8, .c (.any)⟩
def aBG : TI := ⟨.func #[] #[] false, 1, 8, .c (.any)⟩
def aBH : TI := ⟨.func #[] #[] false, 1, 8, .c (.any)⟩
def aBI : TI := ⟨.func #[] #[] false, 1, 8, .c (.any)⟩
def aBJ : TI := ⟨.func #[] #[] false, 1, 8, .c (.any)⟩
def aBK : TI := ⟨.func #[] #[] false, 1, 8, .c (.any)⟩
def aBL : TI := ⟨.func #[] #[] false, 1, 8, .c (.any)⟩
def aBM : TI := ⟨.int .u64, 1, 8, .c (.d (.int .u64 0))⟩
def aBN : TI := ⟨.func #[] #[] false, 1, 8, .c (.any)⟩
def aBO : TI := ⟨.func #[] #[] false, 1, 8, .c (.any)⟩
def aBP : TI := ⟨.func #[] #[] false, 1, 8, .c (.any)⟩
def aBQ : TI := ⟨.pointer 3, 1, 8, .c (.nilp)⟩
def aBR : TI := ⟨.func #[] #[] false, 1, 8, .c (.any)⟩
def aBS : TI := ⟨.pointer 499, 1, 8, .c (.nilp)⟩
def aBT : TI := ⟨.func #[] #[] false, 1, 8, .c (.any)⟩
def aBU : TI := ⟨.array 64 5, 64, 64, .agg (List.replicate 64 (.d (.int .u8 0)))⟩
def aBV : TI := ⟨.func #[] #[] false, 1, 8, .c (.any)⟩
def aBW : TI := ⟨.func #[] #[] false, 1, 8, .c (.any)⟩
def aBX : TI := ⟨.pointer 5, 1, 8, .c (.nilp)⟩
def ttA : List (List (Option TI)) := [[none, some ti1, some ti2, some ti3, some ti4, some ti5, none, none, none, none, none, none, some aFA],
 [none, none, none, none, none, some aFB, some aFC, some aFD, some aFE, some aFF, some aFG, some aFH, some aFI, some aFJ, some aFK, some aFL],
 [some aFM, some aFN, some aFO, some aFP, none, some aFQ, none, some aFR, some aFS, some aFT, some aFU, some aFV, some aFW, some aFX, some aFY, some aFZ],
 [none, some aF0, some aF1, some aF2, some aF3, some aF4, none, some aF5, none, some aF6, some aF7, some aF8, some aF9, some aGa, some aGb, some aGc],
 [some aGd, some aGe, some aGf, some aGg, some aGh, some aGi, some aGj, some aGk, some aGl, none, some aGm, some aGn, some aGo, some aGp, some aGq, some aGr],
 [some aGs, some aGt, some aGu, none, some aGv, none, some aGw, none, some aGx, some aGy, some aGz, some aGA, none, some aGB, some aGC, some aGD],
 [some aGE, some aGF, some aGG, some aGH, some VQ, some VR, some VS, none, some VT, some VU, some VV, some VW, some VX, some VY, some VZ, some V0],
 [some V1, none, some V2, some V3, some V4, some V5, some V6, some V7, some V8, some V9, some Wa, some Wb, none, some Wc, some We, some Wf],
 [some Wg, some Wh, some Wi, some Wj, some Wk, none, some Wl, none, some Wm, some Wn, some Wo, none, some Wp, some Wq, some Wr, some Ws],
 [some Wt, some Wu, none, some Wv, some Ww, some Wx, none, some Wy, some Wz, some WA, none, some WB, some WC, some WD, some WE, some WF],
 [some WG, some WH, some WI, none, some WJ, some WK, some WL, some WM, some WN, some WO, some WP, some WQ, some WR, some WS, none, some WT],
 [some WU, some WV, some WW, some WX, some WY, some WZ, some W0, some W1, some W2, some W3, some W4, some W5, none, some W6, none, some W7],
 [some W8, none, some W9, none, some Xa, some Xb, some Xc, some Xd, some Xf, some Xg, some Xh, none, some Xi, some Xj, none, some Xk],
 [none, some Xl, none, some Xm, none, some Xn, some Xo, some Xp, some Xq, some Xr, some Xs, some Xt, some Xu, some Xv, some Xw, some Xx],
 [some Xy, some Xz, some XA, some XB, some XC, some XD, some XE, some XF, some XG, some XH, some XI, none, some XJ, some XK, some XL, some XM],
 [some XN, some XO, some XP, none, some XQ, some XR, some XS, some XT, some XU, some XV, some XW, some XX, some XY, some XZ, some X0, some X1],
 [some X2, some X3, some X4, some X5, some X6, some X7, some X8, some X9, some Ya, some Yb, some Yc, none, some Yd, some Ye, some Yf],
 [some Yg, some Yh, some Yi, some Yj, some Yk, some Yl, some Ym, some Yn, some Yo, some Yp, some Yq, none, some Yr, some Ys, some Yt, some Yu],
 [some Yv, some Yw, some Yx, some Yy, some Yz, some YA, none, some YB, some YD, some YE, some YF, some YG, some YH, some YI, some YJ, some YK],
 [some YL, none, some YM, some YN, some YO, some YP, some YQ, some YR, some YS, some YT, none, some YU, some YV, some YW, some YX, some YY],
 [some YZ, some Y0, none, some Y1, some Y2, some Y3, none, some Y4, some Y5, some Y6, some Y7, some Y8, some Y9, some Za, some Zb, some Zc],
 [some Zd, some Ze, some Zf, some Zg, some Zh, some Zi, some Zj, some Zk, some Zl, some Zm, some Zn, some Zo, some Zp, some Zq, some Zr, some Zs],
 [some Zt, some Zu, some Zv, some Zw, some Zx, some Zy, some Zz, some ZA, some ZB, some ZC, some ZD, some ZE, some ZF, some ZG, some ZH, some ZI],
 [some ZJ, some ZK, some ZL, some ZM, some ZN, some ZO, some ZP, some ZQ, some ZR, some ZS, some ZT, some ZU, some ZV, none, some ZW, some ZX],
 [some ZY, some ZZ, some Z0, some Z1, some Z2, some Z3, some Z4, some Z5, none, some Z6, some Z7, some Z8, some Z9, some aAa, some aAb, some aAc],
 [some aAd, some aAe, some aAf, some aAg, some aAh, some aAi, some aAj, some aAk, some aAl, some aAm, some aAn, some aAo, some aAp, some aAq, some aAr, some aAs],
 [some aAt, some aAu, some aAv, some aAw, some aAx, some aAy, some aAz, some aAA, some aAB, some aAC, some aAD, some aAE, some aAF, some aAG, some aAH, some aAI],
 [some aAJ, some aAK, some aAL, some aAM, some aAN, some aAO, some aAP, some aAQ, some aAR, some aAS, some aAT, some aAU, some aAV, some aAW, some aAX, some aAY],
 [some aAZ, some aA0, some aA1, some aA2, some aA3, some aA4, some aA5, some aA6, some aA7, some aA8, some aA9, some aBa, some aBb, some aBc, some aBd, some aBe],
 [some aBf, some aBg, some aBh, some aBi, some aBj, some aBk, some aBl, some aBm, some aBn, some aBo, some aBp, some aBq, none, some aBr, some aBs, some aBt],
 [some aBu, some aBv, some aBw, some aBx, some aBy, some aBz, some aBA, none, some aBB, some aBC, some aBD, some aBE, some aBF, some aBG, some aBH, some aBI],
 [some aBJ, some aBK, some aBL, some aBM, some aBN, some aBO, some aBP, some aBQ, some aBR, some aBS, some aBT, some aBU, some aBV],
 [none, none, some aBW, none, none, none, some aBX]]
theorem ttOk : By Tryz.prog (ML ttA) := T6 (by kernel_rfl)
def eqM : Nat := 418993997810711742039712283975699320721096273624216818089225773255014614693352940854590147177985606542851052092160467571770140050579553857710990875951104
noncomputable def tx : Tx := { P := Tryz.prog, tt := ML ttA, eqs := eqM.testBit, ok := ttOk, eok := Vy (N := 508) (of_decide_eq_true (by kernel_rfl)) (by kernel_rfl) }
theorem aE3 : tx.vm = false := rfl
noncomputable def txv : Tx := { tx with vm := true }
theorem aGI : txv.vm = true := rfl
theorem aGJ : txv.tt = tx.tt := rfl
theorem aEn : txv.eqs = tx.eqs := rfl
end Go.Proofs.YtfgdbeijjbijnaaGreatDoor
set_option maxRecDepth 100000
namespace Go.Proofs.YtfgdbeijjbijnaaGreatDoor
open Go Go.Abs Go.Proofs
theorem tt1 : tx.tt 1 = some ti1 := by kernel_rfl
theorem tt2 : tx.tt 2 = some ti2 := by kernel_rfl
theorem tt3 : tx.tt 3 = some ti3 := by kernel_rfl
theorem tt4 : tx.tt 4 = some ti4 := by kernel_rfl
theorem tt5 : tx.tt 5 = some ti5 := by kernel_rfl
theorem tt12 : tx.tt 12 = some aFA := by kernel_rfl
theorem tt21 : tx.tt 21 = some aFB := by kernel_rfl
theorem tt22 : tx.tt 22 = some aFC := by kernel_rfl
theorem tt23 : tx.tt 23 = some aFD := by kernel_rfl
theorem tt24 : tx.tt 24 = some aFE := by kernel_rfl
theorem tt25 : tx.tt 25 = some aFF := by kernel_rfl
theorem tt26 : tx.tt 26 = some aFG := by kernel_rfl
theorem tt27 : tx.tt 27 = some aFH := by kernel_rfl
theorem tt28 : tx.tt 28 = some aFI := by kernel_rfl
theorem tt29 : tx.tt 29 = some aFJ := by kernel_rfl
theorem tt30 : tx.tt 30 = some aFK := by kernel_rfl
theorem tt31 : tx.tt 31 = some aFL := by kernel_rfl
theorem tt32 : tx.tt 32 = some aFM := by kernel_rfl
theorem tt33 : tx.tt 33 = some aFN := by kernel_rfl
theorem tt34 : tx.tt 34 = some aFO := by kernel_rfl
theorem tt35 : tx.tt 35 = some aFP := by kernel_rfl
theorem tt37 : tx.tt 37 = some aFQ := by kernel_rfl
theorem tt39 : tx.tt 39 = some aFR := by kernel_rfl
theorem tt40 : tx.tt 40 = some aFS := by kernel_rfl
theorem tt41 : tx.tt 41 = some aFT := by kernel_rfl
theorem tt42 : tx.tt 42 = some aFU := by kernel_rfl
theorem tt43 : tx.tt 43 = some aFV := by kernel_rfl
theorem tt44 : tx.tt 44 = some aFW := by kernel_rfl
theorem tt45 : tx.tt 45 = some aFX := by kernel_rfl
theorem tt46 : tx.tt 46 = some aFY := by kernel_rfl
theorem tt47 : tx.tt 47 = some aFZ := by kernel_rfl
theorem tt49 : tx.tt 49 = some aF0 := by kernel_rfl
theorem tt50 : tx.tt 50 = some aF1 := by kernel_rfl
theorem tt51 : tx.tt 51 = some aF2 := by kernel_rfl
theorem tt52 : tx.tt 52 = some aF3 := by kernel_rfl
theorem tt53 : tx.tt 53 = some aF4 := by kernel_rfl
theorem tt55 : tx.tt 55 = some aF5 := by kernel_rfl
theorem tt57 : tx.tt 57 = some aF6 := by kernel_rfl
theorem tt58 : tx.tt 58 = some aF7 := by kernel_rfl
theorem tt59 : tx.tt 59 = some aF8 := by kernel_rfl
theorem tt60 : tx.tt 60 = some aF9 := by kernel_rfl
theorem tt61 : tx.tt 61 = some aGa := by kernel_rfl
theorem tt62 : tx.tt 62 = some aGb := by kernel_rfl
theorem tt63 : tx.tt 63 = some aGc := by kernel_rfl
theorem tt64 : tx.tt 64 = some aGd := by kernel_rfl
theorem tt65 : tx.tt 65 = some aGe := by kernel_rfl
theorem tt66 : tx.tt 66 = some aGf := by kernel_rfl
theorem tt67 : tx.tt 67 = some aGg := by kernel_rfl
theorem tt68 : tx.tt 68 = some aGh := by kernel_rfl
theorem tt69 : tx.tt 69 = some aGi := by kernel_rfl
theorem tt70 : tx.tt 70 = some aGj := by kernel_rfl
theorem tt71 : tx.tt 71 = some aGk := by kernel_rfl
theorem tt72 : tx.tt 72 = some aGl := by kernel_rfl
theorem tt74 : tx.tt 74 = some aGm := by kernel_rfl
theorem tt75 : tx.tt 75 = some aGn := by kernel_rfl
theorem tt76 : tx.tt 76 = some aGo := by kernel_rfl
theorem tt77 : tx.tt 77 = some aGp := by kernel_rfl
theorem tt78 : tx.tt 78 = some aGq := by kernel_rfl
theorem tt79 : tx.tt 79 = some aGr := by kernel_rfl
theorem tt80 : tx.tt 80 = some aGs := by kernel_rfl
theorem tt81 : tx.tt 81 = some aGt := by kernel_rfl
theorem tt82 : tx.tt 82 = some aGu := by kernel_rfl
theorem tt84 : tx.tt 84 = some aGv := by kernel_rfl
theorem tt86 : tx.tt 86 = some aGw := by kernel_rfl
theorem tt88 : tx.tt 88 = some aGx := by kernel_rfl
theorem tt89 : tx.tt 89 = some aGy := by kernel_rfl
theorem tt90 : tx.tt 90 = some aGz := by kernel_rfl
theorem tt91 : tx.tt 91 = some aGA := by kernel_rfl
theorem tt93 : tx.tt 93 = some aGB := by kernel_rfl
theorem tt94 : tx.tt 94 = some aGC := by kernel_rfl
theorem tt95 : tx.tt 95 = some aGD := by kernel_rfl
theorem tt96 : tx.tt 96 = some aGE := by kernel_rfl
theorem tt97 : tx.tt 97 = some aGF := by kernel_rfl
theorem tt98 : tx.tt 98 = some aGG := by kernel_rfl
theorem tt99 : tx.tt 99 = some aGH := by kernel_rfl
theorem aHM : tx.tt 100 = some VQ := by kernel_rfl
theorem aHN : tx.tt 101 = some VR := by kernel_rfl
theorem aHO : tx.tt 102 = some VS := by kernel_rfl
theorem aHP : tx.tt 104 = some VT := by kernel_rfl
theorem aHQ : tx.tt 105 = some VU := by kernel_rfl
theorem aHR : tx.tt 106 = some VV := by kernel_rfl
theorem aHS : tx.tt 107 = some VW := by kernel_rfl
theorem aHT : tx.tt 108 = some VX := by kernel_rfl
theorem aHU : tx.tt 109 = some VY := by kernel_rfl
theorem aHV : tx.tt 110 = some VZ := by kernel_rfl
theorem aHW : tx.tt 111 = some V0 := by kernel_rfl
theorem aHX : tx.tt 112 = some V1 := by kernel_rfl
theorem aHY : tx.tt 114 = some V2 := by kernel_rfl
theorem aHZ : tx.tt 115 = some V3 := by kernel_rfl
theorem aH0 : tx.tt 116 = some V4 := by kernel_rfl
theorem aH1 : tx.tt 117 = some V5 := by kernel_rfl
theorem aH2 : tx.tt 118 = some V6 := by kernel_rfl
theorem aH3 : tx.tt 119 = some V7 := by kernel_rfl
theorem aH4 : tx.tt 120 = some V8 := by kernel_rfl
theorem aH5 : tx.tt 121 = some V9 := by kernel_rfl
theorem aH6 : tx.tt 122 = some Wa := by kernel_rfl
theorem aH7 : tx.tt 123 = some Wb := by kernel_rfl
theorem aH8 : tx.tt 125 = some Wc := by kernel_rfl
theorem aH9 : tx.tt 126 = some We := by kernel_rfl
theorem aIa : tx.tt 127 = some Wf := by kernel_rfl
theorem aIb : tx.tt 128 = some Wg := by kernel_rfl
theorem aIc : tx.tt 129 = some Wh := by kernel_rfl
theorem aId : tx.tt 130 = some Wi := by kernel_rfl
theorem aIe : tx.tt 131 = some Wj := by kernel_rfl
theorem aIf : tx.tt 132 = some Wk := by kernel_rfl
theorem aIg : tx.tt 134 = some Wl := by kernel_rfl
theorem aIh : tx.tt 136 = some Wm := by kernel_rfl
theorem aIi : tx.tt 137 = some Wn := by kernel_rfl
theorem aIj : tx.tt 138 = some Wo := by kernel_rfl
theorem aIk : tx.tt 140 = some Wp := by kernel_rfl
theorem aIl : tx.tt 141 = some Wq := by kernel_rfl
theorem aIm : tx.tt 142 = some Wr := by kernel_rfl
theorem aIn : tx.tt 143 = some Ws := by kernel_rfl
theorem aIo : tx.tt 144 = some Wt := by kernel_rfl
theorem aIp : tx.tt 145 = some Wu := by kernel_rfl
theorem aIq : tx.tt 147 = some Wv := by kernel_rfl
theorem aIr : tx.tt 148 = some Ww := by kernel_rfl
theorem aIs : tx.tt 149 = some Wx := by kernel_rfl
theorem aIt : tx.tt 151 = some Wy := by kernel_rfl
theorem aIu : tx.tt 152 = some Wz := by kernel_rfl
theorem aIv : tx.tt 153 = some WA := by kernel_rfl
theorem aIw : tx.tt 155 = some WB := by kernel_rfl
theorem aIx : tx.tt 156 = some WC := by kernel_rfl
theorem aIy : tx.tt 157 = some WD := by kernel_rfl
theorem aIz : tx.tt 158 = some WE := by kernel_rfl
theorem aIA : tx.tt 159 = some WF := by kernel_rfl
theorem aIB : tx.tt 160 = some WG := by kernel_rfl
theorem aIC : tx.tt 161 = some WH := by kernel_rfl
theorem aID : tx.tt 162 = some WI := by kernel_rfl
theorem aIE : tx.tt 164 = some WJ := by kernel_rfl
theorem aIF : tx.tt 165 = some WK := by kernel_rfl
theorem aIG : tx.tt 166 = some WL := by kernel_rfl
theorem aIH : tx.tt 167 = some WM := by kernel_rfl
theorem aII : tx.tt 168 = some WN := by kernel_rfl
theorem aIJ : tx.tt 169 = some WO := by kernel_rfl
theorem aIK : tx.tt 170 = some WP := by kernel_rfl
theorem aIL : tx.tt 171 = some WQ := by kernel_rfl
theorem aIM : tx.tt 172 = some WR := by kernel_rfl
theorem aIN : tx.tt 173 = some WS := by kernel_rfl
theorem aIO : tx.tt 175 = some WT := by kernel_rfl
theorem aIP : tx.tt 176 = some WU := by kernel_rfl
theorem aIQ : tx.tt 177 = some WV := by kernel_rfl
theorem aIR : tx.tt 178 = some WW := by kernel_rfl
theorem aIS : tx.tt 179 = some WX := by kernel_rfl
theorem aIT : tx.tt 180 = some WY := by kernel_rfl
theorem aIU : tx.tt 181 = some WZ := by kernel_rfl
theorem aIV : tx.tt 182 = some W0 := by kernel_rfl
theorem aIW : tx.tt 183 = some W1 := by kernel_rfl
theorem aIX : tx.tt 184 = some W2 := by kernel_rfl
theorem aIY : tx.tt 185 = some W3 := by kernel_rfl
theorem aIZ : tx.tt 186 = some W4 := by kernel_rfl
theorem aI0 : tx.tt 187 = some W5 := by kernel_rfl
theorem aI1 : tx.tt 189 = some W6 := by kernel_rfl
theorem aI2 : tx.tt 191 = some W7 := by kernel_rfl
theorem aI3 : tx.tt 192 = some W8 := by kernel_rfl
theorem aI4 : tx.tt 194 = some W9 := by kernel_rfl
theorem aI5 : tx.tt 196 = some Xa := by kernel_rfl
theorem aI6 : tx.tt 197 = some Xb := by kernel_rfl
theorem aI7 : tx.tt 198 = some Xc := by kernel_rfl
theorem aI8 : tx.tt 199 = some Xd := by kernel_rfl
theorem aI9 : tx.tt 200 = some Xf := by kernel_rfl
theorem aJa : tx.tt 201 = some Xg := by kernel_rfl
theorem aJb : tx.tt 202 = some Xh := by kernel_rfl
theorem aJc : tx.tt 204 = some Xi := by kernel_rfl
theorem aJd : tx.tt 205 = some Xj := by kernel_rfl
theorem aJe : tx.tt 207 = some Xk := by kernel_rfl
theorem aJf : tx.tt 209 = some Xl := by kernel_rfl
theorem aJg : tx.tt 211 = some Xm := by kernel_rfl
theorem aJh : tx.tt 213 = some Xn := by kernel_rfl
theorem aJi : tx.tt 214 = some Xo := by kernel_rfl
theorem aJj : tx.tt 215 = some Xp := by kernel_rfl
theorem aJk : tx.tt 216 = some Xq := by kernel_rfl
theorem aJl : tx.tt 217 = some Xr := by kernel_rfl
theorem aJm : tx.tt 218 = some Xs := by kernel_rfl
theorem aJn : tx.tt 219 = some Xt := by kernel_rfl
theorem aJo : tx.tt 220 = some Xu := by kernel_rfl
theorem aJp : tx.tt 221 = some Xv := by kernel_rfl
theorem aJq : tx.tt 222 = some Xw := by kernel_rfl
theorem aJr : tx.tt 223 = some Xx := by kernel_rfl
theorem aJs : tx.tt 224 = some Xy := by kernel_rfl
theorem aJt : tx.tt 225 = some Xz := by kernel_rfl
theorem aJu : tx.tt 226 = some XA := by kernel_rfl
theorem aJv : tx.tt 227 = some XB := by kernel_rfl
theorem aJw : tx.tt 228 = some XC := by kernel_rfl
theorem aJx : tx.tt 229 = some XD := by kernel_rfl
theorem aJy : tx.tt 230 = some XE := by kernel_rfl
theorem aJz : tx.tt 231 = some XF := by kernel_rfl
theorem aJA : tx.tt 232 = some XG := by kernel_rfl
theorem aJB : tx.tt 233 = some XH := by kernel_rfl
theorem aJC : tx.tt 234 = some XI := by kernel_rfl
theorem aJD : tx.tt 236 = some XJ := by kernel_rfl
theorem aJE : tx.tt 237 = some XK := by kernel_rfl
theorem aJF : tx.tt 238 = some XL := by kernel_rfl
theorem aJG : tx.tt 239 = some XM := by kernel_rfl
theorem aJH : tx.tt 240 = some XN := by kernel_rfl
theorem aJI : tx.tt 241 = some XO := by kernel_rfl
theorem aJJ : tx.tt 242 = some XP := by kernel_rfl
theorem aJK : tx.tt 244 = some XQ := by kernel_rfl
theorem aJL : tx.tt 245 = some XR := by kernel_rfl
theorem aJM : tx.tt 246 = some XS := by kernel_rfl
theorem aJN : tx.tt 247 = some XT := by kernel_rfl
theorem aJO : tx.tt 248 = some XU := by kernel_rfl
theorem aJP : tx.tt 249 = some XV := by kernel_rfl
theorem aJQ : tx.tt 250 = some XW := by kernel_rfl
theorem aJR : tx.tt 251 = some XX := by kernel_rfl
theorem aJS : tx.tt 252 = some XY := by kernel_rfl
theorem aJT : tx.tt 253 = some XZ := by kernel_rfl
theorem aJU : tx.tt 254 = some X0 := by kernel_rfl
theorem aJV : tx.tt 255 = some X1 := by kernel_rfl
theorem aJW : tx.tt 256 = some X2 := by kernel_rfl
theorem aJX : tx.tt 257 = some X3 := by kernel_rfl
theorem aJY : tx.tt 258 = some X4 := by kernel_rfl
theorem aJZ : tx.tt 259 = some X5 := by kernel_rfl
theorem aJ0 : tx.tt 260 = some X6 := by kernel_rfl
theorem aJ1 : tx.tt 261 = some X7 := by kernel_rfl
theorem aJ2 : tx.tt 262 = some X8 := by kernel_rfl
theorem aJ3 : tx.tt 263 = some X9 := by kernel_rfl
theorem aJ4 : tx.tt 264 = some Ya := by kernel_rfl
theorem aJ5 : tx.tt 265 = some Yb := by kernel_rfl
theorem aJ6 : tx.tt 266 = some Yc := by kernel_rfl
theorem aJ7 : tx.tt 268 = some Yd := by kernel_rfl
theorem aJ8 : tx.tt 269 = some Ye := by kernel_rfl
theorem aJ9 : tx.tt 270 = some Yf := by kernel_rfl
theorem aKa : tx.tt 272 = some Yg := by kernel_rfl
theorem aKb : tx.tt 273 = some Yh := by kernel_rfl
theorem aKc : tx.tt 274 = some Yi := by kernel_rfl
theorem aKd : tx.tt 275 = some Yj := by kernel_rfl
theorem aKe : tx.tt 276 = some Yk := by kernel_rfl
theorem aKf : tx.tt 277 = some Yl := by kernel_rfl
theorem aKg : tx.tt 278 = some Ym := by kernel_rfl
theorem aKh : tx.tt 279 = some Yn := by kernel_rfl
theorem aKi : tx.tt 280 = some Yo := by kernel_rfl
theorem aKj : tx.tt 281 = some Yp := by kernel_rfl
theorem aKk : tx.tt 282 = some Yq := by kernel_rfl
theorem aKl : tx.tt 284 = some Yr := by kernel_rfl
theorem aKm : tx.tt 285 = some Ys := by kernel_rfl
theorem aKn : tx.tt 286 = some Yt := by kernel_rfl
theorem aKo : tx.tt 287 = some Yu := by kernel_rfl
theorem aKp : tx.tt 288 = some Yv := by kernel_rfl
theorem aKq : tx.tt 289 = some Yw := by kernel_rfl
theorem aKr : tx.tt 290 = some Yx := by kernel_rfl
theorem aKs : tx.tt 291 = some Yy := by kernel_rfl
theorem aKt : tx.tt 292 = some Yz := by kernel_rfl
theorem aKu : tx.tt 293 = some YA := by kernel_rfl
theorem aKv : tx.tt 295 = some YB := by kernel_rfl
theorem aKw : tx.tt 296 = some YD := by kernel_rfl
theorem aKx : tx.tt 297 = some YE := by kernel_rfl
theorem aKy : tx.tt 298 = some YF := by kernel_rfl
theorem aKz : tx.tt 299 = some YG := by kernel_rfl
theorem aKA : tx.tt 300 = some YH := by kernel_rfl
theorem aKB : tx.tt 301 = some YI := by kernel_rfl
theorem aKC : tx.tt 302 = some YJ := by kernel_rfl
theorem aKD : tx.tt 303 = some YK := by kernel_rfl
theorem aKE : tx.tt 304 = some YL := by kernel_rfl
theorem aKF : tx.tt 306 = some YM := by kernel_rfl
theorem aKG : tx.tt 307 = some YN := by kernel_rfl
theorem aKH : tx.tt 308 = some YO := by kernel_rfl
theorem aKI : tx.tt 309 = some YP := by kernel_rfl
theorem aKJ : tx.tt 310 = some YQ := by kernel_rfl
theorem aKK : tx.tt 311 = some YR := by kernel_rfl
theorem aKL : tx.tt 312 = some YS := by kernel_rfl
theorem aKM : tx.tt 313 = some YT := by kernel_rfl
theorem aKN : tx.tt 315 = some YU := by kernel_rfl
theorem aKO : tx.tt 316 = some YV := by kernel_rfl
theorem aKP : tx.tt 317 = some YW := by kernel_rfl
theorem aKQ : tx.tt 318 = some YX := by kernel_rfl
theorem aKR : tx.tt 319 = some YY := by kernel_rfl
theorem aKS : tx.tt 320 = some YZ := by kernel_rfl
theorem aKT : tx.tt 321 = some Y0 := by kernel_rfl
theorem aKU : tx.tt 323 = some Y1 := by kernel_rfl
theorem aKV : tx.tt 324 = some Y2 := by kernel_rfl
theorem aKW : tx.tt 325 = some Y3 := by kernel_rfl
theorem aKX : tx.tt 327 = some Y4 := by kernel_rfl
theorem aKY : tx.tt 328 = some Y5 := by kernel_rfl
theorem aKZ : tx.tt 329 = some Y6 := by kernel_rfl
theorem aK0 : tx.tt 330 = some Y7 := by kernel_rfl
theorem aK1 : tx.tt 331 = some Y8 := by kernel_rfl
theorem aK2 : tx.tt 332 = some Y9 := by kernel_rfl
theorem aK3 : tx.tt 333 = some Za := by kernel_rfl
theorem aK4 : tx.tt 334 = some Zb := by kernel_rfl
theorem aK5 : tx.tt 335 = some Zc := by kernel_rfl
theorem aK6 : tx.tt 336 = some Zd := by kernel_rfl
theorem aK7 : tx.tt 337 = some Ze := by kernel_rfl
theorem aK8 : tx.tt 338 = some Zf := by kernel_rfl
theorem aK9 : tx.tt 339 = some Zg := by kernel_rfl
theorem aLa : tx.tt 340 = some Zh := by kernel_rfl
theorem aLb : tx.tt 341 = some Zi := by kernel_rfl
theorem aLc : tx.tt 342 = some Zj := by kernel_rfl
theorem aLd : tx.tt 343 = some Zk := by kernel_rfl
theorem aLe : tx.tt 344 = some Zl := by kernel_rfl
theorem aLf : tx.tt 345 = some Zm := by kernel_rfl
theorem aLg : tx.tt 346 = some Zn := by kernel_rfl
theorem aLh : tx.tt 347 = some Zo := by kernel_rfl
theorem aLi : tx.tt 348 = some Zp := by kernel_rfl
theorem aLj : tx.tt 349 = some Zq := by kernel_rfl
theorem aLk : tx.tt 350 = some Zr := by kernel_rfl
theorem aLl : tx.tt 351 = some Zs := by kernel_rfl
theorem aLm : tx.tt 352 = some Zt := by kernel_rfl
theorem aLn : tx.tt 353 = some Zu := by kernel_rfl
theorem aLo : tx.tt 354 = some Zv := by kernel_rfl
theorem aLp : tx.tt 355 = some Zw := by kernel_rfl
theorem aLq : tx.tt 356 = some Zx := by kernel_rfl
theorem aLr : tx.tt 357 = some Zy := by kernel_rfl
theorem aLs : tx.tt 358 = some Zz := by kernel_rfl
theorem aLt : tx.tt 359 = some ZA := by kernel_rfl
theorem aLu : tx.tt 360 = some ZB := by kernel_rfl
theorem aLv : tx.tt 361 = some ZC := by kernel_rfl
theorem aLw : tx.tt 362 = some ZD := by kernel_rfl
theorem aLx : tx.tt 363 = some ZE := by kernel_rfl
theorem aLy : tx.tt 364 = some ZF := by kernel_rfl
theorem aLz : tx.tt 365 = some ZG := by kernel_rfl
theorem aLA : tx.tt 366 = some ZH := by kernel_rfl
theorem aLB : tx.tt 367 = some ZI := by kernel_rfl
theorem aLC : tx.tt 368 = some ZJ := by kernel_rfl
theorem aLD : tx.tt 369 = some ZK := by kernel_rfl
theorem aLE : tx.tt 370 = some ZL := by kernel_rfl
theorem aLF : tx.tt 371 = some ZM := by kernel_rfl
theorem aLG : tx.tt 372 = some ZN := by kernel_rfl
theorem aLH : tx.tt 373 = some ZO := by kernel_rfl
theorem aLI : tx.tt 374 = some ZP := by kernel_rfl
theorem aLJ : tx.tt 375 = some ZQ := by kernel_rfl
theorem aLK : tx.tt 376 = some ZR := by kernel_rfl
theorem aLL : tx.tt 377 = some ZS := by kernel_rfl
theorem aLM : tx.tt 378 = some ZT := by kernel_rfl
theorem aLN : tx.tt 379 = some ZU := by kernel_rfl
theorem aLO : tx.tt 380 = some ZV := by kernel_rfl
theorem aLP : tx.tt 382 = some ZW := by kernel_rfl
theorem aLQ : tx.tt 383 = some ZX := by kernel_rfl
theorem aLR : tx.tt 384 = some ZY := by kernel_rfl
theorem aLS : tx.tt 385 = some ZZ := by kernel_rfl
theorem aLT : tx.tt 386 = some Z0 := by kernel_rfl
theorem aLU : tx.tt 387 = some Z1 := by kernel_rfl
theorem aLV : tx.tt 388 = some Z2 := by kernel_rfl
theorem aLW : tx.tt 389 = some Z3 := by kernel_rfl
theorem aLX : tx.tt 390 = some Z4 := by kernel_rfl
theorem aLY : tx.tt 391 = some Z5 := by kernel_rfl
theorem aLZ : tx.tt 393 = some Z6 := by kernel_rfl
theorem aL0 : tx.tt 394 = some Z7 := by kernel_rfl
theorem aL1 : tx.tt 395 = some Z8 := by kernel_rfl
theorem aL2 : tx.tt 396 = some Z9 := by kernel_rfl
theorem aL3 : tx.tt 397 = some aAa := by kernel_rfl
theorem aL4 : tx.tt 398 = some aAb := by kernel_rfl
theorem aL5 : tx.tt 399 = some aAc := by kernel_rfl
theorem aL6 : tx.tt 400 = some aAd := by kernel_rfl
theorem aL7 : tx.tt 401 = some aAe := by kernel_rfl
theorem aL8 : tx.tt 402 = some aAf := by kernel_rfl
theorem aL9 : tx.tt 403 = some aAg := by kernel_rfl
theorem aMa : tx.tt 404 = some aAh := by kernel_rfl
theorem aMb : tx.tt 405 = some aAi := by kernel_rfl
theorem aMc : tx.tt 406 = some aAj := by kernel_rfl
theorem aMd : tx.tt 407 = some aAk := by kernel_rfl
theorem aMe : tx.tt 408 = some aAl := by kernel_rfl
theorem aMf : tx.tt 409 = some aAm := by kernel_rfl
theorem aMg : tx.tt 410 = some aAn := by kernel_rfl
theorem aMh : tx.tt 411 = some aAo := by kernel_rfl
theorem aMi : tx.tt 412 = some aAp := by kernel_rfl
theorem aMj : tx.tt 413 = some aAq := by kernel_rfl
theorem aMk : tx.tt 414 = some aAr := by kernel_rfl
theorem aMl : tx.tt 415 = some aAs := by kernel_rfl
theorem aMm : tx.tt 416 = some aAt := by kernel_rfl
theorem aMn : tx.tt 417 = some aAu := by kernel_rfl
theorem aMo : tx.tt 418 = some aAv := by kernel_rfl
theorem aMp : tx.tt 419 = some aAw := by kernel_rfl
theorem aMq : tx.tt 420 = some aAx := by kernel_rfl
theorem aMr : tx.tt 421 = some aAy := by kernel_rfl
theorem aMs : tx.tt 422 = some aAz := by kernel_rfl
theorem aMt : tx.tt 423 = some aAA := by kernel_rfl
theorem aMu : tx.tt 424 = some aAB := by kernel_rfl
theorem aMv : tx.tt 425 = some aAC := by kernel_rfl
theorem aMw : tx.tt 426 = some aAD := by kernel_rfl
theorem aMx : tx.tt 427 = some aAE := by kernel_rfl
theorem aMy : tx.tt 428 = some aAF := by kernel_rfl
theorem aMz : tx.tt 429 = some aAG := by kernel_rfl
theorem aMA : tx.tt 430 = some aAH := by kernel_rfl
theorem aMB : tx.tt 431 = some aAI := by kernel_rfl
theorem aMC : tx.tt 432 = some aAJ := by kernel_rfl
theorem aMD : tx.tt 433 = some aAK := by kernel_rfl
theorem aME : tx.tt 434 = some aAL := by kernel_rfl
theorem aMF : tx.tt 435 = some aAM := by kernel_rfl
theorem aMG : tx.tt 436 = some aAN := by kernel_rfl
theorem aMH : tx.tt 437 = some aAO := by kernel_rfl
theorem aMI : tx.tt 438 = some aAP := by kernel_rfl
theorem aMJ : tx.tt 439 = some aAQ := by kernel_rfl
theorem aMK : tx.tt 440 = some aAR := by kernel_rfl
theorem aML : tx.tt 441 = some aAS := by kernel_rfl
theorem aMM : tx.tt 442 = some aAT := by kernel_rfl
theorem aMN : tx.tt 443 = some aAU := by kernel_rfl
theorem aMO : tx.tt 444 = some aAV := by kernel_rfl
theorem aMP : tx.tt 445 = some aAW := by kernel_rfl
theorem aMQ : tx.tt 446 = some aAX := by kernel_rfl
theorem aMR : tx.tt 447 = some aAY := by kernel_rfl
theorem aMS : tx.tt 448 = some aAZ := by kernel_rfl
theorem aMT : tx.tt 449 = some aA0 := by kernel_rfl
theorem aMU : tx.tt 450 = some aA1 := by kernel_rfl
theorem aMV : tx.tt 451 = some aA2 := by kernel_rfl
theorem aMW : tx.tt 452 = some aA3 := by kernel_rfl
theorem aMX : tx.tt 453 = some aA4 := by kernel_rfl
theorem aMY : tx.tt 454 = some aA5 := by kernel_rfl
theorem aMZ : tx.tt 455 = some aA6 := by kernel_rfl
theorem aM0 : tx.tt 456 = some aA7 := by kernel_rfl
theorem aM1 : tx.tt 457 = some aA8 := by kernel_rfl
theorem aM2 : tx.tt 458 = some aA9 := by kernel_rfl
theorem aM3 : tx.tt 459 = some aBa := by kernel_rfl
theorem aM4 : tx.tt 460 = some aBb := by kernel_rfl
theorem aM5 : tx.tt 461 = some aBc := by kernel_rfl
theorem aM6 : tx.tt 462 = some aBd := by kernel_rfl
theorem aM7 : tx.tt 463 = some aBe := by kernel_rfl
theorem aM8 : tx.tt 464 = some aBf := by kernel_rfl
theorem aM9 : tx.tt 465 = some aBg := by kernel_rfl
theorem aNa : tx.tt 466 = some aBh := by kernel_rfl
theorem aNb : tx.tt 467 = some aBi := by kernel_rfl
theorem aNc : tx.tt 468 = some aBj := by kernel_rfl
theorem aNd : tx.tt 469 = some aBk := by kernel_rfl
theorem aNe : tx.tt 470 = some aBl := by kernel_rfl
theorem aNf : tx.tt 471 = some aBm := by kernel_rfl
theorem aNg : tx.tt 472 = some aBn := by kernel_rfl
theorem aNh : tx.tt 473 = some aBo := by kernel_rfl
theorem aNi : tx.tt 474 = some aBp := by kernel_rfl
theorem aNj : tx.tt 475 = some aBq := by kernel_rfl
theorem aNk : tx.tt 477 = some aBr := by kernel_rfl
theorem aNl : tx.tt 478 = some aBs := by kernel_rfl
theorem aNm : tx.tt 479 = some aBt := by kernel_rfl
theorem aNn : tx.tt 480 = some aBu := by kernel_rfl
theorem aNo : tx.tt 481 = some aBv := by kernel_rfl
theorem aNp : tx.tt 482 = some aBw := by kernel_rfl
theorem aNq : tx.tt 483 = some aBx := by kernel_rfl
theorem aNr : tx.tt 484 = some aBy := by kernel_rfl
theorem aNs : tx.tt 485 = some aBz := by kernel_rfl
theorem aNt : tx.tt 486 = some aBA := by kernel_rfl
theorem aNu : tx.tt 488 = some aBB := by kernel_rfl
theorem aNv : tx.tt 489 = some aBC := by kernel_rfl
theorem aNw : tx.tt 490 = some aBD := by kernel_rfl
theorem aNx : tx.tt 491 = some aBE := by kernel_rfl
theorem aNy : tx.tt 492 = some aBF := by kernel_rfl
theorem aNz : tx.tt 493 = some aBG := by kernel_rfl
theorem aNA : tx.tt 494 = some aBH := by kernel_rfl
theorem aNB : tx.tt 495 = some aBI := by kernel_rfl
theorem aNC : tx.tt 496 = some aBJ := by kernel_rfl
theorem aND : tx.tt 497 = some aBK := by kernel_rfl
theorem aNE : tx.tt 498 = some aBL := by kernel_rfl
theorem aNF : tx.tt 499 = some aBM := by kernel_rfl
theorem aNG : tx.tt 500 = some aBN := by kernel_rfl
theorem aNH : tx.tt 501 = some aBO := by kernel_rfl
theorem aNI : tx.tt 502 = some aBP := by kernel_rfl
theorem aNJ : tx.tt 503 = some aBQ := by kernel_rfl
theorem aNK : tx.tt 504 = some aBR := by kernel_rfl
theorem aNL : tx.tt 505 = some aBS := by kernel_rfl
theorem aNM : tx.tt 506 = some aBT := by kernel_rfl
theorem aNN : tx.tt 507 = some aBU := by kernel_rfl
theorem aNO : tx.tt 508 = some aBV := by kernel_rfl
theorem aNP : tx.tt 514 = some aBW := by kernel_rfl
theorem aNQ : tx.tt 518 = some aBX := by kernel_rfl
theorem eq45 : tx.eqs 45 = true := by kernel_rfl
theorem eq46 : tx.eqs 46 = true := by kernel_rfl
theorem eq50 : tx.eqs 50 = true := by kernel_rfl
theorem eq51 : tx.eqs 51 = true := by kernel_rfl
theorem eq52 : tx.eqs 52 = true := by kernel_rfl
theorem eq53 : tx.eqs 53 = true := by kernel_rfl
theorem eq62 : tx.eqs 62 = true := by kernel_rfl
theorem eq63 : tx.eqs 63 = true := by kernel_rfl
theorem eq78 : tx.eqs 78 = true := by kernel_rfl
theorem eq79 : tx.eqs 79 = true := by kernel_rfl
theorem eq80 : tx.eqs 80 = true := by kernel_rfl
theorem eq99 : tx.eqs 99 = true := by kernel_rfl
theorem aNR : tx.eqs 100 = true := by kernel_rfl
theorem aNS : tx.eqs 101 = true := by kernel_rfl
theorem aNT : tx.eqs 102 = true := by kernel_rfl
theorem aNU : tx.eqs 117 = true := by kernel_rfl
theorem aNV : tx.eqs 118 = true := by kernel_rfl
theorem aNW : tx.eqs 131 = true := by kernel_rfl
theorem aNX : tx.eqs 132 = true := by kernel_rfl
theorem aNY : tx.eqs 137 = true := by kernel_rfl
theorem aNZ : tx.eqs 138 = true := by kernel_rfl
theorem aN0 : tx.eqs 161 = true := by kernel_rfl
theorem aN1 : tx.eqs 162 = true := by kernel_rfl
theorem aN2 : tx.eqs 165 = true := by kernel_rfl
theorem aN3 : tx.eqs 166 = true := by kernel_rfl
theorem aN4 : tx.eqs 184 = true := by kernel_rfl
theorem aN5 : tx.eqs 185 = true := by kernel_rfl
theorem aN6 : tx.eqs 231 = true := by kernel_rfl
theorem aN7 : tx.eqs 232 = true := by kernel_rfl
theorem aN8 : tx.eqs 248 = true := by kernel_rfl
theorem aN9 : tx.eqs 249 = true := by kernel_rfl
theorem aOa : tx.eqs 252 = true := by kernel_rfl
theorem aOb : tx.eqs 253 = true := by kernel_rfl
theorem aOc : tx.eqs 254 = true := by kernel_rfl
theorem aOd : tx.eqs 258 = true := by kernel_rfl
theorem aOe : tx.eqs 259 = true := by kernel_rfl
theorem aOf : tx.eqs 269 = true := by kernel_rfl
theorem aOg : tx.eqs 270 = true := by kernel_rfl
theorem aOh : tx.eqs 280 = true := by kernel_rfl
theorem aOi : tx.eqs 281 = true := by kernel_rfl
theorem aOj : tx.eqs 296 = true := by kernel_rfl
theorem aOk : tx.eqs 297 = true := by kernel_rfl
theorem aOl : tx.eqs 333 = true := by kernel_rfl
theorem aOm : tx.eqs 334 = true := by kernel_rfl
theorem aOn : tx.eqs 369 = true := by kernel_rfl
theorem aOo : tx.eqs 370 = true := by kernel_rfl
theorem aOp : tx.eqs 380 = true := by kernel_rfl
theorem aOq : tx.eqs 383 = true := by kernel_rfl
theorem aOr : tx.eqs 384 = true := by kernel_rfl
theorem aOs : tx.eqs 403 = true := by kernel_rfl
theorem aOt : tx.eqs 404 = true := by kernel_rfl
theorem aOu : tx.eqs 408 = true := by kernel_rfl
theorem aOv : tx.eqs 427 = true := by kernel_rfl
theorem aOw : tx.eqs 428 = true := by kernel_rfl
theorem aOx : tx.eqs 429 = true := by kernel_rfl
theorem aOy : tx.eqs 434 = true := by kernel_rfl
theorem aOz : tx.eqs 435 = true := by kernel_rfl
theorem aOA : tx.eqs 442 = true := by kernel_rfl
theorem aOB : tx.eqs 446 = true := by kernel_rfl
theorem aOC : tx.eqs 447 = true := by kernel_rfl
theorem aOD : tx.eqs 457 = true := by kernel_rfl
theorem aOE : tx.eqs 458 = true := by kernel_rfl
theorem aOF : tx.eqs 459 = true := by kernel_rfl
theorem aOG : tx.eqs 460 = true := by kernel_rfl
theorem aOH : tx.eqs 507 = true := by kernel_rfl
end Go.Proofs.YtfgdbeijjbijnaaGreatDoor
namespace Go.Proofs.YtfgdbeijjbijnaaGreatDoor
open Go Go.Abs
attribute [go_sem] tt1 tt2 tt3 tt4 tt5 tt12 tt21 tt22 tt23 tt24 tt25 tt26 tt27 tt28 tt29 tt30 tt31 tt32 tt33 tt34 tt35 tt37 tt39 tt40 tt41 tt42 tt43 tt44 tt45 tt46 tt47 tt49 tt50 tt51 tt52 tt53 tt55 tt57 tt58 tt59 tt60 tt61 tt62 tt63 tt64 tt65 tt66 tt67 tt68 tt69 tt70 tt71 tt72 tt74 tt75 tt76 tt77 tt78 tt79 tt80 tt81 tt82 tt84 tt86 tt88 tt89 tt90 tt91 tt93 tt94 tt95 tt96 tt97 tt98 tt99 aHM aHN aHO aHP aHQ aHR aHS aHT aHU aHV aHW aHX aHY aHZ aH0 aH1 aH2 aH3 aH4 aH5 aH6 aH7 aH8 aH9 aIa aIb aIc aId aIe aIf aIg aIh aIi aIj aIk aIl aIm aIn aIo aIp aIq aIr aIs aIt aIu aIv aIw aIx aIy aIz aIA aIB aIC aID aIE aIF aIG aIH aII aIJ aIK aIL aIM aIN aIO aIP aIQ aIR aIS aIT aIU aIV aIW aIX aIY aIZ aI0 aI1 aI2 aI3 aI4 aI5 aI6 aI7 aI8 aI9 aJa aJb aJc aJd aJe aJf aJg aJh aJi aJj aJk aJl aJm aJn aJo aJp aJq aJr aJs aJt aJu aJv aJw aJx aJy aJz aJA aJB aJC aJD aJE aJF aJG aJH aJI aJJ aJK aJL aJM aJN aJO aJP aJQ aJR aJS aJT aJU aJV aJW aJX aJY aJZ aJ0 aJ1 aJ2 aJ3 aJ4 aJ5 aJ6 aJ7 aJ8 aJ9 aKa aKb aKc aKd aKe aKf aKg aKh aKi aKj aKk aKl aKm aKn aKo aKp aKq aKr aKs aKt aKu aKv aKw aKx aKy aKz aKA aKB aKC aKD aKE aKF aKG aKH aKI aKJ aKK aKL aKM aKN aKO aKP aKQ aKR aKS aKT aKU aKV aKW aKX aKY aKZ aK0 aK1 aK2 aK3 aK4 aK5 aK6 aK7 aK8 aK9 aLa aLb aLc aLd aLe aLf aLg aLh aLi aLj aLk aLl aLm aLn aLo aLp aLq aLr aLs aLt aLu aLv aLw aLx aLy aLz aLA aLB aLC aLD aLE aLF aLG aLH aLI aLJ aLK aLL aLM aLN aLO aLP aLQ aLR aLS aLT aLU aLV aLW aLX aLY aLZ aL0 aL1 aL2 aL3 aL4 aL5 aL6 aL7 aL8 aL9 aMa aMb aMc aMd aMe aMf aMg aMh aMi aMj aMk aMl aMm aMn aMo aMp aMq aMr aMs aMt aMu aMv aMw aMx aMy aMz aMA aMB aMC aMD aME aMF aMG aMH aMI aMJ aMK aML aMM aMN aMO aMP aMQ aMR aMS aMT aMU aMV aMW aMX aMY aMZ aM0 aM1 aM2 aM3 aM4 aM5 aM6 aM7 aM8 aM9 aNa aNb aNc aNd aNe aNf aNg aNh aNi aNj aNk aNl aNm aNn aNo aNp aNq aNr aNs aNt aNu aNv aNw aNx aNy aNz aNA aNB aNC aND aNE aNF aNG aNH aNI aNJ aNK aNL aNM aNN aNO aNP aNQ eq45 eq46 eq50 eq51 eq52 eq53 eq62 eq63 eq78 eq79 eq80 eq99 aNR aNS aNT aNU aNV aNW aNX aNY aNZ aN0 aN1 aN2 aN3 aN4 aN5 aN6 aN7 aN8 aN9 aOa aOb aOc aOd aOe aOf aOg aOh aOi aOj aOk aOl aOm aOn aOo aOp aOq aOr aOs aOt aOu aOv aOw aOx aOy aOz aOA aOB aOC aOD aOE aOF aOG aOH ti1 ti2 ti3 ti4 ti5 aFA aFB aFC aFD aFE aFF aFG aFH aFI aFJ aFK aFL aFM aFN aFO aFP aFQ aFR aFS aFT aFU aFV aFW aFX aFY aFZ aF0 aF1 aF2 aF3 aF4 aF5 aF6 aF7 aF8 aF9 aGa aGb aGc aGd aGe aGf aGg aGh aGi aGj aGk aGl aGm aGn aGo aGp aGq aGr aGs aGt aGu aGv aGw aGx aGy aGz aGA aGB aGC aGD aGE aGF aGG aGH VQ VR VS VT VU VV VW VX VY VZ V0 V1 V2 V3 V4 V5 V6 V7 V8 V9 Wa Wb Wc We Wf Wg Wh Wi Wj Wk Wl Wm Wn Wo Wp Wq Wr Ws Wt Wu Wv Ww Wx Wy Wz WA WB WC WD WE WF WG WH WI WJ WK WL WM WN WO WP WQ WR WS WT WU WV WW WX WY WZ W0 W1 W2 W3 W4 W5 W6 W7 W8 W9 Xa Xb Xc Xd Xf Xg Xh Xi Xj Xk Xl Xm Xn Xo Xp Xq Xr Xs Xt Xu Xv Xw Xx Xy Xz XA XB XC XD XE XF XG XH XI XJ XK XL XM XN XO XP XQ XR XS XT XU XV XW XX XY XZ X0 X1 X2 X3 X4 X5 X6 X7 X8 X9 Ya Yb Yc Yd Ye Yf Yg Yh Yi Yj Yk Yl Ym Yn Yo Yp Yq Yr Ys Yt Yu Yv Yw Yx Yy Yz YA YB YD YE YF YG YH YI YJ YK YL YM YN YO YP YQ YR YS YT YU YV YW YX YY YZ Y0 Y1 Y2 Y3 Y4 Y5 Y6 Y7 Y8 Y9 Za Zb Zc Zd Ze Zf Zg Zh Zi Zj Zk Zl Zm Zn Zo Zp Zq Zr Zs Zt Zu Zv Zw Zx Zy Zz ZA ZB ZC ZD ZE ZF ZG ZH ZI ZJ ZK ZL ZM ZN ZO ZP ZQ ZR ZS ZT ZU ZV ZW ZX ZY ZZ Z0 Z1 Z2 Z3 Z4 Z5 Z6 Z7 Z8 Z9 aAa aAb aAc aAd aAe aAf aAg aAh aAi aAj aAk aAl aAm aAn aAo aAp aAq aAr aAs aAt aAu aAv aAw aAx aAy aAz aAA aAB aAC aAD aAE aAF aAG aAH aAI aAJ aAK aAL aAM aAN aAO aAP aAQ aAR aAS aAT aAU aAV aAW aAX aAY aAZ aA0 aA1 aA2 aA3 aA4 aA5 aA6 aA7 aA8 aA9 aBa aBb aBc aBd aBe aBf aBg aBh aBi aBj aBk aBl aBm aBn aBo aBp aBq aBr aBs aBt aBu aBv aBw aBx aBy aBz aBA aBB aBC aBD aBE aBF aBG aBH aBI aBJ aBK aBL aBM aBN aBO aBP aBQ aBR aBS aBT aBU aBV aBW aBX
attribute [go_sem] C0 zc List.replicate_succ List.replicate_zero List.flatten_cons List.flatten_nil DY toD BC J3 C4 List.all_cons List.all_nil List.all_map Function.comp_def List.take_nil List.drop_nil List.toList_toArray C.eqbL C3 eqC List.drop_one List.tail_cons lim
end Go.Proofs.YtfgdbeijjbijnaaGreatDoor
