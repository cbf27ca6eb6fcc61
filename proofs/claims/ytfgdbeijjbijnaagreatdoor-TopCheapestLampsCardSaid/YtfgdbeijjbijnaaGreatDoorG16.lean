/- The types of the program, as the logic wants them: a table, and that it tells the program's types. -/
import Derived.Test.YtfgdbeijjbijnaaGreatDoorG11
import Derived.KernelRfl
import Derived.Test.YtfgdbeijjbijnaaGreatDoorG12
import Derived.Test.YtfgdbeijjbijnaaGreatDoorProg
set_option linter.unusedSimpArgs false
set_option linter.unusedVariables false
set_option maxRecDepth 100000
namespace Go.Proofs.YtfgdbeijjbijnaaGreatDoor
open Go Go.Abs Go.Proofs
def ti1 : TI := ⟨.func #[] #[] false, 1, 8, .c (.any)⟩
def ti2 : TI := ⟨.int .i64, 1, 8, .c (.d (.int .i64 0))⟩
def ti3 : TI := ⟨.int .i64, 1, 8, .c (.d (.int .i64 0))⟩
def ti4 : TI := ⟨.bool, 1, 1, .c (.d (.bool false))⟩
def ti5 : TI := ⟨.int .u8, 1, 1, .c (.d (.int .u8 0))⟩
def ti12 : TI := ⟨.int .u64, 1, 8, .c (.d (.int .u64 0))⟩
def ti21 : TI := ⟨.int .i32, 1, 4, .c (.d (.int .i32 0))⟩
def ti22 : TI := ⟨.slice 23, 1, 24, .c (.full [])⟩
def ti23 : TI := ⟨.slice 46, 1, 24, .c (.full [])⟩
def ti24 : TI := ⟨.struct #[fld 22 0, fld 23 1], 2, 48, .agg ([.full [], .full []])⟩
def ti25 : TI := ⟨.struct #[fld 22 0, fld 23 1], 2, 48, .agg ([.full [], .full []])⟩
def ti26 : TI := ⟨.slice 2, 1, 24, .c (.full [])⟩
def ti27 : TI := ⟨.slice 216, 1, 24, .c (.full [])⟩
def ti28 : TI := ⟨.func #[] #[] false, 1, 8, .c (.any)⟩
def ti29 : TI := ⟨.int .i64, 1, 8, .c (.d (.int .i64 0))⟩
def ti30 : TI := ⟨.func #[] #[] false, 1, 8, .c (.any)⟩
def ti31 : TI := ⟨.func #[] #[] false, 1, 8, .c (.any)⟩
def ti32 : TI := ⟨.slice 26, 1, 24, .c (.full [])⟩
def ti33 : TI := ⟨.struct #[fld 32 0, fld 26 1], 2, 48, .agg ([.full [], .full []])⟩
def ti34 : TI := ⟨.struct #[fld 32 0, fld 26 1], 2, 48, .agg ([.full [], .full []])⟩
def ti35 : TI := ⟨.func #[] #[] false, 1, 8, .c (.any)⟩
def ti37 : TI := ⟨.func #[] #[] false, 1, 8, .c (.any)⟩
def ti39 : TI := ⟨.func #[] #[] false, 1, 8, .c (.any)⟩
def ti40 : TI := ⟨.slice 51, 1, 24, .c (.full [])⟩
def ti41 : TI := ⟨.slice 40, 1, 24, .c (.full [])⟩
def ti42 : TI := ⟨.struct #[fld 40 0, fld 41 1], 2, 48, .agg ([.full [], .full []])⟩
def ti43 : TI := ⟨.struct #[fld 40 0, fld 41 1], 2, 48, .agg ([.full [], .full []])⟩
def ti44 : TI := ⟨.func #[] #[] false, 1, 8, .c (.any)⟩
def ti45 : TI := ⟨.struct #[fld 2 0, fld 2 1], 2, 16, .agg ([.d (.int .i64 0), .d (.int .i64 0)])⟩
def ti46 : TI := ⟨.struct #[fld 2 0, fld 2 1], 2, 16, .agg ([.d (.int .i64 0), .d (.int .i64 0)])⟩
def ti47 : TI := ⟨.func #[] #[] false, 1, 8, .c (.any)⟩
def ti49 : TI := ⟨.func #[] #[] false, 1, 8, .c (.any)⟩
def ti50 : TI := ⟨.struct #[fld 2 0, fld 2 1], 2, 16, .agg ([.d (.int .i64 0), .d (.int .i64 0)])⟩
def ti51 : TI := ⟨.struct #[fld 2 0, fld 2 1], 2, 16, .agg ([.d (.int .i64 0), .d (.int .i64 0)])⟩
def ti52 : TI := ⟨.struct #[fld 2 0, fld 2 1, fld 2 2], 3, 24, .agg ([.d (.int .i64 0), .d (.int .i64 0), .d (.int .i64 0)])⟩
def ti53 : TI := ⟨.struct #[fld 2 0, fld 2 1, fld 2 2], 3, 24, .agg ([.d (.int .i64 0), .d (.int .i64 0), .d (.int .i64 0)])⟩
def ti55 : TI := ⟨.func #[] #[] false, 1, 8, .c (.any)⟩
def ti57 : TI := ⟨.func #[] #[] false, 1, 8, .c (.any)⟩
def ti58 : TI := ⟨.func #[] #[] false, 1, 8, .c (.any)⟩
def ti59 : TI := ⟨.func #[] #[] false, 1, 8, .c (.any)⟩
def ti60 : TI := ⟨.func #[] #[] false, 1, 8, .c (.any)⟩
def ti61 : TI := ⟨.func #[] #[] false, 1, 8, .c (.any)⟩
def ti62 : TI := ⟨.struct #[fld 2 0, fld 2 1, fld 2 2], 3, 24, .agg ([.d (.int .i64 0), .d (.int .i64 0), .d (.int .i64 0)])⟩
def ti63 : TI := ⟨.struct #[fld 2 0, fld 2 1, fld 2 2], 3, 24, .agg ([.d (.int .i64 0), .d (.int .i64 0), .d (.int .i64 0)])⟩
def ti64 : TI := ⟨.func #[] #[] false, 1, 8, .c (.any)⟩
def ti65 : TI := ⟨.slice 4, 1, 24, .c (.full [])⟩
def ti66 : TI := ⟨.struct #[fld 26 0, fld 23 1, fld 65 2, fld 26 3], 4, 96, .agg ([.full [], .full [], .full [], .full []])⟩
def ti67 : TI := ⟨.struct #[fld 26 0, fld 23 1, fld 65 2, fld 26 3], 4, 96, .agg ([.full [], .full [], .full [], .full []])⟩
def ti68 : TI := ⟨.slice 5, 1, 24, .c (.full [])⟩
def ti69 : TI := ⟨.slice 78, 1, 24, .c (.full [])⟩
def ti70 : TI := ⟨.int .u32, 1, 4, .c (.d (.int .u32 0))⟩
def ti71 : TI := ⟨.func #[] #[] false, 1, 8, .c (.any)⟩
def ti72 : TI := ⟨.func #[] #[] false, 1, 8, .c (.any)⟩
def ti74 : TI := ⟨.func #[] #[] false, 1, 8, .c (.any)⟩
def ti75 : TI := ⟨.slice 80, 1, 24, .c (.full [])⟩
def ti76 : TI := ⟨.struct #[fld 3 0, fld 3 1, fld 3 2, fld 75 3], 4, 48, .agg ([.d (.int .i64 0), .d (.int .i64 0), .d (.int .i64 0), .full []])⟩
def ti77 : TI := ⟨.struct #[fld 3 0, fld 3 1, fld 3 2, fld 75 3], 4, 48, .agg ([.d (.int .i64 0), .d (.int .i64 0), .d (.int .i64 0), .full []])⟩
def ti78 : TI := ⟨.array 2 5, 2, 2, .agg ([.d (.int .u8 0), .d (.int .u8 0)])⟩
def ti79 : TI := ⟨.struct #[fld 3 0, fld 3 1, fld 2 2], 3, 24, .agg ([.d (.int .i64 0), .d (.int .i64 0), .d (.int .i64 0)])⟩
def ti80 : TI := ⟨.struct #[fld 3 0, fld 3 1, fld 2 2], 3, 24, .agg ([.d (.int .i64 0), .d (.int .i64 0), .d (.int .i64 0)])⟩
def ti81 : TI := ⟨.slice 3, 1, 24, .c (.full [])⟩
def ti82 : TI := ⟨.func #[] #[] false, 1, 8, .c (.any)⟩
def ti84 : TI := ⟨.func #[] #[] false, 1, 8, .c (.any)⟩
def ti86 : TI := ⟨.func #[] #[] false, 1, 8, .c (.any)⟩
def ti88 : TI := ⟨.func #[] #[] false, 1, 8, .c (.any)⟩
def ti89 : TI := ⟨.func #[] #[] false, 1, 8, .c (.any)⟩
def ti90 : TI := ⟨.slice 70, 1, 24, .c (.full [])⟩
def ti91 : TI := ⟨.slice 166, 1, 24, .c (.full [])⟩
def ti93 : TI := ⟨.func #[] #[] false, 1, 8, .c (.any)⟩
def ti94 : TI := ⟨.func #[] #[] false, 1, 8, .c (.any)⟩
def ti95 : TI := ⟨.func #[] #[] false, 1, 8, .c (.any)⟩
def ti96 : TI := ⟨.func #[] #[] false, 1, 8, .c (.any)⟩
def ti97 : TI := ⟨.func #[] #[] false, 1, 8, .c (.any)⟩
def ti98 : TI := ⟨.func #[] #[] false, 1, 8, .c (.any)⟩
def ti99 : TI := ⟨.struct #[fld 2 0, fld 2 1], 2, 16, .agg ([.d (.int .i64 0), .d (.int .i64 0)])⟩
def ti100 : TI := ⟨.struct #[fld 2 0, fld 2 1], 2, 16, .agg ([.d (.int .i64 0), .d (.int .i64 0)])⟩
def ti101 : TI := ⟨.struct #[fld 100 0, fld 100 2], 4, 32, .agg ([.d (.int .i64 0), .d (.int .i64 0), .d (.int .i64 0), .d (.int .i64 0)])⟩
def ti102 : TI := ⟨.struct #[fld 100 0, fld 100 2], 4, 32, .agg ([.d (.int .i64 0), .d (.int .i64 0), .d (.int .i64 0), .d (.int .i64 0)])⟩
def ti104 : TI := ⟨.func #[] #[] false, 1, 8, .c (.any)⟩
def ti105 : TI := ⟨.func #[] #[] false, 1, 8, .c (.any)⟩
def ti106 : TI := ⟨.slice 102, 1, 24, .c (.full [])⟩
def ti107 : TI := ⟨.func #[] #[] false, 1, 8, .c (.any)⟩
def ti108 : TI := ⟨.func #[] #[] false, 1, 8, .c (.any)⟩
def ti109 : TI := ⟨.func #[] #[] false, 1, 8, .c (.any)⟩
def ti110 : TI := ⟨.func #[] #[] false, 1, 8, .c (.any)⟩
def ti111 : TI := ⟨.struct #[fld 25 0], 2, 48, .agg ([.full [], .full []])⟩
def ti112 : TI := ⟨.struct #[fld 25 0], 2, 48, .agg ([.full [], .full []])⟩
def ti114 : TI := ⟨.func #[] #[] false, 1, 8, .c (.any)⟩
def ti115 : TI := ⟨.func #[] #[] false, 1, 8, .c (.any)⟩
def ti116 : TI := ⟨.func #[] #[] false, 1, 8, .c (.any)⟩
def ti117 : TI := ⟨.array 3 2, 3, 24, .agg ([.d (.int .i64 0), .d (.int .i64 0), .d (.int .i64 0)])⟩
def ti118 : TI := ⟨.array 3 2, 3, 24, .agg ([.d (.int .i64 0), .d (.int .i64 0), .d (.int .i64 0)])⟩
def ti119 : TI := ⟨.func #[] #[] false, 1, 8, .c (.any)⟩
def ti120 : TI := ⟨.func #[] #[] false, 1, 8, .c (.any)⟩
def ti121 : TI := ⟨.func #[] #[] false, 1, 8, .c (.any)⟩
def ti122 : TI := ⟨.func #[] #[] false, 1, 8, .c (.any)⟩
def ti123 : TI := ⟨.pointer 130, 1, 8, .c (.nilp)⟩
def ti125 : TI := ⟨.func #[] #[] false, 1, 8, .c (.any)⟩
def ti126 : TI := ⟨.func #[] #[] false, 1, 8, .c (.any)⟩
def ti127 : TI := ⟨.func #[] #[] false, 1, 8, .c (.any)⟩
def ti128 : TI := ⟨.slice 132, 1, 24, .c (.full [])⟩
def ti129 : TI := ⟨.struct #[fld 43 0, fld 128 2], 3, 72, .agg ([.full [], .full [], .full []])⟩
def ti130 : TI := ⟨.struct #[fld 43 0, fld 128 2], 3, 72, .agg ([.full [], .full [], .full []])⟩
def ti131 : TI := ⟨.array 2 2, 2, 16, .agg ([.d (.int .i64 0), .d (.int .i64 0)])⟩
def ti132 : TI := ⟨.array 2 2, 2, 16, .agg ([.d (.int .i64 0), .d (.int .i64 0)])⟩
def ti134 : TI := ⟨.func #[] #[] false, 1, 8, .c (.any)⟩
def ti136 : TI := ⟨.func #[] #[] false, 1, 8, .c (.any)⟩
def ti137 : TI := ⟨.struct #[fld 3 0, fld 3 1], 2, 16, .agg ([.d (.int .i64 0), .d (.int .i64 0)])⟩
def ti138 : TI := ⟨.struct #[fld 3 0, fld 3 1], 2, 16, .agg ([.d (.int .i64 0), .d (.int .i64 0)])⟩
def ti140 : TI := ⟨.func #[] #[] false, 1, 8, .c (.any)⟩
def ti141 : TI := ⟨.func #[] #[] false, 1, 8, .c (.any)⟩
def ti142 : TI := ⟨.func #[] #[] false, 1, 8, .c (.any)⟩
def ti143 : TI := ⟨.func #[] #[] false, 1, 8, .c (.any)⟩
def ti144 : TI := ⟨.func #[] #[] false, 1, 8, .c (.any)⟩
def ti145 : TI := ⟨.func #[] #[] false, 1, 8, .c (.any)⟩
def ti147 : TI := ⟨.func #[] #[] false, 1, 8, .c (.any)⟩
def ti148 : TI := ⟨.func #[] #[] false, 1, 8, .c (.any)⟩
def ti149 : TI := ⟨.pointer 256, 1, 8, .c (.nilp)⟩
def ti151 : TI := ⟨.func #[] #[] false, 1, 8, .c (.any)⟩
def ti152 : TI := ⟨.func #[] #[] false, 1, 8, .c (.any)⟩
def ti153 : TI := ⟨.pointer 261, 1, 8, .c (.nilp)⟩
def ti155 : TI := ⟨.func #[] #[] false, 1, 8, .c (.any)⟩
def ti156 : TI := ⟨.func #[] #[] false, 1, 8, .c (.any)⟩
def ti157 : TI := ⟨.func #[] #[] false, 1, 8, .c (.any)⟩
def ti158 : TI := ⟨.func #[] #[] false, 1, 8, .c (.any)⟩
def ti159 : TI := ⟨.func #[] #[] false, 1, 8, .c (.any)⟩
def ti160 : TI := ⟨.func #[] #[] false, 1, 8, .c (.any)⟩
def ti161 : TI := ⟨.array 41 2, 41, 328, .agg (List.replicate 41 (.d (.int .i64 0)))⟩
def ti162 : TI := ⟨.array 41 2, 41, 328, .agg (List.replicate 41 (.d (.int .i64 0)))⟩
def ti164 : TI := ⟨.func #[] #[] false, 1, 8, .c (.any)⟩
def ti165 : TI := ⟨.struct #[fld 3 0, fld 3 1], 2, 16, .agg ([.d (.int .i64 0), .d (.int .i64 0)])⟩
def ti166 : TI := ⟨.struct #[fld 3 0, fld 3 1], 2, 16, .agg ([.d (.int .i64 0), .d (.int .i64 0)])⟩
def ti167 : TI := ⟨.func #[] #[] false, 1, 8, .c (.any)⟩
def ti168 : TI := ⟨.func #[] #[] false, 1, 8, .c (.any)⟩
def ti169 : TI := ⟨.func #[] #[] false, 1, 8, .c (.any)⟩
def ti170 : TI := ⟨.func #[] #[] false, 1, 8, .c (.any)⟩
def ti171 : TI := ⟨.func #[] #[] false, 1, 8, .c (.any)⟩
def ti172 : TI := ⟨.func #[] #[] false, 1, 8, .c (.any)⟩
def ti173 : TI := ⟨.func #[] #[] false, 1, 8, .c (.any)⟩
def ti175 : TI := ⟨.func #[] #[] false, 1, 8, .c (.any)⟩
def ti176 : TI := ⟨.func #[] #[] false, 1, 8, .c (.any)⟩
def ti177 : TI := ⟨.func #[] #[] false, 1, 8, .c (.any)⟩
def ti178 : TI := ⟨.func #[] #[] false, 1, 8, .c (.any)⟩
def ti179 : TI := ⟨.slice 81, 1, 24, .c (.full [])⟩
def ti180 : TI := ⟨.struct #[fld 3 0, fld 179 1], 2, 32, .agg ([.d (.int .i64 0), .full []])⟩
def ti181 : TI := ⟨.struct #[fld 3 0, fld 179 1], 2, 32, .agg ([.d (.int .i64 0), .full []])⟩
def ti182 : TI := ⟨.func #[] #[] false, 1, 8, .c (.any)⟩
def ti183 : TI := ⟨.func #[] #[] false, 1, 8, .c (.any)⟩
def ti184 : TI := ⟨.struct #[fld 3 0, fld 3 1], 2, 16, .agg ([.d (.int .i64 0), .d (.int .i64 0)])⟩
def ti185 : TI := ⟨.struct #[fld 3 0, fld 3 1], 2, 16, .agg ([.d (.int .i64 0), .d (.int .i64 0)])⟩
def ti186 : TI := ⟨.func #[] #[] false, 1, 8, .c (.any)⟩
def ti187 : TI := ⟨.slice 185, 1, 24, .c (.full [])⟩
def ti189 : TI := ⟨.func #[] #[] false, 1, 8, .c (.any)⟩
def ti191 : TI := ⟨.func #[] #[] false, 1, 8, .c (.any)⟩
def ti192 : TI := ⟨.func #[] #[] false, 1, 8, .c (.any)⟩
def ti194 : TI := ⟨.func #[] #[] false, 1, 8, .c (.any)⟩
def ti196 : TI := ⟨.func #[] #[] false, 1, 8, .c (.any)⟩
def ti197 : TI := ⟨.func #[] #[] false, 1, 8, .c (.any)⟩
def ti198 : TI := ⟨.func #[] #[] false, 1, 8, .c (.any)⟩
def ti199 : TI := ⟨.func #[] #[] false, 1, 8, .c (.any)⟩
def ti200 : TI := ⟨.func #[] #[] false, 1, 8, .c (.any)⟩
def ti201 : TI := ⟨.func #[] #[] false, 1, 8, .c (.any)⟩
def ti202 : TI := ⟨.func #[] #[] false, 1, 8, .c (.any)⟩
def ti204 : TI := ⟨.func #[] #[] false, 1, 8, .c (.any)⟩
def ti205 : TI := ⟨.func #[] #[] false, 1, 8, .c (.any)⟩
def ti207 : TI := ⟨.func #[] #[] false, 1, 8, .c (.any)⟩
def ti209 : TI := ⟨.func #[] #[] false, 1, 8, .c (.any)⟩
def ti211 : TI := ⟨.func #[] #[] false, 1, 8, .c (.any)⟩
def ti213 : TI := ⟨.func #[] #[] false, 1, 8, .c (.any)⟩
def ti214 : TI := ⟨.slice 43, 1, 24, .c (.full [])⟩
def ti215 : TI := ⟨.func #[] #[] false, 1, 8, .c (.any)⟩
def ti216 : TI := ⟨.int .u16, 1, 2, .c (.d (.int .u16 0))⟩
def ti217 : TI := ⟨.func #[] #[] false, 1, 8, .c (.any)⟩
def ti218 : TI := ⟨.func #[] #[] false, 1, 8, .c (.any)⟩
def ti219 : TI := ⟨.func #[] #[] false, 1, 8, .c (.any)⟩
def ti220 : TI := ⟨.func #[] #[] false, 1, 8, .c (.any)⟩
def ti221 : TI := ⟨.func #[] #[] false, 1, 8, .c (.any)⟩
def ti222 : TI := ⟨.func #[] #[] false, 1, 8, .c (.any)⟩
def ti223 : TI := ⟨.func #[] #[] false, 1, 8, .c (.any)⟩
def ti224 : TI := ⟨.func #[] #[] false, 1, 8, .c (.any)⟩
def ti225 : TI := ⟨.func #[] #[] false, 1, 8, .c (.any)⟩
def ti226 : TI := ⟨.func #[] #[] false, 1, 8, .c (.any)⟩
def ti227 : TI := ⟨.func #[] #[] false, 1, 8, .c (.any)⟩
def ti228 : TI := ⟨.func #[] #[] false, 1, 8, .c (.any)⟩
def ti229 : TI := ⟨.func #[] #[] false, 1, 8, .c (.any)⟩
def ti230 : TI := ⟨.func #[] #[] false, 1, 8, .c (.any)⟩
def ti231 : TI := ⟨.struct #[fld 132 0, fld 132 2], 4, 32, .agg ([.d (.int .i64 0), .d (.int .i64 0), .d (.int .i64 0), .d (.int .i64 0)])⟩
def ti232 : TI := ⟨.struct #[fld 132 0, fld 132 2], 4, 32, .agg ([.d (.int .i64 0), .d (.int .i64 0), .d (.int .i64 0), .d (.int .i64 0)])⟩
def ti233 : TI := ⟨.func #[] #[] false, 1, 8, .c (.any)⟩
def ti234 : TI := ⟨.slice 128, 1, 24, .c (.full [])⟩
def ti236 : TI := ⟨.func #[] #[] false, 1, 8, .c (.any)⟩
def ti237 : TI := ⟨.func #[] #[] false, 1, 8, .c (.any)⟩
def ti238 : TI := ⟨.func #[] #[] false, 1, 8, .c (.any)⟩
def ti239 : TI := ⟨.func #[] #[] false, 1, 8, .c (.any)⟩
def ti240 : TI := ⟨.func #[] #[] false, 1, 8, .c (.any)⟩
def ti241 : TI := ⟨.func #[] #[] false, 1, 8, .c (.any)⟩
def ti242 : TI := ⟨.func #[] #[] false, 1, 8, .c (.any)⟩
def ti244 : TI := ⟨.func #[] #[] false, 1, 8, .c (.any)⟩
def ti245 : TI := ⟨.func #[] #[] false, 1, 8, .c (.any)⟩
def ti246 : TI := ⟨.func #[] #[] false, 1, 8, .c (.any)⟩
def ti247 : TI := ⟨.func #[] #[] false, 1, 8, .c (.any)⟩
def ti248 : TI := ⟨.struct #[fld 3 0, fld 3 1], 2, 16, .agg ([.d (.int .i64 0), .d (.int .i64 0)])⟩
def ti249 : TI := ⟨.struct #[fld 3 0, fld 3 1], 2, 16, .agg ([.d (.int .i64 0), .d (.int .i64 0)])⟩
def ti250 : TI := ⟨.func #[] #[] false, 1, 8, .c (.any)⟩
def ti251 : TI := ⟨.func #[] #[] false, 1, 8, .c (.any)⟩
def ti252 : TI := ⟨.array 11 46, 22, 176, .agg (List.replicate 22 (.d (.int .i64 0)))⟩
def ti253 : TI := ⟨.array 11 46, 22, 176, .agg (List.replicate 22 (.d (.int .i64 0)))⟩
def ti254 : TI := ⟨.array 91 46, 182, 1456, .agg (List.replicate 182 (.d (.int .i64 0)))⟩
def ti255 : TI := ⟨.struct #[fld 67 0, fld 253 4, fld 254 26], 208, 1728, .agg (List.replicate 4 (.full []) ++ List.replicate 204 (.d (.int .i64 0)))⟩
def ti256 : TI := ⟨.struct #[fld 67 0, fld 253 4, fld 254 26], 208, 1728, .agg (List.replicate 4 (.full []) ++ List.replicate 204 (.d (.int .i64 0)))⟩
def ti257 : TI := ⟨.func #[] #[] false, 1, 8, .c (.any)⟩
def ti258 : TI := ⟨.array 24 3, 24, 192, .agg (List.replicate 24 (.d (.int .i64 0)))⟩
def ti259 : TI := ⟨.array 40 3, 40, 320, .agg (List.replicate 40 (.d (.int .i64 0)))⟩
def ti260 : TI := ⟨.struct #[fld 77 0, fld 258 4, fld 259 28], 68, 560, .agg ([.d (.int .i64 0), .d (.int .i64 0), .d (.int .i64 0)] ++ [.full []] ++ List.replicate 64 (.d (.int .i64 0)))⟩
def ti261 : TI := ⟨.struct #[fld 77 0, fld 258 4, fld 259 28], 68, 560, .agg ([.d (.int .i64 0), .d (.int .i64 0), .d (.int .i64 0)] ++ [.full []] ++ List.replicate 64 (.d (.int .i64 0)))⟩
def ti262 : TI := ⟨.func #[] #[] false, 1, 8, .c (.any)⟩
def ti263 : TI := ⟨.func #[] #[] false, 1, 8, .c (.any)⟩
def ti264 : TI := ⟨.func #[] #[] false, 1, 8, .c (.any)⟩
def ti265 : TI := ⟨.func #[] #[] false, 1, 8, .c (.any)⟩
def ti266 : TI := ⟨.map 3 270, 1, 8, .c (.any)⟩
def ti268 : TI := ⟨.func #[] #[] false, 1, 8, .c (.any)⟩
def ti269 : TI := ⟨.struct #[fld 3 0, fld 3 1, fld 2 2, fld 3 3], 4, 32, .agg ([.d (.int .i64 0), .d (.int .i64 0), .d (.int .i64 0), .d (.int .i64 0)])⟩
def ti270 : TI := ⟨.struct #[fld 3 0, fld 3 1, fld 2 2, fld 3 3], 4, 32, .agg ([.d (.int .i64 0), .d (.int .i64 0), .d (.int .i64 0), .d (.int .i64 0)])⟩
def ti272 : TI := ⟨.func #[] #[] false, 1, 8, .c (.any)⟩
def ti273 : TI := ⟨.func #[] #[] false, 1, 8, .c (.any)⟩
def ti274 : TI := ⟨.func #[] #[] false, 1, 8, .c (.any)⟩
def ti275 : TI := ⟨.func #[] #[] false, 1, 8, .c (.any)⟩
def ti276 : TI := ⟨.func #[] #[] false, 1, 8, .c (.any)⟩
def ti277 : TI := ⟨.func #[] #[] false, 1, 8, .c (.any)⟩
def ti278 : TI := ⟨.func #[] #[] false, 1, 8, .c (.any)⟩
def ti279 : TI := ⟨.func #[] #[] false, 1, 8, .c (.any)⟩
def ti280 : TI := ⟨.struct #[fld 102 0], 4, 32, .agg ([.d (.int .i64 0), .d (.int .i64 0), .d (.int .i64 0), .d (.int .i64 0)])⟩
def ti281 : TI := ⟨.struct #[fld 102 0], 4, 32, .agg ([.d (.int .i64 0), .d (.int .i64 0), .d (.int .i64 0), .d (.int .i64 0)])⟩
def ti282 : TI := ⟨.func #[] #[] false, 1, 8, .c (.any)⟩
def ti284 : TI := ⟨.func #[] #[] false, 1, 8, .c (.any)⟩
def ti285 : TI := ⟨.func #[] #[] false, 1, 8, .c (.any)⟩
def ti286 : TI := ⟨.func #[] #[] false, 1, 8, .c (.any)⟩
def ti287 : TI := ⟨.struct #[fld 32 0, fld 2 1], 2, 32, .agg ([.full [], .d (.int .i64 0)])⟩
def ti288 : TI := ⟨.struct #[fld 32 0, fld 2 1], 2, 32, .agg ([.full [], .d (.int .i64 0)])⟩
def ti289 : TI := ⟨.func #[] #[] false, 1, 8, .c (.any)⟩
def ti290 : TI := ⟨.func #[] #[] false, 1, 8, .c (.any)⟩
def ti291 : TI := ⟨.func #[] #[] false, 1, 8, .c (.any)⟩
def ti292 : TI := ⟨.func #[] #[] false, 1, 8, .c (.any)⟩
def ti293 : TI := ⟨.pointer 410, 1, 8, .c (.nilp)⟩
def ti295 : TI := ⟨.func #[] #[] false, 1, 8, .c (.any)⟩
def ti296 : TI := ⟨.array 4 3, 4, 32, .agg ([.d (.int .i64 0), .d (.int .i64 0), .d (.int .i64 0), .d (.int .i64 0)])⟩
def ti297 : TI := ⟨.array 4 3, 4, 32, .agg ([.d (.int .i64 0), .d (.int .i64 0), .d (.int .i64 0), .d (.int .i64 0)])⟩
def ti298 : TI := ⟨.func #[] #[] false, 1, 8, .c (.any)⟩
def ti299 : TI := ⟨.func #[] #[] false, 1, 8, .c (.any)⟩
def ti300 : TI := ⟨.func #[] #[] false, 1, 8, .c (.any)⟩
def ti301 : TI := ⟨.func #[] #[] false, 1, 8, .c (.any)⟩
def ti302 : TI := ⟨.func #[] #[] false, 1, 8, .c (.any)⟩
def ti303 : TI := ⟨.func #[] #[] false, 1, 8, .c (.any)⟩
def ti304 : TI := ⟨.map 297 185, 1, 8, .c (.any)⟩
def ti306 : TI := ⟨.func #[] #[] false, 1, 8, .c (.any)⟩
def ti307 : TI := ⟨.map 297 3, 1, 8, .c (.any)⟩
def ti308 : TI := ⟨.slice 297, 1, 24, .c (.full [])⟩
def ti309 : TI := ⟨.func #[] #[] false, 1, 8, .c (.any)⟩
def ti310 : TI := ⟨.func #[] #[] false, 1, 8, .c (.any)⟩
def ti311 : TI := ⟨.func #[] #[] false, 1, 8, .c (.any)⟩
def ti312 : TI := ⟨.func #[] #[] false, 1, 8, .c (.any)⟩
def ti313 : TI := ⟨.func #[] #[] false, 1, 8, .c (.any)⟩
def ti315 : TI := ⟨.func #[] #[] false, 1, 8, .c (.any)⟩
def ti316 : TI := ⟨.func #[] #[] false, 1, 8, .c (.any)⟩
def ti317 : TI := ⟨.func #[] #[] false, 1, 8, .c (.any)⟩
def ti318 : TI := ⟨.func #[] #[] false, 1, 8, .c (.any)⟩
def ti319 : TI := ⟨.func #[] #[] false, 1, 8, .c (.any)⟩
def ti320 : TI := ⟨.array 2 128, 2, 48, .agg ([.full [], .full []])⟩
def ti321 : TI := ⟨.array 2 320, 4, 96, .agg ([.full [], .full [], .full [], .full []])⟩
def ti323 : TI := ⟨.func #[] #[] false, 1, 8, .c (.any)⟩
def ti324 : TI := ⟨.slice 100, 1, 24, .c (.full [])⟩
def ti325 : TI := ⟨.func #[] #[] false, 1, 8, .c (.any)⟩
def ti327 : TI := ⟨.func #[] #[] false, 1, 8, .c (.any)⟩
def ti328 : TI := ⟨.func #[] #[] false, 1, 8, .c (.any)⟩
def ti329 : TI := ⟨.func #[] #[] false, 1, 8, .c (.any)⟩
def ti330 : TI := ⟨.func #[] #[] false, 1, 8, .c (.any)⟩
def ti331 : TI := ⟨.slice 123, 1, 24, .c (.full [])⟩
def ti332 : TI := ⟨.map 334 3, 1, 8, .c (.any)⟩
def ti333 : TI := ⟨.struct #[fld 3 0, fld 3 1], 2, 16, .agg ([.d (.int .i64 0), .d (.int .i64 0)])⟩
def ti334 : TI := ⟨.struct #[fld 3 0, fld 3 1], 2, 16, .agg ([.d (.int .i64 0), .d (.int .i64 0)])⟩
def ti335 : TI := ⟨.func #[] #[] false, 1, 8, .c (.any)⟩
def ti336 : TI := ⟨.func #[] #[] false, 1, 8, .c (.any)⟩
def ti337 : TI := ⟨.func #[] #[] false, 1, 8, .c (.any)⟩
def ti338 : TI := ⟨.func #[] #[] false, 1, 8, .c (.any)⟩
def ti339 : TI := ⟨.func #[] #[] false, 1, 8, .c (.any)⟩
def ti340 : TI := ⟨.func #[] #[] false, 1, 8, .c (.any)⟩
def ti341 : TI := ⟨.func #[] #[] false, 1, 8, .c (.any)⟩
def ti342 : TI := ⟨.func #[] #[] false, 1, 8, .c (.any)⟩
def ti343 : TI := ⟨.func #[] #[] false, 1, 8, .c (.any)⟩
def ti344 : TI := ⟨.func #[] #[] false, 1, 8, .c (.any)⟩
def ti345 : TI := ⟨.func #[] #[] false, 1, 8, .c (.any)⟩
def ti346 : TI := ⟨.func #[] #[] false, 1, 8, .c (.any)⟩
def ti347 : TI := ⟨.func #[] #[] false, 1, 8, .c (.any)⟩
def ti348 : TI := ⟨.func #[] #[] false, 1, 8, .c (.any)⟩
def ti349 : TI := ⟨.func #[] #[] false, 1, 8, .c (.any)⟩
def ti350 : TI := ⟨.func #[] #[] false, 1, 8, .c (.any)⟩
def ti351 : TI := ⟨.func #[] #[] false, 1, 8, .c (.any)⟩
def ti352 : TI := ⟨.func #[] #[] false, 1, 8, .c (.any)⟩
def ti353 : TI := ⟨.func #[] #[] false, 1, 8, .c (.any)⟩
def ti354 : TI := ⟨.func #[] #[] false, 1, 8, .c (.any)⟩
def ti355 : TI := ⟨.func #[] #[] false, 1, 8, .c (.any)⟩
def ti356 : TI := ⟨.func #[] #[] false, 1, 8, .c (.any)⟩
def ti357 : TI := ⟨.func #[] #[] false, 1, 8, .c (.any)⟩
def ti358 : TI := ⟨.func #[] #[] false, 1, 8, .c (.any)⟩
def ti359 : TI := ⟨.func #[] #[] false, 1, 8, .c (.any)⟩
def ti360 : TI := ⟨.func #[] #[] false, 1, 8, .c (.any)⟩
def ti361 : TI := ⟨.func #[] #[] false, 1, 8, .c (.any)⟩
def ti362 : TI := ⟨.func #[] #[] false, 1, 8, .c (.any)⟩
def ti363 : TI := ⟨.func #[] #[] false, 1, 8, .c (.any)⟩
def ti364 : TI := ⟨.func #[] #[] false, 1, 8, .c (.any)⟩
def ti365 : TI := ⟨.func #[] #[] false, 1, 8, .c (.any)⟩
def ti366 : TI := ⟨.func #[] #[] false, 1, 8, .c (.any)⟩
def ti367 : TI := ⟨.func #[] #[] false, 1, 8, .c (.any)⟩
def ti368 : TI := ⟨.func #[] #[] false, 1, 8, .c (.any)⟩
def ti369 : TI := ⟨.struct #[fld 100 0, fld 100 2], 4, 32, .agg ([.d (.int .i64 0), .d (.int .i64 0), .d (.int .i64 0), .d (.int .i64 0)])⟩
def ti370 : TI := ⟨.struct #[fld 100 0, fld 100 2], 4, 32, .agg ([.d (.int .i64 0), .d (.int .i64 0), .d (.int .i64 0), .d (.int .i64 0)])⟩
def ti371 : TI := ⟨.func #[] #[] false, 1, 8, .c (.any)⟩
def ti372 : TI := ⟨.func #[] #[] false, 1, 8, .c (.any)⟩
def ti373 : TI := ⟨.func #[] #[] false, 1, 8, .c (.any)⟩
def ti374 : TI := ⟨.func #[] #[] false, 1, 8, .c (.any)⟩
def ti375 : TI := ⟨.func #[] #[] false, 1, 8, .c (.any)⟩
def ti376 : TI := ⟨.func #[] #[] false, 1, 8, .c (.any)⟩
def ti377 : TI := ⟨.func #[] #[] false, 1, 8, .c (.any)⟩
def ti378 : TI := ⟨.func #[] #[] false, 1, 8, .c (.any)⟩
def ti379 : TI := ⟨.func #[] #[] false, 1, 8, .c (.any)⟩
def ti380 : TI := ⟨.struct #[fld 100 0, fld 100 2], 4, 32, .agg ([.d (.int .i64 0), .d (.int .i64 0), .d (.int .i64 0), .d (.int .i64 0)])⟩
def ti382 : TI := ⟨.func #[] #[] false, 1, 8, .c (.any)⟩
def ti383 : TI := ⟨.struct #[fld 2 0, fld 2 1, fld 46 2, fld 46 4, fld 46 6], 8, 64, .agg ([.d (.int .i64 0), .d (.int .i64 0), .d (.int .i64 0), .d (.int .i64 0), .d (.int .i64 0), .d (.int .i64 0), .d (.int .i64 0), .d (.int .i64 0)])⟩
def ti384 : TI := ⟨.struct #[fld 2 0, fld 2 1, fld 46 2, fld 46 4, fld 46 6], 8, 64, .agg ([.d (.int .i64 0), .d (.int .i64 0), .d (.int .i64 0), .d (.int .i64 0), .d (.int .i64 0), .d (.int .i64 0), .d (.int .i64 0), .d (.int .i64 0)])⟩
def ti385 : TI := ⟨.func #[] #[] false, 1, 8, .c (.any)⟩
def ti386 : TI := ⟨.func #[] #[] false, 1, 8, .c (.any)⟩
def ti387 : TI := ⟨.func #[] #[] false, 1, 8, .c (.any)⟩
def ti388 : TI := ⟨.func #[] #[] false, 1, 8, .c (.any)⟩
def ti389 : TI := ⟨.func #[] #[] false, 1, 8, .c (.any)⟩
def ti390 : TI := ⟨.func #[] #[] false, 1, 8, .c (.any)⟩
def ti391 : TI := ⟨.func #[] #[] false, 1, 8, .c (.any)⟩
def ti393 : TI := ⟨.func #[] #[] false, 1, 8, .c (.any)⟩
def ti394 : TI := ⟨.func #[] #[] false, 1, 8, .c (.any)⟩
def ti395 : TI := ⟨.func #[] #[] false, 1, 8, .c (.any)⟩
def ti396 : TI := ⟨.func #[] #[] false, 1, 8, .c (.any)⟩
def ti397 : TI := ⟨.func #[] #[] false, 1, 8, .c (.any)⟩
def ti398 : TI := ⟨.func #[] #[] false, 1, 8, .c (.any)⟩
def ti399 : TI := ⟨.func #[] #[] false, 1, 8, .c (.any)⟩
def ti400 : TI := ⟨.func #[] #[] false, 1, 8, .c (.any)⟩
def ti401 : TI := ⟨.func #[] #[] false, 1, 8, .c (.any)⟩
def ti402 : TI := ⟨.map 404 81, 1, 8, .c (.any)⟩
def ti403 : TI := ⟨.struct #[fld 2 0, fld 2 1], 2, 16, .agg ([.d (.int .i64 0), .d (.int .i64 0)])⟩
def ti404 : TI := ⟨.struct #[fld 2 0, fld 2 1], 2, 16, .agg ([.d (.int .i64 0), .d (.int .i64 0)])⟩
def ti405 : TI := ⟨.func #[] #[] false, 1, 8, .c (.any)⟩
def ti406 : TI := ⟨.func #[] #[] false, 1, 8, .c (.any)⟩
def ti407 : TI := ⟨.func #[] #[] false, 1, 8, .c (.any)⟩
def ti408 : TI := ⟨.array 39 297, 156, 1248, .agg (List.replicate 156 (.d (.int .i64 0)))⟩
def ti409 : TI := ⟨.struct #[fld 181 0, fld 408 2], 158, 1280, .agg ([.d (.int .i64 0)] ++ [.full []] ++ List.replicate 156 (.d (.int .i64 0)))⟩
def ti410 : TI := ⟨.struct #[fld 181 0, fld 408 2], 158, 1280, .agg ([.d (.int .i64 0)] ++ [.full []] ++ List.replicate 156 (.d (.int .i64 0)))⟩
def ti411 : TI := ⟨.func #[] #[] false, 1, 8, .c (.any)⟩
def ti412 : TI := ⟨.func #[] #[] false, 1, 8, .c (.any)⟩
def ti413 : TI := ⟨.func #[] #[] false, 1, 8, .c (.any)⟩
def ti414 : TI := ⟨.func #[] #[] false, 1, 8, .c (.any)⟩
def ti415 : TI := ⟨.func #[] #[] false, 1, 8, .c (.any)⟩
def ti416 : TI := ⟨.func #[] #[] false, 1, 8, .c (.any)⟩
def ti417 : TI := ⟨.func #[] #[] false, 1, 8, .c (.any)⟩
def ti418 : TI := ⟨.func #[] #[] false, 1, 8, .c (.any)⟩
def ti419 : TI := ⟨.func #[] #[] false, 1, 8, .c (.any)⟩
def ti420 : TI := ⟨.int .u64, 1, 8, .c (.d (.int .u64 0))⟩
def ti421 : TI := ⟨.func #[] #[] false, 1, 8, .c (.any)⟩
def ti422 : TI := ⟨.func #[] #[] false, 1, 8, .c (.any)⟩
def ti423 : TI := ⟨.func #[] #[] false, 1, 8, .c (.any)⟩
def ti424 : TI := ⟨.func #[] #[] false, 1, 8, .c (.any)⟩
def ti425 : TI := ⟨.func #[] #[] false, 1, 8, .c (.any)⟩
def ti426 : TI := ⟨.func #[] #[] false, 1, 8, .c (.any)⟩
def ti427 : TI := ⟨.struct #[fld 3 0, fld 3 1], 2, 16, .agg ([.d (.int .i64 0), .d (.int .i64 0)])⟩
def ti428 : TI := ⟨.struct #[fld 3 0, fld 3 1], 2, 16, .agg ([.d (.int .i64 0), .d (.int .i64 0)])⟩
def ti429 : TI := ⟨.array 2 3, 2, 16, .agg ([.d (.int .i64 0), .d (.int .i64 0)])⟩
def ti430 : TI := ⟨.func #[] #[] false, 1, 8, .c (.any)⟩
def ti431 : TI := ⟨.func #[] #[] false, 1, 8, .c (.any)⟩
def ti432 : TI := ⟨.func #[] #[] false, 1, 8, .c (.any)⟩
def ti433 : TI := ⟨.func #[] #[] false, 1, 8, .c (.any)⟩
def ti434 : TI := ⟨.array 4 2, 4, 32, .agg ([.d (.int .i64 0), .d (.int .i64 0), .d (.int .i64 0), .d (.int .i64 0)])⟩
def ti435 : TI := ⟨.array 4 2, 4, 32, .agg ([.d (.int .i64 0), .d (.int .i64 0), .d (.int .i64 0), .d (.int .i64 0)])⟩
def ti436 : TI := ⟨.func #[] #[] false, 1, 8, .c (.any)⟩
def ti437 : TI := ⟨.func #[] #[] false, 1, 8, .c (.any)⟩
def ti438 : TI := ⟨.func #[] #[] false, 1, 8, .c (.any)⟩
def ti439 : TI := ⟨.func #[] #[] false, 1, 8, .c (.any)⟩
def ti440 : TI := ⟨.func #[] #[] false, 1, 8, .c (.any)⟩
def ti441 : TI := ⟨.func #[] #[] false, 1, 8, .c (.any)⟩
def ti442 : TI := ⟨.array 12 3, 12, 96, .agg (List.replicate 12 (.d (.int .i64 0)))⟩
def ti443 : TI := ⟨.func #[] #[] false, 1, 8, .c (.any)⟩
def ti444 : TI := ⟨.pointer 491, 1, 8, .c (.nilp)⟩
def ti445 : TI := ⟨.int .u64, 1, 8, .c (.d (.int .u64 0))⟩
def ti446 : TI := ⟨.array 64 445, 64, 512, .agg (List.replicate 64 (.d (.int .u64 0)))⟩
def ti447 : TI := ⟨.array 64 445, 64, 512, .agg (List.replicate 64 (.d (.int .u64 0)))⟩
def ti448 : TI := ⟨.func #[] #[] false, 1, 8, .c (.any)⟩
def ti449 : TI := ⟨.func #[] #[] false, 1, 8, .c (.any)⟩
def ti450 : TI := ⟨.func #[] #[] false, 1, 8, .c (.any)⟩
def ti451 : TI := ⟨.func #[] #[] false, 1, 8, .c (.any)⟩
def ti452 : TI := ⟨.func #[] #[] false, 1, 8, .c (.any)⟩
def ti453 : TI := ⟨.func #[] #[] false, 1, 8, .c (.any)⟩
def ti454 : TI := ⟨.func #[] #[] false, 1, 8, .c (.any)⟩
def ti455 : TI := ⟨.func #[] #[] false, 1, 8, .c (.any)⟩
def ti456 : TI := ⟨.func #[] #[] false, 1, 8, .c (.any)⟩
def ti457 : TI := ⟨.struct #[fld 384 0], 8, 64, .agg ([.d (.int .i64 0), .d (.int .i64 0), .d (.int .i64 0), .d (.int .i64 0), .d (.int .i64 0), .d (.int .i64 0), .d (.int .i64 0), .d (.int .i64 0)])⟩
def ti458 : TI := ⟨.struct #[fld 384 0], 8, 64, .agg ([.d (.int .i64 0), .d (.int .i64 0), .d (.int .i64 0), .d (.int .i64 0), .d (.int .i64 0), .d (.int .i64 0), .d (.int .i64 0), .d (.int .i64 0)])⟩
def ti459 : TI := ⟨.struct #[fld 2 0, fld 2 1, fld 2 2], 3, 24, .agg ([.d (.int .i64 0), .d (.int .i64 0), .d (.int .i64 0)])⟩
def ti460 : TI := ⟨.struct #[fld 2 0, fld 2 1, fld 2 2], 3, 24, .agg ([.d (.int .i64 0), .d (.int .i64 0), .d (.int .i64 0)])⟩
def ti461 : TI := ⟨.func #[] #[] false, 1, 8, .c (.any)⟩
def ti462 : TI := ⟨.func #[] #[] false, 1, 8, .c (.any)⟩
def ti463 : TI := ⟨.func #[] #[] false, 1, 8, .c (.any)⟩
def ti464 : TI := ⟨.func #[] #[] false, 1, 8, .c (.any)⟩
def ti465 : TI := ⟨.func #[] #[] false, 1, 8, .c (.any)⟩
def ti466 : TI := ⟨.func #[] #[] false, 1, 8, .c (.any)⟩
def ti467 : TI := ⟨.func #[] #[] false, 1, 8, .c (.any)⟩
def ti468 : TI := ⟨.func #[] #[] false, 1, 8, .c (.any)⟩
def ti469 : TI := ⟨.func #[] #[] false, 1, 8, .c (.any)⟩
def ti470 : TI := ⟨.func #[] #[] false, 1, 8, .c (.any)⟩
def ti471 : TI := ⟨.func #[] #[] false, 1, 8, .c (.any)⟩
def ti472 : TI := ⟨.func #[] #[] false, 1, 8, .c (.any)⟩
def ti473 : TI := ⟨.func #[] #[] false, 1, 8, .c (.any)⟩
def ti474 : TI := ⟨.func #[] #[] false, 1, 8, .c (.any)⟩
def ti475 : TI := ⟨.int .i64, 1, 8, .c (.d (.int .i64 0))⟩
def ti477 : TI := ⟨.func #[] #[] false, 1, 8, .c (.any)⟩
def ti478 : TI := ⟨.func #[] #[] false, 1, 8, .c (.any)⟩
def ti479 : TI := ⟨.func #[] #[] false, 1, 8, .c (.any)⟩
def ti480 : TI := ⟨.func #[] #[] false, 1, 8, .c (.any)⟩
def ti481 : TI := ⟨.func #[] #[] false, 1, 8, .c (.any)⟩
def ti482 : TI := ⟨.func #[] #[] false, 1, 8, .c (.any)⟩
def ti483 : TI := ⟨.func #[] #[] false, 1, 8, .c (.any)⟩
def ti484 : TI := ⟨.func #[] #[] false, 1, 8, .c (.any)⟩
def ti485 : TI := ⟨.func #[] #[] false, 1, 8, .c (.any)⟩
def ti486 : TI := ⟨.func #[] #[] false, 1, 8, .c (.any)⟩
def ti488 : TI := ⟨.func #[] #[] false, 1, 8, .c (.any)⟩
def ti489 : TI := ⟨.slice 447, 1, 24, .c (.full [])⟩
def ti490 : TI := ⟨.struct #[fld 91 0, fld 3 1, fld 489 2], 3, 56, .agg ([.full [], .d (.int .i64 0), .full []])⟩
def ti491 : TI := ⟨.struct #[fld 91 0, fld 3 1, fld 489 2], 3, 56, .agg ([.full [], .d (.int .i64 0), .full []])⟩
def ti492 : TI := ⟨.func #[] #[] false, 1, 8, .c (.any)⟩
def ti493 : TI := ⟨.func #[] #[] false, 1, 8, .c (.any)⟩
def ti494 : TI := ⟨.func #[] #[] false, 1, 8, .c (.any)⟩
def ti495 : TI := ⟨.func #[] #[] false, 1, 8, .c (.any)⟩
def ti496 : TI := ⟨.func #[] #[] false, 1, 8, .c (.any)⟩
def ti497 : TI := ⟨.func #[] #[] false, 1, 8, .c (.any)⟩
def ti498 : TI := ⟨.func #[] #[] false, 1, 8, .c (.any)⟩
def ti499 : TI := ⟨.int .u64, 1, 8, .c (.d (.int .u64 0))⟩
def ti500 : TI := ⟨.func #[] #[] false, 1, 8, .c (.any)⟩
def ti501 : TI := ⟨.func #[] #[] false, 1, 8, .c (.any)⟩
def ti502 : TI := ⟨.func #[] #[] false, 1, 8, .c (.any)⟩
def ti503 : TI := ⟨.pointer 3, 1, 8, .c (.nilp)⟩
def ti504 : TI := ⟨.func #[] #[] false, 1, 8, .c (.any)⟩
def ti505 : TI := ⟨.pointer 499, 1, 8, .c (.nilp)⟩
def ti506 : TI := ⟨.func #[] #[] false, 1, 8, .c (.any)⟩
def ti507 : TI := ⟨.array 64 5, 64, 64, .agg (List.replicate 64 (.d (.int .u8 0)))⟩
def ti508 : TI := ⟨.func #[] #[] false, 1, 8, .c (.any)⟩
def ti514 : TI := ⟨.func #[] #[] false, 1, 8, .c (.any)⟩
def ti518 : TI := ⟨.pointer 5, 1, 8, .c (.nilp)⟩
def ttA : List (List (Option TI)) := [[none, some ti1, some ti2, some ti3, some ti4, some ti5, none, none, none, none, none, none, some ti12],
  [none, none, none, none, none, some ti21, some ti22, some ti23, some ti24, some ti25, some ti26, some ti27, some ti28, some ti29, some ti30, some ti31],
  [some ti32, some ti33, some ti34, some ti35, none, some ti37, none, some ti39, some ti40, some ti41, some ti42, some ti43, some ti44, some ti45, some ti46, some ti47],
  [none, some ti49, some ti50, some ti51, some ti52, some ti53, none, some ti55, none, some ti57, some ti58, some ti59, some ti60, some ti61, some ti62, some ti63],
  [some ti64, some ti65, some ti66, some ti67, some ti68, some ti69, some ti70, some ti71, some ti72, none, some ti74, some ti75, some ti76, some ti77, some ti78, some ti79],
  [some ti80, some ti81, some ti82, none, some ti84, none, some ti86, none, some ti88, some ti89, some ti90, some ti91, none, some ti93, some ti94, some ti95],
  [some ti96, some ti97, some ti98, some ti99, some ti100, some ti101, some ti102, none, some ti104, some ti105, some ti106, some ti107, some ti108, some ti109, some ti110, some ti111],
  [some ti112, none, some ti114, some ti115, some ti116, some ti117, some ti118, some ti119, some ti120, some ti121, some ti122, some ti123, none, some ti125, some ti126, some ti127],
  [some ti128, some ti129, some ti130, some ti131, some ti132, none, some ti134, none, some ti136, some ti137, some ti138, none, some ti140, some ti141, some ti142, some ti143],
  [some ti144, some ti145, none, some ti147, some ti148, some ti149, none, some ti151, some ti152, some ti153, none, some ti155, some ti156, some ti157, some ti158, some ti159],
  [some ti160, some ti161, some ti162, none, some ti164, some ti165, some ti166, some ti167, some ti168, some ti169, some ti170, some ti171, some ti172, some ti173, none, some ti175],
  [some ti176, some ti177, some ti178, some ti179, some ti180, some ti181, some ti182, some ti183, some ti184, some ti185, some ti186, some ti187, none, some ti189, none, some ti191],
  [some ti192, none, some ti194, none, some ti196, some ti197, some ti198, some ti199, some ti200, some ti201, some ti202, none, some ti204, some ti205, none, some ti207],
  [none, some ti209, none, some ti211, none, some ti213, some ti214, some ti215, some ti216, some ti217, some ti218, some ti219, some ti220, some ti221, some ti222, some ti223],
  [some ti224, some ti225, some ti226, some ti227, some ti228, some ti229, some ti230, some ti231, some ti232, some ti233, some ti234, none, some ti236, some ti237, some ti238, some ti239],
  [some ti240, some ti241, some ti242, none, some ti244, some ti245, some ti246, some ti247, some ti248, some ti249, some ti250, some ti251, some ti252, some ti253, some ti254, some ti255],
  [some ti256, some ti257, some ti258, some ti259, some ti260, some ti261, some ti262, some ti263, some ti264, some ti265, some ti266, none, some ti268, some ti269, some ti270],
  [some ti272, some ti273, some ti274, some ti275, some ti276, some ti277, some ti278, some ti279, some ti280, some ti281, some ti282, none, some ti284, some ti285, some ti286, some ti287],
  [some ti288, some ti289, some ti290, some ti291, some ti292, some ti293, none, some ti295, some ti296, some ti297, some ti298, some ti299, some ti300, some ti301, some ti302, some ti303],
  [some ti304, none, some ti306, some ti307, some ti308, some ti309, some ti310, some ti311, some ti312, some ti313, none, some ti315, some ti316, some ti317, some ti318, some ti319],
  [some ti320, some ti321, none, some ti323, some ti324, some ti325, none, some ti327, some ti328, some ti329, some ti330, some ti331, some ti332, some ti333, some ti334, some ti335],
  [some ti336, some ti337, some ti338, some ti339, some ti340, some ti341, some ti342, some ti343, some ti344, some ti345, some ti346, some ti347, some ti348, some ti349, some ti350, some ti351],
  [some ti352, some ti353, some ti354, some ti355, some ti356, some ti357, some ti358, some ti359, some ti360, some ti361, some ti362, some ti363, some ti364, some ti365, some ti366, some ti367],
  [some ti368, some ti369, some ti370, some ti371, some ti372, some ti373, some ti374, some ti375, some ti376, some ti377, some ti378, some ti379, some ti380, none, some ti382, some ti383],
  [some ti384, some ti385, some ti386, some ti387, some ti388, some ti389, some ti390, some ti391, none, some ti393, some ti394, some ti395, some ti396, some ti397, some ti398, some ti399],
  [some ti400, some ti401, some ti402, some ti403, some ti404, some ti405, some ti406, some ti407, some ti408, some ti409, some ti410, some ti411, some ti412, some ti413, some ti414, some ti415],
  [some ti416, some ti417, some ti418, some ti419, some ti420, some ti421, some ti422, some ti423, some ti424, some ti425, some ti426, some ti427, some ti428, some ti429, some ti430, some ti431],
  [some ti432, some ti433, some ti434, some ti435, some ti436, some ti437, some ti438, some ti439, some ti440, some ti441, some ti442, some ti443, some ti444, some ti445, some ti446, some ti447],
  [some ti448, some ti449, some ti450, some ti451, some ti452, some ti453, some ti454, some ti455, some ti456, some ti457, some ti458, some ti459, some ti460, some ti461, some ti462, some ti463],
  [some ti464, some ti465, some ti466, some ti467, some ti468, some ti469, some ti470, some ti471, some ti472, some ti473, some ti474, some ti475, none, some ti477, some ti478, some ti479],
  [some ti480, some ti481, some ti482, some ti483, some ti484, some ti485, some ti486, none, some ti488, some ti489, some ti490, some ti491, some ti492, some ti493, some ti494, some ti495],
  [some ti496, some ti497, some ti498, some ti499, some ti500, some ti501, some ti502, some ti503, some ti504, some ti505, some ti506, some ti507, some ti508],
  [none, none, some ti514, none, none, none, some ti518]]
theorem ttOk : TTok Tryz.prog (lookC ttA) := ttok_fast (by kernel_rfl)
def eqM : Nat := 418993997810711742039712283975699320721096273624216818089225773255014614693352940854590147177985606542851052092160467571770140050579553857710990875951104
noncomputable def tx : Tx := { P := Tryz.prog, tt := lookC ttA, eqs := eqM.testBit, ok := ttOk, eok := eok_fast (N := 508) (of_decide_eq_true (by kernel_rfl)) (by kernel_rfl) }
end Go.Proofs.YtfgdbeijjbijnaaGreatDoor

/- What the types are, one by one. -/
set_option maxRecDepth 100000
namespace Go.Proofs.YtfgdbeijjbijnaaGreatDoor
open Go Go.Abs Go.Proofs
theorem tt1 : tx.tt 1 = some ti1 := by kernel_rfl
theorem tt2 : tx.tt 2 = some ti2 := by kernel_rfl
theorem tt3 : tx.tt 3 = some ti3 := by kernel_rfl
theorem tt4 : tx.tt 4 = some ti4 := by kernel_rfl
theorem tt5 : tx.tt 5 = some ti5 := by kernel_rfl
theorem tt12 : tx.tt 12 = some ti12 := by kernel_rfl
theorem tt21 : tx.tt 21 = some ti21 := by kernel_rfl
theorem tt22 : tx.tt 22 = some ti22 := by kernel_rfl
theorem tt23 : tx.tt 23 = some ti23 := by kernel_rfl
theorem tt24 : tx.tt 24 = some ti24 := by kernel_rfl
theorem tt25 : tx.tt 25 = some ti25 := by kernel_rfl
theorem tt26 : tx.tt 26 = some ti26 := by kernel_rfl
theorem tt27 : tx.tt 27 = some ti27 := by kernel_rfl
theorem tt28 : tx.tt 28 = some ti28 := by kernel_rfl
theorem tt29 : tx.tt 29 = some ti29 := by kernel_rfl
theorem tt30 : tx.tt 30 = some ti30 := by kernel_rfl
theorem tt31 : tx.tt 31 = some ti31 := by kernel_rfl
theorem tt32 : tx.tt 32 = some ti32 := by kernel_rfl
theorem tt33 : tx.tt 33 = some ti33 := by kernel_rfl
theorem tt34 : tx.tt 34 = some ti34 := by kernel_rfl
theorem tt35 : tx.tt 35 = some ti35 := by kernel_rfl
theorem tt37 : tx.tt 37 = some ti37 := by kernel_rfl
theorem tt39 : tx.tt 39 = some ti39 := by kernel_rfl
theorem tt40 : tx.tt 40 = some ti40 := by kernel_rfl
theorem tt41 : tx.tt 41 = some ti41 := by kernel_rfl
theorem tt42 : tx.tt 42 = some ti42 := by kernel_rfl
theorem tt43 : tx.tt 43 = some ti43 := by kernel_rfl
theorem tt44 : tx.tt 44 = some ti44 := by kernel_rfl
theorem tt45 : tx.tt 45 = some ti45 := by kernel_rfl
theorem tt46 : tx.tt 46 = some ti46 := by kernel_rfl
theorem tt47 : tx.tt 47 = some ti47 := by kernel_rfl
theorem tt49 : tx.tt 49 = some ti49 := by kernel_rfl
theorem tt50 : tx.tt 50 = some ti50 := by kernel_rfl
theorem tt51 : tx.tt 51 = some ti51 := by kernel_rfl
theorem tt52 : tx.tt 52 = some ti52 := by kernel_rfl
theorem tt53 : tx.tt 53 = some ti53 := by kernel_rfl
theorem tt55 : tx.tt 55 = some ti55 := by kernel_rfl
theorem tt57 : tx.tt 57 = some ti57 := by kernel_rfl
theorem tt58 : tx.tt 58 = some ti58 := by kernel_rfl
theorem tt59 : tx.tt 59 = some ti59 := by kernel_rfl
theorem tt60 : tx.tt 60 = some ti60 := by kernel_rfl
theorem tt61 : tx.tt 61 = some ti61 := by kernel_rfl
theorem tt62 : tx.tt 62 = some ti62 := by kernel_rfl
theorem tt63 : tx.tt 63 = some ti63 := by kernel_rfl
theorem tt64 : tx.tt 64 = some ti64 := by kernel_rfl
theorem tt65 : tx.tt 65 = some ti65 := by kernel_rfl
theorem tt66 : tx.tt 66 = some ti66 := by kernel_rfl
theorem tt67 : tx.tt 67 = some ti67 := by kernel_rfl
theorem tt68 : tx.tt 68 = some ti68 := by kernel_rfl
theorem tt69 : tx.tt 69 = some ti69 := by kernel_rfl
theorem tt70 : tx.tt 70 = some ti70 := by kernel_rfl
theorem tt71 : tx.tt 71 = some ti71 := by kernel_rfl
theorem tt72 : tx.tt 72 = some ti72 := by kernel_rfl
theorem tt74 : tx.tt 74 = some ti74 := by kernel_rfl
theorem tt75 : tx.tt 75 = some ti75 := by kernel_rfl
theorem tt76 : tx.tt 76 = some ti76 := by kernel_rfl
theorem tt77 : tx.tt 77 = some ti77 := by kernel_rfl
theorem tt78 : tx.tt 78 = some ti78 := by kernel_rfl
theorem tt79 : tx.tt 79 = some ti79 := by kernel_rfl
theorem tt80 : tx.tt 80 = some ti80 := by kernel_rfl
theorem tt81 : tx.tt 81 = some ti81 := by kernel_rfl
theorem tt82 : tx.tt 82 = some ti82 := by kernel_rfl
theorem tt84 : tx.tt 84 = some ti84 := by kernel_rfl
theorem tt86 : tx.tt 86 = some ti86 := by kernel_rfl
theorem tt88 : tx.tt 88 = some ti88 := by kernel_rfl
theorem tt89 : tx.tt 89 = some ti89 := by kernel_rfl
theorem tt90 : tx.tt 90 = some ti90 := by kernel_rfl
theorem tt91 : tx.tt 91 = some ti91 := by kernel_rfl
theorem tt93 : tx.tt 93 = some ti93 := by kernel_rfl
theorem tt94 : tx.tt 94 = some ti94 := by kernel_rfl
theorem tt95 : tx.tt 95 = some ti95 := by kernel_rfl
theorem tt96 : tx.tt 96 = some ti96 := by kernel_rfl
theorem tt97 : tx.tt 97 = some ti97 := by kernel_rfl
theorem tt98 : tx.tt 98 = some ti98 := by kernel_rfl
theorem tt99 : tx.tt 99 = some ti99 := by kernel_rfl
theorem tt100 : tx.tt 100 = some ti100 := by kernel_rfl
theorem tt101 : tx.tt 101 = some ti101 := by kernel_rfl
theorem tt102 : tx.tt 102 = some ti102 := by kernel_rfl
theorem tt104 : tx.tt 104 = some ti104 := by kernel_rfl
theorem tt105 : tx.tt 105 = some ti105 := by kernel_rfl
theorem tt106 : tx.tt 106 = some ti106 := by kernel_rfl
theorem tt107 : tx.tt 107 = some ti107 := by kernel_rfl
theorem tt108 : tx.tt 108 = some ti108 := by kernel_rfl
theorem tt109 : tx.tt 109 = some ti109 := by kernel_rfl
theorem tt110 : tx.tt 110 = some ti110 := by kernel_rfl
theorem tt111 : tx.tt 111 = some ti111 := by kernel_rfl
theorem tt112 : tx.tt 112 = some ti112 := by kernel_rfl
theorem tt114 : tx.tt 114 = some ti114 := by kernel_rfl
theorem tt115 : tx.tt 115 = some ti115 := by kernel_rfl
theorem tt116 : tx.tt 116 = some ti116 := by kernel_rfl
theorem tt117 : tx.tt 117 = some ti117 := by kernel_rfl
theorem tt118 : tx.tt 118 = some ti118 := by kernel_rfl
theorem tt119 : tx.tt 119 = some ti119 := by kernel_rfl
theorem tt120 : tx.tt 120 = some ti120 := by kernel_rfl
theorem tt121 : tx.tt 121 = some ti121 := by kernel_rfl
theorem tt122 : tx.tt 122 = some ti122 := by kernel_rfl
theorem tt123 : tx.tt 123 = some ti123 := by kernel_rfl
theorem tt125 : tx.tt 125 = some ti125 := by kernel_rfl
theorem tt126 : tx.tt 126 = some ti126 := by kernel_rfl
theorem tt127 : tx.tt 127 = some ti127 := by kernel_rfl
theorem tt128 : tx.tt 128 = some ti128 := by kernel_rfl
theorem tt129 : tx.tt 129 = some ti129 := by kernel_rfl
theorem tt130 : tx.tt 130 = some ti130 := by kernel_rfl
theorem tt131 : tx.tt 131 = some ti131 := by kernel_rfl
theorem tt132 : tx.tt 132 = some ti132 := by kernel_rfl
theorem tt134 : tx.tt 134 = some ti134 := by kernel_rfl
theorem tt136 : tx.tt 136 = some ti136 := by kernel_rfl
theorem tt137 : tx.tt 137 = some ti137 := by kernel_rfl
theorem tt138 : tx.tt 138 = some ti138 := by kernel_rfl
theorem tt140 : tx.tt 140 = some ti140 := by kernel_rfl
theorem tt141 : tx.tt 141 = some ti141 := by kernel_rfl
theorem tt142 : tx.tt 142 = some ti142 := by kernel_rfl
theorem tt143 : tx.tt 143 = some ti143 := by kernel_rfl
theorem tt144 : tx.tt 144 = some ti144 := by kernel_rfl
theorem tt145 : tx.tt 145 = some ti145 := by kernel_rfl
theorem tt147 : tx.tt 147 = some ti147 := by kernel_rfl
theorem tt148 : tx.tt 148 = some ti148 := by kernel_rfl
theorem tt149 : tx.tt 149 = some ti149 := by kernel_rfl
theorem tt151 : tx.tt 151 = some ti151 := by kernel_rfl
theorem tt152 : tx.tt 152 = some ti152 := by kernel_rfl
theorem tt153 : tx.tt 153 = some ti153 := by kernel_rfl
theorem tt155 : tx.tt 155 = some ti155 := by kernel_rfl
theorem tt156 : tx.tt 156 = some ti156 := by kernel_rfl
theorem tt157 : tx.tt 157 = some ti157 := by kernel_rfl
theorem tt158 : tx.tt 158 = some ti158 := by kernel_rfl
theorem tt159 : tx.tt 159 = some ti159 := by kernel_rfl
theorem tt160 : tx.tt 160 = some ti160 := by kernel_rfl
theorem tt161 : tx.tt 161 = some ti161 := by kernel_rfl
theorem tt162 : tx.tt 162 = some ti162 := by kernel_rfl
theorem tt164 : tx.tt 164 = some ti164 := by kernel_rfl
theorem tt165 : tx.tt 165 = some ti165 := by kernel_rfl
theorem tt166 : tx.tt 166 = some ti166 := by kernel_rfl
theorem tt167 : tx.tt 167 = some ti167 := by kernel_rfl
theorem tt168 : tx.tt 168 = some ti168 := by kernel_rfl
theorem tt169 : tx.tt 169 = some ti169 := by kernel_rfl
theorem tt170 : tx.tt 170 = some ti170 := by kernel_rfl
theorem tt171 : tx.tt 171 = some ti171 := by kernel_rfl
theorem tt172 : tx.tt 172 = some ti172 := by kernel_rfl
theorem tt173 : tx.tt 173 = some ti173 := by kernel_rfl
theorem tt175 : tx.tt 175 = some ti175 := by kernel_rfl
theorem tt176 : tx.tt 176 = some ti176 := by kernel_rfl
theorem tt177 : tx.tt 177 = some ti177 := by kernel_rfl
theorem tt178 : tx.tt 178 = some ti178 := by kernel_rfl
theorem tt179 : tx.tt 179 = some ti179 := by kernel_rfl
theorem tt180 : tx.tt 180 = some ti180 := by kernel_rfl
theorem tt181 : tx.tt 181 = some ti181 := by kernel_rfl
theorem tt182 : tx.tt 182 = some ti182 := by kernel_rfl
theorem tt183 : tx.tt 183 = some ti183 := by kernel_rfl
theorem tt184 : tx.tt 184 = some ti184 := by kernel_rfl
theorem tt185 : tx.tt 185 = some ti185 := by kernel_rfl
theorem tt186 : tx.tt 186 = some ti186 := by kernel_rfl
theorem tt187 : tx.tt 187 = some ti187 := by kernel_rfl
theorem tt189 : tx.tt 189 = some ti189 := by kernel_rfl
theorem tt191 : tx.tt 191 = some ti191 := by kernel_rfl
theorem tt192 : tx.tt 192 = some ti192 := by kernel_rfl
theorem tt194 : tx.tt 194 = some ti194 := by kernel_rfl
theorem tt196 : tx.tt 196 = some ti196 := by kernel_rfl
theorem tt197 : tx.tt 197 = some ti197 := by kernel_rfl
theorem tt198 : tx.tt 198 = some ti198 := by kernel_rfl
theorem tt199 : tx.tt 199 = some ti199 := by kernel_rfl
theorem tt200 : tx.tt 200 = some ti200 := by kernel_rfl
theorem tt201 : tx.tt 201 = some ti201 := by kernel_rfl
theorem tt202 : tx.tt 202 = some ti202 := by kernel_rfl
theorem tt204 : tx.tt 204 = some ti204 := by kernel_rfl
theorem tt205 : tx.tt 205 = some ti205 := by kernel_rfl
theorem tt207 : tx.tt 207 = some ti207 := by kernel_rfl
theorem tt209 : tx.tt 209 = some ti209 := by kernel_rfl
theorem tt211 : tx.tt 211 = some ti211 := by kernel_rfl
theorem tt213 : tx.tt 213 = some ti213 := by kernel_rfl
theorem tt214 : tx.tt 214 = some ti214 := by kernel_rfl
theorem tt215 : tx.tt 215 = some ti215 := by kernel_rfl
theorem tt216 : tx.tt 216 = some ti216 := by kernel_rfl
theorem tt217 : tx.tt 217 = some ti217 := by kernel_rfl
theorem tt218 : tx.tt 218 = some ti218 := by kernel_rfl
theorem tt219 : tx.tt 219 = some ti219 := by kernel_rfl
theorem tt220 : tx.tt 220 = some ti220 := by kernel_rfl
theorem tt221 : tx.tt 221 = some ti221 := by kernel_rfl
theorem tt222 : tx.tt 222 = some ti222 := by kernel_rfl
theorem tt223 : tx.tt 223 = some ti223 := by kernel_rfl
theorem tt224 : tx.tt 224 = some ti224 := by kernel_rfl
theorem tt225 : tx.tt 225 = some ti225 := by kernel_rfl
theorem tt226 : tx.tt 226 = some ti226 := by kernel_rfl
theorem tt227 : tx.tt 227 = some ti227 := by kernel_rfl
theorem tt228 : tx.tt 228 = some ti228 := by kernel_rfl
theorem tt229 : tx.tt 229 = some ti229 := by kernel_rfl
theorem tt230 : tx.tt 230 = some ti230 := by kernel_rfl
theorem tt231 : tx.tt 231 = some ti231 := by kernel_rfl
theorem tt232 : tx.tt 232 = some ti232 := by kernel_rfl
theorem tt233 : tx.tt 233 = some ti233 := by kernel_rfl
theorem tt234 : tx.tt 234 = some ti234 := by kernel_rfl
theorem tt236 : tx.tt 236 = some ti236 := by kernel_rfl
theorem tt237 : tx.tt 237 = some ti237 := by kernel_rfl
theorem tt238 : tx.tt 238 = some ti238 := by kernel_rfl
theorem tt239 : tx.tt 239 = some ti239 := by kernel_rfl
theorem tt240 : tx.tt 240 = some ti240 := by kernel_rfl
theorem tt241 : tx.tt 241 = some ti241 := by kernel_rfl
theorem tt242 : tx.tt 242 = some ti242 := by kernel_rfl
theorem tt244 : tx.tt 244 = some ti244 := by kernel_rfl
theorem tt245 : tx.tt 245 = some ti245 := by kernel_rfl
theorem tt246 : tx.tt 246 = some ti246 := by kernel_rfl
theorem tt247 : tx.tt 247 = some ti247 := by kernel_rfl
theorem tt248 : tx.tt 248 = some ti248 := by kernel_rfl
theorem tt249 : tx.tt 249 = some ti249 := by kernel_rfl
theorem tt250 : tx.tt 250 = some ti250 := by kernel_rfl
theorem tt251 : tx.tt 251 = some ti251 := by kernel_rfl
theorem tt252 : tx.tt 252 = some ti252 := by kernel_rfl
theorem tt253 : tx.tt 253 = some ti253 := by kernel_rfl
theorem tt254 : tx.tt 254 = some ti254 := by kernel_rfl
theorem tt255 : tx.tt 255 = some ti255 := by kernel_rfl
theorem tt256 : tx.tt 256 = some ti256 := by kernel_rfl
theorem tt257 : tx.tt 257 = some ti257 := by kernel_rfl
theorem tt258 : tx.tt 258 = some ti258 := by kernel_rfl
theorem tt259 : tx.tt 259 = some ti259 := by kernel_rfl
theorem tt260 : tx.tt 260 = some ti260 := by kernel_rfl
theorem tt261 : tx.tt 261 = some ti261 := by kernel_rfl
theorem tt262 : tx.tt 262 = some ti262 := by kernel_rfl
theorem tt263 : tx.tt 263 = some ti263 := by kernel_rfl
theorem tt264 : tx.tt 264 = some ti264 := by kernel_rfl
theorem tt265 : tx.tt 265 = some ti265 := by kernel_rfl
theorem tt266 : tx.tt 266 = some ti266 := by kernel_rfl
theorem tt268 : tx.tt 268 = some ti268 := by kernel_rfl
theorem tt269 : tx.tt 269 = some ti269 := by kernel_rfl
theorem tt270 : tx.tt 270 = some ti270 := by kernel_rfl
theorem tt272 : tx.tt 272 = some ti272 := by kernel_rfl
theorem tt273 : tx.tt 273 = some ti273 := by kernel_rfl
theorem tt274 : tx.tt 274 = some ti274 := by kernel_rfl
theorem tt275 : tx.tt 275 = some ti275 := by kernel_rfl
theorem tt276 : tx.tt 276 = some ti276 := by kernel_rfl
theorem tt277 : tx.tt 277 = some ti277 := by kernel_rfl
theorem tt278 : tx.tt 278 = some ti278 := by kernel_rfl
theorem tt279 : tx.tt 279 = some ti279 := by kernel_rfl
theorem tt280 : tx.tt 280 = some ti280 := by kernel_rfl
theorem tt281 : tx.tt 281 = some ti281 := by kernel_rfl
theorem tt282 : tx.tt 282 = some ti282 := by kernel_rfl
theorem tt284 : tx.tt 284 = some ti284 := by kernel_rfl
theorem tt285 : tx.tt 285 = some ti285 := by kernel_rfl
theorem tt286 : tx.tt 286 = some ti286 := by kernel_rfl
theorem tt287 : tx.tt 287 = some ti287 := by kernel_rfl
theorem tt288 : tx.tt 288 = some ti288 := by kernel_rfl
theorem tt289 : tx.tt 289 = some ti289 := by kernel_rfl
theorem tt290 : tx.tt 290 = some ti290 := by kernel_rfl
theorem tt291 : tx.tt 291 = some ti291 := by kernel_rfl
theorem tt292 : tx.tt 292 = some ti292 := by kernel_rfl
theorem tt293 : tx.tt 293 = some ti293 := by kernel_rfl
theorem tt295 : tx.tt 295 = some ti295 := by kernel_rfl
theorem tt296 : tx.tt 296 = some ti296 := by kernel_rfl
theorem tt297 : tx.tt 297 = some ti297 := by kernel_rfl
theorem tt298 : tx.tt 298 = some ti298 := by kernel_rfl
theorem tt299 : tx.tt 299 = some ti299 := by kernel_rfl
theorem tt300 : tx.tt 300 = some ti300 := by kernel_rfl
theorem tt301 : tx.tt 301 = some ti301 := by kernel_rfl
theorem tt302 : tx.tt 302 = some ti302 := by kernel_rfl
theorem tt303 : tx.tt 303 = some ti303 := by kernel_rfl
theorem tt304 : tx.tt 304 = some ti304 := by kernel_rfl
theorem tt306 : tx.tt 306 = some ti306 := by kernel_rfl
theorem tt307 : tx.tt 307 = some ti307 := by kernel_rfl
theorem tt308 : tx.tt 308 = some ti308 := by kernel_rfl
theorem tt309 : tx.tt 309 = some ti309 := by kernel_rfl
theorem tt310 : tx.tt 310 = some ti310 := by kernel_rfl
theorem tt311 : tx.tt 311 = some ti311 := by kernel_rfl
theorem tt312 : tx.tt 312 = some ti312 := by kernel_rfl
theorem tt313 : tx.tt 313 = some ti313 := by kernel_rfl
theorem tt315 : tx.tt 315 = some ti315 := by kernel_rfl
theorem tt316 : tx.tt 316 = some ti316 := by kernel_rfl
theorem tt317 : tx.tt 317 = some ti317 := by kernel_rfl
theorem tt318 : tx.tt 318 = some ti318 := by kernel_rfl
theorem tt319 : tx.tt 319 = some ti319 := by kernel_rfl
theorem tt320 : tx.tt 320 = some ti320 := by kernel_rfl
theorem tt321 : tx.tt 321 = some ti321 := by kernel_rfl
theorem tt323 : tx.tt 323 = some ti323 := by kernel_rfl
theorem tt324 : tx.tt 324 = some ti324 := by kernel_rfl
theorem tt325 : tx.tt 325 = some ti325 := by kernel_rfl
theorem tt327 : tx.tt 327 = some ti327 := by kernel_rfl
theorem tt328 : tx.tt 328 = some ti328 := by kernel_rfl
theorem tt329 : tx.tt 329 = some ti329 := by kernel_rfl
theorem tt330 : tx.tt 330 = some ti330 := by kernel_rfl
theorem tt331 : tx.tt 331 = some ti331 := by kernel_rfl
theorem tt332 : tx.tt 332 = some ti332 := by kernel_rfl
theorem tt333 : tx.tt 333 = some ti333 := by kernel_rfl
theorem tt334 : tx.tt 334 = some ti334 := by kernel_rfl
theorem tt335 : tx.tt 335 = some ti335 := by kernel_rfl
theorem tt336 : tx.tt 336 = some ti336 := by kernel_rfl
theorem tt337 : tx.tt 337 = some ti337 := by kernel_rfl
theorem tt338 : tx.tt 338 = some ti338 := by kernel_rfl
theorem tt339 : tx.tt 339 = some ti339 := by kernel_rfl
theorem tt340 : tx.tt 340 = some ti340 := by kernel_rfl
theorem tt341 : tx.tt 341 = some ti341 := by kernel_rfl
theorem tt342 : tx.tt 342 = some ti342 := by kernel_rfl
theorem tt343 : tx.tt 343 = some ti343 := by kernel_rfl
theorem tt344 : tx.tt 344 = some ti344 := by kernel_rfl
theorem tt345 : tx.tt 345 = some ti345 := by kernel_rfl
theorem tt346 : tx.tt 346 = some ti346 := by kernel_rfl
theorem tt347 : tx.tt 347 = some ti347 := by kernel_rfl
theorem tt348 : tx.tt 348 = some ti348 := by kernel_rfl
theorem tt349 : tx.tt 349 = some ti349 := by kernel_rfl
theorem tt350 : tx.tt 350 = some ti350 := by kernel_rfl
theorem tt351 : tx.tt 351 = some ti351 := by kernel_rfl
theorem tt352 : tx.tt 352 = some ti352 := by kernel_rfl
theorem tt353 : tx.tt 353 = some ti353 := by kernel_rfl
theorem tt354 : tx.tt 354 = some ti354 := by kernel_rfl
theorem tt355 : tx.tt 355 = some ti355 := by kernel_rfl
theorem tt356 : tx.tt 356 = some ti356 := by kernel_rfl
theorem tt357 : tx.tt 357 = some ti357 := by kernel_rfl
theorem tt358 : tx.tt 358 = some ti358 := by kernel_rfl
theorem tt359 : tx.tt 359 = some ti359 := by kernel_rfl
theorem tt360 : tx.tt 360 = some ti360 := by kernel_rfl
theorem tt361 : tx.tt 361 = some ti361 := by kernel_rfl
theorem tt362 : tx.tt 362 = some ti362 := by kernel_rfl
theorem tt363 : tx.tt 363 = some ti363 := by kernel_rfl
theorem tt364 : tx.tt 364 = some ti364 := by kernel_rfl
theorem tt365 : tx.tt 365 = some ti365 := by kernel_rfl
theorem tt366 : tx.tt 366 = some ti366 := by kernel_rfl
theorem tt367 : tx.tt 367 = some ti367 := by kernel_rfl
theorem tt368 : tx.tt 368 = some ti368 := by kernel_rfl
theorem tt369 : tx.tt 369 = some ti369 := by kernel_rfl
theorem tt370 : tx.tt 370 = some ti370 := by kernel_rfl
theorem tt371 : tx.tt 371 = some ti371 := by kernel_rfl
theorem tt372 : tx.tt 372 = some ti372 := by kernel_rfl
theorem tt373 : tx.tt 373 = some ti373 := by kernel_rfl
theorem tt374 : tx.tt 374 = some ti374 := by kernel_rfl
theorem tt375 : tx.tt 375 = some ti375 := by kernel_rfl
theorem tt376 : tx.tt 376 = some ti376 := by kernel_rfl
theorem tt377 : tx.tt 377 = some ti377 := by kernel_rfl
theorem tt378 : tx.tt 378 = some ti378 := by kernel_rfl
theorem tt379 : tx.tt 379 = some ti379 := by kernel_rfl
theorem tt380 : tx.tt 380 = some ti380 := by kernel_rfl
theorem tt382 : tx.tt 382 = some ti382 := by kernel_rfl
theorem tt383 : tx.tt 383 = some ti383 := by kernel_rfl
theorem tt384 : tx.tt 384 = some ti384 := by kernel_rfl
theorem tt385 : tx.tt 385 = some ti385 := by kernel_rfl
theorem tt386 : tx.tt 386 = some ti386 := by kernel_rfl
theorem tt387 : tx.tt 387 = some ti387 := by kernel_rfl
theorem tt388 : tx.tt 388 = some ti388 := by kernel_rfl
theorem tt389 : tx.tt 389 = some ti389 := by kernel_rfl
theorem tt390 : tx.tt 390 = some ti390 := by kernel_rfl
theorem tt391 : tx.tt 391 = some ti391 := by kernel_rfl
theorem tt393 : tx.tt 393 = some ti393 := by kernel_rfl
theorem tt394 : tx.tt 394 = some ti394 := by kernel_rfl
theorem tt395 : tx.tt 395 = some ti395 := by kernel_rfl
theorem tt396 : tx.tt 396 = some ti396 := by kernel_rfl
theorem tt397 : tx.tt 397 = some ti397 := by kernel_rfl
theorem tt398 : tx.tt 398 = some ti398 := by kernel_rfl
theorem tt399 : tx.tt 399 = some ti399 := by kernel_rfl
theorem tt400 : tx.tt 400 = some ti400 := by kernel_rfl
theorem tt401 : tx.tt 401 = some ti401 := by kernel_rfl
theorem tt402 : tx.tt 402 = some ti402 := by kernel_rfl
theorem tt403 : tx.tt 403 = some ti403 := by kernel_rfl
theorem tt404 : tx.tt 404 = some ti404 := by kernel_rfl
theorem tt405 : tx.tt 405 = some ti405 := by kernel_rfl
theorem tt406 : tx.tt 406 = some ti406 := by kernel_rfl
theorem tt407 : tx.tt 407 = some ti407 := by kernel_rfl
theorem tt408 : tx.tt 408 = some ti408 := by kernel_rfl
theorem tt409 : tx.tt 409 = some ti409 := by kernel_rfl
theorem tt410 : tx.tt 410 = some ti410 := by kernel_rfl
theorem tt411 : tx.tt 411 = some ti411 := by kernel_rfl
theorem tt412 : tx.tt 412 = some ti412 := by kernel_rfl
theorem tt413 : tx.tt 413 = some ti413 := by kernel_rfl
theorem tt414 : tx.tt 414 = some ti414 := by kernel_rfl
theorem tt415 : tx.tt 415 = some ti415 := by kernel_rfl
theorem tt416 : tx.tt 416 = some ti416 := by kernel_rfl
theorem tt417 : tx.tt 417 = some ti417 := by kernel_rfl
theorem tt418 : tx.tt 418 = some ti418 := by kernel_rfl
theorem tt419 : tx.tt 419 = some ti419 := by kernel_rfl
theorem tt420 : tx.tt 420 = some ti420 := by kernel_rfl
theorem tt421 : tx.tt 421 = some ti421 := by kernel_rfl
theorem tt422 : tx.tt 422 = some ti422 := by kernel_rfl
theorem tt423 : tx.tt 423 = some ti423 := by kernel_rfl
theorem tt424 : tx.tt 424 = some ti424 := by kernel_rfl
theorem tt425 : tx.tt 425 = some ti425 := by kernel_rfl
theorem tt426 : tx.tt 426 = some ti426 := by kernel_rfl
theorem tt427 : tx.tt 427 = some ti427 := by kernel_rfl
theorem tt428 : tx.tt 428 = some ti428 := by kernel_rfl
theorem tt429 : tx.tt 429 = some ti429 := by kernel_rfl
theorem tt430 : tx.tt 430 = some ti430 := by kernel_rfl
theorem tt431 : tx.tt 431 = some ti431 := by kernel_rfl
theorem tt432 : tx.tt 432 = some ti432 := by kernel_rfl
theorem tt433 : tx.tt 433 = some ti433 := by kernel_rfl
theorem tt434 : tx.tt 434 = some ti434 := by kernel_rfl
theorem tt435 : tx.tt 435 = some ti435 := by kernel_rfl
theorem tt436 : tx.tt 436 = some ti436 := by kernel_rfl
theorem tt437 : tx.tt 437 = some ti437 := by kernel_rfl
theorem tt438 : tx.tt 438 = some ti438 := by kernel_rfl
theorem tt439 : tx.tt 439 = some ti439 := by kernel_rfl
theorem tt440 : tx.tt 440 = some ti440 := by kernel_rfl
theorem tt441 : tx.tt 441 = some ti441 := by kernel_rfl
theorem tt442 : tx.tt 442 = some ti442 := by kernel_rfl
theorem tt443 : tx.tt 443 = some ti443 := by kernel_rfl
theorem tt444 : tx.tt 444 = some ti444 := by kernel_rfl
theorem tt445 : tx.tt 445 = some ti445 := by kernel_rfl
theorem tt446 : tx.tt 446 = some ti446 := by kernel_rfl
theorem tt447 : tx.tt 447 = some ti447 := by kernel_rfl
theorem tt448 : tx.tt 448 = some ti448 := by kernel_rfl
theorem tt449 : tx.tt 449 = some ti449 := by kernel_rfl
theorem tt450 : tx.tt 450 = some ti450 := by kernel_rfl
theorem tt451 : tx.tt 451 = some ti451 := by kernel_rfl
theorem tt452 : tx.tt 452 = some ti452 := by kernel_rfl
theorem tt453 : tx.tt 453 = some ti453 := by kernel_rfl
theorem tt454 : tx.tt 454 = some ti454 := by kernel_rfl
theorem tt455 : tx.tt 455 = some ti455 := by kernel_rfl
theorem tt456 : tx.tt 456 = some ti456 := by kernel_rfl
theorem tt457 : tx.tt 457 = some ti457 := by kernel_rfl
theorem tt458 : tx.tt 458 = some ti458 := by kernel_rfl
theorem tt459 : tx.tt 459 = some ti459 := by kernel_rfl
theorem tt460 : tx.tt 460 = some ti460 := by kernel_rfl
theorem tt461 : tx.tt 461 = some ti461 := by kernel_rfl
theorem tt462 : tx.tt 462 = some ti462 := by kernel_rfl
theorem tt463 : tx.tt 463 = some ti463 := by kernel_rfl
theorem tt464 : tx.tt 464 = some ti464 := by kernel_rfl
theorem tt465 : tx.tt 465 = some ti465 := by kernel_rfl
theorem tt466 : tx.tt 466 = some ti466 := by kernel_rfl
theorem tt467 : tx.tt 467 = some ti467 := by kernel_rfl
theorem tt468 : tx.tt 468 = some ti468 := by kernel_rfl
theorem tt469 : tx.tt 469 = some ti469 := by kernel_rfl
theorem tt470 : tx.tt 470 = some ti470 := by kernel_rfl
theorem tt471 : tx.tt 471 = some ti471 := by kernel_rfl
theorem tt472 : tx.tt 472 = some ti472 := by kernel_rfl
theorem tt473 : tx.tt 473 = some ti473 := by kernel_rfl
theorem tt474 : tx.tt 474 = some ti474 := by kernel_rfl
theorem tt475 : tx.tt 475 = some ti475 := by kernel_rfl
theorem tt477 : tx.tt 477 = some ti477 := by kernel_rfl
theorem tt478 : tx.tt 478 = some ti478 := by kernel_rfl
theorem tt479 : tx.tt 479 = some ti479 := by kernel_rfl
theorem tt480 : tx.tt 480 = some ti480 := by kernel_rfl
theorem tt481 : tx.tt 481 = some ti481 := by kernel_rfl
theorem tt482 : tx.tt 482 = some ti482 := by kernel_rfl
theorem tt483 : tx.tt 483 = some ti483 := by kernel_rfl
theorem tt484 : tx.tt 484 = some ti484 := by kernel_rfl
theorem tt485 : tx.tt 485 = some ti485 := by kernel_rfl
theorem tt486 : tx.tt 486 = some ti486 := by kernel_rfl
theorem tt488 : tx.tt 488 = some ti488 := by kernel_rfl
theorem tt489 : tx.tt 489 = some ti489 := by kernel_rfl
theorem tt490 : tx.tt 490 = some ti490 := by kernel_rfl
theorem tt491 : tx.tt 491 = some ti491 := by kernel_rfl
theorem tt492 : tx.tt 492 = some ti492 := by kernel_rfl
theorem tt493 : tx.tt 493 = some ti493 := by kernel_rfl
theorem tt494 : tx.tt 494 = some ti494 := by kernel_rfl
theorem tt495 : tx.tt 495 = some ti495 := by kernel_rfl
theorem tt496 : tx.tt 496 = some ti496 := by kernel_rfl
theorem tt497 : tx.tt 497 = some ti497 := by kernel_rfl
theorem tt498 : tx.tt 498 = some ti498 := by kernel_rfl
theorem tt499 : tx.tt 499 = some ti499 := by kernel_rfl
theorem tt500 : tx.tt 500 = some ti500 := by kernel_rfl
theorem tt501 : tx.tt 501 = some ti501 := by kernel_rfl
theorem tt502 : tx.tt 502 = some ti502 := by kernel_rfl
theorem tt503 : tx.tt 503 = some ti503 := by kernel_rfl
theorem tt504 : tx.tt 504 = some ti504 := by kernel_rfl
theorem tt505 : tx.tt 505 = some ti505 := by kernel_rfl
theorem tt506 : tx.tt 506 = some ti506 := by kernel_rfl
theorem tt507 : tx.tt 507 = some ti507 := by kernel_rfl
theorem tt508 : tx.tt 508 = some ti508 := by kernel_rfl
theorem tt514 : tx.tt 514 = some ti514 := by kernel_rfl
theorem tt518 : tx.tt 518 = some ti518 := by kernel_rfl
theorem eq45 : tx.eqs 45 = true := by kernel_rfl
theorem eq46 : tx.eqs 46 = true := by kernel_rfl
theorem eq50 : tx.eqs 50 = true := by kernel_rfl
theorem eq51 : tx.eqs 51 = true := by kernel_rfl
theorem eq52 : tx.eqs 52 = true := by kernel_rfl
theorem eq53 : tx.eqs 53 = true := by kernel_rfl
theorem eq62 : tx.eqs 62 = true := by kernel_rfl
theorem eq63 : tx.eqs 63 = true := by kernel_rfl
theorem eq78 : tx.eqs 78 = true := by kernel_rfl
theorem eq79 : tx.eqs 79 = true := by kernel_rfl
theorem eq80 : tx.eqs 80 = true := by kernel_rfl
theorem eq99 : tx.eqs 99 = true := by kernel_rfl
theorem eq100 : tx.eqs 100 = true := by kernel_rfl
theorem eq101 : tx.eqs 101 = true := by kernel_rfl
theorem eq102 : tx.eqs 102 = true := by kernel_rfl
theorem eq117 : tx.eqs 117 = true := by kernel_rfl
theorem eq118 : tx.eqs 118 = true := by kernel_rfl
theorem eq131 : tx.eqs 131 = true := by kernel_rfl
theorem eq132 : tx.eqs 132 = true := by kernel_rfl
theorem eq137 : tx.eqs 137 = true := by kernel_rfl
theorem eq138 : tx.eqs 138 = true := by kernel_rfl
theorem eq161 : tx.eqs 161 = true := by kernel_rfl
theorem eq162 : tx.eqs 162 = true := by kernel_rfl
theorem eq165 : tx.eqs 165 = true := by kernel_rfl
theorem eq166 : tx.eqs 166 = true := by kernel_rfl
theorem eq184 : tx.eqs 184 = true := by kernel_rfl
theorem eq185 : tx.eqs 185 = true := by kernel_rfl
theorem eq231 : tx.eqs 231 = true := by kernel_rfl
theorem eq232 : tx.eqs 232 = true := by kernel_rfl
theorem eq248 : tx.eqs 248 = true := by kernel_rfl
theorem eq249 : tx.eqs 249 = true := by kernel_rfl
theorem eq252 : tx.eqs 252 = true := by kernel_rfl
theorem eq253 : tx.eqs 253 = true := by kernel_rfl
theorem eq254 : tx.eqs 254 = true := by kernel_rfl
theorem eq258 : tx.eqs 258 = true := by kernel_rfl
theorem eq259 : tx.eqs 259 = true := by kernel_rfl
theorem eq269 : tx.eqs 269 = true := by kernel_rfl
theorem eq270 : tx.eqs 270 = true := by kernel_rfl
theorem eq280 : tx.eqs 280 = true := by kernel_rfl
theorem eq281 : tx.eqs 281 = true := by kernel_rfl
theorem eq296 : tx.eqs 296 = true := by kernel_rfl
theorem eq297 : tx.eqs 297 = true := by kernel_rfl
theorem eq333 : tx.eqs 333 = true := by kernel_rfl
theorem eq334 : tx.eqs 334 = true := by kernel_rfl
theorem eq369 : tx.eqs 369 = true := by kernel_rfl
theorem eq370 : tx.eqs 370 = true := by kernel_rfl
theorem eq380 : tx.eqs 380 = true := by kernel_rfl
theorem eq383 : tx.eqs 383 = true := by kernel_rfl
theorem eq384 : tx.eqs 384 = true := by kernel_rfl
theorem eq403 : tx.eqs 403 = true := by kernel_rfl
theorem eq404 : tx.eqs 404 = true := by kernel_rfl
theorem eq408 : tx.eqs 408 = true := by kernel_rfl
theorem eq427 : tx.eqs 427 = true := by kernel_rfl
theorem eq428 : tx.eqs 428 = true := by kernel_rfl
theorem eq429 : tx.eqs 429 = true := by kernel_rfl
theorem eq434 : tx.eqs 434 = true := by kernel_rfl
theorem eq435 : tx.eqs 435 = true := by kernel_rfl
theorem eq442 : tx.eqs 442 = true := by kernel_rfl
theorem eq446 : tx.eqs 446 = true := by kernel_rfl
theorem eq447 : tx.eqs 447 = true := by kernel_rfl
theorem eq457 : tx.eqs 457 = true := by kernel_rfl
theorem eq458 : tx.eqs 458 = true := by kernel_rfl
theorem eq459 : tx.eqs 459 = true := by kernel_rfl
theorem eq460 : tx.eqs 460 = true := by kernel_rfl
theorem eq507 : tx.eqs 507 = true := by kernel_rfl
end Go.Proofs.YtfgdbeijjbijnaaGreatDoor

/- The types for simp, under the kit's attribute. -/
namespace Go.Proofs.YtfgdbeijjbijnaaGreatDoor
open Go Go.Abs
attribute [go_sem] tt1 tt2 tt3 tt4 tt5 tt12 tt21 tt22 tt23 tt24 tt25 tt26 tt27 tt28 tt29 tt30 tt31 tt32 tt33 tt34 tt35 tt37 tt39 tt40 tt41 tt42 tt43 tt44 tt45 tt46 tt47 tt49 tt50 tt51 tt52 tt53 tt55 tt57 tt58 tt59 tt60 tt61 tt62 tt63 tt64 tt65 tt66 tt67 tt68 tt69 tt70 tt71 tt72 tt74 tt75 tt76 tt77 tt78 tt79 tt80 tt81 tt82 tt84 tt86 tt88 tt89 tt90 tt91 tt93 tt94 tt95 tt96 tt97 tt98 tt99 tt100 tt101 tt102 tt104 tt105 tt106 tt107 tt108 tt109 tt110 tt111 tt112 tt114 tt115 tt116 tt117 tt118 tt119 tt120 tt121 tt122 tt123 tt125 tt126 tt127 tt128 tt129 tt130 tt131 tt132 tt134 tt136 tt137 tt138 tt140 tt141 tt142 tt143 tt144 tt145 tt147 tt148 tt149 tt151 tt152 tt153 tt155 tt156 tt157 tt158 tt159 tt160 tt161 tt162 tt164 tt165 tt166 tt167 tt168 tt169 tt170 tt171 tt172 tt173 tt175 tt176 tt177 tt178 tt179 tt180 tt181 tt182 tt183 tt184 tt185 tt186 tt187 tt189 tt191 tt192 tt194 tt196 tt197 tt198 tt199 tt200 tt201 tt202 tt204 tt205 tt207 tt209 tt211 tt213 tt214 tt215 tt216 tt217 tt218 tt219 tt220 tt221 tt222 tt223 tt224 tt225 tt226 tt227 tt228 tt229 tt230 tt231 tt232 tt233 tt234 tt236 tt237 tt238 tt239 tt240 tt241 tt242 tt244 tt245 tt246 tt247 tt248 tt249 tt250 tt251 tt252 tt253 tt254 tt255 tt256 tt257 tt258 tt259 tt260 tt261 tt262 tt263 tt264 tt265 tt266 tt268 tt269 tt270 tt272 tt273 tt274 tt275 tt276 tt277 tt278 tt279 tt280 tt281 tt282 tt284 tt285 tt286 tt287 tt288 tt289 tt290 tt291 tt292 tt293 tt295 tt296 tt297 tt298 tt299 tt300 tt301 tt302 tt303 tt304 tt306 tt307 tt308 tt309 tt310 tt311 tt312 tt313 tt315 tt316 tt317 tt318 tt319 tt320 tt321 tt323 tt324 tt325 tt327 tt328 tt329 tt330 tt331 tt332 tt333 tt334 tt335 tt336 tt337 tt338 tt339 tt340 tt341 tt342 tt343 tt344 tt345 tt346 tt347 tt348 tt349 tt350 tt351 tt352 tt353 tt354 tt355 tt356 tt357 tt358 tt359 tt360 tt361 tt362 tt363 tt364 tt365 tt366 tt367 tt368 tt369 tt370 tt371 tt372 tt373 tt374 tt375 tt376 tt377 tt378 tt379 tt380 tt382 tt383 tt384 tt385 tt386 tt387 tt388 tt389 tt390 tt391 tt393 tt394 tt395 tt396 tt397 tt398 tt399 tt400 tt401 tt402 tt403 tt404 tt405 tt406 tt407 tt408 tt409 tt410 tt411 tt412 tt413 tt414 tt415 tt416 tt417 tt418 tt419 tt420 tt421 tt422 tt423 tt424 tt425 tt426 tt427 tt428 tt429 tt430 tt431 tt432 tt433 tt434 tt435 tt436 tt437 tt438 tt439 tt440 tt441 tt442 tt443 tt444 tt445 tt446 tt447 tt448 tt449 tt450 tt451 tt452 tt453 tt454 tt455 tt456 tt457 tt458 tt459 tt460 tt461 tt462 tt463 tt464 tt465 tt466 tt467 tt468 tt469 tt470 tt471 tt472 tt473 tt474 tt475 tt477 tt478 tt479 tt480 tt481 tt482 tt483 tt484 tt485 tt486 tt488 tt489 tt490 tt491 tt492 tt493 tt494 tt495 tt496 tt497 tt498 tt499 tt500 tt501 tt502 tt503 tt504 tt505 tt506 tt507 tt508 tt514 tt518 eq45 eq46 eq50 eq51 eq52 eq53 eq62 eq63 eq78 eq79 eq80 eq99 eq100 eq101 eq102 eq117 eq118 eq131 eq132 eq137 eq138 eq161 eq162 eq165 eq166 eq184 eq185 eq231 eq232 eq248 eq249 eq252 eq253 eq254 eq258 eq259 eq269 eq270 eq280 eq281 eq296 eq297 eq333 eq334 eq369 eq370 eq380 eq383 eq384 eq403 eq404 eq408 eq427 eq428 eq429 eq434 eq435 eq442 eq446 eq447 eq457 eq458 eq459 eq460 eq507 ti1 ti2 ti3 ti4 ti5 ti12 ti21 ti22 ti23 ti24 ti25 ti26 ti27 ti28 ti29 ti30 ti31 ti32 ti33 ti34 ti35 ti37 ti39 ti40 ti41 ti42 ti43 ti44 ti45 ti46 ti47 ti49 ti50 ti51 ti52 ti53 ti55 ti57 ti58 ti59 ti60 ti61 ti62 ti63 ti64 ti65 ti66 ti67 ti68 ti69 ti70 ti71 ti72 ti74 ti75 ti76 ti77 ti78 ti79 ti80 ti81 ti82 ti84 ti86 ti88 ti89 ti90 ti91 ti93 ti94 ti95 ti96 ti97 ti98 ti99 ti100 ti101 ti102 ti104 ti105 ti106 ti107 ti108 ti109 ti110 ti111 ti112 ti114 ti115 ti116 ti117 ti118 ti119 ti120 ti121 ti122 ti123 ti125 ti126 ti127 ti128 ti129 ti130 ti131 ti132 ti134 ti136 ti137 ti138 ti140 ti141 ti142 ti143 ti144 ti145 ti147 ti148 ti149 ti151 ti152 ti153 ti155 ti156 ti157 ti158 ti159 ti160 ti161 ti162 ti164 ti165 ti166 ti167 ti168 ti169 ti170 ti171 ti172 ti173 ti175 ti176 ti177 ti178 ti179 ti180 ti181 ti182 ti183 ti184 ti185 ti186 ti187 ti189 ti191 ti192 ti194 ti196 ti197 ti198 ti199 ti200 ti201 ti202 ti204 ti205 ti207 ti209 ti211 ti213 ti214 ti215 ti216 ti217 ti218 ti219 ti220 ti221 ti222 ti223 ti224 ti225 ti226 ti227 ti228 ti229 ti230 ti231 ti232 ti233 ti234 ti236 ti237 ti238 ti239 ti240 ti241 ti242 ti244 ti245 ti246 ti247 ti248 ti249 ti250 ti251 ti252 ti253 ti254 ti255 ti256 ti257 ti258 ti259 ti260 ti261 ti262 ti263 ti264 ti265 ti266 ti268 ti269 ti270 ti272 ti273 ti274 ti275 ti276 ti277 ti278 ti279 ti280 ti281 ti282 ti284 ti285 ti286 ti287 ti288 ti289 ti290 ti291 ti292 ti293 ti295 ti296 ti297 ti298 ti299 ti300 ti301 ti302 ti303 ti304 ti306 ti307 ti308 ti309 ti310 ti311 ti312 ti313 ti315 ti316 ti317 ti318 ti319 ti320 ti321 ti323 ti324 ti325 ti327 ti328 ti329 ti330 ti331 ti332 ti333 ti334 ti335 ti336 ti337 ti338 ti339 ti340 ti341 ti342 ti343 ti344 ti345 ti346 ti347 ti348 ti349 ti350 ti351 ti352 ti353 ti354 ti355 ti356 ti357 ti358 ti359 ti360 ti361 ti362 ti363 ti364 ti365 ti366 ti367 ti368 ti369 ti370 ti371 ti372 ti373 ti374 ti375 ti376 ti377 ti378 ti379 ti380 ti382 ti383 ti384 ti385 ti386 ti387 ti388 ti389 ti390 ti391 ti393 ti394 ti395 ti396 ti397 ti398 ti399 ti400 ti401 ti402 ti403 ti404 ti405 ti406 ti407 ti408 ti409 ti410 ti411 ti412 ti413 ti414 ti415 ti416 ti417 ti418 ti419 ti420 ti421 ti422 ti423 ti424 ti425 ti426 ti427 ti428 ti429 ti430 ti431 ti432 ti433 ti434 ti435 ti436 ti437 ti438 ti439 ti440 ti441 ti442 ti443 ti444 ti445 ti446 ti447 ti448 ti449 ti450 ti451 ti452 ti453 ti454 ti455 ti456 ti457 ti458 ti459 ti460 ti461 ti462 ti463 ti464 ti465 ti466 ti467 ti468 ti469 ti470 ti471 ti472 ti473 ti474 ti475 ti477 ti478 ti479 ti480 ti481 ti482 ti483 ti484 ti485 ti486 ti488 ti489 ti490 ti491 ti492 ti493 ti494 ti495 ti496 ti497 ti498 ti499 ti500 ti501 ti502 ti503 ti504 ti505 ti506 ti507 ti508 ti514 ti518
attribute [go_sem] fillC zc List.replicate_succ List.replicate_zero List.flatten_cons List.flatten_nil toDs toD chunk placeS srcRows List.all_cons List.all_nil List.all_map Function.comp_def List.take_nil List.drop_nil List.toList_toArray C.eqbL eqCs eqC List.drop_one List.tail_cons lim
end Go.Proofs.YtfgdbeijjbijnaaGreatDoor

