/- The types of the program, as the logic wants them: a table, and that it tells the program's types. -/
import Derived.Test.YtjkpfojkkfopmaaMG
import Derived.KernelRfl
import Derived.Test.YtjkpfojkkfopmaaAbsT
import Derived.Test.YtjkpfojkkfopmaaProg
set_option linter.unusedSimpArgs false
set_option linter.unusedVariables false
namespace Go.Proofs.Ytjkpfojkkfopmaa
open Go Go.Abs Go.Proofs
def ti1 : TI := ⟨.func #[] #[] false, 1, 8, .c (.any)⟩
def ti2 : TI := ⟨.int .i64, 1, 8, .c (.d (.int .i64 0))⟩
def ti3 : TI := ⟨.int .i64, 1, 8, .c (.d (.int .i64 0))⟩
def ti4 : TI := ⟨.bool, 1, 1, .c (.d (.bool false))⟩
def ti5 : TI := ⟨.int .u8, 1, 1, .c (.d (.int .u8 0))⟩
def ti12 : TI := ⟨.int .u64, 1, 8, .c (.d (.int .u64 0))⟩
def ti21 : TI := ⟨.int .i32, 1, 4, .c (.d (.int .i32 0))⟩
def ti22 : TI := ⟨.slice 23, 1, 24, .c (.full [])⟩
def ti23 : TI := ⟨.slice 65, 1, 24, .c (.full [])⟩
def ti24 : TI := ⟨.struct #[fld 22 0, fld 23 1], 2, 48, .agg ([.full [], .full []])⟩
def ti25 : TI := ⟨.struct #[fld 22 0, fld 23 1], 2, 48, .agg ([.full [], .full []])⟩
def ti26 : TI := ⟨.slice 27, 1, 24, .c (.full [])⟩
def ti27 : TI := ⟨.slice 2, 1, 24, .c (.full [])⟩
def ti28 : TI := ⟨.struct #[fld 26 0, fld 27 1], 2, 48, .agg ([.full [], .full []])⟩
def ti29 : TI := ⟨.struct #[fld 26 0, fld 27 1], 2, 48, .agg ([.full [], .full []])⟩
def ti30 : TI := ⟨.func #[] #[] false, 1, 8, .c (.any)⟩
def ti31 : TI := ⟨.func #[] #[] false, 1, 8, .c (.any)⟩
def ti32 : TI := ⟨.func #[] #[] false, 1, 8, .c (.any)⟩
def ti33 : TI := ⟨.int .i64, 1, 8, .c (.d (.int .i64 0))⟩
def ti35 : TI := ⟨.func #[] #[] false, 1, 8, .c (.any)⟩
def ti37 : TI := ⟨.func #[] #[] false, 1, 8, .c (.any)⟩
def ti38 : TI := ⟨.func #[] #[] false, 1, 8, .c (.any)⟩
def ti39 : TI := ⟨.func #[] #[] false, 1, 8, .c (.any)⟩
def ti40 : TI := ⟨.func #[] #[] false, 1, 8, .c (.any)⟩
def ti41 : TI := ⟨.func #[] #[] false, 1, 8, .c (.any)⟩
def ti42 : TI := ⟨.func #[] #[] false, 1, 8, .c (.any)⟩
def ti44 : TI := ⟨.func #[] #[] false, 1, 8, .c (.any)⟩
def ti45 : TI := ⟨.func #[] #[] false, 1, 8, .c (.any)⟩
def ti46 : TI := ⟨.func #[] #[] false, 1, 8, .c (.any)⟩
def ti47 : TI := ⟨.func #[] #[] false, 1, 8, .c (.any)⟩
def ti48 : TI := ⟨.func #[] #[] false, 1, 8, .c (.any)⟩
def ti49 : TI := ⟨.struct #[fld 26 0, fld 2 1], 2, 32, .agg ([.full [], .d (.int .i64 0)])⟩
def ti50 : TI := ⟨.struct #[fld 26 0, fld 2 1], 2, 32, .agg ([.full [], .d (.int .i64 0)])⟩
def ti51 : TI := ⟨.func #[] #[] false, 1, 8, .c (.any)⟩
def ti52 : TI := ⟨.func #[] #[] false, 1, 8, .c (.any)⟩
def ti53 : TI := ⟨.slice 3, 1, 24, .c (.full [])⟩
def ti55 : TI := ⟨.func #[] #[] false, 1, 8, .c (.any)⟩
def ti56 : TI := ⟨.func #[] #[] false, 1, 8, .c (.any)⟩
def ti57 : TI := ⟨.func #[] #[] false, 1, 8, .c (.any)⟩
def ti58 : TI := ⟨.func #[] #[] false, 1, 8, .c (.any)⟩
def ti60 : TI := ⟨.func #[] #[] false, 1, 8, .c (.any)⟩
def ti61 : TI := ⟨.func #[] #[] false, 1, 8, .c (.any)⟩
def ti62 : TI := ⟨.slice 73, 1, 24, .c (.full [])⟩
def ti63 : TI := ⟨.func #[] #[] false, 1, 8, .c (.any)⟩
def ti64 : TI := ⟨.struct #[fld 2 0, fld 2 1], 2, 16, .agg ([.d (.int .i64 0), .d (.int .i64 0)])⟩
def ti65 : TI := ⟨.struct #[fld 2 0, fld 2 1], 2, 16, .agg ([.d (.int .i64 0), .d (.int .i64 0)])⟩
def ti66 : TI := ⟨.func #[] #[] false, 1, 8, .c (.any)⟩
def ti67 : TI := ⟨.func #[] #[] false, 1, 8, .c (.any)⟩
def ti68 : TI := ⟨.func #[] #[] false, 1, 8, .c (.any)⟩
def ti69 : TI := ⟨.func #[] #[] false, 1, 8, .c (.any)⟩
def ti71 : TI := ⟨.func #[] #[] false, 1, 8, .c (.any)⟩
def ti72 : TI := ⟨.func #[] #[] false, 1, 8, .c (.any)⟩
def ti73 : TI := ⟨.int .u16, 1, 2, .c (.d (.int .u16 0))⟩
def ti74 : TI := ⟨.func #[] #[] false, 1, 8, .c (.any)⟩
def ti75 : TI := ⟨.func #[] #[] false, 1, 8, .c (.any)⟩
def ti76 : TI := ⟨.func #[] #[] false, 1, 8, .c (.any)⟩
def ti77 : TI := ⟨.func #[] #[] false, 1, 8, .c (.any)⟩
def ti78 : TI := ⟨.func #[] #[] false, 1, 8, .c (.any)⟩
def ti79 : TI := ⟨.func #[] #[] false, 1, 8, .c (.any)⟩
def ti80 : TI := ⟨.struct #[fld 25 0], 2, 48, .agg ([.full [], .full []])⟩
def ti81 : TI := ⟨.struct #[fld 25 0], 2, 48, .agg ([.full [], .full []])⟩
def ti83 : TI := ⟨.func #[] #[] false, 1, 8, .c (.any)⟩
def ti84 : TI := ⟨.func #[] #[] false, 1, 8, .c (.any)⟩
def ti85 : TI := ⟨.array 3 2, 3, 24, .agg ([.d (.int .i64 0), .d (.int .i64 0), .d (.int .i64 0)])⟩
def ti86 : TI := ⟨.array 3 2, 3, 24, .agg ([.d (.int .i64 0), .d (.int .i64 0), .d (.int .i64 0)])⟩
def ti87 : TI := ⟨.func #[] #[] false, 1, 8, .c (.any)⟩
def ti88 : TI := ⟨.func #[] #[] false, 1, 8, .c (.any)⟩
def ti89 : TI := ⟨.func #[] #[] false, 1, 8, .c (.any)⟩
def ti90 : TI := ⟨.func #[] #[] false, 1, 8, .c (.any)⟩
def ti91 : TI := ⟨.func #[] #[] false, 1, 8, .c (.any)⟩
def ti92 : TI := ⟨.func #[] #[] false, 1, 8, .c (.any)⟩
def ti93 : TI := ⟨.func #[] #[] false, 1, 8, .c (.any)⟩
def ti94 : TI := ⟨.func #[] #[] false, 1, 8, .c (.any)⟩
def ti95 : TI := ⟨.func #[] #[] false, 1, 8, .c (.any)⟩
def ti96 : TI := ⟨.func #[] #[] false, 1, 8, .c (.any)⟩
def ti97 : TI := ⟨.func #[] #[] false, 1, 8, .c (.any)⟩
def ti98 : TI := ⟨.struct #[fld 3 0, fld 3 1], 2, 16, .agg ([.d (.int .i64 0), .d (.int .i64 0)])⟩
def ti99 : TI := ⟨.struct #[fld 3 0, fld 3 1], 2, 16, .agg ([.d (.int .i64 0), .d (.int .i64 0)])⟩
def ti101 : TI := ⟨.func #[] #[] false, 1, 8, .c (.any)⟩
def ti102 : TI := ⟨.func #[] #[] false, 1, 8, .c (.any)⟩
def ti103 : TI := ⟨.func #[] #[] false, 1, 8, .c (.any)⟩
def ti104 : TI := ⟨.func #[] #[] false, 1, 8, .c (.any)⟩
def ti105 : TI := ⟨.func #[] #[] false, 1, 8, .c (.any)⟩
def ti106 : TI := ⟨.func #[] #[] false, 1, 8, .c (.any)⟩
def ti107 : TI := ⟨.func #[] #[] false, 1, 8, .c (.any)⟩
def ti108 : TI := ⟨.map 110 53, 1, 8, .c (.any)⟩
def ti109 : TI := ⟨.struct #[fld 2 0, fld 2 1], 2, 16, .agg ([.d (.int .i64 0), .d (.int .i64 0)])⟩
def ti110 : TI := ⟨.struct #[fld 2 0, fld 2 1], 2, 16, .agg ([.d (.int .i64 0), .d (.int .i64 0)])⟩
def ti111 : TI := ⟨.func #[] #[] false, 1, 8, .c (.any)⟩
def ti112 : TI := ⟨.func #[] #[] false, 1, 8, .c (.any)⟩
def ti113 : TI := ⟨.func #[] #[] false, 1, 8, .c (.any)⟩
def ti114 : TI := ⟨.func #[] #[] false, 1, 8, .c (.any)⟩
def ti115 : TI := ⟨.func #[] #[] false, 1, 8, .c (.any)⟩
def ti116 : TI := ⟨.func #[] #[] false, 1, 8, .c (.any)⟩
def ti117 : TI := ⟨.func #[] #[] false, 1, 8, .c (.any)⟩
def ti118 : TI := ⟨.func #[] #[] false, 1, 8, .c (.any)⟩
def ti119 : TI := ⟨.func #[] #[] false, 1, 8, .c (.any)⟩
def ti120 : TI := ⟨.func #[] #[] false, 1, 8, .c (.any)⟩
def ti121 : TI := ⟨.func #[] #[] false, 1, 8, .c (.any)⟩
def ti122 : TI := ⟨.func #[] #[] false, 1, 8, .c (.any)⟩
def ti123 : TI := ⟨.func #[] #[] false, 1, 8, .c (.any)⟩
def ti124 : TI := ⟨.func #[] #[] false, 1, 8, .c (.any)⟩
def ti125 : TI := ⟨.func #[] #[] false, 1, 8, .c (.any)⟩
def ti126 : TI := ⟨.func #[] #[] false, 1, 8, .c (.any)⟩
def ti127 : TI := ⟨.func #[] #[] false, 1, 8, .c (.any)⟩
def ti133 : TI := ⟨.func #[] #[] false, 1, 8, .c (.any)⟩
def ti134 : TI := ⟨.int .u32, 1, 4, .c (.d (.int .u32 0))⟩
def ti138 : TI := ⟨.pointer 5, 1, 8, .c (.nilp)⟩
def ttA : List (List (Option TI)) := [[none, some ti1, some ti2, some ti3, some ti4, some ti5, none, none, none, none, none, none, some ti12],
  [none, none, none, none, none, some ti21, some ti22, some ti23, some ti24, some ti25, some ti26, some ti27, some ti28, some ti29, some ti30, some ti31],
  [some ti32, some ti33, none, some ti35, none, some ti37, some ti38, some ti39, some ti40, some ti41, some ti42, none, some ti44, some ti45, some ti46, some ti47],
  [some ti48, some ti49, some ti50, some ti51, some ti52, some ti53, none, some ti55, some ti56, some ti57, some ti58, none, some ti60, some ti61, some ti62, some ti63],
  [some ti64, some ti65, some ti66, some ti67, some ti68, some ti69, none, some ti71, some ti72, some ti73, some ti74, some ti75, some ti76, some ti77, some ti78, some ti79],
  [some ti80, some ti81, none, some ti83, some ti84, some ti85, some ti86, some ti87, some ti88, some ti89, some ti90, some ti91, some ti92, some ti93, some ti94, some ti95],
  [some ti96, some ti97, some ti98, some ti99, none, some ti101, some ti102, some ti103, some ti104, some ti105, some ti106, some ti107, some ti108, some ti109, some ti110, some ti111],
  [some ti112, some ti113, some ti114, some ti115, some ti116, some ti117, some ti118, some ti119, some ti120, some ti121, some ti122, some ti123, some ti124, some ti125, some ti126, some ti127],
  [none, none, none, none, none, some ti133, some ti134, none, none, none, some ti138]]
theorem ttOk : TTok Try.prog (lookC ttA) := ttok_fast (by kernel_rfl)
def eqM : Nat := 1948062175957665555986680551309312
noncomputable def tx : Tx := { P := Try.prog, tt := lookC ttA, eqs := eqM.testBit, ok := ttOk, eok := eok_fast (N := 111) (by decide) (by kernel_rfl) }
theorem tx_P : tx.P = Try.prog := rfl
theorem tx_vm : tx.vm = false := rfl
noncomputable def txv : Tx := { tx with vm := true }
theorem txv_vm : txv.vm = true := rfl
theorem txv_tt : txv.tt = tx.tt := rfl
theorem txv_eqs : txv.eqs = tx.eqs := rfl
theorem tt1 : tx.tt 1 = some ⟨.func #[] #[] false, 1, 8, .c (.any)⟩ := by kernel_rfl
theorem tt2 : tx.tt 2 = some ⟨.int .i64, 1, 8, .c (.d (.int .i64 0))⟩ := by kernel_rfl
theorem tt3 : tx.tt 3 = some ⟨.int .i64, 1, 8, .c (.d (.int .i64 0))⟩ := by kernel_rfl
theorem tt4 : tx.tt 4 = some ⟨.bool, 1, 1, .c (.d (.bool false))⟩ := by kernel_rfl
theorem tt5 : tx.tt 5 = some ⟨.int .u8, 1, 1, .c (.d (.int .u8 0))⟩ := by kernel_rfl
theorem tt12 : tx.tt 12 = some ⟨.int .u64, 1, 8, .c (.d (.int .u64 0))⟩ := by kernel_rfl
theorem tt21 : tx.tt 21 = some ⟨.int .i32, 1, 4, .c (.d (.int .i32 0))⟩ := by kernel_rfl
theorem tt22 : tx.tt 22 = some ⟨.slice 23, 1, 24, .c (.full [])⟩ := by kernel_rfl
theorem tt23 : tx.tt 23 = some ⟨.slice 65, 1, 24, .c (.full [])⟩ := by kernel_rfl
theorem tt24 : tx.tt 24 = some ⟨.struct #[fld 22 0, fld 23 1], 2, 48, .agg ([.full [], .full []])⟩ := by kernel_rfl
theorem tt25 : tx.tt 25 = some ⟨.struct #[fld 22 0, fld 23 1], 2, 48, .agg ([.full [], .full []])⟩ := by kernel_rfl
theorem tt26 : tx.tt 26 = some ⟨.slice 27, 1, 24, .c (.full [])⟩ := by kernel_rfl
theorem tt27 : tx.tt 27 = some ⟨.slice 2, 1, 24, .c (.full [])⟩ := by kernel_rfl
theorem tt28 : tx.tt 28 = some ⟨.struct #[fld 26 0, fld 27 1], 2, 48, .agg ([.full [], .full []])⟩ := by kernel_rfl
theorem tt29 : tx.tt 29 = some ⟨.struct #[fld 26 0, fld 27 1], 2, 48, .agg ([.full [], .full []])⟩ := by kernel_rfl
theorem tt30 : tx.tt 30 = some ⟨.func #[] #[] false, 1, 8, .c (.any)⟩ := by kernel_rfl
theorem tt31 : tx.tt 31 = some ⟨.func #[] #[] false, 1, 8, .c (.any)⟩ := by kernel_rfl
theorem tt32 : tx.tt 32 = some ⟨.func #[] #[] false, 1, 8, .c (.any)⟩ := by kernel_rfl
theorem tt33 : tx.tt 33 = some ⟨.int .i64, 1, 8, .c (.d (.int .i64 0))⟩ := by kernel_rfl
theorem tt35 : tx.tt 35 = some ⟨.func #[] #[] false, 1, 8, .c (.any)⟩ := by kernel_rfl
theorem tt37 : tx.tt 37 = some ⟨.func #[] #[] false, 1, 8, .c (.any)⟩ := by kernel_rfl
theorem tt38 : tx.tt 38 = some ⟨.func #[] #[] false, 1, 8, .c (.any)⟩ := by kernel_rfl
theorem tt39 : tx.tt 39 = some ⟨.func #[] #[] false, 1, 8, .c (.any)⟩ := by kernel_rfl
theorem tt40 : tx.tt 40 = some ⟨.func #[] #[] false, 1, 8, .c (.any)⟩ := by kernel_rfl
theorem tt41 : tx.tt 41 = some ⟨.func #[] #[] false, 1, 8, .c (.any)⟩ := by kernel_rfl
theorem tt42 : tx.tt 42 = some ⟨.func #[] #[] false, 1, 8, .c (.any)⟩ := by kernel_rfl
theorem tt44 : tx.tt 44 = some ⟨.func #[] #[] false, 1, 8, .c (.any)⟩ := by kernel_rfl
theorem tt45 : tx.tt 45 = some ⟨.func #[] #[] false, 1, 8, .c (.any)⟩ := by kernel_rfl
theorem tt46 : tx.tt 46 = some ⟨.func #[] #[] false, 1, 8, .c (.any)⟩ := by kernel_rfl
theorem tt47 : tx.tt 47 = some ⟨.func #[] #[] false, 1, 8, .c (.any)⟩ := by kernel_rfl
theorem tt48 : tx.tt 48 = some ⟨.func #[] #[] false, 1, 8, .c (.any)⟩ := by kernel_rfl
theorem tt49 : tx.tt 49 = some ⟨.struct #[fld 26 0, fld 2 1], 2, 32, .agg ([.full [], .d (.int .i64 0)])⟩ := by kernel_rfl
theorem tt50 : tx.tt 50 = some ⟨.struct #[fld 26 0, fld 2 1], 2, 32, .agg ([.full [], .d (.int .i64 0)])⟩ := by kernel_rfl
theorem tt51 : tx.tt 51 = some ⟨.func #[] #[] false, 1, 8, .c (.any)⟩ := by kernel_rfl
theorem tt52 : tx.tt 52 = some ⟨.func #[] #[] false, 1, 8, .c (.any)⟩ := by kernel_rfl
theorem tt53 : tx.tt 53 = some ⟨.slice 3, 1, 24, .c (.full [])⟩ := by kernel_rfl
theorem tt55 : tx.tt 55 = some ⟨.func #[] #[] false, 1, 8, .c (.any)⟩ := by kernel_rfl
theorem tt56 : tx.tt 56 = some ⟨.func #[] #[] false, 1, 8, .c (.any)⟩ := by kernel_rfl
theorem tt57 : tx.tt 57 = some ⟨.func #[] #[] false, 1, 8, .c (.any)⟩ := by kernel_rfl
theorem tt58 : tx.tt 58 = some ⟨.func #[] #[] false, 1, 8, .c (.any)⟩ := by kernel_rfl
theorem tt60 : tx.tt 60 = some ⟨.func #[] #[] false, 1, 8, .c (.any)⟩ := by kernel_rfl
theorem tt61 : tx.tt 61 = some ⟨.func #[] #[] false, 1, 8, .c (.any)⟩ := by kernel_rfl
theorem tt62 : tx.tt 62 = some ⟨.slice 73, 1, 24, .c (.full [])⟩ := by kernel_rfl
theorem tt63 : tx.tt 63 = some ⟨.func #[] #[] false, 1, 8, .c (.any)⟩ := by kernel_rfl
theorem tt64 : tx.tt 64 = some ⟨.struct #[fld 2 0, fld 2 1], 2, 16, .agg ([.d (.int .i64 0), .d (.int .i64 0)])⟩ := by kernel_rfl
theorem tt65 : tx.tt 65 = some ⟨.struct #[fld 2 0, fld 2 1], 2, 16, .agg ([.d (.int .i64 0), .d (.int .i64 0)])⟩ := by kernel_rfl
theorem tt66 : tx.tt 66 = some ⟨.func #[] #[] false, 1, 8, .c (.any)⟩ := by kernel_rfl
theorem tt67 : tx.tt 67 = some ⟨.func #[] #[] false, 1, 8, .c (.any)⟩ := by kernel_rfl
theorem tt68 : tx.tt 68 = some ⟨.func #[] #[] false, 1, 8, .c (.any)⟩ := by kernel_rfl
theorem tt69 : tx.tt 69 = some ⟨.func #[] #[] false, 1, 8, .c (.any)⟩ := by kernel_rfl
theorem tt71 : tx.tt 71 = some ⟨.func #[] #[] false, 1, 8, .c (.any)⟩ := by kernel_rfl
theorem tt72 : tx.tt 72 = some ⟨.func #[] #[] false, 1, 8, .c (.any)⟩ := by kernel_rfl
theorem tt73 : tx.tt 73 = some ⟨.int .u16, 1, 2, .c (.d (.int .u16 0))⟩ := by kernel_rfl
theorem tt74 : tx.tt 74 = some ⟨.func #[] #[] false, 1, 8, .c (.any)⟩ := by kernel_rfl
theorem tt75 : tx.tt 75 = some ⟨.func #[] #[] false, 1, 8, .c (.any)⟩ := by kernel_rfl
theorem tt76 : tx.tt 76 = some ⟨.func #[] #[] false, 1, 8, .c (.any)⟩ := by kernel_rfl
theorem tt77 : tx.tt 77 = some ⟨.func #[] #[] false, 1, 8, .c (.any)⟩ := by kernel_rfl
theorem tt78 : tx.tt 78 = some ⟨.func #[] #[] false, 1, 8, .c (.any)⟩ := by kernel_rfl
theorem tt79 : tx.tt 79 = some ⟨.func #[] #[] false, 1, 8, .c (.any)⟩ := by kernel_rfl
theorem tt80 : tx.tt 80 = some ⟨.struct #[fld 25 0], 2, 48, .agg ([.full [], .full []])⟩ := by kernel_rfl
theorem tt81 : tx.tt 81 = some ⟨.struct #[fld 25 0], 2, 48, .agg ([.full [], .full []])⟩ := by kernel_rfl
theorem tt83 : tx.tt 83 = some ⟨.func #[] #[] false, 1, 8, .c (.any)⟩ := by kernel_rfl
theorem tt84 : tx.tt 84 = some ⟨.func #[] #[] false, 1, 8, .c (.any)⟩ := by kernel_rfl
theorem tt85 : tx.tt 85 = some ⟨.array 3 2, 3, 24, .agg ([.d (.int .i64 0), .d (.int .i64 0), .d (.int .i64 0)])⟩ := by kernel_rfl
theorem tt86 : tx.tt 86 = some ⟨.array 3 2, 3, 24, .agg ([.d (.int .i64 0), .d (.int .i64 0), .d (.int .i64 0)])⟩ := by kernel_rfl
theorem tt87 : tx.tt 87 = some ⟨.func #[] #[] false, 1, 8, .c (.any)⟩ := by kernel_rfl
theorem tt88 : tx.tt 88 = some ⟨.func #[] #[] false, 1, 8, .c (.any)⟩ := by kernel_rfl
theorem tt89 : tx.tt 89 = some ⟨.func #[] #[] false, 1, 8, .c (.any)⟩ := by kernel_rfl
theorem tt90 : tx.tt 90 = some ⟨.func #[] #[] false, 1, 8, .c (.any)⟩ := by kernel_rfl
theorem tt91 : tx.tt 91 = some ⟨.func #[] #[] false, 1, 8, .c (.any)⟩ := by kernel_rfl
theorem tt92 : tx.tt 92 = some ⟨.func #[] #[] false, 1, 8, .c (.any)⟩ := by kernel_rfl
theorem tt93 : tx.tt 93 = some ⟨.func #[] #[] false, 1, 8, .c (.any)⟩ := by kernel_rfl
theorem tt94 : tx.tt 94 = some ⟨.func #[] #[] false, 1, 8, .c (.any)⟩ := by kernel_rfl
theorem tt95 : tx.tt 95 = some ⟨.func #[] #[] false, 1, 8, .c (.any)⟩ := by kernel_rfl
theorem tt96 : tx.tt 96 = some ⟨.func #[] #[] false, 1, 8, .c (.any)⟩ := by kernel_rfl
theorem tt97 : tx.tt 97 = some ⟨.func #[] #[] false, 1, 8, .c (.any)⟩ := by kernel_rfl
theorem tt98 : tx.tt 98 = some ⟨.struct #[fld 3 0, fld 3 1], 2, 16, .agg ([.d (.int .i64 0), .d (.int .i64 0)])⟩ := by kernel_rfl
theorem tt99 : tx.tt 99 = some ⟨.struct #[fld 3 0, fld 3 1], 2, 16, .agg ([.d (.int .i64 0), .d (.int .i64 0)])⟩ := by kernel_rfl
theorem tt101 : tx.tt 101 = some ⟨.func #[] #[] false, 1, 8, .c (.any)⟩ := by kernel_rfl
theorem tt102 : tx.tt 102 = some ⟨.func #[] #[] false, 1, 8, .c (.any)⟩ := by kernel_rfl
theorem tt103 : tx.tt 103 = some ⟨.func #[] #[] false, 1, 8, .c (.any)⟩ := by kernel_rfl
theorem tt104 : tx.tt 104 = some ⟨.func #[] #[] false, 1, 8, .c (.any)⟩ := by kernel_rfl
theorem tt105 : tx.tt 105 = some ⟨.func #[] #[] false, 1, 8, .c (.any)⟩ := by kernel_rfl
theorem tt106 : tx.tt 106 = some ⟨.func #[] #[] false, 1, 8, .c (.any)⟩ := by kernel_rfl
theorem tt107 : tx.tt 107 = some ⟨.func #[] #[] false, 1, 8, .c (.any)⟩ := by kernel_rfl
theorem tt108 : tx.tt 108 = some ⟨.map 110 53, 1, 8, .c (.any)⟩ := by kernel_rfl
theorem tt109 : tx.tt 109 = some ⟨.struct #[fld 2 0, fld 2 1], 2, 16, .agg ([.d (.int .i64 0), .d (.int .i64 0)])⟩ := by kernel_rfl
theorem tt110 : tx.tt 110 = some ⟨.struct #[fld 2 0, fld 2 1], 2, 16, .agg ([.d (.int .i64 0), .d (.int .i64 0)])⟩ := by kernel_rfl
theorem tt111 : tx.tt 111 = some ⟨.func #[] #[] false, 1, 8, .c (.any)⟩ := by kernel_rfl
theorem tt112 : tx.tt 112 = some ⟨.func #[] #[] false, 1, 8, .c (.any)⟩ := by kernel_rfl
theorem tt113 : tx.tt 113 = some ⟨.func #[] #[] false, 1, 8, .c (.any)⟩ := by kernel_rfl
theorem tt114 : tx.tt 114 = some ⟨.func #[] #[] false, 1, 8, .c (.any)⟩ := by kernel_rfl
theorem tt115 : tx.tt 115 = some ⟨.func #[] #[] false, 1, 8, .c (.any)⟩ := by kernel_rfl
theorem tt116 : tx.tt 116 = some ⟨.func #[] #[] false, 1, 8, .c (.any)⟩ := by kernel_rfl
theorem tt117 : tx.tt 117 = some ⟨.func #[] #[] false, 1, 8, .c (.any)⟩ := by kernel_rfl
theorem tt118 : tx.tt 118 = some ⟨.func #[] #[] false, 1, 8, .c (.any)⟩ := by kernel_rfl
theorem tt119 : tx.tt 119 = some ⟨.func #[] #[] false, 1, 8, .c (.any)⟩ := by kernel_rfl
theorem tt120 : tx.tt 120 = some ⟨.func #[] #[] false, 1, 8, .c (.any)⟩ := by kernel_rfl
theorem tt121 : tx.tt 121 = some ⟨.func #[] #[] false, 1, 8, .c (.any)⟩ := by kernel_rfl
theorem tt122 : tx.tt 122 = some ⟨.func #[] #[] false, 1, 8, .c (.any)⟩ := by kernel_rfl
theorem tt123 : tx.tt 123 = some ⟨.func #[] #[] false, 1, 8, .c (.any)⟩ := by kernel_rfl
theorem tt124 : tx.tt 124 = some ⟨.func #[] #[] false, 1, 8, .c (.any)⟩ := by kernel_rfl
theorem tt125 : tx.tt 125 = some ⟨.func #[] #[] false, 1, 8, .c (.any)⟩ := by kernel_rfl
theorem tt126 : tx.tt 126 = some ⟨.func #[] #[] false, 1, 8, .c (.any)⟩ := by kernel_rfl
theorem tt127 : tx.tt 127 = some ⟨.func #[] #[] false, 1, 8, .c (.any)⟩ := by kernel_rfl
theorem tt133 : tx.tt 133 = some ⟨.func #[] #[] false, 1, 8, .c (.any)⟩ := by kernel_rfl
theorem tt134 : tx.tt 134 = some ⟨.int .u32, 1, 4, .c (.d (.int .u32 0))⟩ := by kernel_rfl
theorem tt138 : tx.tt 138 = some ⟨.pointer 5, 1, 8, .c (.nilp)⟩ := by kernel_rfl
theorem eq64 : tx.eqs 64 = true := by kernel_rfl
theorem eq65 : tx.eqs 65 = true := by kernel_rfl
theorem eq85 : tx.eqs 85 = true := by kernel_rfl
theorem eq86 : tx.eqs 86 = true := by kernel_rfl
theorem eq98 : tx.eqs 98 = true := by kernel_rfl
theorem eq99 : tx.eqs 99 = true := by kernel_rfl
theorem eq109 : tx.eqs 109 = true := by kernel_rfl
theorem eq110 : tx.eqs 110 = true := by kernel_rfl
end Go.Proofs.Ytjkpfojkkfopmaa
