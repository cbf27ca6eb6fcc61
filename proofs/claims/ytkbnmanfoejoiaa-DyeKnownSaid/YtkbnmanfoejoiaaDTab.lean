/- The types of the program, as the logic wants them: a table, and that it tells the program's types. -/
import Derived.Test.YtkbnmanfoejoiaaMG
import Derived.KernelRfl
import Derived.Test.YtkbnmanfoejoiaaAbsT
import Derived.Test.YtkbnmanfoejoiaaProg
set_option linter.unusedSimpArgs false
set_option linter.unusedVariables false
namespace Go.Proofs.Ytkbnmanfoejoiaa
open Go Go.Abs Go.Proofs
def ti1 : TI := ⟨.func #[] #[] false, 1, 8, .c (.any)⟩
def ti2 : TI := ⟨.int .i64, 1, 8, .c (.d (.int .i64 0))⟩
def ti3 : TI := ⟨.int .i64, 1, 8, .c (.d (.int .i64 0))⟩
def ti4 : TI := ⟨.bool, 1, 1, .c (.d (.bool false))⟩
def ti5 : TI := ⟨.int .u8, 1, 1, .c (.d (.int .u8 0))⟩
def ti12 : TI := ⟨.int .u64, 1, 8, .c (.d (.int .u64 0))⟩
def ti21 : TI := ⟨.int .i32, 1, 4, .c (.d (.int .i32 0))⟩
def ti22 : TI := ⟨.slice 58, 1, 24, .c (.full [])⟩
def ti23 : TI := ⟨.struct #[fld 2 0, fld 2 1], 2, 16, .agg ([.d (.int .i64 0), .d (.int .i64 0)])⟩
def ti24 : TI := ⟨.struct #[fld 2 0, fld 2 1], 2, 16, .agg ([.d (.int .i64 0), .d (.int .i64 0)])⟩
def ti25 : TI := ⟨.array 2 24, 4, 32, .agg ([.d (.int .i64 0), .d (.int .i64 0), .d (.int .i64 0), .d (.int .i64 0)])⟩
def ti26 : TI := ⟨.struct #[fld 25 0, fld 3 4], 5, 40, .agg ([.d (.int .i64 0), .d (.int .i64 0), .d (.int .i64 0), .d (.int .i64 0), .d (.int .i64 0)])⟩
def ti27 : TI := ⟨.struct #[fld 25 0, fld 3 4], 5, 40, .agg ([.d (.int .i64 0), .d (.int .i64 0), .d (.int .i64 0), .d (.int .i64 0), .d (.int .i64 0)])⟩
def ti28 : TI := ⟨.slice 2, 1, 24, .c (.full [])⟩
def ti29 : TI := ⟨.func #[] #[] false, 1, 8, .c (.any)⟩
def ti30 : TI := ⟨.int .i64, 1, 8, .c (.d (.int .i64 0))⟩
def ti32 : TI := ⟨.func #[] #[] false, 1, 8, .c (.any)⟩
def ti34 : TI := ⟨.func #[] #[] false, 1, 8, .c (.any)⟩
def ti35 : TI := ⟨.func #[] #[] false, 1, 8, .c (.any)⟩
def ti36 : TI := ⟨.func #[] #[] false, 1, 8, .c (.any)⟩
def ti37 : TI := ⟨.func #[] #[] false, 1, 8, .c (.any)⟩
def ti38 : TI := ⟨.func #[] #[] false, 1, 8, .c (.any)⟩
def ti39 : TI := ⟨.func #[] #[] false, 1, 8, .c (.any)⟩
def ti41 : TI := ⟨.func #[] #[] false, 1, 8, .c (.any)⟩
def ti42 : TI := ⟨.func #[] #[] false, 1, 8, .c (.any)⟩
def ti44 : TI := ⟨.func #[] #[] false, 1, 8, .c (.any)⟩
def ti45 : TI := ⟨.func #[] #[] false, 1, 8, .c (.any)⟩
def ti46 : TI := ⟨.func #[] #[] false, 1, 8, .c (.any)⟩
def ti47 : TI := ⟨.func #[] #[] false, 1, 8, .c (.any)⟩
def ti48 : TI := ⟨.slice 5, 1, 24, .c (.full [])⟩
def ti49 : TI := ⟨.slice 53, 1, 24, .c (.full [])⟩
def ti50 : TI := ⟨.func #[] #[] false, 1, 8, .c (.any)⟩
def ti51 : TI := ⟨.int .u16, 1, 2, .c (.d (.int .u16 0))⟩
def ti52 : TI := ⟨.int .i16, 1, 2, .c (.d (.int .i16 0))⟩
def ti53 : TI := ⟨.array 2 52, 2, 4, .agg ([.d (.int .i16 0), .d (.int .i16 0)])⟩
def ti54 : TI := ⟨.func #[] #[] false, 1, 8, .c (.any)⟩
def ti55 : TI := ⟨.func #[] #[] false, 1, 8, .c (.any)⟩
def ti56 : TI := ⟨.array 2 2, 2, 16, .agg ([.d (.int .i64 0), .d (.int .i64 0)])⟩
def ti57 : TI := ⟨.struct #[fld 56 0, fld 2 2, fld 3 3], 4, 32, .agg ([.d (.int .i64 0), .d (.int .i64 0), .d (.int .i64 0), .d (.int .i64 0)])⟩
def ti58 : TI := ⟨.struct #[fld 56 0, fld 2 2, fld 3 3], 4, 32, .agg ([.d (.int .i64 0), .d (.int .i64 0), .d (.int .i64 0), .d (.int .i64 0)])⟩
def ti59 : TI := ⟨.func #[] #[] false, 1, 8, .c (.any)⟩
def ti60 : TI := ⟨.func #[] #[] false, 1, 8, .c (.any)⟩
def ti61 : TI := ⟨.func #[] #[] false, 1, 8, .c (.any)⟩
def ti62 : TI := ⟨.func #[] #[] false, 1, 8, .c (.any)⟩
def ti63 : TI := ⟨.func #[] #[] false, 1, 8, .c (.any)⟩
def ti64 : TI := ⟨.func #[] #[] false, 1, 8, .c (.any)⟩
def ti65 : TI := ⟨.func #[] #[] false, 1, 8, .c (.any)⟩
def ti66 : TI := ⟨.func #[] #[] false, 1, 8, .c (.any)⟩
def ti67 : TI := ⟨.func #[] #[] false, 1, 8, .c (.any)⟩
def ti68 : TI := ⟨.struct #[fld 2 0, fld 2 1], 2, 16, .agg ([.d (.int .i64 0), .d (.int .i64 0)])⟩
def ti69 : TI := ⟨.struct #[fld 2 0, fld 2 1], 2, 16, .agg ([.d (.int .i64 0), .d (.int .i64 0)])⟩
def ti71 : TI := ⟨.func #[] #[] false, 1, 8, .c (.any)⟩
def ti73 : TI := ⟨.func #[] #[] false, 1, 8, .c (.any)⟩
def ti74 : TI := ⟨.func #[] #[] false, 1, 8, .c (.any)⟩
def ti75 : TI := ⟨.func #[] #[] false, 1, 8, .c (.any)⟩
def ti76 : TI := ⟨.func #[] #[] false, 1, 8, .c (.any)⟩
def ti77 : TI := ⟨.func #[] #[] false, 1, 8, .c (.any)⟩
def ti78 : TI := ⟨.func #[] #[] false, 1, 8, .c (.any)⟩
def ti79 : TI := ⟨.func #[] #[] false, 1, 8, .c (.any)⟩
def ti80 : TI := ⟨.func #[] #[] false, 1, 8, .c (.any)⟩
def ti81 : TI := ⟨.pointer 93, 1, 8, .c (.nilp)⟩
def ti82 : TI := ⟨.func #[] #[] false, 1, 8, .c (.any)⟩
def ti83 : TI := ⟨.func #[] #[] false, 1, 8, .c (.any)⟩
def ti84 : TI := ⟨.func #[] #[] false, 1, 8, .c (.any)⟩
def ti85 : TI := ⟨.func #[] #[] false, 1, 8, .c (.any)⟩
def ti86 : TI := ⟨.func #[] #[] false, 1, 8, .c (.any)⟩
def ti87 : TI := ⟨.func #[] #[] false, 1, 8, .c (.any)⟩
def ti88 : TI := ⟨.array 21 2, 21, 168, .agg (List.replicate 21 (.d (.int .i64 0)))⟩
def ti89 : TI := ⟨.array 21 2, 21, 168, .agg (List.replicate 21 (.d (.int .i64 0)))⟩
def ti90 : TI := ⟨.array 21 89, 441, 3528, .agg (List.replicate 441 (.d (.int .i64 0)))⟩
def ti91 : TI := ⟨.array 9 90, 3969, 31752, .agg (List.replicate 3969 (.d (.int .i64 0)))⟩
def ti92 : TI := ⟨.struct #[fld 22 0, fld 91 1, fld 3 3970], 3971, 31784, .agg ([.full []] ++ List.replicate 3970 (.d (.int .i64 0)))⟩
def ti93 : TI := ⟨.struct #[fld 22 0, fld 91 1, fld 3 3970], 3971, 31784, .agg ([.full []] ++ List.replicate 3970 (.d (.int .i64 0)))⟩
def ti94 : TI := ⟨.func #[] #[] false, 1, 8, .c (.any)⟩
def ti95 : TI := ⟨.func #[] #[] false, 1, 8, .c (.any)⟩
def ti96 : TI := ⟨.func #[] #[] false, 1, 8, .c (.any)⟩
def ti97 : TI := ⟨.func #[] #[] false, 1, 8, .c (.any)⟩
def ti98 : TI := ⟨.slice 24, 1, 24, .c (.full [])⟩
def ti99 : TI := ⟨.func #[] #[] false, 1, 8, .c (.any)⟩
def ti100 : TI := ⟨.func #[] #[] false, 1, 8, .c (.any)⟩
def ti101 : TI := ⟨.func #[] #[] false, 1, 8, .c (.any)⟩
def ti102 : TI := ⟨.slice 90, 1, 24, .c (.full [])⟩
def ti103 : TI := ⟨.func #[] #[] false, 1, 8, .c (.any)⟩
def ti104 : TI := ⟨.func #[] #[] false, 1, 8, .c (.any)⟩
def ti105 : TI := ⟨.func #[] #[] false, 1, 8, .c (.any)⟩
def ti106 : TI := ⟨.pointer 2, 1, 8, .c (.nilp)⟩
def ti107 : TI := ⟨.func #[] #[] false, 1, 8, .c (.any)⟩
def ti108 : TI := ⟨.func #[] #[] false, 1, 8, .c (.any)⟩
def ti109 : TI := ⟨.func #[] #[] false, 1, 8, .c (.any)⟩
def ti110 : TI := ⟨.func #[] #[] false, 1, 8, .c (.any)⟩
def ti111 : TI := ⟨.struct #[fld 58 0, fld 3 4, fld 4 5], 6, 48, .agg ([.d (.int .i64 0), .d (.int .i64 0), .d (.int .i64 0), .d (.int .i64 0), .d (.int .i64 0), .d (.bool false)])⟩
def ti112 : TI := ⟨.struct #[fld 58 0, fld 3 4, fld 4 5], 6, 48, .agg ([.d (.int .i64 0), .d (.int .i64 0), .d (.int .i64 0), .d (.int .i64 0), .d (.int .i64 0), .d (.bool false)])⟩
def ti113 : TI := ⟨.func #[] #[] false, 1, 8, .c (.any)⟩
def ti114 : TI := ⟨.func #[] #[] false, 1, 8, .c (.any)⟩
def ti115 : TI := ⟨.slice 69, 1, 24, .c (.full [])⟩
def ti116 : TI := ⟨.func #[] #[] false, 1, 8, .c (.any)⟩
def ti117 : TI := ⟨.func #[] #[] false, 1, 8, .c (.any)⟩
def ti118 : TI := ⟨.map 120 2, 1, 8, .c (.any)⟩
def ti119 : TI := ⟨.struct #[fld 3 0, fld 69 1], 3, 24, .agg ([.d (.int .i64 0), .d (.int .i64 0), .d (.int .i64 0)])⟩
def ti120 : TI := ⟨.struct #[fld 3 0, fld 69 1], 3, 24, .agg ([.d (.int .i64 0), .d (.int .i64 0), .d (.int .i64 0)])⟩
def ti121 : TI := ⟨.func #[] #[] false, 1, 8, .c (.any)⟩
def ti122 : TI := ⟨.func #[] #[] false, 1, 8, .c (.any)⟩
def ti123 : TI := ⟨.func #[] #[] false, 1, 8, .c (.any)⟩
def ti124 : TI := ⟨.func #[] #[] false, 1, 8, .c (.any)⟩
def ti125 : TI := ⟨.func #[] #[] false, 1, 8, .c (.any)⟩
def ti131 : TI := ⟨.func #[] #[] false, 1, 8, .c (.any)⟩
def ti132 : TI := ⟨.int .u32, 1, 4, .c (.d (.int .u32 0))⟩
def ti136 : TI := ⟨.pointer 5, 1, 8, .c (.nilp)⟩
def ttA : List (List (Option TI)) := [[none, some ti1, some ti2, some ti3, some ti4, some ti5, none, none, none, none, none, none, some ti12],
  [none, none, none, none, none, some ti21, some ti22, some ti23, some ti24, some ti25, some ti26, some ti27, some ti28, some ti29, some ti30],
  [some ti32, none, some ti34, some ti35, some ti36, some ti37, some ti38, some ti39, none, some ti41, some ti42, none, some ti44, some ti45, some ti46, some ti47],
  [some ti48, some ti49, some ti50, some ti51, some ti52, some ti53, some ti54, some ti55, some ti56, some ti57, some ti58, some ti59, some ti60, some ti61, some ti62, some ti63],
  [some ti64, some ti65, some ti66, some ti67, some ti68, some ti69, none, some ti71, none, some ti73, some ti74, some ti75, some ti76, some ti77, some ti78, some ti79],
  [some ti80, some ti81, some ti82, some ti83, some ti84, some ti85, some ti86, some ti87, some ti88, some ti89, some ti90, some ti91, some ti92, some ti93, some ti94, some ti95],
  [some ti96, some ti97, some ti98, some ti99, some ti100, some ti101, some ti102, some ti103, some ti104, some ti105, some ti106, some ti107, some ti108, some ti109, some ti110, some ti111],
  [some ti112, some ti113, some ti114, some ti115, some ti116, some ti117, some ti118, some ti119, some ti120, some ti121, some ti122, some ti123, some ti124, some ti125],
  [none, none, none, some ti131, some ti132, none, none, none, some ti136]]
theorem ttOk : TTok Try.prog (lookC ttA) := ttok_fast (by kernel_rfl)
def eqM : Nat := 1993841998319649842633012517130993664
noncomputable def tx : Tx := { P := Try.prog, tt := lookC ttA, eqs := eqM.testBit, ok := ttOk, eok := eok_fast (N := 121) (by decide) (by kernel_rfl) }
theorem tx_P : tx.P = Try.prog := rfl
theorem tx_vm : tx.vm = false := rfl
noncomputable def txv : Tx := { tx with vm := true }
theorem txv_vm : txv.vm = true := rfl
theorem txv_tt : txv.tt = tx.tt := rfl
theorem txv_eqs : txv.eqs = tx.eqs := rfl
theorem tt1 : tx.tt 1 = some ⟨.func #[] #[] false, 1, 8, .c (.any)⟩ := by kernel_rfl
theorem tt2 : tx.tt 2 = some ⟨.int .i64, 1, 8, .c (.d (.int .i64 0))⟩ := by kernel_rfl
theorem tt3 : tx.tt 3 = some ⟨.int .i64, 1, 8, .c (.d (.int .i64 0))⟩ := by kernel_rfl
theorem tt4 : tx.tt 4 = some ⟨.bool, 1, 1, .c (.d (.bool false))⟩ := by kernel_rfl
theorem tt5 : tx.tt 5 = some ⟨.int .u8, 1, 1, .c (.d (.int .u8 0))⟩ := by kernel_rfl
theorem tt12 : tx.tt 12 = some ⟨.int .u64, 1, 8, .c (.d (.int .u64 0))⟩ := by kernel_rfl
theorem tt21 : tx.tt 21 = some ⟨.int .i32, 1, 4, .c (.d (.int .i32 0))⟩ := by kernel_rfl
theorem tt22 : tx.tt 22 = some ⟨.slice 58, 1, 24, .c (.full [])⟩ := by kernel_rfl
theorem tt23 : tx.tt 23 = some ⟨.struct #[fld 2 0, fld 2 1], 2, 16, .agg ([.d (.int .i64 0), .d (.int .i64 0)])⟩ := by kernel_rfl
theorem tt24 : tx.tt 24 = some ⟨.struct #[fld 2 0, fld 2 1], 2, 16, .agg ([.d (.int .i64 0), .d (.int .i64 0)])⟩ := by kernel_rfl
theorem tt25 : tx.tt 25 = some ⟨.array 2 24, 4, 32, .agg ([.d (.int .i64 0), .d (.int .i64 0), .d (.int .i64 0), .d (.int .i64 0)])⟩ := by kernel_rfl
theorem tt26 : tx.tt 26 = some ⟨.struct #[fld 25 0, fld 3 4], 5, 40, .agg ([.d (.int .i64 0), .d (.int .i64 0), .d (.int .i64 0), .d (.int .i64 0), .d (.int .i64 0)])⟩ := by kernel_rfl
theorem tt27 : tx.tt 27 = some ⟨.struct #[fld 25 0, fld 3 4], 5, 40, .agg ([.d (.int .i64 0), .d (.int .i64 0), .d (.int .i64 0), .d (.int .i64 0), .d (.int .i64 0)])⟩ := by kernel_rfl
theorem tt28 : tx.tt 28 = some ⟨.slice 2, 1, 24, .c (.full [])⟩ := by kernel_rfl
theorem tt29 : tx.tt 29 = some ⟨.func #[] #[] false, 1, 8, .c (.any)⟩ := by kernel_rfl
theorem tt30 : tx.tt 30 = some ⟨.int .i64, 1, 8, .c (.d (.int .i64 0))⟩ := by kernel_rfl
theorem tt32 : tx.tt 32 = some ⟨.func #[] #[] false, 1, 8, .c (.any)⟩ := by kernel_rfl
theorem tt34 : tx.tt 34 = some ⟨.func #[] #[] false, 1, 8, .c (.any)⟩ := by kernel_rfl
theorem tt35 : tx.tt 35 = some ⟨.func #[] #[] false, 1, 8, .c (.any)⟩ := by kernel_rfl
theorem tt36 : tx.tt 36 = some ⟨.func #[] #[] false, 1, 8, .c (.any)⟩ := by kernel_rfl
theorem tt37 : tx.tt 37 = some ⟨.func #[] #[] false, 1, 8, .c (.any)⟩ := by kernel_rfl
theorem tt38 : tx.tt 38 = some ⟨.func #[] #[] false, 1, 8, .c (.any)⟩ := by kernel_rfl
theorem tt39 : tx.tt 39 = some ⟨.func #[] #[] false, 1, 8, .c (.any)⟩ := by kernel_rfl
theorem tt41 : tx.tt 41 = some ⟨.func #[] #[] false, 1, 8, .c (.any)⟩ := by kernel_rfl
theorem tt42 : tx.tt 42 = some ⟨.func #[] #[] false, 1, 8, .c (.any)⟩ := by kernel_rfl
theorem tt44 : tx.tt 44 = some ⟨.func #[] #[] false, 1, 8, .c (.any)⟩ := by kernel_rfl
theorem tt45 : tx.tt 45 = some ⟨.func #[] #[] false, 1, 8, .c (.any)⟩ := by kernel_rfl
theorem tt46 : tx.tt 46 = some ⟨.func #[] #[] false, 1, 8, .c (.any)⟩ := by kernel_rfl
theorem tt47 : tx.tt 47 = some ⟨.func #[] #[] false, 1, 8, .c (.any)⟩ := by kernel_rfl
theorem tt48 : tx.tt 48 = some ⟨.slice 5, 1, 24, .c (.full [])⟩ := by kernel_rfl
theorem tt49 : tx.tt 49 = some ⟨.slice 53, 1, 24, .c (.full [])⟩ := by kernel_rfl
theorem tt50 : tx.tt 50 = some ⟨.func #[] #[] false, 1, 8, .c (.any)⟩ := by kernel_rfl
theorem tt51 : tx.tt 51 = some ⟨.int .u16, 1, 2, .c (.d (.int .u16 0))⟩ := by kernel_rfl
theorem tt52 : tx.tt 52 = some ⟨.int .i16, 1, 2, .c (.d (.int .i16 0))⟩ := by kernel_rfl
theorem tt53 : tx.tt 53 = some ⟨.array 2 52, 2, 4, .agg ([.d (.int .i16 0), .d (.int .i16 0)])⟩ := by kernel_rfl
theorem tt54 : tx.tt 54 = some ⟨.func #[] #[] false, 1, 8, .c (.any)⟩ := by kernel_rfl
theorem tt55 : tx.tt 55 = some ⟨.func #[] #[] false, 1, 8, .c (.any)⟩ := by kernel_rfl
theorem tt56 : tx.tt 56 = some ⟨.array 2 2, 2, 16, .agg ([.d (.int .i64 0), .d (.int .i64 0)])⟩ := by kernel_rfl
theorem tt57 : tx.tt 57 = some ⟨.struct #[fld 56 0, fld 2 2, fld 3 3], 4, 32, .agg ([.d (.int .i64 0), .d (.int .i64 0), .d (.int .i64 0), .d (.int .i64 0)])⟩ := by kernel_rfl
theorem tt58 : tx.tt 58 = some ⟨.struct #[fld 56 0, fld 2 2, fld 3 3], 4, 32, .agg ([.d (.int .i64 0), .d (.int .i64 0), .d (.int .i64 0), .d (.int .i64 0)])⟩ := by kernel_rfl
theorem tt59 : tx.tt 59 = some ⟨.func #[] #[] false, 1, 8, .c (.any)⟩ := by kernel_rfl
theorem tt60 : tx.tt 60 = some ⟨.func #[] #[] false, 1, 8, .c (.any)⟩ := by kernel_rfl
theorem tt61 : tx.tt 61 = some ⟨.func #[] #[] false, 1, 8, .c (.any)⟩ := by kernel_rfl
theorem tt62 : tx.tt 62 = some ⟨.func #[] #[] false, 1, 8, .c (.any)⟩ := by kernel_rfl
theorem tt63 : tx.tt 63 = some ⟨.func #[] #[] false, 1, 8, .c (.any)⟩ := by kernel_rfl
theorem tt64 : tx.tt 64 = some ⟨.func #[] #[] false, 1, 8, .c (.any)⟩ := by kernel_rfl
theorem tt65 : tx.tt 65 = some ⟨.func #[] #[] false, 1, 8, .c (.any)⟩ := by kernel_rfl
theorem tt66 : tx.tt 66 = some ⟨.func #[] #[] false, 1, 8, .c (.any)⟩ := by kernel_rfl
theorem tt67 : tx.tt 67 = some ⟨.func #[] #[] false, 1, 8, .c (.any)⟩ := by kernel_rfl
theorem tt68 : tx.tt 68 = some ⟨.struct #[fld 2 0, fld 2 1], 2, 16, .agg ([.d (.int .i64 0), .d (.int .i64 0)])⟩ := by kernel_rfl
theorem tt69 : tx.tt 69 = some ⟨.struct #[fld 2 0, fld 2 1], 2, 16, .agg ([.d (.int .i64 0), .d (.int .i64 0)])⟩ := by kernel_rfl
theorem tt71 : tx.tt 71 = some ⟨.func #[] #[] false, 1, 8, .c (.any)⟩ := by kernel_rfl
theorem tt73 : tx.tt 73 = some ⟨.func #[] #[] false, 1, 8, .c (.any)⟩ := by kernel_rfl
theorem tt74 : tx.tt 74 = some ⟨.func #[] #[] false, 1, 8, .c (.any)⟩ := by kernel_rfl
theorem tt75 : tx.tt 75 = some ⟨.func #[] #[] false, 1, 8, .c (.any)⟩ := by kernel_rfl
theorem tt76 : tx.tt 76 = some ⟨.func #[] #[] false, 1, 8, .c (.any)⟩ := by kernel_rfl
theorem tt77 : tx.tt 77 = some ⟨.func #[] #[] false, 1, 8, .c (.any)⟩ := by kernel_rfl
theorem tt78 : tx.tt 78 = some ⟨.func #[] #[] false, 1, 8, .c (.any)⟩ := by kernel_rfl
theorem tt79 : tx.tt 79 = some ⟨.func #[] #[] false, 1, 8, .c (.any)⟩ := by kernel_rfl
theorem tt80 : tx.tt 80 = some ⟨.func #[] #[] false, 1, 8, .c (.any)⟩ := by kernel_rfl
theorem tt81 : tx.tt 81 = some ⟨.pointer 93, 1, 8, .c (.nilp)⟩ := by kernel_rfl
theorem tt82 : tx.tt 82 = some ⟨.func #[] #[] false, 1, 8, .c (.any)⟩ := by kernel_rfl
theorem tt83 : tx.tt 83 = some ⟨.func #[] #[] false, 1, 8, .c (.any)⟩ := by kernel_rfl
theorem tt84 : tx.tt 84 = some ⟨.func #[] #[] false, 1, 8, .c (.any)⟩ := by kernel_rfl
theorem tt85 : tx.tt 85 = some ⟨.func #[] #[] false, 1, 8, .c (.any)⟩ := by kernel_rfl
theorem tt86 : tx.tt 86 = some ⟨.func #[] #[] false, 1, 8, .c (.any)⟩ := by kernel_rfl
theorem tt87 : tx.tt 87 = some ⟨.func #[] #[] false, 1, 8, .c (.any)⟩ := by kernel_rfl
theorem tt88 : tx.tt 88 = some ⟨.array 21 2, 21, 168, .agg (List.replicate 21 (.d (.int .i64 0)))⟩ := by kernel_rfl
theorem tt89 : tx.tt 89 = some ⟨.array 21 2, 21, 168, .agg (List.replicate 21 (.d (.int .i64 0)))⟩ := by kernel_rfl
theorem tt90 : tx.tt 90 = some ⟨.array 21 89, 441, 3528, .agg (List.replicate 441 (.d (.int .i64 0)))⟩ := by kernel_rfl
theorem tt91 : tx.tt 91 = some ⟨.array 9 90, 3969, 31752, .agg (List.replicate 3969 (.d (.int .i64 0)))⟩ := by kernel_rfl
theorem tt92 : tx.tt 92 = some ⟨.struct #[fld 22 0, fld 91 1, fld 3 3970], 3971, 31784, .agg ([.full []] ++ List.replicate 3970 (.d (.int .i64 0)))⟩ := by kernel_rfl
theorem tt93 : tx.tt 93 = some ⟨.struct #[fld 22 0, fld 91 1, fld 3 3970], 3971, 31784, .agg ([.full []] ++ List.replicate 3970 (.d (.int .i64 0)))⟩ := by kernel_rfl
theorem tt94 : tx.tt 94 = some ⟨.func #[] #[] false, 1, 8, .c (.any)⟩ := by kernel_rfl
theorem tt95 : tx.tt 95 = some ⟨.func #[] #[] false, 1, 8, .c (.any)⟩ := by kernel_rfl
theorem tt96 : tx.tt 96 = some ⟨.func #[] #[] false, 1, 8, .c (.any)⟩ := by kernel_rfl
theorem tt97 : tx.tt 97 = some ⟨.func #[] #[] false, 1, 8, .c (.any)⟩ := by kernel_rfl
theorem tt98 : tx.tt 98 = some ⟨.slice 24, 1, 24, .c (.full [])⟩ := by kernel_rfl
theorem tt99 : tx.tt 99 = some ⟨.func #[] #[] false, 1, 8, .c (.any)⟩ := by kernel_rfl
theorem tt100 : tx.tt 100 = some ⟨.func #[] #[] false, 1, 8, .c (.any)⟩ := by kernel_rfl
theorem tt101 : tx.tt 101 = some ⟨.func #[] #[] false, 1, 8, .c (.any)⟩ := by kernel_rfl
theorem tt102 : tx.tt 102 = some ⟨.slice 90, 1, 24, .c (.full [])⟩ := by kernel_rfl
theorem tt103 : tx.tt 103 = some ⟨.func #[] #[] false, 1, 8, .c (.any)⟩ := by kernel_rfl
theorem tt104 : tx.tt 104 = some ⟨.func #[] #[] false, 1, 8, .c (.any)⟩ := by kernel_rfl
theorem tt105 : tx.tt 105 = some ⟨.func #[] #[] false, 1, 8, .c (.any)⟩ := by kernel_rfl
theorem tt106 : tx.tt 106 = some ⟨.pointer 2, 1, 8, .c (.nilp)⟩ := by kernel_rfl
theorem tt107 : tx.tt 107 = some ⟨.func #[] #[] false, 1, 8, .c (.any)⟩ := by kernel_rfl
theorem tt108 : tx.tt 108 = some ⟨.func #[] #[] false, 1, 8, .c (.any)⟩ := by kernel_rfl
theorem tt109 : tx.tt 109 = some ⟨.func #[] #[] false, 1, 8, .c (.any)⟩ := by kernel_rfl
theorem tt110 : tx.tt 110 = some ⟨.func #[] #[] false, 1, 8, .c (.any)⟩ := by kernel_rfl
theorem tt111 : tx.tt 111 = some ⟨.struct #[fld 58 0, fld 3 4, fld 4 5], 6, 48, .agg ([.d (.int .i64 0), .d (.int .i64 0), .d (.int .i64 0), .d (.int .i64 0), .d (.int .i64 0), .d (.bool false)])⟩ := by kernel_rfl
theorem tt112 : tx.tt 112 = some ⟨.struct #[fld 58 0, fld 3 4, fld 4 5], 6, 48, .agg ([.d (.int .i64 0), .d (.int .i64 0), .d (.int .i64 0), .d (.int .i64 0), .d (.int .i64 0), .d (.bool false)])⟩ := by kernel_rfl
theorem tt113 : tx.tt 113 = some ⟨.func #[] #[] false, 1, 8, .c (.any)⟩ := by kernel_rfl
theorem tt114 : tx.tt 114 = some ⟨.func #[] #[] false, 1, 8, .c (.any)⟩ := by kernel_rfl
theorem tt115 : tx.tt 115 = some ⟨.slice 69, 1, 24, .c (.full [])⟩ := by kernel_rfl
theorem tt116 : tx.tt 116 = some ⟨.func #[] #[] false, 1, 8, .c (.any)⟩ := by kernel_rfl
theorem tt117 : tx.tt 117 = some ⟨.func #[] #[] false, 1, 8, .c (.any)⟩ := by kernel_rfl
theorem tt118 : tx.tt 118 = some ⟨.map 120 2, 1, 8, .c (.any)⟩ := by kernel_rfl
theorem tt119 : tx.tt 119 = some ⟨.struct #[fld 3 0, fld 69 1], 3, 24, .agg ([.d (.int .i64 0), .d (.int .i64 0), .d (.int .i64 0)])⟩ := by kernel_rfl
theorem tt120 : tx.tt 120 = some ⟨.struct #[fld 3 0, fld 69 1], 3, 24, .agg ([.d (.int .i64 0), .d (.int .i64 0), .d (.int .i64 0)])⟩ := by kernel_rfl
theorem tt121 : tx.tt 121 = some ⟨.func #[] #[] false, 1, 8, .c (.any)⟩ := by kernel_rfl
theorem tt122 : tx.tt 122 = some ⟨.func #[] #[] false, 1, 8, .c (.any)⟩ := by kernel_rfl
theorem tt123 : tx.tt 123 = some ⟨.func #[] #[] false, 1, 8, .c (.any)⟩ := by kernel_rfl
theorem tt124 : tx.tt 124 = some ⟨.func #[] #[] false, 1, 8, .c (.any)⟩ := by kernel_rfl
theorem tt125 : tx.tt 125 = some ⟨.func #[] #[] false, 1, 8, .c (.any)⟩ := by kernel_rfl
theorem tt131 : tx.tt 131 = some ⟨.func #[] #[] false, 1, 8, .c (.any)⟩ := by kernel_rfl
theorem tt132 : tx.tt 132 = some ⟨.int .u32, 1, 4, .c (.d (.int .u32 0))⟩ := by kernel_rfl
theorem tt136 : tx.tt 136 = some ⟨.pointer 5, 1, 8, .c (.nilp)⟩ := by kernel_rfl
theorem eq23 : tx.eqs 23 = true := by kernel_rfl
theorem eq24 : tx.eqs 24 = true := by kernel_rfl
theorem eq25 : tx.eqs 25 = true := by kernel_rfl
theorem eq26 : tx.eqs 26 = true := by kernel_rfl
theorem eq27 : tx.eqs 27 = true := by kernel_rfl
theorem eq53 : tx.eqs 53 = true := by kernel_rfl
theorem eq56 : tx.eqs 56 = true := by kernel_rfl
theorem eq57 : tx.eqs 57 = true := by kernel_rfl
theorem eq58 : tx.eqs 58 = true := by kernel_rfl
theorem eq68 : tx.eqs 68 = true := by kernel_rfl
theorem eq69 : tx.eqs 69 = true := by kernel_rfl
theorem eq88 : tx.eqs 88 = true := by kernel_rfl
theorem eq89 : tx.eqs 89 = true := by kernel_rfl
theorem eq90 : tx.eqs 90 = true := by kernel_rfl
theorem eq91 : tx.eqs 91 = true := by kernel_rfl
theorem eq119 : tx.eqs 119 = true := by kernel_rfl
theorem eq120 : tx.eqs 120 = true := by kernel_rfl
end Go.Proofs.Ytkbnmanfoejoiaa
