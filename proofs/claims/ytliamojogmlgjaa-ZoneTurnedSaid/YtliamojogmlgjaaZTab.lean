/- The types of the program, as the logic wants them: a table, and that it tells the program's types. -/
import Derived.Test.YtliamojogmlgjaaMG
import Derived.KernelRfl
import Derived.Test.YtliamojogmlgjaaAbsT
import Derived.Test.YtliamojogmlgjaaProg
set_option linter.unusedSimpArgs false
set_option linter.unusedVariables false
namespace Go.Proofs.Ytliamojogmlgjaa
open Go Go.Abs Go.Proofs
def ti1 : TI := ⟨.func #[] #[] false, 1, 8, .c (.any)⟩
def ti2 : TI := ⟨.int .i64, 1, 8, .c (.d (.int .i64 0))⟩
def ti3 : TI := ⟨.int .i64, 1, 8, .c (.d (.int .i64 0))⟩
def ti4 : TI := ⟨.bool, 1, 1, .c (.d (.bool false))⟩
def ti5 : TI := ⟨.int .u8, 1, 1, .c (.d (.int .u8 0))⟩
def ti12 : TI := ⟨.int .u64, 1, 8, .c (.d (.int .u64 0))⟩
def ti21 : TI := ⟨.int .i32, 1, 4, .c (.d (.int .i32 0))⟩
def ti22 : TI := ⟨.slice 2, 1, 24, .c (.full [])⟩
def ti23 : TI := ⟨.slice 40, 1, 24, .c (.full [])⟩
def ti24 : TI := ⟨.slice 4, 1, 24, .c (.full [])⟩
def ti25 : TI := ⟨.struct #[fld 22 0, fld 23 1, fld 24 2, fld 22 3], 4, 96, .agg ([.full [], .full [], .full [], .full []])⟩
def ti26 : TI := ⟨.struct #[fld 22 0, fld 23 1, fld 24 2, fld 22 3], 4, 96, .agg ([.full [], .full [], .full [], .full []])⟩
def ti27 : TI := ⟨.func #[] #[] false, 1, 8, .c (.any)⟩
def ti28 : TI := ⟨.func #[] #[] false, 1, 8, .c (.any)⟩
def ti29 : TI := ⟨.int .i64, 1, 8, .c (.d (.int .i64 0))⟩
def ti31 : TI := ⟨.func #[] #[] false, 1, 8, .c (.any)⟩
def ti32 : TI := ⟨.func #[] #[] false, 1, 8, .c (.any)⟩
def ti33 : TI := ⟨.func #[] #[] false, 1, 8, .c (.any)⟩
def ti34 : TI := ⟨.func #[] #[] false, 1, 8, .c (.any)⟩
def ti35 : TI := ⟨.func #[] #[] false, 1, 8, .c (.any)⟩
def ti37 : TI := ⟨.func #[] #[] false, 1, 8, .c (.any)⟩
def ti38 : TI := ⟨.func #[] #[] false, 1, 8, .c (.any)⟩
def ti39 : TI := ⟨.struct #[fld 2 0, fld 2 1], 2, 16, .agg ([.d (.int .i64 0), .d (.int .i64 0)])⟩
def ti40 : TI := ⟨.struct #[fld 2 0, fld 2 1], 2, 16, .agg ([.d (.int .i64 0), .d (.int .i64 0)])⟩
def ti42 : TI := ⟨.func #[] #[] false, 1, 8, .c (.any)⟩
def ti43 : TI := ⟨.func #[] #[] false, 1, 8, .c (.any)⟩
def ti44 : TI := ⟨.func #[] #[] false, 1, 8, .c (.any)⟩
def ti46 : TI := ⟨.func #[] #[] false, 1, 8, .c (.any)⟩
def ti47 : TI := ⟨.func #[] #[] false, 1, 8, .c (.any)⟩
def ti49 : TI := ⟨.func #[] #[] false, 1, 8, .c (.any)⟩
def ti50 : TI := ⟨.func #[] #[] false, 1, 8, .c (.any)⟩
def ti51 : TI := ⟨.slice 5, 1, 24, .c (.full [])⟩
def ti52 : TI := ⟨.func #[] #[] false, 1, 8, .c (.any)⟩
def ti53 : TI := ⟨.func #[] #[] false, 1, 8, .c (.any)⟩
def ti54 : TI := ⟨.slice 22, 1, 24, .c (.full [])⟩
def ti55 : TI := ⟨.func #[] #[] false, 1, 8, .c (.any)⟩
def ti56 : TI := ⟨.func #[] #[] false, 1, 8, .c (.any)⟩
def ti57 : TI := ⟨.array 2 5, 2, 2, .agg ([.d (.int .u8 0), .d (.int .u8 0)])⟩
def ti58 : TI := ⟨.func #[] #[] false, 1, 8, .c (.any)⟩
def ti59 : TI := ⟨.func #[] #[] false, 1, 8, .c (.any)⟩
def ti61 : TI := ⟨.func #[] #[] false, 1, 8, .c (.any)⟩
def ti62 : TI := ⟨.func #[] #[] false, 1, 8, .c (.any)⟩
def ti63 : TI := ⟨.func #[] #[] false, 1, 8, .c (.any)⟩
def ti64 : TI := ⟨.func #[] #[] false, 1, 8, .c (.any)⟩
def ti65 : TI := ⟨.func #[] #[] false, 1, 8, .c (.any)⟩
def ti66 : TI := ⟨.int .u16, 1, 2, .c (.d (.int .u16 0))⟩
def ti67 : TI := ⟨.func #[] #[] false, 1, 8, .c (.any)⟩
def ti68 : TI := ⟨.func #[] #[] false, 1, 8, .c (.any)⟩
def ti69 : TI := ⟨.func #[] #[] false, 1, 8, .c (.any)⟩
def ti70 : TI := ⟨.func #[] #[] false, 1, 8, .c (.any)⟩
def ti71 : TI := ⟨.func #[] #[] false, 1, 8, .c (.any)⟩
def ti72 : TI := ⟨.func #[] #[] false, 1, 8, .c (.any)⟩
def ti73 : TI := ⟨.func #[] #[] false, 1, 8, .c (.any)⟩
def ti74 : TI := ⟨.func #[] #[] false, 1, 8, .c (.any)⟩
def ti75 : TI := ⟨.func #[] #[] false, 1, 8, .c (.any)⟩
def ti76 : TI := ⟨.func #[] #[] false, 1, 8, .c (.any)⟩
def ti77 : TI := ⟨.func #[] #[] false, 1, 8, .c (.any)⟩
def ti78 : TI := ⟨.struct #[fld 3 0, fld 3 1], 2, 16, .agg ([.d (.int .i64 0), .d (.int .i64 0)])⟩
def ti79 : TI := ⟨.struct #[fld 3 0, fld 3 1], 2, 16, .agg ([.d (.int .i64 0), .d (.int .i64 0)])⟩
def ti80 : TI := ⟨.func #[] #[] false, 1, 8, .c (.any)⟩
def ti82 : TI := ⟨.func #[] #[] false, 1, 8, .c (.any)⟩
def ti83 : TI := ⟨.pointer 103, 1, 8, .c (.nilp)⟩
def ti85 : TI := ⟨.func #[] #[] false, 1, 8, .c (.any)⟩
def ti86 : TI := ⟨.func #[] #[] false, 1, 8, .c (.any)⟩
def ti87 : TI := ⟨.func #[] #[] false, 1, 8, .c (.any)⟩
def ti88 : TI := ⟨.func #[] #[] false, 1, 8, .c (.any)⟩
def ti90 : TI := ⟨.func #[] #[] false, 1, 8, .c (.any)⟩
def ti91 : TI := ⟨.func #[] #[] false, 1, 8, .c (.any)⟩
def ti92 : TI := ⟨.func #[] #[] false, 1, 8, .c (.any)⟩
def ti93 : TI := ⟨.func #[] #[] false, 1, 8, .c (.any)⟩
def ti94 : TI := ⟨.func #[] #[] false, 1, 8, .c (.any)⟩
def ti95 : TI := ⟨.func #[] #[] false, 1, 8, .c (.any)⟩
def ti96 : TI := ⟨.func #[] #[] false, 1, 8, .c (.any)⟩
def ti97 : TI := ⟨.func #[] #[] false, 1, 8, .c (.any)⟩
def ti98 : TI := ⟨.func #[] #[] false, 1, 8, .c (.any)⟩
def ti99 : TI := ⟨.array 11 40, 22, 176, .agg (List.replicate 22 (.d (.int .i64 0)))⟩
def ti100 : TI := ⟨.array 11 40, 22, 176, .agg (List.replicate 22 (.d (.int .i64 0)))⟩
def ti101 : TI := ⟨.array 91 40, 182, 1456, .agg (List.replicate 182 (.d (.int .i64 0)))⟩
def ti102 : TI := ⟨.struct #[fld 26 0, fld 100 4, fld 101 26], 208, 1728, .agg (List.replicate 4 (.full []) ++ List.replicate 204 (.d (.int .i64 0)))⟩
def ti103 : TI := ⟨.struct #[fld 26 0, fld 100 4, fld 101 26], 208, 1728, .agg (List.replicate 4 (.full []) ++ List.replicate 204 (.d (.int .i64 0)))⟩
def ti105 : TI := ⟨.func #[] #[] false, 1, 8, .c (.any)⟩
def ti106 : TI := ⟨.func #[] #[] false, 1, 8, .c (.any)⟩
def ti107 : TI := ⟨.func #[] #[] false, 1, 8, .c (.any)⟩
def ti108 : TI := ⟨.func #[] #[] false, 1, 8, .c (.any)⟩
def ti109 : TI := ⟨.int .u64, 1, 8, .c (.d (.int .u64 0))⟩
def ti110 : TI := ⟨.func #[] #[] false, 1, 8, .c (.any)⟩
def ti111 : TI := ⟨.func #[] #[] false, 1, 8, .c (.any)⟩
def ti112 : TI := ⟨.func #[] #[] false, 1, 8, .c (.any)⟩
def ti113 : TI := ⟨.struct #[fld 3 0, fld 3 1], 2, 16, .agg ([.d (.int .i64 0), .d (.int .i64 0)])⟩
def ti114 : TI := ⟨.struct #[fld 3 0, fld 3 1], 2, 16, .agg ([.d (.int .i64 0), .d (.int .i64 0)])⟩
def ti115 : TI := ⟨.array 2 3, 2, 16, .agg ([.d (.int .i64 0), .d (.int .i64 0)])⟩
def ti116 : TI := ⟨.func #[] #[] false, 1, 8, .c (.any)⟩
def ti117 : TI := ⟨.func #[] #[] false, 1, 8, .c (.any)⟩
def ti123 : TI := ⟨.func #[] #[] false, 1, 8, .c (.any)⟩
def ti124 : TI := ⟨.int .u32, 1, 4, .c (.d (.int .u32 0))⟩
def ti128 : TI := ⟨.pointer 5, 1, 8, .c (.nilp)⟩
def ttA : List (List (Option TI)) := [[none, some ti1, some ti2, some ti3, some ti4, some ti5, none, none, none, none, none, none, some ti12],
  [none, none, none, none, none, some ti21, some ti22, some ti23, some ti24, some ti25, some ti26, some ti27, some ti28, some ti29, none, some ti31],
  [some ti32, some ti33, some ti34, some ti35, none, some ti37, some ti38, some ti39, some ti40, none, some ti42, some ti43, some ti44, none, some ti46, some ti47],
  [none, some ti49, some ti50, some ti51, some ti52, some ti53, some ti54, some ti55, some ti56, some ti57, some ti58, some ti59, none, some ti61, some ti62, some ti63],
  [some ti64, some ti65, some ti66, some ti67, some ti68, some ti69, some ti70, some ti71, some ti72, some ti73, some ti74, some ti75, some ti76, some ti77, some ti78, some ti79],
  [some ti80, none, some ti82, some ti83, none, some ti85, some ti86, some ti87, some ti88, none, some ti90, some ti91, some ti92, some ti93, some ti94, some ti95],
  [some ti96, some ti97, some ti98, some ti99, some ti100, some ti101, some ti102, some ti103, none, some ti105, some ti106, some ti107, some ti108, some ti109, some ti110, some ti111],
  [some ti112, some ti113, some ti114, some ti115, some ti116, some ti117, none, none, none, none, none, some ti123, some ti124],
  [some ti128]]
theorem ttOk : TTok Try.prog (lookC ttA) := ttok_fast (by kernel_rfl)
def eqM : Nat := 72696592797495080111159996294627328
noncomputable def tx : Tx := { P := Try.prog, tt := lookC ttA, eqs := eqM.testBit, ok := ttOk, eok := eok_fast (N := 116) (by decide) (by kernel_rfl) }
theorem tx_P : tx.P = Try.prog := rfl
theorem tx_vm : tx.vm = false := rfl
noncomputable def txv : Tx := { tx with vm := true }
theorem txv_vm : txv.vm = true := rfl
theorem txv_tt : txv.tt = tx.tt := rfl
theorem txv_eqs : txv.eqs = tx.eqs := rfl
theorem tt1 : tx.tt 1 = some ⟨.func #[] #[] false, 1, 8, .c (.any)⟩ := by kernel_rfl
theorem tt2 : tx.tt 2 = some ⟨.int .i64, 1, 8, .c (.d (.int .i64 0))⟩ := by kernel_rfl
theorem tt3 : tx.tt 3 = some ⟨.int .i64, 1, 8, .c (.d (.int .i64 0))⟩ := by kernel_rfl
theorem tt4 : tx.tt 4 = some ⟨.bool, 1, 1, .c (.d (.bool false))⟩ := by kernel_rfl
theorem tt5 : tx.tt 5 = some ⟨.int .u8, 1, 1, .c (.d (.int .u8 0))⟩ := by kernel_rfl
theorem tt12 : tx.tt 12 = some ⟨.int .u64, 1, 8, .c (.d (.int .u64 0))⟩ := by kernel_rfl
theorem tt21 : tx.tt 21 = some ⟨.int .i32, 1, 4, .c (.d (.int .i32 0))⟩ := by kernel_rfl
theorem tt22 : tx.tt 22 = some ⟨.slice 2, 1, 24, .c (.full [])⟩ := by kernel_rfl
theorem tt23 : tx.tt 23 = some ⟨.slice 40, 1, 24, .c (.full [])⟩ := by kernel_rfl
theorem tt24 : tx.tt 24 = some ⟨.slice 4, 1, 24, .c (.full [])⟩ := by kernel_rfl
theorem tt25 : tx.tt 25 = some ⟨.struct #[fld 22 0, fld 23 1, fld 24 2, fld 22 3], 4, 96, .agg ([.full [], .full [], .full [], .full []])⟩ := by kernel_rfl
theorem tt26 : tx.tt 26 = some ⟨.struct #[fld 22 0, fld 23 1, fld 24 2, fld 22 3], 4, 96, .agg ([.full [], .full [], .full [], .full []])⟩ := by kernel_rfl
theorem tt27 : tx.tt 27 = some ⟨.func #[] #[] false, 1, 8, .c (.any)⟩ := by kernel_rfl
theorem tt28 : tx.tt 28 = some ⟨.func #[] #[] false, 1, 8, .c (.any)⟩ := by kernel_rfl
theorem tt29 : tx.tt 29 = some ⟨.int .i64, 1, 8, .c (.d (.int .i64 0))⟩ := by kernel_rfl
theorem tt31 : tx.tt 31 = some ⟨.func #[] #[] false, 1, 8, .c (.any)⟩ := by kernel_rfl
theorem tt32 : tx.tt 32 = some ⟨.func #[] #[] false, 1, 8, .c (.any)⟩ := by kernel_rfl
theorem tt33 : tx.tt 33 = some ⟨.func #[] #[] false, 1, 8, .c (.any)⟩ := by kernel_rfl
theorem tt34 : tx.tt 34 = some ⟨.func #[] #[] false, 1, 8, .c (.any)⟩ := by kernel_rfl
theorem tt35 : tx.tt 35 = some ⟨.func #[] #[] false, 1, 8, .c (.any)⟩ := by kernel_rfl
theorem tt37 : tx.tt 37 = some ⟨.func #[] #[] false, 1, 8, .c (.any)⟩ := by kernel_rfl
theorem tt38 : tx.tt 38 = some ⟨.func #[] #[] false, 1, 8, .c (.any)⟩ := by kernel_rfl
theorem tt39 : tx.tt 39 = some ⟨.struct #[fld 2 0, fld 2 1], 2, 16, .agg ([.d (.int .i64 0), .d (.int .i64 0)])⟩ := by kernel_rfl
theorem tt40 : tx.tt 40 = some ⟨.struct #[fld 2 0, fld 2 1], 2, 16, .agg ([.d (.int .i64 0), .d (.int .i64 0)])⟩ := by kernel_rfl
theorem tt42 : tx.tt 42 = some ⟨.func #[] #[] false, 1, 8, .c (.any)⟩ := by kernel_rfl
theorem tt43 : tx.tt 43 = some ⟨.func #[] #[] false, 1, 8, .c (.any)⟩ := by kernel_rfl
theorem tt44 : tx.tt 44 = some ⟨.func #[] #[] false, 1, 8, .c (.any)⟩ := by kernel_rfl
theorem tt46 : tx.tt 46 = some ⟨.func #[] #[] false, 1, 8, .c (.any)⟩ := by kernel_rfl
theorem tt47 : tx.tt 47 = some ⟨.func #[] #[] false, 1, 8, .c (.any)⟩ := by kernel_rfl
theorem tt49 : tx.tt 49 = some ⟨.func #[] #[] false, 1, 8, .c (.any)⟩ := by kernel_rfl
theorem tt50 : tx.tt 50 = some ⟨.func #[] #[] false, 1, 8, .c (.any)⟩ := by kernel_rfl
theorem tt51 : tx.tt 51 = some ⟨.slice 5, 1, 24, .c (.full [])⟩ := by kernel_rfl
theorem tt52 : tx.tt 52 = some ⟨.func #[] #[] false, 1, 8, .c (.any)⟩ := by kernel_rfl
theorem tt53 : tx.tt 53 = some ⟨.func #[] #[] false, 1, 8, .c (.any)⟩ := by kernel_rfl
theorem tt54 : tx.tt 54 = some ⟨.slice 22, 1, 24, .c (.full [])⟩ := by kernel_rfl
theorem tt55 : tx.tt 55 = some ⟨.func #[] #[] false, 1, 8, .c (.any)⟩ := by kernel_rfl
theorem tt56 : tx.tt 56 = some ⟨.func #[] #[] false, 1, 8, .c (.any)⟩ := by kernel_rfl
theorem tt57 : tx.tt 57 = some ⟨.array 2 5, 2, 2, .agg ([.d (.int .u8 0), .d (.int .u8 0)])⟩ := by kernel_rfl
theorem tt58 : tx.tt 58 = some ⟨.func #[] #[] false, 1, 8, .c (.any)⟩ := by kernel_rfl
theorem tt59 : tx.tt 59 = some ⟨.func #[] #[] false, 1, 8, .c (.any)⟩ := by kernel_rfl
theorem tt61 : tx.tt 61 = some ⟨.func #[] #[] false, 1, 8, .c (.any)⟩ := by kernel_rfl
theorem tt62 : tx.tt 62 = some ⟨.func #[] #[] false, 1, 8, .c (.any)⟩ := by kernel_rfl
theorem tt63 : tx.tt 63 = some ⟨.func #[] #[] false, 1, 8, .c (.any)⟩ := by kernel_rfl
theorem tt64 : tx.tt 64 = some ⟨.func #[] #[] false, 1, 8, .c (.any)⟩ := by kernel_rfl
theorem tt65 : tx.tt 65 = some ⟨.func #[] #[] false, 1, 8, .c (.any)⟩ := by kernel_rfl
theorem tt66 : tx.tt 66 = some ⟨.int .u16, 1, 2, .c (.d (.int .u16 0))⟩ := by kernel_rfl
theorem tt67 : tx.tt 67 = some ⟨.func #[] #[] false, 1, 8, .c (.any)⟩ := by kernel_rfl
theorem tt68 : tx.tt 68 = some ⟨.func #[] #[] false, 1, 8, .c (.any)⟩ := by kernel_rfl
theorem tt69 : tx.tt 69 = some ⟨.func #[] #[] false, 1, 8, .c (.any)⟩ := by kernel_rfl
theorem tt70 : tx.tt 70 = some ⟨.func #[] #[] false, 1, 8, .c (.any)⟩ := by kernel_rfl
theorem tt71 : tx.tt 71 = some ⟨.func #[] #[] false, 1, 8, .c (.any)⟩ := by kernel_rfl
theorem tt72 : tx.tt 72 = some ⟨.func #[] #[] false, 1, 8, .c (.any)⟩ := by kernel_rfl
theorem tt73 : tx.tt 73 = some ⟨.func #[] #[] false, 1, 8, .c (.any)⟩ := by kernel_rfl
theorem tt74 : tx.tt 74 = some ⟨.func #[] #[] false, 1, 8, .c (.any)⟩ := by kernel_rfl
theorem tt75 : tx.tt 75 = some ⟨.func #[] #[] false, 1, 8, .c (.any)⟩ := by kernel_rfl
theorem tt76 : tx.tt 76 = some ⟨.func #[] #[] false, 1, 8, .c (.any)⟩ := by kernel_rfl
theorem tt77 : tx.tt 77 = some ⟨.func #[] #[] false, 1, 8, .c (.any)⟩ := by kernel_rfl
theorem tt78 : tx.tt 78 = some ⟨.struct #[fld 3 0, fld 3 1], 2, 16, .agg ([.d (.int .i64 0), .d (.int .i64 0)])⟩ := by kernel_rfl
theorem tt79 : tx.tt 79 = some ⟨.struct #[fld 3 0, fld 3 1], 2, 16, .agg ([.d (.int .i64 0), .d (.int .i64 0)])⟩ := by kernel_rfl
theorem tt80 : tx.tt 80 = some ⟨.func #[] #[] false, 1, 8, .c (.any)⟩ := by kernel_rfl
theorem tt82 : tx.tt 82 = some ⟨.func #[] #[] false, 1, 8, .c (.any)⟩ := by kernel_rfl
theorem tt83 : tx.tt 83 = some ⟨.pointer 103, 1, 8, .c (.nilp)⟩ := by kernel_rfl
theorem tt85 : tx.tt 85 = some ⟨.func #[] #[] false, 1, 8, .c (.any)⟩ := by kernel_rfl
theorem tt86 : tx.tt 86 = some ⟨.func #[] #[] false, 1, 8, .c (.any)⟩ := by kernel_rfl
theorem tt87 : tx.tt 87 = some ⟨.func #[] #[] false, 1, 8, .c (.any)⟩ := by kernel_rfl
theorem tt88 : tx.tt 88 = some ⟨.func #[] #[] false, 1, 8, .c (.any)⟩ := by kernel_rfl
theorem tt90 : tx.tt 90 = some ⟨.func #[] #[] false, 1, 8, .c (.any)⟩ := by kernel_rfl
theorem tt91 : tx.tt 91 = some ⟨.func #[] #[] false, 1, 8, .c (.any)⟩ := by kernel_rfl
theorem tt92 : tx.tt 92 = some ⟨.func #[] #[] false, 1, 8, .c (.any)⟩ := by kernel_rfl
theorem tt93 : tx.tt 93 = some ⟨.func #[] #[] false, 1, 8, .c (.any)⟩ := by kernel_rfl
theorem tt94 : tx.tt 94 = some ⟨.func #[] #[] false, 1, 8, .c (.any)⟩ := by kernel_rfl
theorem tt95 : tx.tt 95 = some ⟨.func #[] #[] false, 1, 8, .c (.any)⟩ := by kernel_rfl
theorem tt96 : tx.tt 96 = some ⟨.func #[] #[] false, 1, 8, .c (.any)⟩ := by kernel_rfl
theorem tt97 : tx.tt 97 = some ⟨.func #[] #[] false, 1, 8, .c (.any)⟩ := by kernel_rfl
theorem tt98 : tx.tt 98 = some ⟨.func #[] #[] false, 1, 8, .c (.any)⟩ := by kernel_rfl
theorem tt99 : tx.tt 99 = some ⟨.array 11 40, 22, 176, .agg (List.replicate 22 (.d (.int .i64 0)))⟩ := by kernel_rfl
theorem tt100 : tx.tt 100 = some ⟨.array 11 40, 22, 176, .agg (List.replicate 22 (.d (.int .i64 0)))⟩ := by kernel_rfl
theorem tt101 : tx.tt 101 = some ⟨.array 91 40, 182, 1456, .agg (List.replicate 182 (.d (.int .i64 0)))⟩ := by kernel_rfl
theorem tt102 : tx.tt 102 = some ⟨.struct #[fld 26 0, fld 100 4, fld 101 26], 208, 1728, .agg (List.replicate 4 (.full []) ++ List.replicate 204 (.d (.int .i64 0)))⟩ := by kernel_rfl
theorem tt103 : tx.tt 103 = some ⟨.struct #[fld 26 0, fld 100 4, fld 101 26], 208, 1728, .agg (List.replicate 4 (.full []) ++ List.replicate 204 (.d (.int .i64 0)))⟩ := by kernel_rfl
theorem tt105 : tx.tt 105 = some ⟨.func #[] #[] false, 1, 8, .c (.any)⟩ := by kernel_rfl
theorem tt106 : tx.tt 106 = some ⟨.func #[] #[] false, 1, 8, .c (.any)⟩ := by kernel_rfl
theorem tt107 : tx.tt 107 = some ⟨.func #[] #[] false, 1, 8, .c (.any)⟩ := by kernel_rfl
theorem tt108 : tx.tt 108 = some ⟨.func #[] #[] false, 1, 8, .c (.any)⟩ := by kernel_rfl
theorem tt109 : tx.tt 109 = some ⟨.int .u64, 1, 8, .c (.d (.int .u64 0))⟩ := by kernel_rfl
theorem tt110 : tx.tt 110 = some ⟨.func #[] #[] false, 1, 8, .c (.any)⟩ := by kernel_rfl
theorem tt111 : tx.tt 111 = some ⟨.func #[] #[] false, 1, 8, .c (.any)⟩ := by kernel_rfl
theorem tt112 : tx.tt 112 = some ⟨.func #[] #[] false, 1, 8, .c (.any)⟩ := by kernel_rfl
theorem tt113 : tx.tt 113 = some ⟨.struct #[fld 3 0, fld 3 1], 2, 16, .agg ([.d (.int .i64 0), .d (.int .i64 0)])⟩ := by kernel_rfl
theorem tt114 : tx.tt 114 = some ⟨.struct #[fld 3 0, fld 3 1], 2, 16, .agg ([.d (.int .i64 0), .d (.int .i64 0)])⟩ := by kernel_rfl
theorem tt115 : tx.tt 115 = some ⟨.array 2 3, 2, 16, .agg ([.d (.int .i64 0), .d (.int .i64 0)])⟩ := by kernel_rfl
theorem tt116 : tx.tt 116 = some ⟨.func #[] #[] false, 1, 8, .c (.any)⟩ := by kernel_rfl
theorem tt117 : tx.tt 117 = some ⟨.func #[] #[] false, 1, 8, .c (.any)⟩ := by kernel_rfl
theorem tt123 : tx.tt 123 = some ⟨.func #[] #[] false, 1, 8, .c (.any)⟩ := by kernel_rfl
theorem tt124 : tx.tt 124 = some ⟨.int .u32, 1, 4, .c (.d (.int .u32 0))⟩ := by kernel_rfl
theorem tt128 : tx.tt 128 = some ⟨.pointer 5, 1, 8, .c (.nilp)⟩ := by kernel_rfl
theorem eq39 : tx.eqs 39 = true := by kernel_rfl
theorem eq40 : tx.eqs 40 = true := by kernel_rfl
theorem eq57 : tx.eqs 57 = true := by kernel_rfl
theorem eq78 : tx.eqs 78 = true := by kernel_rfl
theorem eq79 : tx.eqs 79 = true := by kernel_rfl
theorem eq99 : tx.eqs 99 = true := by kernel_rfl
theorem eq100 : tx.eqs 100 = true := by kernel_rfl
theorem eq101 : tx.eqs 101 = true := by kernel_rfl
theorem eq113 : tx.eqs 113 = true := by kernel_rfl
theorem eq114 : tx.eqs 114 = true := by kernel_rfl
theorem eq115 : tx.eqs 115 = true := by kernel_rfl
end Go.Proofs.Ytliamojogmlgjaa
