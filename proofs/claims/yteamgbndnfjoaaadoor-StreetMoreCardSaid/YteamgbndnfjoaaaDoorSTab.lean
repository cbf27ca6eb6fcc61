/- The types of the program, as the logic wants them: a table, and that it tells the program's types. -/
import Derived.Test.YteamgbndnfjoaaaDoorMG
import Derived.KernelRfl
import Derived.Test.YteamgbndnfjoaaaDoorAbsT
import Derived.Test.YteamgbndnfjoaaaDoorProg
set_option linter.unusedSimpArgs false
set_option linter.unusedVariables false
namespace Go.Proofs.YteamgbndnfjoaaaDoor
open Go Go.Abs Go.Proofs
def ti1 : TI := ⟨.func #[] #[] false, 1, 8, .c (.any)⟩
def ti2 : TI := ⟨.int .i64, 1, 8, .c (.d (.int .i64 0))⟩
def ti3 : TI := ⟨.int .i64, 1, 8, .c (.d (.int .i64 0))⟩
def ti4 : TI := ⟨.bool, 1, 1, .c (.d (.bool false))⟩
def ti5 : TI := ⟨.int .u8, 1, 1, .c (.d (.int .u8 0))⟩
def ti12 : TI := ⟨.int .u64, 1, 8, .c (.d (.int .u64 0))⟩
def ti21 : TI := ⟨.int .i32, 1, 4, .c (.d (.int .i32 0))⟩
def ti22 : TI := ⟨.slice 58, 1, 24, .c (.full [])⟩
def ti23 : TI := ⟨.struct #[fld 3 0, fld 3 1, fld 3 2, fld 22 3], 4, 48, .agg ([.d (.int .i64 0), .d (.int .i64 0), .d (.int .i64 0), .full []])⟩
def ti24 : TI := ⟨.struct #[fld 3 0, fld 3 1, fld 3 2, fld 22 3], 4, 48, .agg ([.d (.int .i64 0), .d (.int .i64 0), .d (.int .i64 0), .full []])⟩
def ti25 : TI := ⟨.slice 3, 1, 24, .c (.full [])⟩
def ti26 : TI := ⟨.func #[] #[] false, 1, 8, .c (.any)⟩
def ti27 : TI := ⟨.func #[] #[] false, 1, 8, .c (.any)⟩
def ti28 : TI := ⟨.int .i64, 1, 8, .c (.d (.int .i64 0))⟩
def ti30 : TI := ⟨.func #[] #[] false, 1, 8, .c (.any)⟩
def ti32 : TI := ⟨.func #[] #[] false, 1, 8, .c (.any)⟩
def ti33 : TI := ⟨.func #[] #[] false, 1, 8, .c (.any)⟩
def ti34 : TI := ⟨.func #[] #[] false, 1, 8, .c (.any)⟩
def ti35 : TI := ⟨.func #[] #[] false, 1, 8, .c (.any)⟩
def ti36 : TI := ⟨.func #[] #[] false, 1, 8, .c (.any)⟩
def ti38 : TI := ⟨.func #[] #[] false, 1, 8, .c (.any)⟩
def ti39 : TI := ⟨.func #[] #[] false, 1, 8, .c (.any)⟩
def ti40 : TI := ⟨.func #[] #[] false, 1, 8, .c (.any)⟩
def ti42 : TI := ⟨.func #[] #[] false, 1, 8, .c (.any)⟩
def ti44 : TI := ⟨.func #[] #[] false, 1, 8, .c (.any)⟩
def ti45 : TI := ⟨.slice 2, 1, 24, .c (.full [])⟩
def ti46 : TI := ⟨.func #[] #[] false, 1, 8, .c (.any)⟩
def ti48 : TI := ⟨.func #[] #[] false, 1, 8, .c (.any)⟩
def ti49 : TI := ⟨.func #[] #[] false, 1, 8, .c (.any)⟩
def ti50 : TI := ⟨.int .u32, 1, 4, .c (.d (.int .u32 0))⟩
def ti51 : TI := ⟨.func #[] #[] false, 1, 8, .c (.any)⟩
def ti52 : TI := ⟨.func #[] #[] false, 1, 8, .c (.any)⟩
def ti53 : TI := ⟨.func #[] #[] false, 1, 8, .c (.any)⟩
def ti54 : TI := ⟨.func #[] #[] false, 1, 8, .c (.any)⟩
def ti55 : TI := ⟨.array 2 5, 2, 2, .agg ([.d (.int .u8 0), .d (.int .u8 0)])⟩
def ti56 : TI := ⟨.func #[] #[] false, 1, 8, .c (.any)⟩
def ti57 : TI := ⟨.struct #[fld 3 0, fld 3 1, fld 2 2], 3, 24, .agg ([.d (.int .i64 0), .d (.int .i64 0), .d (.int .i64 0)])⟩
def ti58 : TI := ⟨.struct #[fld 3 0, fld 3 1, fld 2 2], 3, 24, .agg ([.d (.int .i64 0), .d (.int .i64 0), .d (.int .i64 0)])⟩
def ti59 : TI := ⟨.func #[] #[] false, 1, 8, .c (.any)⟩
def ti60 : TI := ⟨.slice 24, 1, 24, .c (.full [])⟩
def ti61 : TI := ⟨.func #[] #[] false, 1, 8, .c (.any)⟩
def ti62 : TI := ⟨.func #[] #[] false, 1, 8, .c (.any)⟩
def ti63 : TI := ⟨.func #[] #[] false, 1, 8, .c (.any)⟩
def ti64 : TI := ⟨.func #[] #[] false, 1, 8, .c (.any)⟩
def ti65 : TI := ⟨.pointer 79, 1, 8, .c (.nilp)⟩
def ti67 : TI := ⟨.func #[] #[] false, 1, 8, .c (.any)⟩
def ti68 : TI := ⟨.func #[] #[] false, 1, 8, .c (.any)⟩
def ti69 : TI := ⟨.func #[] #[] false, 1, 8, .c (.any)⟩
def ti70 : TI := ⟨.func #[] #[] false, 1, 8, .c (.any)⟩
def ti71 : TI := ⟨.func #[] #[] false, 1, 8, .c (.any)⟩
def ti72 : TI := ⟨.func #[] #[] false, 1, 8, .c (.any)⟩
def ti73 : TI := ⟨.func #[] #[] false, 1, 8, .c (.any)⟩
def ti74 : TI := ⟨.func #[] #[] false, 1, 8, .c (.any)⟩
def ti75 : TI := ⟨.func #[] #[] false, 1, 8, .c (.any)⟩
def ti76 : TI := ⟨.array 24 3, 24, 192, .agg (List.replicate 24 (.d (.int .i64 0)))⟩
def ti77 : TI := ⟨.array 40 3, 40, 320, .agg (List.replicate 40 (.d (.int .i64 0)))⟩
def ti78 : TI := ⟨.struct #[fld 24 0, fld 76 4, fld 77 28], 68, 560, .agg ([.d (.int .i64 0), .d (.int .i64 0), .d (.int .i64 0)] ++ [.full []] ++ List.replicate 64 (.d (.int .i64 0)))⟩
def ti79 : TI := ⟨.struct #[fld 24 0, fld 76 4, fld 77 28], 68, 560, .agg ([.d (.int .i64 0), .d (.int .i64 0), .d (.int .i64 0)] ++ [.full []] ++ List.replicate 64 (.d (.int .i64 0)))⟩
def ti80 : TI := ⟨.func #[] #[] false, 1, 8, .c (.any)⟩
def ti81 : TI := ⟨.func #[] #[] false, 1, 8, .c (.any)⟩
def ti82 : TI := ⟨.func #[] #[] false, 1, 8, .c (.any)⟩
def ti83 : TI := ⟨.array 41 2, 41, 328, .agg (List.replicate 41 (.d (.int .i64 0)))⟩
def ti84 : TI := ⟨.array 41 2, 41, 328, .agg (List.replicate 41 (.d (.int .i64 0)))⟩
def ti86 : TI := ⟨.func #[] #[] false, 1, 8, .c (.any)⟩
def ti87 : TI := ⟨.func #[] #[] false, 1, 8, .c (.any)⟩
def ti88 : TI := ⟨.func #[] #[] false, 1, 8, .c (.any)⟩
def ti90 : TI := ⟨.func #[] #[] false, 1, 8, .c (.any)⟩
def ti91 : TI := ⟨.func #[] #[] false, 1, 8, .c (.any)⟩
def ti92 : TI := ⟨.func #[] #[] false, 1, 8, .c (.any)⟩
def ti93 : TI := ⟨.func #[] #[] false, 1, 8, .c (.any)⟩
def ti94 : TI := ⟨.map 3 98, 1, 8, .c (.any)⟩
def ti96 : TI := ⟨.func #[] #[] false, 1, 8, .c (.any)⟩
def ti97 : TI := ⟨.struct #[fld 3 0, fld 3 1, fld 2 2, fld 3 3], 4, 32, .agg ([.d (.int .i64 0), .d (.int .i64 0), .d (.int .i64 0), .d (.int .i64 0)])⟩
def ti98 : TI := ⟨.struct #[fld 3 0, fld 3 1, fld 2 2, fld 3 3], 4, 32, .agg ([.d (.int .i64 0), .d (.int .i64 0), .d (.int .i64 0), .d (.int .i64 0)])⟩
def ti100 : TI := ⟨.func #[] #[] false, 1, 8, .c (.any)⟩
def ti101 : TI := ⟨.func #[] #[] false, 1, 8, .c (.any)⟩
def ti102 : TI := ⟨.func #[] #[] false, 1, 8, .c (.any)⟩
def ti103 : TI := ⟨.func #[] #[] false, 1, 8, .c (.any)⟩
def ti104 : TI := ⟨.func #[] #[] false, 1, 8, .c (.any)⟩
def ti105 : TI := ⟨.func #[] #[] false, 1, 8, .c (.any)⟩
def ti106 : TI := ⟨.func #[] #[] false, 1, 8, .c (.any)⟩
def ti107 : TI := ⟨.func #[] #[] false, 1, 8, .c (.any)⟩
def ti113 : TI := ⟨.func #[] #[] false, 1, 8, .c (.any)⟩
def ti117 : TI := ⟨.pointer 5, 1, 8, .c (.nilp)⟩
def ttA : List (List (Option TI)) := [[none, some ti1, some ti2, some ti3, some ti4, some ti5, none, none, none, none, none, none, some ti12],
  [none, none, none, none, none, some ti21, some ti22, some ti23, some ti24, some ti25, some ti26, some ti27, some ti28, none, some ti30],
  [some ti32, some ti33, some ti34, some ti35, some ti36, none, some ti38, some ti39, some ti40, none, some ti42, none, some ti44, some ti45, some ti46],
  [some ti48, some ti49, some ti50, some ti51, some ti52, some ti53, some ti54, some ti55, some ti56, some ti57, some ti58, some ti59, some ti60, some ti61, some ti62, some ti63],
  [some ti64, some ti65, none, some ti67, some ti68, some ti69, some ti70, some ti71, some ti72, some ti73, some ti74, some ti75, some ti76, some ti77, some ti78, some ti79],
  [some ti80, some ti81, some ti82, some ti83, some ti84, none, some ti86, some ti87, some ti88, none, some ti90, some ti91, some ti92, some ti93, some ti94],
  [some ti96, some ti97, some ti98, none, some ti100, some ti101, some ti102, some ti103, some ti104, some ti105, some ti106, some ti107],
  [none, some ti113, none, none, none, some ti117]]
theorem ttOk : TTok Tryd.prog (lookC ttA) := ttok_fast (by kernel_rfl)
def eqM : Nat := 475398215979316328765673439232
noncomputable def tx : Tx := { P := Tryd.prog, tt := lookC ttA, eqs := eqM.testBit, ok := ttOk, eok := eok_fast (N := 99) (by decide) (by kernel_rfl) }
theorem tx_P : tx.P = Tryd.prog := rfl
theorem tt1 : tx.tt 1 = some ⟨.func #[] #[] false, 1, 8, .c (.any)⟩ := by kernel_rfl
theorem tt2 : tx.tt 2 = some ⟨.int .i64, 1, 8, .c (.d (.int .i64 0))⟩ := by kernel_rfl
theorem tt3 : tx.tt 3 = some ⟨.int .i64, 1, 8, .c (.d (.int .i64 0))⟩ := by kernel_rfl
theorem tt4 : tx.tt 4 = some ⟨.bool, 1, 1, .c (.d (.bool false))⟩ := by kernel_rfl
theorem tt5 : tx.tt 5 = some ⟨.int .u8, 1, 1, .c (.d (.int .u8 0))⟩ := by kernel_rfl
theorem tt12 : tx.tt 12 = some ⟨.int .u64, 1, 8, .c (.d (.int .u64 0))⟩ := by kernel_rfl
theorem tt21 : tx.tt 21 = some ⟨.int .i32, 1, 4, .c (.d (.int .i32 0))⟩ := by kernel_rfl
theorem tt22 : tx.tt 22 = some ⟨.slice 58, 1, 24, .c (.full [])⟩ := by kernel_rfl
theorem tt23 : tx.tt 23 = some ⟨.struct #[fld 3 0, fld 3 1, fld 3 2, fld 22 3], 4, 48, .agg ([.d (.int .i64 0), .d (.int .i64 0), .d (.int .i64 0), .full []])⟩ := by kernel_rfl
theorem tt24 : tx.tt 24 = some ⟨.struct #[fld 3 0, fld 3 1, fld 3 2, fld 22 3], 4, 48, .agg ([.d (.int .i64 0), .d (.int .i64 0), .d (.int .i64 0), .full []])⟩ := by kernel_rfl
theorem tt25 : tx.tt 25 = some ⟨.slice 3, 1, 24, .c (.full [])⟩ := by kernel_rfl
theorem tt26 : tx.tt 26 = some ⟨.func #[] #[] false, 1, 8, .c (.any)⟩ := by kernel_rfl
theorem tt27 : tx.tt 27 = some ⟨.func #[] #[] false, 1, 8, .c (.any)⟩ := by kernel_rfl
theorem tt28 : tx.tt 28 = some ⟨.int .i64, 1, 8, .c (.d (.int .i64 0))⟩ := by kernel_rfl
theorem tt30 : tx.tt 30 = some ⟨.func #[] #[] false, 1, 8, .c (.any)⟩ := by kernel_rfl
theorem tt32 : tx.tt 32 = some ⟨.func #[] #[] false, 1, 8, .c (.any)⟩ := by kernel_rfl
theorem tt33 : tx.tt 33 = some ⟨.func #[] #[] false, 1, 8, .c (.any)⟩ := by kernel_rfl
theorem tt34 : tx.tt 34 = some ⟨.func #[] #[] false, 1, 8, .c (.any)⟩ := by kernel_rfl
theorem tt35 : tx.tt 35 = some ⟨.func #[] #[] false, 1, 8, .c (.any)⟩ := by kernel_rfl
theorem tt36 : tx.tt 36 = some ⟨.func #[] #[] false, 1, 8, .c (.any)⟩ := by kernel_rfl
theorem tt38 : tx.tt 38 = some ⟨.func #[] #[] false, 1, 8, .c (.any)⟩ := by kernel_rfl
theorem tt39 : tx.tt 39 = some ⟨.func #[] #[] false, 1, 8, .c (.any)⟩ := by kernel_rfl
theorem tt40 : tx.tt 40 = some ⟨.func #[] #[] false, 1, 8, .c (.any)⟩ := by kernel_rfl
theorem tt42 : tx.tt 42 = some ⟨.func #[] #[] false, 1, 8, .c (.any)⟩ := by kernel_rfl
theorem tt44 : tx.tt 44 = some ⟨.func #[] #[] false, 1, 8, .c (.any)⟩ := by kernel_rfl
theorem tt45 : tx.tt 45 = some ⟨.slice 2, 1, 24, .c (.full [])⟩ := by kernel_rfl
theorem tt46 : tx.tt 46 = some ⟨.func #[] #[] false, 1, 8, .c (.any)⟩ := by kernel_rfl
theorem tt48 : tx.tt 48 = some ⟨.func #[] #[] false, 1, 8, .c (.any)⟩ := by kernel_rfl
theorem tt49 : tx.tt 49 = some ⟨.func #[] #[] false, 1, 8, .c (.any)⟩ := by kernel_rfl
theorem tt50 : tx.tt 50 = some ⟨.int .u32, 1, 4, .c (.d (.int .u32 0))⟩ := by kernel_rfl
theorem tt51 : tx.tt 51 = some ⟨.func #[] #[] false, 1, 8, .c (.any)⟩ := by kernel_rfl
theorem tt52 : tx.tt 52 = some ⟨.func #[] #[] false, 1, 8, .c (.any)⟩ := by kernel_rfl
theorem tt53 : tx.tt 53 = some ⟨.func #[] #[] false, 1, 8, .c (.any)⟩ := by kernel_rfl
theorem tt54 : tx.tt 54 = some ⟨.func #[] #[] false, 1, 8, .c (.any)⟩ := by kernel_rfl
theorem tt55 : tx.tt 55 = some ⟨.array 2 5, 2, 2, .agg ([.d (.int .u8 0), .d (.int .u8 0)])⟩ := by kernel_rfl
theorem tt56 : tx.tt 56 = some ⟨.func #[] #[] false, 1, 8, .c (.any)⟩ := by kernel_rfl
theorem tt57 : tx.tt 57 = some ⟨.struct #[fld 3 0, fld 3 1, fld 2 2], 3, 24, .agg ([.d (.int .i64 0), .d (.int .i64 0), .d (.int .i64 0)])⟩ := by kernel_rfl
theorem tt58 : tx.tt 58 = some ⟨.struct #[fld 3 0, fld 3 1, fld 2 2], 3, 24, .agg ([.d (.int .i64 0), .d (.int .i64 0), .d (.int .i64 0)])⟩ := by kernel_rfl
theorem tt59 : tx.tt 59 = some ⟨.func #[] #[] false, 1, 8, .c (.any)⟩ := by kernel_rfl
theorem tt60 : tx.tt 60 = some ⟨.slice 24, 1, 24, .c (.full [])⟩ := by kernel_rfl
theorem tt61 : tx.tt 61 = some ⟨.func #[] #[] false, 1, 8, .c (.any)⟩ := by kernel_rfl
theorem tt62 : tx.tt 62 = some ⟨.func #[] #[] false, 1, 8, .c (.any)⟩ := by kernel_rfl
theorem tt63 : tx.tt 63 = some ⟨.func #[] #[] false, 1, 8, .c (.any)⟩ := by kernel_rfl
theorem tt64 : tx.tt 64 = some ⟨.func #[] #[] false, 1, 8, .c (.any)⟩ := by kernel_rfl
theorem tt65 : tx.tt 65 = some ⟨.pointer 79, 1, 8, .c (.nilp)⟩ := by kernel_rfl
theorem tt67 : tx.tt 67 = some ⟨.func #[] #[] false, 1, 8, .c (.any)⟩ := by kernel_rfl
theorem tt68 : tx.tt 68 = some ⟨.func #[] #[] false, 1, 8, .c (.any)⟩ := by kernel_rfl
theorem tt69 : tx.tt 69 = some ⟨.func #[] #[] false, 1, 8, .c (.any)⟩ := by kernel_rfl
theorem tt70 : tx.tt 70 = some ⟨.func #[] #[] false, 1, 8, .c (.any)⟩ := by kernel_rfl
theorem tt71 : tx.tt 71 = some ⟨.func #[] #[] false, 1, 8, .c (.any)⟩ := by kernel_rfl
theorem tt72 : tx.tt 72 = some ⟨.func #[] #[] false, 1, 8, .c (.any)⟩ := by kernel_rfl
theorem tt73 : tx.tt 73 = some ⟨.func #[] #[] false, 1, 8, .c (.any)⟩ := by kernel_rfl
theorem tt74 : tx.tt 74 = some ⟨.func #[] #[] false, 1, 8, .c (.any)⟩ := by kernel_rfl
theorem tt75 : tx.tt 75 = some ⟨.func #[] #[] false, 1, 8, .c (.any)⟩ := by kernel_rfl
theorem tt76 : tx.tt 76 = some ⟨.array 24 3, 24, 192, .agg (List.replicate 24 (.d (.int .i64 0)))⟩ := by kernel_rfl
theorem tt77 : tx.tt 77 = some ⟨.array 40 3, 40, 320, .agg (List.replicate 40 (.d (.int .i64 0)))⟩ := by kernel_rfl
theorem tt78 : tx.tt 78 = some ⟨.struct #[fld 24 0, fld 76 4, fld 77 28], 68, 560, .agg ([.d (.int .i64 0), .d (.int .i64 0), .d (.int .i64 0)] ++ [.full []] ++ List.replicate 64 (.d (.int .i64 0)))⟩ := by kernel_rfl
theorem tt79 : tx.tt 79 = some ⟨.struct #[fld 24 0, fld 76 4, fld 77 28], 68, 560, .agg ([.d (.int .i64 0), .d (.int .i64 0), .d (.int .i64 0)] ++ [.full []] ++ List.replicate 64 (.d (.int .i64 0)))⟩ := by kernel_rfl
theorem tt80 : tx.tt 80 = some ⟨.func #[] #[] false, 1, 8, .c (.any)⟩ := by kernel_rfl
theorem tt81 : tx.tt 81 = some ⟨.func #[] #[] false, 1, 8, .c (.any)⟩ := by kernel_rfl
theorem tt82 : tx.tt 82 = some ⟨.func #[] #[] false, 1, 8, .c (.any)⟩ := by kernel_rfl
theorem tt83 : tx.tt 83 = some ⟨.array 41 2, 41, 328, .agg (List.replicate 41 (.d (.int .i64 0)))⟩ := by kernel_rfl
theorem tt84 : tx.tt 84 = some ⟨.array 41 2, 41, 328, .agg (List.replicate 41 (.d (.int .i64 0)))⟩ := by kernel_rfl
theorem tt86 : tx.tt 86 = some ⟨.func #[] #[] false, 1, 8, .c (.any)⟩ := by kernel_rfl
theorem tt87 : tx.tt 87 = some ⟨.func #[] #[] false, 1, 8, .c (.any)⟩ := by kernel_rfl
theorem tt88 : tx.tt 88 = some ⟨.func #[] #[] false, 1, 8, .c (.any)⟩ := by kernel_rfl
theorem tt90 : tx.tt 90 = some ⟨.func #[] #[] false, 1, 8, .c (.any)⟩ := by kernel_rfl
theorem tt91 : tx.tt 91 = some ⟨.func #[] #[] false, 1, 8, .c (.any)⟩ := by kernel_rfl
theorem tt92 : tx.tt 92 = some ⟨.func #[] #[] false, 1, 8, .c (.any)⟩ := by kernel_rfl
theorem tt93 : tx.tt 93 = some ⟨.func #[] #[] false, 1, 8, .c (.any)⟩ := by kernel_rfl
theorem tt94 : tx.tt 94 = some ⟨.map 3 98, 1, 8, .c (.any)⟩ := by kernel_rfl
theorem tt96 : tx.tt 96 = some ⟨.func #[] #[] false, 1, 8, .c (.any)⟩ := by kernel_rfl
theorem tt97 : tx.tt 97 = some ⟨.struct #[fld 3 0, fld 3 1, fld 2 2, fld 3 3], 4, 32, .agg ([.d (.int .i64 0), .d (.int .i64 0), .d (.int .i64 0), .d (.int .i64 0)])⟩ := by kernel_rfl
theorem tt98 : tx.tt 98 = some ⟨.struct #[fld 3 0, fld 3 1, fld 2 2, fld 3 3], 4, 32, .agg ([.d (.int .i64 0), .d (.int .i64 0), .d (.int .i64 0), .d (.int .i64 0)])⟩ := by kernel_rfl
theorem tt100 : tx.tt 100 = some ⟨.func #[] #[] false, 1, 8, .c (.any)⟩ := by kernel_rfl
theorem tt101 : tx.tt 101 = some ⟨.func #[] #[] false, 1, 8, .c (.any)⟩ := by kernel_rfl
theorem tt102 : tx.tt 102 = some ⟨.func #[] #[] false, 1, 8, .c (.any)⟩ := by kernel_rfl
theorem tt103 : tx.tt 103 = some ⟨.func #[] #[] false, 1, 8, .c (.any)⟩ := by kernel_rfl
theorem tt104 : tx.tt 104 = some ⟨.func #[] #[] false, 1, 8, .c (.any)⟩ := by kernel_rfl
theorem tt105 : tx.tt 105 = some ⟨.func #[] #[] false, 1, 8, .c (.any)⟩ := by kernel_rfl
theorem tt106 : tx.tt 106 = some ⟨.func #[] #[] false, 1, 8, .c (.any)⟩ := by kernel_rfl
theorem tt107 : tx.tt 107 = some ⟨.func #[] #[] false, 1, 8, .c (.any)⟩ := by kernel_rfl
theorem tt113 : tx.tt 113 = some ⟨.func #[] #[] false, 1, 8, .c (.any)⟩ := by kernel_rfl
theorem tt117 : tx.tt 117 = some ⟨.pointer 5, 1, 8, .c (.nilp)⟩ := by kernel_rfl
theorem eq55 : tx.eqs 55 = true := by kernel_rfl
theorem eq57 : tx.eqs 57 = true := by kernel_rfl
theorem eq58 : tx.eqs 58 = true := by kernel_rfl
theorem eq76 : tx.eqs 76 = true := by kernel_rfl
theorem eq77 : tx.eqs 77 = true := by kernel_rfl
theorem eq83 : tx.eqs 83 = true := by kernel_rfl
theorem eq84 : tx.eqs 84 = true := by kernel_rfl
theorem eq97 : tx.eqs 97 = true := by kernel_rfl
theorem eq98 : tx.eqs 98 = true := by kernel_rfl
end Go.Proofs.YteamgbndnfjoaaaDoor
