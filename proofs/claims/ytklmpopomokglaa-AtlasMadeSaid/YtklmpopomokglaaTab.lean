/- The types of the program, as the logic wants them: a table, and that it tells the program's types. -/
import Derived.Test.YtklmpopomokglaaMG
import Derived.KernelRfl
import Derived.Test.YtklmpopomokglaaAbsT
import Derived.Test.YtklmpopomokglaaProg
set_option linter.unusedSimpArgs false
set_option linter.unusedVariables false
namespace Go.Proofs.Ytklmpopomokglaa
open Go Go.Abs Go.Proofs
def ti1 : TI := ⟨.func #[] #[] false, 1, 8, .c (.any)⟩
def ti2 : TI := ⟨.int .i64, 1, 8, .c (.d (.int .i64 0))⟩
def ti3 : TI := ⟨.int .i64, 1, 8, .c (.d (.int .i64 0))⟩
def ti4 : TI := ⟨.bool, 1, 1, .c (.d (.bool false))⟩
def ti5 : TI := ⟨.int .u8, 1, 1, .c (.d (.int .u8 0))⟩
def ti12 : TI := ⟨.int .u64, 1, 8, .c (.d (.int .u64 0))⟩
def ti21 : TI := ⟨.int .i32, 1, 4, .c (.d (.int .i32 0))⟩
def ti22 : TI := ⟨.slice 29, 1, 24, .c (.full [])⟩
def ti23 : TI := ⟨.struct #[fld 3 0, fld 22 1], 2, 32, .agg ([.d (.int .i64 0), .full []])⟩
def ti24 : TI := ⟨.struct #[fld 3 0, fld 22 1], 2, 32, .agg ([.d (.int .i64 0), .full []])⟩
def ti25 : TI := ⟨.struct #[fld 3 0, fld 3 1], 2, 16, .agg ([.d (.int .i64 0), .d (.int .i64 0)])⟩
def ti26 : TI := ⟨.struct #[fld 3 0, fld 3 1], 2, 16, .agg ([.d (.int .i64 0), .d (.int .i64 0)])⟩
def ti27 : TI := ⟨.func #[] #[] false, 1, 8, .c (.any)⟩
def ti28 : TI := ⟨.func #[] #[] false, 1, 8, .c (.any)⟩
def ti29 : TI := ⟨.slice 3, 1, 24, .c (.full [])⟩
def ti30 : TI := ⟨.int .i64, 1, 8, .c (.d (.int .i64 0))⟩
def ti32 : TI := ⟨.func #[] #[] false, 1, 8, .c (.any)⟩
def ti33 : TI := ⟨.func #[] #[] false, 1, 8, .c (.any)⟩
def ti34 : TI := ⟨.func #[] #[] false, 1, 8, .c (.any)⟩
def ti35 : TI := ⟨.func #[] #[] false, 1, 8, .c (.any)⟩
def ti36 : TI := ⟨.slice 26, 1, 24, .c (.full [])⟩
def ti38 : TI := ⟨.func #[] #[] false, 1, 8, .c (.any)⟩
def ti39 : TI := ⟨.func #[] #[] false, 1, 8, .c (.any)⟩
def ti40 : TI := ⟨.func #[] #[] false, 1, 8, .c (.any)⟩
def ti41 : TI := ⟨.func #[] #[] false, 1, 8, .c (.any)⟩
def ti43 : TI := ⟨.func #[] #[] false, 1, 8, .c (.any)⟩
def ti44 : TI := ⟨.func #[] #[] false, 1, 8, .c (.any)⟩
def ti46 : TI := ⟨.func #[] #[] false, 1, 8, .c (.any)⟩
def ti47 : TI := ⟨.func #[] #[] false, 1, 8, .c (.any)⟩
def ti48 : TI := ⟨.func #[] #[] false, 1, 8, .c (.any)⟩
def ti49 : TI := ⟨.func #[] #[] false, 1, 8, .c (.any)⟩
def ti50 : TI := ⟨.func #[] #[] false, 1, 8, .c (.any)⟩
def ti52 : TI := ⟨.func #[] #[] false, 1, 8, .c (.any)⟩
def ti53 : TI := ⟨.func #[] #[] false, 1, 8, .c (.any)⟩
def ti54 : TI := ⟨.func #[] #[] false, 1, 8, .c (.any)⟩
def ti55 : TI := ⟨.func #[] #[] false, 1, 8, .c (.any)⟩
def ti56 : TI := ⟨.func #[] #[] false, 1, 8, .c (.any)⟩
def ti57 : TI := ⟨.func #[] #[] false, 1, 8, .c (.any)⟩
def ti58 : TI := ⟨.func #[] #[] false, 1, 8, .c (.any)⟩
def ti59 : TI := ⟨.pointer 89, 1, 8, .c (.nilp)⟩
def ti61 : TI := ⟨.func #[] #[] false, 1, 8, .c (.any)⟩
def ti62 : TI := ⟨.array 4 3, 4, 32, .agg ([.d (.int .i64 0), .d (.int .i64 0), .d (.int .i64 0), .d (.int .i64 0)])⟩
def ti63 : TI := ⟨.array 4 3, 4, 32, .agg ([.d (.int .i64 0), .d (.int .i64 0), .d (.int .i64 0), .d (.int .i64 0)])⟩
def ti64 : TI := ⟨.func #[] #[] false, 1, 8, .c (.any)⟩
def ti65 : TI := ⟨.func #[] #[] false, 1, 8, .c (.any)⟩
def ti66 : TI := ⟨.func #[] #[] false, 1, 8, .c (.any)⟩
def ti67 : TI := ⟨.func #[] #[] false, 1, 8, .c (.any)⟩
def ti68 : TI := ⟨.func #[] #[] false, 1, 8, .c (.any)⟩
def ti69 : TI := ⟨.func #[] #[] false, 1, 8, .c (.any)⟩
def ti70 : TI := ⟨.func #[] #[] false, 1, 8, .c (.any)⟩
def ti71 : TI := ⟨.func #[] #[] false, 1, 8, .c (.any)⟩
def ti72 : TI := ⟨.func #[] #[] false, 1, 8, .c (.any)⟩
def ti73 : TI := ⟨.func #[] #[] false, 1, 8, .c (.any)⟩
def ti74 : TI := ⟨.func #[] #[] false, 1, 8, .c (.any)⟩
def ti75 : TI := ⟨.func #[] #[] false, 1, 8, .c (.any)⟩
def ti76 : TI := ⟨.map 63 26, 1, 8, .c (.any)⟩
def ti78 : TI := ⟨.func #[] #[] false, 1, 8, .c (.any)⟩
def ti79 : TI := ⟨.map 63 3, 1, 8, .c (.any)⟩
def ti80 : TI := ⟨.slice 63, 1, 24, .c (.full [])⟩
def ti81 : TI := ⟨.func #[] #[] false, 1, 8, .c (.any)⟩
def ti82 : TI := ⟨.func #[] #[] false, 1, 8, .c (.any)⟩
def ti83 : TI := ⟨.func #[] #[] false, 1, 8, .c (.any)⟩
def ti84 : TI := ⟨.func #[] #[] false, 1, 8, .c (.any)⟩
def ti85 : TI := ⟨.func #[] #[] false, 1, 8, .c (.any)⟩
def ti87 : TI := ⟨.array 39 63, 156, 1248, .agg (List.replicate 156 (.d (.int .i64 0)))⟩
def ti88 : TI := ⟨.struct #[fld 24 0, fld 87 2], 158, 1280, .agg ([.d (.int .i64 0)] ++ [.full []] ++ List.replicate 156 (.d (.int .i64 0)))⟩
def ti89 : TI := ⟨.struct #[fld 24 0, fld 87 2], 158, 1280, .agg ([.d (.int .i64 0)] ++ [.full []] ++ List.replicate 156 (.d (.int .i64 0)))⟩
def ti90 : TI := ⟨.func #[] #[] false, 1, 8, .c (.any)⟩
def ti91 : TI := ⟨.func #[] #[] false, 1, 8, .c (.any)⟩
def ti92 : TI := ⟨.func #[] #[] false, 1, 8, .c (.any)⟩
def ti93 : TI := ⟨.func #[] #[] false, 1, 8, .c (.any)⟩
def ti94 : TI := ⟨.func #[] #[] false, 1, 8, .c (.any)⟩
def ti95 : TI := ⟨.func #[] #[] false, 1, 8, .c (.any)⟩
def ti101 : TI := ⟨.func #[] #[] false, 1, 8, .c (.any)⟩
def ti102 : TI := ⟨.int .u32, 1, 4, .c (.d (.int .u32 0))⟩
def ti106 : TI := ⟨.pointer 5, 1, 8, .c (.nilp)⟩
def ttA : List (List (Option TI)) := [[none, some ti1, some ti2, some ti3, some ti4, some ti5, none, none, none, none, none, none, some ti12],
  [none, none, none, none, none, some ti21, some ti22, some ti23, some ti24, some ti25, some ti26, some ti27, some ti28, some ti29, some ti30],
  [some ti32, some ti33, some ti34, some ti35, some ti36, none, some ti38, some ti39, some ti40, some ti41, none, some ti43, some ti44, none, some ti46, some ti47],
  [some ti48, some ti49, some ti50, none, some ti52, some ti53, some ti54, some ti55, some ti56, some ti57, some ti58, some ti59, none, some ti61, some ti62, some ti63],
  [some ti64, some ti65, some ti66, some ti67, some ti68, some ti69, some ti70, some ti71, some ti72, some ti73, some ti74, some ti75, some ti76, none, some ti78, some ti79],
  [some ti80, some ti81, some ti82, some ti83, some ti84, some ti85, none, some ti87, some ti88, some ti89, some ti90, some ti91, some ti92, some ti93, some ti94, some ti95],
  [none, none, none, none, none, some ti101, some ti102, none, none, none, some ti106]]
theorem ttOk : TTok Try.prog (lookC ttA) := ttok_fast (by kernel_rfl)
def eqM : Nat := 154742518745730589745217536
noncomputable def tx : Tx := { P := Try.prog, tt := lookC ttA, eqs := eqM.testBit, ok := ttOk, eok := eok_fast (N := 88) (by decide) (by kernel_rfl) }
theorem tx_P : tx.P = Try.prog := rfl
theorem tt1 : tx.tt 1 = some ⟨.func #[] #[] false, 1, 8, .c (.any)⟩ := by kernel_rfl
theorem tt2 : tx.tt 2 = some ⟨.int .i64, 1, 8, .c (.d (.int .i64 0))⟩ := by kernel_rfl
theorem tt3 : tx.tt 3 = some ⟨.int .i64, 1, 8, .c (.d (.int .i64 0))⟩ := by kernel_rfl
theorem tt4 : tx.tt 4 = some ⟨.bool, 1, 1, .c (.d (.bool false))⟩ := by kernel_rfl
theorem tt5 : tx.tt 5 = some ⟨.int .u8, 1, 1, .c (.d (.int .u8 0))⟩ := by kernel_rfl
theorem tt12 : tx.tt 12 = some ⟨.int .u64, 1, 8, .c (.d (.int .u64 0))⟩ := by kernel_rfl
theorem tt21 : tx.tt 21 = some ⟨.int .i32, 1, 4, .c (.d (.int .i32 0))⟩ := by kernel_rfl
theorem tt22 : tx.tt 22 = some ⟨.slice 29, 1, 24, .c (.full [])⟩ := by kernel_rfl
theorem tt23 : tx.tt 23 = some ⟨.struct #[fld 3 0, fld 22 1], 2, 32, .agg ([.d (.int .i64 0), .full []])⟩ := by kernel_rfl
theorem tt24 : tx.tt 24 = some ⟨.struct #[fld 3 0, fld 22 1], 2, 32, .agg ([.d (.int .i64 0), .full []])⟩ := by kernel_rfl
theorem tt25 : tx.tt 25 = some ⟨.struct #[fld 3 0, fld 3 1], 2, 16, .agg ([.d (.int .i64 0), .d (.int .i64 0)])⟩ := by kernel_rfl
theorem tt26 : tx.tt 26 = some ⟨.struct #[fld 3 0, fld 3 1], 2, 16, .agg ([.d (.int .i64 0), .d (.int .i64 0)])⟩ := by kernel_rfl
theorem tt27 : tx.tt 27 = some ⟨.func #[] #[] false, 1, 8, .c (.any)⟩ := by kernel_rfl
theorem tt28 : tx.tt 28 = some ⟨.func #[] #[] false, 1, 8, .c (.any)⟩ := by kernel_rfl
theorem tt29 : tx.tt 29 = some ⟨.slice 3, 1, 24, .c (.full [])⟩ := by kernel_rfl
theorem tt30 : tx.tt 30 = some ⟨.int .i64, 1, 8, .c (.d (.int .i64 0))⟩ := by kernel_rfl
theorem tt32 : tx.tt 32 = some ⟨.func #[] #[] false, 1, 8, .c (.any)⟩ := by kernel_rfl
theorem tt33 : tx.tt 33 = some ⟨.func #[] #[] false, 1, 8, .c (.any)⟩ := by kernel_rfl
theorem tt34 : tx.tt 34 = some ⟨.func #[] #[] false, 1, 8, .c (.any)⟩ := by kernel_rfl
theorem tt35 : tx.tt 35 = some ⟨.func #[] #[] false, 1, 8, .c (.any)⟩ := by kernel_rfl
theorem tt36 : tx.tt 36 = some ⟨.slice 26, 1, 24, .c (.full [])⟩ := by kernel_rfl
theorem tt38 : tx.tt 38 = some ⟨.func #[] #[] false, 1, 8, .c (.any)⟩ := by kernel_rfl
theorem tt39 : tx.tt 39 = some ⟨.func #[] #[] false, 1, 8, .c (.any)⟩ := by kernel_rfl
theorem tt40 : tx.tt 40 = some ⟨.func #[] #[] false, 1, 8, .c (.any)⟩ := by kernel_rfl
theorem tt41 : tx.tt 41 = some ⟨.func #[] #[] false, 1, 8, .c (.any)⟩ := by kernel_rfl
theorem tt43 : tx.tt 43 = some ⟨.func #[] #[] false, 1, 8, .c (.any)⟩ := by kernel_rfl
theorem tt44 : tx.tt 44 = some ⟨.func #[] #[] false, 1, 8, .c (.any)⟩ := by kernel_rfl
theorem tt46 : tx.tt 46 = some ⟨.func #[] #[] false, 1, 8, .c (.any)⟩ := by kernel_rfl
theorem tt47 : tx.tt 47 = some ⟨.func #[] #[] false, 1, 8, .c (.any)⟩ := by kernel_rfl
theorem tt48 : tx.tt 48 = some ⟨.func #[] #[] false, 1, 8, .c (.any)⟩ := by kernel_rfl
theorem tt49 : tx.tt 49 = some ⟨.func #[] #[] false, 1, 8, .c (.any)⟩ := by kernel_rfl
theorem tt50 : tx.tt 50 = some ⟨.func #[] #[] false, 1, 8, .c (.any)⟩ := by kernel_rfl
theorem tt52 : tx.tt 52 = some ⟨.func #[] #[] false, 1, 8, .c (.any)⟩ := by kernel_rfl
theorem tt53 : tx.tt 53 = some ⟨.func #[] #[] false, 1, 8, .c (.any)⟩ := by kernel_rfl
theorem tt54 : tx.tt 54 = some ⟨.func #[] #[] false, 1, 8, .c (.any)⟩ := by kernel_rfl
theorem tt55 : tx.tt 55 = some ⟨.func #[] #[] false, 1, 8, .c (.any)⟩ := by kernel_rfl
theorem tt56 : tx.tt 56 = some ⟨.func #[] #[] false, 1, 8, .c (.any)⟩ := by kernel_rfl
theorem tt57 : tx.tt 57 = some ⟨.func #[] #[] false, 1, 8, .c (.any)⟩ := by kernel_rfl
theorem tt58 : tx.tt 58 = some ⟨.func #[] #[] false, 1, 8, .c (.any)⟩ := by kernel_rfl
theorem tt59 : tx.tt 59 = some ⟨.pointer 89, 1, 8, .c (.nilp)⟩ := by kernel_rfl
theorem tt61 : tx.tt 61 = some ⟨.func #[] #[] false, 1, 8, .c (.any)⟩ := by kernel_rfl
theorem tt62 : tx.tt 62 = some ⟨.array 4 3, 4, 32, .agg ([.d (.int .i64 0), .d (.int .i64 0), .d (.int .i64 0), .d (.int .i64 0)])⟩ := by kernel_rfl
theorem tt63 : tx.tt 63 = some ⟨.array 4 3, 4, 32, .agg ([.d (.int .i64 0), .d (.int .i64 0), .d (.int .i64 0), .d (.int .i64 0)])⟩ := by kernel_rfl
theorem tt64 : tx.tt 64 = some ⟨.func #[] #[] false, 1, 8, .c (.any)⟩ := by kernel_rfl
theorem tt65 : tx.tt 65 = some ⟨.func #[] #[] false, 1, 8, .c (.any)⟩ := by kernel_rfl
theorem tt66 : tx.tt 66 = some ⟨.func #[] #[] false, 1, 8, .c (.any)⟩ := by kernel_rfl
theorem tt67 : tx.tt 67 = some ⟨.func #[] #[] false, 1, 8, .c (.any)⟩ := by kernel_rfl
theorem tt68 : tx.tt 68 = some ⟨.func #[] #[] false, 1, 8, .c (.any)⟩ := by kernel_rfl
theorem tt69 : tx.tt 69 = some ⟨.func #[] #[] false, 1, 8, .c (.any)⟩ := by kernel_rfl
theorem tt70 : tx.tt 70 = some ⟨.func #[] #[] false, 1, 8, .c (.any)⟩ := by kernel_rfl
theorem tt71 : tx.tt 71 = some ⟨.func #[] #[] false, 1, 8, .c (.any)⟩ := by kernel_rfl
theorem tt72 : tx.tt 72 = some ⟨.func #[] #[] false, 1, 8, .c (.any)⟩ := by kernel_rfl
theorem tt73 : tx.tt 73 = some ⟨.func #[] #[] false, 1, 8, .c (.any)⟩ := by kernel_rfl
theorem tt74 : tx.tt 74 = some ⟨.func #[] #[] false, 1, 8, .c (.any)⟩ := by kernel_rfl
theorem tt75 : tx.tt 75 = some ⟨.func #[] #[] false, 1, 8, .c (.any)⟩ := by kernel_rfl
theorem tt76 : tx.tt 76 = some ⟨.map 63 26, 1, 8, .c (.any)⟩ := by kernel_rfl
theorem tt78 : tx.tt 78 = some ⟨.func #[] #[] false, 1, 8, .c (.any)⟩ := by kernel_rfl
theorem tt79 : tx.tt 79 = some ⟨.map 63 3, 1, 8, .c (.any)⟩ := by kernel_rfl
theorem tt80 : tx.tt 80 = some ⟨.slice 63, 1, 24, .c (.full [])⟩ := by kernel_rfl
theorem tt81 : tx.tt 81 = some ⟨.func #[] #[] false, 1, 8, .c (.any)⟩ := by kernel_rfl
theorem tt82 : tx.tt 82 = some ⟨.func #[] #[] false, 1, 8, .c (.any)⟩ := by kernel_rfl
theorem tt83 : tx.tt 83 = some ⟨.func #[] #[] false, 1, 8, .c (.any)⟩ := by kernel_rfl
theorem tt84 : tx.tt 84 = some ⟨.func #[] #[] false, 1, 8, .c (.any)⟩ := by kernel_rfl
theorem tt85 : tx.tt 85 = some ⟨.func #[] #[] false, 1, 8, .c (.any)⟩ := by kernel_rfl
theorem tt87 : tx.tt 87 = some ⟨.array 39 63, 156, 1248, .agg (List.replicate 156 (.d (.int .i64 0)))⟩ := by kernel_rfl
theorem tt88 : tx.tt 88 = some ⟨.struct #[fld 24 0, fld 87 2], 158, 1280, .agg ([.d (.int .i64 0)] ++ [.full []] ++ List.replicate 156 (.d (.int .i64 0)))⟩ := by kernel_rfl
theorem tt89 : tx.tt 89 = some ⟨.struct #[fld 24 0, fld 87 2], 158, 1280, .agg ([.d (.int .i64 0)] ++ [.full []] ++ List.replicate 156 (.d (.int .i64 0)))⟩ := by kernel_rfl
theorem tt90 : tx.tt 90 = some ⟨.func #[] #[] false, 1, 8, .c (.any)⟩ := by kernel_rfl
theorem tt91 : tx.tt 91 = some ⟨.func #[] #[] false, 1, 8, .c (.any)⟩ := by kernel_rfl
theorem tt92 : tx.tt 92 = some ⟨.func #[] #[] false, 1, 8, .c (.any)⟩ := by kernel_rfl
theorem tt93 : tx.tt 93 = some ⟨.func #[] #[] false, 1, 8, .c (.any)⟩ := by kernel_rfl
theorem tt94 : tx.tt 94 = some ⟨.func #[] #[] false, 1, 8, .c (.any)⟩ := by kernel_rfl
theorem tt95 : tx.tt 95 = some ⟨.func #[] #[] false, 1, 8, .c (.any)⟩ := by kernel_rfl
theorem tt101 : tx.tt 101 = some ⟨.func #[] #[] false, 1, 8, .c (.any)⟩ := by kernel_rfl
theorem tt102 : tx.tt 102 = some ⟨.int .u32, 1, 4, .c (.d (.int .u32 0))⟩ := by kernel_rfl
theorem tt106 : tx.tt 106 = some ⟨.pointer 5, 1, 8, .c (.nilp)⟩ := by kernel_rfl
theorem eq25 : tx.eqs 25 = true := by kernel_rfl
theorem eq26 : tx.eqs 26 = true := by kernel_rfl
theorem eq62 : tx.eqs 62 = true := by kernel_rfl
theorem eq63 : tx.eqs 63 = true := by kernel_rfl
theorem eq87 : tx.eqs 87 = true := by kernel_rfl
end Go.Proofs.Ytklmpopomokglaa
