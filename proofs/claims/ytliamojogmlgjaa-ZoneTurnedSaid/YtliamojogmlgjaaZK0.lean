/- Arguments of the laws of chapter 3, as the logic has them. -/
import Derived.Test.YtliamojogmlgjaaRows
import Derived.Test.YtliamojogmlgjaaZ1
import Derived.Test.YtliamojogmlgjaaAbsJ
import Derived.SizedLaws
set_option linter.unusedSimpArgs false
set_option linter.unusedVariables false
set_option maxRecDepth 100000
namespace Go.Proofs.Ytliamojogmlgjaa
open Go Go.Abs Go.Proofs
theorem Try.own : ownKnob Try.prog.godebug = none := by kernel_rfl
theorem Try.laidOut : laidOutB Try.prog = true := by kernel_rfl
theorem Try.rowed : mapsRowed Try.prog = true := by kernel_rfl
theorem Try.full : ∀ t e, t < Try.prog.types.size → Try.prog.underlying t = some (.slice e) → 0 < Try.prog.cellsOf e := slices_full_of _ (by kernel_rfl)

/-- A list, element by element. -/
theorem list_of {α : Type} {f : α → List D} {P : List D → Prop} : ∀ {rows : List (List D)}, (∀ r ∈ rows, P r) → (∀ r, P r → ∃ a, r = f a) → ∃ l : List α, rows = l.map f
  | [], _, _ => ⟨[], rfl⟩
  | r :: rows, h, hf => by
    obtain ⟨a, ha⟩ := hf r (h r (by simp))
    obtain ⟨l, hl⟩ := list_of (fun r hr => h r (List.mem_cons_of_mem _ hr)) hf
    exact ⟨a :: l, by rw [ha, hl]; rfl⟩
theorem has_i64 {n : Nat} {ds : List D} (h : HasT Try.prog n 2 ds) : ∃ m, ds = [.int .i64 m] := by
  cases n with
  | zero => exact h.elim
  | succ n => simp only [HasT, Try.underlying2] at h; obtain ⟨m, h, _⟩ := h; exact ⟨m, h⟩
theorem has_int {n : Nat} {ds : List D} (h : HasT Try.prog n 3 ds) : ∃ m, ds = [.int .i64 m] := by
  cases n with
  | zero => exact h.elim
  | succ n => simp only [HasT, Try.underlying3] at h; obtain ⟨m, h, _⟩ := h; exact ⟨m, h⟩
theorem has_bool {n : Nat} {ds : List D} (h : HasT Try.prog n 4 ds) : ∃ b, ds = [.bool b] := by
  cases n with
  | zero => exact h.elim
  | succ n => simp only [HasT, Try.underlying4] at h; exact h
theorem has_u8 {n : Nat} {ds : List D} (h : HasT Try.prog n 5 ds) : ∃ m : Int, ds = [.int .u8 m] ∧ 0 ≤ m ∧ m < 256 := by
  cases n with
  | zero => exact h.elim
  | succ n =>
    simp only [HasT, Try.underlying5] at h
    obtain ⟨m, h, hw⟩ := h
    refine ⟨m, h, ?_⟩
    simp [Lit.wf, IntKind.min, IntKind.max, IntKind.signed, IntKind.bits] at hw
    omega
theorem has_u16 {n : Nat} {ds : List D} (h : HasT Try.prog n 66 ds) : ∃ m : Int, ds = [.int .u16 m] ∧ 0 ≤ m ∧ m < 65536 := by
  cases n with
  | zero => exact h.elim
  | succ n =>
    simp only [HasT, Try.underlying66] at h
    obtain ⟨m, h, hw⟩ := h
    refine ⟨m, h, ?_⟩
    simp [Lit.wf, IntKind.min, IntKind.max, IntKind.signed, IntKind.bits] at hw
    omega
theorem has_longs {n : Nat} {ds : List D} (h : HasT Try.prog n 22 ds) : ∃ l : List Int, ds = [.sl (l.map iD)] := by
  cases n with
  | zero => exact h.elim
  | succ n =>
    simp only [HasT, Try.underlying22] at h
    obtain ⟨rows, rfl, hw, hr⟩ := h
    obtain ⟨l, rfl⟩ := list_of (f := iD) hr (fun r h => has_i64 h)
    exact ⟨l, rfl⟩
theorem has_bools {n : Nat} {ds : List D} (h : HasT Try.prog n 24 ds) : ∃ l : List Bool, ds = [.sl (l.map bD)] := by
  cases n with
  | zero => exact h.elim
  | succ n =>
    simp only [HasT, Try.underlying24] at h
    obtain ⟨rows, rfl, hw, hr⟩ := h
    obtain ⟨l, rfl⟩ := list_of (f := bD) hr (fun r h => has_bool h)
    exact ⟨l, rfl⟩
theorem has_rg {n : Nat} {ds : List D} (h : HasT Try.prog n 40 ds) : ∃ r : Rg, ds = rgD r := by
  cases n with
  | zero => exact h.elim
  | succ n =>
    simp only [HasT, Try.underlying40] at h
    obtain ⟨a, b, rfl, h1, c, d, rfl, h2, h3⟩ := h
    have h3 : d = [] := h3
    subst h3
    obtain ⟨m, rfl⟩ := has_i64 h1
    obtain ⟨k, rfl⟩ := has_i64 h2
    exact ⟨⟨m, k⟩, rfl⟩
theorem has_rgs {n : Nat} {ds : List D} (h : HasT Try.prog n 23 ds) : ∃ l : List Rg, ds = [.sl (l.map rgD)] := by
  cases n with
  | zero => exact h.elim
  | succ n =>
    simp only [HasT, Try.underlying23] at h
    obtain ⟨rows, rfl, hw, hr⟩ := h
    obtain ⟨l, rfl⟩ := list_of (f := rgD) hr (fun r h => has_rg h)
    exact ⟨l, rfl⟩
/-- A list of small numbers. -/
def u8s (l : List Int) : V := .c (.d (.sl (l.map fun b => [.int .u8 b])))
def U8 (l : List Int) : Prop := ∀ x ∈ l, 0 ≤ x ∧ x < 256
theorem has_u8s {n : Nat} {ds : List D} (h : HasT Try.prog n 51 ds) : ∃ l : List Int, ds = [.sl (l.map fun b => [.int .u8 b])] ∧ U8 l := by
  cases n with
  | zero => exact h.elim
  | succ n =>
    simp only [HasT, Try.underlying51] at h
    obtain ⟨rows, rfl, hw, hr⟩ := h
    clear hw
    induction rows with
    | nil => exact ⟨[], rfl, by intro x hx; simp at hx⟩
    | cons r rows ih =>
      obtain ⟨m, hm, h0⟩ := has_u8 (hr r (by simp))
      obtain ⟨l, hl, hb⟩ := ih (fun r hr' => hr r (List.mem_cons_of_mem _ hr'))
      refine ⟨m :: l, by rw [hm]; simp at hl; rw [hl]; rfl, ?_⟩
      intro x hx
      rcases List.mem_cons.1 hx with rfl | hx
      · exact h0
      · exact hb x hx
theorem arg_lamp {n : Nat} {ds : List D} (h : HasT Try.prog n 26 ds) : ∃ l, argV Try.prog 26 ds = laV l := by
  cases n with
  | zero => exact h.elim
  | succ n =>
    simp only [HasT, Try.underlying26] at h
    obtain ⟨a, b, rfl, h1, c, d, rfl, h2, e, f, rfl, h3, g, i, rfl, h4, h5⟩ := h
    have h5 : i = [] := h5
    subst h5
    obtain ⟨x1, rfl⟩ := has_longs h1
    obtain ⟨x2, rfl⟩ := has_rgs h2
    obtain ⟨x3, rfl⟩ := has_bools h3
    obtain ⟨x4, rfl⟩ := has_longs h4
    exact ⟨⟨x1, x2, x3, x4⟩, by simp [argV, Try.underlying26, laV, laC]⟩
theorem arg_int {n : Nat} {ds : List D} (h : HasT Try.prog n 3 ds) : ∃ m, argV Try.prog 3 ds = I m := by
  obtain ⟨m, rfl⟩ := has_int h; exact ⟨m, by simp [argV, Try.underlying3, I]⟩
theorem arg_i64 {n : Nat} {ds : List D} (h : HasT Try.prog n 2 ds) : ∃ m, argV Try.prog 2 ds = I m := by
  obtain ⟨m, rfl⟩ := has_i64 h; exact ⟨m, by simp [argV, Try.underlying2, I]⟩
theorem arg_bool {n : Nat} {ds : List D} (h : HasT Try.prog n 4 ds) : ∃ m, argV Try.prog 4 ds = B m := by
  obtain ⟨m, rfl⟩ := has_bool h; exact ⟨m, by simp [argV, Try.underlying4, B]⟩
theorem arg_u8 {n : Nat} {ds : List D} (h : HasT Try.prog n 5 ds) : ∃ m : Int, argV Try.prog 5 ds = .c (.d (.int .u8 m)) ∧ 0 ≤ m ∧ m < 256 := by
  obtain ⟨m, rfl, hb⟩ := has_u8 h; exact ⟨m, by simp [argV, Try.underlying5], hb⟩
theorem arg_u16 {n : Nat} {ds : List D} (h : HasT Try.prog n 66 ds) : ∃ m : Int, argV Try.prog 66 ds = .c (.d (.int .u16 m)) ∧ 0 ≤ m ∧ m < 65536 := by
  obtain ⟨m, rfl, hb⟩ := has_u16 h; exact ⟨m, by simp [argV, Try.underlying66], hb⟩
theorem arg_longs {n : Nat} {ds : List D} (h : HasT Try.prog n 22 ds) : ∃ l, argV Try.prog 22 ds = ints l := by
  obtain ⟨m, rfl⟩ := has_longs h; exact ⟨m, by simp [argV, Try.underlying22, ints]⟩
theorem arg_u8s {n : Nat} {ds : List D} (h : HasT Try.prog n 51 ds) : ∃ l, argV Try.prog 51 ds = u8s l ∧ U8 l := by
  obtain ⟨m, rfl, hb⟩ := has_u8s h; exact ⟨m, by simp [argV, Try.underlying51, u8s], hb⟩
theorem arg_rg {n : Nat} {ds : List D} (h : HasT Try.prog n 40 ds) : ∃ r, argV Try.prog 40 ds = rgV r := by
  obtain ⟨m, rfl⟩ := has_rg h; exact ⟨m, by simp [argV, Try.underlying40, rgV, rgC, rgD]⟩
theorem arg_two {n : Nat} {ds : List D} (h : HasT Try.prog n 57 ds) : ∃ p : Int × Int, argV Try.prog 57 ds = .agg [.d (.int .u8 p.1), .d (.int .u8 p.2)] ∧ (0 ≤ p.1 ∧ p.1 < 256) ∧ 0 ≤ p.2 ∧ p.2 < 256 := by
  cases n with
  | zero => exact h.elim
  | succ n =>
    simp only [HasT, Try.underlying57] at h
    obtain ⟨a, b, rfl, h1, c, d, rfl, h2, h3⟩ := h
    have h3 : d = [] := h3
    subst h3
    obtain ⟨m, rfl, b1⟩ := has_u8 h1
    obtain ⟨k, rfl, b2⟩ := has_u8 h2
    exact ⟨(m, k), by simp [argV, Try.underlying57], b1, b2⟩
end Go.Proofs.Ytliamojogmlgjaa
