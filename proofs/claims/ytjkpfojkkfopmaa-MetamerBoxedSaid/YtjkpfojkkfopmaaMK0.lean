/- Arguments of the laws of chapter 4, as the logic has them. -/
import Derived.Test.YtjkpfojkkfopmaaRows
import Derived.Test.YtjkpfojkkfopmaaM14
import Derived.Test.YtjkpfojkkfopmaaAbsJ
import Derived.SizedLaws
set_option linter.unusedSimpArgs false
set_option linter.unusedVariables false
set_option maxRecDepth 100000
namespace Go.Proofs.Ytjkpfojkkfopmaa
open Go Go.Abs Go.Proofs
theorem Try.own : ownKnob Try.prog.godebug = none := by kernel_rfl
theorem Try.laidOut : laidOutB Try.prog = true := by kernel_rfl
theorem Try.rowed : mapsRowed Try.prog = true := by kernel_rfl
theorem Try.full : ∀ t e, t < Try.prog.types.size → Try.prog.underlying t = some (.slice e) → 0 < Try.prog.cellsOf e := slices_full_of _ (by kernel_rfl)

/-- A list, element by element. -/
theorem list_of {α : Type} {f : α → List D} {P : List D → Prop} : ∀ {rows : List (List D)}, (∀ r ∈ rows, P r) → (∀ r, P r → ∃ a, r = f a) → ∃ l : List α, rows = l.map f
  | [], _, _ => ⟨[], rfl⟩
  | r :: rows, h, hf => by
    obtain ⟨a, ha⟩ := hf r (h r (by simp))
    obtain ⟨l, hl⟩ := list_of (fun r hr => h r (List.mem_cons_of_mem _ hr)) hf
    exact ⟨a :: l, by rw [ha, hl]; rfl⟩
theorem has_i64 {n : Nat} {ds : List D} (h : HasT Try.prog n 2 ds) : ∃ m, ds = [.int .i64 m] := by
  cases n with
  | zero => exact h.elim
  | succ n => simp only [HasT, Try.underlying2] at h; obtain ⟨m, h, _⟩ := h; exact ⟨m, h⟩
theorem has_int {n : Nat} {ds : List D} (h : HasT Try.prog n 3 ds) : ∃ m, ds = [.int .i64 m] := by
  cases n with
  | zero => exact h.elim
  | succ n => simp only [HasT, Try.underlying3] at h; obtain ⟨m, h, _⟩ := h; exact ⟨m, h⟩
theorem has_u8 {n : Nat} {ds : List D} (h : HasT Try.prog n 5 ds) : ∃ m : Int, ds = [.int .u8 m] ∧ 0 ≤ m ∧ m ≤ 255 := by
  cases n with
  | zero => exact h.elim
  | succ n =>
    simp only [HasT, Try.underlying5] at h
    obtain ⟨m, h, hw⟩ := h
    refine ⟨m, h, ?_⟩
    simp [Lit.wf, IntKind.min, IntKind.max, IntKind.signed, IntKind.bits] at hw
    omega
theorem has_u16 {n : Nat} {ds : List D} (h : HasT Try.prog n 73 ds) : ∃ m : Int, ds = [.int .u16 m] ∧ 0 ≤ m ∧ m < 65536 := by
  cases n with
  | zero => exact h.elim
  | succ n =>
    simp only [HasT, Try.underlying73] at h
    obtain ⟨m, h, hw⟩ := h
    refine ⟨m, h, ?_⟩
    simp [Lit.wf, IntKind.min, IntKind.max, IntKind.signed, IntKind.bits] at hw
    omega
theorem has_longs {n : Nat} {ds : List D} (h : HasT Try.prog n 27 ds) : ∃ l : List Int, ds = [.sl (l.map iD)] := by
  cases n with
  | zero => exact h.elim
  | succ n =>
    simp only [HasT, Try.underlying27] at h
    obtain ⟨rows, rfl, hw, hr⟩ := h
    obtain ⟨l, rfl⟩ := list_of (f := iD) hr (fun r h => has_i64 h)
    exact ⟨l, rfl⟩
theorem has_u16s {n : Nat} {ds : List D} (h : HasT Try.prog n 62 ds) : ∃ l : List Int, ds = [.sl (l.map hD)] ∧ B16 l := by
  cases n with
  | zero => exact h.elim
  | succ n =>
    simp only [HasT, Try.underlying62] at h
    obtain ⟨rows, rfl, hw, hr⟩ := h
    clear hw
    induction rows with
    | nil => exact ⟨[], rfl, by intro x hx; simp at hx⟩
    | cons r rows ih =>
      obtain ⟨m, hm, h0⟩ := has_u16 (hr r (by simp))
      obtain ⟨l, hl, hb⟩ := ih (fun r hr' => hr r (List.mem_cons_of_mem _ hr'))
      refine ⟨m :: l, by rw [hm]; simp at hl; rw [hl]; rfl, ?_⟩
      intro x hx
      rcases List.mem_cons.1 hx with rfl | hx
      · exact h0
      · exact hb x hx
theorem has_rg {n : Nat} {ds : List D} (h : HasT Try.prog n 65 ds) : ∃ r : Rg, ds = rgD r := by
  cases n with
  | zero => exact h.elim
  | succ n =>
    simp only [HasT, Try.underlying65] at h
    obtain ⟨a, b, rfl, h1, c, d, rfl, h2, h3⟩ := h
    have h3 : d = [] := h3
    subst h3
    obtain ⟨m, rfl⟩ := has_i64 h1
    obtain ⟨k, rfl⟩ := has_i64 h2
    exact ⟨⟨m, k⟩, rfl⟩
theorem has_rgs {n : Nat} {ds : List D} (h : HasT Try.prog n 23 ds) : ∃ l : List Rg, ds = [.sl (l.map rgD)] := by
  cases n with
  | zero => exact h.elim
  | succ n =>
    simp only [HasT, Try.underlying23] at h
    obtain ⟨rows, rfl, hw, hr⟩ := h
    obtain ⟨l, rfl⟩ := list_of (f := rgD) hr (fun r h => has_rg h)
    exact ⟨l, rfl⟩
theorem has_rgss {n : Nat} {ds : List D} (h : HasT Try.prog n 22 ds) : ∃ l : List (List Rg), ds = [.sl (l.map rowR)] := by
  cases n with
  | zero => exact h.elim
  | succ n =>
    simp only [HasT, Try.underlying22] at h
    obtain ⟨rows, rfl, hw, hr⟩ := h
    obtain ⟨l, rfl⟩ := list_of (f := rowR) hr (fun r h => by obtain ⟨l, h⟩ := has_rgs h; exact ⟨l, h⟩)
    exact ⟨l, rfl⟩
theorem has_intss {n : Nat} {ds : List D} (h : HasT Try.prog n 26 ds) : ∃ l : List (List Int), ds = [.sl (l.map rowI)] := by
  cases n with
  | zero => exact h.elim
  | succ n =>
    simp only [HasT, Try.underlying26] at h
    obtain ⟨rows, rfl, hw, hr⟩ := h
    obtain ⟨l, rfl⟩ := list_of (f := rowI) hr (fun r h => by obtain ⟨l, h⟩ := has_longs h; exact ⟨l, h⟩)
    exact ⟨l, rfl⟩
theorem arg_int {n : Nat} {ds : List D} (h : HasT Try.prog n 3 ds) : ∃ m, argV Try.prog 3 ds = I m := by
  obtain ⟨m, rfl⟩ := has_int h; exact ⟨m, by simp [argV, Try.underlying3, I]⟩
theorem arg_u8 {n : Nat} {ds : List D} (h : HasT Try.prog n 5 ds) : ∃ m : Int, argV Try.prog 5 ds = .c (.d (.int .u8 m)) ∧ 0 ≤ m ∧ m ≤ 255 := by
  obtain ⟨m, rfl, hb⟩ := has_u8 h; exact ⟨m, by simp [argV, Try.underlying5], hb⟩
theorem arg_u16 {n : Nat} {ds : List D} (h : HasT Try.prog n 73 ds) : ∃ m : Int, argV Try.prog 73 ds = .c (.d (.int .u16 m)) ∧ 0 ≤ m ∧ m < 65536 := by
  obtain ⟨m, rfl, hb⟩ := has_u16 h; exact ⟨m, by simp [argV, Try.underlying73], hb⟩
theorem arg_longs {n : Nat} {ds : List D} (h : HasT Try.prog n 27 ds) : ∃ l, argV Try.prog 27 ds = ints l := by
  obtain ⟨m, rfl⟩ := has_longs h; exact ⟨m, by simp [argV, Try.underlying27, ints]⟩
theorem arg_u16s {n : Nat} {ds : List D} (h : HasT Try.prog n 62 ds) : ∃ l, argV Try.prog 62 ds = u16s l ∧ B16 l := by
  obtain ⟨m, rfl, hb⟩ := has_u16s h; exact ⟨m, by simp [argV, Try.underlying62, u16s], hb⟩
theorem arg_case {n : Nat} {ds : List D} (h : HasT Try.prog n 25 ds) : ∃ c, argV Try.prog 25 ds = csV c := by
  cases n with
  | zero => exact h.elim
  | succ n =>
    simp only [HasT, Try.underlying25] at h
    obtain ⟨a, b, rfl, h1, c, d, rfl, h2, h3⟩ := h
    have h3 : d = [] := h3
    subst h3
    obtain ⟨m, rfl⟩ := has_rgss h1
    obtain ⟨l, rfl⟩ := has_rgs h2
    exact ⟨⟨m, l⟩, by simp [argV, Try.underlying25, csV, csC]⟩
theorem arg_true {n : Nat} {ds : List D} (h : HasT Try.prog n 29 ds) : ∃ c, argV Try.prog 29 ds = trV c := by
  cases n with
  | zero => exact h.elim
  | succ n =>
    simp only [HasT, Try.underlying29] at h
    obtain ⟨a, b, rfl, h1, c, d, rfl, h2, h3⟩ := h
    have h3 : d = [] := h3
    subst h3
    obtain ⟨m, rfl⟩ := has_intss h1
    obtain ⟨l, rfl⟩ := has_longs h2
    exact ⟨⟨m, l⟩, by simp [argV, Try.underlying29, trV, trC]⟩
theorem arg_pal {n : Nat} {ds : List D} (h : HasT Try.prog n 50 ds) : ∃ c, argV Try.prog 50 ds = palV c := by
  cases n with
  | zero => exact h.elim
  | succ n =>
    simp only [HasT, Try.underlying50] at h
    obtain ⟨a, b, rfl, h1, c, d, rfl, h2, h3⟩ := h
    have h3 : d = [] := h3
    subst h3
    obtain ⟨m, rfl⟩ := has_intss h1
    obtain ⟨l, rfl⟩ := has_i64 h2
    exact ⟨⟨m, l⟩, by simp [argV, Try.underlying50, palV, palC]⟩
end Go.Proofs.Ytjkpfojkkfopmaa
