/- Arguments of the laws of chapter 9, as the logic has them. -/
import Derived.Test.YtkbnmanfoejoiaaRows
import Derived.Test.YtkbnmanfoejoiaaD23
import Derived.Test.YtkbnmanfoejoiaaAbsJ
import Derived.SizedLaws
set_option linter.unusedSimpArgs false
set_option linter.unusedVariables false
set_option maxRecDepth 100000
namespace Go.Proofs.Ytkbnmanfoejoiaa
open Go Go.Abs Go.Proofs
theorem Try.own : ownKnob Try.prog.godebug = none := by kernel_rfl
theorem Try.laidOut : laidOutB Try.prog = true := by kernel_rfl
theorem Try.rowed : mapsRowed Try.prog = true := by kernel_rfl
theorem Try.full : ∀ t e, t < Try.prog.types.size → Try.prog.underlying t = some (.slice e) → 0 < Try.prog.cellsOf e := slices_full_of _ (by kernel_rfl)

/-- A list, element by element. -/
theorem list_of {α : Type} {f : α → List D} {P : List D → Prop} : ∀ {rows : List (List D)}, (∀ r ∈ rows, P r) → (∀ r, P r → ∃ a, r = f a) → ∃ l : List α, rows = l.map f
  | [], _, _ => ⟨[], rfl⟩
  | r :: rows, h, hf => by
    obtain ⟨a, ha⟩ := hf r (h r (by simp))
    obtain ⟨l, hl⟩ := list_of (fun r hr => h r (List.mem_cons_of_mem _ hr)) hf
    exact ⟨a :: l, by rw [ha, hl]; rfl⟩
theorem has_i64 {n : Nat} {ds : List D} (h : HasT Try.prog n 2 ds) : ∃ m, ds = [.int .i64 m] := by
  cases n with
  | zero => exact h.elim
  | succ n => simp only [HasT, Try.underlying2] at h; obtain ⟨m, h, _⟩ := h; exact ⟨m, h⟩
theorem has_int {n : Nat} {ds : List D} (h : HasT Try.prog n 3 ds) : ∃ m, ds = [.int .i64 m] := by
  cases n with
  | zero => exact h.elim
  | succ n => simp only [HasT, Try.underlying3] at h; obtain ⟨m, h, _⟩ := h; exact ⟨m, h⟩
theorem has_u8 {n : Nat} {ds : List D} (h : HasT Try.prog n 5 ds) : ∃ m : Int, ds = [.int .u8 m] ∧ 0 ≤ m ∧ m < 256 := by
  cases n with
  | zero => exact h.elim
  | succ n =>
    simp only [HasT, Try.underlying5] at h
    obtain ⟨m, h, hw⟩ := h
    refine ⟨m, h, ?_⟩
    simp [Lit.wf, IntKind.min, IntKind.max, IntKind.signed, IntKind.bits] at hw
    omega
theorem has_i16 {n : Nat} {ds : List D} (h : HasT Try.prog n 52 ds) : ∃ m : Int, ds = [.int .i16 m] ∧ -32768 ≤ m ∧ m < 32768 := by
  cases n with
  | zero => exact h.elim
  | succ n =>
    simp only [HasT, Try.underlying52] at h
    obtain ⟨m, h, hw⟩ := h
    refine ⟨m, h, ?_⟩
    simp [Lit.wf, IntKind.min, IntKind.max, IntKind.signed, IntKind.bits] at hw
    omega
theorem has_longs {n : Nat} {ds : List D} (h : HasT Try.prog n 28 ds) : ∃ l : List Int, ds = [.sl (l.map iD)] := by
  cases n with
  | zero => exact h.elim
  | succ n =>
    simp only [HasT, Try.underlying28] at h
    obtain ⟨rows, rfl, hw, hr⟩ := h
    obtain ⟨l, rfl⟩ := list_of (f := iD) hr (fun r h => has_i64 h)
    exact ⟨l, rfl⟩
theorem has_u8s {n : Nat} {ds : List D} (h : HasT Try.prog n 48 ds) : ∃ l : List Int, ds = [.sl (l.map fun b => [.int .u8 b])] ∧ U8 l := by
  cases n with
  | zero => exact h.elim
  | succ n =>
    simp only [HasT, Try.underlying48] at h
    obtain ⟨rows, rfl, hw, hr⟩ := h
    clear hw
    induction rows with
    | nil => exact ⟨[], rfl, by intro x hx; simp at hx⟩
    | cons r rows ih =>
      obtain ⟨m, hm, h0⟩ := has_u8 (hr r (by simp))
      obtain ⟨l, hl, hb⟩ := ih (fun r hr' => hr r (List.mem_cons_of_mem _ hr'))
      refine ⟨m :: l, by rw [hm]; simp at hl; rw [hl]; rfl, ?_⟩
      intro x hx
      rcases List.mem_cons.1 hx with rfl | hx
      · exact h0
      · exact hb x hx
theorem has_rg {n : Nat} {ds : List D} (h : HasT Try.prog n 24 ds) : ∃ r : Rg, ds = rgD r := by
  cases n with
  | zero => exact h.elim
  | succ n =>
    simp only [HasT, Try.underlying24] at h
    obtain ⟨a, b, rfl, h1, c, d, rfl, h2, h3⟩ := h
    have h3 : d = [] := h3
    subst h3
    obtain ⟨m, rfl⟩ := has_i64 h1
    obtain ⟨k, rfl⟩ := has_i64 h2
    exact ⟨⟨m, k⟩, rfl⟩
theorem has_rg2 {n : Nat} {ds : List D} (h : HasT Try.prog n 25 ds) : ∃ r s : Rg, ds = rgD r ++ rgD s := by
  cases n with
  | zero => exact h.elim
  | succ n =>
    simp only [HasT, Try.underlying25] at h
    obtain ⟨a, b, rfl, h1, c, d, rfl, h2, h3⟩ := h
    have h3 : d = [] := h3
    subst h3
    obtain ⟨m, rfl⟩ := has_rg h1
    obtain ⟨k, rfl⟩ := has_rg h2
    exact ⟨m, k, by simp⟩
theorem has_b2 {n : Nat} {ds : List D} (h : HasT Try.prog n 56 ds) : ∃ a b : Int, ds = [.int .i64 a, .int .i64 b] := by
  cases n with
  | zero => exact h.elim
  | succ n =>
    simp only [HasT, Try.underlying56] at h
    obtain ⟨a, b, rfl, h1, c, d, rfl, h2, h3⟩ := h
    have h3 : d = [] := h3
    subst h3
    obtain ⟨m, rfl⟩ := has_i64 h1
    obtain ⟨k, rfl⟩ := has_i64 h2
    exact ⟨m, k, rfl⟩
theorem has_dy {n : Nat} {ds : List D} (h : HasT Try.prog n 58 ds) : ∃ d : Dy, ds = dyD d := by
  cases n with
  | zero => exact h.elim
  | succ n =>
    simp only [HasT, Try.underlying58] at h
    obtain ⟨a, b, rfl, h1, c, d, rfl, h2, e, f, rfl, h3, h4⟩ := h
    have h4 : f = [] := h4
    subst h4
    obtain ⟨x, y, rfl⟩ := has_b2 h1
    obtain ⟨p, rfl⟩ := has_i64 h2
    obtain ⟨q, rfl⟩ := has_int h3
    exact ⟨⟨x, y, p, q⟩, rfl⟩
theorem has_dys {n : Nat} {ds : List D} (h : HasT Try.prog n 22 ds) : ∃ l : List Dy, ds = [.sl (l.map dyD)] := by
  cases n with
  | zero => exact h.elim
  | succ n =>
    simp only [HasT, Try.underlying22] at h
    obtain ⟨rows, rfl, hw, hr⟩ := h
    obtain ⟨l, rfl⟩ := list_of (f := dyD) hr (fun r h => has_dy h)
    exact ⟨l, rfl⟩
def pD (p : Int × Int) : List D := [.int .i16 p.1, .int .i16 p.2]
def P16 (l : List (Int × Int)) : Prop := ∀ x ∈ l, (-32768 ≤ x.1 ∧ x.1 < 32768) ∧ -32768 ≤ x.2 ∧ x.2 < 32768
def chs (l : List (Int × Int)) : V := .c (.d (.sl (l.map pD)))
theorem has_p16 {n : Nat} {ds : List D} (h : HasT Try.prog n 53 ds) : ∃ p : Int × Int, ds = pD p ∧ (-32768 ≤ p.1 ∧ p.1 < 32768) ∧ -32768 ≤ p.2 ∧ p.2 < 32768 := by
  cases n with
  | zero => exact h.elim
  | succ n =>
    simp only [HasT, Try.underlying53] at h
    obtain ⟨a, b, rfl, h1, c, d, rfl, h2, h3⟩ := h
    have h3 : d = [] := h3
    subst h3
    obtain ⟨m, rfl, b1⟩ := has_i16 h1
    obtain ⟨k, rfl, b2⟩ := has_i16 h2
    exact ⟨(m, k), rfl, b1, b2⟩
theorem has_chs {n : Nat} {ds : List D} (h : HasT Try.prog n 49 ds) : ∃ l : List (Int × Int), ds = [.sl (l.map pD)] ∧ P16 l := by
  cases n with
  | zero => exact h.elim
  | succ n =>
    simp only [HasT, Try.underlying49] at h
    obtain ⟨rows, rfl, hw, hr⟩ := h
    clear hw
    induction rows with
    | nil => exact ⟨[], rfl, by intro x hx; simp at hx⟩
    | cons r rows ih =>
      obtain ⟨m, hm, h0⟩ := has_p16 (hr r (by simp))
      obtain ⟨l, hl, hb⟩ := ih (fun r hr' => hr r (List.mem_cons_of_mem _ hr'))
      refine ⟨m :: l, by rw [hm]; simp at hl; rw [hl]; rfl, ?_⟩
      intro x hx
      rcases List.mem_cons.1 hx with rfl | hx
      · exact h0
      · exact hb x hx
theorem arg_int {n : Nat} {ds : List D} (h : HasT Try.prog n 3 ds) : ∃ m, argV Try.prog 3 ds = I m := by
  obtain ⟨m, rfl⟩ := has_int h; exact ⟨m, by simp [argV, Try.underlying3, I]⟩
theorem arg_u8 {n : Nat} {ds : List D} (h : HasT Try.prog n 5 ds) : ∃ m : Int, argV Try.prog 5 ds = .c (.d (.int .u8 m)) ∧ 0 ≤ m ∧ m < 256 := by
  obtain ⟨m, rfl, hb⟩ := has_u8 h; exact ⟨m, by simp [argV, Try.underlying5], hb⟩
theorem arg_longs {n : Nat} {ds : List D} (h : HasT Try.prog n 28 ds) : ∃ l, argV Try.prog 28 ds = ints l := by
  obtain ⟨m, rfl⟩ := has_longs h; exact ⟨m, by simp [argV, Try.underlying28, ints]⟩
theorem arg_u8s {n : Nat} {ds : List D} (h : HasT Try.prog n 48 ds) : ∃ l, argV Try.prog 48 ds = u8s l ∧ U8 l := by
  obtain ⟨m, rfl, hb⟩ := has_u8s h; exact ⟨m, by simp [argV, Try.underlying48, u8s], hb⟩
theorem arg_chs {n : Nat} {ds : List D} (h : HasT Try.prog n 49 ds) : ∃ l, argV Try.prog 49 ds = chs l ∧ P16 l := by
  obtain ⟨m, rfl, hb⟩ := has_chs h; exact ⟨m, by simp [argV, Try.underlying49, chs], hb⟩
theorem arg_shelf {n : Nat} {ds : List D} (h : HasT Try.prog n 22 ds) : ∃ l, argV Try.prog 22 ds = dys l := by
  obtain ⟨m, rfl⟩ := has_dys h; exact ⟨m, by simp [argV, Try.underlying22, dys]⟩
theorem arg_dye {n : Nat} {ds : List D} (h : HasT Try.prog n 58 ds) : ∃ d, argV Try.prog 58 ds = dyV d := by
  obtain ⟨m, rfl⟩ := has_dy h; exact ⟨m, by simp [argV, Try.underlying58, dyV, dyC, dyD]⟩
theorem arg_want {n : Nat} {ds : List D} (h : HasT Try.prog n 27 ds) : ∃ w, argV Try.prog 27 ds = wnV w := by
  cases n with
  | zero => exact h.elim
  | succ n =>
    simp only [HasT, Try.underlying27] at h
    obtain ⟨a, b, rfl, h1, c, d, rfl, h2, h3⟩ := h
    have h3 : d = [] := h3
    subst h3
    obtain ⟨r, s, rfl⟩ := has_rg2 h1
    obtain ⟨q, rfl⟩ := has_int h2
    exact ⟨⟨r, s, q⟩, by simp [argV, Try.underlying27, wnV, wnC, rgD]⟩
end Go.Proofs.Ytkbnmanfoejoiaa
