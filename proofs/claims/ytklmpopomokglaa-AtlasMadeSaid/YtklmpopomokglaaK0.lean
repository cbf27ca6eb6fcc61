/- Arguments of the laws of chapter 5, as the logic has them. -/
import Derived.Test.YtklmpopomokglaaRows
import Derived.Test.YtklmpopomokglaaMF
import Derived.Test.YtklmpopomokglaaAbsJ
import Derived.SizedLaws
set_option linter.unusedSimpArgs false
set_option linter.unusedVariables false
namespace Go.Proofs.Ytklmpopomokglaa
open Go Go.Abs Go.Proofs
theorem Try.own : ownKnob Try.prog.godebug = none := by kernel_rfl
theorem Try.laidOut : laidOutB Try.prog = true := by kernel_rfl
theorem Try.rowed : mapsRowed Try.prog = true := by kernel_rfl
theorem Try.full : ∀ t e, t < Try.prog.types.size → Try.prog.underlying t = some (.slice e) → 0 < Try.prog.cellsOf e := slices_full_of _ (by kernel_rfl)

theorem has_int {n : Nat} {ds : List D} (h : HasT Try.prog n 3 ds) : ∃ m, ds = [.int .i64 m] := by
  cases n with
  | zero => exact h.elim
  | succ n => simp only [HasT, Try.underlying3] at h; obtain ⟨m, h, _⟩ := h; exact ⟨m, h⟩
theorem has_u8 {n : Nat} {ds : List D} (h : HasT Try.prog n 5 ds) : ∃ m : Int, ds = [.int .u8 m] ∧ 0 ≤ m ∧ m ≤ 255 := by
  cases n with
  | zero => exact h.elim
  | succ n =>
    simp only [HasT, Try.underlying5] at h
    obtain ⟨m, h, hw⟩ := h
    refine ⟨m, h, ?_⟩
    simp [Lit.wf, IntKind.min, IntKind.max, IntKind.signed, IntKind.bits] at hw
    omega
theorem has_ints {n : Nat} {ds : List D} (h : HasT Try.prog n 29 ds) : ∃ l : List Int, ds = [.sl (l.map iD)] := by
  cases n with
  | zero => exact h.elim
  | succ n =>
    simp only [HasT, Try.underlying29] at h
    obtain ⟨rows, rfl, hw, hr⟩ := h
    have : ∃ l : List Int, rows = l.map iD := by
      clear hw
      induction rows with
      | nil => exact ⟨[], rfl⟩
      | cons r rows ih =>
        obtain ⟨m, hm⟩ := has_int (hr r (by simp))
        obtain ⟨l, hl⟩ := ih (fun r hr' => hr r (List.mem_cons_of_mem _ hr'))
        exact ⟨m :: l, by rw [hm, hl]; rfl⟩
    obtain ⟨l, rfl⟩ := this
    exact ⟨l, rfl⟩
theorem bytes29 : Try.prog.bytesOf 29 = 24 := by kernel_rfl
theorem has_grid {n : Nat} {ds : List D} (h : HasT Try.prog n 22 ds) : ∃ l : List (List Int), ds = [.sl (l.map rD)] ∧ l.length * 24 ≤ 140737488355328 := by
  cases n with
  | zero => exact h.elim
  | succ n =>
    simp only [HasT, Try.underlying22] at h
    obtain ⟨rows, rfl, hw, hr⟩ := h
    have : ∃ l : List (List Int), rows = l.map rD := by
      clear hw
      induction rows with
      | nil => exact ⟨[], rfl⟩
      | cons r rows ih =>
        obtain ⟨m, hm⟩ := has_ints (hr r (by simp))
        obtain ⟨l, hl⟩ := ih (fun r hr' => hr r (List.mem_cons_of_mem _ hr'))
        exact ⟨m :: l, by rw [hm, hl]; rfl⟩
    obtain ⟨l, rfl⟩ := this
    rw [bytes29, List.length_map] at hw
    exact ⟨l, rfl, Nat.le_trans hw (by decide)⟩
theorem arg_int {n : Nat} {ds : List D} (h : HasT Try.prog n 3 ds) : ∃ m, argV Try.prog 3 ds = I m := by
  obtain ⟨m, rfl⟩ := has_int h; exact ⟨m, by simp [argV, Try.underlying3, I]⟩
theorem arg_u8 {n : Nat} {ds : List D} (h : HasT Try.prog n 5 ds) : ∃ m : Int, argV Try.prog 5 ds = .c (.d (.int .u8 m)) ∧ 0 ≤ m ∧ m ≤ 255 := by
  obtain ⟨m, rfl, hb⟩ := has_u8 h; exact ⟨m, by simp [argV, Try.underlying5], hb⟩
theorem arg_ints {n : Nat} {ds : List D} (h : HasT Try.prog n 29 ds) : ∃ l, argV Try.prog 29 ds = ints l := by
  obtain ⟨m, rfl⟩ := has_ints h; exact ⟨m, by simp [argV, Try.underlying29, ints]⟩
theorem arg_plan' {n : Nat} {ds : List D} (h : HasT Try.prog n 24 ds) : ∃ n rows, argV Try.prog 24 ds = planV n rows ∧ rows.length * 24 ≤ 140737488355328 := by
  cases n with
  | zero => exact h.elim
  | succ n =>
    simp only [HasT, Try.underlying24] at h
    obtain ⟨a, b, rfl, h1, c, d, rfl, h2, h3⟩ := h
    have h3 : d = [] := h3
    subst h3
    obtain ⟨m, rfl⟩ := has_int h1
    obtain ⟨l, rfl, hw⟩ := has_grid h2
    exact ⟨m, l, by simp [argV, Try.underlying24, planV, planC], hw⟩
theorem arg_plan {n : Nat} {ds : List D} (h : HasT Try.prog n 24 ds) : ∃ n rows, argV Try.prog 24 ds = planV n rows := by
  obtain ⟨n, rows, h, _⟩ := arg_plan' h
  exact ⟨n, rows, h⟩
theorem arg_case {n : Nat} {ds : List D} (h : HasT Try.prog n 26 ds) : ∃ c, argV Try.prog 26 ds = caseV c := by
  cases n with
  | zero => exact h.elim
  | succ n =>
    simp only [HasT, Try.underlying26] at h
    obtain ⟨a, b, rfl, h1, c, d, rfl, h2, h3⟩ := h
    have h3 : d = [] := h3
    subst h3
    obtain ⟨m, rfl⟩ := has_int h1
    obtain ⟨l, rfl⟩ := has_int h2
    exact ⟨(m, l), by simp [argV, Try.underlying26, caseV, cC]⟩
end Go.Proofs.Ytklmpopomokglaa
