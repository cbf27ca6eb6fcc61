/- PROVED: lampblacklaw03.ZoneDoubts returns true, and what it is given reads afterwards as before. CONDITIONS: those of the given row ZoneDoubtsSaid, no others. -/
import Derived.Test.YtliamojogmlgjaaZ26
import Derived.Test.YtliamojogmlgjaaZK0
set_option linter.unusedSimpArgs false
set_option linter.unusedVariables false
set_option maxRecDepth 100000
namespace Go.Proofs.Ytliamojogmlgjaa
open Go Go.Abs Go.Proofs
theorem zoneDoubts_lifted (os : Os) (started : os.Started) (H : Type) (enc : TypeId × Value → H) :
    ReturnsInHanded {} Try.checked os 4 .any (Rows.zoneDoubtsSpec.pre6 enc Try.prog Try.f4 Rows.zoneDoubtsRow.domain false) (Rows.zoneDoubtsSpec.post enc Try.prog Try.f4 false true false false) := by
  refine returnsInHanded_of_change_sized (C := Try.checked) Try.own started (by kernel_rfl) Try.func4
    (ChangeSpec.witness6 (enc := enc) (C := Try.checked) false ⟨#[], #[.agg #[.slice none 0 0, .slice none 0 0, .slice none 0 0, .slice none 0 0], .int .i64 0, .int .i64 0], []⟩ 8 (by kernel_rfl) (by kernel_rfl) (by kernel_rfl) (by kernel_rfl)) ?_
  intro W base args ds gs before hval hW hcnd hw _
  refine law_calls (X := tx) (n := 9) (tb := 4) Try.laidOut Try.rowed Try.full (by kernel_rfl) (by kernel_rfl) (by kernel_rfl) rfl (fun ds h => ?_) (by kernel_rfl) hval hW hw (fun xs hx => ?_)
  · rw [Try.params4] at h
    match ds, h with
    | [_, _, _], _ => rfl
  · rw [Try.params4] at hx
    obtain ⟨d1, r1, rfl, h1, d2, r2, rfl, h2, d3, r3, rfl, h3, hx⟩ := hx
    have hx : r3 = [] := hx
    subst hx
    obtain ⟨a1, e1⟩ := arg_lamp h1
    obtain ⟨a2, e2⟩ := arg_int h2
    obtain ⟨a3, e3⟩ := arg_int h3
    change Pure _ _ [argV Try.prog 26 d1, argV Try.prog 3 d2, argV Try.prog 3 d3] _
    rw [e1, e2, e3]
    exact doubtsLaw a1 a2 a3

theorem zoneDoubts_holds : Rows.ZoneDoubtsSaid :=
  OpenClaim.holds_of_wide 4 Try.f4 rfl rfl rfl rfl rfl rfl rfl ⟨rfl, rfl, rfl, rfl, rfl⟩ rfl rfl rfl rfl rfl (by kernel_rfl) Try.func4 (by kernel_rfl)
    (of_decide_eq_true (by kernel_rfl)) (by unfold Func.isWrapper; first | (rw [if_pos (by decide +kernel)]; kernel_rfl) | (rw [if_neg (by decide +kernel)]; exact ⟨rfl, rfl⟩))
    (fun os started H enc _ => zoneDoubts_lifted os started H enc)
end Go.Proofs.Ytliamojogmlgjaa
