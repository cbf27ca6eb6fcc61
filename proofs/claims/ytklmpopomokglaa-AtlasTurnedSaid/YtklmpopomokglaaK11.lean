/- PROVED: lampblacklaw05.AtlasTurned returns true, and what it is given reads afterwards as before. CONDITIONS: those of the given row AtlasTurnedSaid, no others. -/
import Derived.Test.YtklmpopomokglaaY15
import Derived.Test.YtklmpopomokglaaK0
set_option linter.unusedSimpArgs false
set_option linter.unusedVariables false
namespace Go.Proofs.Ytklmpopomokglaa
open Go Go.Abs Go.Proofs
theorem atlasTurned_lifted (os : Os) (started : os.Started) (H : Type) (enc : TypeId × Value → H) :
    ReturnsInHanded {} Try.checked os 11 .any (Rows.atlasTurnedSpec.pre6 enc Try.prog Try.f11 Rows.atlasTurnedRow.domain false) (Rows.atlasTurnedSpec.post enc Try.prog Try.f11 false true false false) := by
  refine returnsInHanded_of_change_sized (C := Try.checked) Try.own started (by kernel_rfl) Try.func11
    (ChangeSpec.witness6 (enc := enc) (C := Try.checked) false ⟨#[], #[.agg #[.int .i64 0, .slice none 0 0], .int .u8 0, .int .u8 0, .int .u8 0], []⟩ 8 (by kernel_rfl) (by kernel_rfl) (by kernel_rfl) (by kernel_rfl)) ?_
  intro W base args ds gs before hval hW hcnd hw _
  refine law_calls (X := tx) (n := 9) (tb := 4) Try.laidOut Try.rowed Try.full (by kernel_rfl) rfl rfl rfl (fun ds h => ?_) (by kernel_rfl) hval hW hw (fun xs hx => ?_)
  · rw [Try.params11] at h
    match ds, h with
    | [_, _, _, _], _ => rfl
  · rw [Try.params11] at hx
    obtain ⟨d1, r1, rfl, h1, d2, r2, rfl, h2, d3, r3, rfl, h3, d4, r4, rfl, h4, hx⟩ := hx
    have hx : r4 = [] := hx
    subst hx
    obtain ⟨n, rows, ha⟩ := arg_plan h1
    obtain ⟨k1, hb, h2', h3'⟩ := arg_u8 h2
    obtain ⟨k2, hc, h4', h5'⟩ := arg_u8 h3
    obtain ⟨k3, hd, h6', h7'⟩ := arg_u8 h4
    change Pure _ _ [argV Try.prog 24 d1, argV Try.prog 5 d2, argV Try.prog 5 d3, argV Try.prog 5 d4] _
    rw [ha, hb, hc, hd]
    exact turnedLaw_pure n rows k1 k2 k3 h2' h3' h4' h5' h6' h7'

theorem atlasTurned_holds : Rows.AtlasTurnedSaid :=
  OpenClaim.holds_of_wide 11 Try.f11 rfl rfl rfl rfl rfl rfl rfl ⟨rfl, rfl, rfl, rfl, rfl⟩ rfl rfl rfl rfl rfl (by kernel_rfl) Try.func11 (by kernel_rfl)
    (of_decide_eq_true (by kernel_rfl)) (by unfold Func.isWrapper; first | (rw [if_pos (by decide +kernel)]; kernel_rfl) | (rw [if_neg (by decide +kernel)]; exact ⟨rfl, rfl⟩))
    (fun os started H enc _ => atlasTurned_lifted os started H enc)
end Go.Proofs.Ytklmpopomokglaa
