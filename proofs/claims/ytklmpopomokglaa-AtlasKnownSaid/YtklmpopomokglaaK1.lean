/- PROVED: lampblacklaw05.AtlasKnown returns true, and what it is given reads afterwards as before. CONDITIONS: those of the given row AtlasKnownSaid, no others. -/
import Derived.Test.YtklmpopomokglaaRows
import Derived.Test.YtklmpopomokglaaW1
import Derived.Test.YtklmpopomokglaaAbsJ
import Derived.SizedLaws
namespace Go.Proofs.Ytklmpopomokglaa
open Go Go.Abs Go.Proofs
theorem Try.own : ownKnob Try.prog.godebug = none := by kernel_rfl
theorem Try.laidOut : laidOutB Try.prog = true := by kernel_rfl
theorem Try.rowed : mapsRowed Try.prog = true := by kernel_rfl
theorem Try.full : ∀ t e, t < Try.prog.types.size → Try.prog.underlying t = some (.slice e) → 0 < Try.prog.cellsOf e := slices_full_of _ (by kernel_rfl)

theorem known_lifted (os : Os) (started : os.Started) (H : Type) (enc : TypeId × Value → H) :
    ReturnsInHanded {} Try.checked os 13 .any (Rows.atlasKnownSpec.pre6 enc Try.prog Try.f13 Rows.atlasKnownRow.domain false) (Rows.atlasKnownSpec.post enc Try.prog Try.f13 false true false false) := by
  refine returnsInHanded_of_change_sized (C := Try.checked) Try.own started (by kernel_rfl) Try.func13
    (ChangeSpec.witness6 (enc := enc) (C := Try.checked) false ⟨#[], #[], []⟩ 8 (by kernel_rfl) (by kernel_rfl) (by kernel_rfl) (by kernel_rfl)) ?_
  intro W base args ds gs before hval hW hcnd hw _
  refine law_calls (X := tx) (n := 9) (tb := 4) Try.laidOut Try.rowed Try.full (by simp [Try.params13]) rfl rfl rfl (fun ds h => ?_) (by kernel_rfl) hval hW hw (fun xs hx => ?_)
  · rw [Try.params13] at h
    match ds, h with
    | [], _ => rfl
  · rw [Try.params13] at hx
    cases hx
    exact known_pure

theorem known_holds : Rows.AtlasKnownSaid :=
  OpenClaim.holds_of_wide 13 Try.f13 rfl rfl rfl rfl rfl rfl rfl ⟨rfl, rfl, rfl, rfl, rfl⟩ rfl rfl rfl rfl rfl (by kernel_rfl) Try.func13 (by kernel_rfl)
    (of_decide_eq_true (by kernel_rfl)) (by unfold Func.isWrapper; first | (rw [if_pos (by decide +kernel)]; kernel_rfl) | (rw [if_neg (by decide +kernel)]; exact ⟨rfl, rfl⟩))
    (fun os started H enc _ => known_lifted os started H enc)
end Go.Proofs.Ytklmpopomokglaa
