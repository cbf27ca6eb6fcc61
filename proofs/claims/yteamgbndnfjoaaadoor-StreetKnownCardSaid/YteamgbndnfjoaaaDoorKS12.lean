/- PROVED: lampblacklaw07.StreetKnown returns true, and what it is given reads afterwards as before. CONDITIONS: those of the given card StreetKnownCardSaid, no others. -/
import Derived.Test.YteamgbndnfjoaaaDoorKS0
import Derived.Test.YteamgbndnfjoaaaDoorS18
set_option linter.unusedSimpArgs false
set_option linter.unusedVariables false
set_option maxRecDepth 100000
namespace Go.Proofs.YteamgbndnfjoaaaDoor
open Go Go.Abs Go.Proofs
theorem streetKnown_met (os : Os) : laidMet Tryd.prog Rows.streetKnownRow.laid ((laidWorld os).forCall (fun _ _ => 0) ⟨#[], #[], []⟩).memory :=
  laidMet_of_run' 8 (by kernel_rfl) (by kernel_rfl)
theorem streetKnown_reads (os : Os) {H : Type} (enc : TypeId × Value → H) : ∃ x, DataW.whole enc Tryd.prog ((laidWorld os).forCall (fun _ _ => 0) ⟨#[], #[], []⟩).memory Tryd.f12.params.toList Rows.streetKnownSpec.vars false (#[] : Array Value).toList 8 = some x :=
  Option.isSome_iff_exists.1 (by kernel_rfl)
theorem streetKnown_lifted (os : Os) (started : os.Started) (H : Type) (enc : TypeId × Value → H) (F : Stop.Interp) :
    ReturnsInHanded {} Tryd.checked os 12 .any ((OpenSpec.ofChange Rows.streetKnownSpec).preRow enc Tryd.prog Tryd.f12 Rows.streetKnownRow.domain false Rows.streetKnownRow.laid) (((OpenSpec.ofChange Rows.streetKnownSpec).at F).post enc Tryd.prog Tryd.f12 false true false false) := by
  obtain ⟨x, hx⟩ := streetKnown_reads os enc
  refine returnsInHanded_of_row (C := Tryd.checked) (s := OpenSpec.ofChange Rows.streetKnownSpec) Tryd.own started (by kernel_rfl) Tryd.func12
    (witness_row_at (enc := enc) (C := Tryd.checked) false (laidWorld os) #[] rfl (by kernel_rfl) (by kernel_rfl) (by kernel_rfl)
      (OpenSpec.preRow_of_cond 8 hx rfl (fun k hk => by cases hk) (by kernel_rfl) (streetKnown_met os))) ?_
  intro W base args ds gs before hval hW _ _ hw hL _ _
  refine law_calls_at (X := tx) (n := 9) (tb := 4) (H0 := GH) (s := Rows.streetKnownSpec) Tryd.laidOut Tryd.rowed Tryd.full (by kernel_rfl) rfl rfl rfl (fun ds h => ?_) (by kernel_rfl) hval hW hw (gl_rel hL) (fun xs hx => ?_)
  · rw [Tryd.params12] at h
    match ds, h with
    | [], _ => rfl
  · rw [Tryd.params12] at hx
    have hx : xs = [] := hx
    subst hx
    exact known12

theorem streetKnown_said : Rows.StreetKnownSaid :=
  OpenClaim.holds_of_cond 12 Tryd.f12 rfl rfl rfl rfl rfl rfl rfl ⟨rfl, rfl, rfl, rfl, rfl⟩ rfl rfl rfl rfl rfl (by kernel_rfl) Tryd.func12 (by kernel_rfl)
    (of_decide_eq_true (by kernel_rfl)) (by unfold Func.isWrapper; first | (rw [if_pos (by decide +kernel)]; kernel_rfl) | (rw [if_neg (by decide +kernel)]; exact ⟨rfl, rfl⟩))
    (fun os started H enc _ F => by rw [OpenClaim.pre_eq_preRow]; exact streetKnown_lifted os started H enc F)
theorem streetKnown_plain (f : FuncId) (fn : Func) (hf : Tryd.pinned.checked.prog.funcNamed "lampblack/lampblacklaw07.StreetKnown" = some f) (hfn : Tryd.pinned.checked.prog.funcs[f]? = some fn) :
    false = Tryd.pinned.checked.prog.looks [] ∧ ∀ (j : Nat) t, fn.params[j]? = some t → Tryd.pinned.checked.prog.wantsStandIn t = false := by
  obtain rfl : f = 12 := Option.some.inj ((show Tryd.prog.funcNamed "lampblack/lampblacklaw07.StreetKnown" = some 12 by kernel_rfl).symm.trans hf) |>.symm
  obtain rfl : fn = Tryd.f12 := (Option.some.inj (Tryd.func12.symm.trans hfn)).symm
  refine ⟨by kernel_rfl, fun j t ht => ?_⟩
  rw [Tryd.params12] at ht
  simp at ht
theorem streetKnown_holds : Rows.StreetKnownCardSaid :=
  Claim7.holds_tied_plain_at .later [] _ _ _ _ streetKnown_said (fun _ h => by cases h) (by kernel_rfl) (fun _ h => by cases h) streetKnown_row_tie rfl ⟨rfl, rfl⟩ (by kernel_rfl) rfl streetKnown_plain (by kernel_rfl)
end Go.Proofs.YteamgbndnfjoaaaDoor
