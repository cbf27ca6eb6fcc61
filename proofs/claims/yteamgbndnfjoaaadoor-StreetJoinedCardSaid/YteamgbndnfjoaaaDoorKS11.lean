/- PROVED: lampblacklaw07.StreetJoined returns true, and what it is given reads afterwards as before. CONDITIONS: those of the given card StreetJoinedCardSaid, no others. -/
import Derived.Test.YteamgbndnfjoaaaDoorKS0
import Derived.Test.YteamgbndnfjoaaaDoorS27
set_option linter.unusedSimpArgs false
set_option linter.unusedVariables false
set_option maxRecDepth 100000
namespace Go.Proofs.YteamgbndnfjoaaaDoor
open Go Go.Abs Go.Proofs
theorem streetJoined_met (os : Os) : laidMet Tryd.prog Rows.streetJoinedRow.laid ((laidWorld os).forCall (fun _ _ => 0) ⟨#[], #[.agg #[.int .i64 0, .int .i64 0, .int .i64 0, .slice none 0 0], .agg #[.int .i64 0, .int .i64 0, .int .i64 0, .slice none 0 0]], []⟩).memory :=
  laidMet_of_run' 8 (by kernel_rfl) (by kernel_rfl)
theorem streetJoined_reads (os : Os) {H : Type} (enc : TypeId × Value → H) : ∃ x, DataW.whole enc Tryd.prog ((laidWorld os).forCall (fun _ _ => 0) ⟨#[], #[.agg #[.int .i64 0, .int .i64 0, .int .i64 0, .slice none 0 0], .agg #[.int .i64 0, .int .i64 0, .int .i64 0, .slice none 0 0]], []⟩).memory Tryd.f11.params.toList Rows.streetJoinedSpec.vars false (#[.agg #[.int .i64 0, .int .i64 0, .int .i64 0, .slice none 0 0], .agg #[.int .i64 0, .int .i64 0, .int .i64 0, .slice none 0 0]] : Array Value).toList 8 = some x :=
  Option.isSome_iff_exists.1 (by kernel_rfl)
theorem streetJoined_lifted (os : Os) (started : os.Started) (H : Type) (enc : TypeId × Value → H) (F : Stop.Interp) :
    ReturnsInHanded {} Tryd.checked os 11 .any ((OpenSpec.ofChange Rows.streetJoinedSpec).preRow enc Tryd.prog Tryd.f11 Rows.streetJoinedRow.domain false Rows.streetJoinedRow.laid) (((OpenSpec.ofChange Rows.streetJoinedSpec).at F).post enc Tryd.prog Tryd.f11 false true false false) := by
  obtain ⟨x, hx⟩ := streetJoined_reads os enc
  refine returnsInHanded_of_row (C := Tryd.checked) (s := OpenSpec.ofChange Rows.streetJoinedSpec) Tryd.own started (by kernel_rfl) Tryd.func11
    (witness_row_at (enc := enc) (C := Tryd.checked) false (laidWorld os) #[.agg #[.int .i64 0, .int .i64 0, .int .i64 0, .slice none 0 0], .agg #[.int .i64 0, .int .i64 0, .int .i64 0, .slice none 0 0]] rfl (by kernel_rfl) (by kernel_rfl) (by kernel_rfl)
      (OpenSpec.preRow_of_cond 8 hx rfl (fun k hk => by cases hk) (by kernel_rfl) (streetJoined_met os))) ?_
  intro W base args ds gs before hval hW _ _ hw hL _ _
  refine law_calls_at (X := tx) (n := 9) (tb := 4) (H0 := GH) (s := Rows.streetJoinedSpec) Tryd.laidOut Tryd.rowed Tryd.full (by kernel_rfl) rfl rfl rfl (fun ds h => ?_) (by kernel_rfl) hval hW hw (gl_rel hL) (fun xs hx => ?_)
  · rw [Tryd.params11] at h
    match ds, h with
    | [_, _], _ => rfl
  · rw [Tryd.params11] at hx
    obtain ⟨d1, r1, rfl, h1, d2, r2, rfl, h2, hx⟩ := hx
    have hx : r2 = [] := hx
    subst hx
    obtain ⟨r, ha⟩ := arg_road h1
    obtain ⟨s, hb⟩ := arg_road h2
    change ACall _ _ [argV Tryd.prog 24 d1, argV Tryd.prog 24 d2] _ _
    rw [ha, hb]
    exact joinedLaw r s

theorem streetJoined_said : Rows.StreetJoinedSaid :=
  OpenClaim.holds_of_cond 11 Tryd.f11 rfl rfl rfl rfl rfl rfl rfl ⟨rfl, rfl, rfl, rfl, rfl⟩ rfl rfl rfl rfl rfl (by kernel_rfl) Tryd.func11 (by kernel_rfl)
    (of_decide_eq_true (by kernel_rfl)) (by unfold Func.isWrapper; first | (rw [if_pos (by decide +kernel)]; kernel_rfl) | (rw [if_neg (by decide +kernel)]; exact ⟨rfl, rfl⟩))
    (fun os started H enc _ F => by rw [OpenClaim.pre_eq_preRow]; exact streetJoined_lifted os started H enc F)
theorem streetJoined_plain (f : FuncId) (fn : Func) (hf : Tryd.pinned.checked.prog.funcNamed "lampblack/lampblacklaw07.StreetJoined" = some f) (hfn : Tryd.pinned.checked.prog.funcs[f]? = some fn) :
    false = Tryd.pinned.checked.prog.looks [] ∧ ∀ (j : Nat) t, fn.params[j]? = some t → Tryd.pinned.checked.prog.wantsStandIn t = false := by
  obtain rfl : f = 11 := Option.some.inj ((show Tryd.prog.funcNamed "lampblack/lampblacklaw07.StreetJoined" = some 11 by kernel_rfl).symm.trans hf) |>.symm
  obtain rfl : fn = Tryd.f11 := (Option.some.inj (Tryd.func11.symm.trans hfn)).symm
  refine ⟨by kernel_rfl, fun j t ht => ?_⟩
  rw [Tryd.params11] at ht
  have hm : t ∈ [24, 24] := by have := Array.mem_of_getElem? ht; simpa using this
  simp only [List.mem_cons, List.not_mem_nil, or_false] at hm
  rcases hm with rfl | rfl
  · exact (show Tryd.prog.wantsStandIn 24 = false by kernel_rfl)
  · exact (show Tryd.prog.wantsStandIn 24 = false by kernel_rfl)
theorem streetJoined_holds : Rows.StreetJoinedCardSaid :=
  Claim7.holds_tied_plain_at .later [] _ _ _ _ streetJoined_said (fun _ h => by cases h) (by kernel_rfl) (fun _ h => by cases h) streetJoined_row_tie rfl ⟨rfl, rfl⟩ (by kernel_rfl) rfl streetJoined_plain (by kernel_rfl)
end Go.Proofs.YteamgbndnfjoaaaDoor
