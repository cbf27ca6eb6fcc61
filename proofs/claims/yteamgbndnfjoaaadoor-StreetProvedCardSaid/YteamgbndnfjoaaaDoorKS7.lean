/- PROVED: lampblacklaw07.StreetProved returns true, and what it is given reads afterwards as before. CONDITIONS: those of the given card StreetProvedCardSaid, no others. -/
import Derived.Test.YteamgbndnfjoaaaDoorKS0
import Derived.Test.YteamgbndnfjoaaaDoorS23
set_option linter.unusedSimpArgs false
set_option linter.unusedVariables false
set_option maxRecDepth 100000
namespace Go.Proofs.YteamgbndnfjoaaaDoor
open Go Go.Abs Go.Proofs
theorem streetProved_met (os : Os) : laidMet Tryd.prog Rows.streetProvedRow.laid ((laidWorld os).forCall (fun _ _ => 0) ⟨#[], #[.agg #[.int .i64 0, .int .i64 0, .int .i64 0, .slice none 0 0], .int .u32 0, .slice none 0 0], []⟩).memory :=
  laidMet_of_run' 8 (by kernel_rfl) (by kernel_rfl)
theorem streetProved_reads (os : Os) {H : Type} (enc : TypeId × Value → H) : ∃ x, DataW.whole enc Tryd.prog ((laidWorld os).forCall (fun _ _ => 0) ⟨#[], #[.agg #[.int .i64 0, .int .i64 0, .int .i64 0, .slice none 0 0], .int .u32 0, .slice none 0 0], []⟩).memory Tryd.f7.params.toList Rows.streetProvedSpec.vars false (#[.agg #[.int .i64 0, .int .i64 0, .int .i64 0, .slice none 0 0], .int .u32 0, .slice none 0 0] : Array Value).toList 8 = some x :=
  Option.isSome_iff_exists.1 (by kernel_rfl)
theorem streetProved_lifted (os : Os) (started : os.Started) (H : Type) (enc : TypeId × Value → H) (F : Stop.Interp) :
    ReturnsInHanded {} Tryd.checked os 7 .any ((OpenSpec.ofChange Rows.streetProvedSpec).preRow enc Tryd.prog Tryd.f7 Rows.streetProvedRow.domain false Rows.streetProvedRow.laid) (((OpenSpec.ofChange Rows.streetProvedSpec).at F).post enc Tryd.prog Tryd.f7 false true false false) := by
  obtain ⟨x, hx⟩ := streetProved_reads os enc
  refine returnsInHanded_of_row (C := Tryd.checked) (s := OpenSpec.ofChange Rows.streetProvedSpec) Tryd.own started (by kernel_rfl) Tryd.func7
    (witness_row_at (enc := enc) (C := Tryd.checked) false (laidWorld os) #[.agg #[.int .i64 0, .int .i64 0, .int .i64 0, .slice none 0 0], .int .u32 0, .slice none 0 0] rfl (by kernel_rfl) (by kernel_rfl) (by kernel_rfl)
      (OpenSpec.preRow_of_cond 8 hx rfl (fun k hk => by cases hk) (by kernel_rfl) (streetProved_met os))) ?_
  intro W base args ds gs before hval hW _ _ hw hL _ _
  refine law_calls_at (X := tx) (n := 9) (tb := 4) (H0 := GH) (s := Rows.streetProvedSpec) Tryd.laidOut Tryd.rowed Tryd.full (by kernel_rfl) rfl rfl rfl (fun ds h => ?_) (by kernel_rfl) hval hW hw (gl_rel hL) (fun xs hx => ?_)
  · rw [Tryd.params7] at h
    match ds, h with
    | [_, _, _], _ => rfl
  · rw [Tryd.params7] at hx
    obtain ⟨d1, r1, rfl, h1, d2, r2, rfl, h2, d3, r3, rfl, h3, hx⟩ := hx
    have hx : r3 = [] := hx
    subst hx
    obtain ⟨r, ha⟩ := arg_road h1
    obtain ⟨b, hb, _⟩ := arg_u32 h2
    obtain ⟨l, hc⟩ := arg_ints64 h3
    change ACall _ _ [argV Tryd.prog 24 d1, argV Tryd.prog 50 d2, argV Tryd.prog 45 d3] _ _
    rw [ha, hb, hc]
    exact provedLaw r b l

theorem streetProved_said : Rows.StreetProvedSaid :=
  OpenClaim.holds_of_cond 7 Tryd.f7 rfl rfl rfl rfl rfl rfl rfl ⟨rfl, rfl, rfl, rfl, rfl⟩ rfl rfl rfl rfl rfl (by kernel_rfl) Tryd.func7 (by kernel_rfl)
    (of_decide_eq_true (by kernel_rfl)) (by unfold Func.isWrapper; first | (rw [if_pos (by decide +kernel)]; kernel_rfl) | (rw [if_neg (by decide +kernel)]; exact ⟨rfl, rfl⟩))
    (fun os started H enc _ F => by rw [OpenClaim.pre_eq_preRow]; exact streetProved_lifted os started H enc F)
theorem streetProved_plain (f : FuncId) (fn : Func) (hf : Tryd.pinned.checked.prog.funcNamed "lampblack/lampblacklaw07.StreetProved" = some f) (hfn : Tryd.pinned.checked.prog.funcs[f]? = some fn) :
    false = Tryd.pinned.checked.prog.looks [] ∧ ∀ (j : Nat) t, fn.params[j]? = some t → Tryd.pinned.checked.prog.wantsStandIn t = false := by
  obtain rfl : f = 7 := Option.some.inj ((show Tryd.prog.funcNamed "lampblack/lampblacklaw07.StreetProved" = some 7 by kernel_rfl).symm.trans hf) |>.symm
  obtain rfl : fn = Tryd.f7 := (Option.some.inj (Tryd.func7.symm.trans hfn)).symm
  refine ⟨by kernel_rfl, fun j t ht => ?_⟩
  rw [Tryd.params7] at ht
  have hm : t ∈ [24, 50, 45] := by have := Array.mem_of_getElem? ht; simpa using this
  simp only [List.mem_cons, List.not_mem_nil, or_false] at hm
  rcases hm with rfl | rfl | rfl
  · exact (show Tryd.prog.wantsStandIn 24 = false by kernel_rfl)
  · exact (show Tryd.prog.wantsStandIn 50 = false by kernel_rfl)
  · exact (show Tryd.prog.wantsStandIn 45 = false by kernel_rfl)
theorem streetProved_holds : Rows.StreetProvedCardSaid :=
  Claim7.holds_tied_plain_at .later [] _ _ _ _ streetProved_said (fun _ h => by cases h) (by kernel_rfl) (fun _ h => by cases h) streetProved_row_tie rfl ⟨rfl, rfl⟩ (by kernel_rfl) rfl streetProved_plain (by kernel_rfl)
end Go.Proofs.YteamgbndnfjoaaaDoor
