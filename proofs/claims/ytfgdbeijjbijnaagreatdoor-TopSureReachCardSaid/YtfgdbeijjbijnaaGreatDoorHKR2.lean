/- PROVED: lampblacktop.TopSureReach returns true, and what it is given reads afterwards as before. CONDITIONS: those of the given card TopSureReachCardSaid, no others. -/
import Derived.Test.YtfgdbeijjbijnaaGreatDoorHG24
import Derived.Test.YtfgdbeijjbijnaaGreatDoorHV2
set_option linter.unusedSimpArgs false
set_option linter.unusedVariables false
set_option linter.unusedSimpArgs false
set_option linter.unusedVariables false
set_option maxRecDepth 100000
namespace Go.Proofs.YtfgdbeijjbijnaaGreatDoor
open Go Go.Abs Go.Proofs
theorem Is (os : Os) : laidMet Tryz.prog Rows.topSureReachRow.laid ((Io os).forCall (fun _ _ => 0) ⟨#[], #[.agg #[.slice none 0 0, .slice none 0 0, .slice none 0 0, .slice none 0 0], .slice none 0 0, .int .u8 0, .int .u8 0, .slice none 0 0, .int .u8 0, .int .u32 0], []⟩).memory :=
 laidMet_of_run' 8 (by kernel_rfl) (by kernel_rfl)
theorem GW (os : Os) {H : Type} (enc : TypeId × Value → H) : ∃ x, DataW.whole enc Tryz.prog ((Io os).forCall (fun _ _ => 0) ⟨#[], #[.agg #[.slice none 0 0, .slice none 0 0, .slice none 0 0, .slice none 0 0], .slice none 0 0, .int .u8 0, .int .u8 0, .slice none 0 0, .int .u8 0, .int .u32 0], []⟩).memory Tryz.f4.params.toList Rows.topSureReachSpec.vars false (#[.agg #[.slice none 0 0, .slice none 0 0, .slice none 0 0, .slice none 0 0], .slice none 0 0, .int .u8 0, .int .u8 0, .slice none 0 0, .int .u8 0, .int .u32 0] : Array Value).toList 8 = some x :=
 Option.isSome_iff_exists.1 (by kernel_rfl)
theorem Gj (os : Os) (started : os.Started) (H : Type) (enc : TypeId × Value → H) (F : Stop.Interp) :
  ReturnsInHanded {} Tryz.checked os 4 .any ((OpenSpec.ofChange Rows.topSureReachSpec).preRow enc Tryz.prog Tryz.f4 Rows.topSureReachRow.domain false Rows.topSureReachRow.laid) (((OpenSpec.ofChange Rows.topSureReachSpec).at F).post enc Tryz.prog Tryz.f4 false true false false) := by
 obtain ⟨x, hx⟩ := GW os enc
 refine returnsInHanded_of_row (C := Tryz.checked) (s := OpenSpec.ofChange Rows.topSureReachSpec) Tryz.own started (by kernel_rfl) Tryz.func4
  (witness_row_at (enc := enc) (C := Tryz.checked) false (Io os) #[.agg #[.slice none 0 0, .slice none 0 0, .slice none 0 0, .slice none 0 0], .slice none 0 0, .int .u8 0, .int .u8 0, .slice none 0 0, .int .u8 0, .int .u32 0] rfl (by kernel_rfl) (by kernel_rfl) (by kernel_rfl)
   (OpenSpec.preRow_of_cond 8 hx rfl (fun k hk => by cases hk) (by kernel_rfl) (Is os))) ?_
 intro W base args ds gs before hval hW _ _ hw hL _ _
 refine Om (X := tx) (n := 9) (tb := 4) (H0 := GH3) (s := Rows.topSureReachSpec) Tryz.laidOut Tryz.rowed Tryz.full (by kernel_rfl) rfl rfl rfl (fun ds h => ?_) (by kernel_rfl) hval hW hw (aHV hL) (fun xs hx => ?_)
 ·rw [Tryz.params4] at h
  match ds, h with
  | [_, _, _, _, _, _, _], _ => rfl
 ·rw [Tryz.params4] at hx
  obtain ⟨d1, r1, rfl, h1, d2, r2, rfl, h2, d3, r3, rfl, h3, d4, r4, rfl, h4, d5, r5, rfl, h5, d6, r6, rfl, h6, d7, r7, rfl, h7, hx⟩ := hx
  have hx : r7 = [] := hx
  subst hx
  obtain ⟨l, e1⟩ := aDU h1
  obtain ⟨y, e2, hy⟩ := aFR h2
  obtain ⟨en, e3, b1, b2⟩ := Se h3
  obtain ⟨pc, e4, b3, b4⟩ := Se h4
  obtain ⟨ps, e5, hp⟩ := Vn h5
  obtain ⟨dd, e6, b5, b6⟩ := Se h6
  obtain ⟨b, e7⟩ := aFP h7
  change Ae _ _ [Dz Tryz.prog 67 d1, Dz Tryz.prog 68 d2, Dz Tryz.prog 5 d3, Dz Tryz.prog 5 d4, Dz Tryz.prog 69 d5, Dz Tryz.prog 5 d6, Dz Tryz.prog 70 d7] _ _
  rw [e1, e2, e3, e4, e5, e6, e7]
  exact aDS l y hy en pc dd b b1 b2 b3 b4 b5 b6 ps hp (aII (24, [], GH3, Fc) (by simp [aEP]))
theorem HW : Rows.TopSureReachSaid :=
 OpenClaim.holds_of_cond 4 Tryz.f4 rfl rfl rfl rfl rfl rfl rfl ⟨rfl, rfl, rfl, rfl, rfl⟩ rfl rfl rfl rfl rfl (by as_aux_lemma => kernel_rfl) Tryz.func4 Gi
  (of_decide_eq_true (by as_aux_lemma => kernel_rfl)) (by unfold Func.isWrapper; first | (rw [if_pos (by decide +kernel)]; as_aux_lemma => kernel_rfl) | (rw [if_neg (by decide +kernel)]; exact ⟨rfl, rfl⟩))
  (fun os started H enc _ F => by rw [OpenClaim.pre_eq_preRow]; exact Gj os started H enc F)
theorem GX (f : FuncId) (fn : Func) (hf : Tryz.pinned.checked.prog.funcNamed "lampblack/lampblacktop.TopSureReach" = some f) (hfn : Tryz.pinned.checked.prog.funcs[f]? = some fn) :
  false = Tryz.pinned.checked.prog.looks [] ∧ ∀ (j : Nat) t, fn.params[j]? = some t → Tryz.pinned.checked.prog.wantsStandIn t = false := by
 obtain rfl : f = 4 := Option.some.inj ((show Tryz.prog.funcNamed "lampblack/lampblacktop.TopSureReach" = some 4 by as_aux_lemma => kernel_rfl).symm.trans hf) |>.symm
 obtain rfl : fn = Tryz.f4 := (Option.some.inj (Tryz.func4.symm.trans hfn)).symm
 refine ⟨by as_aux_lemma => kernel_rfl, fun j t ht => ?_⟩
 rw [Tryz.params4] at ht
 have hm : t ∈ [67, 68, 5, 5, 69, 5, 70] := by have := Array.mem_of_getElem? ht; simpa using this
 simp only [List.mem_cons, List.not_mem_nil, or_false] at hm
 rcases hm with rfl | rfl | rfl | rfl | rfl | rfl | rfl
 ·exact (show Tryz.prog.wantsStandIn 67 = false by kernel_rfl)
 ·exact (show Tryz.prog.wantsStandIn 68 = false by kernel_rfl)
 ·exact (show Tryz.prog.wantsStandIn 5 = false by kernel_rfl)
 ·exact (show Tryz.prog.wantsStandIn 5 = false by kernel_rfl)
 ·exact (show Tryz.prog.wantsStandIn 69 = false by kernel_rfl)
 ·exact (show Tryz.prog.wantsStandIn 5 = false by kernel_rfl)
 ·exact (show Tryz.prog.wantsStandIn 70 = false by kernel_rfl)
theorem topSureReach_holds : Rows.TopSureReachCardSaid :=
 Claim7.holds_tied_plain_at .later [] _ _ _ _ HW (fun _ h => by cases h) (by as_aux_lemma => kernel_rfl) (fun _ h => by cases h) topSureReach_row_tie rfl ⟨rfl, rfl⟩ (by as_aux_lemma => kernel_rfl) rfl GX (by as_aux_lemma => kernel_rfl)
end Go.Proofs.YtfgdbeijjbijnaaGreatDoor
