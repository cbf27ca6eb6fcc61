/- The variables that the rows list, as the logic has them. -/
import Derived.Test.YtfgdbeijjbijnaaGreatDoorG22
set_option linter.unusedSimpArgs false
set_option linter.unusedVariables false
set_option linter.unusedSimpArgs false
set_option linter.unusedVariables false
set_option maxRecDepth 100000
namespace Go.Proofs.YtfgdbeijjbijnaaGreatDoor
open Go Go.Abs Go.Proofs
def bitsL : List Int := [0, 1, 56, 2, 57, 49, 28, 3, 61, 58, 42, 50, 38, 29, 17, 4, 62, 47, 59, 36, 45, 43, 51, 22, 53, 39, 33, 30, 24, 18, 12, 5, 63, 55, 48, 27, 60, 41, 37, 16, 46, 35, 44, 21, 52, 32, 23, 11, 54, 26, 40, 15, 34, 20, 31, 10, 25, 14, 19, 9, 13, 8, 7, 6]
theorem bits_eq : glBits = .gl 2 (bitsL.map fun n => .int .u8 n) := rfl
theorem first_eq : glFirst = .gl 1 (([1, 0, 0, 1] : List Int).map fun n => .int .i64 n) := rfl
theorem none_eq : glNone = .gl 0 (([0, 0, 0, -2] : List Int).map fun n => .int .i64 n) := rfl
theorem gl_rel {W : World} (h : laidMetH Tryz.prog [("math/bits.deBruijn64tab", Rows.laid_math_bits_deBruijn64tab), ("lampblack/street.none", Rows.laid_lampblack_street_none), ("lampblack/unit.first", Rows.laid_lampblack_unit_first)] W) : Rel W (G0 W) GH3 := by
  have h : laidMet Tryz.prog [("math/bits.deBruijn64tab", Rows.laid_math_bits_deBruijn64tab), ("lampblack/street.none", Rows.laid_lampblack_street_none), ("lampblack/unit.first", Rows.laid_lampblack_unit_first)] W := h
  obtain ⟨ps, ⟨g1, t1, cs1, fu1, p1, q1, hg1, ht1, hv1, hd1, ⟨g2, t2, cs2, fu2, p2, q2, hg2, ht2, hv2, hd2, ⟨g3, t3, cs3, fu3, p3, q3, hg3, ht3, hv3, hd3, _, _⟩, _⟩, _⟩, _⟩ := h
  have eg1 : Tryz.prog.globalNamed "math/bits.deBruijn64tab" = some 2 := by kernel_rfl
  have eg2 : Tryz.prog.globalNamed "lampblack/street.none" = some 0 := by kernel_rfl
  have eg3 : Tryz.prog.globalNamed "lampblack/unit.first" = some 1 := by kernel_rfl
  have et1 : (Tryz.prog.globals[2]?).map (·.type) = some 507 := by kernel_rfl
  have et2 : (Tryz.prog.globals[0]?).map (·.type) = some 270 := by kernel_rfl
  have et3 : (Tryz.prog.globals[1]?).map (·.type) = some 435 := by kernel_rfl
  obtain rfl := Option.some.inj (eg1.symm.trans hg1)
  obtain rfl := Option.some.inj (eg2.symm.trans hg2)
  obtain rfl := Option.some.inj (eg3.symm.trans hg3)
  obtain rfl := Option.some.inj (et1.symm.trans ht1)
  obtain rfl := Option.some.inj (et2.symm.trans ht2)
  obtain rfl := Option.some.inj (et3.symm.trans ht3)
  have c1 : cs1.toList = bitsL.map (Value.int .u8) := arr_ints (n := 64) (e := 5) (by kernel_rfl) (by kernel_rfl) (by kernel_rfl) (by kernel_rfl) hd1
  have c3 : cs3.toList = ([1, 0, 0, 1] : List Int).map (Value.int .i64) := arr_ints (n := 4) (e := 2) (by kernel_rfl) (by kernel_rfl) (by kernel_rfl) (by kernel_rfl) hd3
  have c2 : cs2.toList = ([0, 0, 0, -2] : List Int).map (Value.int .i64) := by
    obtain ⟨xs, n, hn, hx, hl, hlen, hf⟩ := DataW.trod_struct Tryz.underlying270 hd2
    have hcells : cs2.toList.length = 4 := by rw [hl]; kernel_rfl
    have hc3 : Tryz.prog.cellsOf 3 = 1 := by kernel_rfl
    have hc2 : Tryz.prog.cellsOf 2 = 1 := by kernel_rfl
    obtain ⟨c0, c1, c2, c3, hcs⟩ : ∃ a b c d, cs2.toList = [a, b, c, d] := by
      match h : cs2.toList, hcells with
      | [a, b, c, d], _ => exact ⟨a, b, c, d, rfl⟩
    obtain ⟨x0, x1, x2, x3, hxs⟩ : ∃ a b c d, xs = [a, b, c, d] := by
      match xs, hlen with
      | [a, b, c, d], _ => exact ⟨a, b, c, d, rfl⟩
    subst hxs
    have hx1 : ([x0, x1, x2, x3].map (·.1)) = [.lit (.int .i64 0), .lit (.int .i64 0), .lit (.int .i64 0), .lit (.int .i64 (-2))] := by
      have := congrArg Prod.fst hx
      simp only [Rows.laid_lampblack_street_none, DataW.agg.injEq] at this
      exact this.symm
    simp only [List.map_cons, List.map_nil, List.cons.injEq, and_true] at hx1
    obtain ⟨y0, y1, y2, y3⟩ := hx1
    have f0 := hf 0 _ rfl
    have f1 := hf 1 _ rfl
    have f2 := hf 2 _ rfl
    have f3 := hf 3 _ rfl
    simp only [hcs, hc3, hc2, List.getElem?_cons_zero, List.getElem?_cons_succ, List.drop_zero, List.drop_succ_cons, List.take_succ_cons, List.take_zero] at f0 f1 f2 f3
    obtain ⟨z0, e0, r0, _⟩ := DataW.trod_int Tryz.underlying3 f0
    obtain ⟨z1, e1, r1, _⟩ := DataW.trod_int Tryz.underlying3 f1
    obtain ⟨z2, e2, r2, _⟩ := DataW.trod_int Tryz.underlying2 f2
    obtain ⟨z3, e3, r3, _⟩ := DataW.trod_int Tryz.underlying3 f3
    rw [r0] at y0; rw [r1] at y1; rw [r2] at y2; rw [r3] at y3
    cases y0; cases y1; cases y2; cases y3
    cases e0; cases e1; cases e2; cases e3
    rw [hcs]; rfl
  refine ⟨fun _ _ h => h, fun b id h => (by cases h), fun id x hx => ?_⟩
  match id, hx with
  | 0, hx => cases hx; rw [none_eq]; exact gl_ints eg2 hv2 c2
  | 1, hx => cases hx; rw [first_eq]; exact gl_ints eg3 hv3 c3
  | 2, hx => cases hx; rw [bits_eq]; exact gl_ints eg1 hv1 c1
  | n + 3, hx => simp [GH3] at hx
noncomputable def laidHeap (os : Os) : Array Obj := (((World.holding Tryz.prog os ⟨#[], #[], []⟩).heap.modify 0 (fun
      | .cells _ t frozen => .cells #[.int .i64 0, .int .i64 0, .int .i64 0, .int .i64 (-2)] t frozen
      | o => o)).modify 1 (fun
      | .cells _ t frozen => .cells #[.int .i64 1, .int .i64 0, .int .i64 0, .int .i64 1] t frozen
      | o => o)).modify 2 (fun
      | .cells _ t frozen => .cells (bitsL.map (Value.int .u8)).toArray t frozen
      | o => o)
noncomputable def laidWorld (os : Os) : World := { World.holding Tryz.prog os ⟨#[], #[], []⟩ with heap := laidHeap os }
end Go.Proofs.YtfgdbeijjbijnaaGreatDoor

/- The row's closed facts. -/
set_option linter.unusedSimpArgs false
set_option linter.unusedVariables false
set_option maxRecDepth 100000
namespace Go.Proofs.YtfgdbeijjbijnaaGreatDoor
open Go Go.Abs Go.Proofs
set_option maxHeartbeats 4000000 in
theorem topStreetUnits_joined : joinedFacts Tryz.pinned.checked.prog 6 Tryz.f6 (OpenSpec.ofChange Rows.topStreetUnitsSpec).bare Rows.topStreetUnitsRow = true := by
  simp only [joinedFacts, Bool.and_eq_true]
  refine ⟨⟨⟨⟨⟨⟨⟨⟨⟨⟨⟨⟨⟨⟨⟨⟨⟨⟨⟨⟨⟨⟨⟨⟨⟨⟨⟨⟨⟨⟨⟨?_, ?_⟩, ?_⟩, ?_⟩, ?_⟩, ?_⟩, ?_⟩, ?_⟩, ?_⟩, ?_⟩, ?_⟩, ?_⟩, ?_⟩, ?_⟩, ?_⟩, ?_⟩, ?_⟩, ?_⟩, ?_⟩, ?_⟩, ?_⟩, ?_⟩, ?_⟩, ?_⟩, ?_⟩, ?_⟩, ?_⟩, ?_⟩, ?_⟩, ?_⟩, ?_⟩, ?_⟩
  all_goals as_aux_lemma => kernel_rfl
end Go.Proofs.YtfgdbeijjbijnaaGreatDoor

