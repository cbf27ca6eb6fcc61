/- Arguments of the law of signals, as the logic has them; the variables that its row lists. -/
import Derived.Test.YtfgdbeijjbijnaaGreatDoorCards
import Derived.Test.YtfgdbeijjbijnaaGreatDoorTie
import Derived.Test.YtfgdbeijjbijnaaGreatDoorJG25
import Derived.Test.YtfgdbeijjbijnaaGreatDoorJG15
import Derived.SizedLaws
set_option linter.unusedSimpArgs false
set_option linter.unusedVariables false
set_option linter.unusedSimpArgs false
set_option linter.unusedVariables false
set_option maxRecDepth 100000
namespace Go.Proofs.YtfgdbeijjbijnaaGreatDoor
open Go Go.Abs Go.Proofs
theorem Tryz.own : ownKnob Tryz.prog.godebug = none := by kernel_rfl
theorem Tryz.laidOut : laidOutB Tryz.prog = true := by kernel_rfl
theorem Tryz.rowed : mapsRowed Tryz.prog = true := by kernel_rfl
theorem Tryz.full : ∀ t e, t < Tryz.prog.types.size → Tryz.prog.underlying t = some (.slice e) → 0 < Tryz.prog.cellsOf e := slices_full_of _ (by kernel_rfl)
theorem JY {α : Type} {f : α → List D} {P : List D → Prop} : ∀ {rows : List (List D)}, (∀ r ∈ rows, P r) → (∀ r, P r → ∃ a, r = f a) → ∃ l : List α, rows = l.map f
 | [], _, _ => ⟨[], rfl⟩
 | r :: rows, h, hf => by
  obtain ⟨a, ha⟩ := hf r (h r (by simp))
  obtain ⟨l, hl⟩ := JY (fun r hr => h r (List.mem_cons_of_mem _ hr)) hf
  exact ⟨a :: l, by rw [ha, hl]; rfl⟩
theorem Oy {n : Nat} {ds : List D} (h : Cv Tryz.prog n 2 ds) : ∃ m, ds = [.int .i64 m] := by
 cases n with
 | zero => exact h.elim
 | succ n => simp only [Cv, Tryz.underlying2] at h; obtain ⟨m, h, _⟩ := h; exact ⟨m, h⟩
theorem aEV {n : Nat} {ds : List D} (h : Cv Tryz.prog n 216 ds) : ∃ m : Int, ds = [.int .u16 m] ∧ 0 ≤ m ∧ m < 65536 := by
 cases n with
 | zero => exact h.elim
 | succ n =>
  simp only [Cv, Tryz.underlying216] at h
  obtain ⟨m, h, hw⟩ := h
  refine ⟨m, h, ?_⟩
  simp [Lit.wf, IntKind.min, IntKind.max, IntKind.signed, IntKind.bits] at hw
  omega
theorem UH {n : Nat} {ds : List D} (h : Cv Tryz.prog n 26 ds) : ∃ l : List Int, ds = [.sl (l.map Me.iD)] := by
 cases n with
 | zero => exact h.elim
 | succ n =>
  simp only [Cv, Tryz.underlying26] at h
  obtain ⟨rows, rfl, hw, hr⟩ := h
  obtain ⟨l, rfl⟩ := JY (f := Me.iD) hr (fun r h => Oy h)
  exact ⟨l, rfl⟩
theorem aC8 {n : Nat} {ds : List D} (h : Cv Tryz.prog n 27 ds) : ∃ l : List Int, ds = [.sl (l.map Me.hD)] ∧ Me.B16 l := by
 cases n with
 | zero => exact h.elim
 | succ n =>
  simp only [Cv, Tryz.underlying27] at h
  obtain ⟨rows, rfl, hw, hr⟩ := h
  clear hw
  induction rows with
  | nil => exact ⟨[], rfl, by intro x hx; simp at hx⟩
  | cons r rows ih =>
   obtain ⟨m, hm, h0⟩ := aEV (hr r (by simp))
   obtain ⟨l, hl, hb⟩ := ih (fun r hr' => hr r (List.mem_cons_of_mem _ hr'))
   refine ⟨m :: l, by rw [hm]; simp at hl; rw [hl]; rfl, ?_⟩
   intro x hx
   rcases List.mem_cons.1 hx with rfl | hx
   ·exact h0
   ·exact hb x hx
theorem aHd {n : Nat} {ds : List D} (h : Cv Tryz.prog n 46 ds) : ∃ r : Me.Rg, ds = Me.rgD r := by
 cases n with
 | zero => exact h.elim
 | succ n =>
  simp only [Cv, Tryz.underlying46] at h
  obtain ⟨a, b, rfl, h1, c, d, rfl, h2, h3⟩ := h
  have h3 : d = [] := h3
  subst h3
  obtain ⟨m, rfl⟩ := Oy h1
  obtain ⟨k, rfl⟩ := Oy h2
  exact ⟨⟨m, k⟩, rfl⟩
theorem TD {n : Nat} {ds : List D} (h : Cv Tryz.prog n 23 ds) : ∃ l : List Me.Rg, ds = [.sl (l.map Me.rgD)] := by
 cases n with
 | zero => exact h.elim
 | succ n =>
  simp only [Cv, Tryz.underlying23] at h
  obtain ⟨rows, rfl, hw, hr⟩ := h
  obtain ⟨l, rfl⟩ := JY (f := Me.rgD) hr (fun r h => aHd h)
  exact ⟨l, rfl⟩
theorem aC9 {n : Nat} {ds : List D} (h : Cv Tryz.prog n 22 ds) : ∃ l : List (List Me.Rg), ds = [.sl (l.map Me.rowR)] := by
 cases n with
 | zero => exact h.elim
 | succ n =>
  simp only [Cv, Tryz.underlying22] at h
  obtain ⟨rows, rfl, hw, hr⟩ := h
  obtain ⟨l, rfl⟩ := JY (f := Me.rowR) hr (fun r h => by obtain ⟨l, h⟩ := TD h; exact ⟨l, h⟩)
  exact ⟨l, rfl⟩
theorem M5 {n : Nat} {ds : List D} (h : Cv Tryz.prog n 26 ds) : ∃ l, FA Tryz.prog 26 ds = Me.ints l := by
 obtain ⟨m, rfl⟩ := UH h; exact ⟨m, by simp [FA, Tryz.underlying26, Me.ints]⟩
theorem aDa {n : Nat} {ds : List D} (h : Cv Tryz.prog n 27 ds) : ∃ l, FA Tryz.prog 27 ds = Me.u16s l ∧ Me.B16 l := by
 obtain ⟨m, rfl, hb⟩ := aC8 h; exact ⟨m, by simp [FA, Tryz.underlying27, Me.u16s], hb⟩
theorem aDb {n : Nat} {ds : List D} (h : Cv Tryz.prog n 25 ds) : ∃ c, FA Tryz.prog 25 ds = Me.csV c := by
 cases n with
 | zero => exact h.elim
 | succ n =>
  simp only [Cv, Tryz.underlying25] at h
  obtain ⟨a, b, rfl, h1, c, d, rfl, h2, h3⟩ := h
  have h3 : d = [] := h3
  subst h3
  obtain ⟨m, rfl⟩ := aC9 h1
  obtain ⟨l, rfl⟩ := TD h2
  exact ⟨⟨m, l⟩, by simp [FA, Tryz.underlying25, Me.csV, Me.csC]⟩
theorem Qe {P : Program} {w : World} {base : Nat} {spare : Nat → Bool} {held : Bool} {fuel : Nat} {t e n : Nat} {k : IntKind} {cs : List Value} {ns : List Int} {p : List MemPlace} (ht : P.underlying t = some (.array n e)) (he : P.underlying e = some (.int k)) (h1 : P.cellsOf e = 1) (hl : P.cellsOf t = n)
  (h : DataW.trod (fun _ : TypeId × Value => ()) P w base spare held fuel t cs = some (.agg (ns.map fun m => .lit (.int k m)), p)) : cs = ns.map (Value.int k) := by
 obtain ⟨xs, m, rfl, hx, hlen, hn, hf⟩ := DataW.trod_array ht h
 have hx1 : xs.map (·.1) = ns.map fun m => .lit (.int k m) := by
  have := congrArg Prod.fst hx
  simp only [DataW.agg.injEq] at this
  exact this.symm
 have hnl : ns.length = n := by have := congrArg List.length hx1; simp at this; omega
 refine List.ext_getElem? fun i => ?_
 by_cases hi : i < n
 ·have f0 := hf i hi
  rw [h1, Nat.mul_one] at f0
  have hi1 : i < xs.length := by omega
  rw [List.getElem?_eq_getElem hi1] at f0
  obtain ⟨z, ez, rz, _⟩ := DataW.trod_int he f0
  have hi2 : i < cs.length := by omega
  have hi3 : i < ns.length := by omega
  have hc : (cs.drop i).take 1 = [cs[i]] := by rw [List.drop_eq_getElem_cons hi2]; rfl
  rw [hc] at ez
  have hg : (xs.map (·.1))[i]? = (ns.map fun m => DataW.lit (.int k m))[i]? := by rw [hx1]
  rw [List.getElem?_map, List.getElem?_map, List.getElem?_eq_getElem hi1, List.getElem?_eq_getElem hi3] at hg
  simp only [Option.map_some, Option.some.injEq] at hg
  rw [rz] at hg
  cases hg
  rw [List.getElem?_map, List.getElem?_eq_getElem hi2, List.getElem?_eq_getElem hi3]
  simp only [Option.map_some, Option.some.injEq]
  simpa using ez
 ·rw [List.getElem?_eq_none (by omega), List.getElem?_eq_none (by simp; omega)]
theorem TE {W : World} {g : Nat} {k : IntKind} {ns : List Int} {nm : String} {cs : Array Value} (hg : Tryz.prog.globalNamed nm = some g) (hvar : W.var? Tryz.prog nm = some cs) (hc : cs.toList = ns.map (Value.int k)) {H : List AB} {id : Nat} : AW W (G0 W) H id (.gl g (ns.map fun n => .int k n)) := by
 have cell : ∀ j, W.cell? ⟨g, j, none⟩ = (ns.map (Value.int k))[j]? := fun j => by rw [World.var?_cell hg hvar j, ← hc]; simp
 refine .gl g _ (fun j => ((ns.map (Value.int k))[j]?).getD undef) (fun j hj => ?_) (fun j x hx => ?_)
 ·have hj : j < (ns.map (Value.int k)).length := by simpa using hj
  exact ⟨⟨_, by rw [cell, List.getElem?_eq_getElem hj]⟩, by rw [cell, List.getElem?_eq_getElem hj]; rfl⟩
 ·rw [List.getElem?_map] at hx ⊢
  cases hn : ns[j]? with
  | none => rw [hn] at hx; cases hx
  | some n => rw [hn] at hx; cases hx; exact .int _ _
def aDc : List Int := [0, 1, 56, 2, 57, 49, 28, 3, 61, 58, 42, 50, 38, 29, 17, 4, 62, 47, 59, 36, 45, 43, 51, 22, 53, 39, 33, 30, 24, 18, 12, 5, 63, 55, 48, 27, 60, 41, 37, 16, 46, 35, 44, 21, 52, 32, 23, 11, 54, 26, 40, 15, 34, 20, 31, 10, 25, 14, 19, 9, 13, 8, 7, 6]
theorem aEW : Oe = .gl 2 (aDc.map fun n => .int .u8 n) := rfl
theorem aDd : HG = .gl 1 (([1, 0, 0, 1] : List Int).map fun n => .int .i64 n) := rfl
theorem aHe {W : World} (h : laidMetH Tryz.prog [("math/bits.deBruijn64tab", Rows.laid_math_bits_deBruijn64tab), ("lampblack/unit.first", Rows.laid_lampblack_unit_first)] W) : Rel W (G0 W) GH2 := by
 have h : laidMet Tryz.prog [("math/bits.deBruijn64tab", Rows.laid_math_bits_deBruijn64tab), ("lampblack/unit.first", Rows.laid_lampblack_unit_first)] W := h
 obtain ⟨ps, ⟨g1, t1, cs1, fu1, p1, q1, hg1, ht1, hv1, hd1, ⟨g3, t3, cs3, fu3, p3, q3, hg3, ht3, hv3, hd3, _, _⟩, _⟩, _⟩ := h
 have eg1 : Tryz.prog.globalNamed "math/bits.deBruijn64tab" = some 2 := by kernel_rfl
 have eg3 : Tryz.prog.globalNamed "lampblack/unit.first" = some 1 := by kernel_rfl
 have et1 : (Tryz.prog.globals[2]?).map (·.type) = some 507 := by kernel_rfl
 have et3 : (Tryz.prog.globals[1]?).map (·.type) = some 435 := by kernel_rfl
 obtain rfl := Option.some.inj (eg1.symm.trans hg1)
 obtain rfl := Option.some.inj (eg3.symm.trans hg3)
 obtain rfl := Option.some.inj (et1.symm.trans ht1)
 obtain rfl := Option.some.inj (et3.symm.trans ht3)
 have c1 : cs1.toList = aDc.map (Value.int .u8) := Qe (n := 64) (e := 5) (by kernel_rfl) (by kernel_rfl) (by kernel_rfl) (by kernel_rfl) hd1
 have c3 : cs3.toList = ([1, 0, 0, 1] : List Int).map (Value.int .i64) := Qe (n := 4) (e := 2) (by kernel_rfl) (by kernel_rfl) (by kernel_rfl) (by kernel_rfl) hd3
 refine ⟨fun _ _ h => h, fun b id h => (by cases h), fun id x hx => ?_⟩
 match id, hx with
 | 0, hx => cases hx; rw [aDd]; exact TE eg3 hv3 c3
 | 1, hx => cases hx; rw [aEW]; exact TE eg1 hv1 c1
 | n + 2, hx => simp [GH2] at hx
noncomputable def aDe (os : Os) : Array Obj := (((World.holding Tryz.prog os ⟨#[], #[], []⟩).heap.modify 0 (fun
      | .cells _ t frozen => .cells #[.int .i64 0, .int .i64 0, .int .i64 0, .int .i64 (-2)] t frozen
      | o => o)).modify 1 (fun
      | .cells _ t frozen => .cells #[.int .i64 1, .int .i64 0, .int .i64 0, .int .i64 1] t frozen
      | o => o)).modify 2 (fun
      | .cells _ t frozen => .cells (aDc.map (Value.int .u8)).toArray t frozen
      | o => o)
noncomputable def IJ (os : Os) : World := { World.holding Tryz.prog os ⟨#[], #[], []⟩ with heap := aDe os }
end Go.Proofs.YtfgdbeijjbijnaaGreatDoor
set_option linter.unusedSimpArgs false
set_option linter.unusedVariables false
set_option maxRecDepth 100000
namespace Go.Proofs.YtfgdbeijjbijnaaGreatDoor
open Go Go.Abs Go.Proofs
set_option maxHeartbeats 4000000 in
theorem FC : joinedFacts Tryz.pinned.checked.prog 3 Tryz.f3 (OpenSpec.ofChange Rows.topSeenSignalsSpec).bare Rows.topSeenSignalsRow = true := by
 simp only [joinedFacts, Bool.and_eq_true]
 refine ⟨⟨⟨⟨⟨⟨⟨⟨⟨⟨⟨⟨⟨⟨⟨⟨⟨⟨⟨⟨⟨⟨⟨⟨⟨⟨⟨⟨⟨⟨⟨?_, ?_⟩, ?_⟩, ?_⟩, ?_⟩, ?_⟩, ?_⟩, ?_⟩, ?_⟩, ?_⟩, ?_⟩, ?_⟩, ?_⟩, ?_⟩, ?_⟩, ?_⟩, ?_⟩, ?_⟩, ?_⟩, ?_⟩, ?_⟩, ?_⟩, ?_⟩, ?_⟩, ?_⟩, ?_⟩, ?_⟩, ?_⟩, ?_⟩, ?_⟩, ?_⟩, ?_⟩
 all_goals as_aux_lemma => kernel_rfl
end Go.Proofs.YtfgdbeijjbijnaaGreatDoor
