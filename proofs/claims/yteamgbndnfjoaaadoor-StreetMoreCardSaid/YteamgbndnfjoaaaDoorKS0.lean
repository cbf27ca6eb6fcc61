/- Arguments of the laws of chapter 7, as the logic has them; the variable that the rows list. -/
import Derived.Test.YteamgbndnfjoaaaDoorCards
import Derived.Test.YteamgbndnfjoaaaDoorTie
import Derived.Test.YteamgbndnfjoaaaDoorMN
import Derived.Test.YteamgbndnfjoaaaDoorAbsK
import Derived.SizedLaws
set_option linter.unusedSimpArgs false
set_option linter.unusedVariables false
set_option maxRecDepth 100000
namespace Go.Proofs.YteamgbndnfjoaaaDoor
open Go Go.Abs Go.Proofs
theorem Tryd.own : ownKnob Tryd.prog.godebug = none := by kernel_rfl
theorem Tryd.laidOut : laidOutB Tryd.prog = true := by kernel_rfl
theorem Tryd.rowed : mapsRowed Tryd.prog = true := by kernel_rfl
theorem Tryd.full : ∀ t e, t < Tryd.prog.types.size → Tryd.prog.underlying t = some (.slice e) → 0 < Tryd.prog.cellsOf e := slices_full_of _ (by kernel_rfl)
theorem has_int {n : Nat} {ds : List D} (h : HasT Tryd.prog n 3 ds) : ∃ m, ds = [.int .i64 m] := by
  cases n with
  | zero => exact h.elim
  | succ n => simp only [HasT, Tryd.underlying3] at h; obtain ⟨m, h, _⟩ := h; exact ⟨m, h⟩
theorem has_int2 {n : Nat} {ds : List D} (h : HasT Tryd.prog n 2 ds) : ∃ m, ds = [.int .i64 m] := by
  cases n with
  | zero => exact h.elim
  | succ n => simp only [HasT, Tryd.underlying2] at h; obtain ⟨m, h, _⟩ := h; exact ⟨m, h⟩
theorem has_u8 {n : Nat} {ds : List D} (h : HasT Tryd.prog n 5 ds) : ∃ m : Int, ds = [.int .u8 m] ∧ 0 ≤ m ∧ m ≤ 255 := by
  cases n with
  | zero => exact h.elim
  | succ n =>
    simp only [HasT, Tryd.underlying5] at h
    obtain ⟨m, h, hw⟩ := h
    refine ⟨m, h, ?_⟩
    simp [Lit.wf, IntKind.min, IntKind.max, IntKind.signed, IntKind.bits] at hw
    omega
theorem has_u32 {n : Nat} {ds : List D} (h : HasT Tryd.prog n 50 ds) : ∃ m : Int, ds = [.int .u32 m] ∧ 0 ≤ m ∧ m < 4294967296 := by
  cases n with
  | zero => exact h.elim
  | succ n =>
    simp only [HasT, Tryd.underlying50] at h
    obtain ⟨m, h, hw⟩ := h
    refine ⟨m, h, ?_⟩
    simp [Lit.wf, IntKind.min, IntKind.max, IntKind.signed, IntKind.bits] at hw
    omega
theorem rows_ints {P : List D → Prop} (hP : ∀ r, P r → ∃ m, r = [D.int .i64 m]) : ∀ rows : List (List D), (∀ r ∈ rows, P r) → ∃ l : List Int, rows = l.map iD
  | [], _ => ⟨[], rfl⟩
  | r :: rows, h => by
    obtain ⟨m, hm⟩ := hP r (h r (by simp))
    obtain ⟨l, hl⟩ := rows_ints hP rows (fun r hr => h r (List.mem_cons_of_mem _ hr))
    exact ⟨m :: l, by rw [hm, hl]; rfl⟩
theorem arg_ints {n : Nat} {ds : List D} (h : HasT Tryd.prog n 25 ds) : ∃ l, argV Tryd.prog 25 ds = ints l := by
  cases n with
  | zero => exact h.elim
  | succ n =>
    simp only [HasT, Tryd.underlying25] at h
    obtain ⟨rows, rfl, hw, hr⟩ := h
    obtain ⟨l, rfl⟩ := rows_ints (fun r h => has_int h) rows hr
    exact ⟨l, by simp [argV, Tryd.underlying25, ints]⟩
theorem arg_ints64 {n : Nat} {ds : List D} (h : HasT Tryd.prog n 45 ds) : ∃ l, argV Tryd.prog 45 ds = ints l := by
  cases n with
  | zero => exact h.elim
  | succ n =>
    simp only [HasT, Tryd.underlying45] at h
    obtain ⟨rows, rfl, hw, hr⟩ := h
    obtain ⟨l, rfl⟩ := rows_ints (fun r h => has_int2 h) rows hr
    exact ⟨l, by simp [argV, Tryd.underlying45, ints]⟩
theorem has_post {n : Nat} {ds : List D} (h : HasT Tryd.prog n 58 ds) : ∃ p : Po, ds = pD p := by
  cases n with
  | zero => exact h.elim
  | succ n =>
    simp only [HasT, Tryd.underlying58] at h
    obtain ⟨a, b, rfl, h1, c, d, rfl, h2, e, f, rfl, h3, h4⟩ := h
    have h4 : f = [] := h4
    subst h4
    obtain ⟨m1, rfl⟩ := has_int h1
    obtain ⟨m2, rfl⟩ := has_int h2
    obtain ⟨m3, rfl⟩ := has_int2 h3
    exact ⟨⟨m1, m2, m3⟩, rfl⟩
theorem arg_post {n : Nat} {ds : List D} (h : HasT Tryd.prog n 58 ds) : ∃ p, argV Tryd.prog 58 ds = postV p := by
  obtain ⟨p, rfl⟩ := has_post h
  exact ⟨p, by simp [argV, Tryd.underlying58, postV, pD, pC]⟩
theorem has_posts {n : Nat} {ds : List D} (h : HasT Tryd.prog n 22 ds) : ∃ l : List Po, ds = [.sl (l.map pD)] := by
  cases n with
  | zero => exact h.elim
  | succ n =>
    simp only [HasT, Tryd.underlying22] at h
    obtain ⟨rows, rfl, hw, hr⟩ := h
    have : ∃ l : List Po, rows = l.map pD := by
      clear hw
      induction rows with
      | nil => exact ⟨[], rfl⟩
      | cons r rows ih =>
        obtain ⟨p, hp⟩ := has_post (hr r (by simp))
        obtain ⟨l, hl⟩ := ih (fun r hr' => hr r (List.mem_cons_of_mem _ hr'))
        exact ⟨p :: l, by rw [hp, hl]; rfl⟩
    obtain ⟨l, rfl⟩ := this
    exact ⟨l, rfl⟩
theorem arg_road {n : Nat} {ds : List D} (h : HasT Tryd.prog n 24 ds) : ∃ r, argV Tryd.prog 24 ds = roadV r := by
  cases n with
  | zero => exact h.elim
  | succ n =>
    simp only [HasT, Tryd.underlying24] at h
    obtain ⟨a, b, rfl, h1, c, d, rfl, h2, e, f, rfl, h3, g, i, rfl, h4, h5⟩ := h
    have h5 : i = [] := h5
    subst h5
    obtain ⟨m1, rfl⟩ := has_int h1
    obtain ⟨m2, rfl⟩ := has_int h2
    obtain ⟨m3, rfl⟩ := has_int h3
    obtain ⟨l, rfl⟩ := has_posts h4
    exact ⟨⟨m1, m2, m3, l⟩, by simp [argV, Tryd.underlying24, roadV, roadC]⟩
theorem arg_int {n : Nat} {ds : List D} (h : HasT Tryd.prog n 3 ds) : ∃ m, argV Tryd.prog 3 ds = I m := by
  obtain ⟨m, rfl⟩ := has_int h; exact ⟨m, by simp [argV, Tryd.underlying3, I]⟩
theorem arg_u8 {n : Nat} {ds : List D} (h : HasT Tryd.prog n 5 ds) : ∃ m : Int, argV Tryd.prog 5 ds = .c (.d (.int .u8 m)) ∧ 0 ≤ m ∧ m ≤ 255 := by
  obtain ⟨m, rfl, hb⟩ := has_u8 h; exact ⟨m, by simp [argV, Tryd.underlying5], hb⟩
theorem arg_u32 {n : Nat} {ds : List D} (h : HasT Tryd.prog n 50 ds) : ∃ m : Int, argV Tryd.prog 50 ds = .c (.d (.int .u32 m)) ∧ 0 ≤ m ∧ m < 4294967296 := by
  obtain ⟨m, rfl, hb⟩ := has_u32 h; exact ⟨m, by simp [argV, Tryd.underlying50], hb⟩
theorem arg_two {n : Nat} {ds : List D} (h : HasT Tryd.prog n 55 ds) : ∃ a b : Int, argV Tryd.prog 55 ds = .agg [.d (.int .u8 a), .d (.int .u8 b)] ∧ (0 ≤ a ∧ a ≤ 255) ∧ (0 ≤ b ∧ b ≤ 255) := by
  cases n with
  | zero => exact h.elim
  | succ n =>
    simp only [HasT, Tryd.underlying55] at h
    obtain ⟨a, b, rfl, h1, c, d, rfl, h2, h3⟩ := h
    have h3 : d = [] := h3
    subst h3
    obtain ⟨m1, rfl, b1⟩ := has_u8 h1
    obtain ⟨m2, rfl, b2⟩ := has_u8 h2
    exact ⟨m1, m2, by simp [argV, Tryd.underlying55], b1, b2⟩

/-- What the rows' list gives. -/
theorem gl_rel {W : World} (h : laidMetH Tryd.prog [("lampblack/street.none", Rows.laid_lampblack_street_none)] W) : Rel W (G0 W) GH := by
  have h : laidMet Tryd.prog [("lampblack/street.none", Rows.laid_lampblack_street_none)] W := h
  obtain ⟨ps, ⟨g', t', cs, fuel, p, q, hg', ht', hvar, hd, _, _⟩, _⟩ := h
  have hg : Tryd.prog.globalNamed "lampblack/street.none" = some 0 := by kernel_rfl
  have hty : (Tryd.prog.globals[0]?).map (·.type) = some 98 := by kernel_rfl
  obtain rfl := Option.some.inj (hg.symm.trans hg')
  obtain rfl := Option.some.inj (hty.symm.trans ht')
  obtain ⟨xs, n, hn, hx, hl, hlen, hf⟩ := DataW.trod_struct Tryd.underlying98 hd
  have hcells : cs.toList.length = 4 := by rw [hl]; kernel_rfl
  have hc3 : Tryd.prog.cellsOf 3 = 1 := by kernel_rfl
  have hc2 : Tryd.prog.cellsOf 2 = 1 := by kernel_rfl
  obtain ⟨c0, c1, c2, c3, hcs⟩ : ∃ a b c d, cs.toList = [a, b, c, d] := by
    match h : cs.toList, hcells with
    | [a, b, c, d], _ => exact ⟨a, b, c, d, rfl⟩
  obtain ⟨x0, x1, x2, x3, hxs⟩ : ∃ a b c d, xs = [a, b, c, d] := by
    match xs, hlen with
    | [a, b, c, d], _ => exact ⟨a, b, c, d, rfl⟩
  subst hxs
  have hx1 : ([x0, x1, x2, x3].map (·.1)) = [.lit (.int .i64 0), .lit (.int .i64 0), .lit (.int .i64 0), .lit (.int .i64 (-2))] := by
    have := congrArg Prod.fst hx
    simp only [Rows.laid_lampblack_street_none, DataW.agg.injEq] at this
    exact this.symm
  simp only [List.map_cons, List.map_nil, List.cons.injEq, and_true] at hx1
  obtain ⟨y0, y1, y2, y3⟩ := hx1
  have f0 := hf 0 _ rfl
  have f1 := hf 1 _ rfl
  have f2 := hf 2 _ rfl
  have f3 := hf 3 _ rfl
  simp only [hcs, hc3, hc2, List.getElem?_cons_zero, List.getElem?_cons_succ, List.drop_zero, List.drop_succ_cons, List.take_succ_cons, List.take_zero] at f0 f1 f2 f3
  obtain ⟨z0, e0, r0, _⟩ := DataW.trod_int Tryd.underlying3 f0
  obtain ⟨z1, e1, r1, _⟩ := DataW.trod_int Tryd.underlying3 f1
  obtain ⟨z2, e2, r2, _⟩ := DataW.trod_int Tryd.underlying2 f2
  obtain ⟨z3, e3, r3, _⟩ := DataW.trod_int Tryd.underlying3 f3
  rw [r0] at y0; rw [r1] at y1; rw [r2] at y2; rw [r3] at y3
  cases y0; cases y1; cases y2; cases y3
  cases e0; cases e1; cases e2; cases e3
  have cell : ∀ j, W.cell? ⟨0, j, none⟩ = cs[j]? := fun j => World.var?_cell hg hvar j
  have cellL : ∀ j, W.cell? ⟨0, j, none⟩ = ([Value.int .i64 0, .int .i64 0, .int .i64 0, .int .i64 (-2)] : List Value)[j]? := fun j => by rw [cell, ← hcs]; simp
  refine ⟨fun _ _ h => h, fun b id h => (by cases h), fun id x hx => ?_⟩
  have hid : id = 0 := by have := (List.getElem?_eq_some_iff.1 hx).1; simp [GH] at this; exact this
  subst hid
  have hx : AB.gl 0 noneD = x := by simpa [GH] using hx
  subst hx
  refine .gl 0 noneD (fun j => (([Value.int .i64 0, .int .i64 0, .int .i64 0, .int .i64 (-2)] : List Value)[j]?).getD undef) (fun j hj => ?_) (fun j x hx => ?_)
  · have hj : j < 4 := hj
    have : ∃ v, ([Value.int .i64 0, .int .i64 0, .int .i64 0, .int .i64 (-2)] : List Value)[j]? = some v := ⟨_, List.getElem?_eq_getElem (by simpa using hj)⟩
    obtain ⟨v, hv⟩ := this
    refine ⟨⟨v, by rw [cellL, hv]⟩, by rw [cellL, hv]; rfl⟩
  · match j, hx with
    | 0, hx => cases hx; exact .int _ _
    | 1, hx => cases hx; exact .int _ _
    | 2, hx => cases hx; exact .int _ _
    | 3, hx => cases hx; exact .int _ _
noncomputable def laidWorld (os : Os) : World :=
  { World.holding Tryd.prog os ⟨#[], #[], []⟩ with heap := (World.holding Tryd.prog os ⟨#[], #[], []⟩).heap.modify 0 fun
      | .cells _ t frozen => .cells #[.int .i64 0, .int .i64 0, .int .i64 0, .int .i64 (-2)] t frozen
      | o => o }
end Go.Proofs.YteamgbndnfjoaaaDoor
