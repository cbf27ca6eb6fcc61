/- Metamers: a truth by which two chips part. -/
import Derived.Test.YtjkpfojkkfopmaaM14
set_option linter.unusedSimpArgs false
set_option linter.unusedVariables false
set_option maxRecDepth 100000
namespace Go.Proofs.Ytjkpfojkkfopmaa
open Go Go.Abs Go.Proofs
def kp26 : List (Nat × List Nat) := [(0, [1, 2, 3, 6]), (1, [1, 2, 6, 8, 9]), (2, [1, 2, 6, 8, 9, 24]), (3, [6, 7]), (4, [6, 8, 10, 11]), (5, [6, 8, 10, 36]), (6, [6, 7]), (7, [6, 8, 10, 12]), (8, [6, 8, 10, 12, 45, 46, 47]), (9, [6, 8, 10, 12, 45, 46, 47, 48]), (10, [6, 8, 10, 12, 14, 45, 46, 47]), (11, [6, 8, 10, 12, 45, 46, 47]), (12, [6, 8, 10, 12, 45, 46, 47]), (13, [6, 8, 10, 12, 61]), (14, [6, 8, 10, 12]), (15, [6, 12]), (16, [6, 7])]
theorem lk26 : lookK kp26 0 = some [1, 2, 3, 6] ∧ lookK kp26 1 = some [1, 2, 6, 8, 9] ∧ lookK kp26 2 = some [1, 2, 6, 8, 9, 24] ∧ lookK kp26 3 = some [6, 7] ∧ lookK kp26 4 = some [6, 8, 10, 11] ∧ lookK kp26 5 = some [6, 8, 10, 36] ∧ lookK kp26 6 = some [6, 7] ∧ lookK kp26 7 = some [6, 8, 10, 12] ∧ lookK kp26 8 = some [6, 8, 10, 12, 45, 46, 47] ∧ lookK kp26 9 = some [6, 8, 10, 12, 45, 46, 47, 48] ∧ lookK kp26 10 = some [6, 8, 10, 12, 14, 45, 46, 47] ∧ lookK kp26 11 = some [6, 8, 10, 12, 45, 46, 47] ∧ lookK kp26 12 = some [6, 8, 10, 12, 45, 46, 47] ∧ lookK kp26 13 = some [6, 8, 10, 12, 61] ∧ lookK kp26 14 = some [6, 8, 10, 12] ∧ lookK kp26 15 = some [6, 12] ∧ lookK kp26 16 = some [6, 7] := ⟨rfl, rfl, rfl, rfl, rfl, rfl, rfl, rfl, rfl, rfl, rfl, rfl, rfl, rfl, rfl, rfl, rfl⟩

/-- What new blocks hold is of no matter for the pairs, if it names no hole. -/
def skE : Eff → Eff
  | .put id (.vec n sz _) => .put id (.vec n sz [])
  | e => e
def skN (a : Note) : Note := { a with e := skE a.e }
def vfree : Eff → Prop
  | .put _ (.vec _ _ cs) => ∀ id, C.freeL id cs = true
  | _ => True
theorem skE_free {e : Eff} (h : vfree e) (id : Nat) : (skE e).freeB id = e.freeB id := by
  unfold skE
  split
  · simp only [vfree] at h
    simp only [Eff.freeB, h id, C.freeL]
  · rfl
theorem skE_hole (e : Eff) : (skE e).hole = e.hole := by unfold skE; split <;> rfl
theorem skE_wide (e : Eff) : (skE e).wide = e.wide := by unfold skE; split <;> rfl
theorem skE_loc (e : Eff) : (skE e).loc = e.loc := by unfold skE; split <;> rfl
theorem all_congr' {α : Type} {l : List α} {p q : α → Bool} (h : ∀ a ∈ l, p a = q a) : l.all p = l.all q := by
  rw [Bool.eq_iff_iff, List.all_eq_true, List.all_eq_true]
  exact ⟨fun h2 a ha => by rw [← h a ha]; exact h2 a ha, fun h2 a ha => by rw [h a ha]; exact h2 a ha⟩
theorem pairsOk_sk {m3 : Bool} {ops : Array Oper} {acc : List Note} (hv : ∀ a ∈ acc, vfree a.e) (h : pairsOk m3 ops (acc.map skN) = true) : pairsOk m3 ops acc = true := by
  have e1 : pairs1 m3 ops (acc.map skN) = pairs1 m3 ops acc := by
    simp only [pairs1, List.all_map, Function.comp_def]; rfl
  have e2 : ∀ tab, pairs2 m3 tab ops (acc.map skN) = pairs2 m3 tab ops acc := fun tab => by
    simp only [pairs2, List.all_map, Function.comp_def]; rfl
  have e3 : ∀ tab, freeT tab (acc.map skN) = freeT tab acc := fun tab => by
    simp only [freeT, List.all_map, Function.comp_def]
    refine all_congr' fun b hb => ?_
    show (match (skE b.e).hole with | none => true | some id => acc.all fun a => a.at' == b.at' || (List.range (skE b.e).wide).all (fun k => a.x.free (id + k) && (skE a.e).freeB (id + k)) || (tab.getD a.at' 0).testBit b.at') = _
    rw [skE_hole, skE_wide]
    cases b.e.hole with
    | none => rfl
    | some id =>
      refine all_congr' fun a ha => ?_
      simp only [skE_free (hv a ha)]
  have e4 : (acc.map skN).all (fun a => a.e.loc) = acc.all (fun a => a.e.loc) := by
    simp only [List.all_map, Function.comp_def]
    exact all_congr' fun a _ => skE_loc a.e
  unfold pairsOk at h ⊢
  rw [e1, e2, e3, e4] at h
  exact h

/-- The truth that is returned. -/
def atI (pl : Int × Int) (c : Cs) (i b : Nat) : Int := if (i : Int) = pl.1 ∧ (b : Int) = pl.2 then (c.e i b).hi else (c.e i b).lo
def atL (pl : Int × Int) (c : Cs) (b : Nat) : Int := if (b : Int) = pl.2 then (c.l b).hi else (c.l b).lo
def partT (c : Cs) (pl : Int × Int) : Tr := ⟨(List.range 3).map (fun i => (List.range c.lamp.length).map (atI pl c i)), (List.range c.lamp.length).map (atL pl c)⟩
def partR (c : Cs) (a b : List Int) : Tr × Int := if okChips c a b = 0 then (if partB c (lessL a b) then (partT c (partP c (lessL a b)), 0) else (⟨[], []⟩, 5)) else (⟨[], []⟩, okChips c a b)
def pgV (c : Cs) (a b : List Int) : V := .tup [trV (partR c a b).1, I (partR c a b).2]
theorem pgV_of {c : Cs} {a b : List Int} {x : Tr} {e : Int} (h : partR c a b = (x, e)) : pgV c a b = .tup [trV x, I e] := by rw [pgV, h]

/-- All is frozen. -/
def vI (n : Nat) (l : List Int) : AB := .vec n 1 (intsC l)
def dI (l : List Int) : D := .sl (l.map iD)
theorem toDs_ints (l : List Int) : toDs (intsC l) = some (l.map (fun x => D.int .i64 x)) := by
  have e : intsC l = (l.map (fun x => D.int .i64 x)).map C.d := by simp [intsC, iC]
  rw [e, toDs_d]
theorem chunk_ints (l : List Int) : chunk 1 l.length (l.map (fun x => D.int .i64 x)) = l.map iD := by
  induction l with
  | nil => rfl
  | cons a l ih => simp only [List.length_cons, List.map_cons, chunk]; simp only [List.take_succ_cons, List.take_zero, List.drop_succ_cons, List.drop_zero]; rw [ih]; rfl
theorem chunk_ints' {n : Nat} {l : List Int} (h : l.length = n) : D.sl (chunk 1 n (l.map (fun x => D.int .i64 x))) = dI l := by rw [← h, chunk_ints]; rfl
theorem frz {X : Cx} {A B C' P : AB} {n : Nat} {l4 l7 l8 l9 : List Int} {sl : List (Nat × V)} {c0 c1 c2 c3 : List C} (hA : A = .cells c0) (hB : B = .cells c1) (hC : C' = .cells c2) (hP : P = .cells c3)
    (f0 : ∀ id m x, c0.map (fzN id m x) = c0) (f1 : ∀ id m x, c1.map (fzN id m x) = c1) (f2 : ∀ id m x, c2.map (fzN id m x) = c2) (f3 : ∀ id m x, c3.map (fzN id m x) = c3)
    (hsl : ∀ i id m x, fzNV id m x (getS sl i) = getS sl i) (hn : n ≤ 4096) (h4 : l4.length = n) (h7 : l7.length = n) (h8 : l8.length = n) (h9 : l9.length = n) :
    Ent X { slots := sl, heap := [A, B, C', P, vI n l4, .cells [.vs 6 3, .vs 4 n], .vec 3 1 [.vs 7 n, .vs 8 n, .vs 9 n], vI n l7, vI n l8, vI n l9], marks := [] }
      { slots := sl, heap := [A, B, C', P, .gone, .cells [.d (.sl [[dI l7], [dI l8], [dI l9]]), .d (dI l4)], .gone, .gone, .gone, .gone], marks := [] } := by
  subst hA; subst hB; subst hC; subst hP
  have fI : ∀ id m x (l : List Int), (intsC l).map (fzN id m x) = intsC l := fun id m x l => by
    simp only [intsC, List.map_map]; exact List.map_congr_left fun a _ => rfl
  have e4 := chunk_ints' h4
  have e7 := chunk_ints' h7
  have e8 := chunk_ints' h8
  have e9 := chunk_ints' h9
  have hl : n ≤ lim := by unfold lim; omega
  refine Ent.trans (ent_fzvec (s' := { slots := sl, heap := [.cells c0, .cells c1, .cells c2, .cells c3, vI n l4, .cells [.vs 6 3, .vs 4 n], .vec 3 1 [.d (dI l7), .vs 8 n, .vs 9 n], .gone, vI n l8, vI n l9], marks := [] }) 7 (n := n) (sz := 1) (cs := intsC l7) rfl (toDs_ints l7) (by decide) hl rfl ?_ (fun i => .inl (hsl i _ _ _).symm)) ?_
  · rw [e7]; simp [fzNB, fzN, f0, f1, f2, f3, vI, fI]
  refine Ent.trans (ent_fzvec (s' := { slots := sl, heap := [.cells c0, .cells c1, .cells c2, .cells c3, vI n l4, .cells [.vs 6 3, .vs 4 n], .vec 3 1 [.d (dI l7), .d (dI l8), .vs 9 n], .gone, .gone, vI n l9], marks := [] }) 8 (n := n) (sz := 1) (cs := intsC l8) rfl (toDs_ints l8) (by decide) hl rfl ?_ (fun i => .inl (hsl i _ _ _).symm)) ?_
  · rw [e8]; simp [fzNB, fzN, f0, f1, f2, f3, vI, fI]
  refine Ent.trans (ent_fzvec (s' := { slots := sl, heap := [.cells c0, .cells c1, .cells c2, .cells c3, vI n l4, .cells [.vs 6 3, .vs 4 n], .vec 3 1 [.d (dI l7), .d (dI l8), .d (dI l9)], .gone, .gone, .gone], marks := [] }) 9 (n := n) (sz := 1) (cs := intsC l9) rfl (toDs_ints l9) (by decide) hl rfl ?_ (fun i => .inl (hsl i _ _ _).symm)) ?_
  · rw [e9]; simp [fzNB, fzN, f0, f1, f2, f3, vI, fI]
  refine Ent.trans (ent_fzvec (s' := { slots := sl, heap := [.cells c0, .cells c1, .cells c2, .cells c3, vI n l4, .cells [.d (.sl [[dI l7], [dI l8], [dI l9]]), .vs 4 n], .gone, .gone, .gone, .gone], marks := [] }) 6 (n := 3) (sz := 1) (cs := [.d (dI l7), .d (dI l8), .d (dI l9)]) (ds := [dI l7, dI l8, dI l9]) rfl rfl (by decide) (by unfold lim; omega) rfl ?_ (fun i => .inl (hsl i _ _ _).symm)) ?_
  · simp [fzNB, fzN, f0, f1, f2, f3, vI, fI, chunk]
  refine ent_fzvec 4 (n := n) (sz := 1) (cs := intsC l4) rfl (toDs_ints l4) (by decide) hl rfl ?_ (fun i => .inl (hsl i _ _ _).symm)
  rw [e4]; simp [fzNB, fzN, f0, f1, f2, f3]

theorem three {α : Type} {l : List α} (h : l.length = 3) : ∃ a b c, l = [a, b, c] := by
  match l, h with
  | [a, b, c], _ => exact ⟨a, b, c, rfl⟩
def HQ (c : Cs) (i b : Int) : List AB := [.cells (csC c), .cells [.full [], .full []], .cells (csC c), .cells (plC i b)]
def slQ (i : Int) (r : List (List Rg)) : List (Nat × V) := [(6, .c (.ptr 1 0)), (8, .c (.ptr 2 0)), (10, .c (.ptr 3 0)), (12, .c (.ptr 5 0)), (45, rgss r), (46, I 3), (47, I i)]
theorem y0 : ((0 : Nat) : Int) = 0 := rfl
theorem y1 : ((1 : Nat) : Int) = 1 := rfl
theorem y2 : ((2 : Nat) : Int) = 2 := rfl
theorem y3 : ((3 : Nat) : Int) = 3 := rfl
def hE (n : Nat) (r0 r1 r2 : List Rg) : Nat → List AB
  | 0 => [.cells [.vs 6 0, .vs 4 n], .vec 0 1 []]
  | 1 => [.cells [.vs 6 1, .vs 4 n], .vec 1 1 [.vs 7 n], vI n (lowsL r0)]
  | 2 => [.cells [.vs 6 2, .vs 4 n], .vec 2 1 [.vs 7 n, .vs 8 n], vI n (lowsL r0), vI n (lowsL r1)]
  | _ => [.cells [.vs 6 3, .vs 4 n], .vec 3 1 [.vs 7 n, .vs 8 n, .vs 9 n], vI n (lowsL r0), vI n (lowsL r1), vI n (lowsL r2)]
def sE (c : Cs) (r0 r1 r2 : List Rg) (p1 p2 : Int) (i : Nat) : St := { slots := slQ i c.eye, heap := [.cells (csC c), .cells [.full [], .full []], .cells (csC c), .cells (plC p1 p2), vI c.lamp.length (lowsL c.lamp)] ++ hE c.lamp.length r0 r1 r2 i, marks := [] }
theorem vfree_vI (id n : Nat) (l : List Int) : vfree (.put id (.vec n 1 (intsC l))) := fun _ => intsC_free _ _
theorem lows_mk {c : Cs} (h8 : c.lamp.length ≤ 8) {r : List Rg} (hr : r.length = c.lamp.length) (H : List AB) : ACall tx.P 67 [rgs r] H (one (.c ((MkK.vs c.lamp.length).at H.length)) (H ++ [.vec c.lamp.length 1 (intsC (lowsL r))])) := by
  have := lows67 r (by omega) H
  rw [hr] at this
  exact this
theorem newB_vI (id N0 n : Nat) (l : List Int) : (AB.vec n 1 (intsC l)).newB id N0 = true := by simp only [AB.newB, intsC_free, intsC_low, Bool.and_self]
theorem fo_lt {c : Cs} {l : List Int} {t : Nat} (h : fo c l = some t) : t < 3 * l.length := (firstB_spec h).1
theorem partP_cases (c : Cs) (l : List Int) : partP c l = (-1, -1) ∨ ∃ i b : Nat, i < 3 ∧ b < l.length ∧ partP c l = ((i : Int), (b : Int)) := by
  unfold partP
  split
  · split
    · exact .inl rfl
    · rename_i t ht
      have := fo_lt ht
      exact .inr ⟨t % 3, t / 3, by omega, by omega, rfl⟩
  · exact .inl rfl
theorem fzS : ∀ {sl : List (Nat × V)}, (∀ p ∈ sl, ∀ id m x, fzNV id m x p.2 = p.2) → ∀ i id m x, fzNV id m x (getS sl i) = getS sl i
  | [], _, i, id, m, x => rfl
  | p :: sl, h, i, id, m, x => by
    obtain ⟨j, v⟩ := p
    simp only [getS]
    split
    · exact h (j, v) (by simp) id m x
    · exact fzS (fun p hp => h p (List.mem_cons_of_mem _ hp)) i id m x
theorem lampL_get {l : List Rg} {n : Nat} (h : l.length = n) (f : Nat → Int) (hf : ∀ b r, l[b]? = some r → f b = r.lo) : lowsL l = (List.range n).map f := by
  refine List.ext_getElem? fun j => ?_
  rw [lowsL, List.getElem?_map, List.getElem?_map]
  by_cases hj : j < n
  · obtain ⟨r, hr⟩ := get_of_lt (show j < l.length by omega)
    rw [hr, List.getElem?_range hj]
    simp [hf j r hr]
  · rw [List.getElem?_eq_none (by omega), List.getElem?_eq_none (by simpa using Nat.le_of_not_lt hj)]; rfl
theorem lampL_set {l : List Rg} {n k : Nat} {v : Int} (h : l.length = n) (f : Nat → Int) (hf : ∀ b r, l[b]? = some r → b ≠ k → f b = r.lo) (hk : f k = v) : (lowsL l).set k v = (List.range n).map f := by
  refine List.ext_getElem? fun j => ?_
  rw [List.getElem?_map]
  by_cases hj : j < n
  · obtain ⟨r, hr⟩ := get_of_lt (show j < l.length by omega)
    rw [List.getElem?_range hj]
    by_cases e : k = j
    · subst e
      rw [List.getElem?_set_self (by rw [lowsL, List.length_map]; omega)]
      simp [hk]
    · rw [List.getElem?_set_ne e, lowsL, List.getElem?_map, hr]
      simp [hf j r hr (Ne.symm e)]
  · rw [List.getElem?_eq_none (by rw [List.length_set, lowsL, List.length_map]; omega), List.getElem?_eq_none (by simpa using Nat.le_of_not_lt hj)]; rfl
theorem setMany_ints (l : List Int) (b : Nat) (x : Int) : setMany (intsC l) b [.d (.int .i64 x)] = intsC (l.set b x) := by
  simp only [setMany, intsC, List.map_set]; rfl
/-- The frozen heap. -/
def hF (c : Cs) (x : Tr) (pl : Int × Int) : List AB := [.cells (csC c), .cells [.full [], .full []], .cells (csC c), .cells (plC pl.1 pl.2), .gone, .cells (trC x), .gone, .gone, .gone, .gone]
def slR : List (Nat × V) := [(6, .c (.ptr 1 0)), (12, .c (.ptr 5 0))]
def slF (b : Bool) : List (Nat × V) := [(6, .c (.ptr 1 0)), (8, .c (.ptr 2 0)), (10, .c (.ptr 3 0)), (12, .c (.ptr 5 0)), (61, B b)]
theorem frzT {X : Cx} {c : Cs} {pl : Int × Int} {bo : Bool} {l4 l7 l8 l9 : List Int} {n : Nat} (hn : n ≤ 4096) (h4 : l4.length = n) (h7 : l7.length = n) (h8 : l8.length = n) (h9 : l9.length = n) {x : Tr} (hx : x = ⟨[l7, l8, l9], l4⟩) :
    Ent X { slots := slF bo, heap := [.cells (csC c), .cells [.full [], .full []], .cells (csC c), .cells (plC pl.1 pl.2), .vec n 1 (intsC l4), .cells [.vs 6 3, .vs 4 n], .vec 3 1 [.vs 7 n, .vs 8 n, .vs 9 n], .vec n 1 (intsC l7), .vec n 1 (intsC l8), .vec n 1 (intsC l9)], marks := [] }
      { slots := slF bo, heap := hF c x pl, marks := [] } := by
  subst hx
  exact frz rfl rfl rfl rfl (fun _ _ _ => rfl) (fun _ _ _ => rfl) (fun _ _ _ => rfl) (fun _ _ _ => rfl) (fzS (by simp [slF, fzNV, fzN, B])) hn h4 h7 h8 h9
theorem frzR {X : Cx} {c : Cs} {pl : Int × Int} {l4 l7 l8 l9 : List Int} {n : Nat} (hn : n ≤ 4096) (h4 : l4.length = n) (h7 : l7.length = n) (h8 : l8.length = n) (h9 : l9.length = n) {x : Tr} (hx : x = ⟨[l7, l8, l9], l4⟩) :
    Ent X { slots := slR, heap := [.cells (csC c), .cells [.full [], .full []], .cells (csC c), .cells (plC pl.1 pl.2), .vec n 1 (intsC l4), .cells [.vs 6 3, .vs 4 n], .vec 3 1 [.vs 7 n, .vs 8 n, .vs 9 n], .vec n 1 (intsC l7), .vec n 1 (intsC l8), .vec n 1 (intsC l9)], marks := [] }
      { slots := slR, heap := hF c x pl, marks := [] } := by
  subst hx
  exact frz rfl rfl rfl rfl (fun _ _ _ => rfl) (fun _ _ _ => rfl) (fun _ _ _ => rfl) (fun _ _ _ => rfl) (fzS (by simp [slR, fzNV, fzN, B])) hn h4 h7 h8 h9
theorem atI_lo {pl : Int × Int} {c : Cs} {i b : Nat} {row : List Rg} {r : Rg} (h : c.eye[i]? = some row) (hr : row[b]? = some r) (hne : ¬ ((i : Int) = pl.1 ∧ (b : Int) = pl.2)) : atI pl c i b = r.lo := by
  rw [atI, if_neg hne]
  have := Cs.e_at h (List.getElem?_eq_some_iff.1 hr).1
  rw [hr] at this; cases this; rfl
theorem atL_lo {pl : Int × Int} {c : Cs} {b : Nat} {r : Rg} (hr : c.lamp[b]? = some r) (hne : (b : Int) ≠ pl.2) : atL pl c b = r.lo := by
  rw [atL, if_neg hne]
  have := Cs.l_lt (List.getElem?_eq_some_iff.1 hr).1
  rw [hr] at this; cases this; rfl
theorem low_len (l : List Rg) : (lowsL l).length = l.length := by simp [lowsL]
set_option maxHeartbeats 8000000 in
theorem parting26 (c : Cs) (a b : List Int) : Pure Try.prog 26 [csV c, ints a, ints b] (pgV c a b) := by
  refine pure_wkE (bad := [4, 11, 30011, 10013, 10015]) (kp := kp26) (X := tx) (nt := 97) (rs := [.cell 6 29, .tmp 7]) Try.func26 rfl rfl rfl rfl mo (by kernel_rfl) rfl rfl (fun hf => ?_)
  simp (maxSteps := 2000000) only [go_sem, reduceIte, Nat.reduceEqDiff, Nat.reduceAdd, Nat.reduceLT, Nat.reduceLeDiff, Nat.reduceBEq, Nat.reduceMul, lk26, csV, csC, ints]
  refine aops_pure' (new51 c [a, b]) rfl rfl (by first | exact wk_refls _ | (repeat constructor)) ?_
  simp (maxSteps := 2000000) only [go_sem, reduceIte, Nat.reduceEqDiff, Nat.reduceAdd, lk26, csV, csC, newE2]
  by_cases h : okChips c a b = 0
  case neg =>
    have e := pgV_of (c := c) (a := a) (b := b) (x := ⟨[], []⟩) (e := okChips c a b) (by simp only [partR, if_neg h])
    simp (maxSteps := 2000000) only [go_sem, reduceIte, Nat.reduceEqDiff, Nat.reduceAdd, Nat.reduceBEq, lk26, h, e, trV, trC, List.map_nil]
  obtain ⟨hc, ha, hb⟩ := (okChips_iff c a b).1 h
  obtain ⟨hsa, hna⟩ := chip_spec hc ha
  obtain ⟨hsb, hnb⟩ := chip_spec hc hb
  obtain ⟨hs, hn⟩ := less_spec hc ha hb
  simp (maxSteps := 2000000) only [go_sem, reduceIte, Nat.reduceEqDiff, Nat.reduceAdd, Nat.reduceBEq, lk26, h, csC]
  refine de_pure (less64 a b (by omega) hsa hsb) rfl rfl (by first | exact wk_refls _ | (repeat constructor)) ?_
  simp (maxSteps := 2000000) only [go_sem, reduceIte, Nat.reduceEqDiff, Nat.reduceAdd, lk26, h, csC]
  refine de_pure (part66 c (lessL a b) hc hs hn) rfl rfl (by first | exact wk_refls _ | (repeat constructor)) ?_
  simp (maxSteps := 2000000) only [go_sem, reduceIte, Nat.reduceEqDiff, Nat.reduceAdd, lk26, h, partV, plC]
  refine ⟨pairsOk_ord (by kernel_rfl), ?_⟩
  cases hp : partB c (lessL a b) with
  | false =>
    have e := pgV_of (c := c) (a := a) (b := b) (x := ⟨[], []⟩) (e := 5) (by simp only [partR, if_pos h, hp, Bool.false_eq_true, if_false])
    simp (maxSteps := 2000000) only [go_sem, reduceIte, Nat.reduceEqDiff, Nat.reduceAdd, Nat.reduceBEq, lk26, e, trV, trC, List.map_nil]
  | true =>
  have e := pgV_of (c := c) (a := a) (b := b) (x := partT c (partP c (lessL a b))) (e := 0) (by simp only [partR, if_pos h, hp, if_true])
  rw [e]
  have h8 := hc.n8
  have hl := lows67 c.lamp (by omega) (HQ c (partP c (lessL a b)).1 (partP c (lessL a b)).2)
  simp (maxSteps := 2000000) only [go_sem, Nat.reduceAdd, lk26, HQ, csC, plC, List.cons_append, List.nil_append, List.length_cons, List.length_nil] at hl
  simp (maxSteps := 2000000) only [go_sem, reduceIte, Nat.reduceEqDiff, Nat.reduceAdd, Nat.reduceBEq, lk26]
  refine aops_at (hl) rfl rfl (by first | exact wk_refls _ | (repeat constructor)) ?_
  simp (maxSteps := 2000000) only [go_sem, reduceIte, Nat.reduceEqDiff, Nat.reduceAdd, Nat.reduceLeDiff, Nat.reduceBEq, lk26]
  obtain ⟨r0, r1, r2, he⟩ := three hc.e3
  have hr0 : r0.length = c.lamp.length := hc.er r0 (by rw [he]; simp)
  have hr1 : r1.length = c.lamp.length := hc.er r1 (by rw [he]; simp)
  have hr2 : r2.length = c.lamp.length := hc.er r2 (by rw [he]; simp)
  have he3' : (c.eye.length : Int) = 3 := by rw [he]; rfl
  generalize hpl : partP c (lessL a b) = pl
  refine goE_loop (bad := [4, 11, 30011, 10013, 10015]) (kp := kp26) (sE c r0 r1 r2 pl.1 pl.2) (fun i => i ≤ 3) (fun i => 3 - i) 0 mo (by kernel_rfl) ?_ (Nat.zero_le _) ?_
  · refine Ent.trans (ent_vec_cell 5 0 1 rfl rfl) ?_
    refine ent_weaken [] rfl rfl (Nat.zero_le _) (by simp [sE, hE, vI, AB.low, intsC_low, csC, plC, C.lowL, C.low]) rfl ?_
    simp (maxSteps := 2000000) only [go_sem, reduceIte, Nat.reduceEqDiff, Nat.reduceAdd, Nat.reduceLT, lk26, sE, slQ, rgss, he3', hE, csC, plC, vI, y0]
  rintro i hi
  have hc4 : i = 0 ∨ i = 1 ∨ i = 2 ∨ i = 3 := by omega
  rcases hc4 with rfl | rfl | rfl | rfl
  · have w1 : wr .i64 ((0 : Int) + 1) = 1 := by decide
    simp (maxSteps := 2000000) only [go_sem, reduceIte, Nat.reduceEqDiff, Nat.reduceAdd, Nat.reduceLT, Nat.reduceLeDiff, Nat.reduceBEq, Nat.reduceSub, Int.reduceLT, Int.reduceLE, Int.reduceToNat, lk26, sE, slQ, hE, vI, rgss, he, csC, plC, List.cons_append, List.nil_append, List.map_cons, List.map_nil, rowR, List.length_cons, List.length_nil, y0, y1, y2, y3]
    refine de_make (lows_mk h8 hr0) rfl rfl (by first | exact wk_refls _ | (repeat constructor)) (by rfl) (by rfl) (by rfl) ?_ (newB_vI _ _ _ _) ?_
    · exact Nat.le_refl _
    simp (maxSteps := 2000000) only [go_sem, reduceIte, Nat.reduceEqDiff, Nat.reduceAdd, Nat.reduceLT, Nat.reduceLeDiff, Nat.reduceBEq, Nat.reduceMul, Nat.reduceDiv, lk26, sE, slQ, hE, vI, rgss, he, csC, plC, List.cons_append, List.nil_append, List.map_cons, List.map_nil, rowR, List.length_cons, List.length_nil, y0, y1, y2, y3, w1]
    refine ⟨pairsOk_sk ?_ (pairsOk_ord (by kernel_rfl)), 1, by decide, by decide, ?_⟩
    · simp [vfree, intsC_free]
    refine ent_weaken [.gone] rfl rfl (Nat.zero_le _) (by simp [sE, hE, vI, AB.low, intsC_low, csC, plC, C.lowL, C.low]) rfl ?_
    simp (maxSteps := 2000000) only [go_sem, reduceIte, Nat.reduceEqDiff, Nat.reduceAdd, Nat.reduceLT, lk26, sE, slQ, hE, vI, rgss, he, csC, plC, List.cons_append, List.nil_append, List.map_cons, List.map_nil, rowR, List.length_cons, List.length_nil, y0, y1, y2, y3]
    all_goals first | exact .refl _ | exact ⟨.refl _, .refl _⟩ | exact ⟨.refl _, .refl _, .refl _⟩ | exact ⟨.refl _, _, rfl⟩ | exact ⟨_, rfl⟩ | exact ⟨.refl _, [], by simp⟩ | exact ⟨[], by simp⟩
  · have w1 : wr .i64 ((1 : Int) + 1) = 2 := by decide
    simp (maxSteps := 2000000) only [go_sem, reduceIte, Nat.reduceEqDiff, Nat.reduceAdd, Nat.reduceLT, Nat.reduceLeDiff, Nat.reduceBEq, Nat.reduceSub, Int.reduceLT, Int.reduceLE, Int.reduceToNat, lk26, sE, slQ, hE, vI, rgss, he, csC, plC, List.cons_append, List.nil_append, List.map_cons, List.map_nil, rowR, List.length_cons, List.length_nil, y0, y1, y2, y3]
    refine de_make (lows_mk h8 hr1) rfl rfl (by first | exact wk_refls _ | (repeat constructor)) (by rfl) (by rfl) (by rfl) ?_ (newB_vI _ _ _ _) ?_
    · exact Nat.le_refl _
    simp (maxSteps := 2000000) only [go_sem, reduceIte, Nat.reduceEqDiff, Nat.reduceAdd, Nat.reduceLT, Nat.reduceLeDiff, Nat.reduceBEq, Nat.reduceMul, Nat.reduceDiv, lk26, sE, slQ, hE, vI, rgss, he, csC, plC, List.cons_append, List.nil_append, List.map_cons, List.map_nil, rowR, List.length_cons, List.length_nil, y0, y1, y2, y3, w1]
    refine ⟨pairsOk_sk ?_ (pairsOk_ord (by kernel_rfl)), 2, by decide, by decide, ?_⟩
    · simp [vfree, intsC_free]
    refine ent_weaken [.gone] rfl rfl (Nat.zero_le _) (by simp [sE, hE, vI, AB.low, intsC_low, csC, plC, C.lowL, C.low]) rfl ?_
    simp (maxSteps := 2000000) only [go_sem, reduceIte, Nat.reduceEqDiff, Nat.reduceAdd, Nat.reduceLT, lk26, sE, slQ, hE, vI, rgss, he, csC, plC, List.cons_append, List.nil_append, List.map_cons, List.map_nil, rowR, List.length_cons, List.length_nil, y0, y1, y2, y3]
    all_goals first | exact .refl _ | exact ⟨.refl _, .refl _⟩ | exact ⟨.refl _, .refl _, .refl _⟩ | exact ⟨.refl _, _, rfl⟩ | exact ⟨_, rfl⟩ | exact ⟨.refl _, [], by simp⟩ | exact ⟨[], by simp⟩
  · have w1 : wr .i64 ((2 : Int) + 1) = 3 := by decide
    simp (maxSteps := 2000000) only [go_sem, reduceIte, Nat.reduceEqDiff, Nat.reduceAdd, Nat.reduceLT, Nat.reduceLeDiff, Nat.reduceBEq, Nat.reduceSub, Int.reduceLT, Int.reduceLE, Int.reduceToNat, lk26, sE, slQ, hE, vI, rgss, he, csC, plC, List.cons_append, List.nil_append, List.map_cons, List.map_nil, rowR, List.length_cons, List.length_nil, y0, y1, y2, y3]
    refine de_make (lows_mk h8 hr2) rfl rfl (by first | exact wk_refls _ | (repeat constructor)) (by rfl) (by rfl) (by rfl) ?_ (newB_vI _ _ _ _) ?_
    · exact Nat.le_refl _
    simp (maxSteps := 2000000) only [go_sem, reduceIte, Nat.reduceEqDiff, Nat.reduceAdd, Nat.reduceLT, Nat.reduceLeDiff, Nat.reduceBEq, Nat.reduceMul, Nat.reduceDiv, lk26, sE, slQ, hE, vI, rgss, he, csC, plC, List.cons_append, List.nil_append, List.map_cons, List.map_nil, rowR, List.length_cons, List.length_nil, y0, y1, y2, y3, w1]
    refine ⟨pairsOk_sk ?_ (pairsOk_ord (by kernel_rfl)), 3, by decide, by decide, ?_⟩
    · simp [vfree, intsC_free]
    refine ent_weaken [.gone] rfl rfl (Nat.zero_le _) (by simp [sE, hE, vI, AB.low, intsC_low, csC, plC, C.lowL, C.low]) rfl ?_
    simp (maxSteps := 2000000) only [go_sem, reduceIte, Nat.reduceEqDiff, Nat.reduceAdd, Nat.reduceLT, lk26, sE, slQ, hE, vI, rgss, he, csC, plC, List.cons_append, List.nil_append, List.map_cons, List.map_nil, rowR, List.length_cons, List.length_nil, y0, y1, y2, y3]
    all_goals first | exact .refl _ | exact ⟨.refl _, .refl _⟩ | exact ⟨.refl _, .refl _, .refl _⟩ | exact ⟨.refl _, _, rfl⟩ | exact ⟨_, rfl⟩ | exact ⟨.refl _, [], by simp⟩ | exact ⟨[], by simp⟩
  · simp (maxSteps := 2000000) only [go_sem, reduceIte, Nat.reduceEqDiff, Nat.reduceAdd, Nat.reduceBEq, Nat.reduceSub, Int.reduceLT, lk26, sE, slQ, hE, vI, rgss, he, csC, plC, List.cons_append, List.nil_append, List.map_cons, List.map_nil, rowR, List.length_cons, List.length_nil, y0, y1, y2, y3]
    rcases partP_cases c (lessL a b) with hq | ⟨i, k, hi3, hk, hq⟩
    · rw [hpl] at hq
      subst hq
      have e0 : partT c (-1, -1) = ⟨[lowsL r0, lowsL r1, lowsL r2], lowsL c.lamp⟩ := by
        have g0 : c.eye[0]? = some r0 := by rw [he]; rfl
        have g1 : c.eye[1]? = some r1 := by rw [he]; rfl
        have g2 : c.eye[2]? = some r2 := by rw [he]; rfl
        have k0 := lampL_get hr0 (atI (-1, -1) c 0) (fun b r hr => atI_lo g0 hr (by simp))
        have k1 := lampL_get hr1 (atI (-1, -1) c 1) (fun b r hr => atI_lo g1 hr (by simp))
        have k2 := lampL_get hr2 (atI (-1, -1) c 2) (fun b r hr => atI_lo g2 hr (by simp))
        have k3 := lampL_get rfl (atL (-1, -1) c) (fun b r hr => atL_lo hr (by simp))
        rw [partT, k0, k1, k2, k3]; rfl
      refine stop_mk { slots := slF false, heap := hF c (partT c (-1, -1)) (-1, -1), marks := [] } ?_ ?_
      · have hE := frzT (X := tx.cx none 0 97) (c := c) (pl := (-1, -1)) (bo := false) (by omega) (low_len c.lamp) ((low_len r0).trans hr0) ((low_len r1).trans hr1) ((low_len r2).trans hr2) e0
        simp (maxSteps := 2000000) only [go_sem, Int.reduceNeg, Int.reduceLE, lk26, slF, csC, plC, he, rowR, List.map_cons, List.map_nil] at hE ⊢
        exact hE
      · simp (maxSteps := 2000000) only [go_sem, reduceIte, Nat.reduceEqDiff, Nat.reduceAdd, Nat.reduceBEq, Int.reduceNeg, lk26, slF, hF, csC, plC, trC]
        exact .refl _
    · rw [hpl] at hq
      subst hq
      have hk' : k < c.lamp.length := by omega
      refine stop_mk _ .refl ?_
      have d0 : decide ((0 : Int) ≤ (k : Int)) = true := by simp
      have g3 := Cs.l_lt hk'
      have k3 := lampL_set rfl (atL ((i : Int), (k : Int)) c) (k := k) (v := (c.l k).hi) (fun b r hr hne => atL_lo hr (by simp; omega)) (by simp [atL])
      have hc3 : i = 0 ∨ i = 1 ∨ i = 2 := by omega
      have sb : decide (k + 1 ≤ c.lamp.length) = true := by simp; omega
      have hk2 : (k : Int) < c.lamp.length := by omega
      rcases hc3 with rfl | rfl | rfl
      · have g0 : c.eye[0]? = some r0 := by rw [he]; rfl
        have gr := Cs.e_at g0 (b := k) (by omega)
        have hk3 : (k : Int) < r0.length := by rw [hr0]; exact hk2
        have dd : (decide ((0 : Int) < 3)) = true := by decide
        have dz : (decide ((0 : Int) ≤ 0)) = true := by decide
        have sb2 : decide (k + 1 ≤ (lowsL r0).length) = true := by rw [low_len, hr0]; exact sb
        have sb3 : decide (k + 1 ≤ (lowsL c.lamp).length) = true := by rw [low_len]; exact sb
        simp (maxSteps := 2000000) only [go_sem, reduceIte, Nat.reduceEqDiff, Nat.reduceAdd, Nat.reduceLT, Nat.reduceLeDiff, Nat.reduceBEq, Int.reduceLT, Int.reduceLE, Int.reduceToNat, lk26, d0, g3, gr, hk2, hk3, nn, sb, hr0, rgD, intsC_len, setMany_ints, Nat.mul_one, sb2, sb3, y0, y1, y2, y3, List.tail_cons, vI]
        refine stop_mk { slots := slR, heap := hF c (partT c ((0 : Nat), (k : Int))) ((0 : Nat), (k : Int)), marks := [] } ?_ ?_
        · have gg0 : c.eye[0]? = some r0 := by rw [he]; rfl
          have gg1 : c.eye[1]? = some r1 := by rw [he]; rfl
          have gg2 : c.eye[2]? = some r2 := by rw [he]; rfl
          have k0 := lampL_set hr0 (atI ((0 : Nat), (k : Int)) c 0) (k := k) (v := (c.e 0 k).hi) (fun b r hr hne => atI_lo gg0 hr (by simp; omega)) (by simp [atI])
          have k1 := lampL_get hr1 (atI ((0 : Nat), (k : Int)) c 1) (fun b r hr => atI_lo gg1 hr (by simp))
          have k2 := lampL_get hr2 (atI ((0 : Nat), (k : Int)) c 2) (fun b r hr => atI_lo gg2 hr (by simp))
          have e0 : partT c ((0 : Nat), (k : Int)) = ⟨[((lowsL r0).set k (c.e 0 k).hi), (lowsL r1), (lowsL r2)], (lowsL c.lamp).set k (c.l k).hi⟩ := by
            rw [partT, k0, k1, k2, k3]; rfl
          have hE := frzR (X := tx.cx none 0 97) (c := c) (pl := ((0 : Nat), (k : Int))) (by omega) ((List.length_set ..).trans (low_len c.lamp)) ((List.length_set ..).trans ((low_len r0).trans hr0)) ((low_len r1).trans hr1) ((low_len r2).trans hr2) e0
          simp (maxSteps := 2000000) only [go_sem, lk26, slR, csC, plC, he, rowR, List.map_cons, List.map_nil] at hE ⊢
          exact hE
        · simp (maxSteps := 2000000) only [go_sem, reduceIte, Nat.reduceEqDiff, Nat.reduceAdd, Nat.reduceBEq, lk26, slR, hF, csC, plC, trC]
          exact .refl _
      · have g0 : c.eye[1]? = some r1 := by rw [he]; rfl
        have gr := Cs.e_at g0 (b := k) (by omega)
        have hk3 : (k : Int) < r1.length := by rw [hr1]; exact hk2
        have dd : (decide ((1 : Int) < 3)) = true := by decide
        have dz : (decide ((0 : Int) ≤ 1)) = true := by decide
        have sb2 : decide (k + 1 ≤ (lowsL r1).length) = true := by rw [low_len, hr1]; exact sb
        have sb3 : decide (k + 1 ≤ (lowsL c.lamp).length) = true := by rw [low_len]; exact sb
        simp (maxSteps := 2000000) only [go_sem, reduceIte, Nat.reduceEqDiff, Nat.reduceAdd, Nat.reduceLT, Nat.reduceLeDiff, Nat.reduceBEq, Int.reduceLT, Int.reduceLE, Int.reduceToNat, lk26, d0, g3, gr, hk2, hk3, nn, sb, hr1, rgD, intsC_len, setMany_ints, Nat.mul_one, sb2, sb3, y0, y1, y2, y3, List.tail_cons, vI]
        refine stop_mk { slots := slR, heap := hF c (partT c ((1 : Nat), (k : Int))) ((1 : Nat), (k : Int)), marks := [] } ?_ ?_
        · have gg0 : c.eye[0]? = some r0 := by rw [he]; rfl
          have gg1 : c.eye[1]? = some r1 := by rw [he]; rfl
          have gg2 : c.eye[2]? = some r2 := by rw [he]; rfl
          have k0 := lampL_get hr0 (atI ((1 : Nat), (k : Int)) c 0) (fun b r hr => atI_lo gg0 hr (by simp))
          have k1 := lampL_set hr1 (atI ((1 : Nat), (k : Int)) c 1) (k := k) (v := (c.e 1 k).hi) (fun b r hr hne => atI_lo gg1 hr (by simp; omega)) (by simp [atI])
          have k2 := lampL_get hr2 (atI ((1 : Nat), (k : Int)) c 2) (fun b r hr => atI_lo gg2 hr (by simp))
          have e0 : partT c ((1 : Nat), (k : Int)) = ⟨[(lowsL r0), ((lowsL r1).set k (c.e 1 k).hi), (lowsL r2)], (lowsL c.lamp).set k (c.l k).hi⟩ := by
            rw [partT, k0, k1, k2, k3]; rfl
          have hE := frzR (X := tx.cx none 0 97) (c := c) (pl := ((1 : Nat), (k : Int))) (by omega) ((List.length_set ..).trans (low_len c.lamp)) ((low_len r0).trans hr0) ((List.length_set ..).trans ((low_len r1).trans hr1)) ((low_len r2).trans hr2) e0
          simp (maxSteps := 2000000) only [go_sem, lk26, slR, csC, plC, he, rowR, List.map_cons, List.map_nil] at hE ⊢
          exact hE
        · simp (maxSteps := 2000000) only [go_sem, reduceIte, Nat.reduceEqDiff, Nat.reduceAdd, Nat.reduceBEq, lk26, slR, hF, csC, plC, trC]
          exact .refl _
      · have g0 : c.eye[2]? = some r2 := by rw [he]; rfl
        have gr := Cs.e_at g0 (b := k) (by omega)
        have hk3 : (k : Int) < r2.length := by rw [hr2]; exact hk2
        have dd : (decide ((2 : Int) < 3)) = true := by decide
        have dz : (decide ((0 : Int) ≤ 2)) = true := by decide
        have sb2 : decide (k + 1 ≤ (lowsL r2).length) = true := by rw [low_len, hr2]; exact sb
        have sb3 : decide (k + 1 ≤ (lowsL c.lamp).length) = true := by rw [low_len]; exact sb
        simp (maxSteps := 2000000) only [go_sem, reduceIte, Nat.reduceEqDiff, Nat.reduceAdd, Nat.reduceLT, Nat.reduceLeDiff, Nat.reduceBEq, Int.reduceLT, Int.reduceLE, Int.reduceToNat, lk26, d0, g3, gr, hk2, hk3, nn, sb, hr2, rgD, intsC_len, setMany_ints, Nat.mul_one, sb2, sb3, y0, y1, y2, y3, List.tail_cons, vI]
        refine stop_mk { slots := slR, heap := hF c (partT c ((2 : Nat), (k : Int))) ((2 : Nat), (k : Int)), marks := [] } ?_ ?_
        · have gg0 : c.eye[0]? = some r0 := by rw [he]; rfl
          have gg1 : c.eye[1]? = some r1 := by rw [he]; rfl
          have gg2 : c.eye[2]? = some r2 := by rw [he]; rfl
          have k0 := lampL_get hr0 (atI ((2 : Nat), (k : Int)) c 0) (fun b r hr => atI_lo gg0 hr (by simp))
          have k1 := lampL_get hr1 (atI ((2 : Nat), (k : Int)) c 1) (fun b r hr => atI_lo gg1 hr (by simp))
          have k2 := lampL_set hr2 (atI ((2 : Nat), (k : Int)) c 2) (k := k) (v := (c.e 2 k).hi) (fun b r hr hne => atI_lo gg2 hr (by simp; omega)) (by simp [atI])
          have e0 : partT c ((2 : Nat), (k : Int)) = ⟨[(lowsL r0), (lowsL r1), ((lowsL r2).set k (c.e 2 k).hi)], (lowsL c.lamp).set k (c.l k).hi⟩ := by
            rw [partT, k0, k1, k2, k3]; rfl
          have hE := frzR (X := tx.cx none 0 97) (c := c) (pl := ((2 : Nat), (k : Int))) (by omega) ((List.length_set ..).trans (low_len c.lamp)) ((low_len r0).trans hr0) ((low_len r1).trans hr1) ((List.length_set ..).trans ((low_len r2).trans hr2)) e0
          simp (maxSteps := 2000000) only [go_sem, lk26, slR, csC, plC, he, rowR, List.map_cons, List.map_nil] at hE ⊢
          exact hE
        · simp (maxSteps := 2000000) only [go_sem, reduceIte, Nat.reduceEqDiff, Nat.reduceAdd, Nat.reduceBEq, lk26, slR, hF, csC, plC, trC]
          exact .refl _
end Go.Proofs.Ytjkpfojkkfopmaa
